/- Written by this session's own program: what the law's functions come to, and that the machine's calls do just that. -/
import Derived.Test.YtolakamimfhcjaaGreatDoorQFnExactOpenJournalx0
import Derived.Test.YtolakamimfhcjaaGreatDoorTMSix
namespace Go.Proofs.YtolakamimfhcjaaGreatDoor.QFnExactOpenJournal
open Go.RowKit Go.Proofs.YtolakamimfhcjaaGreatDoorW.PrintWords Go.Proofs.YtolakamimfhcjaaGreatDoorW.PrintLast Go.Proofs.YtolakamimfhcjaaGreatDoorW.PrintMore
attribute [local go_sem] Go.Proofs.YtolakamimfhcjaaGreatDoor.Sem.string_geq Go.Proofs.YtolakamimfhcjaaGreatDoor.Sem.string_leq Go.Proofs.YtolakamimfhcjaaGreatDoor.Sem.string_gtr
attribute [local go_sem] max2_int min2_int max_two min_two max_three min_three max_four min_four
set_option linter.unusedVariables false
set_option linter.unusedSimpArgs false
set_option maxHeartbeats 8000000
set_option maxRecDepth 100000
def laws_szFile.f (a0:ByteArray) (b0:ByteArray) (d0:Int) (a1:Int):Option (Int):=if(wrap64 (a1 - (a0.size:Int)))<0 then(some (-1)) else(if(wrap64 ((wrap64 (a1 - (a0.size:Int))) - (b0.size:Int)))<0 then(some (-1)) else(some (wrap64 ((wrap64 (a1 - (a0.size:Int))) - (b0.size:Int)))))
theorem laws_szFile.calls (b0:ByteArray) (d0:ByteArray) (e0:Int) (a1:Int) (r:Int) (w:World) (h:laws_szFile.f b0 d0 e0 a1=some r):
  Calls Tryz.prog 39 #[.agg #[.string b0,.string d0,.int .i64 e0],.int .i64 a1] w fun e w'=>e= .returned (.int .i64 r)∧Below w.heap.size w w':=by
 have K0:=Tryz.underlying70
 have HB:=mk_ (Below.refl w.heap.size w)
 have H:=h
 unfold laws_szFile.f at H
 clear h
 by_cases c3:(wrap64 (a1 - (b0.size:Int)))<0
 ·rw [if_pos c3] at H
  have s0:=decide_eq_true c3
  clear c3
  obtain rfl:=Option.some.inj H
  go_enter Tryz.func39,Tryz.ntmps39
  go_wp2_with (first|((with_reducible refine gn_ 2 rfl ?_);refine bv_ (cs:=#[.string b0,.string d0,.int .i64 e0]) (t:=70) HB ?_;clear HB;intro g0 w4 a0 h0 HB;obtain⟨t0,v0,x0,y0,A0,B0⟩:=b3_ a0))
  go_ret
  exact⟨er_,bw_ HB⟩
 rw [if_neg c3] at H
 have s0:=decide_eq_false c3
 clear c3
 refine ic_ H ?_ ?_ <;> clear H <;> intro L0 H
 ·obtain rfl:=Option.some.inj H
  go_enter Tryz.func39,Tryz.ntmps39
  go_wp2_with (first|((with_reducible refine gn_ 2 rfl ?_);refine bv_ (cs:=#[.string b0,.string d0,.int .i64 e0]) (t:=70) HB ?_;clear HB;intro g0 w9 a0 h0 HB;obtain⟨m0,n0,o0,p0,q0,r0⟩:=b3_ a0))
  go_ret
  exact⟨er_,bw_ HB⟩
 obtain rfl:=Option.some.inj H
 go_enter Tryz.func39,Tryz.ntmps39
 go_wp2_with (first|((with_reducible refine gn_ 2 rfl ?_);refine bv_ (cs:=#[.string b0,.string d0,.int .i64 e0]) (t:=70) HB ?_;clear HB;intro g0 w7 a0 h0 HB;obtain⟨C0,F0,G0,H0,I0,J0⟩:=b3_ a0))
 go_ret
 exact⟨er_,bw_ HB⟩
def laws_szFileS.l0:Nat→List (S70)→Int→Int→Option (Int)
 |0,_,_,_=>none
 |k+1,x0,x1,x5=>if x5<(x0.length:Int) then(if 0≤x5 then((laws_szFile.f ((rd_T70 x0 x5).f0) ((rd_T70 x0 x5).f1) ((rd_T70 x0 x5).f2) x1).bind fun a0=>(if a0<0 then(some (-1)) else(laws_szFileS.l0 k x0 a0 (wrap64 (x5+1))))) else(none)) else(some x1)
def laws_szFileS.f (k:Nat) (l0:List (S70)) (a1:Int):Option (Int):=if(wrap64 (a1 - (l0.length:Int)))<0 then(some (-1)) else(laws_szFileS.l0 k l0 (wrap64 (a1 - (l0.length:Int))) 0)
theorem laws_szFileS.calls (k:Nat) (A0:Option Addr) (c0:Nat) (l0:List (S70)) (a1:Int) (r:Int) (w:World) (s0:Kd.C k70 w A0 l0.length l0) (t0:l0.length≤c0) (h:laws_szFileS.f k l0 a1=some r):
  Calls Tryz.prog 16 #[.slice A0 l0.length c0,.int .i64 a1] w fun e w'=>e= .returned (.int .i64 r)∧Below w.heap.size w w':=by
 have y0:=Tryz.underlying70
 have v0:=Aside0.mk s0
 have F0:=Aside0.mk t0
 clear s0 t0
 have HB:=mk_ (Below.refl w.heap.size w)
 have H:=h
 unfold laws_szFileS.f at H
 clear h
 by_cases c3:(wrap64 (a1 - (l0.length:Int)))<0
 ·rw [if_pos c3] at H
  have q0:=decide_eq_true c3
  clear c3
  obtain rfl:=Option.some.inj H
  go_enter Tryz.func16,Tryz.ntmps16
  go_wp2
  go_ret
  exact⟨er_,bw_ HB⟩
 rw [if_neg c3] at H
 have q0:=decide_eq_false c3
 clear c3
 have H':=Aside0.mk H
 clear H
 go_enter Tryz.func16,Tryz.ntmps16
 go_wp2
 go_loopg [1,5] k (fun kq v1 v5 w'=>∃(m0:Int) (a0:Int),v1= .int .i64 m0∧v5= .int .i64 a0∧Aside0 (laws_szFileS.l0 kq l0 m0 a0=some r)∧Aside0 (kq≤k)∧Aside0 (Below w.heap.size w w'))
 case atStart=>exact⟨(wrap64 (a1 - (l0.length:Int))),(0),rl_,rl_,H',⟨Nat.le_refl _⟩,⟨bw_ HB⟩⟩
 case round=>
  clear H'
  try clear p2
  obtain⟨m0,a0,rfl,rfl,HA,x0,HB⟩:=hrel
  cases gk with
  |zero=>exact absurd HA.out (by simp [laws_szFileS.l0])
  |succ k1=>
   have H:=HA.out
   clear HA
   simp only [laws_szFileS.l0] at H
   refine ic_ H ?_ ?_ <;> clear H <;> intro B0 H
   ·obtain rfl:=Option.some.inj H
    go_wp2
    go_ret
    exact⟨er_,bw_ HB⟩
   obtain⟨c5,H⟩:=gd_ H
   have C0:=decide_eq_true c5
   clear c5
   obtain⟨n0,A6,H⟩:=ob_ H
   try dsimp only at H
   by_cases c7:n0<0
   ·rw [if_pos c7] at H
    have r0:=decide_eq_true c7
    clear c7
    obtain rfl:=Option.some.inj H
    have g0:0≤(a0:Int):=od_
    have h0:a0<(l0.length:Int):=od_
    obtain⟨p0,o0,b0,d0,e0⟩:=at_T70 v0.out a0 g0 h0
    cases o0
    replace b0:=hc_ HB b0
    replace d0:=hc_ HB d0
    replace e0:=hc_ HB e0
    replace g0:=eq_true g0
    replace h0:=eq_true h0
    go_wp2_with (first|((with_reducible refine gc_ 39 rfl ?_);refine gm_ 23 Tryz.func39 (laws_szFile.calls ((rd_T70 l0 a0).f0) ((rd_T70 l0 a0).f1) ((rd_T70 l0 a0).f2) m0 n0 _ A6.out) ?_;rintro w8 hb;replace HB:=bs_ HB hb;(try clear hb)))
    go_ret
    exact⟨er_,bw_ HB⟩
   rw [if_neg c7] at H
   have r0:=decide_eq_false c7
   clear c7
   have H':=Aside0.mk H
   clear H
   have g0:0≤(a0:Int):=od_
   have h0:a0<(l0.length:Int):=od_
   obtain⟨p0,o0,b0,d0,e0⟩:=at_T70 v0.out a0 g0 h0
   cases o0
   replace b0:=hc_ HB b0
   replace d0:=hc_ HB d0
   replace e0:=hc_ HB e0
   replace g0:=eq_true g0
   replace h0:=eq_true h0
   go_wp2_with (first|((with_reducible refine gc_ 39 rfl ?_);refine gm_ 23 Tryz.func39 (laws_szFile.calls ((rd_T70 l0 a0).f0) ((rd_T70 l0 a0).f1) ((rd_T70 l0 a0).f2) m0 n0 _ A6.out) ?_;rintro w9 hb;replace HB:=bs_ HB hb;(try clear hb)))
   go_roundg k1
   case measure=>have:=x0.out;omega
   case rel=>exact⟨(n0),(wrap64 (a0+1)),rl_,rl_,H',⟨by have:=x0.out;omega⟩,⟨bw_ HB⟩⟩
def laws_szDisk.f (k:Nat) (b0:List (S70)) (a1:Int):Option (Int):=(laws_szFileS.f k b0 a1).bind fun a0=>(if a0<0 then(some (-1)) else(some a0))
theorem laws_szDisk.calls (k:Nat) (d0:Option Addr) (e0:Nat) (a0:List (S70)) (a1:Int) (r:Int) (w:World) (g0:Kd.C k70 w d0 a0.length a0) (h0:a0.length≤e0) (h:laws_szDisk.f k a0 a1=some r):
  Calls Tryz.prog 4 #[.agg #[.slice d0 a0.length e0],.int .i64 a1] w fun e w'=>e= .returned (.int .i64 r)∧Below w.heap.size w w':=by
 have x0:=Tryz.underlying24
 have m0:=Aside0.mk g0
 have n0:=Aside0.mk h0
 clear g0 h0
 have HB:=mk_ (Below.refl w.heap.size w)
 have H:=h
 unfold laws_szDisk.f at H
 clear h
 obtain⟨o0,A3,H⟩:=ob_ H
 try dsimp only at H
 refine ic_ H ?_ ?_ <;> clear H <;> intro y0 H
 ·obtain rfl:=Option.some.inj H
  go_enter Tryz.func4,Tryz.ntmps4
  go_wp2_with (first|((with_reducible refine gn_ 2 rfl ?_);refine bv_ (cs:=#[.slice d0 a0.length e0]) (t:=24) HB ?_;clear HB;intro p0 w8 b0 q0 HB;obtain⟨r0,s0⟩:=b1_ b0)|((with_reducible refine gc_ 16 rfl ?_);refine gx_ 8 Tryz.func16 #[.slice d0 a0.length e0,.int .i64 a1] (laws_szFileS.calls k _ _ a0 a1 o0 _ ?side1 ?side2 A3.out) ?_;(case side1=>repeat(first|exact(Kd.C_below m0.out HB.out)|(with_reducible refine Kd.C_alloc ?_ _)|(with_reducible refine Kd.C_drewN ?_ _)|(with_reducible refine Kd.C_drew ?_)));(case side2=>exact n0.out);rintro A0 hb;replace b0:=bb_ b0 hb;replace HB:=bs_ HB hb;(try clear hb)))
  go_ret
  exact⟨er_,bw_ HB⟩
 obtain rfl:=Option.some.inj H
 go_enter Tryz.func4,Tryz.ntmps4
 go_wp2_with (first|((with_reducible refine gn_ 2 rfl ?_);refine bv_ (cs:=#[.slice d0 a0.length e0]) (t:=24) HB ?_;clear HB;intro p0 w5 b0 q0 HB;obtain⟨t0,v0⟩:=b1_ b0)|((with_reducible refine gc_ 16 rfl ?_);refine gx_ 8 Tryz.func16 #[.slice d0 a0.length e0,.int .i64 a1] (laws_szFileS.calls k _ _ a0 a1 o0 _ ?side1 ?side2 A3.out) ?_;(case side1=>repeat(first|exact(Kd.C_below m0.out HB.out)|(with_reducible refine Kd.C_alloc ?_ _)|(with_reducible refine Kd.C_drewN ?_ _)|(with_reducible refine Kd.C_drew ?_)));(case side2=>exact n0.out);rintro w7 hb;replace b0:=bb_ b0 hb;replace HB:=bs_ HB hb;(try clear hb)))
 go_ret
 exact⟨er_,bw_ HB⟩
def spec_l01In.f (a0:Int) (a1:Int) (a2:Int):Option (Bool):=if a0≥a1 then(some (decide (a0≤a2))) else(some false)
theorem spec_l01In.calls (a0:Int) (a1:Int) (a2:Int) (r:Bool) (w:World) (h:spec_l01In.f a0 a1 a2=some r):
  Calls Tryz.prog 41 #[.int .i64 a0,.int .i64 a1,.int .i64 a2] w fun e w'=>e= .returned (.bool r)∧Drawn0 w w':=by
 have H:=h
 unfold spec_l01In.f at H
 clear h
 refine ih_ H ?_ ?_ <;> clear H <;> intro b0 H
 ·obtain rfl:=Option.some.inj H
  go_enter Tryz.func41,Tryz.ntmps41
  go_wp2
  go_ret
  exact⟨by first|rfl|(simp;done)|(simp [*];done)|(simp [bne];done),by repeat(first|exact Drawn0.refl _|apply Drawn0.step)⟩
 obtain rfl:=Option.some.inj H
 go_enter Tryz.func41,Tryz.ntmps41
 go_wp2
 go_ret
 exact⟨by first|rfl|(simp;done)|(simp [*];done)|(simp [bne];done),by repeat(first|exact Drawn0.refl _|apply Drawn0.step)⟩
def spec_l03Name.f (a0:ByteArray):Option (Bool):=(spec_l01In.f (a0.size:Int) 1 8).bind fun b0=>(some b0)
theorem spec_l03Name.calls (a0:ByteArray) (r:Bool) (w:World) (h:spec_l03Name.f a0=some r):
  Calls Tryz.prog 40 #[.string a0] w fun e w'=>e= .returned (.bool r)∧Drawn0 w w':=by
 have H:=h
 unfold spec_l03Name.f at H
 clear h
 obtain⟨b0,A2,H⟩:=ob_ H
 try dsimp only at H
 obtain rfl:=Option.some.inj H
 go_enter Tryz.func40,Tryz.ntmps40
 go_wp2_with (first|((with_reducible refine gc_ 41 rfl ?_);refine gm_ 5 Tryz.func41 (spec_l01In.calls (a0.size:Int) 1 8 b0 _ A2.out) ?_;rintro w' ⟨nd,rfl⟩))
 go_ret
 exact⟨by first|rfl|(simp;done)|(simp [*];done)|(simp [bne];done),by repeat(first|exact Drawn0.refl _|apply Drawn0.step)⟩
def spec_DiskOk.l0:Nat→Int→List (S49)→Option (Bool)
 |0,_,_=>none
 |k+1,x3,a0=>if x3<(a0.length:Int) then(if 0≤x3 then((spec_l03Name.f ((rd_T49 a0 x3).f0)).bind fun b0=>(if b0=true then(if(((rd_T49 a0 x3).f1).size:Int)>20000 then(some false) else((spec_l01In.f ((rd_T49 a0 x3).f2) 0 (((rd_T49 a0 x3).f1).size:Int)).bind fun d0=>(if d0=true then(if x3>0 then(if 0≤(wrap64 (x3 - 1)) then(if(wrap64 (x3 - 1))<(a0.length:Int) then(if((Op.bytesLess (((rd_T49 a0 (wrap64 (x3 - 1))).f0).toList) (((rd_T49 a0 x3).f0).toList))=true) then(spec_DiskOk.l0 k (wrap64 (x3+1)) a0) else(some false)) else(none)) else(none)) else(spec_DiskOk.l0 k (wrap64 (x3+1)) a0)) else(some false)))) else(some false))) else(none)) else(some true)
def spec_DiskOk.f (k:Nat) (a0:List (S49)):Option (Bool):=if(a0.length:Int)>30 then(some false) else(spec_DiskOk.l0 k 0 a0)
theorem spec_DiskOk.calls (k:Nat) (M0:Option Addr) (N0:Nat) (a0:List (S49)) (r:Bool) (w:World) (U0:Kd.C k49 w M0 a0.length a0) (V0:a0.length≤N0) (h:spec_DiskOk.f k a0=some r):
  Calls Tryz.prog 17 #[.agg #[.slice M0 a0.length N0]] w fun e w'=>e= .returned (.bool r)∧Below w.heap.size w w':=by
 have r3:=Tryz.underlying36
 have s3:=Tryz.underlying49
 have B0:=Aside0.mk U0
 have U2:=Aside0.mk V0
 clear U0 V0
 have HB:=mk_ (Below.refl w.heap.size w)
 have H:=h
 unfold spec_DiskOk.f at H
 clear h
 by_cases c2:(a0.length:Int)>30
 ·rw [if_pos c2] at H
  have H2:=decide_eq_true c2
  have I2:decide (30<a0.length)=true:=decide_eq_true (by omega)
  clear c2
  obtain rfl:=Option.some.inj H
  go_enter Tryz.func17,Tryz.ntmps17
  go_wp2_with (first|((with_reducible refine gn_ 1 rfl ?_);(try(refine gate_guard (by rfl) ?_;dsimp only));refine bv_ (cs:=#[.slice M0 a0.length N0]) (t:=36) HB ?_;clear HB;intro W0 w3 g0 a1 HB;obtain⟨J2,K2⟩:=b1_ g0))
  go_ret
  exact⟨er_,bw_ HB⟩
 rw [if_neg c2] at H
 have H2:=decide_eq_false c2
 have I2:decide (30<a0.length)=false:=decide_eq_false (by omega)
 clear c2
 have H':=Aside0.mk H
 clear H
 go_enter Tryz.func17,Tryz.ntmps17
 go_wp2_with (first|((with_reducible refine gn_ 1 rfl ?_);(try(refine gate_guard (by rfl) ?_;dsimp only));refine bv_ (cs:=#[.slice M0 a0.length N0]) (t:=36) HB ?_;clear HB;intro W0 w5 g0 a1 HB;obtain⟨L2,M2⟩:=b1_ g0))
 go_loopg [3] k (fun kq v3 w'=>∃(b0:Int),v3= .int .i64 b0∧Aside0 (spec_DiskOk.l0 kq b0 a0=some r)∧Aside0 (kq≤k)∧Aside0 (w'.heap[W0]? =some (.cells #[(.slice M0 a0.length N0)] 36 (0,0)))∧Aside0 (Below w.heap.size w w'))
 case atStart=>exact⟨(0),rl_,H',⟨Nat.le_refl _⟩,⟨bf_⟩,⟨bw_ HB⟩⟩
 case round=>
  clear H'
  try clear p2
  obtain⟨b0,rfl,HA,n1,g0,HB⟩:=hrel
  cases gk with
  |zero=>exact absurd HA.out (by simp [spec_DiskOk.l0])
  |succ k1=>
   have H:=HA.out
   clear HA
   simp only [spec_DiskOk.l0] at H
   refine ic_ H ?_ ?_ <;> clear H <;> intro t3 H
   ·obtain rfl:=Option.some.inj H
    obtain⟨o1,p1⟩:=b1_ g0
    go_wp2
    go_ret
    exact⟨er_,bw_ HB⟩
   obtain⟨c8,H⟩:=gd_ H
   have x3:=decide_eq_true c8
   clear c8
   obtain⟨N2,A9,H⟩:=ob_ H
   try dsimp only at H
   by_cases c10:N2=true
   rotate_left
   ·replace c10:=Bool.eq_false_iff.mpr c10
    subst c10
    rw [if_neg (show ¬(false=true) by decide)] at H
    obtain rfl:=Option.some.inj H
    obtain⟨q1,r1⟩:=b1_ g0
    have r0:0≤(b0:Int):=od_
    have s0:b0<(a0.length:Int):=od_
    obtain⟨t0,C0,n0,o0,p0⟩:=at_T49 B0.out b0 r0 s0
    cases C0
    replace n0:=hc_ HB n0
    replace o0:=hc_ HB o0
    replace p0:=hc_ HB p0
    replace r0:=eq_true r0
    replace s0:=eq_true s0
    go_wp2_with (first|((with_reducible refine gn_ 4 rfl ?_);(try(refine gate_guard (by rfl) ?_;dsimp only));refine bn_ (cs:=#[.string (⟨#[]⟩:ByteArray),.string (⟨#[]⟩:ByteArray),.int .i64 0]) (t:=49) HB ?_;intro d0 y3 hg hb x0 y0 hB_;have v0:=bl_ g0 hg;have q0:=bg_ g0 hg;replace g0:=bb_ g0 hb;replace HB:=hB_;clear hb hB_ hg;obtain⟨V2,W2⟩:=ns_ q0;obtain⟨s1,t1,v1,x1,y1,A1⟩:=b3_ x0))
    repeat(go_quiet (first|(go_at_call 40;(with_reducible refine(spec_l03Name.calls ((rd_T49 a0 b0).f0) false _ A9.out).mono ?_);rintro e w' ⟨rfl,⟨nd,rfl⟩⟩;(try first|exact⟨rfl,_,World.drewN_drewN _ _ _⟩|exact⟨rfl,_,Eq.trans (World.drewN_drewN _ _ _) (congrArg (World.drewN _) (Nat.add_assoc _ _ _))⟩)));try go_wp2_with fail)
    go_ret
    exact⟨er_,bw_ HB⟩
   subst c10
   rw [if_pos rfl] at H
   by_cases Y0:(((rd_T49 a0 b0).f1).size:Int)>20000
   ·rw [if_pos Y0] at H
    have b1:=decide_eq_true Y0
    have d1:decide (20000<((rd_T49 a0 b0).f1).size)=true:=decide_eq_true (by omega)
    clear Y0
    obtain rfl:=Option.some.inj H
    obtain⟨C1,D1⟩:=b1_ g0
    have r0:0≤(b0:Int):=od_
    have s0:b0<(a0.length:Int):=od_
    obtain⟨t0,C0,n0,o0,p0⟩:=at_T49 B0.out b0 r0 s0
    cases C0
    replace n0:=hc_ HB n0
    replace o0:=hc_ HB o0
    replace p0:=hc_ HB p0
    replace r0:=eq_true r0
    replace s0:=eq_true s0
    go_wp2_with (first|((with_reducible refine gn_ 4 rfl ?_);(try(refine gate_guard (by rfl) ?_;dsimp only));refine bn_ (cs:=#[.string (⟨#[]⟩:ByteArray),.string (⟨#[]⟩:ByteArray),.int .i64 0]) (t:=49) HB ?_;intro d0 A3 hg hb x0 y0 hB_;have v0:=bl_ g0 hg;have q0:=bg_ g0 hg;replace g0:=bb_ g0 hb;replace HB:=hB_;clear hb hB_ hg;obtain⟨X2,Y2⟩:=ns_ q0;obtain⟨F1,G1,H1,I1,J1,K1⟩:=b3_ x0))
    repeat(go_quiet (first|(go_at_call 40;(with_reducible refine(spec_l03Name.calls ((rd_T49 a0 b0).f0) true _ A9.out).mono ?_);rintro e w' ⟨rfl,⟨nd,rfl⟩⟩;(try first|exact⟨rfl,_,World.drewN_drewN _ _ _⟩|exact⟨rfl,_,Eq.trans (World.drewN_drewN _ _ _) (congrArg (World.drewN _) (Nat.add_assoc _ _ _))⟩)));try go_wp2_with fail)
    go_ret
    exact⟨er_,bw_ HB⟩
   rw [if_neg Y0] at H
   have b1:=decide_eq_false Y0
   have d1:decide (20000<((rd_T49 a0 b0).f1).size)=false:=decide_eq_false (by omega)
   clear Y0
   obtain⟨O2,e1,H⟩:=ob_ H
   try dsimp only at H
   by_cases L1:O2=true
   rotate_left
   ·replace L1:=Bool.eq_false_iff.mpr L1
    subst L1
    rw [if_neg (show ¬(false=true) by decide)] at H
    obtain rfl:=Option.some.inj H
    obtain⟨M1,N1⟩:=b1_ g0
    have r0:0≤(b0:Int):=od_
    have s0:b0<(a0.length:Int):=od_
    obtain⟨t0,C0,n0,o0,p0⟩:=at_T49 B0.out b0 r0 s0
    cases C0
    replace n0:=hc_ HB n0
    replace o0:=hc_ HB o0
    replace p0:=hc_ HB p0
    replace r0:=eq_true r0
    replace s0:=eq_true s0
    go_wp2_with (first|((with_reducible refine gn_ 4 rfl ?_);(try(refine gate_guard (by rfl) ?_;dsimp only));refine bn_ (cs:=#[.string (⟨#[]⟩:ByteArray),.string (⟨#[]⟩:ByteArray),.int .i64 0]) (t:=49) HB ?_;intro d0 C3 hg hb x0 y0 hB_;have v0:=bl_ g0 hg;have q0:=bg_ g0 hg;replace g0:=bb_ g0 hb;replace HB:=hB_;clear hb hB_ hg;obtain⟨Z2,a3⟩:=ns_ q0;obtain⟨O1,P1,Q1,R1,U1,V1⟩:=b3_ x0))
    repeat(go_quiet (first|(go_at_call 40;(with_reducible refine(spec_l03Name.calls ((rd_T49 a0 b0).f0) true _ A9.out).mono ?_);rintro e w' ⟨rfl,⟨nd,rfl⟩⟩;(try first|exact⟨rfl,_,World.drewN_drewN _ _ _⟩|exact⟨rfl,_,Eq.trans (World.drewN_drewN _ _ _) (congrArg (World.drewN _) (Nat.add_assoc _ _ _))⟩))|(go_at_call 41;(with_reducible refine(spec_l01In.calls ((rd_T49 a0 b0).f2) 0 (((rd_T49 a0 b0).f1).size:Int) false _ e1.out).mono ?_);rintro e w' ⟨rfl,⟨nd,rfl⟩⟩;(try first|exact⟨rfl,_,World.drewN_drewN _ _ _⟩|exact⟨rfl,_,Eq.trans (World.drewN_drewN _ _ _) (congrArg (World.drewN _) (Nat.add_assoc _ _ _))⟩)));try go_wp2_with fail)
    go_ret
    exact⟨er_,bw_ HB⟩
   subst L1
   rw [if_pos rfl] at H
   refine ig_ H ?_ ?_ <;> clear H <;> intro b3 H
   ·have H':=Aside0.mk H
    clear H
    obtain⟨W1,X1⟩:=b1_ g0
    have r0:0≤(b0:Int):=od_
    have s0:b0<(a0.length:Int):=od_
    obtain⟨t0,C0,n0,o0,p0⟩:=at_T49 B0.out b0 r0 s0
    cases C0
    replace n0:=hc_ HB n0
    replace o0:=hc_ HB o0
    replace p0:=hc_ HB p0
    replace r0:=eq_true r0
    replace s0:=eq_true s0
    go_wp2_with (first|((with_reducible refine gn_ 4 rfl ?_);(try(refine gate_guard (by rfl) ?_;dsimp only));refine bn_ (cs:=#[.string (⟨#[]⟩:ByteArray),.string (⟨#[]⟩:ByteArray),.int .i64 0]) (t:=49) HB ?_;intro d0 D3 hg hb x0 y0 hB_;have v0:=bl_ g0 hg;have q0:=bg_ g0 hg;replace g0:=bb_ g0 hb;replace HB:=hB_;clear hb hB_ hg;obtain⟨d3,e3⟩:=ns_ q0;obtain⟨Y1,Z1,a2,b2,d2,e2⟩:=b3_ x0))
    repeat(go_quiet (first|(go_at_call 40;(with_reducible refine(spec_l03Name.calls ((rd_T49 a0 b0).f0) true _ A9.out).mono ?_);rintro e w' ⟨rfl,⟨nd,rfl⟩⟩;(try first|exact⟨rfl,_,World.drewN_drewN _ _ _⟩|exact⟨rfl,_,Eq.trans (World.drewN_drewN _ _ _) (congrArg (World.drewN _) (Nat.add_assoc _ _ _))⟩))|(go_at_call 41;(with_reducible refine(spec_l01In.calls ((rd_T49 a0 b0).f2) 0 (((rd_T49 a0 b0).f1).size:Int) true _ e1.out).mono ?_);rintro e w' ⟨rfl,⟨nd,rfl⟩⟩;(try first|exact⟨rfl,_,World.drewN_drewN _ _ _⟩|exact⟨rfl,_,Eq.trans (World.drewN_drewN _ _ _) (congrArg (World.drewN _) (Nat.add_assoc _ _ _))⟩)));try go_wp2_with fail)
    go_roundg k1
    case measure=>have:=n1.out;omega
    case rel=>exact⟨(wrap64 (b0+1)),rl_,H',⟨by have:=n1.out;omega⟩,⟨bf_⟩,⟨bw_ HB⟩⟩
   obtain⟨A0,F0⟩:∃j_:Int,(wrap64 (b0 - 1))=j_:=⟨_,rfl⟩
   (first|rw [F0] at H|simp only [F0] at H)
   (try rw [F0] at A9)
   (try rw [F0] at e1)
   have P2:(IntKind.i64.wrap (b0 - 1))=A0:=(i64_w _).trans F0
   obtain⟨g3,H⟩:=gd_ H
   have h3:=decide_eq_true g3
   clear g3
   obtain⟨j3,H⟩:=gd_ H
   have l3:=decide_eq_true j3
   clear j3
   by_cases Z0:((Op.bytesLess (((rd_T49 a0 (A0)).f0).toList) (((rd_T49 a0 b0).f0).toList))=true)
   rotate_left
   ·rw [if_neg Z0] at H
    have J0:(Op.bytesLess (((rd_T49 a0 (A0)).f0).toList) (((rd_T49 a0 b0).f0).toList))=false:=by simpa using Z0
    have g1:(Op.bytesLess (((rd_T49 a0 b0).f0).toList) (((rd_T49 a0 (A0)).f0).toList) || (((rd_T49 a0 b0).f0).toList) == (((rd_T49 a0 (A0)).f0).toList))=true:=Go.Proofs.YtolakamimfhcjaaGreatDoor.Sem.less_or J0
    have m1:(!Op.bytesLess (((rd_T49 a0 b0).f0).toList) (((rd_T49 a0 (A0)).f0).toList) && !((((rd_T49 a0 b0).f0).toList) == (((rd_T49 a0 (A0)).f0).toList)))=false:=Go.Proofs.YtolakamimfhcjaaGreatDoor.Sem.less_and J0
    clear Z0
    obtain rfl:=Option.some.inj H
    obtain⟨g2,h2⟩:=b1_ g0
    have r0:0≤(b0:Int):=od_
    have s0:b0<(a0.length:Int):=od_
    obtain⟨t0,C0,n0,o0,p0⟩:=at_T49 B0.out b0 r0 s0
    cases C0
    replace n0:=hc_ HB n0
    replace o0:=hc_ HB o0
    replace p0:=hc_ HB p0
    replace r0:=eq_true r0
    replace s0:=eq_true s0
    go_wp2_with (first|((with_reducible refine gn_ 4 rfl ?_);(try(refine gate_guard (by rfl) ?_;dsimp only));refine bn_ (cs:=#[.string (⟨#[]⟩:ByteArray),.string (⟨#[]⟩:ByteArray),.int .i64 0]) (t:=49) HB ?_;intro d0 Q2 hg hb x0 y0 hB_;have v0:=bl_ g0 hg;have q0:=bg_ g0 hg;replace g0:=bb_ g0 hb;replace HB:=hB_;clear hb hB_ hg;obtain⟨m3,n3⟩:=ns_ q0;obtain⟨l2,m2,n2,o2,q2,r2⟩:=b3_ x0))
    repeat(go_quiet (first|(go_at_call 40;(with_reducible refine(spec_l03Name.calls ((rd_T49 a0 b0).f0) true _ A9.out).mono ?_);rintro e w' ⟨rfl,⟨nd,rfl⟩⟩;(try first|exact⟨rfl,_,World.drewN_drewN _ _ _⟩|exact⟨rfl,_,Eq.trans (World.drewN_drewN _ _ _) (congrArg (World.drewN _) (Nat.add_assoc _ _ _))⟩))|(go_at_call 41;(with_reducible refine(spec_l01In.calls ((rd_T49 a0 b0).f2) 0 (((rd_T49 a0 b0).f1).size:Int) true _ e1.out).mono ?_);rintro e w' ⟨rfl,⟨nd,rfl⟩⟩;(try first|exact⟨rfl,_,World.drewN_drewN _ _ _⟩|exact⟨rfl,_,Eq.trans (World.drewN_drewN _ _ _) (congrArg (World.drewN _) (Nat.add_assoc _ _ _))⟩);obtain⟨s2,t2⟩:=b1_ g0;have K0:0≤((A0):Int):=od_;have L0:(A0)<(a0.length:Int):=od_;obtain⟨O0,X0,e0,h0,m0⟩:=at_T49 B0.out (A0) K0 L0;obtain rfl:t0=O0:=(by injection X0);have G0:t0.block≠d0:=Nat.ne_of_lt (Nat.lt_of_lt_of_le (by have:=World.block_lt_of_cell? _ _ e0;first|rwa [add_block] at this|exact this) y0.out);have H0:t0.block≠d0:=Nat.ne_of_lt (Nat.lt_of_lt_of_le (by have:=World.block_lt_of_cell? _ _ e0;first|rwa [add_block] at this|exact this) y0.out);have I0:t0.block≠d0:=Nat.ne_of_lt (Nat.lt_of_lt_of_le (by have:=World.block_lt_of_cell? _ _ e0;first|rwa [add_block] at this|exact this) y0.out);replace e0:=hc_ HB e0;replace h0:=hc_ HB h0;replace m0:=hc_ HB m0;replace e0:=(cell_far (p:=⟨d0,0,none⟩) ab_ (.string ((rd_T49 a0 b0).f0))).trans e0;replace h0:=(cell_far (p:=⟨d0,0,none⟩) ab_ (.string ((rd_T49 a0 b0).f0))).trans h0;replace m0:=(cell_far (p:=⟨d0,0,none⟩) ab_ (.string ((rd_T49 a0 b0).f0))).trans m0;replace e0:=(cell_far (p:=⟨d0,1,none⟩) ab_ (.string ((rd_T49 a0 b0).f1))).trans e0;replace h0:=(cell_far (p:=⟨d0,1,none⟩) ab_ (.string ((rd_T49 a0 b0).f1))).trans h0;replace m0:=(cell_far (p:=⟨d0,1,none⟩) ab_ (.string ((rd_T49 a0 b0).f1))).trans m0;replace e0:=(cell_far (p:=⟨d0,2,none⟩) ab_ (.int .i64 ((rd_T49 a0 b0).f2))).trans e0;replace h0:=(cell_far (p:=⟨d0,2,none⟩) ab_ (.int .i64 ((rd_T49 a0 b0).f2))).trans h0;replace m0:=(cell_far (p:=⟨d0,2,none⟩) ab_ (.int .i64 ((rd_T49 a0 b0).f2))).trans m0;(try have P0:=fun(n_:Nat)=>(show(((((Q2.drewN n_).setCell ⟨d0,0,none⟩ (.string ((rd_T49 a0 b0).f0))).setCell ⟨d0,1,none⟩ (.string ((rd_T49 a0 b0).f1))).setCell ⟨d0,2,none⟩ (.int .i64 ((rd_T49 a0 b0).f2)))).cell? _=some _ from e0));(try have Q0:=fun(n_:Nat)=>(show(((((Q2.drewN n_).setCell ⟨d0,0,none⟩ (.string ((rd_T49 a0 b0).f0))).setCell ⟨d0,1,none⟩ (.string ((rd_T49 a0 b0).f1))).setCell ⟨d0,2,none⟩ (.int .i64 ((rd_T49 a0 b0).f2)))).cell? _=some _ from h0));(try have R0:=fun(n_:Nat)=>(show(((((Q2.drewN n_).setCell ⟨d0,0,none⟩ (.string ((rd_T49 a0 b0).f0))).setCell ⟨d0,1,none⟩ (.string ((rd_T49 a0 b0).f1))).setCell ⟨d0,2,none⟩ (.int .i64 ((rd_T49 a0 b0).f2)))).cell? _=some _ from m0));clear G0;clear H0;clear I0;replace K0:=eq_true K0;replace L0:=eq_true L0));try go_wp2_with fail)
    go_ret
    exact⟨by first|rfl|(simp [errW_none,errW_some] <;> rfl)|(simp only [←F0];first|rfl|(simp [errW_none,errW_some] <;> rfl))|(simp [*,errW_none,errW_some] <;> rfl),bw_ HB⟩
   rw [if_pos Z0] at H
   have J0:(Op.bytesLess (((rd_T49 a0 (A0)).f0).toList) (((rd_T49 a0 b0).f0).toList))=true:=Z0
   have g1:Op.bytesLess (((rd_T49 a0 b0).f0).toList) (((rd_T49 a0 (A0)).f0).toList)=false:=Go.Proofs.YtolakamimfhcjaaGreatDoor.Sem.less_no J0
   have m1:((((rd_T49 a0 b0).f0).toList) == (((rd_T49 a0 (A0)).f0).toList))=false:=Go.Proofs.YtolakamimfhcjaaGreatDoor.Sem.less_ne J0
   clear Z0
   have H':=Aside0.mk H
   clear H
   obtain⟨v2,w2⟩:=b1_ g0
   have r0:0≤(b0:Int):=od_
   have s0:b0<(a0.length:Int):=od_
   obtain⟨t0,C0,n0,o0,p0⟩:=at_T49 B0.out b0 r0 s0
   cases C0
   replace n0:=hc_ HB n0
   replace o0:=hc_ HB o0
   replace p0:=hc_ HB p0
   replace r0:=eq_true r0
   replace s0:=eq_true s0
   go_wp2_with (first|((with_reducible refine gn_ 4 rfl ?_);(try(refine gate_guard (by rfl) ?_;dsimp only));refine bn_ (cs:=#[.string (⟨#[]⟩:ByteArray),.string (⟨#[]⟩:ByteArray),.int .i64 0]) (t:=49) HB ?_;intro d0 R2 hg hb x0 y0 hB_;have v0:=bl_ g0 hg;have q0:=bg_ g0 hg;replace g0:=bb_ g0 hb;replace HB:=hB_;clear hb hB_ hg;obtain⟨o3,q3⟩:=ns_ q0;obtain⟨x2,y2,A2,B2,C2,D2⟩:=b3_ x0))
   repeat(go_quiet (first|(go_at_call 40;(with_reducible refine(spec_l03Name.calls ((rd_T49 a0 b0).f0) true _ A9.out).mono ?_);rintro e w' ⟨rfl,⟨nd,rfl⟩⟩;(try first|exact⟨rfl,_,World.drewN_drewN _ _ _⟩|exact⟨rfl,_,Eq.trans (World.drewN_drewN _ _ _) (congrArg (World.drewN _) (Nat.add_assoc _ _ _))⟩))|(go_at_call 41;(with_reducible refine(spec_l01In.calls ((rd_T49 a0 b0).f2) 0 (((rd_T49 a0 b0).f1).size:Int) true _ e1.out).mono ?_);rintro e w' ⟨rfl,⟨nd,rfl⟩⟩;(try first|exact⟨rfl,_,World.drewN_drewN _ _ _⟩|exact⟨rfl,_,Eq.trans (World.drewN_drewN _ _ _) (congrArg (World.drewN _) (Nat.add_assoc _ _ _))⟩);obtain⟨F2,G2⟩:=b1_ g0;have K0:0≤((A0):Int):=od_;have L0:(A0)<(a0.length:Int):=od_;obtain⟨O0,X0,e0,h0,m0⟩:=at_T49 B0.out (A0) K0 L0;obtain rfl:t0=O0:=(by injection X0);have G0:t0.block≠d0:=Nat.ne_of_lt (Nat.lt_of_lt_of_le (by have:=World.block_lt_of_cell? _ _ e0;first|rwa [add_block] at this|exact this) y0.out);have H0:t0.block≠d0:=Nat.ne_of_lt (Nat.lt_of_lt_of_le (by have:=World.block_lt_of_cell? _ _ e0;first|rwa [add_block] at this|exact this) y0.out);have I0:t0.block≠d0:=Nat.ne_of_lt (Nat.lt_of_lt_of_le (by have:=World.block_lt_of_cell? _ _ e0;first|rwa [add_block] at this|exact this) y0.out);replace e0:=hc_ HB e0;replace h0:=hc_ HB h0;replace m0:=hc_ HB m0;replace e0:=(cell_far (p:=⟨d0,0,none⟩) ab_ (.string ((rd_T49 a0 b0).f0))).trans e0;replace h0:=(cell_far (p:=⟨d0,0,none⟩) ab_ (.string ((rd_T49 a0 b0).f0))).trans h0;replace m0:=(cell_far (p:=⟨d0,0,none⟩) ab_ (.string ((rd_T49 a0 b0).f0))).trans m0;replace e0:=(cell_far (p:=⟨d0,1,none⟩) ab_ (.string ((rd_T49 a0 b0).f1))).trans e0;replace h0:=(cell_far (p:=⟨d0,1,none⟩) ab_ (.string ((rd_T49 a0 b0).f1))).trans h0;replace m0:=(cell_far (p:=⟨d0,1,none⟩) ab_ (.string ((rd_T49 a0 b0).f1))).trans m0;replace e0:=(cell_far (p:=⟨d0,2,none⟩) ab_ (.int .i64 ((rd_T49 a0 b0).f2))).trans e0;replace h0:=(cell_far (p:=⟨d0,2,none⟩) ab_ (.int .i64 ((rd_T49 a0 b0).f2))).trans h0;replace m0:=(cell_far (p:=⟨d0,2,none⟩) ab_ (.int .i64 ((rd_T49 a0 b0).f2))).trans m0;(try have P0:=fun(n_:Nat)=>(show(((((R2.drewN n_).setCell ⟨d0,0,none⟩ (.string ((rd_T49 a0 b0).f0))).setCell ⟨d0,1,none⟩ (.string ((rd_T49 a0 b0).f1))).setCell ⟨d0,2,none⟩ (.int .i64 ((rd_T49 a0 b0).f2)))).cell? _=some _ from e0));(try have Q0:=fun(n_:Nat)=>(show(((((R2.drewN n_).setCell ⟨d0,0,none⟩ (.string ((rd_T49 a0 b0).f0))).setCell ⟨d0,1,none⟩ (.string ((rd_T49 a0 b0).f1))).setCell ⟨d0,2,none⟩ (.int .i64 ((rd_T49 a0 b0).f2)))).cell? _=some _ from h0));(try have R0:=fun(n_:Nat)=>(show(((((R2.drewN n_).setCell ⟨d0,0,none⟩ (.string ((rd_T49 a0 b0).f0))).setCell ⟨d0,1,none⟩ (.string ((rd_T49 a0 b0).f1))).setCell ⟨d0,2,none⟩ (.int .i64 ((rd_T49 a0 b0).f2)))).cell? _=some _ from m0));clear G0;clear H0;clear I0;replace K0:=eq_true K0;replace L0:=eq_true L0));try go_wp2_with fail)
   go_roundg k1
   case measure=>have:=n1.out;omega
   case rel=>exact⟨(wrap64 (b0+1)),rl_,H',⟨by have:=n1.out;omega⟩,⟨bf_⟩,⟨bw_ HB⟩⟩
def spec_l01Figure.f (a0:Int):Option (Int):=if a0<10 then(some ((wrap64 (48+a0)) % 256)) else(some ((wrap64 ((wrap64 (97+a0)) - 10)) % 256))
theorem spec_l01Figure.calls (a0:Int) (r:Int) (w:World) (h:spec_l01Figure.f a0=some r):
  Calls Tryz.prog 67 #[.int .i64 a0] w fun e w'=>e= .returned (.int .u8 r)∧Drawn0 w w':=by
 have H:=h
 unfold spec_l01Figure.f at H
 clear h
 refine ic_ H ?_ ?_ <;> clear H <;> intro b0 H
 ·obtain rfl:=Option.some.inj H
  go_enter Tryz.func67,Tryz.ntmps67
  go_wp2
  go_ret
  exact⟨by first|rfl|(simp;done)|(simp [*];done)|(simp [bne];done),by repeat(first|exact Drawn0.refl _|apply Drawn0.step)⟩
 obtain rfl:=Option.some.inj H
 go_enter Tryz.func67,Tryz.ntmps67
 go_wp2
 go_ret
 exact⟨by first|rfl|(simp;done)|(simp [*];done)|(simp [bne];done),by repeat(first|exact Drawn0.refl _|apply Drawn0.step)⟩
def spec_Decimal.l0:Nat→Int→Bool→ByteArray→Option (ByteArray)
 |0,_,_,_=>none
 |k+1,x0,x3,x4=>if x0=0 then(if x3=true then(if 1+x4.size≤9223372036854775807 then(some ((⟨#[45]⟩:ByteArray)++x4)) else(none)) else(some x4)) else(if(Int.tmod x0 10)<0 then((spec_l01Figure.f (wrap64 (-(Int.tmod x0 10)))).bind fun d0=>((some (([d0]:List Int):List Int)).bind fun a0=>(if(strOfNums a0).size+x4.size≤9223372036854775807 then(spec_Decimal.l0 k (wrap64 (Int.tdiv x0 10)) x3 ((strOfNums a0)++x4)) else(none)))) else((spec_l01Figure.f (Int.tmod x0 10)).bind fun e0=>((some (([e0]:List Int):List Int)).bind fun b0=>(if(strOfNums b0).size+x4.size≤9223372036854775807 then(spec_Decimal.l0 k (wrap64 (Int.tdiv x0 10)) x3 ((strOfNums b0)++x4)) else(none)))))
def spec_Decimal.f (k:Nat) (a0:Int):Option (ByteArray):=if a0=0 then(some (⟨#[48]⟩:ByteArray)) else(spec_Decimal.l0 k a0 (decide (a0<0)) (⟨#[]⟩:ByteArray))
theorem spec_Decimal.calls (k:Nat) (a0:Int) (r:ByteArray) (w:World) (h:spec_Decimal.f k a0=some r):
  Calls Tryz.prog 43 #[.int .i64 a0] w fun e w'=>e= .returned (.string r)∧Below w.heap.size w w':=by
 have HB:=mk_ (Below.refl w.heap.size w)
 have H:=h
 unfold spec_Decimal.f at H
 clear h
 by_cases c2:a0=0
 ·rw [if_pos c2] at H
  have y0:=beq_iff_eq.mpr c2
  have A0:=bne_eq_false_iff_eq.mpr c2
  clear c2
  obtain rfl:=Option.some.inj H
  go_enter Tryz.func43,Tryz.ntmps43
  go_wp2
  go_ret
  exact⟨er_,bw_ HB⟩
 rw [if_neg c2] at H
 have y0:=beq_eq_false_iff_ne.mpr c2
 have A0:=bne_iff_ne.mpr c2
 have H':=Aside0.mk H
 clear H
 go_enter Tryz.func43,Tryz.ntmps43
 go_wp2
 go_loopg [0,4] k (fun kq v0 v4 w'=>∃(b0:Int) (g0:ByteArray),v0= .int .i64 b0∧v4= .string g0∧Aside0 (spec_Decimal.l0 kq b0 (decide (a0<0)) g0=some r)∧Aside0 (kq≤k)∧Aside0 (Below w.heap.size w w'))
 case atStart=>exact⟨(a0),((⟨#[]⟩:ByteArray)),rl_,rl_,H',⟨Nat.le_refl _⟩,⟨bw_ HB⟩⟩
 case round=>
  clear H'
  try clear p2
  obtain⟨b0,g0,rfl,rfl,HA,x0,HB⟩:=hrel
  cases gk with
  |zero=>exact absurd HA.out (by simp [spec_Decimal.l0])
  |succ k1=>
   have H:=HA.out
   clear HA
   simp only [spec_Decimal.l0] at H
   by_cases c3:b0=0
   ·rw [if_pos c3] at H
    have B0:=beq_iff_eq.mpr c3
    have C0:=bne_eq_false_iff_eq.mpr c3
    clear c3
    by_cases c4:(decide (a0<0))=true
    rotate_left
    ·rw [if_neg c4] at H
     have r0:(decide (a0<0))=false:=by simpa using c4
     have N0:0≤a0:=Int.not_lt.1 (of_decide_eq_false r0)
     clear c4
     obtain rfl:=Option.some.inj H
     go_wp2
     go_ret
     exact⟨er_,bw_ HB⟩
    rw [if_pos c4] at H
    have r0:(decide (a0<0))=true:=c4
    have N0:a0<0:=of_decide_eq_true r0
    clear c4
    obtain⟨c5,H⟩:=gd_ H
    have O0:=eq_true c5
    have P0:=decide_eq_true c5
    have Q0:=eq_false (Nat.not_lt.2 c5)
    obtain rfl:=Option.some.inj H
    go_wp2
    go_ret
    exact⟨er_,bw_ HB⟩
   rw [if_neg c3] at H
   have B0:=beq_eq_false_iff_ne.mpr c3
   have C0:=bne_iff_ne.mpr c3
   refine ic_ H ?_ ?_ <;> clear H <;> intro R0 H
   ·obtain⟨d0,U0,H⟩:=ob_ H
    try dsimp only at H
    obtain⟨F0,h0⟩:∃y_:List Int,y_=(([d0]:List Int)):=⟨_,rfl⟩
    replace H:=sb_ h0 H
    have p0:=Aside0.mk h0
    clear h0
    obtain⟨G0,H⟩:=gd_ H
    have I0:=eq_true G0
    have J0:=decide_eq_true G0
    have K0:=eq_false (Nat.not_lt.2 G0)
    have H':=Aside0.mk H
    clear H
    go_wp2_with (first|((with_reducible refine gc_ 67 rfl ?_);refine gm_ 19 Tryz.func67 (spec_l01Figure.calls (Int.tmod b0 10) d0 _ U0.out) ?_;rintro w' ⟨nd,rfl⟩)|((with_reducible refine gn_ 20 rfl ?_);refine Kd.R_lit (Kd.int .u8) _ 5 ?hg (N:=20) ?hd (xs:=([d0]:List Int)) (inner:=[.int .u8 d0]) (ok:=fun _=>True) (okp:=fun _=>True) ?hr ?hp (fun _ hk=>hk) trivial (Below.refl _ _) (Nat.le_refl _) (by simp) ?_;(case hd=>rfl);(case hg=>rfl);(case hr=>first|(go_simp;done)|(go_simp;rfl));(case hp=>exact(Reps.one (show Kd.M (Kd.int .u8) _ _ _ d0 [.int .u8 d0] from rfl) (Reps.none _ _)));intro V0 a1 m0 hb hg_ hnew_;clear hg_ hnew_;(first|rw [←p0.out] at m0|(simp only [Int.reduceToNat] at m0;rw [←p0.out] at m0));have s0:=mk_ (Kd.R_lower m0 (below_size (bw_ HB)));replace HB:=bs_ HB hb;clear hb m0;have L0:=own_string (P:=Tryz.prog) Tryz.underlying95 Tryz.underlying5 Tryz.underlying9 (Kd.own_of_R s0.out)))
    go_roundg k1
    case measure=>have:=x0.out;omega
    case rel=>exact⟨(wrap64 (Int.tdiv b0 10)),((strOfNums F0)++g0),rl_,rl_,H',⟨by have:=x0.out;omega⟩,⟨bw_ HB⟩⟩
   obtain⟨e0,A7,H⟩:=ob_ H
   try dsimp only at H
   obtain⟨H0,n0⟩:∃y_:List Int,y_=(([e0]:List Int)):=⟨_,rfl⟩
   replace H:=sb_ n0 H
   have q0:=Aside0.mk n0
   clear n0
   obtain⟨c8,H⟩:=gd_ H
   have W0:=eq_true c8
   have X0:=decide_eq_true c8
   have Y0:=eq_false (Nat.not_lt.2 c8)
   have H':=Aside0.mk H
   clear H
   go_wp2_with (first|((with_reducible refine gc_ 67 rfl ?_);refine gm_ 19 Tryz.func67 (spec_l01Figure.calls (wrap64 (-(Int.tmod b0 10))) e0 _ A7.out) ?_;rintro w' ⟨nd,rfl⟩)|((with_reducible refine gn_ 20 rfl ?_);refine Kd.R_lit (Kd.int .u8) _ 5 ?hg (N:=20) ?hd (xs:=([e0]:List Int)) (inner:=[.int .u8 e0]) (ok:=fun _=>True) (okp:=fun _=>True) ?hr ?hp (fun _ hk=>hk) trivial (Below.refl _ _) (Nat.le_refl _) (by simp) ?_;(case hd=>rfl);(case hg=>rfl);(case hr=>first|(go_simp;done)|(go_simp;rfl));(case hp=>exact(Reps.one (show Kd.M (Kd.int .u8) _ _ _ e0 [.int .u8 e0] from rfl) (Reps.none _ _)));intro Z0 w9 o0 hb hg_ hnew_;clear hg_ hnew_;(first|rw [←q0.out] at o0|(simp only [Int.reduceToNat] at o0;rw [←q0.out] at o0));have t0:=mk_ (Kd.R_lower o0 (below_size (bw_ HB)));replace HB:=bs_ HB hb;clear hb o0;have M0:=own_string (P:=Tryz.prog) Tryz.underlying95 Tryz.underlying5 Tryz.underlying9 (Kd.own_of_R t0.out)))
   go_roundg k1
   case measure=>have:=x0.out;omega
   case rel=>exact⟨(wrap64 (Int.tdiv b0 10)),((strOfNums H0)++g0),rl_,rl_,H',⟨by have:=x0.out;omega⟩,⟨bw_ HB⟩⟩
def spec_JournalName.f (k:Nat) (a0:Int):Option (ByteArray):=(spec_l01In.f a0 0 999).bind fun d0=>(if d0=true then((spec_Decimal.f k a0).bind fun b0=>(if 1+b0.size≤9223372036854775807 then(some ((⟨#[106]⟩:ByteArray)++b0)) else(none))) else(some (⟨#[]⟩:ByteArray)))
theorem spec_JournalName.calls (k:Nat) (a0:Int) (r:ByteArray) (w:World) (h:spec_JournalName.f k a0=some r):
  Calls Tryz.prog 20 #[.int .i64 a0] w fun e w'=>e= .returned (.string r)∧Below w.heap.size w w':=by
 have HB:=mk_ (Below.refl w.heap.size w)
 have H:=h
 unfold spec_JournalName.f at H
 clear h
 obtain⟨b0,A2,H⟩:=ob_ H
 try dsimp only at H
 by_cases c3:b0=true
 rotate_left
 ·replace c3:=Bool.eq_false_iff.mpr c3
  subst c3
  rw [if_neg (show ¬(false=true) by decide)] at H
  obtain rfl:=Option.some.inj H
  go_enter Tryz.func20,Tryz.ntmps20
  go_wp2_with (first|((with_reducible refine gc_ 41 rfl ?_);refine gm_ 4 Tryz.func41 (spec_l01In.calls a0 0 999 false _ A2.out) ?_;rintro w' ⟨nd,rfl⟩))
  go_ret
  exact⟨er_,bw_ HB⟩
 subst c3
 rw [if_pos rfl] at H
 obtain⟨d0,A4,H⟩:=ob_ H
 try dsimp only at H
 obtain⟨c5,H⟩:=gd_ H
 have e0:=eq_true c5
 have g0:=decide_eq_true c5
 have h0:=eq_false (Nat.not_lt.2 c5)
 obtain rfl:=Option.some.inj H
 go_enter Tryz.func20,Tryz.ntmps20
 go_wp2_with (first|((with_reducible refine gc_ 41 rfl ?_);refine gm_ 4 Tryz.func41 (spec_l01In.calls a0 0 999 true _ A2.out) ?_;rintro w' ⟨nd,rfl⟩)|((with_reducible refine gc_ 43 rfl ?_);refine gm_ 7 Tryz.func43 (spec_Decimal.calls k a0 d0 _ A4.out) ?_;rintro w6 hb;replace HB:=bs_ HB hb;(try clear hb)))
 go_ret
 exact⟨er_,bw_ HB⟩
def spec_ReadDecimal.l0:Nat→ByteArray→Int→Int→Option (Int × Bool)
 |0,_,_,_=>none
 |k+1,x0,x4,x5=>if x5<(x0.size:Int) then(if 0≤x5 then(if(bt x0 x5)<48 then(some (0,false)) else(if(bt x0 x5)>57 then(some (0,false)) else(spec_ReadDecimal.l0 k x0 (wrap64 ((wrap64 ((wrap64 (10*x4))+(wrap64 (bt x0 x5)))) - 48)) (wrap64 (x5+1))))) else(none)) else(if x4>1000000000 then(some (0,false)) else((spec_Decimal.f k x4).bind fun a0=>(if a0.toList=x0.toList then(some (x4,true)) else(some (0,false)))))
def spec_ReadDecimal.f (k:Nat) (a0:ByteArray):Option (Int × Bool):=if(a0.size:Int)>10 then(some (0,false)) else(spec_ReadDecimal.l0 k a0 0 0)
theorem spec_ReadDecimal.calls (k:Nat) (a0:ByteArray) (r1:Int) (r2:Bool) (w:World) (h:spec_ReadDecimal.f k a0=some (r1,r2)):
  Calls Tryz.prog 42 #[.string a0] w fun e w'=>e= .returned (.tuple #[.int .i64 r1,.bool r2])∧Below w.heap.size w w':=by
 have HB:=mk_ (Below.refl w.heap.size w)
 have H:=h
 unfold spec_ReadDecimal.f at H
 clear h
 by_cases c2:(a0.size:Int)>10
 ·rw [if_pos c2] at H
  have o0:=decide_eq_true c2
  have p0:decide (10<a0.size)=true:=decide_eq_true (by omega)
  clear c2
  simp only [Option.some.injEq,Prod.mk.injEq] at H
  obtain⟨rfl,rfl⟩:=H
  go_enter Tryz.func42,Tryz.ntmps42
  go_wp2
  go_ret2
  exact⟨er_,bw_ HB⟩
 rw [if_neg c2] at H
 have o0:=decide_eq_false c2
 have p0:decide (10<a0.size)=false:=decide_eq_false (by omega)
 clear c2
 have H':=Aside0.mk H
 clear H
 go_enter Tryz.func42,Tryz.ntmps42
 go_wp2
 go_loopg [4,5] k (fun kq v4 v5 w'=>∃(d0:Int) (b0:Int),v4= .int .i64 d0∧v5= .int .i64 b0∧Aside0 (spec_ReadDecimal.l0 kq a0 d0 b0=some (r1,r2))∧Aside0 (kq≤k)∧Aside0 (Below w.heap.size w w'))
 case atStart=>exact⟨(0),(0),rl_,rl_,H',⟨Nat.le_refl _⟩,⟨bw_ HB⟩⟩
 case round=>
  clear H'
  try clear p2
  obtain⟨d0,b0,rfl,rfl,HA,s0,HB⟩:=hrel
  cases gk with
  |zero=>exact absurd HA.out (by simp [spec_ReadDecimal.l0])
  |succ k1=>
   have H:=HA.out
   clear HA
   simp only [spec_ReadDecimal.l0] at H
   refine ic_ H ?_ ?_ <;> clear H <;> intro x0 H
   ·by_cases c10:d0>1000000000
    ·rw [if_pos c10] at H
     have h0:=decide_eq_true c10
     clear c10
     simp only [Option.some.injEq,Prod.mk.injEq] at H
     obtain⟨rfl,rfl⟩:=H
     go_wp2
     go_ret2
     exact⟨er_,bw_ HB⟩
    rw [if_neg c10] at H
    have h0:=decide_eq_false c10
    clear c10
    obtain⟨e0,t0,H⟩:=ob_ H
    try dsimp only at H
    by_cases g0:e0.toList=a0.toList
    rotate_left
    ·rw [if_neg g0] at H
     have m0:=beq_eq_false_iff_ne.mpr g0
     have n0:=bne_iff_ne.mpr g0
     simp only [Option.some.injEq,Prod.mk.injEq] at H
     obtain⟨rfl,rfl⟩:=H
     go_wp2_with (first|(go_at_call 43;(with_reducible refine(spec_Decimal.calls k1 d0 e0 _ t0.out).mono ?_);rintro e B0 ⟨rfl,hb⟩;replace HB:=bs_ HB hb;(try clear hb)))
     go_ret2
     exact⟨er_,bw_ HB⟩
    rw [if_pos g0] at H
    have m0:=beq_iff_eq.mpr g0
    have n0:=bne_eq_false_iff_eq.mpr g0
    clear g0
    simp only [Option.some.injEq,Prod.mk.injEq] at H
    obtain⟨rfl,rfl⟩:=H
    go_wp2_with (first|(go_at_call 43;(with_reducible refine(spec_Decimal.calls k1 d0 e0 _ t0.out).mono ?_);rintro e C0 ⟨rfl,hb⟩;replace HB:=bs_ HB hb;(try clear hb)))
    go_ret2
    exact⟨er_,bw_ HB⟩
   obtain⟨c4,H⟩:=gd_ H
   have y0:=decide_eq_true c4
   clear c4
   by_cases c6:(bt a0 b0)<48
   ·rw [if_pos c6] at H
    have q0:=decide_eq_true c6
    clear c6
    simp only [Option.some.injEq,Prod.mk.injEq] at H
    obtain⟨rfl,rfl⟩:=H
    have p5:0≤(b0:Int):=od_
    have q5:b0<(a0.size:Int):=od_
    have v0:=bt_at a0 b0
    replace p5:=eq_true p5
    replace q5:=eq_true q5
    go_wp2
    go_ret2
    exact⟨er_,bw_ HB⟩
   rw [if_neg c6] at H
   have q0:=decide_eq_false c6
   clear c6
   by_cases c8:(bt a0 b0)>57
   ·rw [if_pos c8] at H
    have r0:=decide_eq_true c8
    clear c8
    simp only [Option.some.injEq,Prod.mk.injEq] at H
    obtain⟨rfl,rfl⟩:=H
    have p5:0≤(b0:Int):=od_
    have q5:b0<(a0.size:Int):=od_
    have v0:=bt_at a0 b0
    replace p5:=eq_true p5
    replace q5:=eq_true q5
    have p7:0≤(b0:Int):=od_
    have q7:b0<(a0.size:Int):=od_
    have A0:=bt_at a0 b0
    replace p7:=eq_true p7
    replace q7:=eq_true q7
    go_wp2
    go_ret2
    exact⟨er_,bw_ HB⟩
   rw [if_neg c8] at H
   have r0:=decide_eq_false c8
   clear c8
   have H':=Aside0.mk H
   clear H
   have p5:0≤(b0:Int):=od_
   have q5:b0<(a0.size:Int):=od_
   have v0:=bt_at a0 b0
   replace p5:=eq_true p5
   replace q5:=eq_true q5
   have p7:0≤(b0:Int):=od_
   have q7:b0<(a0.size:Int):=od_
   have A0:=bt_at a0 b0
   replace p7:=eq_true p7
   replace q7:=eq_true q7
   have p9:0≤(b0:Int):=od_
   have q9:b0<(a0.size:Int):=od_
   have F0:=bt_at a0 b0
   replace p9:=eq_true p9
   replace q9:=eq_true q9
   go_wp2
   go_roundg k1
   case measure=>have:=s0.out;omega
   case rel=>exact⟨(wrap64 ((wrap64 ((wrap64 (10*d0))+(wrap64 (bt a0 b0)))) - 48)),(wrap64 (b0+1)),rl_,rl_,H',⟨by have:=s0.out;omega⟩,⟨bw_ HB⟩⟩
def spec_l07Number.f (k:Nat) (a0:ByteArray):Option (Int):=if(a0.size:Int)<2 then(some (-1)) else(if 1≤(a0.size:Int) then((spec_ReadDecimal.f k (a0.extract 1 a0.size)).bind fun b0=>(if b0.2=true then((spec_JournalName.f k b0.1).bind fun d0=>(if d0.toList=a0.toList then(some b0.1) else(some (-1)))) else(some (-1)))) else(none))
theorem spec_l07Number.calls (k:Nat) (a0:ByteArray) (r:Int) (w:World) (h:spec_l07Number.f k a0=some r):
  Calls Tryz.prog 18 #[.string a0] w fun e w'=>e= .returned (.int .i64 r)∧Below w.heap.size w w':=by
 have HB:=mk_ (Below.refl w.heap.size w)
 have H:=h
 unfold spec_l07Number.f at H
 clear h
 by_cases c2:(a0.size:Int)<2
 ·rw [if_pos c2] at H
  have e0:=decide_eq_true c2
  have g0:decide (a0.size<2)=true:=decide_eq_true (by omega)
  clear c2
  obtain rfl:=Option.some.inj H
  go_enter Tryz.func18,Tryz.ntmps18
  go_wp2
  go_ret
  exact⟨er_,bw_ HB⟩
 rw [if_neg c2] at H
 have e0:=decide_eq_false c2
 have g0:decide (a0.size<2)=false:=decide_eq_false (by omega)
 clear c2
 obtain⟨c3,H⟩:=gd_ H
 have o0:=eq_true c3
 have p0:=decide_eq_true c3
 clear c3
 obtain⟨⟨b0,h0⟩,A4,H⟩:=ob_ H
 try dsimp only at H
 by_cases c5:h0=true
 rotate_left
 ·replace c5:=Bool.eq_false_iff.mpr c5
  subst c5
  rw [if_neg (show ¬(false=true) by decide)] at H
  obtain rfl:=Option.some.inj H
  go_enter Tryz.func18,Tryz.ntmps18
  go_wp2_with (first|((with_reducible refine gc_ 42 rfl ?_);refine gm_ 11 Tryz.func42 (spec_ReadDecimal.calls k (a0.extract 1 a0.size) b0 false _ A4.out) ?_;rintro q0 hb;replace HB:=bs_ HB hb;(try clear hb)))
  go_ret
  exact⟨er_,bw_ HB⟩
 subst c5
 rw [if_pos rfl] at H
 obtain⟨d0,A6,H⟩:=ob_ H
 try dsimp only at H
 by_cases c7:d0.toList=a0.toList
 rotate_left
 ·rw [if_neg c7] at H
  have m0:=beq_eq_false_iff_ne.mpr c7
  have n0:=bne_iff_ne.mpr c7
  obtain rfl:=Option.some.inj H
  go_enter Tryz.func18,Tryz.ntmps18
  go_wp2_with (first|((with_reducible refine gc_ 42 rfl ?_);refine gm_ 11 Tryz.func42 (spec_ReadDecimal.calls k (a0.extract 1 a0.size) b0 true _ A4.out) ?_;rintro r0 hb;replace HB:=bs_ HB hb;(try clear hb))|(go_at_call 20;(with_reducible refine(spec_JournalName.calls k b0 d0 _ A6.out).mono ?_);rintro e s0 ⟨rfl,hb⟩;replace HB:=bs_ HB hb;(try clear hb)))
  go_ret
  exact⟨er_,bw_ HB⟩
 rw [if_pos c7] at H
 have m0:=beq_iff_eq.mpr c7
 have n0:=bne_eq_false_iff_eq.mpr c7
 clear c7
 obtain rfl:=Option.some.inj H
 go_enter Tryz.func18,Tryz.ntmps18
 go_wp2_with (first|((with_reducible refine gc_ 42 rfl ?_);refine gm_ 11 Tryz.func42 (spec_ReadDecimal.calls k (a0.extract 1 a0.size) b0 true _ A4.out) ?_;rintro w8 hb;replace HB:=bs_ HB hb;(try clear hb))|(go_at_call 20;(with_reducible refine(spec_JournalName.calls k b0 d0 _ A6.out).mono ?_);rintro e w9 ⟨rfl,hb⟩;replace HB:=bs_ HB hb;(try clear hb)))
 go_ret
 exact⟨er_,bw_ HB⟩
def spec_l03At.l0:Nat→ByteArray→Int→List (S49)→Option (Int)
 |0,_,_,_=>none
 |k+1,x1,x5,a0=>if x5<(a0.length:Int) then(if 0≤x5 then(if((rd_T49 a0 x5).f0).toList=x1.toList then(some x5) else(spec_l03At.l0 k x1 (wrap64 (x5+1)) a0)) else(none)) else(some (-1))
def spec_l03At.f (k:Nat) (a0:List (S49)) (a1:ByteArray):Option (Int):=spec_l03At.l0 k a1 0 a0
theorem spec_l03At.calls (k:Nat) (o0:Option Addr) (p0:Nat) (e0:List (S49)) (a1:ByteArray) (r:Int) (w:World) (q0:Kd.C k49 w o0 e0.length e0) (r0:e0.length≤p0) (h:spec_l03At.f k e0 a1=some r):
  Calls Tryz.prog 22 #[.agg #[.slice o0 e0.length p0],.string a1] w fun e w'=>e= .returned (.int .i64 r)∧Below w.heap.size w w':=by
 have M0:=Tryz.underlying36
 have s0:=Aside0.mk q0
 have J0:=Aside0.mk r0
 clear q0 r0
 have HB:=mk_ (Below.refl w.heap.size w)
 have H:(spec_l03At.l0 k a1 0 e0)=some r:=h
 clear h
 have H':=Aside0.mk H
 clear H
 go_enter Tryz.func22,Tryz.ntmps22
 go_wp2_with (first|((with_reducible refine gn_ 2 rfl ?_);refine bv_ (cs:=#[.slice o0 e0.length p0]) (t:=36) HB ?_;clear HB;intro v0 w3 n0 K0 HB))
 go_loopg [5] k (fun kq v5 w'=>∃(g0:Int),v5= .int .i64 g0∧Aside0 (spec_l03At.l0 kq a1 g0 e0=some r)∧Aside0 (kq≤k)∧Aside0 (w'.heap[v0]? =some (.cells #[(.slice o0 e0.length p0)] 36 (0,0)))∧Aside0 (Below w.heap.size w w'))
 case atStart=>exact⟨(0),rl_,H',⟨Nat.le_refl _⟩,⟨bf_⟩,⟨bw_ HB⟩⟩
 case round=>
  clear H'
  try clear p2
  obtain⟨g0,rfl,HA,L0,n0,HB⟩:=hrel
  cases gk with
  |zero=>exact absurd HA.out (by simp [spec_l03At.l0])
  |succ k1=>
   have H:=HA.out
   clear HA
   simp only [spec_l03At.l0] at H
   refine ic_ H ?_ ?_ <;> clear H <;> intro N0 H
   ·obtain rfl:=Option.some.inj H
    obtain⟨y0,A0⟩:=b1_ n0
    go_wp2
    go_ret
    exact⟨er_,bw_ HB⟩
   obtain⟨c5,H⟩:=gd_ H
   have O0:=decide_eq_true c5
   clear c5
   by_cases c6:((rd_T49 e0 g0).f0).toList=a1.toList
   ·rw [if_pos c6] at H
    have B0:=beq_iff_eq.mpr c6
    have C0:=bne_eq_false_iff_eq.mpr c6
    clear c6
    obtain rfl:=Option.some.inj H
    obtain⟨F0,G0⟩:=b1_ n0
    have h0:0≤(g0:Int):=od_
    have m0:g0<(e0.length:Int):=od_
    obtain⟨x0,t0,a0,b0,d0⟩:=at_T49 s0.out g0 h0 m0
    cases t0
    replace a0:=hc_ HB a0
    replace b0:=hc_ HB b0
    replace d0:=hc_ HB d0
    replace h0:=eq_true h0
    replace m0:=eq_true m0
    go_wp2
    go_ret
    exact⟨er_,bw_ HB⟩
   rw [if_neg c6] at H
   have B0:=beq_eq_false_iff_ne.mpr c6
   have C0:=bne_iff_ne.mpr c6
   have H':=Aside0.mk H
   clear H
   obtain⟨H0,I0⟩:=b1_ n0
   have h0:0≤(g0:Int):=od_
   have m0:g0<(e0.length:Int):=od_
   obtain⟨x0,t0,a0,b0,d0⟩:=at_T49 s0.out g0 h0 m0
   cases t0
   replace a0:=hc_ HB a0
   replace b0:=hc_ HB b0
   replace d0:=hc_ HB d0
   replace h0:=eq_true h0
   replace m0:=eq_true m0
   go_wp2
   go_roundg k1
   case measure=>have:=L0.out;omega
   case rel=>exact⟨(wrap64 (g0+1)),rl_,H',⟨by have:=L0.out;omega⟩,⟨bf_⟩,⟨bw_ HB⟩⟩
def spec_FileAt.f (k:Nat) (b0:List (S49)) (a1:ByteArray):Option (ByteArray × Bool):=(spec_l03At.f k b0 a1).bind fun a0=>(if a0<0 then(some ((⟨#[]⟩:ByteArray),false)) else(if 0≤a0 then(if a0<(b0.length:Int) then(some ((rd_T49 b0 a0).f1,true)) else(none)) else(none)))
theorem spec_FileAt.calls (k:Nat) (h0:Option Addr) (m0:Nat) (b0:List (S49)) (a1:ByteArray) (r1:ByteArray) (r2:Bool) (w:World) (p0:Kd.C k49 w h0 b0.length b0) (q0:b0.length≤m0) (h:spec_FileAt.f k b0 a1=some (r1,r2)):
  Calls Tryz.prog 19 #[.agg #[.slice h0 b0.length m0],.string a1] w fun e w'=>e= .returned (.tuple #[.string r1,.bool r2])∧Below w.heap.size w w':=by
 have K0:=Tryz.underlying36
 have o0:=Aside0.mk p0
 have r0:=Aside0.mk q0
 clear p0 q0
 have HB:=mk_ (Below.refl w.heap.size w)
 have H:=h
 unfold spec_FileAt.f at H
 clear h
 obtain⟨n0,A3,H⟩:=ob_ H
 try dsimp only at H
 by_cases c4:n0<0
 ·rw [if_pos c4] at H
  have F0:=decide_eq_true c4
  clear c4
  simp only [Option.some.injEq,Prod.mk.injEq] at H
  obtain⟨rfl,rfl⟩:=H
  go_enter Tryz.func19,Tryz.ntmps19
  go_wp2_with (first|((with_reducible refine gn_ 2 rfl ?_);refine bv_ (cs:=#[.slice h0 b0.length m0]) (t:=36) HB ?_;clear HB;intro v0 w5 a0 x0 HB;obtain⟨G0,H0⟩:=b1_ a0)|((with_reducible refine gc_ 22 rfl ?_);refine gx_ 9 Tryz.func22 #[.agg #[.slice h0 b0.length m0],.string a1] (spec_l03At.calls k _ _ b0 a1 n0 _ ?side1 ?side2 A3.out) ?_;(case side1=>repeat(first|exact(Kd.C_below o0.out HB.out)|(with_reducible refine Kd.C_alloc ?_ _)|(with_reducible refine Kd.C_drewN ?_ _)|(with_reducible refine Kd.C_drew ?_)));(case side2=>exact r0.out);rintro w7 hb;replace a0:=bb_ a0 hb;replace HB:=bs_ HB hb;(try clear hb)))
  go_ret2
  exact⟨er_,bw_ HB⟩
 rw [if_neg c4] at H
 have F0:=decide_eq_false c4
 clear c4
 obtain⟨c8,H⟩:=gd_ H
 have L0:=decide_eq_true c8
 clear c8
 obtain⟨c9,H⟩:=gd_ H
 have M0:=decide_eq_true c9
 clear c9
 simp only [Option.some.injEq,Prod.mk.injEq] at H
 obtain⟨rfl,rfl⟩:=H
 go_enter Tryz.func19,Tryz.ntmps19
 go_wp2_with (first|((with_reducible refine gn_ 2 rfl ?_);refine bv_ (cs:=#[.slice h0 b0.length m0]) (t:=36) HB ?_;clear HB;intro v0 N0 a0 x0 HB;obtain⟨y0,A0⟩:=b1_ a0)|((with_reducible refine gc_ 22 rfl ?_);refine gx_ 9 Tryz.func22 #[.agg #[.slice h0 b0.length m0],.string a1] (spec_l03At.calls k _ _ b0 a1 n0 _ ?side1 ?side2 A3.out) ?_;(case side1=>repeat(first|exact(Kd.C_below o0.out HB.out)|(with_reducible refine Kd.C_alloc ?_ _)|(with_reducible refine Kd.C_drewN ?_ _)|(with_reducible refine Kd.C_drew ?_)));(case side2=>exact r0.out);rintro O0 hb;replace a0:=bb_ a0 hb;replace HB:=bs_ HB hb;(try clear hb);obtain⟨B0,C0⟩:=b1_ a0;have s0:0≤(n0:Int):=od_;have t0:n0<(b0.length:Int):=od_;obtain⟨J0,I0,d0,e0,g0⟩:=at_T49 o0.out n0 s0 t0;cases I0;replace d0:=hc_ HB d0;replace e0:=hc_ HB e0;replace g0:=hc_ HB g0;replace s0:=eq_true s0;replace t0:=eq_true t0))
 go_ret2
 exact⟨er_,bw_ HB⟩
def spec_l01Var.l0:Nat→Int→List Int→Option (ByteArray)
 |0,_,_=>none
 |k+1,x0,x3=>if x0>127 then(if x3.length<140737488355328 then(spec_l01Var.l0 k (wrap64 (Int.tdiv x0 128)) (x3++ [(wrap64 ((Int.tmod x0 128)+128)) % 256])) else(none)) else(if x3.length<140737488355328 then(some (strOfNums (x3++ [(x0) % 256]))) else(none))
def spec_l01Var.f (k:Nat) (a0:Int):Option (ByteArray):=spec_l01Var.l0 k a0 (([]:List Int))
theorem spec_l01Var.calls (k:Nat) (a0:Int) (r:ByteArray) (w:World) (h:spec_l01Var.f k a0=some r):
  Calls Tryz.prog 71 #[.int .i64 a0] w fun e w'=>e= .returned (.string r)∧Below w.heap.size w w':=by
 have HB:=mk_ (Below.refl w.heap.size w)
 have H:=h
 unfold spec_l01Var.f at H
 clear h
 obtain⟨o0,e0⟩:∃y_:List Int,y_=(([]:List Int)):=⟨_,rfl⟩
 replace H:(spec_l01Var.l0 k a0 o0)=some r:=by first|(rw [e0];with_reducible exact H)|with_reducible exact H
 have n0:=Aside0.mk e0
 clear e0
 have H':=Aside0.mk H
 clear H
 go_enter Tryz.func71,Tryz.ntmps71
 go_wp2_with (first|((with_reducible refine gn_ 4 rfl ?_);refine Kd.R_lit (Kd.int .u8) _ 5 ?hg (N:=4) ?hd (xs:=([]:List Int)) (inner:=[]) (ok:=fun _=>True) (okp:=fun _=>True) ?hr ?hp (fun _ hk=>hk) trivial (Below.refl _ _) (Nat.le_refl _) (by simp) ?_;(case hd=>rfl);(case hg=>rfl);(case hr=>first|(go_simp;done)|(go_simp;rfl));(case hp=>exact(Reps.none _ _));intro F0 w2 p0 hb hg_ hnew_;clear hg_ hnew_;(first|rw [←n0.out] at p0|(simp only [Int.reduceToNat] at p0;rw [←n0.out] at p0));have q0:=mk_ (Kd.R_lower p0 (below_size (bw_ HB)));replace HB:=bs_ HB hb;clear hb p0))
 go_loopg [0,3] k (fun kq v0 v3 w'=>∃(b0:Int) (d0:List Int),v0= .int .i64 b0∧Aside0 (spec_l01Var.l0 kq b0 d0=some r)∧Aside0 (kq≤k)∧Aside0 (Kd.R (Kd.int .u8) 5 w' w.heap.size (fun _=>True) v3 d0)∧Aside0 (Below w.heap.size w w'))
 case atStart=>exact⟨(a0),(o0),rl_,H',⟨Nat.le_refl _⟩,⟨rq_ q0.out⟩,⟨bw_ HB⟩⟩
 case round=>
  clear H'
  try clear p2
  obtain⟨b0,d0,rfl,HA,C0,m0,HB⟩:=hrel
  cases gk with
  |zero=>exact absurd HA.out (by simp [spec_l01Var.l0])
  |succ k1=>
   have H:=HA.out
   clear HA
   simp only [spec_l01Var.l0] at H
   refine ig_ H ?_ ?_ <;> clear H <;> intro G0 H
   ·obtain⟨c7,H⟩:=gd_ H
    have y0:=Aside0.mk c7
    clear c7
    obtain⟨H0,g0⟩:∃y_:List Int,y_=(d0++ [(b0) % 256]):=⟨_,rfl⟩
    rw [←g0] at H
    have r0:=Aside0.mk g0
    clear g0
    obtain rfl:=Option.some.inj H
    go_wp2_with (first|((with_reducible refine gate_builtin (b:= .append) (xs:=#[.tmp 16,.tmp 19]) rfl ?_);at_builtin;refine Kd.R_append (Kd.int .u8) (w0:=w) w.heap.size rfl (.tmp 16) (.tmp 19) 95 5 (.int .u8 0) 1 rfl Tryz.underlying95 info5 rfl (by decide) (by omega) u3 d0 ((b0) % 256) [.int .u8 ((b0) % 256)] (fun _=>True) (fun _=>False) rfl rfl ?aP (fun _ hk=>hk.elim) ?aF ?aO ?aB ?aS ?aL ?_;(case aP=>exact rfl);(case aB=>exact(bw_ HB));(case aF=>exact(fun _ _=>trivial));(case aO=>exact(rp_ m0));(case aS=>exact(below_size (bw_ HB)));(case aL=>have:=y0.out;omega);intro I0 w8 ho hb hg hat;rw [←r0.out] at ho;have s0:=mk_ (ho);replace HB:=mk_ (hb);clear m0;clear ho hb hg hat;have J0:=own_string (P:=Tryz.prog) Tryz.underlying95 Tryz.underlying5 Tryz.underlying9 (Kd.own_of_R s0.out)))
    go_ret
    exact⟨er_,bw_ HB⟩
   obtain⟨c5,H⟩:=gd_ H
   have A0:=Aside0.mk c5
   clear c5
   obtain⟨B0,h0⟩:∃y_:List Int,y_=(d0++ [(wrap64 ((Int.tmod b0 128)+128)) % 256]):=⟨_,rfl⟩
   rw [←h0] at H
   have t0:=Aside0.mk h0
   clear h0
   have H':=Aside0.mk H
   clear H
   go_wp2_with (first|((with_reducible refine gate_builtin (b:= .append) (xs:=#[.tmp 7,.tmp 12]) rfl ?_);at_builtin;refine Kd.R_append (Kd.int .u8) (w0:=w) w.heap.size rfl (.tmp 7) (.tmp 12) 95 5 (.int .u8 0) 1 rfl Tryz.underlying95 info5 rfl (by decide) (by omega) u3 d0 ((wrap64 ((Int.tmod b0 128)+128)) % 256) [.int .u8 ((wrap64 ((Int.tmod b0 128)+128)) % 256)] (fun _=>True) (fun _=>False) rfl rfl ?aP (fun _ hk=>hk.elim) ?aF ?aO ?aB ?aS ?aL ?_;(case aP=>exact rfl);(case aB=>exact(bw_ HB));(case aF=>exact(fun _ _=>trivial));(case aO=>exact(rp_ m0));(case aS=>exact(below_size (bw_ HB)));(case aL=>have:=A0.out;omega);intro K0 w6 ho hb hg hat;rw [←t0.out] at ho;have x0:=mk_ (ho);replace HB:=mk_ (hb);clear m0;clear ho hb hg hat))
   go_roundg k1
   case measure=>have:=C0.out;omega
   case rel=>exact⟨(wrap64 (Int.tdiv b0 128)),(B0),rl_,H',⟨by have:=C0.out;omega⟩,⟨rq_ x0.out⟩,⟨bw_ HB⟩⟩
def spec_l02Four.f (a0:Int):Option (ByteArray):=some (strOfNums (([(a0 / 16777216) % 256,(a0 / 65536) % 256,(a0 / 256) % 256,(a0) % 256]:List Int)))
theorem spec_l02Four.calls (a0:Int) (r:ByteArray) (w:World) (h:spec_l02Four.f a0=some r):
  Calls Tryz.prog 75 #[.int .u32 a0] w fun e w'=>e= .returned (.string r)∧Below w.heap.size w w':=by
 have HB:=mk_ (Below.refl w.heap.size w)
 have H:=h
 unfold spec_l02Four.f at H
 clear h
 obtain⟨h0,b0⟩:∃y_:List Int,y_=(([(a0 / 16777216) % 256,(a0 / 65536) % 256,(a0 / 256) % 256,(a0) % 256]:List Int)):=⟨_,rfl⟩
 rw [←b0] at H
 have d0:=Aside0.mk b0
 clear b0
 obtain rfl:=Option.some.inj H
 go_enter Tryz.func75,Tryz.ntmps75
 go_wp2_with (first|((with_reducible refine gn_ 14 rfl ?_);refine Kd.R_lit (Kd.int .u8) _ 5 ?hg (N:=14) ?hd (xs:=([(a0 / 16777216) % 256,(a0 / 65536) % 256,(a0 / 256) % 256,(a0) % 256]:List Int)) (inner:=[.int .u8 ((a0 / 16777216) % 256),.int .u8 ((a0 / 65536) % 256),.int .u8 ((a0 / 256) % 256),.int .u8 ((a0) % 256)]) (ok:=fun _=>True) (okp:=fun _=>True) ?hr ?hp (fun _ hk=>hk) trivial (Below.refl _ _) (Nat.le_refl _) (by simp) ?_;(case hd=>rfl);(case hg=>rfl);(case hr=>first|(go_simp;done)|(go_simp;rfl));(case hp=>exact(Reps.one (show Kd.M (Kd.int .u8) _ _ _ ((a0 / 16777216) % 256) [.int .u8 ((a0 / 16777216) % 256)] from rfl) (Reps.one (show Kd.M (Kd.int .u8) _ _ _ ((a0 / 65536) % 256) [.int .u8 ((a0 / 65536) % 256)] from rfl) (Reps.one (show Kd.M (Kd.int .u8) _ _ _ ((a0 / 256) % 256) [.int .u8 ((a0 / 256) % 256)] from rfl) (Reps.one (show Kd.M (Kd.int .u8) _ _ _ ((a0) % 256) [.int .u8 ((a0) % 256)] from rfl) (Reps.none _ _))))));intro m0 w2 e0 hb hg_ hnew_;clear hg_ hnew_;(first|rw [←d0.out] at e0|(simp only [Int.reduceToNat] at e0;rw [←d0.out] at e0));have g0:=mk_ (Kd.R_lower e0 (below_size (bw_ HB)));replace HB:=bs_ HB hb;clear hb e0;have n0:=own_string (P:=Tryz.prog) Tryz.underlying95 Tryz.underlying5 Tryz.underlying9 (Kd.own_of_R g0.out)))
 go_ret
 exact⟨er_,bw_ HB⟩
mutual
def spec_SumMore.l0:Nat→Int→ByteArray→Int→Option (Int)
 |0,_,_,_=>none
 |k+1,x0,x1,x5=>if x5<(x1.size:Int) then(if 0≤x5 then(spec_SumMore.l1 k (Go.bits .xor .u32 x0 ((bt x1 x5) % 4294967296)) x1 x5 0) else(none)) else(some x0)
def spec_SumMore.l1:Nat→Int→ByteArray→Int→Int→Option (Int)
 |0,_,_,_,_=>none
 |k+1,x0,x1,x5,x6=>if x6<8 then(if(Int.tmod x0 2)=1 then(spec_SumMore.l1 k (Go.bits .xor .u32 ((Int.tdiv x0 2) % 4294967296) 3558460437) x1 x5 (wrap64 (x6+1))) else(spec_SumMore.l1 k ((Int.tdiv x0 2) % 4294967296) x1 x5 (wrap64 (x6+1)))) else(spec_SumMore.l0 k x0 x1 (wrap64 (x5+1)))
end
def spec_SumMore.f (k:Nat) (a0:Int) (a1:ByteArray):Option (Int):=spec_SumMore.l0 k a0 a1 0
theorem spec_SumMore.calls (k:Nat) (a0:Int) (a1:ByteArray) (r:Int) (w:World) (h:spec_SumMore.f k a0 a1=some r):
  Calls Tryz.prog 100 #[.int .u32 a0,.string a1] w fun e w'=>e= .returned (.int .u32 r)∧Drawn0 w w':=by
 have H:(spec_SumMore.l0 k a0 a1 0)=some r:=h
 clear h
 have H':=Aside0.mk H
 clear H
 go_enter Tryz.func100,Tryz.ntmps100
 go_wp2
 go_loopg [0,5] k (fun kq v0 v5 w'=>∃(g0:Int) (b0:Int),v0= .int .u32 g0∧v5= .int .i64 b0∧Aside0 (spec_SumMore.l0 kq g0 a1 b0=some r)∧Aside0 (kq≤k)∧Drawn0 w w')
 case atStart=>exact⟨(a0),(0),rl_,rl_,H',⟨Nat.le_refl _⟩,by repeat(first|exact Drawn0.refl _|apply Drawn0.step)⟩
 case round=>
  clear H'
  try clear p2
  obtain⟨g0,b0,rfl,rfl,HA,h0,⟨m1,rfl⟩⟩:=hrel
  cases gk with
  |zero=>exact absurd HA.out (by simp [spec_SumMore.l0])
  |succ k1=>
   have H:=HA.out
   clear HA
   simp only [spec_SumMore.l0] at H
   refine ic_ H ?_ ?_ <;> clear H <;> intro p0 H
   ·obtain rfl:=Option.some.inj H
    go_wp2
    go_ret
    exact⟨by first|rfl|(simp;done)|(simp [*];done)|(simp [bne];done),by repeat(first|exact Drawn0.refl _|apply Drawn0.step)⟩
   obtain⟨c4,H⟩:=gd_ H
   have q0:=decide_eq_true c4
   clear c4
   have H':=Aside0.mk H
   clear H
   have p5:0≤(b0:Int):=od_
   have q5:b0<(a1.size:Int):=od_
   have r0:=bt_at a1 b0
   replace p5:=eq_true p5
   replace q5:=eq_true q5
   go_wp2
   go_loopg [0,6] k1 (fun kq v0 v6 w'=>∃(d0:Int) (e0:Int),v0= .int .u32 d0∧v6= .int .i64 e0∧Aside0 (spec_SumMore.l1 kq d0 a1 b0 e0=some r)∧Aside0 (kq≤k1)∧Drawn0 w w')
   case atStart=>exact⟨(Go.bits .xor .u32 g0 ((bt a1 b0) % 4294967296)),(0),rl_,rl_,H',⟨Nat.le_refl _⟩,by repeat(first|exact Drawn0.refl _|apply Drawn0.step)⟩
   case round=>
    clear H'
    (try clear p2);(try clear p5);(try clear q5);(try clear r0);(try clear p2);(try clear p5);(try clear q5)
    obtain⟨d0,e0,rfl,rfl,HA,m0,⟨m2,rfl⟩⟩:=hrel
    cases gk with
    |zero=>exact absurd HA.out (by simp [spec_SumMore.l1])
    |succ k2=>
     have H:=HA.out
     clear HA
     simp only [spec_SumMore.l1] at H
     refine ic_ H ?_ ?_ <;> clear H <;> intro s0 H
     ·have H':=Aside0.mk H
      clear H
      go_wp2
      go_roundg k2
      case measure=>have:=h0.out;have:=m0.out;omega
      case rel=>exact⟨(d0),(wrap64 (b0+1)),rl_,rl_,H',⟨by have:=h0.out;have:=m0.out;omega⟩,by repeat(first|exact Drawn0.refl _|apply Drawn0.step)⟩
     by_cases c7:(Int.tmod d0 2)=1
     rotate_left
     ·rw [if_neg c7] at H
      have n0:=beq_eq_false_iff_ne.mpr c7
      have o0:=bne_iff_ne.mpr c7
      have H':=Aside0.mk H
      clear H
      go_wp2
      go_roundg k2
      case measure=>have:=h0.out;have:=m0.out;omega
      case rel=>exact⟨((Int.tdiv d0 2) % 4294967296),(wrap64 (e0+1)),rl_,rl_,H',⟨by have:=h0.out;have:=m0.out;omega⟩,by repeat(first|exact Drawn0.refl _|apply Drawn0.step)⟩
     rw [if_pos c7] at H
     have n0:=beq_iff_eq.mpr c7
     have o0:=bne_eq_false_iff_eq.mpr c7
     clear c7
     have H':=Aside0.mk H
     clear H
     go_wp2
     go_roundg k2
     case measure=>have:=h0.out;have:=m0.out;omega
     case rel=>exact⟨(Go.bits .xor .u32 ((Int.tdiv d0 2) % 4294967296) 3558460437),(wrap64 (e0+1)),rl_,rl_,H',⟨by have:=h0.out;have:=m0.out;omega⟩,by repeat(first|exact Drawn0.refl _|apply Drawn0.step)⟩
def spec_SumOf.f (k:Nat) (a0:ByteArray):Option (Int):=(spec_SumMore.f k 4294967295 a0).bind fun b0=>(some b0)
theorem spec_SumOf.calls (k:Nat) (a0:ByteArray) (r:Int) (w:World) (h:spec_SumOf.f k a0=some r):
  Calls Tryz.prog 76 #[.string a0] w fun e w'=>e= .returned (.int .u32 r)∧Drawn0 w w':=by
 have H:=h
 unfold spec_SumOf.f at H
 clear h
 obtain⟨b0,A2,H⟩:=ob_ H
 try dsimp only at H
 obtain rfl:=Option.some.inj H
 go_enter Tryz.func76,Tryz.ntmps76
 go_wp2_with (first|((with_reducible refine gc_ 100 rfl ?_);refine gm_ 4 Tryz.func100 (spec_SumMore.calls k 4294967295 a0 b0 _ A2.out) ?_;rintro w' ⟨nd,rfl⟩))
 go_ret
 exact⟨by first|rfl|(simp;done)|(simp [*];done)|(simp [bne];done),by repeat(first|exact Drawn0.refl _|apply Drawn0.step)⟩
def spec_Frame.f (k:Nat) (a0:ByteArray):Option (ByteArray × Bool):=(spec_l01In.f (a0.size:Int) 1 9000).bind fun e0=>(if e0=true then((spec_l01Var.f k (a0.size:Int)).bind fun b0=>((spec_SumOf.f k a0).bind fun g0=>((spec_l02Four.f g0).bind fun d0=>(if b0.size+d0.size≤9223372036854775807 then(if(b0++d0).size+a0.size≤9223372036854775807 then(some ((b0++d0)++a0,true)) else(none)) else(none))))) else(some ((⟨#[]⟩:ByteArray),false)))
theorem spec_Frame.calls (k:Nat) (a0:ByteArray) (r1:ByteArray) (r2:Bool) (w:World) (h:spec_Frame.f k a0=some (r1,r2)):
  Calls Tryz.prog 48 #[.string a0] w fun e w'=>e= .returned (.tuple #[.string r1,.bool r2])∧Below w.heap.size w w':=by
 have HB:=mk_ (Below.refl w.heap.size w)
 have H:=h
 unfold spec_Frame.f at H
 clear h
 obtain⟨g0,A2,H⟩:=ob_ H
 try dsimp only at H
 by_cases c3:g0=true
 rotate_left
 ·replace c3:=Bool.eq_false_iff.mpr c3
  subst c3
  rw [if_neg (show ¬(false=true) by decide)] at H
  simp only [Option.some.injEq,Prod.mk.injEq] at H
  obtain⟨rfl,rfl⟩:=H
  go_enter Tryz.func48,Tryz.ntmps48
  go_wp2_with (first|((with_reducible refine gc_ 41 rfl ?_);refine gm_ 6 Tryz.func41 (spec_l01In.calls (a0.size:Int) 1 9000 false _ A2.out) ?_;rintro w' ⟨nd,rfl⟩))
  go_ret2
  exact⟨er_,bw_ HB⟩
 subst c3
 rw [if_pos rfl] at H
 obtain⟨b0,A4,H⟩:=ob_ H
 try dsimp only at H
 obtain⟨d0,A5,H⟩:=ob_ H
 try dsimp only at H
 obtain⟨e0,A6,H⟩:=ob_ H
 try dsimp only at H
 obtain⟨c7,H⟩:=gd_ H
 have h0:=eq_true c7
 have m0:=decide_eq_true c7
 have n0:=eq_false (Nat.not_lt.2 c7)
 obtain⟨c8,H⟩:=gd_ H
 have o0:=eq_true c8
 have p0:=decide_eq_true c8
 have q0:=eq_false (Nat.not_lt.2 c8)
 have r0:(9223372036854775807<b0.size+e0.size+a0.size)=False:=eq_false (by have h_:=c8;simp only [ByteArray.size_append] at h_;exact Nat.not_lt.2 h_)
 simp only [Option.some.injEq,Prod.mk.injEq] at H
 obtain⟨rfl,rfl⟩:=H
 go_enter Tryz.func48,Tryz.ntmps48
 go_wp2_with (first|((with_reducible refine gc_ 41 rfl ?_);refine gm_ 6 Tryz.func41 (spec_l01In.calls (a0.size:Int) 1 9000 true _ A2.out) ?_;rintro w' ⟨nd,rfl⟩)|((with_reducible refine gc_ 71 rfl ?_);refine gm_ 10 Tryz.func71 (spec_l01Var.calls k (a0.size:Int) b0 _ A4.out) ?_;rintro w9 hb;replace HB:=bs_ HB hb;(try clear hb))|((with_reducible refine gc_ 76 rfl ?_);refine gm_ 12 Tryz.func76 (spec_SumOf.calls k a0 d0 _ A5.out) ?_;rintro w' ⟨nd,rfl⟩)|((with_reducible refine gc_ 75 rfl ?_);refine gm_ 13 Tryz.func75 (spec_l02Four.calls d0 e0 _ A6.out) ?_;rintro s0 hb;replace HB:=bs_ HB hb;(try clear hb)))
 go_ret2
 exact⟨er_,bw_ HB⟩
mutual
def spec_ReadVar.l0:Nat→ByteArray→Int→Int→Int→Int→Option (Int × Int × Bool)
 |0,_,_,_,_,_=>none
 |k+1,x0,x1,x7,x8,x9=>if x9<(x0.size:Int) then(spec_ReadVar.j1 k x0 x1 x7 x8 x9 (decide (x9<(wrap64 (x1+5))))) else(spec_ReadVar.j1 k x0 x1 x7 x8 x9 false)
def spec_ReadVar.j1:Nat→ByteArray→Int→Int→Int→Int→Bool→Option (Int × Int × Bool)
 |0,_,_,_,_,_,_=>none
 |k+1,x0,x1,x7,x8,x9,b0=>if b0=true then(if 0≤x9 then(if x9<(x0.size:Int) then(if(bt x0 x9)<128 then(if(wrap64 (x7+(wrap64 ((Int.tmod (wrap64 (bt x0 x9)) 128)*x8))))>1000000000 then(some (0,0,false)) else((spec_l01Var.f k (wrap64 (x7+(wrap64 ((Int.tmod (wrap64 (bt x0 x9)) 128)*x8))))).bind fun a0=>(if 0≤x1 then(if x1≤(wrap64 (x9+1)) then(if(wrap64 (x9+1))≤(x0.size:Int) then(if a0.toList=(x0.extract (x1:Int).toNat ((wrap64 (x9+1)):Int).toNat).toList then(some (wrap64 (x7+(wrap64 ((Int.tmod (wrap64 (bt x0 x9)) 128)*x8))),wrap64 (x9+1),true)) else(some (0,0,false))) else(none)) else(none)) else(none)))) else(spec_ReadVar.l0 k x0 x1 (wrap64 (x7+(wrap64 ((Int.tmod (wrap64 (bt x0 x9)) 128)*x8)))) (wrap64 (x8*128)) (wrap64 (x9+1)))) else(none)) else(none)) else(some (0,0,false))
end
def spec_ReadVar.f (k:Nat) (a0:ByteArray) (a1:Int):Option (Int × Int × Bool):=(spec_l01In.f a1 0 (a0.size:Int)).bind fun b0=>(if b0=true then(spec_ReadVar.l0 k a0 a1 0 1 a1) else(some (0,0,false)))
def spec_ReadVar.T11:Bool × List (List Nat × List Nat):=(true,[([],[]),([0],[0]),([1],[1]),([2],[2]),([3,2,2],[2,3]),([2],[2]),([2],[2]),([2],[2]),([7,2],[2,7]),([5,6,8,2],[2,5,6,8]),([4,9,2],[2,4,9]),([2,10],[2,10])])
def spec_ReadVar.B11:List Nat:=[0,1,3,7,15,7,7,7,135,487,1023,2047]
theorem spec_ReadVar.tab11:rtab .any (opsOf Tryz.f68 11)=spec_ReadVar.T11:=by kernel_rfl
theorem spec_ReadVar.bits11:waitsOk spec_ReadVar.T11.2 spec_ReadVar.B11=true:=by kernel_rfl
theorem spec_ReadVar.calls (k:Nat) (a0:ByteArray) (a1:Int) (r1:Int) (r2:Int) (r3:Bool) (w:World) (h:spec_ReadVar.f k a0 a1=some (r1,r2,r3)):
  Calls Tryz.prog 68 #[.string a0,.int .i64 a1] w fun e w'=>e= .returned (.tuple #[.int .i64 r1,.int .i64 r2,.bool r3])∧Below w.heap.size w w':=by
 have HB:=mk_ (Below.refl w.heap.size w)
 have H:=h
 unfold spec_ReadVar.f at H
 clear h
 obtain⟨C0,A3,H⟩:=ob_ H
 try dsimp only at H
 by_cases c4:C0=true
 rotate_left
 ·replace c4:=Bool.eq_false_iff.mpr c4
  subst c4
  rw [if_neg (show ¬(false=true) by decide)] at H
  simp only [Option.some.injEq,Prod.mk.injEq] at H
  obtain⟨rfl,rfl,rfl⟩:=H
  go_enter Tryz.func68,Tryz.ntmps68
  go_wp2_with (first|((with_reducible refine gc_ 41 rfl ?_);refine gm_ 13 Tryz.func41 (spec_l01In.calls a1 0 (a0.size:Int) false _ A3.out) ?_;rintro w' ⟨nd,rfl⟩))
  go_ret3
  exact⟨er_,bw_ HB⟩
 subst c4
 rw [if_pos rfl] at H
 have H':=Aside0.mk H
 clear H
 go_enter Tryz.func68,Tryz.ntmps68
 go_wp2_with (first|((with_reducible refine gc_ 41 rfl ?_);refine gm_ 13 Tryz.func41 (spec_l01In.calls a1 0 (a0.size:Int) true _ A3.out) ?_;rintro w' ⟨nd,rfl⟩))
 go_loopg [7,8,9] k (fun kq v7 v8 v9 w'=>∃(e0:Int) (d0:Int) (b0:Int),v7= .int .i64 e0∧v8= .int .i64 d0∧v9= .int .i64 b0∧Aside0 (spec_ReadVar.l0 kq a0 a1 e0 d0 b0=some (r1,r2,r3))∧Aside0 (kq≤k)∧Aside0 (Below w.heap.size w w'))
 case atStart=>exact⟨(0),(1),(a1),rl_,rl_,rl_,H',⟨Nat.le_refl _⟩,⟨bw_ HB⟩⟩
 case round=>
  clear H'
  try clear p2
  obtain⟨e0,d0,b0,rfl,rfl,rfl,HA,B0,HB⟩:=hrel
  cases gk with
  |zero=>exact absurd HA.out (by simp [spec_ReadVar.l0])
  |succ k1=>
   have H:=HA.out
   clear HA
   simp only [spec_ReadVar.l0] at H
   have F0:=Aside0.mk H
   clear H
   go_upto_region 6 with (fail)
   go_cut [25] (fun V0 wc=>∃(kq:Nat) (g0:Bool),V0= .bool g0∧Aside0 (spec_ReadVar.j1 kq a0 a1 e0 d0 b0 g0=some (r1,r2,r3))∧Aside0 (kq≤k1)∧Aside0 (Below w.heap.size w wc))
   case first=>
    have H:=F0.out
    clear F0
    refine ic_ H ?_ ?_ <;> clear H <;> intro p0 H
    ·(first|rw [p0]|(simp only [i64_w,i32_w];rw [p0])|skip)
     have H':=Aside0.mk H
     clear H
     go_wp2
     go_meet
     case rel=>exact⟨_,(false),rl_,H',⟨by have:=B0.out;first|omega|exact Nat.le_refl _⟩,⟨bw_ HB⟩⟩
    (first|rw [p0]|(simp only [i64_w,i32_w];rw [p0])|skip)
    have H':=Aside0.mk H
    clear H
    go_wp2
    go_meet
    case rel=>exact⟨_,(decide (b0<(wrap64 (a1+5)))),rl_,H',⟨by have:=B0.out;first|omega|exact Nat.le_refl _⟩,⟨bw_ HB⟩⟩
   case rest=>
    clear F0
    (try clear p2);(try clear p6);(try clear p2)
    obtain⟨kq,g0,rfl,HA,I0,HB⟩:=hcut
    cases kq with
    |zero=>exact absurd HA.out (by simp [spec_ReadVar.j1])
    |succ G0=>
     have H:=HA.out
     clear HA
     simp only [spec_ReadVar.j1] at H
     by_cases c7:g0=true
     rotate_left
     ·replace c7:=Bool.eq_false_iff.mpr c7
      subst c7
      rw [if_neg (show ¬(false=true) by decide)] at H
      simp only [Option.some.injEq,Prod.mk.injEq] at H
      obtain⟨rfl,rfl,rfl⟩:=H
      go_wp2
      go_ret3
      exact⟨er_,bw_ HB⟩
     subst c7
     rw [if_pos rfl] at H
     obtain⟨c8,H⟩:=gd_ H
     have W0:=decide_eq_true c8
     clear c8
     obtain⟨c9,H⟩:=gd_ H
     have X0:=decide_eq_true c9
     clear c9
     refine ic_ H ?_ ?_ <;> clear H <;> intro J0 H
     ·have H':=Aside0.mk H
      clear H
      have h0:0≤(b0:Int):=od_
      have m0:b0<(a0.size:Int):=od_
      have q0:=bt_at a0 b0
      replace h0:=eq_true h0
      replace m0:=eq_true m0
      have n0:0≤(b0:Int):=od_
      have o0:b0<(a0.size:Int):=od_
      have r0:=bt_at a0 b0
      replace n0:=eq_true n0
      replace o0:=eq_true o0
      go_wp2
      go_roundg G0
      case measure=>have:=B0.out;have:=I0.out;omega
      case rel=>exact⟨(wrap64 (e0+(wrap64 ((Int.tmod (wrap64 (bt a0 b0)) 128)*d0)))),(wrap64 (d0*128)),(wrap64 (b0+1)),rl_,rl_,rl_,H',⟨by have:=B0.out;have:=I0.out;omega⟩,⟨bw_ HB⟩⟩
     by_cases v0:(wrap64 (e0+(wrap64 ((Int.tmod (wrap64 (bt a0 b0)) 128)*d0))))>1000000000
     ·rw [if_pos v0] at H
      have x0:=decide_eq_true v0
      clear v0
      simp only [Option.some.injEq,Prod.mk.injEq] at H
      obtain⟨rfl,rfl,rfl⟩:=H
      have h0:0≤(b0:Int):=od_
      have m0:b0<(a0.size:Int):=od_
      have q0:=bt_at a0 b0
      replace h0:=eq_true h0
      replace m0:=eq_true m0
      have n0:0≤(b0:Int):=od_
      have o0:b0<(a0.size:Int):=od_
      have r0:=bt_at a0 b0
      replace n0:=eq_true n0
      replace o0:=eq_true o0
      try go_wp2
      replace HB:=wd_ HB
      refine start_ (n:=12) (S:=fun w'=>True) (ds:=[]) #[false,false,false,false,false,false,false,false,false,false,false,false] (by kernel_rfl) rfl rfl trivial (fun hHeld=>?_);refine with_tabW spec_ReadVar.tab11 spec_ReadVar.bits11 (fun HT_ HW_=>?_)
      generalize wc.drew=Z0 at HB hHeld⊢
      refine pv_ 0 43 ?_
      refine pv_ 1 44 ?_
      refine pv_ 2 45 ?_
      refine pure_ (i:=3) (N:=some 46) (v:=undef) (a':=?_) #[true,true,true,true,false,false,false,false,false,false,false,false] rfl rfl (any_of HT_.out (by kernel_rfl)) (fun _ _ _ h=>h) (Or.inr ⟨by rfl,rfl⟩) ?_ ?_
      rotate_left
      ·simp only [Act.put,sia_,scz_,scs_,i64_w,i32_w]
       rfl
      refine pure_ (i:=4) (N:=some 47) (v:=undef) (a':=?_) #[true,true,true,true,true,false,false,false,false,false,false,false] rfl rfl (any_of HT_.out (by kernel_rfl)) (fun _ _ _ h=>h) (Or.inr ⟨by rfl,rfl⟩) ?_ ?_
      rotate_left
      ·simp only [Act.put,sia_,scz_,scs_,i64_w,i32_w]
       rfl
      refine pure_ (i:=5) (N:=some 48) (v:=undef) (a':=?_) #[true,true,true,true,true,true,false,false,false,false,false,false] rfl rfl (any_of HT_.out (by kernel_rfl)) (fun _ _ _ h=>h) (Or.inr ⟨by rfl,rfl⟩) ?_ ?_
      rotate_left
      ·simp only [Act.put,sia_,scz_,scs_,i64_w,i32_w]
       rfl
      refine pure_ (i:=6) (N:=some 49) (v:=undef) (a':=?_) #[true,true,true,true,true,true,true,false,false,false,false,false] rfl rfl (any_of HT_.out (by kernel_rfl)) (fun _ _ _ h=>h) (Or.inr ⟨by rfl,rfl⟩) ?_ ?_
      rotate_left
      ·simp only [Act.put,sia_,scz_,scs_,i64_w,i32_w]
       rfl
      refine pure_ (i:=7) (N:=some 50) (v:=undef) (a':=?_) #[true,true,true,true,true,true,true,true,false,false,false,false] rfl rfl (any_of HT_.out (by kernel_rfl)) (fun _ _ _ h=>h) (Or.inr ⟨by rfl,rfl⟩) ?_ ?_
      rotate_left
      ·simp only [Act.put,sia_,scz_,scs_,i64_w,i32_w]
       rfl
      refine pure_ (i:=8) (N:=some 51) (v:=undef) (a':=?_) #[true,true,true,true,true,true,true,true,true,false,false,false] rfl rfl (any_of HT_.out (by kernel_rfl)) (fun _ _ _ h=>h) (Or.inr ⟨by rfl,rfl⟩) ?_ ?_
      rotate_left
      ·simp only [Act.put,sia_,scz_,scs_,i64_w,i32_w]
       rfl
      refine pure_ (i:=9) (N:=some 52) (v:=undef) (a':=?_) #[true,true,true,true,true,true,true,true,true,true,false,false] rfl rfl (any_of HT_.out (by kernel_rfl)) (fun _ _ _ h=>h) (Or.inr ⟨by rfl,rfl⟩) ?_ ?_
      rotate_left
      ·simp only [Act.put,sia_,scz_,scs_,i64_w,i32_w]
       rfl
      refine pure_ (i:=10) (N:=some 53) (v:=undef) (a':=?_) #[true,true,true,true,true,true,true,true,true,true,true,false] rfl rfl (any_of HT_.out (by kernel_rfl)) (fun _ _ _ h=>h) (Or.inr ⟨by rfl,rfl⟩) ?_ ?_
      rotate_left
      ·simp only [Act.put,sia_,scz_,scs_,i64_w,i32_w]
       rfl
      refine pv_ 11 54 ?_
      refine done_ (done_of HT_.out (by kernel_rfl)) ?_
      try go_wp2
      go_ret3
      exact⟨er_,bw_ HB⟩
     rw [if_neg v0] at H
     have x0:=decide_eq_false v0
     clear v0
     obtain⟨s0,K0,H⟩:=ob_ H
     try dsimp only at H
     obtain⟨H0,H⟩:=gd_ H
     have L0:=eq_true H0
     have M0:=decide_eq_true H0
     clear H0
     obtain⟨N0,H⟩:=gd_ H
     have O0:=eq_true N0
     have P0:=decide_eq_true N0
     obtain⟨Q0,H⟩:=gd_ H
     have R0:=eq_true Q0
     have U0:=decide_eq_true Q0
     by_cases t0:s0.toList=(a0.extract (a1:Int).toNat ((wrap64 (b0+1)):Int).toNat).toList
     rotate_left
     ·rw [if_neg t0] at H
      have y0:=beq_eq_false_iff_ne.mpr t0
      have A0:=bne_iff_ne.mpr t0
      simp only [Option.some.injEq,Prod.mk.injEq] at H
      obtain⟨rfl,rfl,rfl⟩:=H
      have h0:0≤(b0:Int):=od_
      have m0:b0<(a0.size:Int):=od_
      have q0:=bt_at a0 b0
      replace h0:=eq_true h0
      replace m0:=eq_true m0
      have n0:0≤(b0:Int):=od_
      have o0:b0<(a0.size:Int):=od_
      have r0:=bt_at a0 b0
      replace n0:=eq_true n0
      replace o0:=eq_true o0
      try go_wp2
      replace HB:=wd_ HB
      refine start_ (n:=12) (S:=fun w'=>True) (ds:=[]) #[false,false,false,false,false,false,false,false,false,false,false,false] (by kernel_rfl) rfl rfl trivial (fun hHeld=>?_);refine with_tabW spec_ReadVar.tab11 spec_ReadVar.bits11 (fun HT_ HW_=>?_)
      generalize wc.drew=b1 at HB hHeld⊢
      refine pv_ 0 43 ?_
      refine pv_ 1 44 ?_
      refine pv_ 2 45 ?_
      refine pv_ 3 46 ?_
      refine pv_ 5 48 ?_
      refine pv_ 6 49 ?_
      refine pv_ 7 50 ?_
      refine pv_ 8 51 ?_
      refine pv_ 9 52 ?_
      refine on_ 4 47 (fun K hK=>?_)
      refine gs_ Tryz.func71 (spec_l01Var.calls G0 (wrap64 (e0+(wrap64 ((Int.tmod (wrap64 (bt a0 b0)) 128)*d0)))) s0 _ K0.out) ?_
      rintro d1 hb
      replace HB:=bs_ HB hb;(try clear hb);(try clear Y0);(try clear hk);(try clear hi)
      refine hK.out _ _ trivial (fun hHeld=>?_)
      clear hK K
      refine norm_ (a':=?_) ?_ ?_
      rotate_left
      ·show Act.put _ (some 47) _=_
       simp only [Act.put,sia_,scz_,scs_,i64_w,i32_w]
       rfl
      refine pv_ 10 53 ?_
      refine pv_ 11 54 ?_
      refine done_ (done_of HT_.out (by kernel_rfl)) ?_
      try go_wp2
      go_ret3
      exact⟨er_,bw_ HB⟩
     rw [if_pos t0] at H
     have y0:=beq_iff_eq.mpr t0
     have A0:=bne_eq_false_iff_eq.mpr t0
     clear t0
     simp only [Option.some.injEq,Prod.mk.injEq] at H
     obtain⟨rfl,rfl,rfl⟩:=H
     have h0:0≤(b0:Int):=od_
     have m0:b0<(a0.size:Int):=od_
     have q0:=bt_at a0 b0
     replace h0:=eq_true h0
     replace m0:=eq_true m0
     have n0:0≤(b0:Int):=od_
     have o0:b0<(a0.size:Int):=od_
     have r0:=bt_at a0 b0
     replace n0:=eq_true n0
     replace o0:=eq_true o0
     try go_wp2
     replace HB:=wd_ HB
     refine start_ (n:=12) (S:=fun w'=>True) (ds:=[]) #[false,false,false,false,false,false,false,false,false,false,false,false] (by kernel_rfl) rfl rfl trivial (fun hHeld=>?_);refine with_tabW spec_ReadVar.tab11 spec_ReadVar.bits11 (fun HT_ HW_=>?_)
     generalize wc.drew=e1 at HB hHeld⊢
     refine pv_ 0 43 ?_
     refine pv_ 1 44 ?_
     refine pv_ 2 45 ?_
     refine pv_ 3 46 ?_
     refine pv_ 5 48 ?_
     refine pv_ 6 49 ?_
     refine pv_ 7 50 ?_
     refine pv_ 8 51 ?_
     refine pv_ 9 52 ?_
     refine on_ 4 47 (fun K hK=>?_)
     refine gs_ Tryz.func71 (spec_l01Var.calls G0 (wrap64 (e0+(wrap64 ((Int.tmod (wrap64 (bt a0 b0)) 128)*d0)))) s0 _ K0.out) ?_
     rintro g1 hb
     replace HB:=bs_ HB hb;(try clear hb);(try clear Y0);(try clear hk);(try clear hi)
     refine hK.out _ _ trivial (fun hHeld=>?_)
     clear hK K
     refine norm_ (a':=?_) ?_ ?_
     rotate_left
     ·show Act.put _ (some 47) _=_
      simp only [Act.put,sia_,scz_,scs_,i64_w,i32_w]
      rfl
     refine pv_ 10 53 ?_
     refine pv_ 11 54 ?_
     refine done_ (done_of HT_.out (by kernel_rfl)) ?_
     try go_wp2
     go_ret3
     exact⟨er_,bw_ HB⟩
mutual
def spec_Unframe.l0:Nat→ByteArray→List ByteArray→Int→Option (List ByteArray × Int)
 |0,_,_,_=>none
 |k+1,x0,x4,x5=>if x5<(x0.size:Int) then((spec_ReadVar.f k x0 x5).bind fun a0=>(if a0.2.2=true then(spec_Unframe.j1 k x0 x4 x5 a0.1 a0.2.1 (decide (a0.1>(wrap64 ((wrap64 ((x0.size:Int) - a0.2.1)) - 4))))) else(spec_Unframe.j1 k x0 x4 x5 a0.1 a0.2.1 true))) else(some (x4,x5))
def spec_Unframe.j1:Nat→ByteArray→List ByteArray→Int→Int→Int→Bool→Option (List ByteArray × Int)
 |0,_,_,_,_,_,_=>none
 |k+1,x0,x4,x5,x6,x7,b0=>if b0=true then(some (x4,x5)) else(if 0≤(wrap64 (x7+4)) then(if(wrap64 (x7+4))≤(wrap64 ((wrap64 (x7+4))+x6)) then(if(wrap64 ((wrap64 (x7+4))+x6))≤(x0.size:Int) then((spec_Frame.f k (x0.extract ((wrap64 (x7+4)):Int).toNat ((wrap64 ((wrap64 (x7+4))+x6)):Int).toNat)).bind fun a0=>(if a0.2=true then(if 0≤x5 then(if x5≤(wrap64 ((wrap64 (x7+4))+x6)) then(if a0.1.toList=(x0.extract (x5:Int).toNat ((wrap64 ((wrap64 (x7+4))+x6)):Int).toNat).toList then(if x4.length<8796093022208 then(spec_Unframe.l0 k x0 (x4++ [x0.extract ((wrap64 (x7+4)):Int).toNat ((wrap64 ((wrap64 (x7+4))+x6)):Int).toNat]) (wrap64 ((wrap64 (x7+4))+x6))) else(none)) else(some (x4,x5))) else(none)) else(none)) else(some (x4,x5)))) else(none)) else(none)) else(none))
end
def spec_Unframe.f (k:Nat) (a0:ByteArray):Option (List ByteArray × Int):=(some (([]:List ByteArray):List ByteArray)).bind fun b0=>(if(a0.size:Int)>20000 then(some (b0,0)) else(spec_Unframe.l0 k a0 b0 0))
theorem spec_Unframe.calls (k:Nat) (a0:ByteArray) (r1:List ByteArray) (r2:Int) (w:World) (h:spec_Unframe.f k a0=some (r1,r2)):
  Calls Tryz.prog 44 #[.string a0] w fun e w'=>∃a1:Value,e= .returned (.tuple #[a1,.int .i64 r2])∧Kd.R Kd.string 9 w' w.heap.size (fun _=>True) a1 r1∧Below w.heap.size w w':=by
 have HB:=mk_ (Below.refl w.heap.size w)
 have H:=h
 unfold spec_Unframe.f at H
 clear h
 obtain⟨N0,p0⟩:∃y_:List ByteArray,y_=(([]:List ByteArray)):=⟨_,rfl⟩
 replace H:=sb_ p0 H
 have m0:=Aside0.mk p0
 clear p0
 by_cases c2:(a0.size:Int)>20000
 ·rw [if_pos c2] at H
  have O0:=decide_eq_true c2
  have P0:decide (20000<a0.size)=true:=decide_eq_true (by omega)
  clear c2
  simp only [Option.some.injEq,Prod.mk.injEq] at H
  obtain⟨rfl,rfl⟩:=H
  go_enter Tryz.func44,Tryz.ntmps44
  go_wp2_with (first|((with_reducible refine gn_ 12 rfl ?_);(try(refine gate_guard (by rfl) ?_;dsimp only));refine Kd.R_lit Kd.string _ 9 ?hg (N:=12) ?hd (xs:=([]:List ByteArray)) (inner:=[]) (ok:=fun _=>True) (okp:=fun _=>True) ?hr ?hp (fun _ hk=>hk) trivial (Below.refl _ _) (Nat.le_refl _) (by simp) ?_;(case hd=>rfl);(case hg=>rfl);(case hr=>first|(go_simp;done)|(go_simp;rfl));(case hp=>exact(Reps.none _ _));intro Q0 w3 x0 hb hg_ hnew_;clear hg_ hnew_;(first|rw [←m0.out] at x0|(simp only [Int.reduceToNat] at x0;rw [←m0.out] at x0));have q0:=mk_ (Kd.R_lower x0 (below_size (bw_ HB)));replace HB:=bs_ HB hb;clear hb x0))
  go_ret2
  exact⟨_,er_,rq_ q0.out,bw_ HB⟩
 rw [if_neg c2] at H
 have O0:=decide_eq_false c2
 have P0:decide (20000<a0.size)=false:=decide_eq_false (by omega)
 clear c2
 have H':=Aside0.mk H
 clear H
 go_enter Tryz.func44,Tryz.ntmps44
 go_wp2_with (first|((with_reducible refine gn_ 12 rfl ?_);(try(refine gate_guard (by rfl) ?_;dsimp only));refine Kd.R_lit Kd.string _ 9 ?hg (N:=12) ?hd (xs:=([]:List ByteArray)) (inner:=[]) (ok:=fun _=>True) (okp:=fun _=>True) ?hr ?hp (fun _ hk=>hk) trivial (Below.refl _ _) (Nat.le_refl _) (by simp) ?_;(case hd=>rfl);(case hg=>rfl);(case hr=>first|(go_simp;done)|(go_simp;rfl));(case hp=>exact(Reps.none _ _));intro Q0 w5 y0 hb hg_ hnew_;clear hg_ hnew_;(first|rw [←m0.out] at y0|(simp only [Int.reduceToNat] at y0;rw [←m0.out] at y0));have q0:=mk_ (Kd.R_lower y0 (below_size (bw_ HB)));replace HB:=bs_ HB hb;clear hb y0))
 go_loopg [4,5] k (fun kq v4 v5 w'=>∃(h0:List ByteArray) (o0:Int),v5= .int .i64 o0∧Aside0 (spec_Unframe.l0 kq a0 h0 o0=some (r1,r2))∧Aside0 (kq≤k)∧Aside0 (Kd.R Kd.string 9 w' w.heap.size (fun _=>True) v4 h0)∧Aside0 (Below w.heap.size w w'))
 case atStart=>exact⟨(N0),(0),rl_,H',⟨Nat.le_refl _⟩,⟨rq_ q0.out⟩,⟨bw_ HB⟩⟩
 case round=>
  clear H'
  try clear p2
  obtain⟨h0,o0,rfl,HA,I0,d0,HB⟩:=hrel
  cases gk with
  |zero=>exact absurd HA.out (by simp [spec_Unframe.l0])
  |succ k1=>
   have H:=HA.out
   clear HA
   simp only [spec_Unframe.l0] at H
   refine ic_ H ?_ ?_ <;> clear H <;> intro D1 H
   ·simp only [Option.some.injEq,Prod.mk.injEq] at H
    obtain⟨rfl,rfl⟩:=H
    go_wp2
    go_ret2
    exact⟨_,er_,rq_ d0.out,bw_ HB⟩
   obtain⟨⟨e0,r0,A0⟩,A8,H⟩:=ob_ H
   try dsimp only at H
   have R0:=Aside0.mk H
   clear H
   go_upto_region 7 with (first|((with_reducible refine gc_ 68 rfl ?_);refine gm_ 24 Tryz.func68 (spec_ReadVar.calls k1 a0 o0 e0 r0 A0 _ A8.out) ?_;rintro H1 hb;replace d0:=rb_ d0 hb;replace HB:=bs_ HB hb;(try clear hb)))
   (try simp only [Act.put,sia_,scz_,scs_])
   go_cut [38] (fun F1 wc=>∃(kq:Nat) (n0:Bool),F1= .bool n0∧Aside0 (spec_Unframe.j1 kq a0 h0 o0 e0 r0 n0=some (r1,r2))∧Aside0 (kq≤k1)∧Aside0 (Kd.R Kd.string 9 wc w.heap.size (fun _=>True) u4 h0)∧Aside0 (Below w.heap.size w wc))
   case first=>
    have H:=R0.out
    clear R0
    by_cases J0:A0=true
    ·subst J0
     rw [if_pos rfl] at H
     have H':=Aside0.mk H
     clear H
     go_wp2
     go_meet
     case rel=>exact⟨_,(decide (e0>(wrap64 ((wrap64 ((a0.size:Int) - r0)) - 4)))),rl_,H',⟨by have:=I0.out;first|omega|exact Nat.le_refl _⟩,⟨rq_ d0.out⟩,⟨bw_ HB⟩⟩
    replace J0:=Bool.eq_false_iff.mpr J0
    subst J0
    rw [if_neg (show ¬(false=true) by decide)] at H
    have H':=Aside0.mk H
    clear H
    go_wp2
    go_meet
    case rel=>exact⟨_,(true),rl_,H',⟨by have:=I0.out;first|omega|exact Nat.le_refl _⟩,⟨rq_ d0.out⟩,⟨bw_ HB⟩⟩
   case rest=>
    clear R0
    (try clear p2);(try clear p6);(try clear p2)
    obtain⟨kq,n0,rfl,HA,b1,d0,HB⟩:=hcut
    cases kq with
    |zero=>exact absurd HA.out (by simp [spec_Unframe.j1])
    |succ K0=>
     have H:=HA.out
     clear HA
     simp only [spec_Unframe.j1] at H
     by_cases L0:n0=true
     ·subst L0
      rw [if_pos rfl] at H
      simp only [Option.some.injEq,Prod.mk.injEq] at H
      obtain⟨rfl,rfl⟩:=H
      go_wp2
      go_ret2
      exact⟨_,er_,rq_ d0.out,bw_ HB⟩
     replace L0:=Bool.eq_false_iff.mpr L0
     subst L0
     rw [if_neg (show ¬(false=true) by decide)] at H
     obtain⟨b0,g0⟩:∃j_:Int,(wrap64 (r0+4))=j_:=⟨_,rfl⟩
     (first|rw [g0] at H|simp only [g0] at H)
     have U0:(IntKind.i64.wrap (r0+4))=b0:=(i64_w _).trans g0
     obtain⟨V0,H⟩:=gd_ H
     have d1:=eq_true V0
     have e1:=decide_eq_true V0
     clear V0
     obtain⟨g1,H⟩:=gd_ H
     have m1:=eq_true g1
     have n1:=decide_eq_true g1
     obtain⟨o1,H⟩:=gd_ H
     have p1:=eq_true o1
     have q1:=decide_eq_true o1
     obtain⟨⟨t0,W0⟩,X0,H⟩:=ob_ H
     try dsimp only at H
     by_cases M0:W0=true
     rotate_left
     ·replace M0:=Bool.eq_false_iff.mpr M0
      subst M0
      rw [if_neg (show ¬(false=true) by decide)] at H
      simp only [Option.some.injEq,Prod.mk.injEq] at H
      obtain⟨rfl,rfl⟩:=H
      go_wp2_with (first|((with_reducible refine gc_ 48 rfl ?_);refine goesL_ (some 51) rfl rfl Tryz.func48 (by kernel_rfl) rfl #[.string (a0.extract ((b0):Int).toNat ((wrap64 ((b0)+e0)):Int).toNat)] rfl (by(try simp only [List.map_toArray,List.map_cons,List.map_nil]);first|done|(simp only [g0];rfl)|rfl|(simp only [List.length_drop,List.length_take];rfl)) ?_;(with_reducible refine(spec_Frame.calls K0 (a0.extract ((b0):Int).toNat ((wrap64 ((b0)+e0)):Int).toNat) t0 false _ X0.out).mono ?_);rintro e I1 ⟨rfl,hb⟩;refine⟨_,rfl,?_⟩;replace d0:=rb_ d0 hb;replace HB:=bs_ HB hb;(try clear hb)))
      go_ret2
      exact⟨_,by first|rfl|(simp [errW_none,errW_some] <;> rfl)|(simp only [←g0];first|rfl|(simp [errW_none,errW_some] <;> rfl))|(simp [*,errW_none,errW_some] <;> rfl),rq_ d0.out,bw_ HB⟩
     subst M0
     rw [if_pos rfl] at H
     obtain⟨Y0,H⟩:=gd_ H
     have s1:=eq_true Y0
     have t1:=decide_eq_true Y0
     clear Y0
     obtain⟨v1,H⟩:=gd_ H
     have x1:=eq_true v1
     have y1:=decide_eq_true v1
     have A1:=eq_true (od_:(wrap64 ((b0)+e0))≤(a0.size:Int))
     by_cases v0:t0.toList=(a0.extract (o0:Int).toNat ((wrap64 ((b0)+e0)):Int).toNat).toList
     rotate_left
     ·rw [if_neg v0] at H
      have B0:=beq_eq_false_iff_ne.mpr v0
      have C0:=bne_iff_ne.mpr v0
      simp only [Option.some.injEq,Prod.mk.injEq] at H
      obtain⟨rfl,rfl⟩:=H
      go_wp2_with (first|((with_reducible refine gc_ 48 rfl ?_);refine goesL_ (some 51) rfl rfl Tryz.func48 (by kernel_rfl) rfl #[.string (a0.extract ((b0):Int).toNat ((wrap64 ((b0)+e0)):Int).toNat)] rfl (by(try simp only [List.map_toArray,List.map_cons,List.map_nil]);first|done|(simp only [g0];rfl)|rfl|(simp only [List.length_drop,List.length_take];rfl)) ?_;(with_reducible refine(spec_Frame.calls K0 (a0.extract ((b0):Int).toNat ((wrap64 ((b0)+e0)):Int).toNat) t0 true _ X0.out).mono ?_);rintro e J1 ⟨rfl,hb⟩;refine⟨_,rfl,?_⟩;replace d0:=rb_ d0 hb;replace HB:=bs_ HB hb;(try clear hb)))
      go_ret2
      exact⟨_,by first|rfl|(simp [errW_none,errW_some] <;> rfl)|(simp only [←g0];first|rfl|(simp [errW_none,errW_some] <;> rfl))|(simp [*,errW_none,errW_some] <;> rfl),rq_ d0.out,bw_ HB⟩
     rw [if_pos v0] at H
     have B0:=beq_iff_eq.mpr v0
     have C0:=bne_eq_false_iff_eq.mpr v0
     clear v0
     obtain⟨C1,H⟩:=gd_ H
     have F0:=Aside0.mk C1
     clear C1
     obtain⟨Z0,s0⟩:∃y_:List ByteArray,y_=(h0++ [a0.extract ((b0):Int).toNat ((wrap64 ((b0)+e0)):Int).toNat]):=⟨_,rfl⟩
     rw [←s0] at H
     have G0:=Aside0.mk s0
     clear s0
     have H':=Aside0.mk H
     clear H
     go_wp2_with (first|((with_reducible refine gc_ 48 rfl ?_);refine goesL_ (some 51) rfl rfl Tryz.func48 (by kernel_rfl) rfl #[.string (a0.extract ((b0):Int).toNat ((wrap64 ((b0)+e0)):Int).toNat)] rfl (by(try simp only [List.map_toArray,List.map_cons,List.map_nil]);first|done|(simp only [g0];rfl)|rfl|(simp only [List.length_drop,List.length_take];rfl)) ?_;(with_reducible refine(spec_Frame.calls K0 (a0.extract ((b0):Int).toNat ((wrap64 ((b0)+e0)):Int).toNat) t0 true _ X0.out).mono ?_);rintro e K1 ⟨rfl,hb⟩;refine⟨_,rfl,?_⟩;replace d0:=rb_ d0 hb;replace HB:=bs_ HB hb;(try clear hb);(try clear hk))|((with_reducible refine gate_builtin (b:= .append) (xs:=#[.tmp 69,.tmp 71]) rfl ?_);(try(refine gate_guard (by rfl) ?_;dsimp only));at_builtin;refine Kd.R_append Kd.string (w0:=w) w.heap.size rfl (.tmp 69) (.tmp 71) 75 9 (.string ⟨#[]⟩) 16 rfl Tryz.underlying75 info9 rfl (by decide) (by omega) u4 h0 (a0.extract ((b0):Int).toNat ((wrap64 ((b0)+e0)):Int).toNat) [.string (a0.extract ((b0):Int).toNat ((wrap64 ((b0)+e0)):Int).toNat)] (fun _=>True) (fun _=>False) rfl rfl ?aP (fun _ hk=>hk.elim) ?aF ?aO ?aB ?aS ?aL ?_;(case aP=>exact rfl);(case aB=>exact(bw_ HB));(case aF=>exact(fun _ _=>trivial));(case aO=>exact(rp_ d0));(case aS=>exact(below_size (bw_ HB)));(case aL=>have:=F0.out;omega);intro G1 L1 ho hb hg hat;rw [←G0.out] at ho;have H0:=mk_ (ho);replace HB:=mk_ (hb);clear d0;clear ho hb hg hat))
     go_roundg K0
     case measure=>have:=I0.out;have:=b1.out;omega
     case rel=>exact⟨(Z0),(wrap64 ((b0)+e0)),(by first|rfl|(simp;done)|(simp only [←g0] <;> (first|rfl|simp))|(simp [*];done)),H',⟨by have:=I0.out;have:=b1.out;omega⟩,⟨rq_ H0.out⟩,⟨bw_ HB⟩⟩
end Go.Proofs.YtolakamimfhcjaaGreatDoor.QFnExactOpenJournal
