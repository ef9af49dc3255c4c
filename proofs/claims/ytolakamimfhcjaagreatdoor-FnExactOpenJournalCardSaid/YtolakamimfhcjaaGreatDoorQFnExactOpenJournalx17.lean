/- Written by this session's own program: what the law's functions come to, and that the machine's calls do just that. -/
import Derived.Test.YtolakamimfhcjaaGreatDoorQFnExactOpenJournalx14
import Derived.Test.YtolakamimfhcjaaGreatDoorTMSix
namespace Go.Proofs.YtolakamimfhcjaaGreatDoor.QFnExactOpenJournal
open Go.RowKit Go.Proofs.YtolakamimfhcjaaGreatDoorW.PrintWords Go.Proofs.YtolakamimfhcjaaGreatDoorW.PrintLast Go.Proofs.YtolakamimfhcjaaGreatDoorW.PrintMore
attribute [local go_sem] Go.Proofs.YtolakamimfhcjaaGreatDoor.Sem.string_geq Go.Proofs.YtolakamimfhcjaaGreatDoor.Sem.string_leq Go.Proofs.YtolakamimfhcjaaGreatDoor.Sem.string_gtr
attribute [local go_sem] max2_int min2_int max_two min_two max_three min_three max_four min_four
set_option linter.unusedVariables false
set_option linter.unusedSimpArgs false
set_option maxHeartbeats 8000000
set_option maxRecDepth 100000
def impl_ReadConf.l0:Nat→ByteArray→List Int→Int→Option (List Int × Bool)
 |0,_,_,_=>none
 |k+1,x0,x4,x5=>if x5<(x0.size:Int) then(if 0≤x5 then(if x4.length<17592186044416 then(impl_ReadConf.l0 k x0 (x4++ [wrap64 (bt x0 x5)]) (wrap64 (x5+1))) else(none)) else(none)) else((impl_ConfOk.f k x4).bind fun a0=>(if a0=true then(some (x4,true)) else(some (([]:List Int),false))))
def impl_ReadConf.f (k:Nat) (a0:ByteArray):Option (List Int × Bool):=impl_ReadConf.l0 k a0 ([]:List Int) 0
theorem impl_ReadConf.calls (k:Nat) (a0:ByteArray) (r1:List Int) (r2:Bool) (w:World) (h:impl_ReadConf.f k a0=some (r1,r2)):
  Calls Tryz.prog 117 #[.string a0] w fun e w'=>∃t0:Value,e= .returned (.tuple #[t0,.bool r2])∧Kd.R (Kd.int .i64) 3 w' w.heap.size (fun _=>True) t0 r1∧Below w.heap.size w w':=by
 have HB:=mk_ (Below.refl w.heap.size w)
 have H:=h
 unfold impl_ReadConf.f at H
 clear h
 have H':=Aside0.mk H
 clear H
 go_enter Tryz.func117,Tryz.ntmps117
 go_wp2
 go_loopg [4,5] k (fun kq v4 v5 w'=>∃(d0:List Int) (b0:Int),v5= .int .i64 b0∧Aside0 (impl_ReadConf.l0 kq a0 d0 b0=some (r1,r2))∧Aside0 (kq≤k)∧Aside0 (Kd.R (Kd.int .i64) 3 w' w.heap.size (fun _=>True) v4 d0)∧Aside0 (Below w.heap.size w w'))
 case atStart=>exact⟨(([]:List Int)),(0),rl_,H',⟨Nat.le_refl _⟩,⟨by first|exact Kd.R_nil _ _ _ _ _|exact Kd.N_nil _ _ _ _ _|exact Kd.V_nil _ _ _ _ _|exact Kd.Q_nil _ _ _ _ _|exact Kd.S_nil _ _ _ _ _⟩,⟨bw_ HB⟩⟩
 case round=>
  clear H'
  obtain⟨d0,b0,rfl,HA,v0,e0,HB⟩:=hrel
  cases gk with
  |zero=>exact absurd HA.out (by simp [impl_ReadConf.l0])
  |succ k1=>
   have H:=HA.out
   clear HA
   simp only [impl_ReadConf.l0] at H
   refine ic_ H ?_ ?_ <;> clear H <;> intro x0 H
   ·obtain⟨n0,A7,H⟩:=ob_ H
    try dsimp only at H
    by_cases c8:n0=true
    ·subst c8
     rw [if_pos rfl] at H
     simp only [Option.some.injEq,Prod.mk.injEq] at H
     obtain⟨rfl,rfl⟩:=H
     obtain⟨y0,A0,B0⟩:=Kd.R_slice e0.out
     subst B0
     go_wp2_with (first|((with_reducible refine gc_ 126 rfl ?_);refine gx_ 20 Tryz.func126 #[.slice y0 d0.length A0] (impl_ConfOk.calls k1 _ _ d0 true _ ?side1 ?side2 A7.out) ?_;(case side1=>repeat(first|exact(Kd.R_reads' e0.out).2.2|(with_reducible refine Kd.C_alloc ?_ _)|(with_reducible refine Kd.C_drewN ?_ _)|(with_reducible refine Kd.C_drew ?_)));(case side2=>exact(Kd.R_reads' e0.out).2.1);rintro w' ⟨nd,rfl⟩))
     go_ret2
     exact⟨_,er_,rq_ e0.out,bw_ HB⟩
    replace c8:=Bool.eq_false_iff.mpr c8
    subst c8
    rw [if_neg (show ¬(false=true) by decide)] at H
    simp only [Option.some.injEq,Prod.mk.injEq] at H
    obtain⟨rfl,rfl⟩:=H
    obtain⟨o0,p0,q0⟩:=Kd.R_slice e0.out
    subst q0
    go_wp2_with (first|((with_reducible refine gc_ 126 rfl ?_);refine gx_ 20 Tryz.func126 #[.slice o0 d0.length p0] (impl_ConfOk.calls k1 _ _ d0 false _ ?side1 ?side2 A7.out) ?_;(case side1=>repeat(first|exact(Kd.R_reads' e0.out).2.2|(with_reducible refine Kd.C_alloc ?_ _)|(with_reducible refine Kd.C_drewN ?_ _)|(with_reducible refine Kd.C_drew ?_)));(case side2=>exact(Kd.R_reads' e0.out).2.1);rintro w' ⟨nd,rfl⟩))
    go_ret2
    exact⟨_,er_,by first|exact Kd.R_nil _ _ _ _ _|exact Kd.N_nil _ _ _ _ _|exact Kd.V_nil _ _ _ _ _|exact Kd.Q_nil _ _ _ _ _|exact Kd.S_nil _ _ _ _ _,bw_ HB⟩
   obtain⟨c3,H⟩:=gd_ H
   have C0:=decide_eq_true c3
   clear c3
   obtain⟨c5,H⟩:=gd_ H
   have r0:=Aside0.mk c5
   clear c5
   obtain⟨s0,g0⟩:∃y_:List Int,y_=(d0++ [wrap64 (bt a0 b0)]):=⟨_,rfl⟩
   rw [←g0] at H
   have h0:=Aside0.mk g0
   clear g0
   have H':=Aside0.mk H
   clear H
   have p4:0≤(b0:Int):=od_
   have q4:b0<(a0.size:Int):=od_
   have G0:=bt_at a0 b0
   replace p4:=eq_true p4
   replace q4:=eq_true q4
   go_wp2_with (first|((with_reducible refine gate_builtin (b:= .append) (xs:=#[.tmp 12,.tmp 17]) rfl ?_);at_builtin;refine Kd.R_append (Kd.int .i64) (w0:=w) w.heap.size rfl (.tmp 12) (.tmp 17) 130 3 (.int .i64 0) 8 rfl Tryz.underlying130 info3 rfl (by decide) (by omega) u4 d0 (wrap64 (bt a0 b0)) [.int .i64 (wrap64 (bt a0 b0))] (fun _=>True) (fun _=>False) rfl rfl ?aP (fun _ hk=>hk.elim) ?aF ?aO ?aB ?aS ?aL ?_;(case aP=>exact rfl);(case aB=>exact(bw_ HB));(case aF=>exact(fun _ _=>trivial));(case aO=>exact(rp_ e0));(case aS=>exact(below_size (bw_ HB)));(case aL=>have:=r0.out;omega);intro F0 w6 ho hb hg hat;rw [←h0.out] at ho;have m0:=mk_ (ho);replace HB:=mk_ (hb);clear e0;clear ho hb hg hat))
   go_roundg k1
   case measure=>have:=v0.out;omega
   case rel=>exact⟨(s0),(wrap64 (b0+1)),rl_,H',⟨by have:=v0.out;omega⟩,⟨rq_ m0.out⟩,⟨bw_ HB⟩⟩
def impl_EntryOk.f (k:Nat) (e0:Int) (a0:Int) (b0:ByteArray):Option (Bool):=(impl_within.f e0 0 100000).bind fun g0=>(if g0=true then(if a0=1 then(some (b0.toList == ([]:List UInt8))) else(if a0=2 then((impl_ReadConf.f k b0).bind fun d0=>(some d0.2)) else(if a0=3 then(some (decide ((b0.size:Int)≤120))) else(some false)))) else(some false))
theorem impl_EntryOk.calls (k:Nat) (b0:Int) (d0:Int) (e0:ByteArray) (r:Bool) (w:World) (h:impl_EntryOk.f k b0 d0 e0=some r):
  Calls Tryz.prog 105 #[.agg #[.int .i64 b0,.int .i64 d0,.string e0]] w fun e w'=>e= .returned (.bool r)∧Below w.heap.size w w':=by
 have o1:=Tryz.underlying105
 have HB:=mk_ (Below.refl w.heap.size w)
 have H:=h
 unfold impl_EntryOk.f at H
 clear h
 obtain⟨U0,A2,H⟩:=ob_ H
 try dsimp only at H
 by_cases c3:U0=true
 rotate_left
 ·replace c3:=Bool.eq_false_iff.mpr c3
  subst c3
  rw [if_neg (show ¬(false=true) by decide)] at H
  obtain rfl:=Option.some.inj H
  go_enter Tryz.func105,Tryz.ntmps105
  go_wp2_with (first|((with_reducible refine gn_ 1 rfl ?_);refine bv_ (cs:=#[.int .i64 b0,.int .i64 d0,.string e0]) (t:=105) HB ?_;clear HB;intro g0 s1 a0 h0 HB;obtain⟨p0,q0,r0,s0,t0,v0⟩:=b3_ a0)|((with_reducible refine gc_ 53 rfl ?_);refine gm_ 7 Tryz.func53 (impl_within.calls b0 0 100000 false _ A2.out) ?_;rintro w' ⟨nd,rfl⟩))
  go_ret
  exact⟨er_,bw_ HB⟩
 subst c3
 rw [if_pos rfl] at H
 by_cases c4:d0=1
 ·rw [if_pos c4] at H
  have V0:=beq_iff_eq.mpr c4
  have W0:=bne_eq_false_iff_eq.mpr c4
  clear c4
  obtain rfl:=Option.some.inj H
  go_enter Tryz.func105,Tryz.ntmps105
  go_wp2_with (first|((with_reducible refine gn_ 1 rfl ?_);refine bv_ (cs:=#[.int .i64 b0,.int .i64 d0,.string e0]) (t:=105) HB ?_;clear HB;intro g0 w5 a0 h0 HB;obtain⟨X0,Y0,Z0,a1,b1,d1⟩:=b3_ a0)|((with_reducible refine gc_ 53 rfl ?_);refine gm_ 7 Tryz.func53 (impl_within.calls b0 0 100000 true _ A2.out) ?_;rintro w' ⟨nd,rfl⟩))
  go_ret
  exact⟨er_,bw_ HB⟩
 rw [if_neg c4] at H
 have V0:=beq_eq_false_iff_ne.mpr c4
 have W0:=bne_iff_ne.mpr c4
 by_cases c7:d0=2
 ·rw [if_pos c7] at H
  have e1:=beq_iff_eq.mpr c7
  have g1:=bne_eq_false_iff_eq.mpr c7
  clear c7
  obtain⟨⟨m1,n1⟩,A8,H⟩:=ob_ H
  try dsimp only at H
  obtain rfl:=Option.some.inj H
  go_enter Tryz.func105,Tryz.ntmps105
  go_wp2_with (first|((with_reducible refine gn_ 1 rfl ?_);refine bv_ (cs:=#[.int .i64 b0,.int .i64 d0,.string e0]) (t:=105) HB ?_;clear HB;intro g0 w9 a0 h0 HB;obtain⟨x0,y0,A0,B0,C0,F0⟩:=b3_ a0)|((with_reducible refine gc_ 53 rfl ?_);refine gm_ 7 Tryz.func53 (impl_within.calls b0 0 100000 true _ A2.out) ?_;rintro w' ⟨nd,rfl⟩)|((with_reducible refine gc_ 117 rfl ?_);refine gv_ 21 Tryz.func117 (impl_ReadConf.calls k e0 m1 n1 _ A8.out) ?_;rintro r1 t1 ⟨p1,hb⟩;have q1:=mk_ (Kd.R_lower p1 (below_size (bw_ HB)));replace a0:=bb_ a0 hb;replace HB:=bs_ HB hb;(try clear hb);(try clear p1)))
  go_ret
  exact⟨er_,bw_ HB⟩
 rw [if_neg c7] at H
 have e1:=beq_eq_false_iff_ne.mpr c7
 have g1:=bne_iff_ne.mpr c7
 by_cases m0:d0=3
 rotate_left
 ·rw [if_neg m0] at H
  have n0:=beq_eq_false_iff_ne.mpr m0
  have o0:=bne_iff_ne.mpr m0
  obtain rfl:=Option.some.inj H
  go_enter Tryz.func105,Tryz.ntmps105
  go_wp2_with (first|((with_reducible refine gn_ 1 rfl ?_);refine bv_ (cs:=#[.int .i64 b0,.int .i64 d0,.string e0]) (t:=105) HB ?_;clear HB;intro g0 v1 a0 h0 HB;obtain⟨G0,H0,I0,J0,K0,L0⟩:=b3_ a0)|((with_reducible refine gc_ 53 rfl ?_);refine gm_ 7 Tryz.func53 (impl_within.calls b0 0 100000 true _ A2.out) ?_;rintro w' ⟨nd,rfl⟩))
  go_ret
  exact⟨er_,bw_ HB⟩
 rw [if_pos m0] at H
 have n0:=beq_iff_eq.mpr m0
 have o0:=bne_eq_false_iff_eq.mpr m0
 clear m0
 obtain rfl:=Option.some.inj H
 go_enter Tryz.func105,Tryz.ntmps105
 go_wp2_with (first|((with_reducible refine gn_ 1 rfl ?_);refine bv_ (cs:=#[.int .i64 b0,.int .i64 d0,.string e0]) (t:=105) HB ?_;clear HB;intro g0 x1 a0 h0 HB;obtain⟨M0,N0,O0,P0,Q0,R0⟩:=b3_ a0)|((with_reducible refine gc_ 53 rfl ?_);refine gm_ 7 Tryz.func53 (impl_within.calls b0 0 100000 true _ A2.out) ?_;rintro w' ⟨nd,rfl⟩))
 go_ret
 exact⟨er_,bw_ HB⟩
mutual
def impl_LogOk.j0:Nat→Bool→Int→Int→List (S105)→Option (Bool)
 |0,_,_,_,_=>none
 |k+1,e0,d0,b0,a0=>if e0=true then(some false) else(impl_LogOk.l0 k b0 a0 (a0.length:Int) 0)
def impl_LogOk.l0:Nat→Int→List (S105)→Int→Int→Option (Bool)
 |0,_,_,_,_=>none
 |k+1,x3,b0,e0,a0=>if a0<e0 then(if 0≤a0 then(if a0<(b0.length:Int) then((impl_EntryOk.f k ((rd_T105 b0 a0).f0) ((rd_T105 b0 a0).f1) ((rd_T105 b0 a0).f2)).bind fun d0=>(if d0=true then(if((rd_T105 b0 a0).f0)<x3 then(some false) else(impl_LogOk.l0 k ((rd_T105 b0 a0).f0) b0 e0 (wrap64 (a0+1)))) else(some false))) else(none)) else(none)) else(some true)
end
def impl_LogOk.f (k:Nat) (a0:Int) (d0:Int) (b0:List (S105)):Option (Bool):=(impl_within.f a0 0 1000000).bind fun e0=>(if e0=true then((impl_within.f d0 0 100000).bind fun g0=>(if g0=true then(if(b0.length:Int)>60 then(impl_LogOk.j0 k true a0 d0 b0) else(impl_LogOk.j0 k (decide ((wrap64 (a0+(b0.length:Int)))>1000000)) a0 d0 b0)) else(impl_LogOk.j0 k true a0 d0 b0))) else(impl_LogOk.j0 k true a0 d0 b0))
theorem impl_LogOk.calls (k:Nat) (o0:Int) (r0:Int) (v0:Option Addr) (x0:Nat) (b0:List (S105)) (r:Bool) (w:World) (F0:Kd.C k105 w v0 b0.length b0) (G0:b0.length≤x0) (h:impl_LogOk.f k o0 r0 b0=some r):
  Calls Tryz.prog 89 #[.agg #[.int .i64 o0,.int .i64 r0,.slice v0 b0.length x0]] w fun e w'=>e= .returned (.bool r)∧Below w.heap.size w w':=by
 have V2:=Tryz.underlying28
 have B2:=Tryz.underlying105
 have y0:=Aside0.mk F0
 have C2:=Aside0.mk G0
 clear F0 G0
 have HB:=mk_ (Below.refl w.heap.size w)
 have H:=h
 unfold impl_LogOk.f at H
 clear h
 have m2:=Aside0.mk H
 clear H
 go_enter Tryz.func89,Tryz.ntmps89
 go_upto_region 1 with (first|((with_reducible refine gn_ 1 rfl ?_);(try(refine gate_guard (by rfl) ?_;dsimp only));refine bv_ (cs:=#[.int .i64 o0,.int .i64 r0,.slice v0 b0.length x0]) (t:=28) HB ?_;clear HB;intro H0 w3 d0 D2 HB))
 (try simp only [Act.put,sia_,scz_,scs_])
 go_cut [30] (fun W2 wc=>∃(kq:Nat) (t0:Bool),W2= .bool t0∧Aside0 (impl_LogOk.j0 kq t0 o0 r0 b0=some r)∧Aside0 (kq≤k)∧Aside0 (wc.heap[H0]? =some (.cells #[.int .i64 o0,.int .i64 r0,(.slice v0 b0.length x0)] 28 (0,0)))∧Aside0 (Below w.heap.size w wc))
 case first=>
  have H:=m2.out
  clear m2
  obtain⟨n2,A4,H⟩:=ob_ H
  try dsimp only at H
  by_cases c5:n2=true
  rotate_left
  ·replace c5:=Bool.eq_false_iff.mpr c5
   subst c5
   rw [if_neg (show ¬(false=true) by decide)] at H
   have H':=Aside0.mk H
   clear H
   obtain⟨N0,O0,P0,Q0,R0,U0⟩:=b3_ d0
   go_wp2_with (first|((with_reducible refine gc_ 53 rfl ?_);refine gm_ 8 Tryz.func53 (impl_within.calls o0 0 1000000 false _ A4.out) ?_;rintro w' ⟨nd,rfl⟩))
   go_meet
   case rel=>exact⟨_,(true),rl_,H',⟨by first|omega|exact Nat.le_refl _⟩,⟨bf_⟩,⟨bw_ HB⟩⟩
  subst c5
  rw [if_pos rfl] at H
  obtain⟨o2,A6,H⟩:=ob_ H
  try dsimp only at H
  by_cases c7:o2=true
  rotate_left
  ·replace c7:=Bool.eq_false_iff.mpr c7
   subst c7
   rw [if_neg (show ¬(false=true) by decide)] at H
   have H':=Aside0.mk H
   clear H
   obtain⟨V0,W0,X0,Y0,Z0,a1⟩:=b3_ d0
   go_wp2_with (first|((with_reducible refine gc_ 53 rfl ?_);refine gm_ 8 Tryz.func53 (impl_within.calls o0 0 1000000 true _ A4.out) ?_;rintro w' ⟨nd,rfl⟩)|(go_at_call 53;(with_reducible refine(impl_within.calls r0 0 100000 false _ A6.out).mono ?_);rintro e w' ⟨rfl,⟨nd,rfl⟩⟩))
   go_meet
   case rel=>exact⟨_,(true),rl_,H',⟨by first|omega|exact Nat.le_refl _⟩,⟨bf_⟩,⟨bw_ HB⟩⟩
  subst c7
  rw [if_pos rfl] at H
  by_cases c8:(b0.length:Int)>60
  rotate_left
  ·rw [if_neg c8] at H
   have A0:=decide_eq_false c8
   have q2:decide (60<b0.length)=false:=decide_eq_false (by omega)
   clear c8
   (first|rw [A0]|(simp only [i64_w,i32_w];rw [A0])|skip)
   have H':=Aside0.mk H
   clear H
   obtain⟨b1,d1,e1,g1,m1,n1⟩:=b3_ d0
   go_wp2_with (first|((with_reducible refine gc_ 53 rfl ?_);refine gm_ 8 Tryz.func53 (impl_within.calls o0 0 1000000 true _ A4.out) ?_;rintro w' ⟨nd,rfl⟩)|(go_at_call 53;(with_reducible refine(impl_within.calls r0 0 100000 true _ A6.out).mono ?_);rintro e w' ⟨rfl,⟨nd,rfl⟩⟩))
   go_meet
   case rel=>exact⟨_,(decide ((wrap64 (o0+(b0.length:Int)))>1000000)),rl_,H',⟨by first|omega|exact Nat.le_refl _⟩,⟨bf_⟩,⟨bw_ HB⟩⟩
  rw [if_pos c8] at H
  have A0:=decide_eq_true c8
  have q2:decide (60<b0.length)=true:=decide_eq_true (by omega)
  clear c8
  (first|rw [A0]|(simp only [i64_w,i32_w];rw [A0])|skip)
  have H':=Aside0.mk H
  clear H
  obtain⟨r2,s2,t2,v2,w2,x2⟩:=b3_ d0
  go_wp2_with (first|((with_reducible refine gc_ 53 rfl ?_);refine gm_ 8 Tryz.func53 (impl_within.calls o0 0 1000000 true _ A4.out) ?_;rintro w' ⟨nd,rfl⟩)|(go_at_call 53;(with_reducible refine(impl_within.calls r0 0 100000 true _ A6.out).mono ?_);rintro e w' ⟨rfl,⟨nd,rfl⟩⟩))
  go_meet
  case rel=>exact⟨_,(true),rl_,H',⟨by first|omega|exact Nat.le_refl _⟩,⟨bf_⟩,⟨bw_ HB⟩⟩
 case rest=>
  clear m2
  (try clear p2);(try clear p6)
  obtain⟨kq,t0,rfl,HA,F2,d0,HB⟩:=hcut
  cases kq with
  |zero=>exact absurd HA.out (by simp [impl_LogOk.j0])
  |succ G2=>
   have H:=HA.out
   clear HA
   simp only [impl_LogOk.j0] at H
   by_cases o1:t0=true
   ·subst o1
    rw [if_pos rfl] at H
    obtain rfl:=Option.some.inj H
    go_wp2
    go_ret
    exact⟨er_,bw_ HB⟩
   replace o1:=Bool.eq_false_iff.mpr o1
   subst o1
   rw [if_neg (show ¬(false=true) by decide)] at H
   have H':=Aside0.mk H
   clear H
   obtain⟨p1,q1,r1,s1,t1,v1⟩:=b3_ d0
   go_wp2
   go_loopg [3,36] G2 (fun kq v3 X2 w'=>∃(C0:Int) (a0:Int),v3= .int .i64 C0∧X2= .int .i64 a0∧Aside0 (impl_LogOk.l0 kq C0 b0 (b0.length:Int) a0=some r)∧Aside0 (kq≤G2)∧Aside0 (w'.heap[H0]? =some (.cells #[.int .i64 o0,.int .i64 r0,(.slice v0 b0.length x0)] 28 (0,0)))∧Aside0 (Below w.heap.size w w'))
   case atStart=>exact⟨(r0),(0),rl_,rl_,H',⟨Nat.le_refl _⟩,⟨bf_⟩,⟨bw_ HB⟩⟩
   case round=>
    clear H'
    (try clear p2);(try clear p6);(try clear p2);(try clear p6)
    obtain⟨C0,a0,rfl,rfl,HA,H2,d0,HB⟩:=hrel
    cases gk with
    |zero=>exact absurd HA.out (by simp [impl_LogOk.l0])
    |succ k2=>
     have H:=HA.out
     clear HA
     simp only [impl_LogOk.l0] at H
     refine ic_ H ?_ ?_ <;> clear H <;> intro I2 H
     ·obtain rfl:=Option.some.inj H
      go_wp2
      go_ret
      exact⟨er_,bw_ HB⟩
     obtain⟨J2,H⟩:=gd_ H
     have K2:=decide_eq_true J2
     clear J2
     obtain⟨L2,H⟩:=gd_ H
     have M2:=decide_eq_true L2
     clear L2
     obtain⟨y2,A2,H⟩:=ob_ H
     try dsimp only at H
     by_cases x1:y2=true
     rotate_left
     ·replace x1:=Bool.eq_false_iff.mpr x1
      subst x1
      rw [if_neg (show ¬(false=true) by decide)] at H
      obtain rfl:=Option.some.inj H
      have p0:0≤(a0:Int):=od_
      have q0:a0<(b0.length:Int):=od_
      obtain⟨I0,B0,e0,g0,h0⟩:=at_T105 y0.out a0 p0 q0
      cases B0
      replace e0:=hc_ HB e0
      replace g0:=hc_ HB g0
      replace h0:=hc_ HB h0
      replace p0:=eq_true p0
      replace q0:=eq_true q0
      go_wp2_with (first|((with_reducible refine gn_ 5 rfl ?_);(try(refine gate_guard (by rfl) ?_;dsimp only));refine bn_ (cs:=#[.int .i64 0,.int .i64 0,.string (⟨#[]⟩:ByteArray)]) (t:=105) HB ?_;intro J0 Y2 hg hb m0 K0 hB_;have s0:=bl_ d0 hg;have n0:=bg_ d0 hg;replace d0:=bb_ d0 hb;replace HB:=hB_;clear hb hB_ hg;obtain⟨N2,O2⟩:=ns_ n0;obtain⟨y1,A1,C1,D1,F1,G1⟩:=b3_ m0)|((with_reducible refine gc_ 105 rfl ?_);refine gm_ 41 Tryz.func105 (impl_EntryOk.calls k2 ((rd_T105 b0 a0).f0) ((rd_T105 b0 a0).f1) ((rd_T105 b0 a0).f2) false _ A2.out) ?_;rintro Z2 hb;replace d0:=bq_ d0 hb;replace m0:=bU_ m0 #[.int .i64 ((rd_T105 b0 a0).f0),.int .i64 ((rd_T105 b0 a0).f1),.string ((rd_T105 b0 a0).f2)] hb;replace HB:=bs_ HB hb;(try clear hb)))
      go_ret
      exact⟨er_,bw_ HB⟩
     subst x1
     rw [if_pos rfl] at H
     by_cases L0:((rd_T105 b0 a0).f0)<C0
     ·rw [if_pos L0] at H
      have M0:=decide_eq_true L0
      clear L0
      obtain rfl:=Option.some.inj H
      have p0:0≤(a0:Int):=od_
      have q0:a0<(b0.length:Int):=od_
      obtain⟨I0,B0,e0,g0,h0⟩:=at_T105 y0.out a0 p0 q0
      cases B0
      replace e0:=hc_ HB e0
      replace g0:=hc_ HB g0
      replace h0:=hc_ HB h0
      replace p0:=eq_true p0
      replace q0:=eq_true q0
      go_wp2_with (first|((with_reducible refine gn_ 5 rfl ?_);(try(refine gate_guard (by rfl) ?_;dsimp only));refine bn_ (cs:=#[.int .i64 0,.int .i64 0,.string (⟨#[]⟩:ByteArray)]) (t:=105) HB ?_;intro J0 a3 hg hb m0 K0 hB_;have s0:=bl_ d0 hg;have n0:=bg_ d0 hg;replace d0:=bb_ d0 hb;replace HB:=hB_;clear hb hB_ hg;obtain⟨P2,Q2⟩:=ns_ n0;obtain⟨H1,I1,J1,K1,L1,M1⟩:=b3_ m0)|((with_reducible refine gc_ 105 rfl ?_);refine gm_ 41 Tryz.func105 (impl_EntryOk.calls k2 ((rd_T105 b0 a0).f0) ((rd_T105 b0 a0).f1) ((rd_T105 b0 a0).f2) true _ A2.out) ?_;rintro b3 hb;replace d0:=bq_ d0 hb;replace m0:=bU_ m0 #[.int .i64 ((rd_T105 b0 a0).f0),.int .i64 ((rd_T105 b0 a0).f1),.string ((rd_T105 b0 a0).f2)] hb;replace HB:=bs_ HB hb;(try clear hb);obtain⟨N1,O1,P1,Q1,R1,U1⟩:=b3_ m0))
      go_ret
      exact⟨er_,bw_ HB⟩
     rw [if_neg L0] at H
     have M0:=decide_eq_false L0
     clear L0
     have H':=Aside0.mk H
     clear H
     have p0:0≤(a0:Int):=od_
     have q0:a0<(b0.length:Int):=od_
     obtain⟨I0,B0,e0,g0,h0⟩:=at_T105 y0.out a0 p0 q0
     cases B0
     replace e0:=hc_ HB e0
     replace g0:=hc_ HB g0
     replace h0:=hc_ HB h0
     replace p0:=eq_true p0
     replace q0:=eq_true q0
     go_wp2_with (first|((with_reducible refine gn_ 5 rfl ?_);(try(refine gate_guard (by rfl) ?_;dsimp only));refine bn_ (cs:=#[.int .i64 0,.int .i64 0,.string (⟨#[]⟩:ByteArray)]) (t:=105) HB ?_;intro J0 d3 hg hb m0 K0 hB_;have s0:=bl_ d0 hg;have n0:=bg_ d0 hg;replace d0:=bb_ d0 hb;replace HB:=hB_;clear hb hB_ hg;obtain⟨R2,U2⟩:=ns_ n0;obtain⟨V1,W1,X1,Y1,Z1,a2⟩:=b3_ m0)|((with_reducible refine gc_ 105 rfl ?_);refine gm_ 41 Tryz.func105 (impl_EntryOk.calls k2 ((rd_T105 b0 a0).f0) ((rd_T105 b0 a0).f1) ((rd_T105 b0 a0).f2) true _ A2.out) ?_;rintro e3 hb;replace d0:=bq_ d0 hb;replace m0:=bU_ m0 #[.int .i64 ((rd_T105 b0 a0).f0),.int .i64 ((rd_T105 b0 a0).f1),.string ((rd_T105 b0 a0).f2)] hb;replace HB:=bs_ HB hb;(try clear hb);obtain⟨b2,d2,e2,g2,h2,l2⟩:=b3_ m0))
     go_roundg k2
     case measure=>have:=F2.out;have:=H2.out;omega
     case rel=>exact⟨((rd_T105 b0 a0).f0),(wrap64 (a0+1)),rl_,rl_,H',⟨by have:=F2.out;have:=H2.out;omega⟩,⟨bf_⟩,⟨bw_ HB⟩⟩
def impl_JournalOk.f (k:Nat) (a0:Int) (b0:Int) (d0:Int) (e0:Int) (g0:Int) (h0:List (S105)):Option (Bool):=(impl_within.f a0 0 999).bind fun m0=>(if m0=true then((impl_within.f b0 0 100000).bind fun n0=>(if n0=true then((impl_within.f d0 0 4).bind fun o0=>(if o0=true then((impl_LogOk.f k e0 g0 h0).bind fun p0=>(some p0)) else(some false))) else(some false))) else(some false))
theorem impl_JournalOk.calls (k:Nat) (b0:Int) (e0:Int) (g0:Int) (h0:Int) (m0:Int) (n0:Option Addr) (o0:Nat) (d0:List (S105)) (r:Bool) (w:World) (r0:Kd.C k105 w n0 d0.length d0) (s0:d0.length≤o0) (h:impl_JournalOk.f k b0 e0 g0 h0 m0 d0=some r):
  Calls Tryz.prog 58 #[.agg #[.int .i64 b0,.int .i64 e0,.int .i64 g0,.int .i64 h0,.int .i64 m0,.slice n0 d0.length o0]] w fun e w'=>e= .returned (.bool r)∧Below w.heap.size w w':=by
 have O1:=Tryz.underlying30
 have P1:=Tryz.underlying28
 have t0:=Aside0.mk r0
 have v0:=Aside0.mk s0
 clear r0 s0
 have HB:=mk_ (Below.refl w.heap.size w)
 have H:=h
 unfold impl_JournalOk.f at H
 clear h
 obtain⟨K1,A2,H⟩:=ob_ H
 try dsimp only at H
 by_cases c3:K1=true
 rotate_left
 ·replace c3:=Bool.eq_false_iff.mpr c3
  subst c3
  rw [if_neg (show ¬(false=true) by decide)] at H
  obtain rfl:=Option.some.inj H
  go_enter Tryz.func58,Tryz.ntmps58
  go_wp2_with (first|((with_reducible refine gn_ 1 rfl ?_);refine bv_ (cs:=#[.int .i64 b0,.int .i64 e0,.int .i64 g0,.int .i64 h0,.int .i64 m0,.slice n0 d0.length o0]) (t:=30) HB ?_;clear HB;intro p0 Q1 a0 q0 HB;obtain⟨x0,y0,A0,B0,C0,F0,G0,H0,I0,J0,K0,L0⟩:=b6_ a0)|((with_reducible refine gc_ 53 rfl ?_);refine gm_ 5 Tryz.func53 (impl_within.calls b0 0 999 false _ A2.out) ?_;rintro w' ⟨nd,rfl⟩))
  go_ret
  exact⟨er_,bw_ HB⟩
 subst c3
 rw [if_pos rfl] at H
 obtain⟨L1,A4,H⟩:=ob_ H
 try dsimp only at H
 by_cases c5:L1=true
 rotate_left
 ·replace c5:=Bool.eq_false_iff.mpr c5
  subst c5
  rw [if_neg (show ¬(false=true) by decide)] at H
  obtain rfl:=Option.some.inj H
  go_enter Tryz.func58,Tryz.ntmps58
  go_wp2_with (first|((with_reducible refine gn_ 1 rfl ?_);refine bv_ (cs:=#[.int .i64 b0,.int .i64 e0,.int .i64 g0,.int .i64 h0,.int .i64 m0,.slice n0 d0.length o0]) (t:=30) HB ?_;clear HB;intro p0 R1 a0 q0 HB;obtain⟨M0,N0,O0,P0,Q0,R0,U0,V0,W0,X0,Y0,Z0⟩:=b6_ a0)|((with_reducible refine gc_ 53 rfl ?_);refine gm_ 5 Tryz.func53 (impl_within.calls b0 0 999 true _ A2.out) ?_;rintro w' ⟨nd,rfl⟩)|(go_at_call 53;(with_reducible refine(impl_within.calls e0 0 100000 false _ A4.out).mono ?_);rintro e w' ⟨rfl,⟨nd,rfl⟩⟩))
  go_ret
  exact⟨er_,bw_ HB⟩
 subst c5
 rw [if_pos rfl] at H
 obtain⟨M1,A6,H⟩:=ob_ H
 try dsimp only at H
 by_cases c7:M1=true
 rotate_left
 ·replace c7:=Bool.eq_false_iff.mpr c7
  subst c7
  rw [if_neg (show ¬(false=true) by decide)] at H
  obtain rfl:=Option.some.inj H
  go_enter Tryz.func58,Tryz.ntmps58
  go_wp2_with (first|((with_reducible refine gn_ 1 rfl ?_);refine bv_ (cs:=#[.int .i64 b0,.int .i64 e0,.int .i64 g0,.int .i64 h0,.int .i64 m0,.slice n0 d0.length o0]) (t:=30) HB ?_;clear HB;intro p0 U1 a0 q0 HB;obtain⟨a1,b1,d1,e1,g1,m1,n1,o1,p1,q1,r1,s1⟩:=b6_ a0)|((with_reducible refine gc_ 53 rfl ?_);refine gm_ 5 Tryz.func53 (impl_within.calls b0 0 999 true _ A2.out) ?_;rintro w' ⟨nd,rfl⟩)|(go_at_call 53;(with_reducible refine(impl_within.calls e0 0 100000 true _ A4.out).mono ?_);rintro e w' ⟨rfl,⟨nd,rfl⟩⟩)|(go_at_call 53;(with_reducible refine(impl_within.calls g0 0 4 false _ A6.out).mono ?_);rintro e w' ⟨rfl,⟨nd,rfl⟩⟩))
  go_ret
  exact⟨er_,bw_ HB⟩
 subst c7
 rw [if_pos rfl] at H
 obtain⟨N1,A8,H⟩:=ob_ H
 try dsimp only at H
 obtain rfl:=Option.some.inj H
 go_enter Tryz.func58,Tryz.ntmps58
 go_wp2_with (first|((with_reducible refine gn_ 1 rfl ?_);refine bv_ (cs:=#[.int .i64 b0,.int .i64 e0,.int .i64 g0,.int .i64 h0,.int .i64 m0,.slice n0 d0.length o0]) (t:=30) HB ?_;clear HB;intro p0 w9 a0 q0 HB;obtain⟨t1,v1,x1,y1,A1,C1,D1,F1,G1,H1,I1,J1⟩:=b6_ a0)|((with_reducible refine gc_ 53 rfl ?_);refine gm_ 5 Tryz.func53 (impl_within.calls b0 0 999 true _ A2.out) ?_;rintro w' ⟨nd,rfl⟩)|(go_at_call 53;(with_reducible refine(impl_within.calls e0 0 100000 true _ A4.out).mono ?_);rintro e w' ⟨rfl,⟨nd,rfl⟩⟩)|(go_at_call 53;(with_reducible refine(impl_within.calls g0 0 4 true _ A6.out).mono ?_);rintro e w' ⟨rfl,⟨nd,rfl⟩⟩)|(go_at_call 89;(with_reducible refine(impl_LogOk.calls k h0 m0 _ _ d0 N1 _ ?side1 ?side2 A8.out).mono ?_);(case side1=>repeat(first|exact(Kd.C_below t0.out (bw_ HB))|(with_reducible refine Kd.C_alloc ?_ _)|(with_reducible refine Kd.C_drewN ?_ _)|(with_reducible refine Kd.C_drew ?_)));(case side2=>exact v0.out);rintro e V1 ⟨rfl,hb⟩;replace a0:=bb_ a0 hb;replace HB:=bs_ HB hb;(try clear hb)))
 go_ret
 exact⟨er_,bw_ HB⟩
def impl_ReadEntry.j0:Nat→ByteArray→Int→Bool→ByteArray→Int→Bool→Int→Int→ByteArray→Option (Int × Int × Int × ByteArray × Bool)
 |0,_,_,_,_,_,_,_,_,_=>none
 |k+1,x0,x7,o0,e0,a0,g0,b0,d0,h0=>if o0=true then(some (0,0,0,(⟨#[]⟩:ByteArray),false)) else(if 0≤a0 then(if a0≤(x0.size:Int) then((impl_EntryOk.f k b0 d0 (x0.extract (a0:Int).toNat x0.size)).bind fun m0=>(if m0=true then((impl_within.f x7 1 1000000).bind fun n0=>(if n0=true then(some (x7,b0,d0,x0.extract (a0:Int).toNat x0.size,true)) else(some (0,0,0,(⟨#[]⟩:ByteArray),false)))) else(some (0,0,0,(⟨#[]⟩:ByteArray),false)))) else(none)) else(none))
def impl_ReadEntry.f (k:Nat) (a0:ByteArray):Option (Int × Int × Int × ByteArray × Bool):=(impl_reader_byte.f a0 0 false).bind fun g0=>((impl_reader_num.f k g0.2.1 g0.2.2.1 g0.2.2.2).bind fun d0=>((impl_reader_num.f k d0.2.1 d0.2.2.1 d0.2.2.2).bind fun e0=>((impl_reader_byte.f e0.2.1 e0.2.2.1 e0.2.2.2).bind fun b0=>(if b0.2.2.2=true then(impl_ReadEntry.j0 k a0 d0.1 true b0.2.1 b0.2.2.1 b0.2.2.2 e0.1 b0.1 (⟨#[]⟩:ByteArray)) else(impl_ReadEntry.j0 k a0 d0.1 (g0.1 != 69) b0.2.1 b0.2.2.1 b0.2.2.2 e0.1 b0.1 (⟨#[]⟩:ByteArray))))))
theorem impl_ReadEntry.calls (k:Nat) (a0:ByteArray) (r1:Int) (r2:Int) (r3:Int) (r4:ByteArray) (r5:Bool) (w:World) (h:impl_ReadEntry.f k a0=some (r1,r2,r3,r4,r5)):
  Calls Tryz.prog 92 #[.string a0] w fun e w'=>e= .returned (.tuple #[.int .i64 r1,.agg #[.int .i64 r2,.int .i64 r3,.string r4],.bool r5])∧Below w.heap.size w w':=by
 have m3:=Tryz.underlying105
 have n3:=Tryz.underlying123
 have HB:=mk_ (Below.refl w.heap.size w)
 have H:=h
 unfold impl_ReadEntry.f at H
 clear h
 obtain⟨⟨P0,Q0,R0,U0⟩,A2,H⟩:=ob_ H
 try dsimp only at H
 obtain⟨⟨K0,V0,W0,X0⟩,A3,H⟩:=ob_ H
 try dsimp only at H
 obtain⟨⟨r0,Y0,Z0,a1⟩,A4,H⟩:=ob_ H
 try dsimp only at H
 obtain⟨⟨s0,C0,o0,v0⟩,A5,H⟩:=ob_ H
 try dsimp only at H
 have a3:=Aside0.mk H
 clear H
 go_enter Tryz.func92,Tryz.ntmps92
 go_upto_region 5 with (first|((with_reducible refine gn_ 3 rfl ?_);refine bv_ (cs:=#[.int .i64 0,.int .i64 0,.string (⟨#[]⟩:ByteArray)]) (t:=105) HB ?_;clear HB;intro p0 w7 d0 o3 HB)|((with_reducible refine gn_ 11 rfl ?_);refine bx_ (N:=11) (cs:=#[.string a0,.int .i64 0,.bool false]) (t:=123) ?_;intro n0 hg w8 hbox hb;have b1:Aside0 (w.heap.size≤n0):=bz_ hg;have q3:=b1;have m0:=bl_ d0 hg;have N0:=bg_ d0 hg;have b0:=mk_ ((⟨hbox,(by rw [hg];exact(below_size (bw_ HB)):w.heap.size≤n0)⟩:IsS123 w w8 n0 a0 0 false));replace d0:=bb_ d0 hb;replace HB:=bs_ HB hb;clear hb hbox hg)|((with_reducible refine gc_ 86 rfl ?_);refine gm_ 13 Tryz.func86 (impl_reader_byte.calls n0 a0 0 false P0 Q0 R0 U0 w _ ?side1 ?side2 A2.out) ?_;(case side1=>exact IsS123.ii_ b0);(case side2=>exact bwi_ HB (IsS123.ge b0.out));rintro w9 ⟨hi,hb,hk⟩;replace d0:=kz_ d0 hk m0;replace HB:=mk_ (hb);replace b0:=mk_ (hi);(try clear hb);(try clear hk);(try clear hi))|((with_reducible refine gc_ 87 rfl ?_);refine gm_ 15 Tryz.func87 (impl_reader_num.calls k n0 Q0 R0 U0 K0 V0 W0 X0 w _ ?side1 ?side2 A3.out) ?_;(case side1=>exact IsS123.ii_ b0);(case side2=>exact bwi_ HB (IsS123.ge b0.out));rintro v4 ⟨hi,hb,hk⟩;replace d0:=kz_ d0 hk m0;replace HB:=mk_ (hb);replace b0:=mk_ (hi);(try clear hb);(try clear hk);(try clear hi))|((with_reducible refine gc_ 87 rfl ?_);refine gm_ 17 Tryz.func87 (impl_reader_num.calls k n0 V0 W0 X0 r0 Y0 Z0 a1 w _ ?side1 ?side2 A4.out) ?_;(case side1=>exact IsS123.ii_ b0);(case side2=>exact bwi_ HB (IsS123.ge b0.out));rintro w4 ⟨hi,hb,hk⟩;replace d0:=kz_ d0 hk m0;replace HB:=mk_ (hb);replace b0:=mk_ (hi);(try clear hb);(try clear hk);(try clear hi))|((with_reducible refine gc_ 86 rfl ?_);refine gm_ 19 Tryz.func86 (impl_reader_byte.calls n0 Y0 Z0 a1 s0 C0 o0 v0 w _ ?side1 ?side2 A5.out) ?_;(case side1=>exact IsS123.ii_ b0);(case side2=>exact bwi_ HB (IsS123.ge b0.out));rintro x4 ⟨hi,hb,hk⟩;replace d0:=kz_ d0 hk m0;replace HB:=mk_ (hb);replace b0:=mk_ (hi);(try clear hb);(try clear hk);(try clear hi))|((with_reducible refine gn_ 8 rfl ?_);refine bx_ (N:=8) (cs:=#[.int .i64 0,.int .i64 0,.string (⟨#[]⟩:ByteArray)]) (t:=105) ?_;intro h0 hg y4 hbox hb;have G0:=mk_ (IsS123.below (IsS123.ii_ b0) hb);have F0:=mk_ (below_step (bwi_ HB (IsS123.ge b0.out)) hb);have H0:=mk_ (hbox);have s3:=mk_ ((by rw [hg];exact(below_size (bwi_ HB (IsS123.ge b0.out))):w.heap.size≤h0));have t3:=mk_ ((by rw [hg];exact(below_size (bwi_ HB (IsS123.ge b0.out))):w.heap.size≤h0));have v3:Aside0 (p0≠h0):=bl_ d0 hg;have w3:Aside0 (h0≠p0):=bg_ d0 hg;have x3:=mk_ ((by rw [hg];exact Nat.ne_of_lt (IsS123.lt (show IsS123 w _ n0 C0 o0 v0 from IsS123.ii_ b0)):n0≠h0));have y3:=mk_ ((by rw [hg];exact Nat.ne_of_gt (IsS123.lt (show IsS123 w _ n0 C0 o0 v0 from IsS123.ii_ b0)):h0≠n0));clear b0;clear HB;have b0:=G0;have HB:=F0;have g0:=H0;have C3:=s3;have D3:=t3;have q0:=v3;have e0:=w3;have O0:=x3;have t0:=y3;clear G0 F0 H0 s3 t3 v3 w3 x3 y3;replace d0:=bb_ d0 hb;clear hb hbox hg;obtain⟨F3,G3⟩:=ns_ e0;obtain⟨H3,I3⟩:=ns_ t0;obtain⟨n1,o1,p1,q1,s1,t1⟩:=b3_ g0))
 (try simp only [Act.put,sia_,scz_,scs_])
 go_cut [28] (fun o4 wc=>∃(kq:Nat) (I0:Bool),o4= .bool I0∧Aside0 (impl_ReadEntry.j0 kq a0 K0 I0 C0 o0 v0 r0 s0 (⟨#[]⟩:ByteArray)=some (r1,r2,r3,r4,r5))∧Aside0 (kq≤k)∧Aside0 (wc.heap[p0]? =some (.cells #[.int .i64 0,.int .i64 0,.string (⟨#[]⟩:ByteArray)] 105 (0,0)))∧Aside0 (wc.heap[h0]? =some (.cells #[.int .i64 r0,.int .i64 s0,.string (⟨#[]⟩:ByteArray)] 105 (0,0)))∧Aside0 (IsS123 w wc n0 C0 o0 v0)∧Aside0 (Below w.heap.size w wc))
 case first=>
  have H:=a3.out
  clear a3
  by_cases v1:v0=true
  ·subst v1
   rw [if_pos rfl] at H
   have H':=Aside0.mk H
   clear H
   obtain⟨x0,d1⟩:=b0.out
   have x1:=cellS123_0 x0
   have y1:=cellS123_1 x0
   have A1:=cellS123_2 x0
   have C1:=blk_frozen x0 0
   have D1:=blk_frozen x0 1
   have F1:=blk_frozen x0 2
   clear x0 d1
   go_wp2
   go_meet
   case rel=>exact⟨_,(true),rl_,H',⟨by first|omega|exact Nat.le_refl _⟩,⟨bf_⟩,⟨bu_⟩,⟨IsS123.ii_ b0⟩,⟨bwi_ HB (IsS123.ge b0.out)⟩⟩
  replace v1:=Bool.eq_false_iff.mpr v1
  subst v1
  rw [if_neg (show ¬(false=true) by decide)] at H
  have H':=Aside0.mk H
  clear H
  obtain⟨y0,e1⟩:=b0.out
  have G1:=cellS123_0 y0
  have H1:=cellS123_1 y0
  have I1:=cellS123_2 y0
  have J1:=blk_frozen y0 0
  have K1:=blk_frozen y0 1
  have L1:=blk_frozen y0 2
  clear y0 e1
  go_wp2
  go_meet
  case rel=>exact⟨_,((P0 != 69)),rl_,H',⟨by first|omega|exact Nat.le_refl _⟩,⟨bf_⟩,⟨bu_⟩,⟨IsS123.ii_ b0⟩,⟨bwi_ HB (IsS123.ge b0.out)⟩⟩
 case rest=>
  clear a3
  try clear p2
  obtain⟨kq,I0,rfl,HA,C4,d0,g0,b0,HB⟩:=hcut
  cases kq with
  |zero=>exact absurd HA.out (by simp [impl_ReadEntry.j0])
  |succ b3=>
   have H:=HA.out
   clear HA
   simp only [impl_ReadEntry.j0] at H
   by_cases M1:I0=true
   ·subst M1
    rw [if_pos rfl] at H
    simp only [Option.some.injEq,Prod.mk.injEq] at H
    obtain⟨rfl,rfl,rfl,rfl,rfl⟩:=H
    obtain⟨J3,K3⟩:=ns_ q0
    obtain⟨L3,M3⟩:=ns_ m0
    obtain⟨N1,O1,P1,Q1,R1,U1⟩:=b3_ d0
    go_wp2
    refine bodyPost_ret (results_list (rs:=[.tmp 2,.cell 3 105,.tmp 4]) rfl (by simp) (.tmp (.cell p0 105 #[.int .i64 0,.int .i64 0,.string (⟨#[]⟩:ByteArray)] (0,0) _ rfl bu_ Tryz.underlying105 rfl (by kernel_rfl) (.tmp .nil)))) rfl ?_
    exact⟨er_,bwi_ HB (IsS123.ge b0.out)⟩
   replace M1:=Bool.eq_false_iff.mpr M1
   subst M1
   rw [if_neg (show ¬(false=true) by decide)] at H
   obtain⟨d3,H⟩:=gd_ H
   have N3:=eq_true d3
   have O3:=decide_eq_true d3
   clear d3
   obtain⟨e3,H⟩:=gd_ H
   have P3:=eq_true e3
   have Q3:=decide_eq_true e3
   clear e3
   obtain⟨g3,h3,H⟩:=ob_ H
   try dsimp only at H
   by_cases V1:g3=true
   rotate_left
   ·replace V1:=Bool.eq_false_iff.mpr V1
    subst V1
    rw [if_neg (show ¬(false=true) by decide)] at H
    simp only [Option.some.injEq,Prod.mk.injEq] at H
    obtain⟨rfl,rfl,rfl,rfl,rfl⟩:=H
    obtain⟨A0,g1⟩:=b0.out
    have W1:=cellS123_0 A0
    have X1:=cellS123_1 A0
    have Y1:=cellS123_2 A0
    have Z1:=blk_frozen A0 0
    have a2:=blk_frozen A0 1
    have b2:=blk_frozen A0 2
    clear A0 g1
    obtain⟨R3,U3⟩:=ns_ e0
    obtain⟨V3,W3⟩:=ns_ t0
    obtain⟨d2,e2,g2,h2,l2,m2⟩:=b3_ g0
    go_wp2_with (first|((with_reducible refine gc_ 105 rfl ?_);refine gm_ 38 Tryz.func105 (impl_EntryOk.calls b3 r0 s0 (a0.extract (o0:Int).toNat a0.size) false _ h3.out) ?_;rintro D4 hb;have J0:=mk_ (blk_below (g:=p0) (o:= .cells #[.int .i64 0,.int .i64 0,.string (⟨#[]⟩:ByteArray)] 105 (0,0)) bf_ hb);have G0:=mk_ (blk_below (g:=h0) (o:= .cells #[.int .i64 r0,.int .i64 s0,.string (a0.extract (o0:Int).toNat a0.size)] 105 (0,0)) bu_ hb);have F0:=mk_ (IsS123.below (show IsS123 w (wc.setCell ⟨h0,2,none⟩ (.string (a0.extract (o0:Int).toNat a0.size))) n0 C0 o0 v0 from IsS123.ii_ b0) hb);have H0:=mk_ (below_step (bwi_ HB (IsS123.ge b0.out)) hb);clear d0;clear g0;clear b0;clear HB;have d0:=J0;have g0:=G0;have b0:=F0;have HB:=H0;clear J0 G0 F0 H0;(try clear hb);obtain⟨X3,Y3⟩:=ns_ m0;obtain⟨n2,o2,q2,s2,t2,v2⟩:=b3_ d0))
    refine bodyPost_ret (results_list (rs:=[.tmp 2,.cell 3 105,.tmp 4]) rfl (by simp) (.tmp (.cell p0 105 #[.int .i64 0,.int .i64 0,.string (⟨#[]⟩:ByteArray)] (0,0) _ rfl bu_ Tryz.underlying105 rfl (by kernel_rfl) (.tmp .nil)))) rfl ?_
    exact⟨er_,bwi_ HB (IsS123.ge b0.out)⟩
   subst V1
   rw [if_pos rfl] at H
   obtain⟨j3,Z3,H⟩:=ob_ H
   try dsimp only at H
   obtain⟨B0,m1⟩:=b0.out
   have w2:=cellS123_0 B0
   have x2:=cellS123_1 B0
   have y2:=cellS123_2 B0
   have B2:=blk_frozen B0 0
   have C2:=blk_frozen B0 1
   have D2:=blk_frozen B0 2
   clear B0 m1
   obtain⟨a4,b4⟩:=ns_ e0
   obtain⟨d4,e4⟩:=ns_ t0
   obtain⟨F2,G2,H2,I2,J2,K2⟩:=b3_ g0
   by_cases L2:j3=true
   rotate_left
   ·replace L2:=Bool.eq_false_iff.mpr L2
    subst L2
    rw [if_neg (show ¬(false=true) by decide)] at H
    simp only [Option.some.injEq,Prod.mk.injEq] at H
    obtain⟨rfl,rfl,rfl,rfl,rfl⟩:=H
    go_wp2_with (first|((with_reducible refine gc_ 105 rfl ?_);refine gm_ 38 Tryz.func105 (impl_EntryOk.calls b3 r0 s0 (a0.extract (o0:Int).toNat a0.size) true _ h3.out) ?_;rintro M0 hb;have J0:=mk_ (blk_below (g:=p0) (o:= .cells #[.int .i64 0,.int .i64 0,.string (⟨#[]⟩:ByteArray)] 105 (0,0)) bf_ hb);have G0:=mk_ (blk_below (g:=h0) (o:= .cells #[.int .i64 r0,.int .i64 s0,.string (a0.extract (o0:Int).toNat a0.size)] 105 (0,0)) bu_ hb);have F0:=mk_ (IsS123.below (show IsS123 w (wc.setCell ⟨h0,2,none⟩ (.string (a0.extract (o0:Int).toNat a0.size))) n0 C0 o0 v0 from IsS123.ii_ b0) hb);have H0:=mk_ (below_step (bwi_ HB (IsS123.ge b0.out)) hb);clear d0;clear g0;clear b0;clear HB;have d0:=J0;have g0:=G0;have b0:=F0;have HB:=H0;clear J0 G0 F0 H0;(try clear hb))|(go_at_call 53;(with_reducible refine(impl_within.calls K0 1 1000000 false _ Z3.out).mono ?_);rintro e w' ⟨rfl,⟨nd,rfl⟩⟩;(try(rw [drewN_self M0];generalize hq_:World.drewN M0 _=M0;have J0:Aside0 (M0.heap[p0]? =some (.cells #[.int .i64 0,.int .i64 0,.string (⟨#[]⟩:ByteArray)] 105 (0,0))):=⟨by rw [←hq_];exact(bp_ d0)⟩;have G0:Aside0 (M0.heap[h0]? =some (.cells #[.int .i64 r0,.int .i64 s0,.string (a0.extract (o0:Int).toNat a0.size)] 105 (0,0))):=⟨by rw [←hq_];exact(bp_ g0)⟩;have F0:Aside0 (IsS123 w M0 n0 C0 o0 v0):=⟨by rw [←hq_];exact(IsS123.ii_ b0)⟩;have H0:Aside0 (Below w.heap.size w M0):=⟨by rw [←hq_];exact(bwi_ HB (IsS123.ge b0.out))⟩;clear d0 g0 b0 HB hq_;have d0:=J0;have g0:=G0;have b0:=F0;have HB:=H0;clear J0 G0 F0 H0));obtain⟨g4,h4⟩:=ns_ m0;obtain⟨M2,N2,O2,P2,Q2,R2⟩:=b3_ d0))
    refine bodyPost_ret (results_list (rs:=[.tmp 2,.cell 3 105,.tmp 4]) rfl (by simp) (.tmp (.cell p0 105 #[.int .i64 0,.int .i64 0,.string (⟨#[]⟩:ByteArray)] (0,0) _ rfl bu_ Tryz.underlying105 rfl (by kernel_rfl) (.tmp .nil)))) rfl ?_
    exact⟨er_,bwi_ HB (IsS123.ge b0.out)⟩
   subst L2
   rw [if_pos rfl] at H
   simp only [Option.some.injEq,Prod.mk.injEq] at H
   obtain⟨rfl,rfl,rfl,rfl,rfl⟩:=H
   try go_wp2_with (first|((with_reducible refine gc_ 105 rfl ?_);refine gm_ 38 Tryz.func105 (impl_EntryOk.calls b3 r0 s0 (a0.extract (o0:Int).toNat a0.size) true _ h3.out) ?_;rintro L0 hb;have J0:=mk_ (blk_below (g:=p0) (o:= .cells #[.int .i64 0,.int .i64 0,.string (⟨#[]⟩:ByteArray)] 105 (0,0)) bf_ hb);have G0:=mk_ (blk_below (g:=h0) (o:= .cells #[.int .i64 r0,.int .i64 s0,.string (a0.extract (o0:Int).toNat a0.size)] 105 (0,0)) bu_ hb);have F0:=mk_ (IsS123.below (show IsS123 w (wc.setCell ⟨h0,2,none⟩ (.string (a0.extract (o0:Int).toNat a0.size))) n0 C0 o0 v0 from IsS123.ii_ b0) hb);have H0:=mk_ (below_step (bwi_ HB (IsS123.ge b0.out)) hb);clear d0;clear g0;clear b0;clear HB;have d0:=J0;have g0:=G0;have b0:=F0;have HB:=H0;clear J0 G0 F0 H0;(try clear hb))|(go_at_call 53;(with_reducible refine(impl_within.calls K0 1 1000000 true _ Z3.out).mono ?_);rintro e w' ⟨rfl,⟨nd,rfl⟩⟩;(try(rw [drewN_self L0];generalize hq_:World.drewN L0 _=L0;have J0:Aside0 (L0.heap[p0]? =some (.cells #[.int .i64 0,.int .i64 0,.string (⟨#[]⟩:ByteArray)] 105 (0,0))):=⟨by rw [←hq_];exact(bp_ d0)⟩;have G0:Aside0 (L0.heap[h0]? =some (.cells #[.int .i64 r0,.int .i64 s0,.string (a0.extract (o0:Int).toNat a0.size)] 105 (0,0))):=⟨by rw [←hq_];exact(bp_ g0)⟩;have F0:Aside0 (IsS123 w L0 n0 C0 o0 v0):=⟨by rw [←hq_];exact(IsS123.ii_ b0)⟩;have H0:Aside0 (Below w.heap.size w L0):=⟨by rw [←hq_];exact(bwi_ HB (IsS123.ge b0.out))⟩;clear d0 g0 b0 HB hq_;have d0:=J0;have g0:=G0;have b0:=F0;have HB:=H0;clear J0 G0 F0 H0))))
   have F0:=mk_ (IsS123.drew b0.out)
   clear b0;have b0:=F0;clear F0;replace d0:=kd_ d0;replace g0:=kd_ g0;replace HB:=wd_ HB
   refine start_ (n:=5) (S:=fun w'=>w'.cell? ⟨h0,0,none⟩=some (.int .i64 r0)∧w'.cell? ⟨h0,1,none⟩=some (.int .i64 s0)∧w'.cell? ⟨h0,2,none⟩=some (.string (a0.extract (o0:Int).toNat a0.size))) (ds:=[]) #[false,false,false,false,false] (by kernel_rfl) rfl rfl ⟨bc_ g0 0,bc_ g0 1,bc_ g0 2⟩ (fun hHeld=>?_)
   generalize L0.drew=l3 at d0 g0 b0 HB hHeld⊢
   refine pv_ 0 46 ?_
   refine pv_ 2 2 ?_
   refine tv_ 1 47 hHeld ?_
   refine one_ (i:=3) (N:=none) #[true,true,true,true,false] rfl rfl (by kernel_rfl) (by decide) (fun K hK=>?_)
   have q4:l3.cell? ⟨p0,0,none⟩=some (.int .i64 0):=bc_ d0 0
   have j4:=blk_frozen d0.out 0
   have U2:=e0.out
   have V2:=q0.out
   have s4:l3.cell? ⟨p0,1,none⟩=some (.int .i64 0):=bc_ d0 1
   have l4:=blk_frozen d0.out 1
   have W2:=e0.out
   have X2:=q0.out
   have t4:l3.cell? ⟨p0,2,none⟩=some (.string (⟨#[]⟩:ByteArray)):=bc_ d0 2
   have m4:=blk_frozen d0.out 2
   have Y2:=e0.out
   have Z2:=q0.out
   refine skip_ (w1:=?_) (by rfl) rfl ?_ ?_
   rotate_left
   ·go_simp
    rfl
   refine hK.out _ _ ⟨(cf_ e0 hHeld.1),(cf_ e0 hHeld.2.1),(cf_ e0 hHeld.2.2)⟩ (fun hHeld=>?_)
   clear hK K
   refine pv_ 4 4 ?_
   refine done_ (by kernel_rfl) ?_
   try go_wp2
   refine bodyPost_ret (results_list (rs:=[.tmp 2,.cell 3 105,.tmp 4]) rfl (by simp) (.tmp (.cell p0 105 #[.int .i64 r0,.int .i64 s0,.string (a0.extract (o0:Int).toNat a0.size)] (0,0) _ rfl bu_ Tryz.underlying105 rfl (by kernel_rfl) (.tmp .nil)))) rfl ?_
   exact⟨er_,bwi_ HB (IsS123.ge b0.out)⟩
def impl_copyLog.f (b0:Int) (d0:Int) (a0:List (S105)):Option (Int × Int × (List (S105))):=if([]:List (S105)).length+a0.length<4398046511104 then(some (b0,d0,(([]:List (S105))++a0))) else(none)
theorem impl_copyLog.calls (g0:Int) (h0:Int) (s0:Option Addr) (t0:Nat) (b0:List (S105)) (r1:Int) (r2:Int) (r3:List (S105)) (w:World) (p0:Kd.C k105 w s0 b0.length b0) (q0:b0.length≤t0) (h:impl_copyLog.f g0 h0 b0=some (r1,r2,r3)):
  Calls Tryz.prog 61 #[.agg #[.int .i64 g0,.int .i64 h0,.slice s0 b0.length t0]] w fun e w'=>∃a1:Value,e= .returned (.agg #[.int .i64 r1,.int .i64 r2,a1])∧Kd.R k105 105 w' w.heap.size (fun _=>True) a1 r3∧Below w.heap.size w w':=by
 have g1:=Tryz.underlying28
 have x0:=Aside0.mk p0
 have b1:=Aside0.mk q0
 clear p0 q0
 have HB:=mk_ (Below.refl w.heap.size w)
 have H:=h
 unfold impl_copyLog.f at H
 clear h
 obtain⟨c2,H⟩:=gd_ H
 have J0:=Aside0.mk c2
 clear c2
 obtain⟨o0,n0⟩:∃y_:List (S105),y_=(([]:List (S105))++b0):=⟨_,rfl⟩
 replace H:(some (g0,h0,o0))=some (r1,r2,r3):=by first|(rw [n0];with_reducible exact H)|with_reducible exact H
 have y0:=Aside0.mk n0
 clear n0
 simp only [Option.some.injEq,Prod.mk.injEq] at H
 obtain⟨rfl,rfl,rfl⟩:=H
 go_enter Tryz.func61,Tryz.ntmps61
 go_wp2_with (first|((with_reducible refine gn_ 1 rfl ?_);refine bv_ (cs:=#[.int .i64 g0,.int .i64 h0,.slice s0 b0.length t0]) (t:=28) HB ?_;clear HB;intro A0 w3 a0 d1 HB)|((with_reducible refine gn_ 2 rfl ?_);refine bn_ (cs:=#[.int .i64 0,.int .i64 0,.slice none 0 0]) (t:=28) HB ?_;intro d0 w4 hg hb e0 e1 hB_;have m0:=bl_ a0 hg;have v0:=bg_ a0 hg;replace a0:=bb_ a0 hb;replace HB:=hB_;clear hb hB_ hg;obtain⟨m1,n1⟩:=ns_ m0;obtain⟨K0,L0,M0,N0,O0,P0⟩:=b3_ a0)|((with_reducible refine gate_builtin (b:= .append) (xs:=#[.const (.slice none 0 0),.tmp 4]) rfl ?_);at_builtin;refine Kd.R_append_rows k105 (w0:=w) w.heap.size rfl (.const (.slice none 0 0)) (.tmp 4) 26 105 (.agg #[(.int .i64 0),(.int .i64 0),(.string ⟨#[]⟩)]) 32 rfl Tryz.underlying26 info105 rfl (by decide) (by omega) (.slice none 0 0) ([]:List (S105)) b0 _ _ _ (fun _=>True) (fun _=>False) rfl rfl ?aO ?aR (fun _ _ h=>h) (fun _ h=>h.elim) ?aF ?aB ?aS ?aL ?_;(case aR=>repeat(first|exact(Kd.C_below x0.out HB.out)|(with_reducible refine Kd.C_alloc ?_ _)|(with_reducible refine Kd.C_drewN ?_ _)|(with_reducible refine Kd.C_drew ?_)));(case aB=>exact(bw_ HB));(case aF=>exact(fun _ _=>trivial));(case aO=>exact((Kd.R_nil _ _ _ _ (fun _=>True))));(case aS=>exact(below_size (bw_ HB)));(case aL=>have:=J0.out;omega);intro o1 w7 ho hb hg hat;rw [←y0.out] at ho;have r0:=mk_ (ho);replace a0:=bgr_ a0 hg (by simp [Value.ownBlock]);replace e0:=bgr_ e0 hg (by simp [Value.ownBlock]);replace HB:=mk_ (hb);clear ho hb hg hat;obtain⟨Q0,R0,p1⟩:=Kd.R_slice r0.out;subst p1;obtain⟨U0,V0,W0,X0,Y0,Z0⟩:=b3_ a0;obtain⟨B0,C0,F0,G0,H0,I0⟩:=b3_ e0))
 refine bodyPost_ret (results_cell_row rfl _ _ d0 28 #[.int .i64 g0,.int .i64 h0,.slice Q0 o0.length R0] (0,0) _ rfl bu_ Tryz.underlying28 rfl (by kernel_rfl)) rfl ?_
 exact⟨_,er_,rq_ (Kd.R_mono (Kd.R_far (p:=⟨d0,2,none⟩) (Kd.R_far (p:=⟨d0,1,none⟩) (Kd.R_far (p:=⟨d0,0,none⟩) (Kd.R_far (p:=⟨A0,2,none⟩) (Kd.R_types (Kd.R_types r0.out a0.out (by decide)) e0.out (by decide)) (fun _ hk=>hk.1.2) (.slice Q0 o0.length R0)) (fun _ hk=>hk.2) (.int .i64 g0)) (fun _ hk=>hk.2) (.int .i64 h0)) (fun _ hk=>hk.2) (.slice Q0 o0.length R0)) (fun _ hk=>trivial)),bw_ HB⟩
def impl_last.f (a0:Int) (d0:Int) (b0:List (S105)):Option (Int):=some (wrap64 (a0+(b0.length:Int)))
theorem impl_last.calls (e0:Int) (g0:Int) (h0:Option Addr) (m0:Nat) (a0:List (S105)) (r:Int) (w:World) (b0:Kd.C k105 w h0 a0.length a0) (d0:a0.length≤m0) (h:impl_last.f e0 g0 a0=some r):
  Calls Tryz.prog 107 #[.agg #[.int .i64 e0,.int .i64 g0,.slice h0 a0.length m0]] w fun e w'=>e= .returned (.int .i64 r)∧Below w.heap.size w w':=by
 have B0:=Tryz.underlying28
 have v0:=Aside0.mk b0
 have x0:=Aside0.mk d0
 clear b0 d0
 have HB:=mk_ (Below.refl w.heap.size w)
 have H:=h
 unfold impl_last.f at H
 clear h
 obtain rfl:=Option.some.inj H
 go_enter Tryz.func107,Tryz.ntmps107
 go_wp2_with (first|((with_reducible refine gn_ 1 rfl ?_);refine bv_ (cs:=#[.int .i64 e0,.int .i64 g0,.slice h0 a0.length m0]) (t:=28) HB ?_;clear HB;intro y0 w2 n0 A0 HB;obtain⟨o0,p0,q0,r0,s0,t0⟩:=b3_ n0))
 go_ret
 exact⟨er_,bw_ HB⟩
def impl_LogPut.j0:Nat→Int→Bool→Int→Int→List (S105)→Int→Int→ByteArray→Option (Int × Int × (List (S105)) × Bool)
 |0,_,_,_,_,_,_,_,_=>none
 |k+1,x1,q0,a0,d0,e0,g0,h0,m0=>if q0=true then(some (0,0,([]:List (S105)),false)) else((impl_copyLog.f a0 d0 e0).bind fun b0=>(if 0≤(wrap64 ((wrap64 (x1 - a0)) - 1)) then(if(wrap64 ((wrap64 (x1 - a0)) - 1))≤(b0.2.2.length:Int) then((some (b0.2.2.take ((wrap64 ((wrap64 (x1 - a0)) - 1)):Int).toNat:List (S105))).bind fun n0=>(if n0.length<4398046511104 then((some (n0++ [(⟨g0,h0,m0⟩:S105)]:List (S105))).bind fun o0=>((impl_LogOk.f k b0.1 b0.2.1 o0).bind fun p0=>(if p0=true then(some (b0.1,b0.2.1,o0,true)) else(some (0,0,([]:List (S105)),false))))) else(none))) else(none)) else(none)))
def impl_LogPut.f (k:Nat) (a0:Int) (b0:Int) (d0:List (S105)) (a1:Int) (e0:Int) (g0:Int) (h0:ByteArray):Option (Int × Int × (List (S105)) × Bool):=(impl_LogOk.f k a0 b0 d0).bind fun m0=>(if m0=true then((impl_last.f a0 b0 d0).bind fun n0=>((impl_within.f a1 (wrap64 (a0+1)) (wrap64 (n0+1))).bind fun o0=>(impl_LogPut.j0 k a1 (!o0) a0 b0 d0 e0 g0 h0))) else(impl_LogPut.j0 k a1 true a0 b0 d0 e0 g0 h0))
def impl_LogPut.T1:Bool × List (List Nat × List Nat):=(true,[([],[]),([0],[0]),([1],[1]),([2,1],[2]),([3],[3]),([3],[3]),([5,3],[3,5]),([6,3],[3,6]),([3],[3]),([8,3,3],[3,8]),([9,3],[3,9]),([4,7,10,9,3],[3,4,7,10]),([11,3],[3,11]),([3,12],[3,12])])
def impl_LogPut.B1:List Nat:=[0,1,3,7,15,15,47,111,15,271,783,2047,4095,8191]
theorem impl_LogPut.tab1:rtab .any (opsOf Tryz.f93 1)=impl_LogPut.T1:=by kernel_rfl
theorem impl_LogPut.bits1:waitsOk impl_LogPut.T1.2 impl_LogPut.B1=true:=by kernel_rfl
def impl_LogPut.T4:Bool × List (List Nat × List Nat):=(true,[([],[]),([0],[0]),([],[]),([],[]),([3],[3]),([2,4],[2,4]),([5],[5]),([1,6],[1,6]),([],[]),([8],[8]),([7,9],[7,9]),([0,1,2,3,4,5,6,7,8,9,10],[]),([11,10,10,0,1,2,3,4,5,6,7,8,9,10],[10,11])])
def impl_LogPut.B4:List Nat:=[0,1,0,0,8,28,60,127,0,256,1023,2047,4095]
theorem impl_LogPut.tab4:rtab .any (opsOf Tryz.f93 4)=impl_LogPut.T4:=by kernel_rfl
theorem impl_LogPut.bits4:waitsOk impl_LogPut.T4.2 impl_LogPut.B4=true:=by kernel_rfl
theorem impl_LogPut.calls (k:Nat) (h0:Int) (p0:Int) (I0:Option Addr) (J0:Nat) (m0:List (S105)) (a1:Int) (B0:Int) (C0:Int) (F0:ByteArray) (r1:Int) (r2:Int) (r3:List (S105)) (r4:Bool) (w:World) (p1:Kd.C k105 w I0 m0.length m0) (q1:m0.length≤J0) (h:impl_LogPut.f k h0 p0 m0 a1 B0 C0 F0=some (r1,r2,r3,r4)):
  Calls Tryz.prog 93 #[.agg #[.int .i64 h0,.int .i64 p0,.slice I0 m0.length J0],.int .i64 a1,.agg #[.int .i64 B0,.int .i64 C0,.string F0]] w fun e w'=>∃o3:Value,e= .returned (.tuple #[.agg #[.int .i64 r1,.int .i64 r2,o3],.bool r4])∧Kd.R k105 105 w' w.heap.size (fun _=>True) o3 r3∧Below w.heap.size w w':=by
 have l4:=Tryz.underlying28
 have q3:=Tryz.underlying105
 have R0:=Aside0.mk p1
 have U0:=Aside0.mk q1
 clear p1 q1
 have HB:=mk_ (Below.refl w.heap.size w)
 have H:=h
 unfold impl_LogPut.f at H
 clear h
 have d3:=Aside0.mk H
 clear H
 go_enter Tryz.func93,Tryz.ntmps93
 go_upto_region 1 with (first|((with_reducible refine gn_ 3 rfl ?_);refine bv_ (cs:=#[.int .i64 h0,.int .i64 p0,.slice I0 m0.length J0]) (t:=28) HB ?_;clear HB;intro q0 w5 a0 s3 HB)|((with_reducible refine gn_ 5 rfl ?_);refine bn_ (cs:=#[.int .i64 B0,.int .i64 C0,.string F0]) (t:=105) HB ?_;intro r0 w6 hg hb b0 t3 hB_;have W0:=bl_ a0 hg;have y1:=bg_ a0 hg;replace a0:=bb_ a0 hb;replace HB:=hB_;clear hb hB_ hg)|((with_reducible refine gn_ 6 rfl ?_);refine bn_ (cs:=#[.int .i64 0,.int .i64 0,.slice none 0 0]) (t:=28) HB ?_;intro H0 w7 hg hb d0 v3 hB_;have X0:=bl_ a0 hg;have Y0:=bg_ a0 hg;have A1:=bl_ b0 hg;have G0:=bg_ b0 hg;replace a0:=bb_ a0 hb;replace b0:=bb_ b0 hb;replace HB:=hB_;clear hb hB_ hg))
 (try simp only [Act.put,sia_,scz_,scs_])
 go_cut [22] (fun m4 wc=>∃(kq:Nat) (V0:Bool),m4= .bool V0∧Aside0 (impl_LogPut.j0 kq a1 V0 h0 p0 m0 B0 C0 F0=some (r1,r2,r3,r4))∧Aside0 (kq≤k)∧Aside0 (wc.heap[q0]? =some (.cells #[.int .i64 h0,.int .i64 p0,(.slice I0 m0.length J0)] 28 (0,0)))∧Aside0 (wc.heap[r0]? =some (.cells #[.int .i64 B0,.int .i64 C0,.string F0] 105 (0,0)))∧Aside0 (wc.heap[H0]? =some (.cells #[.int .i64 0,.int .i64 0,(.slice none 0 0)] 28 (0,0)))∧Aside0 (Below w.heap.size w wc))
 case first=>
  have H:=d3.out
  clear d3
  obtain⟨e3,A8,H⟩:=ob_ H
  try dsimp only at H
  by_cases c9:e3=true
  rotate_left
  ·replace c9:=Bool.eq_false_iff.mpr c9
   subst c9
   rw [if_neg (show ¬(false=true) by decide)] at H
   have H':=Aside0.mk H
   clear H
   try go_wp2
   replace a0:=kd_ a0;replace b0:=kd_ b0;replace d0:=kd_ d0;replace HB:=wd_ HB
   refine start_ (n:=14) (S:=fun w'=>w'.cell? ⟨q0,0,none⟩=some (.int .i64 h0)∧w'.cell? ⟨q0,1,none⟩=some (.int .i64 p0)∧w'.cell? ⟨q0,2,none⟩=some (.slice I0 m0.length J0)) (ds:=[]) #[false,false,false,false,false,false,false,false,false,false,false,false,false,false] (by kernel_rfl) rfl rfl ⟨bc_ a0 0,bc_ a0 1,bc_ a0 2⟩ (fun hHeld=>?_);refine with_tabW impl_LogPut.tab1 impl_LogPut.bits1 (fun HT_ HW_=>?_)
   generalize w7.drew=D4 at a0 b0 d0 HB hHeld⊢
   refine tv_ 0 9 hHeld ?_
   refine on_ 1 10 (fun K hK=>?_)
   refine gt_ Tryz.func89 #[.agg #[.int .i64 h0,.int .i64 p0,.slice I0 m0.length J0]] (impl_LogOk.calls k h0 p0 _ _ m0 false _ ?side1 ?side2 A8.out) ?_
   (case side1=>repeat(first|exact(Kd.C_below R0.out HB.out)|(with_reducible refine Kd.C_alloc ?_ _)|(with_reducible refine Kd.C_drewN ?_ _)|(with_reducible refine Kd.C_drew ?_)))
   (case side2=>exact U0.out)
   rintro F4 hb
   replace a0:=bb_ a0 hb;replace b0:=bb_ b0 hb;replace d0:=bb_ d0 hb;replace HB:=bs_ HB hb;(try clear hb);(try clear w3);(try clear hk);(try clear hi)
   refine hK.out _ _ ⟨bc_ a0 0,bc_ a0 1,bc_ a0 2⟩ (fun hHeld=>?_)
   clear hK K
   refine norm_ (a':=?_) ?_ ?_
   rotate_left
   ·show Act.put _ (some 10) _=_
    simp only [Act.put,sia_,scz_,scs_,i64_w,i32_w]
    rfl
   refine pv_ 2 11 ?_
   refine pv_ 3 12 ?_
   refine pure_ (i:=4) (N:=some 13) (v:=undef) (a':=?_) #[true,true,true,true,true,false,false,false,false,false,false,false,false,false] rfl rfl (any_of HT_.out (by kernel_rfl)) (fun _ _ _ h=>h) (Or.inr ⟨by rfl,rfl⟩) ?_ ?_
   rotate_left
   ·simp only [Act.put,sia_,scz_,scs_,i64_w,i32_w]
    rfl
   refine pure_ (i:=5) (N:=some 14) (v:=undef) (a':=?_) #[true,true,true,true,true,true,false,false,false,false,false,false,false,false] rfl rfl (any_of HT_.out (by kernel_rfl)) (fun _ _ _ h=>h) (Or.inr ⟨by rfl,rfl⟩) ?_ ?_
   rotate_left
   ·simp only [Act.put,sia_,scz_,scs_,i64_w,i32_w]
    rfl
   refine pure_ (i:=6) (N:=some 15) (v:=undef) (a':=?_) #[true,true,true,true,true,true,true,false,false,false,false,false,false,false] rfl rfl (any_of HT_.out (by kernel_rfl)) (fun _ _ _ h=>h) (Or.inr ⟨by rfl,rfl⟩) ?_ ?_
   rotate_left
   ·simp only [Act.put,sia_,scz_,scs_,i64_w,i32_w]
    rfl
   refine pure_ (i:=7) (N:=some 16) (v:=undef) (a':=?_) #[true,true,true,true,true,true,true,true,false,false,false,false,false,false] rfl rfl (any_of HT_.out (by kernel_rfl)) (fun _ _ _ h=>h) (Or.inr ⟨by rfl,rfl⟩) ?_ ?_
   rotate_left
   ·simp only [Act.put,sia_,scz_,scs_,i64_w,i32_w]
    rfl
   refine pure_ (i:=8) (N:=some 17) (v:=undef) (a':=?_) #[true,true,true,true,true,true,true,true,true,false,false,false,false,false] rfl rfl (any_of HT_.out (by kernel_rfl)) (fun _ _ _ h=>h) (Or.inr ⟨by rfl,rfl⟩) ?_ ?_
   rotate_left
   ·simp only [Act.put,sia_,scz_,scs_,i64_w,i32_w]
    rfl
   refine pure_ (i:=9) (N:=some 18) (v:=undef) (a':=?_) #[true,true,true,true,true,true,true,true,true,true,false,false,false,false] rfl rfl (any_of HT_.out (by kernel_rfl)) (fun _ _ _ h=>h) (Or.inr ⟨by rfl,rfl⟩) ?_ ?_
   rotate_left
   ·simp only [Act.put,sia_,scz_,scs_,i64_w,i32_w]
    rfl
   refine pure_ (i:=10) (N:=some 19) (v:=undef) (a':=?_) #[true,true,true,true,true,true,true,true,true,true,true,false,false,false] rfl rfl (any_of HT_.out (by kernel_rfl)) (fun _ _ _ h=>h) (Or.inr ⟨by rfl,rfl⟩) ?_ ?_
   rotate_left
   ·simp only [Act.put,sia_,scz_,scs_,i64_w,i32_w]
    rfl
   refine pure_ (i:=11) (N:=some 20) (v:=undef) (a':=?_) #[true,true,true,true,true,true,true,true,true,true,true,true,false,false] rfl rfl (any_of HT_.out (by kernel_rfl)) (fun _ _ _ h=>h) (Or.inr ⟨by rfl,rfl⟩) ?_ ?_
   rotate_left
   ·simp only [Act.put,sia_,scz_,scs_,i64_w,i32_w]
    rfl
   refine pure_ (i:=12) (N:=some 21) (v:=undef) (a':=?_) #[true,true,true,true,true,true,true,true,true,true,true,true,true,false] rfl rfl (any_of HT_.out (by kernel_rfl)) (fun _ _ _ h=>h) (Or.inr ⟨by rfl,rfl⟩) ?_ ?_
   rotate_left
   ·simp only [Act.put,sia_,scz_,scs_,i64_w,i32_w]
    rfl
   refine pv_ 13 22 ?_
   refine done_ (done_of HT_.out (by kernel_rfl)) ?_
   try go_wp2
   go_meet
   case rel=>exact⟨_,(true),rl_,H',⟨by first|omega|exact Nat.le_refl _⟩,⟨bf_⟩,⟨bf_⟩,⟨bf_⟩,⟨bw_ HB⟩⟩
  subst c9
  rw [if_pos rfl] at H
  obtain⟨J1,o4,H⟩:=ob_ H
  try dsimp only at H
  obtain⟨K1,q4,H⟩:=ob_ H
  try dsimp only at H
  have H':=Aside0.mk H
  clear H
  try go_wp2
  replace a0:=kd_ a0;replace b0:=kd_ b0;replace d0:=kd_ d0;replace HB:=wd_ HB
  refine start_ (n:=14) (S:=fun w'=>w'.cell? ⟨q0,0,none⟩=some (.int .i64 h0)∧w'.cell? ⟨q0,1,none⟩=some (.int .i64 p0)∧w'.cell? ⟨q0,2,none⟩=some (.slice I0 m0.length J0)) (ds:=[]) #[false,false,false,false,false,false,false,false,false,false,false,false,false,false] (by kernel_rfl) rfl rfl ⟨bc_ a0 0,bc_ a0 1,bc_ a0 2⟩ (fun hHeld=>?_);refine with_tabW impl_LogPut.tab1 impl_LogPut.bits1 (fun HT_ HW_=>?_)
  generalize w7.drew=G4 at a0 b0 d0 HB hHeld⊢
  refine tv_ 0 9 hHeld ?_
  refine on_ 1 10 (fun K hK=>?_)
  refine gt_ Tryz.func89 #[.agg #[.int .i64 h0,.int .i64 p0,.slice I0 m0.length J0]] (impl_LogOk.calls k h0 p0 _ _ m0 true _ ?side1 ?side2 A8.out) ?_
  (case side1=>repeat(first|exact(Kd.C_below R0.out HB.out)|(with_reducible refine Kd.C_alloc ?_ _)|(with_reducible refine Kd.C_drewN ?_ _)|(with_reducible refine Kd.C_drew ?_)))
  (case side2=>exact U0.out)
  rintro H4 hb
  replace a0:=bb_ a0 hb;replace b0:=bb_ b0 hb;replace d0:=bb_ d0 hb;replace HB:=bs_ HB hb;(try clear hb);(try clear w3);(try clear hk);(try clear hi)
  refine hK.out _ _ ⟨bc_ a0 0,bc_ a0 1,bc_ a0 2⟩ (fun hHeld=>?_)
  clear hK K
  refine norm_ (a':=?_) ?_ ?_
  rotate_left
  ·show Act.put _ (some 10) _=_
   simp only [Act.put,sia_,scz_,scs_,i64_w,i32_w]
   rfl
  refine pv_ 2 11 ?_
  refine pv_ 3 12 ?_
  refine pv_ 4 13 ?_
  refine pv_ 5 14 ?_
  refine tv_ 6 15 hHeld ?_
  refine pv_ 7 16 ?_
  refine tv_ 8 17 hHeld ?_
  refine on_ 9 18 (fun K hK=>?_)
  refine gt_ Tryz.func107 #[.agg #[.int .i64 h0,.int .i64 p0,.slice I0 m0.length J0]] (impl_last.calls h0 p0 _ _ m0 J1 _ ?side1 ?side2 o4.out) ?_
  (case side1=>repeat(first|exact(Kd.C_below R0.out HB.out)|(with_reducible refine Kd.C_alloc ?_ _)|(with_reducible refine Kd.C_drewN ?_ _)|(with_reducible refine Kd.C_drew ?_)))
  (case side2=>exact U0.out)
  rintro I4 hb
  replace a0:=bb_ a0 hb;replace b0:=bb_ b0 hb;replace d0:=bb_ d0 hb;replace HB:=bs_ HB hb;(try clear hb);(try clear w3);(try clear hk);(try clear hi)
  refine hK.out _ _ ⟨bc_ a0 0,bc_ a0 1,bc_ a0 2⟩ (fun hHeld=>?_)
  clear hK K
  refine norm_ (a':=?_) ?_ ?_
  rotate_left
  ·show Act.put _ (some 18) _=_
   simp only [Act.put,sia_,scz_,scs_,i64_w,i32_w]
   rfl
  refine pv_ 10 19 ?_
  refine on_ 11 20 (fun K hK=>?_)
  refine gs_ Tryz.func53 (impl_within.calls a1 (wrap64 (h0+1)) (wrap64 (J1+1)) K1 _ q4.out) ?_
  rintro w' ⟨nd,rfl⟩
  refine hK.out _ _ ⟨bc_ a0 0,bc_ a0 1,bc_ a0 2⟩ (fun hHeld=>?_)
  clear hK K
  refine norm_ (a':=?_) ?_ ?_
  rotate_left
  ·show Act.put _ (some 20) _=_
   simp only [Act.put,sia_,scz_,scs_,i64_w,i32_w]
   rfl
  refine pv_ 12 21 ?_
  refine pv_ 13 22 ?_
  refine done_ (done_of HT_.out (by kernel_rfl)) ?_
  try go_wp2
  go_meet
  case rel=>exact⟨_,(!K1),rl_,H',⟨by first|omega|exact Nat.le_refl _⟩,⟨bf_⟩,⟨bf_⟩,⟨bf_⟩,⟨bw_ HB⟩⟩
 case rest=>
  clear d3
  (try clear p2);(try clear p6)
  obtain⟨kq,V0,rfl,HA,J4,a0,b0,d0,HB⟩:=hcut
  cases kq with
  |zero=>exact absurd HA.out (by simp [impl_LogPut.j0])
  |succ x3=>
   have H:=HA.out
   clear HA
   simp only [impl_LogPut.j0] at H
   by_cases Q1:V0=true
   ·subst Q1
    rw [if_pos rfl] at H
    simp only [Option.some.injEq,Prod.mk.injEq] at H
    obtain⟨rfl,rfl,rfl,rfl⟩:=H
    obtain⟨y3,A3⟩:=ns_ Y0
    obtain⟨C3,D3⟩:=ns_ G0
    obtain⟨R1,U1,V1,W1,X1,Y1⟩:=b3_ d0
    go_wp2
    refine bodyPost_ret (results_ct rfl _ _ H0 28 #[.int .i64 0,.int .i64 0,.slice none 0 0] (0,0) _ rfl bu_ Tryz.underlying28 rfl (by kernel_rfl)) rfl ?_
    exact⟨_,er_,by first|exact Kd.R_nil _ _ _ _ _|exact Kd.N_nil _ _ _ _ _|exact Kd.V_nil _ _ _ _ _|exact Kd.Q_nil _ _ _ _ _|exact Kd.S_nil _ _ _ _ _,bw_ HB⟩
   replace Q1:=Bool.eq_false_iff.mpr Q1
   subst Q1
   rw [if_neg (show ¬(false=true) by decide)] at H
   obtain⟨⟨n0,o0,s0⟩,F3,H⟩:=ob_ H
   try dsimp only at H
   obtain⟨Z0,N0⟩:∃j_:Int,(wrap64 ((wrap64 (a1 - h0)) - 1))=j_:=⟨_,rfl⟩
   (first|rw [N0] at H|simp only [N0] at H)
   (try rw [N0] at F3)
   have g3:(IntKind.i64.wrap ((wrap64 (a1 - h0)) - 1))=Z0:=(i64_w _).trans N0
   obtain⟨h3,H⟩:=gd_ H
   have G3:=eq_true h3
   have H3:=decide_eq_true h3
   clear h3
   obtain⟨j3,H⟩:=gd_ H
   have I3:=eq_true j3
   have J3:=decide_eq_true j3
   clear j3
   obtain⟨n1,g1⟩:∃y_:List (S105),y_=(s0.take ((Z0):Int).toNat):=⟨_,rfl⟩
   replace H:=sb_ g1 H
   have s1:=Aside0.mk g1
   clear g1
   obtain⟨K3,H⟩:=gd_ H
   have L1:=Aside0.mk K3
   clear K3
   obtain⟨x0,m1⟩:∃y_:List (S105),y_=(n1++ [(⟨B0,C0,F0⟩:S105)]):=⟨_,rfl⟩
   replace H:=sb_ m1 H
   have M1:=Aside0.mk m1
   clear m1
   obtain⟨l3,L3,H⟩:=ob_ H
   try dsimp only at H
   obtain⟨M3,N3⟩:=ns_ W0
   obtain⟨O3,P3⟩:=ns_ X0
   obtain⟨Z1,a2,b2,d2,e2,g2⟩:=b3_ a0
   try go_wp2_with (first|((with_reducible refine gc_ 61 rfl ?_);refine gl_ 25 Tryz.func61 #[.agg #[.int .i64 h0,.int .i64 p0,.slice I0 m0.length J0]] ?_;(with_reducible refine(impl_copyLog.calls h0 p0 _ _ m0 n0 o0 s0 _ ?side1 ?side2 F3.out).mono ?_);(case side1=>repeat(first|exact(Kd.C_below R0.out HB.out)|(with_reducible refine Kd.C_alloc ?_ _)|(with_reducible refine Kd.C_drewN ?_ _)|(with_reducible refine Kd.C_drew ?_)));(case side2=>exact U0.out);rintro e K4 ⟨s4,rfl,Q3,hb⟩;refine⟨_,rfl,?_⟩;have t0:=mk_ (Kd.R_lower (Kd.R_newB Q3 (g:=r0) (o:= .cells #[.int .i64 B0,.int .i64 C0,.string F0] 105 (0,0)) (bp_ b0)) (below_size (bw_ HB)));replace a0:=bb_ a0 hb;replace b0:=bb_ b0 hb;replace d0:=bb_ d0 hb;replace HB:=bs_ HB hb;(try clear hb);(try clear Q3))|((with_reducible refine gn_ 8 rfl ?_);refine bn_ (cs:=#[.int .i64 0,.int .i64 0,.slice none 0 0]) (t:=28) HB ?_;intro g0 v1 hg hb e0 R3 hB_;have b1:=bl_ a0 hg;have O0:=bg_ a0 hg;have d1:=bl_ b0 hg;have P0:=bg_ b0 hg;have e1:=bl_ d0 hg;have Q0:=bg_ d0 hg;replace t0:=rb_ t0 hb;replace a0:=bb_ a0 hb;replace b0:=bb_ b0 hb;replace d0:=bb_ d0 hb;replace HB:=hB_;clear hb hB_ hg;obtain⟨U3,V3⟩:=ns_ O0;obtain⟨W3,X3⟩:=ns_ P0;obtain⟨Y3,Z3⟩:=ns_ Q0;obtain⟨h2,l2,m2,n2,o2,q2⟩:=b3_ e0;obtain⟨y0,A0,m3⟩:=Kd.R_slice t0.out;subst m3))
   have C1:Aside0 (Kd.R k105 105 (((v1.setCell ⟨g0,0,none⟩ (.int .i64 n0)).setCell ⟨g0,1,none⟩ (.int .i64 o0)).setCell ⟨g0,2,none⟩ (.slice y0 s0.length A0)) w.heap.size (fun k_=>k_≠r0) (.slice y0 s0.length A0) s0):=⟨rq_ (Kd.R_mono (Kd.R_far (p:=⟨g0,2,none⟩) (Kd.R_far (p:=⟨g0,1,none⟩) (Kd.R_far (p:=⟨g0,0,none⟩) (Kd.R_types t0.out e0.out (by decide)) (fun _ hk=>hk.2) (.int .i64 n0)) (fun _ hk=>hk.2) (.int .i64 o0)) (fun _ hk=>hk.2) (.slice y0 s0.length A0)) (fun _ hk=>hk.1.2))⟩
   have D1:Aside0 ((((v1.setCell ⟨g0,0,none⟩ (.int .i64 n0)).setCell ⟨g0,1,none⟩ (.int .i64 o0)).setCell ⟨g0,2,none⟩ (.slice y0 s0.length A0)).heap[q0]? =some (.cells #[.int .i64 h0,.int .i64 p0,.slice I0 m0.length J0] 28 (0,0))):=⟨bf_⟩
   have F1:Aside0 ((((v1.setCell ⟨g0,0,none⟩ (.int .i64 n0)).setCell ⟨g0,1,none⟩ (.int .i64 o0)).setCell ⟨g0,2,none⟩ (.slice y0 s0.length A0)).heap[r0]? =some (.cells #[.int .i64 B0,.int .i64 C0,.string F0] 105 (0,0))):=⟨bf_⟩
   have G1:Aside0 ((((v1.setCell ⟨g0,0,none⟩ (.int .i64 n0)).setCell ⟨g0,1,none⟩ (.int .i64 o0)).setCell ⟨g0,2,none⟩ (.slice y0 s0.length A0)).heap[H0]? =some (.cells #[.int .i64 0,.int .i64 0,.slice none 0 0] 28 (0,0))):=⟨bf_⟩
   have H1:Aside0 ((((v1.setCell ⟨g0,0,none⟩ (.int .i64 n0)).setCell ⟨g0,1,none⟩ (.int .i64 o0)).setCell ⟨g0,2,none⟩ (.slice y0 s0.length A0)).heap[g0]? =some (.cells #[.int .i64 n0,.int .i64 o0,.slice y0 s0.length A0] 28 (0,0))):=⟨bu_⟩
   have I1:Aside0 (Below w.heap.size w (((v1.setCell ⟨g0,0,none⟩ (.int .i64 n0)).setCell ⟨g0,1,none⟩ (.int .i64 o0)).setCell ⟨g0,2,none⟩ (.slice y0 s0.length A0))):=⟨bw_ HB⟩
   (try clear t0);(try clear a0);(try clear b0);(try clear d0);(try clear e0);(try clear HB)
   generalize (((v1.setCell ⟨g0,0,none⟩ (.int .i64 n0)).setCell ⟨g0,1,none⟩ (.int .i64 o0)).setCell ⟨g0,2,none⟩ (.slice y0 s0.length A0))=t4 at C1 D1 F1 G1 H1 I1⊢
   have t0:=C1;have a0:=D1;have b0:=F1;have d0:=G1;have e0:=H1;have HB:=I1;clear C1 D1 F1 G1 H1 I1
   replace t0:=rd_ t0;replace a0:=kd_ a0;replace b0:=kd_ b0;replace d0:=kd_ d0;replace e0:=kd_ e0;replace HB:=wd_ HB
   have n3:((Z0):Int)≤((s0.length:Int):Int):=od_
   obtain⟨i040,t1,_,N1,_⟩:=info_parts info105
   have x1:=cut_to (P:=Tryz.prog) 26 105 .i64 Tryz.underlying26 t1 y0 s0.length A0 (Z0) (od_) n3 (Kd.R_reads' t0.out).2.1
   have o1:=Kd.R_take (m:=((Z0):Int).toNat) t0.out (by omega)
   have O1:n1.length=((Z0):Int).toNat:=(by rw [s1.out,List.length_take];omega)
   rw [←s1.out] at o1
   rw [←O1] at o1 x1
   clear O1 t1 N1 t0
   have L0:=Aside0.mk o1
   clear o1
   replace n3:=eq_true n3
   refine start_ (n:=13) (S:=fun w'=>w'.cell? ⟨g0,0,none⟩=some (.int .i64 n0)∧w'.cell? ⟨g0,1,none⟩=some (.int .i64 o0)∧w'.cell? ⟨g0,2,none⟩=some (.slice y0 s0.length A0)∧w'.cell? ⟨q0,0,none⟩=some (.int .i64 h0)∧w'.cell? ⟨q0,1,none⟩=some (.int .i64 p0)∧w'.cell? ⟨q0,2,none⟩=some (.slice I0 m0.length J0)∧w'.cell? ⟨r0,0,none⟩=some (.int .i64 B0)∧w'.cell? ⟨r0,1,none⟩=some (.int .i64 C0)∧w'.cell? ⟨r0,2,none⟩=some (.string F0)) (ds:=[12]) #[false,false,false,false,false,false,false,false,false,false,false,false,false] (by kernel_rfl) rfl rfl ⟨bc_ e0 0,bc_ e0 1,bc_ e0 2,bc_ a0 0,bc_ a0 1,bc_ a0 2,bc_ b0 0,bc_ b0 1,bc_ b0 2⟩ (fun hHeld=>?_);refine with_tabW impl_LogPut.tab4 impl_LogPut.bits4 (fun HT_ HW_=>?_)
   generalize t4.drew=L4 at a0 b0 d0 e0 HB L0 hHeld⊢
   refine pv_ 0 26 ?_
   refine pv_ 2 28 ?_
   refine pv_ 3 29 ?_
   refine tv_ 1 27 hHeld ?_
   refine tv_ 4 30 hHeld ?_
   refine pv_ 5 31 ?_
   refine pv_ 6 32 ?_
   refine pv_ 7 33 ?_
   refine tv_ 8 34 hHeld ?_
   refine on_ 9 35 (fun K hK=>?_)
   refine value_ (w1:=?_) (v:=?_) (by rfl) rfl ?_ ?_
   rotate_left 2
   ·go_simp
    constructor
    ·rfl
    ·rfl
   refine hK.out _ _ ⟨(blk_cell (blk_alloc e0.out _) 0).trans rfl,(blk_cell (blk_alloc e0.out _) 1).trans rfl,(blk_cell (blk_alloc e0.out _) 2).trans rfl,(blk_cell (blk_alloc a0.out _) 0).trans rfl,(blk_cell (blk_alloc a0.out _) 1).trans rfl,(blk_cell (blk_alloc a0.out _) 2).trans rfl,(blk_cell (blk_alloc b0.out _) 0).trans rfl,(blk_cell (blk_alloc b0.out _) 1).trans rfl,(blk_cell (blk_alloc b0.out _) 2).trans rfl⟩ (fun hHeld=>?_)
   clear hK K
   refine norm_ (a':=?_) ?_ ?_
   rotate_left
   ·show Act.put _ (some 35) _=_
    simp only [Act.put,sia_,scz_,scs_,i64_w,i32_w]
    rfl
   refine on_ 10 36 (fun K hK=>?_)
   refine Kd.R_append_step k105 (w0:=w) w.heap.size (by rfl) (.tmp 33) (.tmp 35) 26 105 (.agg #[(.int .i64 0),(.int .i64 0),(.string ⟨#[]⟩)]) 32 rfl Tryz.underlying26 info105 rfl (by decide) (by omega) (.slice y0 n1.length A0) n1 (⟨B0,C0,F0⟩:S105) [.int .i64 B0,.int .i64 C0,.string F0] (fun k_=>k_≠r0) (fun _=>False) rfl rfl ?aP (fun _ hk=>hk.elim) ?aF ?aO ?aB ?aS ?aL ?_
   (case aP=>exact k105_mkM _ _ _ (⟨B0,C0,F0⟩:S105))
   (case aB=>exact(bw_ HB))
   (case aF=>exact(fun k_ hk=>Kd.freshB (g:=r0) (o:= .cells #[.int .i64 B0,.int .i64 C0,.string F0] 105 (0,0)) (bp_ b0) k_ hk))
   (case aO=>exact(rp_ L0))
   (case aS=>exact(below_size (bw_ HB)))
   (case aL=>have:=L1.out;omega)
   intro v4 w4 ho hb hg hat
   rw [←M1.out] at ho
   have C1:=bgr_ a0 hg (Kd.R_ne L0.out a0.out (by decide))
   have D1:=bgr_ b0 hg (Kd.R_away L0.out (fun _ hk=>hk))
   have F1:=bgr_ d0 hg (Kd.R_ne L0.out d0.out (by decide))
   have G1:=bgr_ e0 hg (Kd.R_ne L0.out e0.out (by decide))
   have H1:=mk_ (hb)
   have I1:=mk_ (ho)
   clear a0;clear b0;clear d0;clear e0;clear HB;clear L0;have a0:=C1;have b0:=D1;have d0:=F1;have e0:=G1;have HB:=H1;have v0:=I1;clear C1 D1 F1 G1 H1 I1;clear ho hb hg hat
   obtain⟨M0,K0,P1⟩:=Kd.R_slice v0.out
   (first|subst P1|(injection P1 with a4 x4 b4;have y4:=a4.symm;have A4:=b4.symm;clear a4 x4 b4;subst y4;subst A4))
   refine hK.out _ _ ⟨bc_ e0 0,bc_ e0 1,bc_ e0 2,bc_ a0 0,bc_ a0 1,bc_ a0 2,bc_ b0 0,bc_ b0 1,bc_ b0 2⟩ (fun hHeld=>?_)
   clear hK K
   refine norm_ (a':=?_) ?_ ?_
   rotate_left
   ·show Act.put _ (some 36) _=_
    simp only [Act.put,sia_,scz_,scs_,i64_w,i32_w]
    rfl
   refine pv_ 11 37 ?_
   refine last_ (i:=12) (N:=none) #[true,true,true,true,true,true,true,true,true,true,true,true,true] rfl rfl (one_of HT_.out (by kernel_rfl)) (by decide) (fun K hK=>?_)
   have C4:w4.cell? ⟨g0,2,none⟩=some (.slice y0 s0.length A0):=bc_ e0 2
   have d4:=blk_frozen e0.out 2
   have s2:=b1.out
   have t2:=d1.out
   have v2:=e1.out
   have w2:=O0.out
   have x2:=P0.out
   have y2:=Q0.out
   refine skip_ (w1:=?_) (by rfl) rfl ?_ ?_
   rotate_left
   ·go_simp
    rfl
   refine hK.out _ _ ?_
   clear hK K
   refine done_ (done_of HT_.out (by kernel_rfl)) ?_
   obtain⟨A2,B2,C2,D2,F2,G2⟩:=b3_ e0
   by_cases H2:l3=true
   ·subst H2
    rw [if_pos rfl] at H
    simp only [Option.some.injEq,Prod.mk.injEq] at H
    obtain⟨rfl,rfl,rfl,rfl⟩:=H
    try go_wp2_with (first|((with_reducible refine gc_ 89 rfl ?_);refine gx_ 39 Tryz.func89 #[.agg #[.int .i64 n0,.int .i64 o0,.slice M0 x0.length K0]] (impl_LogOk.calls x3 n0 o0 _ _ x0 true _ ?side1 ?side2 L3.out) ?_;(case side1=>refine(Kd.R_reads' (e:=105) (base:=w.heap.size) (ok:=fun k_=>k_≠r0) (n:=x0.length) (c:=K0) ?_).2.2;exact(rq_ (rf_ v0 e0 2 (.slice M0 x0.length K0))));(case side2=>exact(Kd.R_reads' v0.out).2.1);rintro M4 hb;replace v0:=mk_ (Kd.R_below (rq_ (rf_ v0 e0 2 (.slice M0 x0.length K0))) hb);replace a0:=bq_ a0 hb;replace b0:=bq_ b0 hb;replace d0:=bq_ d0 hb;replace e0:=bU_ e0 #[.int .i64 n0,.int .i64 o0,.slice M0 x0.length K0] hb;replace HB:=bs_ HB hb;(try clear hb);(try clear hk);obtain⟨I2,J2,K2,L2,M2,N2⟩:=b3_ e0;obtain⟨e4,g4⟩:=ns_ G0;obtain⟨O2,P2,Q2,R2,U2,V2⟩:=b3_ d0))
    refine bodyPost_ret (results_ct rfl _ _ H0 28 #[.int .i64 n0,.int .i64 o0,.slice M0 x0.length K0] (0,0) _ rfl bu_ Tryz.underlying28 rfl (by kernel_rfl)) rfl ?_
    exact⟨_,by first|rfl|(simp [errW_none,errW_some] <;> rfl)|(simp only [←N0];first|rfl|(simp [errW_none,errW_some] <;> rfl))|(simp [*,errW_none,errW_some] <;> rfl),rq_ (Kd.R_mono (Kd.R_far (p:=⟨H0,2,none⟩) (Kd.R_far (p:=⟨H0,1,none⟩) (Kd.R_far (p:=⟨H0,0,none⟩) (Kd.R_types v0.out d0.out (by decide)) (fun _ hk=>hk.2) (.int .i64 n0)) (fun _ hk=>hk.2) (.int .i64 o0)) (fun _ hk=>hk.2) (.slice M0 x0.length K0)) (fun _ hk=>trivial)),bw_ HB⟩
   replace H2:=Bool.eq_false_iff.mpr H2
   subst H2
   rw [if_neg (show ¬(false=true) by decide)] at H
   simp only [Option.some.injEq,Prod.mk.injEq] at H
   obtain⟨rfl,rfl,rfl,rfl⟩:=H
   try go_wp2_with (first|((with_reducible refine gc_ 89 rfl ?_);refine gx_ 39 Tryz.func89 #[.agg #[.int .i64 n0,.int .i64 o0,.slice M0 x0.length K0]] (impl_LogOk.calls x3 n0 o0 _ _ x0 false _ ?side1 ?side2 L3.out) ?_;(case side1=>refine(Kd.R_reads' (e:=105) (base:=w.heap.size) (ok:=fun k_=>k_≠r0) (n:=x0.length) (c:=K0) ?_).2.2;exact(rq_ (rf_ v0 e0 2 (.slice M0 x0.length K0))));(case side2=>exact(Kd.R_reads' v0.out).2.1);rintro N4 hb;replace v0:=mk_ (Kd.R_below (rq_ (rf_ v0 e0 2 (.slice M0 x0.length K0))) hb);replace a0:=bq_ a0 hb;replace b0:=bq_ b0 hb;replace d0:=bq_ d0 hb;replace e0:=bU_ e0 #[.int .i64 n0,.int .i64 o0,.slice M0 x0.length K0] hb;replace HB:=bs_ HB hb;(try clear hb);(try clear hk);obtain⟨h4,j4⟩:=ns_ G0;obtain⟨W2,X2,Y2,Z2,a3,b3⟩:=b3_ d0))
   refine bodyPost_ret (results_ct rfl _ _ H0 28 #[.int .i64 0,.int .i64 0,.slice none 0 0] (0,0) _ rfl bu_ Tryz.underlying28 rfl (by kernel_rfl)) rfl ?_
   exact⟨_,by first|rfl|(simp [errW_none,errW_some] <;> rfl)|(simp only [←N0];first|rfl|(simp [errW_none,errW_some] <;> rfl))|(simp [*,errW_none,errW_some] <;> rfl),by first|exact Kd.R_nil _ _ _ _ _|exact Kd.N_nil _ _ _ _ _|exact Kd.V_nil _ _ _ _ _|exact Kd.Q_nil _ _ _ _ _|exact Kd.S_nil _ _ _ _ _,bw_ HB⟩
end Go.Proofs.YtolakamimfhcjaaGreatDoor.QFnExactOpenJournal
