/- Written by this session's own program: what the law's functions come to, and that the machine's calls do just that. -/
import Derived.Test.YtolakamimfhcjaaGreatDoorQFnExactOpenJournalx4
namespace Go.Proofs.YtolakamimfhcjaaGreatDoor.QFnExactOpenJournal
open Go.RowKit Go.Proofs.YtolakamimfhcjaaGreatDoorW.PrintWords Go.Proofs.YtolakamimfhcjaaGreatDoorW.PrintLast Go.Proofs.YtolakamimfhcjaaGreatDoorW.PrintMore
attribute [local go_sem] Go.Proofs.YtolakamimfhcjaaGreatDoor.Sem.string_geq Go.Proofs.YtolakamimfhcjaaGreatDoor.Sem.string_leq Go.Proofs.YtolakamimfhcjaaGreatDoor.Sem.string_gtr
attribute [local go_sem] max2_int min2_int max_two min_two max_three min_three max_four min_four
set_option linter.unusedVariables false
set_option linter.unusedSimpArgs false
set_option maxHeartbeats 8000000
set_option maxRecDepth 100000
def spec_LogPut.j0:Nat→Int→Bool→Int→Int→List (S105)→Int→Int→ByteArray→Option (Int × Int × (List (S105)) × Bool)
 |0,_,_,_,_,_,_,_,_=>none
 |k+1,x1,s0,a0,b0,d0,e0,g0,h0=>if s0=true then(some (0,0,([]:List (S105)),false)) else((some (([]:List (S105)):List (S105))).bind fun m0=>(if 0≤(wrap64 ((wrap64 (x1 - a0)) - 1)) then(if(wrap64 ((wrap64 (x1 - a0)) - 1))≤(d0.length:Int) then((some (d0.take ((wrap64 ((wrap64 (x1 - a0)) - 1)):Int).toNat:List (S105))).bind fun n0=>(if m0.length+n0.length<4398046511104 then((some (m0++n0:List (S105))).bind fun o0=>((some (([(⟨e0,g0,h0⟩:S105)]:List (S105)):List (S105))).bind fun p0=>(if o0.length+p0.length<4398046511104 then((some (o0++p0:List (S105))).bind fun q0=>((spec_LogOk.f k a0 b0 q0).bind fun r0=>(if r0=true then(some (a0,b0,q0,true)) else(some (0,0,([]:List (S105)),false))))) else(none)))) else(none))) else(none)) else(none)))
def spec_LogPut.f (k:Nat) (a0:Int) (b0:Int) (d0:List (S105)) (a1:Int) (e0:Int) (g0:Int) (h0:ByteArray):Option (Int × Int × (List (S105)) × Bool):=(spec_LogOk.f k a0 b0 d0).bind fun m0=>(if m0=true then((spec_l06Last.f a0 b0 d0).bind fun n0=>((spec_l01In.f a1 (wrap64 (a0+1)) (wrap64 (n0+1))).bind fun o0=>(spec_LogPut.j0 k a1 (!o0) a0 b0 d0 e0 g0 h0))) else(spec_LogPut.j0 k a1 true a0 b0 d0 e0 g0 h0))
def spec_LogPut.T1:Bool × List (List Nat × List Nat):=(true,[([],[]),([0],[0]),([1],[1]),([2,1],[2]),([3],[3]),([3],[3]),([5,3],[3,5]),([6,3],[3,6]),([3],[3]),([8,3,3],[3,8]),([9,3],[3,9]),([4,7,10,9,3],[3,4,7,10]),([11,3],[3,11]),([3,12],[3,12])])
def spec_LogPut.B1:List Nat:=[0,1,3,7,15,15,47,111,15,271,783,2047,4095,8191]
theorem spec_LogPut.tab1:rtab .any (opsOf Tryz.f74 1)=spec_LogPut.T1:=by kernel_rfl
theorem spec_LogPut.bits1:waitsOk spec_LogPut.T1.2 spec_LogPut.B1=true:=by kernel_rfl
def spec_LogPut.T3:Bool × List (List Nat × List Nat):=(true,[([],[]),([0],[0]),([],[]),([2],[2]),([],[]),([],[]),([5],[5]),([],[]),([],[]),([8],[8]),([7,9],[7,9]),([10],[10]),([6,11],[6,11]),([4,12],[4,12]),([],[]),([14],[14]),([13,15,13],[13,15]),([1,3,16],[1,3,16]),([],[]),([18,17,16,0,1,2,3,4,5,6,7,8,9,10,11,12,13,14,15,16,17,18],[17,18])])
def spec_LogPut.B3:List Nat:=[0,1,0,4,0,0,32,0,0,256,896,1920,4064,8176,0,16384,65520,131071,0,524287]
theorem spec_LogPut.tab3:rtab .any (opsOf Tryz.f74 3)=spec_LogPut.T3:=by kernel_rfl
theorem spec_LogPut.bits3:waitsOk spec_LogPut.T3.2 spec_LogPut.B3=true:=by kernel_rfl
theorem spec_LogPut.calls (k:Nat) (F0:Int) (G0:Int) (L0:Option Addr) (K0:Nat) (H0:List (S105)) (a1:Int) (v0:Int) (x0:Int) (y0:ByteArray) (r1:Int) (r2:Int) (r3:List (S105)) (r4:Bool) (w:World) (U2:Kd.C k105 w L0 H0.length H0) (V2:H0.length≤K0) (h:spec_LogPut.f k F0 G0 H0 a1 v0 x0 y0=some (r1,r2,r3,r4)):
  Calls Tryz.prog 74 #[.agg #[.int .i64 F0,.int .i64 G0,.slice L0 H0.length K0],.int .i64 a1,.agg #[.int .i64 v0,.int .i64 x0,.string y0]] w fun e w'=>∃h5:Value,e= .returned (.tuple #[.agg #[.int .i64 r1,.int .i64 r2,h5],.bool r4])∧Kd.R k105 105 w' w.heap.size (fun _=>True) h5 r3∧Below w.heap.size w w':=by
 have d6:=Tryz.underlying28
 have j5:=Tryz.underlying105
 have q2:=Aside0.mk U2
 have s2:=Aside0.mk V2
 clear U2 V2
 have HB:=mk_ (Below.refl w.heap.size w)
 have H:=h
 unfold spec_LogPut.f at H
 clear h
 have R4:=Aside0.mk H
 clear H
 go_enter Tryz.func74,Tryz.ntmps74
 go_upto_region 1 with (first|((with_reducible refine gn_ 3 rfl ?_);refine bv_ (cs:=#[.int .i64 F0,.int .i64 G0,.slice L0 H0.length K0]) (t:=28) HB ?_;clear HB;intro g0 w5 a0 l5 HB)|((with_reducible refine gn_ 5 rfl ?_);refine bn_ (cs:=#[.int .i64 v0,.int .i64 x0,.string y0]) (t:=105) HB ?_;intro e0 w6 hg hb b0 m5 hB_;have o3:=bl_ a0 hg;have q3:=bg_ a0 hg;replace a0:=bb_ a0 hb;replace HB:=hB_;clear hb hB_ hg)|((with_reducible refine gn_ 6 rfl ?_);refine bn_ (cs:=#[.int .i64 0,.int .i64 0,.slice none 0 0]) (t:=28) HB ?_;intro B0 w7 hg hb d0 o5 hB_;have s3:=bl_ a0 hg;have A1:=bg_ a0 hg;have t3:=bl_ b0 hg;have C1:=bg_ b0 hg;replace a0:=bb_ a0 hb;replace b0:=bb_ b0 hb;replace HB:=hB_;clear hb hB_ hg))
 (try simp only [Act.put,sia_,scz_,scs_])
 go_cut [22] (fun e6 wc=>∃(kq:Nat) (t2:Bool),e6= .bool t2∧Aside0 (spec_LogPut.j0 kq a1 t2 F0 G0 H0 v0 x0 y0=some (r1,r2,r3,r4))∧Aside0 (kq≤k)∧Aside0 (wc.heap[g0]? =some (.cells #[.int .i64 F0,.int .i64 G0,(.slice L0 H0.length K0)] 28 (0,0)))∧Aside0 (wc.heap[e0]? =some (.cells #[.int .i64 v0,.int .i64 x0,.string y0] 105 (0,0)))∧Aside0 (wc.heap[B0]? =some (.cells #[.int .i64 0,.int .i64 0,(.slice none 0 0)] 28 (0,0)))∧Aside0 (Below w.heap.size w wc))
 case first=>
  have H:=R4.out
  clear R4
  obtain⟨U4,A8,H⟩:=ob_ H
  try dsimp only at H
  by_cases c9:U4=true
  rotate_left
  ·replace c9:=Bool.eq_false_iff.mpr c9
   subst c9
   rw [if_neg (show ¬(false=true) by decide)] at H
   have H':=Aside0.mk H
   clear H
   try go_wp2
   replace a0:=kd_ a0;replace b0:=kd_ b0;replace d0:=kd_ d0;replace HB:=wd_ HB
   refine start_ (n:=14) (S:=fun w'=>w'.cell? ⟨g0,0,none⟩=some (.int .i64 F0)∧w'.cell? ⟨g0,1,none⟩=some (.int .i64 G0)∧w'.cell? ⟨g0,2,none⟩=some (.slice L0 H0.length K0)) (ds:=[]) #[false,false,false,false,false,false,false,false,false,false,false,false,false,false] (by kernel_rfl) rfl rfl ⟨bc_ a0 0,bc_ a0 1,bc_ a0 2⟩ (fun hHeld=>?_);refine with_tabW spec_LogPut.tab1 spec_LogPut.bits1 (fun HT_ HW_=>?_)
   generalize w7.drew=r6 at a0 b0 d0 HB hHeld⊢
   refine tv_ 0 9 hHeld ?_
   refine on_ 1 10 (fun K hK=>?_)
   refine gt_ Tryz.func46 #[.agg #[.int .i64 F0,.int .i64 G0,.slice L0 H0.length K0]] (spec_LogOk.calls k F0 G0 _ _ H0 false _ ?side1 ?side2 A8.out) ?_
   (case side1=>repeat(first|exact(Kd.C_below q2.out HB.out)|(with_reducible refine Kd.C_alloc ?_ _)|(with_reducible refine Kd.C_drewN ?_ _)|(with_reducible refine Kd.C_drew ?_)))
   (case side2=>exact s2.out)
   rintro s6 hb
   replace a0:=bb_ a0 hb;replace b0:=bb_ b0 hb;replace d0:=bb_ d0 hb;replace HB:=bs_ HB hb;(try clear hb);(try clear p5);(try clear hk);(try clear hi)
   refine hK.out _ _ ⟨bc_ a0 0,bc_ a0 1,bc_ a0 2⟩ (fun hHeld=>?_)
   clear hK K
   refine norm_ (a':=?_) ?_ ?_
   rotate_left
   ·show Act.put _ (some 10) _=_
    simp only [Act.put,sia_,scz_,scs_,i64_w,i32_w]
    rfl
   refine pv_ 2 11 ?_
   refine pv_ 3 12 ?_
   refine pure_ (i:=4) (N:=some 13) (v:=undef) (a':=?_) #[true,true,true,true,true,false,false,false,false,false,false,false,false,false] rfl rfl (any_of HT_.out (by kernel_rfl)) (fun _ _ _ h=>h) (Or.inr ⟨by rfl,rfl⟩) ?_ ?_
   rotate_left
   ·simp only [Act.put,sia_,scz_,scs_,i64_w,i32_w]
    rfl
   refine pure_ (i:=5) (N:=some 14) (v:=undef) (a':=?_) #[true,true,true,true,true,true,false,false,false,false,false,false,false,false] rfl rfl (any_of HT_.out (by kernel_rfl)) (fun _ _ _ h=>h) (Or.inr ⟨by rfl,rfl⟩) ?_ ?_
   rotate_left
   ·simp only [Act.put,sia_,scz_,scs_,i64_w,i32_w]
    rfl
   refine pure_ (i:=6) (N:=some 15) (v:=undef) (a':=?_) #[true,true,true,true,true,true,true,false,false,false,false,false,false,false] rfl rfl (any_of HT_.out (by kernel_rfl)) (fun _ _ _ h=>h) (Or.inr ⟨by rfl,rfl⟩) ?_ ?_
   rotate_left
   ·simp only [Act.put,sia_,scz_,scs_,i64_w,i32_w]
    rfl
   refine pure_ (i:=7) (N:=some 16) (v:=undef) (a':=?_) #[true,true,true,true,true,true,true,true,false,false,false,false,false,false] rfl rfl (any_of HT_.out (by kernel_rfl)) (fun _ _ _ h=>h) (Or.inr ⟨by rfl,rfl⟩) ?_ ?_
   rotate_left
   ·simp only [Act.put,sia_,scz_,scs_,i64_w,i32_w]
    rfl
   refine pure_ (i:=8) (N:=some 17) (v:=undef) (a':=?_) #[true,true,true,true,true,true,true,true,true,false,false,false,false,false] rfl rfl (any_of HT_.out (by kernel_rfl)) (fun _ _ _ h=>h) (Or.inr ⟨by rfl,rfl⟩) ?_ ?_
   rotate_left
   ·simp only [Act.put,sia_,scz_,scs_,i64_w,i32_w]
    rfl
   refine pure_ (i:=9) (N:=some 18) (v:=undef) (a':=?_) #[true,true,true,true,true,true,true,true,true,true,false,false,false,false] rfl rfl (any_of HT_.out (by kernel_rfl)) (fun _ _ _ h=>h) (Or.inr ⟨by rfl,rfl⟩) ?_ ?_
   rotate_left
   ·simp only [Act.put,sia_,scz_,scs_,i64_w,i32_w]
    rfl
   refine pure_ (i:=10) (N:=some 19) (v:=undef) (a':=?_) #[true,true,true,true,true,true,true,true,true,true,true,false,false,false] rfl rfl (any_of HT_.out (by kernel_rfl)) (fun _ _ _ h=>h) (Or.inr ⟨by rfl,rfl⟩) ?_ ?_
   rotate_left
   ·simp only [Act.put,sia_,scz_,scs_,i64_w,i32_w]
    rfl
   refine pure_ (i:=11) (N:=some 20) (v:=undef) (a':=?_) #[true,true,true,true,true,true,true,true,true,true,true,true,false,false] rfl rfl (any_of HT_.out (by kernel_rfl)) (fun _ _ _ h=>h) (Or.inr ⟨by rfl,rfl⟩) ?_ ?_
   rotate_left
   ·simp only [Act.put,sia_,scz_,scs_,i64_w,i32_w]
    rfl
   refine pure_ (i:=12) (N:=some 21) (v:=undef) (a':=?_) #[true,true,true,true,true,true,true,true,true,true,true,true,true,false] rfl rfl (any_of HT_.out (by kernel_rfl)) (fun _ _ _ h=>h) (Or.inr ⟨by rfl,rfl⟩) ?_ ?_
   rotate_left
   ·simp only [Act.put,sia_,scz_,scs_,i64_w,i32_w]
    rfl
   refine pv_ 13 22 ?_
   refine done_ (done_of HT_.out (by kernel_rfl)) ?_
   try go_wp2
   go_meet
   case rel=>exact⟨_,(true),rl_,H',⟨by first|omega|exact Nat.le_refl _⟩,⟨bf_⟩,⟨bf_⟩,⟨bf_⟩,⟨bw_ HB⟩⟩
  subst c9
  rw [if_pos rfl] at H
  obtain⟨w3,g6,H⟩:=ob_ H
  try dsimp only at H
  obtain⟨x3,h6,H⟩:=ob_ H
  try dsimp only at H
  have H':=Aside0.mk H
  clear H
  try go_wp2
  replace a0:=kd_ a0;replace b0:=kd_ b0;replace d0:=kd_ d0;replace HB:=wd_ HB
  refine start_ (n:=14) (S:=fun w'=>w'.cell? ⟨g0,0,none⟩=some (.int .i64 F0)∧w'.cell? ⟨g0,1,none⟩=some (.int .i64 G0)∧w'.cell? ⟨g0,2,none⟩=some (.slice L0 H0.length K0)) (ds:=[]) #[false,false,false,false,false,false,false,false,false,false,false,false,false,false] (by kernel_rfl) rfl rfl ⟨bc_ a0 0,bc_ a0 1,bc_ a0 2⟩ (fun hHeld=>?_);refine with_tabW spec_LogPut.tab1 spec_LogPut.bits1 (fun HT_ HW_=>?_)
  generalize w7.drew=t6 at a0 b0 d0 HB hHeld⊢
  refine tv_ 0 9 hHeld ?_
  refine on_ 1 10 (fun K hK=>?_)
  refine gt_ Tryz.func46 #[.agg #[.int .i64 F0,.int .i64 G0,.slice L0 H0.length K0]] (spec_LogOk.calls k F0 G0 _ _ H0 true _ ?side1 ?side2 A8.out) ?_
  (case side1=>repeat(first|exact(Kd.C_below q2.out HB.out)|(with_reducible refine Kd.C_alloc ?_ _)|(with_reducible refine Kd.C_drewN ?_ _)|(with_reducible refine Kd.C_drew ?_)))
  (case side2=>exact s2.out)
  rintro v6 hb
  replace a0:=bb_ a0 hb;replace b0:=bb_ b0 hb;replace d0:=bb_ d0 hb;replace HB:=bs_ HB hb;(try clear hb);(try clear p5);(try clear hk);(try clear hi)
  refine hK.out _ _ ⟨bc_ a0 0,bc_ a0 1,bc_ a0 2⟩ (fun hHeld=>?_)
  clear hK K
  refine norm_ (a':=?_) ?_ ?_
  rotate_left
  ·show Act.put _ (some 10) _=_
   simp only [Act.put,sia_,scz_,scs_,i64_w,i32_w]
   rfl
  refine pv_ 2 11 ?_
  refine pv_ 3 12 ?_
  refine pv_ 4 13 ?_
  refine pv_ 5 14 ?_
  refine tv_ 6 15 hHeld ?_
  refine pv_ 7 16 ?_
  refine tv_ 8 17 hHeld ?_
  refine on_ 9 18 (fun K hK=>?_)
  refine gt_ Tryz.func99 #[.agg #[.int .i64 F0,.int .i64 G0,.slice L0 H0.length K0]] (spec_l06Last.calls F0 G0 _ _ H0 w3 _ ?side1 ?side2 g6.out) ?_
  (case side1=>repeat(first|exact(Kd.C_below q2.out HB.out)|(with_reducible refine Kd.C_alloc ?_ _)|(with_reducible refine Kd.C_drewN ?_ _)|(with_reducible refine Kd.C_drew ?_)))
  (case side2=>exact s2.out)
  rintro x6 hb
  replace a0:=bb_ a0 hb;replace b0:=bb_ b0 hb;replace d0:=bb_ d0 hb;replace HB:=bs_ HB hb;(try clear hb);(try clear p5);(try clear hk);(try clear hi)
  refine hK.out _ _ ⟨bc_ a0 0,bc_ a0 1,bc_ a0 2⟩ (fun hHeld=>?_)
  clear hK K
  refine norm_ (a':=?_) ?_ ?_
  rotate_left
  ·show Act.put _ (some 18) _=_
   simp only [Act.put,sia_,scz_,scs_,i64_w,i32_w]
   rfl
  refine pv_ 10 19 ?_
  refine on_ 11 20 (fun K hK=>?_)
  refine gs_ Tryz.func41 (spec_l01In.calls a1 (wrap64 (F0+1)) (wrap64 (w3+1)) x3 _ h6.out) ?_
  rintro w' ⟨nd,rfl⟩
  refine hK.out _ _ ⟨bc_ a0 0,bc_ a0 1,bc_ a0 2⟩ (fun hHeld=>?_)
  clear hK K
  refine norm_ (a':=?_) ?_ ?_
  rotate_left
  ·show Act.put _ (some 20) _=_
   simp only [Act.put,sia_,scz_,scs_,i64_w,i32_w]
   rfl
  refine pv_ 12 21 ?_
  refine pv_ 13 22 ?_
  refine done_ (done_of HT_.out (by kernel_rfl)) ?_
  try go_wp2
  go_meet
  case rel=>exact⟨_,(!x3),rl_,H',⟨by first|omega|exact Nat.le_refl _⟩,⟨bf_⟩,⟨bf_⟩,⟨bf_⟩,⟨bw_ HB⟩⟩
 case rest=>
  clear R4
  (try clear p2);(try clear p6)
  obtain⟨kq,t2,rfl,HA,y6,a0,b0,d0,HB⟩:=hcut
  cases kq with
  |zero=>exact absurd HA.out (by simp [spec_LogPut.j0])
  |succ q5=>
   have H:=HA.out
   clear HA
   simp only [spec_LogPut.j0] at H
   by_cases F3:t2=true
   ·subst F3
    rw [if_pos rfl] at H
    simp only [Option.some.injEq,Prod.mk.injEq] at H
    obtain⟨rfl,rfl,rfl,rfl⟩:=H
    obtain⟨r5,s5⟩:=ns_ A1
    obtain⟨t5,v5⟩:=ns_ C1
    obtain⟨G3,H3,I3,J3,K3,L3⟩:=b3_ d0
    go_wp2
    refine bodyPost_ret (results_ct rfl _ _ B0 28 #[.int .i64 0,.int .i64 0,.slice none 0 0] (0,0) _ rfl bu_ Tryz.underlying28 rfl (by kernel_rfl)) rfl ?_
    exact⟨_,er_,by first|exact Kd.R_nil _ _ _ _ _|exact Kd.N_nil _ _ _ _ _|exact Kd.V_nil _ _ _ _ _|exact Kd.Q_nil _ _ _ _ _|exact Kd.S_nil _ _ _ _ _,bw_ HB⟩
   replace F3:=Bool.eq_false_iff.mpr F3
   subst F3
   rw [if_neg (show ¬(false=true) by decide)] at H
   obtain⟨Y1,D2⟩:∃y_:List (S105),y_=(([]:List (S105))):=⟨_,rfl⟩
   replace H:=sb_ D2 H
   have K1:=Aside0.mk D2
   clear D2
   obtain⟨A2,a2⟩:∃j_:Int,(wrap64 ((wrap64 (a1 - F0)) - 1))=j_:=⟨_,rfl⟩
   (first|rw [a2] at H|simp only [a2] at H)
   have V4:(IntKind.i64.wrap ((wrap64 (a1 - F0)) - 1))=A2:=(i64_w _).trans a2
   obtain⟨W4,H⟩:=gd_ H
   have x5:=eq_true W4
   have y5:=decide_eq_true W4
   clear W4
   obtain⟨X4,H⟩:=gd_ H
   have A5:=eq_true X4
   have C5:=decide_eq_true X4
   clear X4
   obtain⟨n2,F2⟩:∃y_:List (S105),y_=(H0.take ((A2):Int).toNat):=⟨_,rfl⟩
   replace H:=sb_ F2 H
   have W2:=Aside0.mk F2
   clear F2
   obtain⟨D5,H⟩:=gd_ H
   have v2:=Aside0.mk D5
   clear D5
   obtain⟨o2,G2⟩:∃y_:List (S105),y_=(Y1++n2):=⟨_,rfl⟩
   replace H:=sb_ G2 H
   have w2:=Aside0.mk G2
   clear G2
   obtain⟨x1,H2⟩:∃y_:List (S105),y_=(([(⟨v0,x0,y0⟩:S105)]:List (S105))):=⟨_,rfl⟩
   replace H:=sb_ H2 H
   have q1:=Aside0.mk H2
   clear H2
   obtain⟨F5,H⟩:=gd_ H
   have X2:=Aside0.mk F5
   clear F5
   obtain⟨y1,I2⟩:∃y_:List (S105),y_=(o2++x1):=⟨_,rfl⟩
   replace H:=sb_ I2 H
   have Y2:=Aside0.mk I2
   clear I2
   obtain⟨Y4,G5,H⟩:=ob_ H
   try dsimp only at H
   try go_wp2
   replace a0:=kd_ a0;replace b0:=kd_ b0;replace d0:=kd_ d0;replace HB:=wd_ HB
   have Z4:((A2):Int)≤((H0.length:Int):Int):=od_
   obtain⟨i029,Z2,_,y3,_⟩:=info_parts info105
   have x2:H0.length≤K0:=s2.out
   have A3:Kd.C k105 _ L0 H0.length H0:=q2.out
   have a3:=cut_to (P:=Tryz.prog) 26 105 .i64 Tryz.underlying26 Z2 L0 H0.length K0 (A2) (od_) Z4 x2
   have b3:=Kd.C_take (m:=((A2):Int).toNat) A3 (by omega)
   have d3:n2.length=((A2):Int).toNat:=(by rw [W2.out,List.length_take];omega)
   rw [←W2.out] at b3
   rw [←d3] at a3
   have b2:=Aside0.mk b3
   have H5:=mk_ (show n2.length≤K0 from by omega)
   clear b3 A3 x2 Z2 y3
   have j6:=Aside0.mk d3
   clear d3
   replace Z4:=eq_true Z4
   refine start_ (n:=20) (S:=fun w'=>w'.cell? ⟨g0,0,none⟩=some (.int .i64 F0)∧w'.cell? ⟨g0,1,none⟩=some (.int .i64 G0)∧w'.cell? ⟨g0,2,none⟩=some (.slice L0 H0.length K0)∧w'.cell? ⟨e0,0,none⟩=some (.int .i64 v0)∧w'.cell? ⟨e0,1,none⟩=some (.int .i64 x0)∧w'.cell? ⟨e0,2,none⟩=some (.string y0)) (ds:=[]) #[false,false,false,false,false,false,false,false,false,false,false,false,false,false,false,false,false,false,false,false] (by kernel_rfl) rfl rfl ⟨bc_ a0 0,bc_ a0 1,bc_ a0 2,bc_ b0 0,bc_ b0 1,bc_ b0 2⟩ (fun hHeld=>?_);refine with_tabW spec_LogPut.tab3 spec_LogPut.bits3 (fun HT_ HW_=>?_)
   generalize wc.drew=A6 at a0 b0 d0 HB b2 hHeld⊢
   refine pv_ 0 24 ?_
   refine pv_ 2 26 ?_
   refine pv_ 5 29 ?_
   refine pv_ 7 31 ?_
   refine pv_ 8 32 ?_
   refine tv_ 1 25 hHeld ?_
   refine tv_ 3 27 hHeld ?_
   refine tv_ 6 30 hHeld ?_
   refine tv_ 9 33 hHeld ?_
   refine pv_ 10 34 ?_
   refine pv_ 11 35 ?_
   refine pv_ 12 36 ?_
   refine tv_ 14 38 hHeld ?_
   refine join_ (σ:=Value × Value × Value × Value × Nat) 1 #[true,true,true,true,true,true,true,true,true,true,true,true,true,true,true,true,true,true,true,false] (fun s_=>[(28,s_.1),(37,s_.2.1),(39,s_.2.2.1),(40,s_.2.2.2.1),(8,.pointer (some ⟨s_.2.2.2.2,0,none⟩)),(41,.agg #[.int .i64 F0,.int .i64 G0,s_.2.2.2.1])]) (fun s_ w'=>(w'.cell? ⟨g0,0,none⟩=some (.int .i64 F0)∧w'.cell? ⟨g0,1,none⟩=some (.int .i64 G0)∧w'.cell? ⟨g0,2,none⟩=some (.slice L0 H0.length K0)∧w'.cell? ⟨e0,0,none⟩=some (.int .i64 v0)∧w'.cell? ⟨e0,1,none⟩=some (.int .i64 x0)∧w'.cell? ⟨e0,2,none⟩=some (.string y0))∧(Kd.R k105 105 w' w.heap.size (fun k_=>some k_≠(s_.2.2.2.1:Value).ownBlock∧k_≠e0) s_.2.2.1 x1)∧(Kd.R k105 105 w' w.heap.size (fun k_=>some k_≠(s_.2.2.1:Value).ownBlock∧k_≠e0) s_.2.2.2.1 y1)∧(w'.heap[g0]? =some (.cells #[.int .i64 F0,.int .i64 G0,.slice L0 H0.length K0] 28 (0,0)))∧(w'.heap[e0]? =some (.cells #[.int .i64 v0,.int .i64 x0,.string y0] 105 (0,0)))∧(w'.heap[B0]? =some (.cells #[.int .i64 0,.int .i64 0,.slice none 0 0] 28 (0,0)))∧(w'.heap[s_.2.2.2.2]? =some (.cells #[.int .i64 0,.int .i64 0,.slice none 0 0] 28 (0,0)))∧(w.heap.size≤s_.2.2.2.2)∧(w.heap.size≤s_.2.2.2.2)∧(g0≠s_.2.2.2.2)∧(s_.2.2.2.2≠g0)∧(e0≠s_.2.2.2.2)∧(s_.2.2.2.2≠e0)∧(B0≠s_.2.2.2.2)∧(s_.2.2.2.2≠B0)∧(Below w.heap.size w w')) ?_ ?_
   rotate_left
   ·intro s1
    refine join_ (σ:=Value × Value × Value × Value) 2 #[true,true,true,true,true,true,true,true,true,true,true,true,true,true,true,true,true,true,false,false] (fun s_=>[(28,s_.1),(37,s_.2.1),(39,s_.2.2.1),(40,s_.2.2.2),(41,.agg #[.int .i64 F0,.int .i64 G0,s_.2.2.2])]) (fun s_ w'=>(w'.cell? ⟨g0,0,none⟩=some (.int .i64 F0)∧w'.cell? ⟨g0,1,none⟩=some (.int .i64 G0)∧w'.cell? ⟨g0,2,none⟩=some (.slice L0 H0.length K0)∧w'.cell? ⟨e0,0,none⟩=some (.int .i64 v0)∧w'.cell? ⟨e0,1,none⟩=some (.int .i64 x0)∧w'.cell? ⟨e0,2,none⟩=some (.string y0))∧(Kd.R k105 105 w' w.heap.size (fun k_=>some k_≠(s_.2.2.2:Value).ownBlock∧k_≠e0) s_.2.2.1 x1)∧(Kd.R k105 105 w' w.heap.size (fun k_=>some k_≠(s_.2.2.1:Value).ownBlock∧k_≠e0) s_.2.2.2 y1)∧(w'.heap[g0]? =some (.cells #[.int .i64 F0,.int .i64 G0,.slice L0 H0.length K0] 28 (0,0)))∧(w'.heap[e0]? =some (.cells #[.int .i64 v0,.int .i64 x0,.string y0] 105 (0,0)))∧(w'.heap[B0]? =some (.cells #[.int .i64 0,.int .i64 0,.slice none 0 0] 28 (0,0)))∧(Below w.heap.size w w')) ?_ ?_
    rotate_left
    rotate_left
    ·skip
     rintro⟨M0,d1,O0,e3⟩ C6 ⟨hS_,U0,V0,W0,X0,Y0,o1⟩
     (try dsimp only at hS_ U0 V0 W0 X0 Y0 o1)
     clear a0;clear b0;clear d0;clear HB;have s0:=mk_ U0;have N0:=mk_ V0;have a0:=mk_ W0;have b0:=mk_ X0;have d0:=mk_ Y0;have HB:=mk_ o1;clear U0 V0 W0 X0 Y0 o1;have hHeld:=hS_
     obtain⟨g3,h3,J2⟩:=Kd.R_slice N0.out
     (first|subst J2|(injection J2 with d2 K2 e2;have L2:=d2.symm;have M2:=e2.symm;clear d2 K2 e2;subst L2;subst M2))
     refine norm_ (a':=?_) ?_ ?_
     rotate_left
     ·simp only [putAll,Act.put,sia_,scz_,scs_]
      rfl
     refine on_ 18 8 (fun K hK=>?_)
     refine box_step ?hg (N:=8) ?hd (cs:=#[.int .i64 0,.int .i64 0,.slice none 0 0]) (t:=28) ?hr ?_;(case hd=>rfl);(case hg=>rfl);(case hr=>first|(go_simp;done)|(go_simp;rfl))
     intro h0 hg D6 hbox hb
     have L1:=mk_ (hbox)
     have Q1:Aside0 (w.heap.size≤h0):=bz_ hg
     have R1:Aside0 (w.heap.size≤h0):=bz_ hg
     have U1:Aside0 (g0≠h0):=bl_ a0 hg
     have e1:Aside0 (h0≠g0):=bg_ a0 hg
     have g1:Aside0 (e0≠h0):=bl_ b0 hg
     have m1:Aside0 (h0≠e0):=bg_ b0 hg
     have t1:Aside0 (B0≠h0):=bl_ d0 hg
     have g2:Aside0 (h0≠B0):=bg_ d0 hg
     have t0:=L1;have I0:=Q1;have J0:=R1;have m0:=U1;have o0:=e1;have n0:=g1;have p0:=m1;have r0:=t1;have q0:=g2;clear L1 Q1 R1 U1 e1 g1 m1 t1 g2;replace s0:=rb_ s0 hb;replace N0:=rb_ N0 hb;replace a0:=bb_ a0 hb;replace b0:=bb_ b0 hb;replace d0:=bb_ d0 hb;replace HB:=bs_ HB hb;clear hb hbox hg
     refine hK.out _ _ ⟨bc_ a0 0,bc_ a0 1,bc_ a0 2,bc_ b0 0,bc_ b0 1,bc_ b0 2⟩ (fun hHeld=>?_)
     clear hK K
     refine norm_ (a':=?_) ?_ ?_
     rotate_left
     ·show Act.put _ (some 8) _=_
      simp only [Act.put,sia_,scz_,scs_,i64_w,i32_w]
      rfl
     exact norm_ (by first|(simp only [putAll,Act.put,sia_,scz_,scs_];done)|(simp only [putAll,Act.put,sia_,scz_,scs_];rfl)) (s1 (M0,d1,O0,.slice g3 y1.length h3,h0) _ ⟨hHeld,(rp_ s0),(rp_ N0),(bp_ a0),(bp_ b0),(bp_ d0),(bp_ t0),I0.out,J0.out,m0.out,o0.out,n0.out,p0.out,r0.out,q0.out,(bw_ HB)⟩)
    intro Z1
    refine join_ (σ:=Value × Value × Value × Nat) 3 #[true,true,true,true,true,true,true,true,true,true,true,true,true,true,true,true,false,false,true,false] (fun s_=>[(28,s_.1),(37,s_.2.1),(39,s_.2.2.1),(8,.pointer (some ⟨s_.2.2.2,0,none⟩))]) (fun s_ w'=>(w'.cell? ⟨g0,0,none⟩=some (.int .i64 F0)∧w'.cell? ⟨g0,1,none⟩=some (.int .i64 G0)∧w'.cell? ⟨g0,2,none⟩=some (.slice L0 H0.length K0)∧w'.cell? ⟨e0,0,none⟩=some (.int .i64 v0)∧w'.cell? ⟨e0,1,none⟩=some (.int .i64 x0)∧w'.cell? ⟨e0,2,none⟩=some (.string y0))∧(Kd.R k105 105 w' w.heap.size (fun k_=>some k_≠(s_.2.2.1:Value).ownBlock∧k_≠e0) s_.2.1 o2)∧(Kd.R k105 105 w' w.heap.size (fun k_=>some k_≠(s_.2.1:Value).ownBlock∧k_≠e0) s_.2.2.1 x1)∧(w'.heap[g0]? =some (.cells #[.int .i64 F0,.int .i64 G0,.slice L0 H0.length K0] 28 (0,0)))∧(w'.heap[e0]? =some (.cells #[.int .i64 v0,.int .i64 x0,.string y0] 105 (0,0)))∧(w'.heap[B0]? =some (.cells #[.int .i64 0,.int .i64 0,.slice none 0 0] 28 (0,0)))∧(w'.heap[s_.2.2.2]? =some (.cells #[.int .i64 0,.int .i64 0,.slice none 0 0] 28 (0,0)))∧(w.heap.size≤s_.2.2.2)∧(w.heap.size≤s_.2.2.2)∧(g0≠s_.2.2.2)∧(s_.2.2.2≠g0)∧(e0≠s_.2.2.2)∧(s_.2.2.2≠e0)∧(B0≠s_.2.2.2)∧(s_.2.2.2≠B0)∧(Below w.heap.size w w')) ?_ ?_
    rotate_left
    rotate_left
    ·skip
     rintro⟨M0,d1,O0,h0⟩ a5 ⟨hS_,U0,V0,W0,X0,Y0,o1,D1,F1,G1,H1,P0,Q0,R0,Z0,N1⟩
     (try dsimp only at hS_ U0 V0 W0 X0 Y0 o1 D1 F1 G1 H1 P0 Q0 R0 Z0 N1)
     clear a0;clear b0;clear d0;clear HB;have C0:=mk_ U0;have s0:=mk_ V0;have a0:=mk_ W0;have b0:=mk_ X0;have d0:=mk_ Y0;have t0:=mk_ o1;have I0:=mk_ D1;have J0:=mk_ F1;have m0:=mk_ G1;have o0:=mk_ H1;have n0:=mk_ P0;have p0:=mk_ Q0;have r0:=mk_ R0;have q0:=mk_ Z0;have HB:=mk_ N1;clear U0 V0 W0 X0 Y0 o1 D1 F1 G1 H1 P0 Q0 R0 Z0 N1;have hHeld:=hS_
     obtain⟨Q2,R2,N2⟩:=Kd.R_slice s0.out
     (first|subst N2|(injection N2 with d2 K2 e2;have L2:=d2.symm;have M2:=e2.symm;clear d2 K2 e2;subst L2;subst M2))
     refine norm_ (a':=?_) ?_ ?_
     rotate_left
     ·simp only [putAll,Act.put,sia_,scz_,scs_]
      rfl
     refine on_ 16 40 (fun K hK=>?_)
     refine Kd.R_append_rows_step k105 (w0:=w) w.heap.size (by rfl) (.tmp 37) (.tmp 39) 26 105 (.agg #[(.int .i64 0),(.int .i64 0),(.string ⟨#[]⟩)]) 32 rfl Tryz.underlying26 info105 rfl (by decide) (by omega) d1 o2 x1 _ _ _ (fun k_=>some k_≠(.slice Q2 x1.length R2:Value).ownBlock∧k_≠e0) (fun _=>False) rfl rfl ?aO ?aR (fun _ _ h=>h) (fun _ h=>h.elim) ?aF ?aB ?aS ?aL ?_
     (case aR=>repeat(first|exact(Kd.R_reads' s0.out).2.2|(with_reducible refine Kd.C_alloc ?_ _)|(with_reducible refine Kd.C_drewN ?_ _)|(with_reducible refine Kd.C_drew ?_)))
     (case aB=>exact(bw_ HB))
     (case aF=>exact(fun k_ hk=>⟨Kd.fresh' (Kd.R_lt (rp_ s0)) k_ hk,Kd.freshB (g:=e0) (o:= .cells #[.int .i64 v0,.int .i64 x0,.string y0] 105 (0,0)) (bp_ b0) k_ hk⟩))
     (case aO=>exact(rp_ C0))
     (case aS=>exact(below_size (bw_ HB)))
     (case aL=>have:=X2.out;omega)
     intro e3 F6 ho hb hg hat
     rw [←Y2.out] at ho
     have b1:=bgr_ a0 hg (Kd.R_ne C0.out a0.out (by decide))
     have v1:=bgr_ b0 hg (Kd.R_away C0.out (fun _ hk=>hk.2))
     have h2:=bgr_ d0 hg (Kd.R_ne C0.out d0.out (by decide))
     have l2:=mk_ (Kd.R_after (ok:=(fun k_=>k_≠e0)) (rq_ (Kd.R_mono s0.out (fun _ hk=>⟨hk.2,hk.1⟩))) hg hat)
     have V1:=bgr_ t0 hg (Kd.R_ne C0.out t0.out (by decide))
     have M1:=mk_ (hb)
     have L1:=mk_ (ho)
     clear a0;clear b0;clear d0;clear s0;clear t0;clear HB;clear C0;have a0:=b1;have b0:=v1;have d0:=h2;have s0:=l2;have t0:=V1;have HB:=M1;have N0:=L1;clear b1 v1 h2 l2 V1 M1 L1;clear ho hb hg hat
     obtain⟨g3,h3,J2⟩:=Kd.R_slice N0.out
     (first|subst J2|(injection J2 with d2 K2 e2;have L2:=d2.symm;have M2:=e2.symm;clear d2 K2 e2;subst L2;subst M2))
     refine hK.out _ _ ⟨bc_ a0 0,bc_ a0 1,bc_ a0 2,bc_ b0 0,bc_ b0 1,bc_ b0 2⟩ (fun hHeld=>?_)
     clear hK K
     refine norm_ (a':=?_) ?_ ?_
     rotate_left
     ·show Act.put _ (some 40) _=_
      simp only [Act.put,sia_,scz_,scs_,i64_w,i32_w]
      rfl
     refine pv_ 17 41 ?_
     exact norm_ (by first|(simp only [putAll,Act.put,sia_,scz_,scs_];done)|(simp only [putAll,Act.put,sia_,scz_,scs_];rfl)) (s1 (M0,d1,.slice Q2 x1.length R2,.slice g3 y1.length h3,h0) _ ⟨hHeld,(rq_ (Kd.R_mono s0.out (fun _ hk=>⟨hk.2,hk.1⟩))),(rp_ N0),(bp_ a0),(bp_ b0),(bp_ d0),(bp_ t0),I0.out,J0.out,m0.out,o0.out,n0.out,p0.out,r0.out,q0.out,(bw_ HB)⟩)
    intro p1
    refine join_ (σ:=Value × Value × Value) 4 #[true,true,true,true,true,true,true,true,true,true,true,true,true,true,true,true,false,false,false,false] (fun s_=>[(28,s_.1),(37,s_.2.1),(39,s_.2.2)]) (fun s_ w'=>(w'.cell? ⟨g0,0,none⟩=some (.int .i64 F0)∧w'.cell? ⟨g0,1,none⟩=some (.int .i64 G0)∧w'.cell? ⟨g0,2,none⟩=some (.slice L0 H0.length K0)∧w'.cell? ⟨e0,0,none⟩=some (.int .i64 v0)∧w'.cell? ⟨e0,1,none⟩=some (.int .i64 x0)∧w'.cell? ⟨e0,2,none⟩=some (.string y0))∧(Kd.R k105 105 w' w.heap.size (fun k_=>some k_≠(s_.2.2:Value).ownBlock∧k_≠e0) s_.2.1 o2)∧(Kd.R k105 105 w' w.heap.size (fun k_=>some k_≠(s_.2.1:Value).ownBlock∧k_≠e0) s_.2.2 x1)∧(w'.heap[g0]? =some (.cells #[.int .i64 F0,.int .i64 G0,.slice L0 H0.length K0] 28 (0,0)))∧(w'.heap[e0]? =some (.cells #[.int .i64 v0,.int .i64 x0,.string y0] 105 (0,0)))∧(w'.heap[B0]? =some (.cells #[.int .i64 0,.int .i64 0,.slice none 0 0] 28 (0,0)))∧(Below w.heap.size w w')) ?_ ?_
    rotate_left
    rotate_left
    ·skip
     rintro⟨M0,d1,O0⟩ M3 ⟨hS_,U0,V0,W0,X0,Y0,o1⟩
     (try dsimp only at hS_ U0 V0 W0 X0 Y0 o1)
     clear a0;clear b0;clear d0;clear HB;have C0:=mk_ U0;have s0:=mk_ V0;have a0:=mk_ W0;have b0:=mk_ X0;have d0:=mk_ Y0;have HB:=mk_ o1;clear U0 V0 W0 X0 Y0 o1;have hHeld:=hS_
     obtain⟨j3,l3,C3⟩:=Kd.R_slice s0.out
     (first|subst C3|(injection C3 with d2 K2 e2;have L2:=d2.symm;have M2:=e2.symm;clear d2 K2 e2;subst L2;subst M2))
     refine norm_ (a':=?_) ?_ ?_
     rotate_left
     ·simp only [putAll,Act.put,sia_,scz_,scs_]
      rfl
     refine two_ (i:=16) (j:=18) (Ni:=some 40) (Nj:=some 8) #[true,true,true,true,true,true,true,true,true,true,true,true,true,true,true,true,true,false,false,false] #[true,true,true,true,true,true,true,true,true,true,true,true,true,true,true,true,false,false,true,false] rfl rfl rfl rfl (two_of HT_.out (by kernel_rfl)) (by decide) (by decide) (fun K hK=>?_) (fun K hK=>?_)
     rotate_left
     ·skip
      refine box_step ?hg (N:=8) ?hd (cs:=#[.int .i64 0,.int .i64 0,.slice none 0 0]) (t:=28) ?hr ?_;(case hd=>rfl);(case hg=>rfl);(case hr=>first|(go_simp;done)|(go_simp;rfl))
      intro h0 hg a5 hbox hb
      have L1:=mk_ (hbox)
      have Q1:Aside0 (w.heap.size≤h0):=bz_ hg
      have R1:Aside0 (w.heap.size≤h0):=bz_ hg
      have U1:Aside0 (g0≠h0):=bl_ a0 hg
      have e1:Aside0 (h0≠g0):=bg_ a0 hg
      have g1:Aside0 (e0≠h0):=bl_ b0 hg
      have m1:Aside0 (h0≠e0):=bg_ b0 hg
      have t1:Aside0 (B0≠h0):=bl_ d0 hg
      have g2:Aside0 (h0≠B0):=bg_ d0 hg
      have t0:=L1;have I0:=Q1;have J0:=R1;have m0:=U1;have o0:=e1;have n0:=g1;have p0:=m1;have r0:=t1;have q0:=g2;clear L1 Q1 R1 U1 e1 g1 m1 t1 g2;replace C0:=rb_ C0 hb;replace s0:=rb_ s0 hb;replace a0:=bb_ a0 hb;replace b0:=bb_ b0 hb;replace d0:=bb_ d0 hb;replace HB:=bs_ HB hb;clear hb hbox hg
      refine hK.out _ _ ⟨bc_ a0 0,bc_ a0 1,bc_ a0 2,bc_ b0 0,bc_ b0 1,bc_ b0 2⟩ (fun hHeld=>?_)
      clear hK K
      refine norm_ (a':=?_) ?_ ?_
      rotate_left
      ·show Act.put _ (some 8) _=_
       simp only [Act.put,sia_,scz_,scs_,i64_w,i32_w]
       rfl
      exact norm_ (by first|(simp only [putAll,Act.put,sia_,scz_,scs_];done)|(simp only [putAll,Act.put,sia_,scz_,scs_];rfl)) (p1 (M0,d1,.slice j3 x1.length l3,h0) _ ⟨hHeld,(rp_ C0),(rp_ s0),(bp_ a0),(bp_ b0),(bp_ d0),(bp_ t0),I0.out,J0.out,m0.out,o0.out,n0.out,p0.out,r0.out,q0.out,(bw_ HB)⟩)
     skip
     refine Kd.R_append_rows_step k105 (w0:=w) w.heap.size (by rfl) (.tmp 37) (.tmp 39) 26 105 (.agg #[(.int .i64 0),(.int .i64 0),(.string ⟨#[]⟩)]) 32 rfl Tryz.underlying26 info105 rfl (by decide) (by omega) d1 o2 x1 _ _ _ (fun k_=>some k_≠(.slice j3 x1.length l3:Value).ownBlock∧k_≠e0) (fun _=>False) rfl rfl ?aO ?aR (fun _ _ h=>h) (fun _ h=>h.elim) ?aF ?aB ?aS ?aL ?_
     (case aR=>repeat(first|exact(Kd.R_reads' s0.out).2.2|(with_reducible refine Kd.C_alloc ?_ _)|(with_reducible refine Kd.C_drewN ?_ _)|(with_reducible refine Kd.C_drew ?_)))
     (case aB=>exact(bw_ HB))
     (case aF=>exact(fun k_ hk=>⟨Kd.fresh' (Kd.R_lt (rp_ s0)) k_ hk,Kd.freshB (g:=e0) (o:= .cells #[.int .i64 v0,.int .i64 x0,.string y0] 105 (0,0)) (bp_ b0) k_ hk⟩))
     (case aO=>exact(rp_ C0))
     (case aS=>exact(below_size (bw_ HB)))
     (case aL=>have:=X2.out;omega)
     intro e3 a5 ho hb hg hat
     rw [←Y2.out] at ho
     have b1:=bgr_ a0 hg (Kd.R_ne C0.out a0.out (by decide))
     have v1:=bgr_ b0 hg (Kd.R_away C0.out (fun _ hk=>hk.2))
     have h2:=bgr_ d0 hg (Kd.R_ne C0.out d0.out (by decide))
     have l2:=mk_ (Kd.R_after (ok:=(fun k_=>k_≠e0)) (rq_ (Kd.R_mono s0.out (fun _ hk=>⟨hk.2,hk.1⟩))) hg hat)
     have V1:=mk_ (hb)
     have M1:=mk_ (ho)
     clear a0;clear b0;clear d0;clear s0;clear HB;clear C0;have a0:=b1;have b0:=v1;have d0:=h2;have s0:=l2;have HB:=V1;have N0:=M1;clear b1 v1 h2 l2 V1 M1;clear ho hb hg hat
     obtain⟨Q2,R2,N2⟩:=Kd.R_slice N0.out
     (first|subst N2|(injection N2 with d2 K2 e2;have L2:=d2.symm;have M2:=e2.symm;clear d2 K2 e2;subst L2;subst M2))
     refine hK.out _ _ ⟨bc_ a0 0,bc_ a0 1,bc_ a0 2,bc_ b0 0,bc_ b0 1,bc_ b0 2⟩ (fun hHeld=>?_)
     clear hK K
     refine norm_ (a':=?_) ?_ ?_
     rotate_left
     ·show Act.put _ (some 40) _=_
      simp only [Act.put,sia_,scz_,scs_,i64_w,i32_w]
      rfl
     refine pv_ 17 41 ?_
     exact norm_ (by first|(simp only [putAll,Act.put,sia_,scz_,scs_];done)|(simp only [putAll,Act.put,sia_,scz_,scs_];rfl)) (Z1 (M0,d1,.slice j3 x1.length l3,.slice Q2 y1.length R2) _ ⟨hHeld,(rq_ (Kd.R_mono s0.out (fun _ hk=>⟨hk.2,hk.1⟩))),(rp_ N0),(bp_ a0),(bp_ b0),(bp_ d0),(bw_ HB)⟩)
    intro W1
    refine join_ (σ:=Value × Value × Nat) 4 #[true,true,true,true,true,true,true,true,true,true,true,true,true,true,true,false,false,false,true,false] (fun s_=>[(28,s_.1),(37,s_.2.1),(8,.pointer (some ⟨s_.2.2,0,none⟩))]) (fun s_ w'=>(w'.cell? ⟨g0,0,none⟩=some (.int .i64 F0)∧w'.cell? ⟨g0,1,none⟩=some (.int .i64 G0)∧w'.cell? ⟨g0,2,none⟩=some (.slice L0 H0.length K0)∧w'.cell? ⟨e0,0,none⟩=some (.int .i64 v0)∧w'.cell? ⟨e0,1,none⟩=some (.int .i64 x0)∧w'.cell? ⟨e0,2,none⟩=some (.string y0))∧(Kd.R k105 105 w' w.heap.size (fun k_=>k_≠e0) s_.2.1 o2)∧(w'.heap[g0]? =some (.cells #[.int .i64 F0,.int .i64 G0,.slice L0 H0.length K0] 28 (0,0)))∧(w'.heap[e0]? =some (.cells #[.int .i64 v0,.int .i64 x0,.string y0] 105 (0,0)))∧(w'.heap[B0]? =some (.cells #[.int .i64 0,.int .i64 0,.slice none 0 0] 28 (0,0)))∧(w'.heap[s_.2.2]? =some (.cells #[.int .i64 0,.int .i64 0,.slice none 0 0] 28 (0,0)))∧(w.heap.size≤s_.2.2)∧(w.heap.size≤s_.2.2)∧(g0≠s_.2.2)∧(s_.2.2≠g0)∧(e0≠s_.2.2)∧(s_.2.2≠e0)∧(B0≠s_.2.2)∧(s_.2.2≠B0)∧(Below w.heap.size w w')) ?_ ?_
    rotate_left
    rotate_left
    ·skip
     rintro⟨M0,d1,h0⟩ v3 ⟨hS_,U0,V0,W0,X0,Y0,o1,D1,F1,G1,H1,P0,Q0,R0,Z0⟩
     (try dsimp only at hS_ U0 V0 W0 X0 Y0 o1 D1 F1 G1 H1 P0 Q0 R0 Z0)
     clear a0;clear b0;clear d0;clear HB;have C0:=mk_ U0;have a0:=mk_ V0;have b0:=mk_ W0;have d0:=mk_ X0;have t0:=mk_ Y0;have I0:=mk_ o1;have J0:=mk_ D1;have m0:=mk_ F1;have o0:=mk_ G1;have n0:=mk_ H1;have p0:=mk_ P0;have r0:=mk_ Q0;have q0:=mk_ R0;have HB:=mk_ Z0;clear U0 V0 W0 X0 Y0 o1 D1 F1 G1 H1 P0 Q0 R0 Z0;have hHeld:=hS_
     refine norm_ (a':=?_) ?_ ?_
     rotate_left
     ·simp only [putAll,Act.put,sia_,scz_,scs_]
      rfl
     refine on_ 15 39 (fun K hK=>?_)
     refine Kd.R_lit_step k105 _ 105 ?hg (N:=39) ?hd (xs:=([(⟨v0,x0,y0⟩:S105)]:List (S105))) (inner:=[.int .i64 v0,.int .i64 x0,.string y0]) (ok:=fun _=>True) (okp:=fun _=>True) ?hr ?hp (fun _ hk=>hk) trivial (Below.refl _ _) (Nat.le_refl _) (by simp) ?_;(case hd=>rfl);(case hg=>rfl);(case hr=>first|(go_simp;done)|(go_simp;rfl));(case hp=>exact(Reps.c3 (show Kd.M k105 _ _ _ (⟨v0,x0,y0⟩:S105) [.int .i64 v0,.int .i64 x0,.string y0] from(k105_mkM _ _ _ (⟨v0,x0,y0⟩:S105))) (Reps.none _ _)))
     intro O0 M3 B2 hb hg_ hnew_
     clear hg_ hnew_
     (first|rw [←q1.out] at B2|(simp only [Int.reduceToNat] at B2;rw [←q1.out] at B2))
     have b1:=mk_ (Kd.R_elder' (rp_ C0) (Kd.R_base B2) hb)
     have v1:=mk_ (Kd.R_lower (Kd.R_newB (Kd.R_new' B2 (Kd.R_lt (rp_ C0))) (g:=e0) (o:= .cells #[.int .i64 v0,.int .i64 x0,.string y0] 105 (0,0)) (bp_ b0)) (below_size (bw_ HB)))
     clear C0;have C0:=b1;have s0:=v1;clear b1 v1;replace a0:=bb_ a0 hb;replace b0:=bb_ b0 hb;replace d0:=bb_ d0 hb;replace t0:=bb_ t0 hb;replace HB:=bs_ HB hb;clear hb B2
     refine hK.out _ _ ⟨bc_ a0 0,bc_ a0 1,bc_ a0 2,bc_ b0 0,bc_ b0 1,bc_ b0 2⟩ (fun hHeld=>?_)
     clear hK K
     refine norm_ (a':=?_) ?_ ?_
     rotate_left
     ·show Act.put _ (some 39) _=_
      simp only [Act.put,sia_,scz_,scs_,i64_w,i32_w]
      rfl
     exact norm_ (by first|(simp only [putAll,Act.put,sia_,scz_,scs_];done)|(simp only [putAll,Act.put,sia_,scz_,scs_];rfl)) (p1 (M0,d1,O0,h0) _ ⟨hHeld,(rq_ (Kd.R_mono C0.out (fun _ hk=>⟨hk.2,hk.1⟩))),(rq_ (Kd.R_mono s0.out (fun _ hk=>⟨hk.1.2,hk.2⟩))),(bp_ a0),(bp_ b0),(bp_ d0),(bp_ t0),I0.out,J0.out,m0.out,o0.out,n0.out,p0.out,r0.out,q0.out,(bw_ HB)⟩)
    intro X1
    refine join_ (σ:=Value × Value × Nat) 4 #[true,true,true,true,true,true,true,true,true,true,true,true,true,false,true,true,false,false,true,false] (fun s_=>[(28,s_.1),(39,s_.2.1),(8,.pointer (some ⟨s_.2.2,0,none⟩))]) (fun s_ w'=>(w'.cell? ⟨g0,0,none⟩=some (.int .i64 F0)∧w'.cell? ⟨g0,1,none⟩=some (.int .i64 G0)∧w'.cell? ⟨g0,2,none⟩=some (.slice L0 H0.length K0)∧w'.cell? ⟨e0,0,none⟩=some (.int .i64 v0)∧w'.cell? ⟨e0,1,none⟩=some (.int .i64 x0)∧w'.cell? ⟨e0,2,none⟩=some (.string y0))∧(Kd.R k105 105 w' w.heap.size (fun k_=>some k_≠(s_.2.1:Value).ownBlock∧k_≠e0) s_.1 Y1)∧(Kd.R k105 105 w' w.heap.size (fun k_=>some k_≠(s_.1:Value).ownBlock∧k_≠e0) s_.2.1 x1)∧(w'.heap[g0]? =some (.cells #[.int .i64 F0,.int .i64 G0,.slice L0 H0.length K0] 28 (0,0)))∧(w'.heap[e0]? =some (.cells #[.int .i64 v0,.int .i64 x0,.string y0] 105 (0,0)))∧(w'.heap[B0]? =some (.cells #[.int .i64 0,.int .i64 0,.slice none 0 0] 28 (0,0)))∧(w'.heap[s_.2.2]? =some (.cells #[.int .i64 0,.int .i64 0,.slice none 0 0] 28 (0,0)))∧(w.heap.size≤s_.2.2)∧(w.heap.size≤s_.2.2)∧(g0≠s_.2.2)∧(s_.2.2≠g0)∧(e0≠s_.2.2)∧(s_.2.2≠e0)∧(B0≠s_.2.2)∧(s_.2.2≠B0)∧(Below w.heap.size w w')) ?_ ?_
    rotate_left
    rotate_left
    ·skip
     rintro⟨M0,O0,h0⟩ M3 ⟨hS_,U0,V0,W0,X0,Y0,o1,D1,F1,G1,H1,P0,Q0,R0,Z0,N1⟩
     (try dsimp only at hS_ U0 V0 W0 X0 Y0 o1 D1 F1 G1 H1 P0 Q0 R0 Z0 N1)
     clear a0;clear b0;clear d0;clear HB;have A0:=mk_ U0;have s0:=mk_ V0;have a0:=mk_ W0;have b0:=mk_ X0;have d0:=mk_ Y0;have t0:=mk_ o1;have I0:=mk_ D1;have J0:=mk_ F1;have m0:=mk_ G1;have o0:=mk_ H1;have n0:=mk_ P0;have p0:=mk_ Q0;have r0:=mk_ R0;have q0:=mk_ Z0;have HB:=mk_ N1;clear U0 V0 W0 X0 Y0 o1 D1 F1 G1 H1 P0 Q0 R0 Z0 N1;have hHeld:=hS_
     refine norm_ (a':=?_) ?_ ?_
     rotate_left
     ·simp only [putAll,Act.put,sia_,scz_,scs_]
      rfl
     refine on_ 13 37 (fun K hK=>?_)
     refine Kd.R_append_rows_step k105 (w0:=w) w.heap.size (by rfl) (.tmp 28) (.tmp 36) 26 105 (.agg #[(.int .i64 0),(.int .i64 0),(.string ⟨#[]⟩)]) 32 rfl Tryz.underlying26 info105 rfl (by decide) (by omega) M0 Y1 n2 _ _ _ (fun k_=>some k_≠(O0:Value).ownBlock∧k_≠e0) (fun _=>False) rfl rfl ?aO ?aR (fun _ _ h=>h) (fun _ h=>h.elim) ?aF ?aB ?aS ?aL ?_
     (case aR=>repeat(first|exact(Kd.C_below b2.out HB.out)|(with_reducible refine Kd.C_alloc ?_ _)|(with_reducible refine Kd.C_drewN ?_ _)|(with_reducible refine Kd.C_drew ?_)))
     (case aB=>exact(bw_ HB))
     (case aF=>exact(fun k_ hk=>⟨Kd.fresh' (Kd.R_lt (rp_ s0)) k_ hk,Kd.freshB (g:=e0) (o:= .cells #[.int .i64 v0,.int .i64 x0,.string y0] 105 (0,0)) (bp_ b0) k_ hk⟩))
     (case aO=>exact(rp_ A0))
     (case aS=>exact(below_size (bw_ HB)))
     (case aL=>have:=v2.out;omega)
     intro d1 a5 ho hb hg hat
     rw [←w2.out] at ho
     have b1:=bgr_ a0 hg (Kd.R_ne A0.out a0.out (by decide))
     have v1:=bgr_ b0 hg (Kd.R_away A0.out (fun _ hk=>hk.2))
     have h2:=bgr_ d0 hg (Kd.R_ne A0.out d0.out (by decide))
     have l2:=mk_ (Kd.R_after (ok:=(fun k_=>k_≠e0)) (rq_ (Kd.R_mono s0.out (fun _ hk=>⟨hk.2,hk.1⟩))) hg hat)
     have V1:=bgr_ t0 hg (Kd.R_ne A0.out t0.out (by decide))
     have M1:=mk_ (hb)
     have L1:=mk_ (ho)
     clear a0;clear b0;clear d0;clear s0;clear t0;clear HB;clear A0;have a0:=b1;have b0:=v1;have d0:=h2;have s0:=l2;have t0:=V1;have HB:=M1;have C0:=L1;clear b1 v1 h2 l2 V1 M1 L1;clear ho hb hg hat
     refine hK.out _ _ ⟨bc_ a0 0,bc_ a0 1,bc_ a0 2,bc_ b0 0,bc_ b0 1,bc_ b0 2⟩ (fun hHeld=>?_)
     clear hK K
     refine norm_ (a':=?_) ?_ ?_
     rotate_left
     ·show Act.put _ (some 37) _=_
      simp only [Act.put,sia_,scz_,scs_,i64_w,i32_w]
      rfl
     exact norm_ (by first|(simp only [putAll,Act.put,sia_,scz_,scs_];done)|(simp only [putAll,Act.put,sia_,scz_,scs_];rfl)) (p1 (M0,d1,O0,h0) _ ⟨hHeld,(rp_ C0),(rq_ (Kd.R_mono s0.out (fun _ hk=>⟨hk.2,hk.1⟩))),(bp_ a0),(bp_ b0),(bp_ d0),(bp_ t0),I0.out,J0.out,m0.out,o0.out,n0.out,p0.out,r0.out,q0.out,(bw_ HB)⟩)
    intro I1
    refine join_ (σ:=Value × Value) 5 #[true,true,true,true,true,true,true,true,true,true,true,true,true,true,true,false,false,false,false,false] (fun s_=>[(28,s_.1),(37,s_.2)]) (fun s_ w'=>(w'.cell? ⟨g0,0,none⟩=some (.int .i64 F0)∧w'.cell? ⟨g0,1,none⟩=some (.int .i64 G0)∧w'.cell? ⟨g0,2,none⟩=some (.slice L0 H0.length K0)∧w'.cell? ⟨e0,0,none⟩=some (.int .i64 v0)∧w'.cell? ⟨e0,1,none⟩=some (.int .i64 x0)∧w'.cell? ⟨e0,2,none⟩=some (.string y0))∧(Kd.R k105 105 w' w.heap.size (fun k_=>k_≠e0) s_.2 o2)∧(w'.heap[g0]? =some (.cells #[.int .i64 F0,.int .i64 G0,.slice L0 H0.length K0] 28 (0,0)))∧(w'.heap[e0]? =some (.cells #[.int .i64 v0,.int .i64 x0,.string y0] 105 (0,0)))∧(w'.heap[B0]? =some (.cells #[.int .i64 0,.int .i64 0,.slice none 0 0] 28 (0,0)))∧(Below w.heap.size w w')) ?_ ?_
    rotate_left
    rotate_left
    ·skip
     rintro⟨M0,d1⟩ m3 ⟨hS_,U0,V0,W0,X0,Y0⟩
     (try dsimp only at hS_ U0 V0 W0 X0 Y0)
     clear a0;clear b0;clear d0;clear HB;have C0:=mk_ U0;have a0:=mk_ V0;have b0:=mk_ W0;have d0:=mk_ X0;have HB:=mk_ Y0;clear U0 V0 W0 X0 Y0;have hHeld:=hS_
     refine norm_ (a':=?_) ?_ ?_
     rotate_left
     ·simp only [putAll,Act.put,sia_,scz_,scs_]
      rfl
     refine two_ (i:=15) (j:=18) (Ni:=some 39) (Nj:=some 8) #[true,true,true,true,true,true,true,true,true,true,true,true,true,true,true,true,false,false,false,false] #[true,true,true,true,true,true,true,true,true,true,true,true,true,true,true,false,false,false,true,false] rfl rfl rfl rfl (two_of HT_.out (by kernel_rfl)) (by decide) (by decide) (fun K hK=>?_) (fun K hK=>?_)
     ·skip
      refine Kd.R_lit_step k105 _ 105 ?hg (N:=39) ?hd (xs:=([(⟨v0,x0,y0⟩:S105)]:List (S105))) (inner:=[.int .i64 v0,.int .i64 x0,.string y0]) (ok:=fun _=>True) (okp:=fun _=>True) ?hr ?hp (fun _ hk=>hk) trivial (Below.refl _ _) (Nat.le_refl _) (by simp) ?_;(case hd=>rfl);(case hg=>rfl);(case hr=>first|(go_simp;done)|(go_simp;rfl));(case hp=>exact(Reps.c3 (show Kd.M k105 _ _ _ (⟨v0,x0,y0⟩:S105) [.int .i64 v0,.int .i64 x0,.string y0] from(k105_mkM _ _ _ (⟨v0,x0,y0⟩:S105))) (Reps.none _ _)))
      intro O0 v3 n1 hb hg_ hnew_
      clear hg_ hnew_
      (first|rw [←q1.out] at n1|(simp only [Int.reduceToNat] at n1;rw [←q1.out] at n1))
      have b1:=mk_ (Kd.R_elder' (rp_ C0) (Kd.R_base n1) hb)
      have v1:=mk_ (Kd.R_lower (Kd.R_newB (Kd.R_new' n1 (Kd.R_lt (rp_ C0))) (g:=e0) (o:= .cells #[.int .i64 v0,.int .i64 x0,.string y0] 105 (0,0)) (bp_ b0)) (below_size (bw_ HB)))
      clear C0;have C0:=b1;have s0:=v1;clear b1 v1;replace a0:=bb_ a0 hb;replace b0:=bb_ b0 hb;replace d0:=bb_ d0 hb;replace HB:=bs_ HB hb;clear hb n1
      refine hK.out _ _ ⟨bc_ a0 0,bc_ a0 1,bc_ a0 2,bc_ b0 0,bc_ b0 1,bc_ b0 2⟩ (fun hHeld=>?_)
      clear hK K
      refine norm_ (a':=?_) ?_ ?_
      rotate_left
      ·show Act.put _ (some 39) _=_
       simp only [Act.put,sia_,scz_,scs_,i64_w,i32_w]
       rfl
      exact norm_ (by first|(simp only [putAll,Act.put,sia_,scz_,scs_];done)|(simp only [putAll,Act.put,sia_,scz_,scs_];rfl)) (W1 (M0,d1,O0) _ ⟨hHeld,(rq_ (Kd.R_mono C0.out (fun _ hk=>⟨hk.2,hk.1⟩))),(rq_ (Kd.R_mono s0.out (fun _ hk=>⟨hk.1.2,hk.2⟩))),(bp_ a0),(bp_ b0),(bp_ d0),(bw_ HB)⟩)
     skip
     refine box_step ?hg (N:=8) ?hd (cs:=#[.int .i64 0,.int .i64 0,.slice none 0 0]) (t:=28) ?hr ?_;(case hd=>rfl);(case hg=>rfl);(case hr=>first|(go_simp;done)|(go_simp;rfl))
     intro h0 hg v3 hbox hb
     have M1:=mk_ (hbox)
     have L1:Aside0 (w.heap.size≤h0):=bz_ hg
     have Q1:Aside0 (w.heap.size≤h0):=bz_ hg
     have R1:Aside0 (g0≠h0):=bl_ a0 hg
     have U1:Aside0 (h0≠g0):=bg_ a0 hg
     have e1:Aside0 (e0≠h0):=bl_ b0 hg
     have g1:Aside0 (h0≠e0):=bg_ b0 hg
     have m1:Aside0 (B0≠h0):=bl_ d0 hg
     have t1:Aside0 (h0≠B0):=bg_ d0 hg
     have t0:=M1;have I0:=L1;have J0:=Q1;have m0:=R1;have o0:=U1;have n0:=e1;have p0:=g1;have r0:=m1;have q0:=t1;clear M1 L1 Q1 R1 U1 e1 g1 m1 t1;replace C0:=rb_ C0 hb;replace a0:=bb_ a0 hb;replace b0:=bb_ b0 hb;replace d0:=bb_ d0 hb;replace HB:=bs_ HB hb;clear hb hbox hg
     refine hK.out _ _ ⟨bc_ a0 0,bc_ a0 1,bc_ a0 2,bc_ b0 0,bc_ b0 1,bc_ b0 2⟩ (fun hHeld=>?_)
     clear hK K
     refine norm_ (a':=?_) ?_ ?_
     rotate_left
     ·show Act.put _ (some 8) _=_
      simp only [Act.put,sia_,scz_,scs_,i64_w,i32_w]
      rfl
     exact norm_ (by first|(simp only [putAll,Act.put,sia_,scz_,scs_];done)|(simp only [putAll,Act.put,sia_,scz_,scs_];rfl)) (X1 (M0,d1,h0) _ ⟨hHeld,(rp_ C0),(bp_ a0),(bp_ b0),(bp_ d0),(bp_ t0),I0.out,J0.out,m0.out,o0.out,n0.out,p0.out,r0.out,q0.out,(bw_ HB)⟩)
    intro n3
    refine join_ (σ:=Value × Value) 5 #[true,true,true,true,true,true,true,true,true,true,true,true,true,false,true,true,false,false,false,false] (fun s_=>[(28,s_.1),(39,s_.2)]) (fun s_ w'=>(w'.cell? ⟨g0,0,none⟩=some (.int .i64 F0)∧w'.cell? ⟨g0,1,none⟩=some (.int .i64 G0)∧w'.cell? ⟨g0,2,none⟩=some (.slice L0 H0.length K0)∧w'.cell? ⟨e0,0,none⟩=some (.int .i64 v0)∧w'.cell? ⟨e0,1,none⟩=some (.int .i64 x0)∧w'.cell? ⟨e0,2,none⟩=some (.string y0))∧(Kd.R k105 105 w' w.heap.size (fun k_=>some k_≠(s_.2:Value).ownBlock∧k_≠e0) s_.1 Y1)∧(Kd.R k105 105 w' w.heap.size (fun k_=>some k_≠(s_.1:Value).ownBlock∧k_≠e0) s_.2 x1)∧(w'.heap[g0]? =some (.cells #[.int .i64 F0,.int .i64 G0,.slice L0 H0.length K0] 28 (0,0)))∧(w'.heap[e0]? =some (.cells #[.int .i64 v0,.int .i64 x0,.string y0] 105 (0,0)))∧(w'.heap[B0]? =some (.cells #[.int .i64 0,.int .i64 0,.slice none 0 0] 28 (0,0)))∧(Below w.heap.size w w')) ?_ ?_
    rotate_left
    rotate_left
    ·skip
     rintro⟨M0,O0⟩ v3 ⟨hS_,U0,V0,W0,X0,Y0,o1⟩
     (try dsimp only at hS_ U0 V0 W0 X0 Y0 o1)
     clear a0;clear b0;clear d0;clear HB;have A0:=mk_ U0;have s0:=mk_ V0;have a0:=mk_ W0;have b0:=mk_ X0;have d0:=mk_ Y0;have HB:=mk_ o1;clear U0 V0 W0 X0 Y0 o1;have hHeld:=hS_
     refine norm_ (a':=?_) ?_ ?_
     rotate_left
     ·simp only [putAll,Act.put,sia_,scz_,scs_]
      rfl
     refine two_ (i:=13) (j:=18) (Ni:=some 37) (Nj:=some 8) #[true,true,true,true,true,true,true,true,true,true,true,true,true,true,true,true,false,false,false,false] #[true,true,true,true,true,true,true,true,true,true,true,true,true,false,true,true,false,false,true,false] rfl rfl rfl rfl (two_of HT_.out (by kernel_rfl)) (by decide) (by decide) (fun K hK=>?_) (fun K hK=>?_)
     rotate_left
     ·skip
      refine box_step ?hg (N:=8) ?hd (cs:=#[.int .i64 0,.int .i64 0,.slice none 0 0]) (t:=28) ?hr ?_;(case hd=>rfl);(case hg=>rfl);(case hr=>first|(go_simp;done)|(go_simp;rfl))
      intro h0 hg M3 hbox hb
      have L1:=mk_ (hbox)
      have Q1:Aside0 (w.heap.size≤h0):=bz_ hg
      have R1:Aside0 (w.heap.size≤h0):=bz_ hg
      have U1:Aside0 (g0≠h0):=bl_ a0 hg
      have e1:Aside0 (h0≠g0):=bg_ a0 hg
      have g1:Aside0 (e0≠h0):=bl_ b0 hg
      have m1:Aside0 (h0≠e0):=bg_ b0 hg
      have t1:Aside0 (B0≠h0):=bl_ d0 hg
      have g2:Aside0 (h0≠B0):=bg_ d0 hg
      have t0:=L1;have I0:=Q1;have J0:=R1;have m0:=U1;have o0:=e1;have n0:=g1;have p0:=m1;have r0:=t1;have q0:=g2;clear L1 Q1 R1 U1 e1 g1 m1 t1 g2;replace A0:=rb_ A0 hb;replace s0:=rb_ s0 hb;replace a0:=bb_ a0 hb;replace b0:=bb_ b0 hb;replace d0:=bb_ d0 hb;replace HB:=bs_ HB hb;clear hb hbox hg
      refine hK.out _ _ ⟨bc_ a0 0,bc_ a0 1,bc_ a0 2,bc_ b0 0,bc_ b0 1,bc_ b0 2⟩ (fun hHeld=>?_)
      clear hK K
      refine norm_ (a':=?_) ?_ ?_
      rotate_left
      ·show Act.put _ (some 8) _=_
       simp only [Act.put,sia_,scz_,scs_,i64_w,i32_w]
       rfl
      exact norm_ (by first|(simp only [putAll,Act.put,sia_,scz_,scs_];done)|(simp only [putAll,Act.put,sia_,scz_,scs_];rfl)) (I1 (M0,O0,h0) _ ⟨hHeld,(rp_ A0),(rp_ s0),(bp_ a0),(bp_ b0),(bp_ d0),(bp_ t0),I0.out,J0.out,m0.out,o0.out,n0.out,p0.out,r0.out,q0.out,(bw_ HB)⟩)
     skip
     refine Kd.R_append_rows_step k105 (w0:=w) w.heap.size (by rfl) (.tmp 28) (.tmp 36) 26 105 (.agg #[(.int .i64 0),(.int .i64 0),(.string ⟨#[]⟩)]) 32 rfl Tryz.underlying26 info105 rfl (by decide) (by omega) M0 Y1 n2 _ _ _ (fun k_=>some k_≠(O0:Value).ownBlock∧k_≠e0) (fun _=>False) rfl rfl ?aO ?aR (fun _ _ h=>h) (fun _ h=>h.elim) ?aF ?aB ?aS ?aL ?_
     (case aR=>repeat(first|exact(Kd.C_below b2.out HB.out)|(with_reducible refine Kd.C_alloc ?_ _)|(with_reducible refine Kd.C_drewN ?_ _)|(with_reducible refine Kd.C_drew ?_)))
     (case aB=>exact(bw_ HB))
     (case aF=>exact(fun k_ hk=>⟨Kd.fresh' (Kd.R_lt (rp_ s0)) k_ hk,Kd.freshB (g:=e0) (o:= .cells #[.int .i64 v0,.int .i64 x0,.string y0] 105 (0,0)) (bp_ b0) k_ hk⟩))
     (case aO=>exact(rp_ A0))
     (case aS=>exact(below_size (bw_ HB)))
     (case aL=>have:=v2.out;omega)
     intro d1 M3 ho hb hg hat
     rw [←w2.out] at ho
     have b1:=bgr_ a0 hg (Kd.R_ne A0.out a0.out (by decide))
     have v1:=bgr_ b0 hg (Kd.R_away A0.out (fun _ hk=>hk.2))
     have h2:=bgr_ d0 hg (Kd.R_ne A0.out d0.out (by decide))
     have l2:=mk_ (Kd.R_after (ok:=(fun k_=>k_≠e0)) (rq_ (Kd.R_mono s0.out (fun _ hk=>⟨hk.2,hk.1⟩))) hg hat)
     have V1:=mk_ (hb)
     have M1:=mk_ (ho)
     clear a0;clear b0;clear d0;clear s0;clear HB;clear A0;have a0:=b1;have b0:=v1;have d0:=h2;have s0:=l2;have HB:=V1;have C0:=M1;clear b1 v1 h2 l2 V1 M1;clear ho hb hg hat
     refine hK.out _ _ ⟨bc_ a0 0,bc_ a0 1,bc_ a0 2,bc_ b0 0,bc_ b0 1,bc_ b0 2⟩ (fun hHeld=>?_)
     clear hK K
     refine norm_ (a':=?_) ?_ ?_
     rotate_left
     ·show Act.put _ (some 37) _=_
      simp only [Act.put,sia_,scz_,scs_,i64_w,i32_w]
      rfl
     exact norm_ (by first|(simp only [putAll,Act.put,sia_,scz_,scs_];done)|(simp only [putAll,Act.put,sia_,scz_,scs_];rfl)) (W1 (M0,d1,O0) _ ⟨hHeld,(rp_ C0),(rq_ (Kd.R_mono s0.out (fun _ hk=>⟨hk.2,hk.1⟩))),(bp_ a0),(bp_ b0),(bp_ d0),(bw_ HB)⟩)
    intro O2
    refine join_ (σ:=Value × Nat) 5 #[true,true,true,true,true,true,true,true,true,true,true,true,true,false,true,false,false,false,true,false] (fun s_=>[(28,s_.1),(8,.pointer (some ⟨s_.2,0,none⟩))]) (fun s_ w'=>(w'.cell? ⟨g0,0,none⟩=some (.int .i64 F0)∧w'.cell? ⟨g0,1,none⟩=some (.int .i64 G0)∧w'.cell? ⟨g0,2,none⟩=some (.slice L0 H0.length K0)∧w'.cell? ⟨e0,0,none⟩=some (.int .i64 v0)∧w'.cell? ⟨e0,1,none⟩=some (.int .i64 x0)∧w'.cell? ⟨e0,2,none⟩=some (.string y0))∧(Kd.R k105 105 w' w.heap.size (fun k_=>k_≠e0) s_.1 Y1)∧(w'.heap[g0]? =some (.cells #[.int .i64 F0,.int .i64 G0,.slice L0 H0.length K0] 28 (0,0)))∧(w'.heap[e0]? =some (.cells #[.int .i64 v0,.int .i64 x0,.string y0] 105 (0,0)))∧(w'.heap[B0]? =some (.cells #[.int .i64 0,.int .i64 0,.slice none 0 0] 28 (0,0)))∧(w'.heap[s_.2]? =some (.cells #[.int .i64 0,.int .i64 0,.slice none 0 0] 28 (0,0)))∧(w.heap.size≤s_.2)∧(w.heap.size≤s_.2)∧(g0≠s_.2)∧(s_.2≠g0)∧(e0≠s_.2)∧(s_.2≠e0)∧(B0≠s_.2)∧(s_.2≠B0)∧(Below w.heap.size w w')) ?_ ?_
    rotate_left
    rotate_left
    ·skip
     rintro⟨M0,h0⟩ m3 ⟨hS_,U0,V0,W0,X0,Y0,o1,D1,F1,G1,H1,P0,Q0,R0,Z0⟩
     (try dsimp only at hS_ U0 V0 W0 X0 Y0 o1 D1 F1 G1 H1 P0 Q0 R0 Z0)
     clear a0;clear b0;clear d0;clear HB;have A0:=mk_ U0;have a0:=mk_ V0;have b0:=mk_ W0;have d0:=mk_ X0;have t0:=mk_ Y0;have I0:=mk_ o1;have J0:=mk_ D1;have m0:=mk_ F1;have o0:=mk_ G1;have n0:=mk_ H1;have p0:=mk_ P0;have r0:=mk_ Q0;have q0:=mk_ R0;have HB:=mk_ Z0;clear U0 V0 W0 X0 Y0 o1 D1 F1 G1 H1 P0 Q0 R0 Z0;have hHeld:=hS_
     refine norm_ (a':=?_) ?_ ?_
     rotate_left
     ·simp only [putAll,Act.put,sia_,scz_,scs_]
      rfl
     refine two_ (i:=13) (j:=15) (Ni:=some 37) (Nj:=some 39) #[true,true,true,true,true,true,true,true,true,true,true,true,true,true,true,false,false,false,true,false] #[true,true,true,true,true,true,true,true,true,true,true,true,true,false,true,true,false,false,true,false] rfl rfl rfl rfl (two_of HT_.out (by kernel_rfl)) (by decide) (by decide) (fun K hK=>?_) (fun K hK=>?_)
     rotate_left
     ·skip
      refine Kd.R_lit_step k105 _ 105 ?hg (N:=39) ?hd (xs:=([(⟨v0,x0,y0⟩:S105)]:List (S105))) (inner:=[.int .i64 v0,.int .i64 x0,.string y0]) (ok:=fun _=>True) (okp:=fun _=>True) ?hr ?hp (fun _ hk=>hk) trivial (Below.refl _ _) (Nat.le_refl _) (by simp) ?_;(case hd=>rfl);(case hg=>rfl);(case hr=>first|(go_simp;done)|(go_simp;rfl));(case hp=>exact(Reps.c3 (show Kd.M k105 _ _ _ (⟨v0,x0,y0⟩:S105) [.int .i64 v0,.int .i64 x0,.string y0] from(k105_mkM _ _ _ (⟨v0,x0,y0⟩:S105))) (Reps.none _ _)))
      intro O0 v3 n1 hb hg_ hnew_
      clear hg_ hnew_
      (first|rw [←q1.out] at n1|(simp only [Int.reduceToNat] at n1;rw [←q1.out] at n1))
      have b1:=mk_ (Kd.R_elder' (rp_ A0) (Kd.R_base n1) hb)
      have v1:=mk_ (Kd.R_lower (Kd.R_newB (Kd.R_new' n1 (Kd.R_lt (rp_ A0))) (g:=e0) (o:= .cells #[.int .i64 v0,.int .i64 x0,.string y0] 105 (0,0)) (bp_ b0)) (below_size (bw_ HB)))
      clear A0;have A0:=b1;have s0:=v1;clear b1 v1;replace a0:=bb_ a0 hb;replace b0:=bb_ b0 hb;replace d0:=bb_ d0 hb;replace t0:=bb_ t0 hb;replace HB:=bs_ HB hb;clear hb n1
      refine hK.out _ _ ⟨bc_ a0 0,bc_ a0 1,bc_ a0 2,bc_ b0 0,bc_ b0 1,bc_ b0 2⟩ (fun hHeld=>?_)
      clear hK K
      refine norm_ (a':=?_) ?_ ?_
      rotate_left
      ·show Act.put _ (some 39) _=_
       simp only [Act.put,sia_,scz_,scs_,i64_w,i32_w]
       rfl
      exact norm_ (by first|(simp only [putAll,Act.put,sia_,scz_,scs_];done)|(simp only [putAll,Act.put,sia_,scz_,scs_];rfl)) (I1 (M0,O0,h0) _ ⟨hHeld,(rq_ (Kd.R_mono A0.out (fun _ hk=>⟨hk.2,hk.1⟩))),(rq_ (Kd.R_mono s0.out (fun _ hk=>⟨hk.1.2,hk.2⟩))),(bp_ a0),(bp_ b0),(bp_ d0),(bp_ t0),I0.out,J0.out,m0.out,o0.out,n0.out,p0.out,r0.out,q0.out,(bw_ HB)⟩)
     skip
     refine Kd.R_append_rows_step k105 (w0:=w) w.heap.size (by rfl) (.tmp 28) (.tmp 36) 26 105 (.agg #[(.int .i64 0),(.int .i64 0),(.string ⟨#[]⟩)]) 32 rfl Tryz.underlying26 info105 rfl (by decide) (by omega) M0 Y1 n2 _ _ _ (fun k_=>k_≠e0) (fun _=>False) rfl rfl ?aO ?aR (fun _ _ h=>h) (fun _ h=>h.elim) ?aF ?aB ?aS ?aL ?_
     (case aR=>repeat(first|exact(Kd.C_below b2.out HB.out)|(with_reducible refine Kd.C_alloc ?_ _)|(with_reducible refine Kd.C_drewN ?_ _)|(with_reducible refine Kd.C_drew ?_)))
     (case aB=>exact(bw_ HB))
     (case aF=>exact(fun k_ hk=>Kd.freshB (g:=e0) (o:= .cells #[.int .i64 v0,.int .i64 x0,.string y0] 105 (0,0)) (bp_ b0) k_ hk))
     (case aO=>exact(rp_ A0))
     (case aS=>exact(below_size (bw_ HB)))
     (case aL=>have:=v2.out;omega)
     intro d1 v3 ho hb hg hat
     rw [←w2.out] at ho
     have b1:=bgr_ a0 hg (Kd.R_ne A0.out a0.out (by decide))
     have v1:=bgr_ b0 hg (Kd.R_away A0.out (fun _ hk=>hk))
     have h2:=bgr_ d0 hg (Kd.R_ne A0.out d0.out (by decide))
     have l2:=bgr_ t0 hg (Kd.R_ne A0.out t0.out (by decide))
     have V1:=mk_ (hb)
     have M1:=mk_ (ho)
     clear a0;clear b0;clear d0;clear t0;clear HB;clear A0;have a0:=b1;have b0:=v1;have d0:=h2;have t0:=l2;have HB:=V1;have C0:=M1;clear b1 v1 h2 l2 V1 M1;clear ho hb hg hat
     refine hK.out _ _ ⟨bc_ a0 0,bc_ a0 1,bc_ a0 2,bc_ b0 0,bc_ b0 1,bc_ b0 2⟩ (fun hHeld=>?_)
     clear hK K
     refine norm_ (a':=?_) ?_ ?_
     rotate_left
     ·show Act.put _ (some 37) _=_
      simp only [Act.put,sia_,scz_,scs_,i64_w,i32_w]
      rfl
     exact norm_ (by first|(simp only [putAll,Act.put,sia_,scz_,scs_];done)|(simp only [putAll,Act.put,sia_,scz_,scs_];rfl)) (X1 (M0,d1,h0) _ ⟨hHeld,(rp_ C0),(bp_ a0),(bp_ b0),(bp_ d0),(bp_ t0),I0.out,J0.out,m0.out,o0.out,n0.out,p0.out,r0.out,q0.out,(bw_ HB)⟩)
    intro P2
    refine join_ (σ:=Value × Nat) 5 #[true,true,true,true,false,true,true,true,true,true,true,true,true,false,true,true,false,false,true,false] (fun s_=>[(39,s_.1),(8,.pointer (some ⟨s_.2,0,none⟩))]) (fun s_ w'=>(w'.cell? ⟨g0,0,none⟩=some (.int .i64 F0)∧w'.cell? ⟨g0,1,none⟩=some (.int .i64 G0)∧w'.cell? ⟨g0,2,none⟩=some (.slice L0 H0.length K0)∧w'.cell? ⟨e0,0,none⟩=some (.int .i64 v0)∧w'.cell? ⟨e0,1,none⟩=some (.int .i64 x0)∧w'.cell? ⟨e0,2,none⟩=some (.string y0))∧(Kd.R k105 105 w' w.heap.size (fun k_=>k_≠e0) s_.1 x1)∧(w'.heap[g0]? =some (.cells #[.int .i64 F0,.int .i64 G0,.slice L0 H0.length K0] 28 (0,0)))∧(w'.heap[e0]? =some (.cells #[.int .i64 v0,.int .i64 x0,.string y0] 105 (0,0)))∧(w'.heap[B0]? =some (.cells #[.int .i64 0,.int .i64 0,.slice none 0 0] 28 (0,0)))∧(w'.heap[s_.2]? =some (.cells #[.int .i64 0,.int .i64 0,.slice none 0 0] 28 (0,0)))∧(w.heap.size≤s_.2)∧(w.heap.size≤s_.2)∧(g0≠s_.2)∧(s_.2≠g0)∧(e0≠s_.2)∧(s_.2≠e0)∧(B0≠s_.2)∧(s_.2≠B0)∧(Below w.heap.size w w')) ?_ ?_
    rotate_left
    rotate_left
    ·skip
     rintro⟨O0,h0⟩ m3 ⟨hS_,U0,V0,W0,X0,Y0,o1,D1,F1,G1,H1,P0,Q0,R0,Z0⟩
     (try dsimp only at hS_ U0 V0 W0 X0 Y0 o1 D1 F1 G1 H1 P0 Q0 R0 Z0)
     clear a0;clear b0;clear d0;clear HB;have s0:=mk_ U0;have a0:=mk_ V0;have b0:=mk_ W0;have d0:=mk_ X0;have t0:=mk_ Y0;have I0:=mk_ o1;have J0:=mk_ D1;have m0:=mk_ F1;have o0:=mk_ G1;have n0:=mk_ H1;have p0:=mk_ P0;have r0:=mk_ Q0;have q0:=mk_ R0;have HB:=mk_ Z0;clear U0 V0 W0 X0 Y0 o1 D1 F1 G1 H1 P0 Q0 R0 Z0;have hHeld:=hS_
     refine norm_ (a':=?_) ?_ ?_
     rotate_left
     ·simp only [putAll,Act.put,sia_,scz_,scs_]
      rfl
     refine on_ 4 28 (fun K hK=>?_)
     refine Kd.R_lit_step k105 _ 105 ?hg (N:=28) ?hd (xs:=([]:List (S105))) (inner:=[]) (ok:=fun _=>True) (okp:=fun _=>True) ?hr ?hp (fun _ hk=>hk) trivial (Below.refl _ _) (Nat.le_refl _) (by simp) ?_;(case hd=>rfl);(case hg=>rfl);(case hr=>first|(go_simp;done)|(go_simp;rfl));(case hp=>exact(Reps.none _ _))
     intro M0 v3 n1 hb hg_ hnew_
     clear hg_ hnew_
     (first|rw [←K1.out] at n1|(simp only [Int.reduceToNat] at n1;rw [←K1.out] at n1))
     have b1:=mk_ (Kd.R_elder' (rp_ s0) (Kd.R_base n1) hb)
     have v1:=mk_ (Kd.R_lower (Kd.R_newB (Kd.R_new' n1 (Kd.R_lt (rp_ s0))) (g:=e0) (o:= .cells #[.int .i64 v0,.int .i64 x0,.string y0] 105 (0,0)) (bp_ b0)) (below_size (bw_ HB)))
     clear s0;have s0:=b1;have A0:=v1;clear b1 v1;replace a0:=bb_ a0 hb;replace b0:=bb_ b0 hb;replace d0:=bb_ d0 hb;replace t0:=bb_ t0 hb;replace HB:=bs_ HB hb;clear hb n1
     refine hK.out _ _ ⟨bc_ a0 0,bc_ a0 1,bc_ a0 2,bc_ b0 0,bc_ b0 1,bc_ b0 2⟩ (fun hHeld=>?_)
     clear hK K
     refine norm_ (a':=?_) ?_ ?_
     rotate_left
     ·show Act.put _ (some 28) _=_
      simp only [Act.put,sia_,scz_,scs_,i64_w,i32_w]
      rfl
     exact norm_ (by first|(simp only [putAll,Act.put,sia_,scz_,scs_];done)|(simp only [putAll,Act.put,sia_,scz_,scs_];rfl)) (I1 (M0,O0,h0) _ ⟨hHeld,(rq_ (Kd.R_mono A0.out (fun _ hk=>⟨hk.1.2,hk.2⟩))),(rq_ (Kd.R_mono s0.out (fun _ hk=>⟨hk.2,hk.1⟩))),(bp_ a0),(bp_ b0),(bp_ d0),(bp_ t0),I0.out,J0.out,m0.out,o0.out,n0.out,p0.out,r0.out,q0.out,(bw_ HB)⟩)
    intro y2
    refine join_ (σ:=Value) 6 #[true,true,true,true,true,true,true,true,true,true,true,true,true,false,true,false,false,false,false,false] (fun s_=>[(28,s_)]) (fun s_ w'=>(w'.cell? ⟨g0,0,none⟩=some (.int .i64 F0)∧w'.cell? ⟨g0,1,none⟩=some (.int .i64 G0)∧w'.cell? ⟨g0,2,none⟩=some (.slice L0 H0.length K0)∧w'.cell? ⟨e0,0,none⟩=some (.int .i64 v0)∧w'.cell? ⟨e0,1,none⟩=some (.int .i64 x0)∧w'.cell? ⟨e0,2,none⟩=some (.string y0))∧(Kd.R k105 105 w' w.heap.size (fun k_=>k_≠e0) s_ Y1)∧(w'.heap[g0]? =some (.cells #[.int .i64 F0,.int .i64 G0,.slice L0 H0.length K0] 28 (0,0)))∧(w'.heap[e0]? =some (.cells #[.int .i64 v0,.int .i64 x0,.string y0] 105 (0,0)))∧(w'.heap[B0]? =some (.cells #[.int .i64 0,.int .i64 0,.slice none 0 0] 28 (0,0)))∧(Below w.heap.size w w')) ?_ ?_
    rotate_left
    rotate_left
    ·skip
     rintro M0 b5 ⟨hS_,U0,V0,W0,X0,Y0⟩
     (try dsimp only at hS_ U0 V0 W0 X0 Y0)
     clear a0;clear b0;clear d0;clear HB;have A0:=mk_ U0;have a0:=mk_ V0;have b0:=mk_ W0;have d0:=mk_ X0;have HB:=mk_ Y0;clear U0 V0 W0 X0 Y0;have hHeld:=hS_
     refine norm_ (a':=?_) ?_ ?_
     rotate_left
     ·simp only [putAll,Act.put,sia_,scz_,scs_]
      rfl
     refine three_ (i:=13) (j:=15) (k:=18) (Ni:=some 37) (Nj:=some 39) (Nk:=some 8) #[true,true,true,true,true,true,true,true,true,true,true,true,true,true,true,false,false,false,false,false] #[true,true,true,true,true,true,true,true,true,true,true,true,true,false,true,true,false,false,false,false] #[true,true,true,true,true,true,true,true,true,true,true,true,true,false,true,false,false,false,true,false] rfl rfl rfl rfl rfl rfl (three_of HT_.out (by kernel_rfl)) (by decide) (by decide) (by decide) (fun K hK=>?_) (fun K hK=>?_) (fun K hK=>?_)
     rotate_left
     ·skip
      refine Kd.R_lit_step k105 _ 105 ?hg (N:=39) ?hd (xs:=([(⟨v0,x0,y0⟩:S105)]:List (S105))) (inner:=[.int .i64 v0,.int .i64 x0,.string y0]) (ok:=fun _=>True) (okp:=fun _=>True) ?hr ?hp (fun _ hk=>hk) trivial (Below.refl _ _) (Nat.le_refl _) (by simp) ?_;(case hd=>rfl);(case hg=>rfl);(case hr=>first|(go_simp;done)|(go_simp;rfl));(case hp=>exact(Reps.c3 (show Kd.M k105 _ _ _ (⟨v0,x0,y0⟩:S105) [.int .i64 v0,.int .i64 x0,.string y0] from(k105_mkM _ _ _ (⟨v0,x0,y0⟩:S105))) (Reps.none _ _)))
      intro O0 m3 J1 hb hg_ hnew_
      clear hg_ hnew_
      (first|rw [←q1.out] at J1|(simp only [Int.reduceToNat] at J1;rw [←q1.out] at J1))
      have b1:=mk_ (Kd.R_elder' (rp_ A0) (Kd.R_base J1) hb)
      have v1:=mk_ (Kd.R_lower (Kd.R_newB (Kd.R_new' J1 (Kd.R_lt (rp_ A0))) (g:=e0) (o:= .cells #[.int .i64 v0,.int .i64 x0,.string y0] 105 (0,0)) (bp_ b0)) (below_size (bw_ HB)))
      clear A0;have A0:=b1;have s0:=v1;clear b1 v1;replace a0:=bb_ a0 hb;replace b0:=bb_ b0 hb;replace d0:=bb_ d0 hb;replace HB:=bs_ HB hb;clear hb J1
      refine hK.out _ _ ⟨bc_ a0 0,bc_ a0 1,bc_ a0 2,bc_ b0 0,bc_ b0 1,bc_ b0 2⟩ (fun hHeld=>?_)
      clear hK K
      refine norm_ (a':=?_) ?_ ?_
      rotate_left
      ·show Act.put _ (some 39) _=_
       simp only [Act.put,sia_,scz_,scs_,i64_w,i32_w]
       rfl
      exact norm_ (by first|(simp only [putAll,Act.put,sia_,scz_,scs_];done)|(simp only [putAll,Act.put,sia_,scz_,scs_];rfl)) (O2 (M0,O0) _ ⟨hHeld,(rq_ (Kd.R_mono A0.out (fun _ hk=>⟨hk.2,hk.1⟩))),(rq_ (Kd.R_mono s0.out (fun _ hk=>⟨hk.1.2,hk.2⟩))),(bp_ a0),(bp_ b0),(bp_ d0),(bw_ HB)⟩)
     ·skip
      refine box_step ?hg (N:=8) ?hd (cs:=#[.int .i64 0,.int .i64 0,.slice none 0 0]) (t:=28) ?hr ?_;(case hd=>rfl);(case hg=>rfl);(case hr=>first|(go_simp;done)|(go_simp;rfl))
      intro h0 hg m3 hbox hb
      have M1:=mk_ (hbox)
      have L1:Aside0 (w.heap.size≤h0):=bz_ hg
      have Q1:Aside0 (w.heap.size≤h0):=bz_ hg
      have R1:Aside0 (g0≠h0):=bl_ a0 hg
      have U1:Aside0 (h0≠g0):=bg_ a0 hg
      have e1:Aside0 (e0≠h0):=bl_ b0 hg
      have g1:Aside0 (h0≠e0):=bg_ b0 hg
      have m1:Aside0 (B0≠h0):=bl_ d0 hg
      have t1:Aside0 (h0≠B0):=bg_ d0 hg
      have t0:=M1;have I0:=L1;have J0:=Q1;have m0:=R1;have o0:=U1;have n0:=e1;have p0:=g1;have r0:=m1;have q0:=t1;clear M1 L1 Q1 R1 U1 e1 g1 m1 t1;replace A0:=rb_ A0 hb;replace a0:=bb_ a0 hb;replace b0:=bb_ b0 hb;replace d0:=bb_ d0 hb;replace HB:=bs_ HB hb;clear hb hbox hg
      refine hK.out _ _ ⟨bc_ a0 0,bc_ a0 1,bc_ a0 2,bc_ b0 0,bc_ b0 1,bc_ b0 2⟩ (fun hHeld=>?_)
      clear hK K
      refine norm_ (a':=?_) ?_ ?_
      rotate_left
      ·show Act.put _ (some 8) _=_
       simp only [Act.put,sia_,scz_,scs_,i64_w,i32_w]
       rfl
      exact norm_ (by first|(simp only [putAll,Act.put,sia_,scz_,scs_];done)|(simp only [putAll,Act.put,sia_,scz_,scs_];rfl)) (P2 (M0,h0) _ ⟨hHeld,(rp_ A0),(bp_ a0),(bp_ b0),(bp_ d0),(bp_ t0),I0.out,J0.out,m0.out,o0.out,n0.out,p0.out,r0.out,q0.out,(bw_ HB)⟩)
     skip
     refine Kd.R_append_rows_step k105 (w0:=w) w.heap.size (by rfl) (.tmp 28) (.tmp 36) 26 105 (.agg #[(.int .i64 0),(.int .i64 0),(.string ⟨#[]⟩)]) 32 rfl Tryz.underlying26 info105 rfl (by decide) (by omega) M0 Y1 n2 _ _ _ (fun k_=>k_≠e0) (fun _=>False) rfl rfl ?aO ?aR (fun _ _ h=>h) (fun _ h=>h.elim) ?aF ?aB ?aS ?aL ?_
     (case aR=>repeat(first|exact(Kd.C_below b2.out HB.out)|(with_reducible refine Kd.C_alloc ?_ _)|(with_reducible refine Kd.C_drewN ?_ _)|(with_reducible refine Kd.C_drew ?_)))
     (case aB=>exact(bw_ HB))
     (case aF=>exact(fun k_ hk=>Kd.freshB (g:=e0) (o:= .cells #[.int .i64 v0,.int .i64 x0,.string y0] 105 (0,0)) (bp_ b0) k_ hk))
     (case aO=>exact(rp_ A0))
     (case aS=>exact(below_size (bw_ HB)))
     (case aL=>have:=v2.out;omega)
     intro d1 m3 ho hb hg hat
     rw [←w2.out] at ho
     have b1:=bgr_ a0 hg (Kd.R_ne A0.out a0.out (by decide))
     have v1:=bgr_ b0 hg (Kd.R_away A0.out (fun _ hk=>hk))
     have h2:=bgr_ d0 hg (Kd.R_ne A0.out d0.out (by decide))
     have l2:=mk_ (hb)
     have V1:=mk_ (ho)
     clear a0;clear b0;clear d0;clear HB;clear A0;have a0:=b1;have b0:=v1;have d0:=h2;have HB:=l2;have C0:=V1;clear b1 v1 h2 l2 V1;clear ho hb hg hat
     refine hK.out _ _ ⟨bc_ a0 0,bc_ a0 1,bc_ a0 2,bc_ b0 0,bc_ b0 1,bc_ b0 2⟩ (fun hHeld=>?_)
     clear hK K
     refine norm_ (a':=?_) ?_ ?_
     rotate_left
     ·show Act.put _ (some 37) _=_
      simp only [Act.put,sia_,scz_,scs_,i64_w,i32_w]
      rfl
     exact norm_ (by first|(simp only [putAll,Act.put,sia_,scz_,scs_];done)|(simp only [putAll,Act.put,sia_,scz_,scs_];rfl)) (n3 (M0,d1) _ ⟨hHeld,(rp_ C0),(bp_ a0),(bp_ b0),(bp_ d0),(bw_ HB)⟩)
    intro l6
    refine join_ (σ:=Value) 6 #[true,true,true,true,false,true,true,true,true,true,true,true,true,false,true,true,false,false,false,false] (fun s_=>[(39,s_)]) (fun s_ w'=>(w'.cell? ⟨g0,0,none⟩=some (.int .i64 F0)∧w'.cell? ⟨g0,1,none⟩=some (.int .i64 G0)∧w'.cell? ⟨g0,2,none⟩=some (.slice L0 H0.length K0)∧w'.cell? ⟨e0,0,none⟩=some (.int .i64 v0)∧w'.cell? ⟨e0,1,none⟩=some (.int .i64 x0)∧w'.cell? ⟨e0,2,none⟩=some (.string y0))∧(Kd.R k105 105 w' w.heap.size (fun k_=>k_≠e0) s_ x1)∧(w'.heap[g0]? =some (.cells #[.int .i64 F0,.int .i64 G0,.slice L0 H0.length K0] 28 (0,0)))∧(w'.heap[e0]? =some (.cells #[.int .i64 v0,.int .i64 x0,.string y0] 105 (0,0)))∧(w'.heap[B0]? =some (.cells #[.int .i64 0,.int .i64 0,.slice none 0 0] 28 (0,0)))∧(Below w.heap.size w w')) ?_ ?_
    rotate_left
    rotate_left
    ·skip
     rintro O0 b5 ⟨hS_,U0,V0,W0,X0,Y0⟩
     (try dsimp only at hS_ U0 V0 W0 X0 Y0)
     clear a0;clear b0;clear d0;clear HB;have s0:=mk_ U0;have a0:=mk_ V0;have b0:=mk_ W0;have d0:=mk_ X0;have HB:=mk_ Y0;clear U0 V0 W0 X0 Y0;have hHeld:=hS_
     refine norm_ (a':=?_) ?_ ?_
     rotate_left
     ·simp only [putAll,Act.put,sia_,scz_,scs_]
      rfl
     refine two_ (i:=4) (j:=18) (Ni:=some 28) (Nj:=some 8) #[true,true,true,true,true,true,true,true,true,true,true,true,true,false,true,true,false,false,false,false] #[true,true,true,true,false,true,true,true,true,true,true,true,true,false,true,true,false,false,true,false] rfl rfl rfl rfl (two_of HT_.out (by kernel_rfl)) (by decide) (by decide) (fun K hK=>?_) (fun K hK=>?_)
     ·skip
      refine Kd.R_lit_step k105 _ 105 ?hg (N:=28) ?hd (xs:=([]:List (S105))) (inner:=[]) (ok:=fun _=>True) (okp:=fun _=>True) ?hr ?hp (fun _ hk=>hk) trivial (Below.refl _ _) (Nat.le_refl _) (by simp) ?_;(case hd=>rfl);(case hg=>rfl);(case hr=>first|(go_simp;done)|(go_simp;rfl));(case hp=>exact(Reps.none _ _))
      intro M0 m3 J1 hb hg_ hnew_
      clear hg_ hnew_
      (first|rw [←K1.out] at J1|(simp only [Int.reduceToNat] at J1;rw [←K1.out] at J1))
      have b1:=mk_ (Kd.R_elder' (rp_ s0) (Kd.R_base J1) hb)
      have v1:=mk_ (Kd.R_lower (Kd.R_newB (Kd.R_new' J1 (Kd.R_lt (rp_ s0))) (g:=e0) (o:= .cells #[.int .i64 v0,.int .i64 x0,.string y0] 105 (0,0)) (bp_ b0)) (below_size (bw_ HB)))
      clear s0;have s0:=b1;have A0:=v1;clear b1 v1;replace a0:=bb_ a0 hb;replace b0:=bb_ b0 hb;replace d0:=bb_ d0 hb;replace HB:=bs_ HB hb;clear hb J1
      refine hK.out _ _ ⟨bc_ a0 0,bc_ a0 1,bc_ a0 2,bc_ b0 0,bc_ b0 1,bc_ b0 2⟩ (fun hHeld=>?_)
      clear hK K
      refine norm_ (a':=?_) ?_ ?_
      rotate_left
      ·show Act.put _ (some 28) _=_
       simp only [Act.put,sia_,scz_,scs_,i64_w,i32_w]
       rfl
      exact norm_ (by first|(simp only [putAll,Act.put,sia_,scz_,scs_];done)|(simp only [putAll,Act.put,sia_,scz_,scs_];rfl)) (O2 (M0,O0) _ ⟨hHeld,(rq_ (Kd.R_mono A0.out (fun _ hk=>⟨hk.1.2,hk.2⟩))),(rq_ (Kd.R_mono s0.out (fun _ hk=>⟨hk.2,hk.1⟩))),(bp_ a0),(bp_ b0),(bp_ d0),(bw_ HB)⟩)
     skip
     refine box_step ?hg (N:=8) ?hd (cs:=#[.int .i64 0,.int .i64 0,.slice none 0 0]) (t:=28) ?hr ?_;(case hd=>rfl);(case hg=>rfl);(case hr=>first|(go_simp;done)|(go_simp;rfl))
     intro h0 hg m3 hbox hb
     have M1:=mk_ (hbox)
     have L1:Aside0 (w.heap.size≤h0):=bz_ hg
     have Q1:Aside0 (w.heap.size≤h0):=bz_ hg
     have R1:Aside0 (g0≠h0):=bl_ a0 hg
     have U1:Aside0 (h0≠g0):=bg_ a0 hg
     have e1:Aside0 (e0≠h0):=bl_ b0 hg
     have g1:Aside0 (h0≠e0):=bg_ b0 hg
     have m1:Aside0 (B0≠h0):=bl_ d0 hg
     have t1:Aside0 (h0≠B0):=bg_ d0 hg
     have t0:=M1;have I0:=L1;have J0:=Q1;have m0:=R1;have o0:=U1;have n0:=e1;have p0:=g1;have r0:=m1;have q0:=t1;clear M1 L1 Q1 R1 U1 e1 g1 m1 t1;replace s0:=rb_ s0 hb;replace a0:=bb_ a0 hb;replace b0:=bb_ b0 hb;replace d0:=bb_ d0 hb;replace HB:=bs_ HB hb;clear hb hbox hg
     refine hK.out _ _ ⟨bc_ a0 0,bc_ a0 1,bc_ a0 2,bc_ b0 0,bc_ b0 1,bc_ b0 2⟩ (fun hHeld=>?_)
     clear hK K
     refine norm_ (a':=?_) ?_ ?_
     rotate_left
     ·show Act.put _ (some 8) _=_
      simp only [Act.put,sia_,scz_,scs_,i64_w,i32_w]
      rfl
     exact norm_ (by first|(simp only [putAll,Act.put,sia_,scz_,scs_];done)|(simp only [putAll,Act.put,sia_,scz_,scs_];rfl)) (y2 (O0,h0) _ ⟨hHeld,(rp_ s0),(bp_ a0),(bp_ b0),(bp_ d0),(bp_ t0),I0.out,J0.out,m0.out,o0.out,n0.out,p0.out,r0.out,q0.out,(bw_ HB)⟩)
    intro d5
    refine join_ (σ:=Nat) 6 #[true,true,true,true,false,true,true,true,true,true,true,true,true,false,true,false,false,false,true,false] (fun s_=>[(8,.pointer (some ⟨s_,0,none⟩))]) (fun s_ w'=>(w'.cell? ⟨g0,0,none⟩=some (.int .i64 F0)∧w'.cell? ⟨g0,1,none⟩=some (.int .i64 G0)∧w'.cell? ⟨g0,2,none⟩=some (.slice L0 H0.length K0)∧w'.cell? ⟨e0,0,none⟩=some (.int .i64 v0)∧w'.cell? ⟨e0,1,none⟩=some (.int .i64 x0)∧w'.cell? ⟨e0,2,none⟩=some (.string y0))∧(w'.heap[g0]? =some (.cells #[.int .i64 F0,.int .i64 G0,.slice L0 H0.length K0] 28 (0,0)))∧(w'.heap[e0]? =some (.cells #[.int .i64 v0,.int .i64 x0,.string y0] 105 (0,0)))∧(w'.heap[B0]? =some (.cells #[.int .i64 0,.int .i64 0,.slice none 0 0] 28 (0,0)))∧(w'.heap[s_]? =some (.cells #[.int .i64 0,.int .i64 0,.slice none 0 0] 28 (0,0)))∧(w.heap.size≤s_)∧(w.heap.size≤s_)∧(g0≠s_)∧(s_≠g0)∧(e0≠s_)∧(s_≠e0)∧(B0≠s_)∧(s_≠B0)∧(Below w.heap.size w w')) ?_ ?_
    rotate_left
    rotate_left
    ·skip
     rintro h0 G6 ⟨hS_,U0,V0,W0,X0,Y0,o1,D1,F1,G1,H1,P0,Q0,R0⟩
     (try dsimp only at hS_ U0 V0 W0 X0 Y0 o1 D1 F1 G1 H1 P0 Q0 R0)
     clear a0;clear b0;clear d0;clear HB;have a0:=mk_ U0;have b0:=mk_ V0;have d0:=mk_ W0;have t0:=mk_ X0;have I0:=mk_ Y0;have J0:=mk_ o1;have m0:=mk_ D1;have o0:=mk_ F1;have n0:=mk_ G1;have p0:=mk_ H1;have r0:=mk_ P0;have q0:=mk_ Q0;have HB:=mk_ R0;clear U0 V0 W0 X0 Y0 o1 D1 F1 G1 H1 P0 Q0 R0;have hHeld:=hS_
     refine norm_ (a':=?_) ?_ ?_
     rotate_left
     ·simp only [putAll,Act.put,sia_,scz_,scs_]
      rfl
     refine two_ (i:=4) (j:=15) (Ni:=some 28) (Nj:=some 39) #[true,true,true,true,true,true,true,true,true,true,true,true,true,false,true,false,false,false,true,false] #[true,true,true,true,false,true,true,true,true,true,true,true,true,false,true,true,false,false,true,false] rfl rfl rfl rfl (two_of HT_.out (by kernel_rfl)) (by decide) (by decide) (fun K hK=>?_) (fun K hK=>?_)
     rotate_left
     ·skip
      refine Kd.R_lit_step k105 _ 105 ?hg (N:=39) ?hd (xs:=([(⟨v0,x0,y0⟩:S105)]:List (S105))) (inner:=[.int .i64 v0,.int .i64 x0,.string y0]) (ok:=fun _=>True) (okp:=fun _=>True) ?hr ?hp (fun _ hk=>hk) trivial (Below.refl _ _) (Nat.le_refl _) (by simp) ?_;(case hd=>rfl);(case hg=>rfl);(case hr=>first|(go_simp;done)|(go_simp;rfl));(case hp=>exact(Reps.c3 (show Kd.M k105 _ _ _ (⟨v0,x0,y0⟩:S105) [.int .i64 v0,.int .i64 x0,.string y0] from(k105_mkM _ _ _ (⟨v0,x0,y0⟩:S105))) (Reps.none _ _)))
      intro O0 b5 O1 hb hg_ hnew_
      clear hg_ hnew_
      (first|rw [←q1.out] at O1|(simp only [Int.reduceToNat] at O1;rw [←q1.out] at O1))
      have b1:=mk_ (Kd.R_lower (Kd.R_newB O1 (g:=e0) (o:= .cells #[.int .i64 v0,.int .i64 x0,.string y0] 105 (0,0)) (bp_ b0)) (below_size (bw_ HB)))
      have s0:=b1;clear b1;replace a0:=bb_ a0 hb;replace b0:=bb_ b0 hb;replace d0:=bb_ d0 hb;replace t0:=bb_ t0 hb;replace HB:=bs_ HB hb;clear hb O1
      refine hK.out _ _ ⟨bc_ a0 0,bc_ a0 1,bc_ a0 2,bc_ b0 0,bc_ b0 1,bc_ b0 2⟩ (fun hHeld=>?_)
      clear hK K
      refine norm_ (a':=?_) ?_ ?_
      rotate_left
      ·show Act.put _ (some 39) _=_
       simp only [Act.put,sia_,scz_,scs_,i64_w,i32_w]
       rfl
      exact norm_ (by first|(simp only [putAll,Act.put,sia_,scz_,scs_];done)|(simp only [putAll,Act.put,sia_,scz_,scs_];rfl)) (y2 (O0,h0) _ ⟨hHeld,(rq_ (Kd.R_mono s0.out (fun _ hk=>hk.2))),(bp_ a0),(bp_ b0),(bp_ d0),(bp_ t0),I0.out,J0.out,m0.out,o0.out,n0.out,p0.out,r0.out,q0.out,(bw_ HB)⟩)
     skip
     refine Kd.R_lit_step k105 _ 105 ?hg (N:=28) ?hd (xs:=([]:List (S105))) (inner:=[]) (ok:=fun _=>True) (okp:=fun _=>True) ?hr ?hp (fun _ hk=>hk) trivial (Below.refl _ _) (Nat.le_refl _) (by simp) ?_;(case hd=>rfl);(case hg=>rfl);(case hr=>first|(go_simp;done)|(go_simp;rfl));(case hp=>exact(Reps.none _ _))
     intro M0 b5 O1 hb hg_ hnew_
     clear hg_ hnew_
     (first|rw [←K1.out] at O1|(simp only [Int.reduceToNat] at O1;rw [←K1.out] at O1))
     have b1:=mk_ (Kd.R_lower (Kd.R_newB O1 (g:=e0) (o:= .cells #[.int .i64 v0,.int .i64 x0,.string y0] 105 (0,0)) (bp_ b0)) (below_size (bw_ HB)))
     have A0:=b1;clear b1;replace a0:=bb_ a0 hb;replace b0:=bb_ b0 hb;replace d0:=bb_ d0 hb;replace t0:=bb_ t0 hb;replace HB:=bs_ HB hb;clear hb O1
     refine hK.out _ _ ⟨bc_ a0 0,bc_ a0 1,bc_ a0 2,bc_ b0 0,bc_ b0 1,bc_ b0 2⟩ (fun hHeld=>?_)
     clear hK K
     refine norm_ (a':=?_) ?_ ?_
     rotate_left
     ·show Act.put _ (some 28) _=_
      simp only [Act.put,sia_,scz_,scs_,i64_w,i32_w]
      rfl
     exact norm_ (by first|(simp only [putAll,Act.put,sia_,scz_,scs_];done)|(simp only [putAll,Act.put,sia_,scz_,scs_];rfl)) (P2 (M0,h0) _ ⟨hHeld,(rq_ (Kd.R_mono A0.out (fun _ hk=>hk.2))),(bp_ a0),(bp_ b0),(bp_ d0),(bp_ t0),I0.out,J0.out,m0.out,o0.out,n0.out,p0.out,r0.out,q0.out,(bw_ HB)⟩)
    intro e5
    refine three_ (i:=4) (j:=15) (k:=18) (Ni:=some 28) (Nj:=some 39) (Nk:=some 8) #[true,true,true,true,true,true,true,true,true,true,true,true,true,false,true,false,false,false,false,false] #[true,true,true,true,false,true,true,true,true,true,true,true,true,false,true,true,false,false,false,false] #[true,true,true,true,false,true,true,true,true,true,true,true,true,false,true,false,false,false,true,false] rfl rfl rfl rfl rfl rfl (three_of HT_.out (by kernel_rfl)) (by decide) (by decide) (by decide) (fun K hK=>?_) (fun K hK=>?_) (fun K hK=>?_)
    ·skip
     refine Kd.R_lit_step k105 _ 105 ?hg (N:=28) ?hd (xs:=([]:List (S105))) (inner:=[]) (ok:=fun _=>True) (okp:=fun _=>True) ?hr ?hp (fun _ hk=>hk) trivial (Below.refl _ _) (Nat.le_refl _) (by simp) ?_;(case hd=>rfl);(case hg=>rfl);(case hr=>first|(go_simp;done)|(go_simp;rfl));(case hp=>exact(Reps.none _ _))
     intro M0 I5 P1 hb hg_ hnew_
     clear hg_ hnew_
     (first|rw [←K1.out] at P1|(simp only [Int.reduceToNat] at P1;rw [←K1.out] at P1))
     have b1:=mk_ (Kd.R_lower (Kd.R_newB P1 (g:=e0) (o:= .cells #[.int .i64 v0,.int .i64 x0,.string y0] 105 (0,0)) (bp_ b0)) (below_size (bw_ HB)))
     have A0:=b1;clear b1;replace a0:=bb_ a0 hb;replace b0:=bb_ b0 hb;replace d0:=bb_ d0 hb;replace HB:=bs_ HB hb;clear hb P1
     refine hK.out _ _ ⟨bc_ a0 0,bc_ a0 1,bc_ a0 2,bc_ b0 0,bc_ b0 1,bc_ b0 2⟩ (fun hHeld=>?_)
     clear hK K
     refine norm_ (a':=?_) ?_ ?_
     rotate_left
     ·show Act.put _ (some 28) _=_
      simp only [Act.put,sia_,scz_,scs_,i64_w,i32_w]
      rfl
     exact norm_ (by first|(simp only [putAll,Act.put,sia_,scz_,scs_];done)|(simp only [putAll,Act.put,sia_,scz_,scs_];rfl)) (l6 (M0) _ ⟨hHeld,(rq_ (Kd.R_mono A0.out (fun _ hk=>hk.2))),(bp_ a0),(bp_ b0),(bp_ d0),(bw_ HB)⟩)
    ·skip
     refine Kd.R_lit_step k105 _ 105 ?hg (N:=39) ?hd (xs:=([(⟨v0,x0,y0⟩:S105)]:List (S105))) (inner:=[.int .i64 v0,.int .i64 x0,.string y0]) (ok:=fun _=>True) (okp:=fun _=>True) ?hr ?hp (fun _ hk=>hk) trivial (Below.refl _ _) (Nat.le_refl _) (by simp) ?_;(case hd=>rfl);(case hg=>rfl);(case hr=>first|(go_simp;done)|(go_simp;rfl));(case hp=>exact(Reps.c3 (show Kd.M k105 _ _ _ (⟨v0,x0,y0⟩:S105) [.int .i64 v0,.int .i64 x0,.string y0] from(k105_mkM _ _ _ (⟨v0,x0,y0⟩:S105))) (Reps.none _ _)))
     intro O0 I5 P1 hb hg_ hnew_
     clear hg_ hnew_
     (first|rw [←q1.out] at P1|(simp only [Int.reduceToNat] at P1;rw [←q1.out] at P1))
     have b1:=mk_ (Kd.R_lower (Kd.R_newB P1 (g:=e0) (o:= .cells #[.int .i64 v0,.int .i64 x0,.string y0] 105 (0,0)) (bp_ b0)) (below_size (bw_ HB)))
     have s0:=b1;clear b1;replace a0:=bb_ a0 hb;replace b0:=bb_ b0 hb;replace d0:=bb_ d0 hb;replace HB:=bs_ HB hb;clear hb P1
     refine hK.out _ _ ⟨bc_ a0 0,bc_ a0 1,bc_ a0 2,bc_ b0 0,bc_ b0 1,bc_ b0 2⟩ (fun hHeld=>?_)
     clear hK K
     refine norm_ (a':=?_) ?_ ?_
     rotate_left
     ·show Act.put _ (some 39) _=_
      simp only [Act.put,sia_,scz_,scs_,i64_w,i32_w]
      rfl
     exact norm_ (by first|(simp only [putAll,Act.put,sia_,scz_,scs_];done)|(simp only [putAll,Act.put,sia_,scz_,scs_];rfl)) (d5 (O0) _ ⟨hHeld,(rq_ (Kd.R_mono s0.out (fun _ hk=>hk.2))),(bp_ a0),(bp_ b0),(bp_ d0),(bw_ HB)⟩)
    skip
    refine box_step ?hg (N:=8) ?hd (cs:=#[.int .i64 0,.int .i64 0,.slice none 0 0]) (t:=28) ?hr ?_;(case hd=>rfl);(case hg=>rfl);(case hr=>first|(go_simp;done)|(go_simp;rfl))
    intro h0 hg I5 hbox hb
    have V1:=mk_ (hbox)
    have M1:Aside0 (w.heap.size≤h0):=bz_ hg
    have L1:Aside0 (w.heap.size≤h0):=bz_ hg
    have Q1:Aside0 (g0≠h0):=bl_ a0 hg
    have R1:Aside0 (h0≠g0):=bg_ a0 hg
    have U1:Aside0 (e0≠h0):=bl_ b0 hg
    have e1:Aside0 (h0≠e0):=bg_ b0 hg
    have g1:Aside0 (B0≠h0):=bl_ d0 hg
    have m1:Aside0 (h0≠B0):=bg_ d0 hg
    have t0:=V1;have I0:=M1;have J0:=L1;have m0:=Q1;have o0:=R1;have n0:=U1;have p0:=e1;have r0:=g1;have q0:=m1;clear V1 M1 L1 Q1 R1 U1 e1 g1 m1;replace a0:=bb_ a0 hb;replace b0:=bb_ b0 hb;replace d0:=bb_ d0 hb;replace HB:=bs_ HB hb;clear hb hbox hg
    refine hK.out _ _ ⟨bc_ a0 0,bc_ a0 1,bc_ a0 2,bc_ b0 0,bc_ b0 1,bc_ b0 2⟩ (fun hHeld=>?_)
    clear hK K
    refine norm_ (a':=?_) ?_ ?_
    rotate_left
    ·show Act.put _ (some 8) _=_
     simp only [Act.put,sia_,scz_,scs_,i64_w,i32_w]
     rfl
    exact norm_ (by first|(simp only [putAll,Act.put,sia_,scz_,scs_];done)|(simp only [putAll,Act.put,sia_,scz_,scs_];rfl)) (e5 (h0) _ ⟨hHeld,(bp_ a0),(bp_ b0),(bp_ d0),(bp_ t0),I0.out,J0.out,m0.out,o0.out,n0.out,p0.out,r0.out,q0.out,(bw_ HB)⟩)
   rintro⟨M0,d1,O0,e3,h0⟩ g5 ⟨hS_,U0,V0,W0,X0,Y0,o1,D1,F1,G1,H1,P0,Q0,R0,Z0,N1⟩
   (try dsimp only at hS_ U0 V0 W0 X0 Y0 o1 D1 F1 G1 H1 P0 Q0 R0 Z0 N1)
   clear a0;clear b0;clear d0;clear HB;have s0:=mk_ U0;have N0:=mk_ V0;have a0:=mk_ W0;have b0:=mk_ X0;have d0:=mk_ Y0;have t0:=mk_ o1;have I0:=mk_ D1;have J0:=mk_ F1;have m0:=mk_ G1;have o0:=mk_ H1;have n0:=mk_ P0;have p0:=mk_ Q0;have r0:=mk_ R0;have q0:=mk_ Z0;have HB:=mk_ N1;clear U0 V0 W0 X0 Y0 o1 D1 F1 G1 H1 P0 Q0 R0 Z0 N1;have hHeld:=hS_
   obtain⟨C2,m2,D3⟩:=Kd.R_slice N0.out
   (first|subst D3|(injection D3 with d2 K2 e2;have L2:=d2.symm;have M2:=e2.symm;clear d2 K2 e2;subst L2;subst M2))
   refine norm_ (a':=?_) ?_ ?_
   rotate_left
   ·simp only [putAll,Act.put,sia_,scz_,scs_]
    rfl
   refine one_ (i:=19) (N:=none) #[true,true,true,true,true,true,true,true,true,true,true,true,true,true,true,true,true,true,true,true] rfl rfl (one_of HT_.out (by kernel_rfl)) (by decide) (fun K hK=>?_)
   have m6:g5.cell? ⟨h0,0,none⟩=some (.int .i64 0):=bc_ t0 0
   have J5:=blk_frozen t0.out 0
   have N3:=m0.out
   have O3:=n0.out
   have P3:=r0.out
   have Q3:=o0.out
   have R3:=p0.out
   have U3:=q0.out
   have o6:g5.cell? ⟨h0,1,none⟩=some (.int .i64 0):=bc_ t0 1
   have K5:=blk_frozen t0.out 1
   have V3:=m0.out
   have W3:=n0.out
   have X3:=r0.out
   have Y3:=o0.out
   have Z3:=p0.out
   have a4:=q0.out
   have q6:g5.cell? ⟨h0,2,none⟩=some (.slice none 0 0):=bc_ t0 2
   have L5:=blk_frozen t0.out 2
   have b4:=m0.out
   have d4:=n0.out
   have e4:=r0.out
   have g4:=o0.out
   have h4:=p0.out
   have j4:=q0.out
   refine skip_ (w1:=?_) (by rfl) rfl ?_ ?_
   rotate_left
   ·go_simp
    rfl
   refine hK.out _ _ ⟨(cf_ m0 hHeld.1),(cf_ m0 hHeld.2.1),(cf_ m0 hHeld.2.2.1),(cf_ n0 hHeld.2.2.2.1),(cf_ n0 hHeld.2.2.2.2.1),(cf_ n0 hHeld.2.2.2.2.2)⟩ (fun hHeld=>?_)
   clear hK K
   refine done_ (done_of HT_.out (by kernel_rfl)) ?_
   obtain⟨M5,N5⟩:=ns_ o0
   obtain⟨O5,P5⟩:=ns_ p0
   obtain⟨Q5,R5⟩:=ns_ q0
   obtain⟨l4,m4,o4,q4,s4,t4⟩:=b3_ t0
   by_cases v4:Y4=true
   ·subst v4
    rw [if_pos rfl] at H
    simp only [Option.some.injEq,Prod.mk.injEq] at H
    obtain⟨rfl,rfl,rfl,rfl⟩:=H
    try go_wp2_with (first|((with_reducible refine gc_ 46 rfl ?_);refine gx_ 43 Tryz.func46 #[.agg #[.int .i64 F0,.int .i64 G0,.slice C2 y1.length m2]] (spec_LogOk.calls q5 F0 G0 _ _ y1 true _ ?side1 ?side2 G5.out) ?_;(case side1=>refine(Kd.R_reads' (e:=105) (base:=w.heap.size) (ok:=fun k_=>(some k_≠(O0:Value).ownBlock∧k_≠e0)) (n:=y1.length) (c:=m2) ?_).2.2;exact(rg_ N0 t0));(case side2=>exact(Kd.R_reads' N0.out).2.1);rintro H6 hb;replace s0:=mk_ (Kd.R_below (rg_ s0 t0) hb);replace N0:=mk_ (Kd.R_below (rg_ N0 t0) hb);replace a0:=bq_ a0 hb;replace b0:=bq_ b0 hb;replace d0:=bq_ d0 hb;replace t0:=bU_ t0 #[.int .i64 F0,.int .i64 G0,.slice C2 y1.length m2] hb;replace HB:=bs_ HB hb;(try clear hb);(try clear hk);obtain⟨w4,x4,y4,A4,C4,D4⟩:=b3_ t0;obtain⟨U5,V5⟩:=ns_ A1;obtain⟨W5,X5⟩:=ns_ C1;obtain⟨F4,G4,H4,I4,J4,K4⟩:=b3_ d0))
    refine bodyPost_ret (results_ct rfl _ _ B0 28 #[.int .i64 F0,.int .i64 G0,.slice C2 y1.length m2] (0,0) _ rfl bu_ Tryz.underlying28 rfl (by kernel_rfl)) rfl ?_
    exact⟨_,by first|rfl|(simp [errW_none,errW_some] <;> rfl)|(simp only [←a2];first|rfl|(simp [errW_none,errW_some] <;> rfl))|(simp [*,errW_none,errW_some] <;> rfl),rq_ (Kd.R_mono (Kd.R_far (p:=⟨B0,2,none⟩) (Kd.R_far (p:=⟨B0,1,none⟩) (Kd.R_far (p:=⟨B0,0,none⟩) (Kd.R_types N0.out d0.out (by decide)) (fun _ hk=>hk.2) (.int .i64 F0)) (fun _ hk=>hk.2) (.int .i64 G0)) (fun _ hk=>hk.2) (.slice C2 y1.length m2)) (fun _ hk=>trivial)),bw_ HB⟩
   replace v4:=Bool.eq_false_iff.mpr v4
   subst v4
   rw [if_neg (show ¬(false=true) by decide)] at H
   simp only [Option.some.injEq,Prod.mk.injEq] at H
   obtain⟨rfl,rfl,rfl,rfl⟩:=H
   try go_wp2_with (first|((with_reducible refine gc_ 46 rfl ?_);refine gx_ 43 Tryz.func46 #[.agg #[.int .i64 F0,.int .i64 G0,.slice C2 y1.length m2]] (spec_LogOk.calls q5 F0 G0 _ _ y1 false _ ?side1 ?side2 G5.out) ?_;(case side1=>refine(Kd.R_reads' (e:=105) (base:=w.heap.size) (ok:=fun k_=>(some k_≠(O0:Value).ownBlock∧k_≠e0)) (n:=y1.length) (c:=m2) ?_).2.2;exact(rg_ N0 t0));(case side2=>exact(Kd.R_reads' N0.out).2.1);rintro I6 hb;replace s0:=mk_ (Kd.R_below (rg_ s0 t0) hb);replace N0:=mk_ (Kd.R_below (rg_ N0 t0) hb);replace a0:=bq_ a0 hb;replace b0:=bq_ b0 hb;replace d0:=bq_ d0 hb;replace t0:=bU_ t0 #[.int .i64 F0,.int .i64 G0,.slice C2 y1.length m2] hb;replace HB:=bs_ HB hb;(try clear hb);(try clear hk);obtain⟨Y5,Z5⟩:=ns_ A1;obtain⟨a6,b6⟩:=ns_ C1;obtain⟨L4,M4,N4,O4,P4,Q4⟩:=b3_ d0))
   refine bodyPost_ret (results_ct rfl _ _ B0 28 #[.int .i64 0,.int .i64 0,.slice none 0 0] (0,0) _ rfl bu_ Tryz.underlying28 rfl (by kernel_rfl)) rfl ?_
   exact⟨_,by first|rfl|(simp [errW_none,errW_some] <;> rfl)|(simp only [←a2];first|rfl|(simp [errW_none,errW_some] <;> rfl))|(simp [*,errW_none,errW_some] <;> rfl),by first|exact Kd.R_nil _ _ _ _ _|exact Kd.N_nil _ _ _ _ _|exact Kd.V_nil _ _ _ _ _|exact Kd.Q_nil _ _ _ _ _|exact Kd.S_nil _ _ _ _ _,bw_ HB⟩
end Go.Proofs.YtolakamimfhcjaaGreatDoor.QFnExactOpenJournal
