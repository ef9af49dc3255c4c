/- Written by this session's own program: what the law's functions come to, and that the machine's calls do just that. -/
import Derived.Test.YtolakamimfhcjaaGreatDoorQFnExactOpenJournalx20
namespace Go.Proofs.YtolakamimfhcjaaGreatDoor.QFnExactOpenJournal
open Go.RowKit Go.Proofs.YtolakamimfhcjaaGreatDoorW.PrintWords Go.Proofs.YtolakamimfhcjaaGreatDoorW.PrintLast Go.Proofs.YtolakamimfhcjaaGreatDoorW.PrintMore
attribute [local go_sem] Go.Proofs.YtolakamimfhcjaaGreatDoor.Sem.string_geq Go.Proofs.YtolakamimfhcjaaGreatDoor.Sem.string_leq Go.Proofs.YtolakamimfhcjaaGreatDoor.Sem.string_gtr
attribute [local go_sem] max2_int min2_int max_two min_two max_three min_three max_four min_four
set_option linter.unusedVariables false
set_option linter.unusedSimpArgs false
set_option maxHeartbeats 8000000
set_option maxRecDepth 100000
mutual
def impl_OpenJournal.l0:Nat→Int→List (S49)→Int→Int→List (S49)→Option (Int × Int × Int × Int × Int × (List (S105)) × (List (S57)) × Bool)
 |0,_,_,_,_,_=>none
 |k+1,x5,d0,h0,b0,a0=>if b0<h0 then(if 0≤b0 then(if b0<(d0.length:Int) then((impl_numberOf.f ((rd_T49 d0 b0).f0) (⟨#[106]⟩:ByteArray) 999).bind fun e0=>(impl_OpenJournal.l0 k (mx x5 e0) d0 h0 (wrap64 (b0+1)) a0)) else(none)) else(none)) else((impl_DiskOk.f k a0).bind fun g0=>(if g0=true then(impl_OpenJournal.j1 k x5 (decide (x5<0)) a0) else(impl_OpenJournal.j1 k x5 true a0)))
def impl_OpenJournal.j1:Nat→Int→Bool→List (S49)→Option (Int × Int × Int × Int × Int × (List (S105)) × (List (S57)) × Bool)
 |0,_,_,_=>none
 |k+1,x5,g0,b0=>if g0=true then(some (0,0,0,0,0,([]:List (S105)),([]:List (S57)),false)) else((impl_JournalName.f x5).bind fun e0=>((impl_FileAt.f b0 e0).bind fun d0=>((impl_ReadJournal.f k x5 d0.1).bind fun a0=>(if a0.2.2.2.2.2.2.2=true then(impl_OpenJournal.l1 k x5 d0.1 a0.2.2.2.2.2.2.1 ([]:List (S57)) b0 (b0.length:Int) 0 a0.1 a0.2.1 a0.2.2.1 a0.2.2.2.1 a0.2.2.2.2.1 a0.2.2.2.2.2.1) else(some (0,0,0,0,0,([]:List (S105)),([]:List (S57)),false))))))
def impl_OpenJournal.l1:Nat→Int→ByteArray→Int→List (S57)→List (S49)→Int→Int→Int→Int→Int→Int→Int→List (S105)→Option (Int × Int × Int × Int × Int × (List (S105)) × (List (S57)) × Bool)
 |0,_,_,_,_,_,_,_,_,_,_,_,_,_=>none
 |k+1,x5,x8,q0,o0,p0,r0,n0,a0,b0,d0,e0,g0,h0=>if n0<r0 then(if 0≤n0 then(if n0<(p0.length:Int) then((impl_numberOf.f ((rd_T49 p0 n0).f0) (⟨#[106]⟩:ByteArray) 999).bind fun s0=>(if((rd_T49 p0 n0).f0).toList=([106,43]:List UInt8) then(if o0.length<2513169434916 then(impl_OpenJournal.l1 k x5 x8 q0 (o0++ [(⟨4,(rd_T49 p0 n0).f0,(⟨#[]⟩:ByteArray),(⟨#[]⟩:ByteArray)⟩:S57)]) p0 r0 (wrap64 (n0+1)) a0 b0 d0 e0 g0 h0) else(none)) else(if s0≥0 then(if s0=x5 then(impl_OpenJournal.l1 k x5 x8 q0 o0 p0 r0 (wrap64 (n0+1)) a0 b0 d0 e0 g0 h0) else(if o0.length<2513169434916 then(impl_OpenJournal.l1 k x5 x8 q0 (o0++ [(⟨4,(rd_T49 p0 n0).f0,(⟨#[]⟩:ByteArray),(⟨#[]⟩:ByteArray)⟩:S57)]) p0 r0 (wrap64 (n0+1)) a0 b0 d0 e0 g0 h0) else(none))) else(impl_OpenJournal.l1 k x5 x8 q0 o0 p0 r0 (wrap64 (n0+1)) a0 b0 d0 e0 g0 h0)))) else(none)) else(none)) else(if q0=(x8.size:Int) then(some (a0,b0,d0,e0,g0,h0,o0,true)) else((impl_anew.f k x5 a0 b0 d0 e0 g0 h0).bind fun m0=>(if m0.2.2.2.2.2.2.2=true then(if o0.length+m0.1.length<2513169434916 then(some (m0.2.1,m0.2.2.1,m0.2.2.2.1,m0.2.2.2.2.1,m0.2.2.2.2.2.1,m0.2.2.2.2.2.2.1,(o0++m0.1),true)) else(none)) else(some (0,0,0,0,0,([]:List (S105)),([]:List (S57)),false)))))
end
def impl_OpenJournal.f (k:Nat) (a0:List (S49)):Option (Int × Int × Int × Int × Int × (List (S105)) × (List (S57)) × Bool):=impl_OpenJournal.l0 k (-1) a0 (a0.length:Int) 0 a0
def impl_OpenJournal.T9:Bool × List (List Nat × List Nat):=(true,[([],[]),([],[]),([1],[1]),([0,2,2],[0,2]),([3],[3]),([4],[4]),([4],[4]),([5,3,0,1,2,3,4,5],[5]),([6,7,0,1,2,3,4,5,6,7],[6])])
def impl_OpenJournal.B9:List Nat:=[0,0,2,7,15,31,31,63,255]
theorem impl_OpenJournal.tab9:rtab .any (opsOf Tryz.f7 9)=impl_OpenJournal.T9:=by kernel_rfl
theorem impl_OpenJournal.bits9:waitsOk impl_OpenJournal.T9.2 impl_OpenJournal.B9=true:=by kernel_rfl
theorem impl_OpenJournal.calls (k:Nat) (F1:Option Addr) (G1:Nat) (n0:List (S49)) (r1:Int) (r2:Int) (r3:Int) (r4:Int) (r5:Int) (r6:List (S105)) (r7:List (S57)) (r8:Bool) (w:World) (hT:Tab2 w) (y2:Kd.C k49 w F1 n0.length n0) (A2:n0.length≤G1) (h:impl_OpenJournal.f k n0=some (r1,r2,r3,r4,r5,r6,r7,r8)):
  Calls Tryz.prog 7 #[.agg #[.slice F1 n0.length G1]] w fun e w'=>∃uA vA:Value,e= .returned (.tuple #[.agg #[.int .i64 r1,.int .i64 r2,.int .i64 r3,.int .i64 r4,.int .i64 r5,uA],vA,.bool r8])∧Kd.R k105 105 w' w.heap.size (fun _=>True) uA r6∧Kd.R k57 57 w' w.heap.size (fun _=>True) vA r7∧Below w.heap.size w w':=by
 have fC:=Tryz.underlying36
 have gC:=Tryz.underlying30
 have hC:=Tryz.underlying49
 have iC:=Tryz.underlying57
 have x1:=Aside0.mk y2
 have Z1:=Aside0.mk A2
 clear y2 A2
 have HT:=Aside0.mk hT
 clear hT
 have HB:=mk_ (Below.refl w.heap.size w)
 have H:=h
 unfold impl_OpenJournal.f at H
 clear h
 have H':=Aside0.mk H
 clear H
 go_enter Tryz.func7,Tryz.ntmps7
 go_wp2_with (first|((with_reducible refine gn_ 1 rfl ?_);refine bv_ (cs:=#[.slice F1 n0.length G1]) (t:=36) HB ?_;clear HB;intro K1 w2 d0 wA HB)|((with_reducible refine gn_ 2 rfl ?_);refine bn_ (cs:=#[.int .i64 0,.int .i64 0,.int .i64 0,.int .i64 0,.int .i64 0,.slice none 0 0]) (t:=30) HB ?_;intro o0 w3 hg hb b0 xA hB_;have v0:=bl_ d0 hg;have x0:=bg_ d0 hg;replace d0:=bb_ d0 hb;replace HB:=hB_;clear hb hB_ hg;obtain⟨jC,kC⟩:=ns_ v0;obtain⟨F9,G9⟩:=b1_ d0))
 go_loopg [5,22] k (fun kq v5 lC w'=>∃(Z0:Int) (W0:Int),v5= .int .i64 Z0∧lC= .int .i64 W0∧Aside0 (impl_OpenJournal.l0 kq Z0 n0 (n0.length:Int) W0 n0=some (r1,r2,r3,r4,r5,r6,r7,r8))∧Aside0 (kq≤k)∧Aside0 (w'.heap[K1]? =some (.cells #[(.slice F1 n0.length G1)] 36 (0,0)))∧Aside0 (w'.heap[o0]? =some (.cells #[.int .i64 0,.int .i64 0,.int .i64 0,.int .i64 0,.int .i64 0,(.slice none 0 0)] 30 (0,0)))∧Aside0 (Below w.heap.size w w'))
 case atStart=>exact⟨((-1)),(0),rl_,rl_,H',⟨Nat.le_refl _⟩,⟨bf_⟩,⟨bf_⟩,⟨bw_ HB⟩⟩
 case round=>
  clear H'
  try clear p2
  obtain⟨Z0,W0,rfl,rfl,HA,Y1,d0,b0,HB⟩:=hrel
  cases gk with
  |zero=>exact absurd HA.out (by simp [impl_OpenJournal.l0])
  |succ k1=>
   have H:=HA.out
   clear HA
   simp only [impl_OpenJournal.l0] at H
   by_cases c6:W0<(n0.length:Int)
   ·rw [if_pos c6] at H
    have H9:=decide_eq_true c6
    clear c6
    obtain⟨c7,H⟩:=gd_ H
    have mC:=decide_eq_true c7
    clear c7
    obtain⟨c8,H⟩:=gd_ H
    have nC:=decide_eq_true c8
    clear c8
    obtain⟨t2,A9,H⟩:=ob_ H
    try dsimp only at H
    obtain⟨Z2,L1⟩:∃j_:Int,(mx Z0 t2)=j_:=⟨_,rfl⟩
    (first|rw [L1] at H|simp only [L1] at H)
    (try rw [L1] at A9)
    have I9:(if Z0<t2 then t2 else Z0)=Z2:=L1
    have H':=Aside0.mk H
    clear H
    have a2:0≤(W0:Int):=od_
    have b2:W0<(n0.length:Int):=od_
    obtain⟨yA,J9,A1,C1,D1⟩:=at_T49 x1.out W0 a2 b2
    cases J9
    replace A1:=hc_ HB A1
    replace C1:=hc_ HB C1
    replace D1:=hc_ HB D1
    replace a2:=eq_true a2
    replace b2:=eq_true b2
    go_wp2_with (first|((with_reducible refine gn_ 7 rfl ?_);refine bn_ (cs:=#[.string (⟨#[]⟩:ByteArray),.string (⟨#[]⟩:ByteArray),.int .i64 0]) (t:=49) HB ?_;intro zA HC hg hb d2 AA hB_;have L2:=bl_ d0 hg;have O1:=bg_ d0 hg;have M2:=bl_ b0 hg;have P1:=bg_ b0 hg;replace d0:=bb_ d0 hb;replace b0:=bb_ b0 hb;replace HB:=hB_;clear hb hB_ hg;obtain⟨BA,CA⟩:=ns_ O1;obtain⟨DA,EA⟩:=ns_ P1;obtain⟨d6,e6,g6,h6,j6,l6⟩:=b3_ d2)|((with_reducible refine gc_ 26 rfl ?_);refine gm_ 29 Tryz.func26 (impl_numberOf.calls ((rd_T49 n0 W0).f0) (⟨#[106]⟩:ByteArray) 999 t2 _ (tab22 HT HB) A9.out) ?_;rintro IC hb;replace d0:=bq_ d0 hb;replace b0:=bq_ b0 hb;replace d2:=bU_ d2 #[.string ((rd_T49 n0 W0).f0),.string ((rd_T49 n0 W0).f1),.int .i64 ((rd_T49 n0 W0).f2)] hb;replace HB:=bs_ HB hb;(try clear hb)))
    go_roundg k1
    case measure=>have:=Y1.out;omega
    case rel=>exact⟨(Z2),(wrap64 (W0+1)),(by first|rfl|(simp;done)|(simp only [←L1] <;> (first|rfl|simp))|(simp [*];done)),rl_,H',⟨by have:=Y1.out;omega⟩,⟨bf_⟩,⟨bf_⟩,⟨bw_ HB⟩⟩
   rw [if_neg c6] at H
   have H9:=decide_eq_false c6
   clear c6
   have D2:=Aside0.mk H
   clear H
   go_upto_region 7 with (fail)
   go_cut [38] (fun oC wc=>∃(kq:Nat) (J1:Bool),oC= .bool J1∧Aside0 (impl_OpenJournal.j1 kq Z0 J1 n0=some (r1,r2,r3,r4,r5,r6,r7,r8))∧Aside0 (kq≤k1)∧Aside0 (wc.heap[K1]? =some (.cells #[(.slice F1 n0.length G1)] 36 (0,0)))∧Aside0 (wc.heap[o0]? =some (.cells #[.int .i64 0,.int .i64 0,.int .i64 0,.int .i64 0,.int .i64 0,(.slice none 0 0)] 30 (0,0)))∧Aside0 (Below w.heap.size w wc))
   case first=>
    have H:=D2.out
    clear D2
    obtain⟨K9,FA,H⟩:=ob_ H
    try dsimp only at H
    by_cases m6:K9=true
    ·subst m6
     rw [if_pos rfl] at H
     have H':=Aside0.mk H
     clear H
     obtain⟨GA,IA⟩:=ns_ v0
     obtain⟨o6,s6⟩:=b1_ d0
     go_wp2_with (first|((with_reducible refine gc_ 27 rfl ?_);refine gx_ 33 Tryz.func27 #[.agg #[.slice F1 n0.length G1]] (impl_DiskOk.calls k1 _ _ n0 true _ ?side1 ?side2 FA.out) ?_;(case side1=>repeat(first|exact(Kd.C_below x1.out HB.out)|(with_reducible refine Kd.C_alloc ?_ _)|(with_reducible refine Kd.C_drewN ?_ _)|(with_reducible refine Kd.C_drew ?_)));(case side2=>exact Z1.out);rintro JC hb;replace d0:=bb_ d0 hb;replace b0:=bb_ b0 hb;replace HB:=bs_ HB hb;(try clear hb)))
     go_meet
     case rel=>exact⟨_,(decide (Z0<0)),rl_,H',⟨by have:=Y1.out;first|omega|exact Nat.le_refl _⟩,⟨bf_⟩,⟨bf_⟩,⟨bw_ HB⟩⟩
    replace m6:=Bool.eq_false_iff.mpr m6
    subst m6
    rw [if_neg (show ¬(false=true) by decide)] at H
    have H':=Aside0.mk H
    clear H
    obtain⟨JA,KA⟩:=ns_ v0
    obtain⟨t6,v6⟩:=b1_ d0
    go_wp2_with (first|((with_reducible refine gc_ 27 rfl ?_);refine gx_ 33 Tryz.func27 #[.agg #[.slice F1 n0.length G1]] (impl_DiskOk.calls k1 _ _ n0 false _ ?side1 ?side2 FA.out) ?_;(case side1=>repeat(first|exact(Kd.C_below x1.out HB.out)|(with_reducible refine Kd.C_alloc ?_ _)|(with_reducible refine Kd.C_drewN ?_ _)|(with_reducible refine Kd.C_drew ?_)));(case side2=>exact Z1.out);rintro KC hb;replace d0:=bb_ d0 hb;replace b0:=bb_ b0 hb;replace HB:=bs_ HB hb;(try clear hb)))
    go_meet
    case rel=>exact⟨_,(true),rl_,H',⟨by have:=Y1.out;first|omega|exact Nat.le_refl _⟩,⟨bf_⟩,⟨bf_⟩,⟨bw_ HB⟩⟩
   case rest=>
    clear D2
    (try clear p2);(try clear p6);(try clear q6);(try clear pC);(try clear A1);(try clear C1);(try clear D1);(try clear p2);(try clear a2);(try clear b2)
    obtain⟨kq,J1,rfl,HA,M1,d0,b0,HB⟩:=hcut
    cases kq with
    |zero=>exact absurd HA.out (by simp [impl_OpenJournal.j1])
    |succ v2=>
     have H:=HA.out
     clear HA
     simp only [impl_OpenJournal.j1] at H
     by_cases w6:J1=true
     ·subst w6
      rw [if_pos rfl] at H
      simp only [Option.some.injEq,Prod.mk.injEq] at H
      obtain⟨rfl,rfl,rfl,rfl,rfl,rfl,rfl,rfl⟩:=H
      obtain⟨LA,MA⟩:=ns_ x0
      obtain⟨x6,y6,A6,C6,D6,F6,G6,H6,I6,J6,K6,L6⟩:=b6_ b0
      go_wp2
      refine bodyPost_ret (results_ctt rfl _ _ o0 30 #[.int .i64 0,.int .i64 0,.int .i64 0,.int .i64 0,.int .i64 0,.slice none 0 0] (0,0) _ rfl bu_ Tryz.underlying30 rfl (by kernel_rfl)) rfl ?_
      exact⟨_,_,er_,by first|exact Kd.R_nil _ _ _ _ _|exact Kd.N_nil _ _ _ _ _|exact Kd.V_nil _ _ _ _ _|exact Kd.Q_nil _ _ _ _ _|exact Kd.S_nil _ _ _ _ _,by first|exact Kd.R_nil _ _ _ _ _|exact Kd.N_nil _ _ _ _ _|exact Kd.V_nil _ _ _ _ _|exact Kd.Q_nil _ _ _ _ _|exact Kd.S_nil _ _ _ _ _,bw_ HB⟩
     replace w6:=Bool.eq_false_iff.mpr w6
     subst w6
     rw [if_neg (show ¬(false=true) by decide)] at H
     obtain⟨F2,qC,H⟩:=ob_ H
     try dsimp only at H
     obtain⟨⟨e2,L9⟩,rC,H⟩:=ob_ H
     try dsimp only at H
     obtain⟨⟨e1,g1,m1,n1,o1,Y0,x2,M9⟩,NA,H⟩:=ob_ H
     try dsimp only at H
     try go_wp2
     replace d0:=kd_ d0;replace b0:=kd_ b0;replace HB:=wd_ HB
     refine start_ (n:=9) (S:=fun w'=>w'.cell? ⟨K1,0,none⟩=some (.slice F1 n0.length G1)) (ds:=[]) #[false,false,false,false,false,false,false,false,false] (by kernel_rfl) rfl rfl (bc_ d0 0) (fun hHeld=>?_);refine with_tabW impl_OpenJournal.tab9 impl_OpenJournal.bits9 (fun HT_ HW_=>?_)
     generalize wc.drew=LC at d0 b0 HB hHeld⊢
     refine pv_ 1 42 ?_
     refine take_ (i:=0) (N:=some 41) (v:=?_) (a':=?_) #[true,true,false,false,false,false,false,false,false] rfl rfl (take_ofW HT_.out HW_.out (by kernel_rfl)) (fun _ _ _ h=>h) (Or.inl ⟨by rfl,?_⟩) hHeld ?_ ?_
     rotate_left
     ·intro w' s0
      go_simp
      with_reducible rfl
     rotate_left
     ·simp only [Act.put,sia_,scz_,scs_,i64_w,i32_w]
      rfl
     refine on_ 2 43 (fun K hK=>?_)
     refine gs_ Tryz.func29 (impl_JournalName.calls Z0 F2 _ (tab21 HT HB) qC.out) ?_
     rintro MC hb
     replace d0:=bb_ d0 hb;replace b0:=bb_ b0 hb;replace HB:=bs_ HB hb;(try clear hb);(try clear sC);(try clear hk);(try clear hi)
     refine hK.out _ _ (bc_ d0 0) (fun hHeld=>?_)
     clear hK K
     refine norm_ (a':=?_) ?_ ?_
     rotate_left
     ·show Act.put _ (some 43) _=_
      simp only [Act.put,sia_,scz_,scs_,i64_w,i32_w]
      rfl
     refine on_ 3 44 (fun K hK=>?_)
     refine gt_ Tryz.func28 #[.agg #[.slice F1 n0.length G1],.string F2] (impl_FileAt.calls _ _ n0 F2 e2 L9 _ ?side1 ?side2 rC.out) ?_
     (case side1=>repeat(first|exact(Kd.C_below x1.out HB.out)|(with_reducible refine Kd.C_alloc ?_ _)|(with_reducible refine Kd.C_drewN ?_ _)|(with_reducible refine Kd.C_drew ?_)))
     (case side2=>exact Z1.out)
     rintro NC hb
     replace d0:=bb_ d0 hb;replace b0:=bb_ b0 hb;replace HB:=bs_ HB hb;(try clear hb);(try clear sC);(try clear hk);(try clear hi)
     refine hK.out _ _ (bc_ d0 0) (fun hHeld=>?_)
     clear hK K
     refine norm_ (a':=?_) ?_ ?_
     rotate_left
     ·show Act.put _ (some 44) _=_
      simp only [Act.put,sia_,scz_,scs_,i64_w,i32_w]
      rfl
     refine pv_ 4 40 ?_
     refine pv_ 5 45 ?_
     refine pv_ 6 46 ?_
     refine pv_ 7 8 ?_
     refine pv_ 8 9 ?_
     refine done_ (done_of HT_.out (by kernel_rfl)) ?_
     by_cases M6:M9=true
     rotate_left
     ·replace M6:=Bool.eq_false_iff.mpr M6
      subst M6
      rw [if_neg (show ¬(false=true) by decide)] at H
      simp only [Option.some.injEq,Prod.mk.injEq] at H
      obtain⟨rfl,rfl,rfl,rfl,rfl,rfl,rfl,rfl⟩:=H
      try go_wp2_with (first|((with_reducible refine gc_ 30 rfl ?_);refine gv_ 50 Tryz.func30 (impl_ReadJournal.calls v2 Z0 e2 e1 g1 m1 n1 o1 Y0 x2 false _ NA.out) ?_;rintro N9 tC ⟨Q1,hb⟩;have y1:=mk_ (Kd.R_lower Q1 (below_size (bw_ HB)));replace d0:=bb_ d0 hb;replace b0:=bb_ b0 hb;replace HB:=bs_ HB hb;(try clear hb);(try clear Q1))|((with_reducible refine gn_ 10 rfl ?_);refine bn_ (cs:=#[.int .i64 0,.int .i64 0,.int .i64 0,.int .i64 0,.int .i64 0,.slice none 0 0]) (t:=30) HB ?_;intro d1 uC hg hb g0 a3 hB_;have R1:=bl_ d0 hg;have O0:=bg_ d0 hg;have G0:=bl_ b0 hg;have r0:=bg_ b0 hg;replace y1:=rb_ y1 hb;replace d0:=bb_ d0 hb;replace b0:=bb_ b0 hb;replace HB:=hB_;clear hb hB_ hg;obtain⟨O9,P9⟩:=ns_ O0;obtain⟨Q9,R9⟩:=ns_ r0;obtain⟨b3,d3,e3,g3,h3,j3,l3,m3,n3,o3,q3,s3⟩:=b6_ g0;obtain⟨OA,PA,t3⟩:=Kd.R_slice y1.out;subst t3;obtain⟨U9,V9⟩:=ns_ x0;obtain⟨v3,x3,y3,A3,C3,D3,F3,G3,H3,I3,J3,K3⟩:=b6_ b0))
      refine bodyPost_ret (results_ctt rfl _ _ o0 30 #[.int .i64 0,.int .i64 0,.int .i64 0,.int .i64 0,.int .i64 0,.slice none 0 0] (0,0) _ rfl bu_ Tryz.underlying30 rfl (by kernel_rfl)) rfl ?_
      exact⟨_,_,er_,by first|exact Kd.R_nil _ _ _ _ _|exact Kd.N_nil _ _ _ _ _|exact Kd.V_nil _ _ _ _ _|exact Kd.Q_nil _ _ _ _ _|exact Kd.S_nil _ _ _ _ _,by first|exact Kd.R_nil _ _ _ _ _|exact Kd.N_nil _ _ _ _ _|exact Kd.V_nil _ _ _ _ _|exact Kd.Q_nil _ _ _ _ _|exact Kd.S_nil _ _ _ _ _,bw_ HB⟩
     subst M6
     rw [if_pos rfl] at H
     have H':=Aside0.mk H
     clear H
     try go_wp2_with (first|((with_reducible refine gc_ 30 rfl ?_);refine gv_ 50 Tryz.func30 (impl_ReadJournal.calls v2 Z0 e2 e1 g1 m1 n1 o1 Y0 x2 true _ NA.out) ?_;rintro N9 OC ⟨Q1,hb⟩;have y1:=mk_ (Kd.R_lower Q1 (below_size (bw_ HB)));replace d0:=bb_ d0 hb;replace b0:=bb_ b0 hb;replace HB:=bs_ HB hb;(try clear hb);(try clear Q1))|((with_reducible refine gn_ 10 rfl ?_);refine bn_ (cs:=#[.int .i64 0,.int .i64 0,.int .i64 0,.int .i64 0,.int .i64 0,.slice none 0 0]) (t:=30) HB ?_;intro d1 PC hg hb g0 a3 hB_;have R1:=bl_ d0 hg;have O0:=bg_ d0 hg;have G0:=bl_ b0 hg;have r0:=bg_ b0 hg;replace y1:=rb_ y1 hb;replace d0:=bb_ d0 hb;replace b0:=bb_ b0 hb;replace HB:=hB_;clear hb hB_ hg;obtain⟨QA,RA⟩:=ns_ O0;obtain⟨SA,TA⟩:=ns_ r0;obtain⟨N6,O6,P6,Q6,R6,U6,V6,W6,X6,Y6,Z6,a7⟩:=b6_ g0;obtain⟨H1,I1,W9⟩:=Kd.R_slice y1.out;subst W9;obtain⟨UA,VA⟩:=ns_ v0;obtain⟨b7,d7⟩:=b1_ d0))
     go_loopg [13,60] v2 (fun kq vC wC w'=>∃(X0:List (S57)) (m0:Int),wC= .int .i64 m0∧Aside0 (impl_OpenJournal.l1 kq Z0 e2 x2 X0 n0 (n0.length:Int) m0 e1 g1 m1 n1 o1 Y0=some (r1,r2,r3,r4,r5,r6,r7,r8))∧Aside0 (kq≤v2)∧Aside0 (Kd.R k57 57 w' w.heap.size (fun _=>True) vC X0)∧Aside0 (Kd.R k105 105 w' w.heap.size (fun _=>True) (.slice H1 Y0.length I1) Y0)∧Aside0 (w'.heap[K1]? =some (.cells #[(.slice F1 n0.length G1)] 36 (0,0)))∧Aside0 (w'.heap[o0]? =some (.cells #[.int .i64 0,.int .i64 0,.int .i64 0,.int .i64 0,.int .i64 0,(.slice none 0 0)] 30 (0,0)))∧Aside0 (w'.heap[d1]? =some (.cells #[.int .i64 e1,.int .i64 g1,.int .i64 m1,.int .i64 n1,.int .i64 o1,(.slice H1 Y0.length I1)] 30 (0,0)))∧Aside0 (Below w.heap.size w w'))
     case atStart=>exact⟨(([]:List (S57))),(0),rl_,H',⟨Nat.le_refl _⟩,⟨by first|exact Kd.R_nil _ _ _ _ _|exact Kd.N_nil _ _ _ _ _|exact Kd.V_nil _ _ _ _ _|exact Kd.Q_nil _ _ _ _ _|exact Kd.S_nil _ _ _ _ _⟩,⟨rq_ (Kd.R_mono (Kd.R_far (p:=⟨d1,5,none⟩) (Kd.R_far (p:=⟨d1,4,none⟩) (Kd.R_far (p:=⟨d1,3,none⟩) (Kd.R_far (p:=⟨d1,2,none⟩) (Kd.R_far (p:=⟨d1,1,none⟩) (Kd.R_far (p:=⟨d1,0,none⟩) (Kd.R_types y1.out g0.out (by decide)) (fun _ hk=>hk.2) (.int .i64 e1)) (fun _ hk=>hk.2) (.int .i64 g1)) (fun _ hk=>hk.2) (.int .i64 m1)) (fun _ hk=>hk.2) (.int .i64 n1)) (fun _ hk=>hk.2) (.int .i64 o1)) (fun _ hk=>hk.2) (.slice H1 Y0.length I1)) (fun _ hk=>trivial))⟩,⟨bf_⟩,⟨bf_⟩,⟨bu_⟩,⟨bw_ HB⟩⟩
     case round=>
      clear H'
      (try clear p2);(try clear p6);(try clear q6);(try clear pC);(try clear A1);(try clear C1);(try clear D1);(try clear p2);(try clear p6);(try clear a2);(try clear q6);(try clear b2)
      obtain⟨X0,m0,rfl,HA,B2,h0,a0,d0,b0,g0,HB⟩:=hrel
      cases gk with
      |zero=>exact absurd HA.out (by simp [impl_OpenJournal.l1])
      |succ k3=>
       have H:=HA.out
       clear HA
       simp only [impl_OpenJournal.l1] at H
       by_cases N2:m0<(n0.length:Int)
       ·rw [if_pos N2] at H
        have L3:=decide_eq_true N2
        clear N2
        obtain⟨WA,H⟩:=gd_ H
        have XA:=decide_eq_true WA
        clear WA
        obtain⟨YA,H⟩:=gd_ H
        have ZA:=decide_eq_true YA
        clear YA
        obtain⟨g2,e7,H⟩:=ob_ H
        try dsimp only at H
        by_cases G2:((rd_T49 n0 m0).f0).toList=([106,43]:List UInt8)
        ·rw [if_pos G2] at H
         have M3:=beq_iff_eq.mpr G2
         have N3:=bne_eq_false_iff_eq.mpr G2
         clear G2
         obtain⟨bB,H⟩:=gd_ H
         have O3:=Aside0.mk bB
         clear bB
         obtain⟨X9,h2⟩:∃y_:List (S57),y_=(X0++ [(⟨4,(rd_T49 n0 m0).f0,(⟨#[]⟩:ByteArray),(⟨#[]⟩:ByteArray)⟩:S57)]):=⟨_,rfl⟩
         rw [←h2] at H
         have P3:=Aside0.mk h2
         clear h2
         have H':=Aside0.mk H
         clear H
         have a1:0≤(m0:Int):=od_
         have b1:m0<(n0.length:Int):=od_
         obtain⟨l2,N1,B0,C0,F0⟩:=at_T49 x1.out m0 a1 b1
         cases N1
         replace B0:=hc_ HB B0
         replace C0:=hc_ HB C0
         replace F0:=hc_ HB F0
         replace a1:=eq_true a1
         replace b1:=eq_true b1
         go_wp2_with (first|((with_reducible refine gn_ 15 rfl ?_);refine bn_ (cs:=#[.string (⟨#[]⟩:ByteArray),.string (⟨#[]⟩:ByteArray),.int .i64 0]) (t:=49) HB ?_;intro m2 QC hg hb q0 n2 hB_;have p1:=bl_ d0 hg;have H0:=bg_ d0 hg;have q1:=bl_ b0 hg;have I0:=bg_ b0 hg;have s1:=bl_ g0 hg;have J0:=bg_ g0 hg;replace h0:=rb_ h0 hb;replace a0:=rb_ a0 hb;replace d0:=bb_ d0 hb;replace b0:=bb_ b0 hb;replace g0:=bb_ g0 hb;replace HB:=hB_;clear hb hB_ hg;obtain⟨cB,dB⟩:=ns_ H0;obtain⟨eB,fB⟩:=ns_ I0;obtain⟨gB,hB⟩:=ns_ J0;obtain⟨g7,h7,j7,l7,m7,o7⟩:=b3_ q0)|((with_reducible refine gc_ 26 rfl ?_);refine gm_ 66 Tryz.func26 (impl_numberOf.calls ((rd_T49 n0 m0).f0) (⟨#[106]⟩:ByteArray) 999 g2 _ (tab22 HT HB) e7.out) ?_;rintro RC hb;replace h0:=mk_ (Kd.R_below (rg_ h0 q0) hb);replace a0:=mk_ (Kd.R_below (rg_ a0 q0) hb);replace d0:=bq_ d0 hb;replace b0:=bq_ b0 hb;replace g0:=bq_ g0 hb;replace q0:=bU_ q0 #[.string ((rd_T49 n0 m0).f0),.string ((rd_T49 n0 m0).f1),.int .i64 ((rd_T49 n0 m0).f2)] hb;replace HB:=bs_ HB hb;(try clear hb);(try clear hk);obtain⟨p7,q7,s7,t7,v7,w7⟩:=b3_ q0)|((with_reducible refine gate_builtin (b:= .append) (xs:=#[.tmp 79,.tmp 83]) rfl ?_);at_builtin;refine Kd.R_append k57 (w0:=w) w.heap.size rfl (.tmp 79) (.tmp 83) 31 57 (.agg #[(.int .i64 0),(.string ⟨#[]⟩),(.string ⟨#[]⟩),(.string ⟨#[]⟩)]) 56 rfl Tryz.underlying31 info57 rfl (by decide) (by omega) u13 X0 (⟨4,(rd_T49 n0 m0).f0,(⟨#[]⟩:ByteArray),(⟨#[]⟩:ByteArray)⟩:S57) [.int .i64 4,.string ((rd_T49 n0 m0).f0),.string (⟨#[]⟩:ByteArray),.string (⟨#[]⟩:ByteArray)] (fun _=>True) (fun _=>False) rfl rfl ?aP (fun _ hk=>hk.elim) ?aF ?aO ?aB ?aS ?aL ?_;(case aP=>exact k57_mkM _ _ _ (⟨4,(rd_T49 n0 m0).f0,(⟨#[]⟩:ByteArray),(⟨#[]⟩:ByteArray)⟩:S57));(case aB=>exact(bw_ HB));(case aF=>exact(fun _ _=>trivial));(case aO=>exact(rp_ h0));(case aS=>exact(below_size (bw_ HB)));(case aL=>have:=O3.out;omega);intro xC SC ho hb hg hat;rw [←P3.out] at ho;have Q3:=mk_ (ho);replace a0:=mk_ (Kd.R_over' (rp_ a0) (Kd.R_typed (rp_ h0)) (by decide) hg);replace d0:=bgr_ d0 hg (Kd.R_ne h0.out d0.out (by decide));replace b0:=bgr_ b0 hg (Kd.R_ne h0.out b0.out (by decide));replace g0:=bgr_ g0 hg (Kd.R_ne h0.out g0.out (by decide));replace q0:=bgr_ q0 hg (Kd.R_ne h0.out q0.out (by decide));replace HB:=mk_ (hb);clear h0;clear ho hb hg hat))
         go_roundg k3
         case measure=>have:=Y1.out;have:=M1.out;have:=B2.out;omega
         case rel=>exact⟨(X9),(wrap64 (m0+1)),rl_,H',⟨by have:=Y1.out;have:=M1.out;have:=B2.out;omega⟩,⟨rq_ Q3.out⟩,⟨rq_ a0.out⟩,⟨bf_⟩,⟨bf_⟩,⟨bf_⟩,⟨bw_ HB⟩⟩
        rw [if_neg G2] at H
        have M3:=beq_eq_false_iff_ne.mpr G2
        have N3:=bne_iff_ne.mpr G2
        refine ih_ H ?_ ?_ <;> clear H <;> intro iB H
        ·have H':=Aside0.mk H
         clear H
         have a1:0≤(m0:Int):=od_
         have b1:m0<(n0.length:Int):=od_
         obtain⟨l2,N1,B0,C0,F0⟩:=at_T49 x1.out m0 a1 b1
         cases N1
         replace B0:=hc_ HB B0
         replace C0:=hc_ HB C0
         replace F0:=hc_ HB F0
         replace a1:=eq_true a1
         replace b1:=eq_true b1
         go_wp2_with (first|((with_reducible refine gn_ 15 rfl ?_);refine bn_ (cs:=#[.string (⟨#[]⟩:ByteArray),.string (⟨#[]⟩:ByteArray),.int .i64 0]) (t:=49) HB ?_;intro m2 TC hg hb q0 n2 hB_;have p1:=bl_ d0 hg;have H0:=bg_ d0 hg;have q1:=bl_ b0 hg;have I0:=bg_ b0 hg;have s1:=bl_ g0 hg;have J0:=bg_ g0 hg;replace h0:=rb_ h0 hb;replace a0:=rb_ a0 hb;replace d0:=bb_ d0 hb;replace b0:=bb_ b0 hb;replace g0:=bb_ g0 hb;replace HB:=hB_;clear hb hB_ hg;obtain⟨jB,kB⟩:=ns_ H0;obtain⟨lB,mB⟩:=ns_ I0;obtain⟨nB,oB⟩:=ns_ J0;obtain⟨x7,y7,A7,C7,D7,F7⟩:=b3_ q0)|((with_reducible refine gc_ 26 rfl ?_);refine gm_ 66 Tryz.func26 (impl_numberOf.calls ((rd_T49 n0 m0).f0) (⟨#[106]⟩:ByteArray) 999 g2 _ (tab22 HT HB) e7.out) ?_;rintro UC hb;replace h0:=mk_ (Kd.R_below (rg_ h0 q0) hb);replace a0:=mk_ (Kd.R_below (rg_ a0 q0) hb);replace d0:=bq_ d0 hb;replace b0:=bq_ b0 hb;replace g0:=bq_ g0 hb;replace q0:=bU_ q0 #[.string ((rd_T49 n0 m0).f0),.string ((rd_T49 n0 m0).f1),.int .i64 ((rd_T49 n0 m0).f2)] hb;replace HB:=bs_ HB hb;(try clear hb);(try clear hk);obtain⟨G7,H7,I7,J7,K7,M7⟩:=b3_ q0))
         go_roundg k3
         case measure=>have:=Y1.out;have:=M1.out;have:=B2.out;omega
         case rel=>exact⟨(X0),(wrap64 (m0+1)),rl_,H',⟨by have:=Y1.out;have:=M1.out;have:=B2.out;omega⟩,⟨rq_ h0.out⟩,⟨rq_ a0.out⟩,⟨bf_⟩,⟨bf_⟩,⟨bf_⟩,⟨bw_ HB⟩⟩
        by_cases H2:g2=Z0
        ·rw [if_pos H2] at H
         have R3:=beq_iff_eq.mpr H2
         have U3:=bne_eq_false_iff_eq.mpr H2
         clear H2
         have H':=Aside0.mk H
         clear H
         have a1:0≤(m0:Int):=od_
         have b1:m0<(n0.length:Int):=od_
         obtain⟨l2,N1,B0,C0,F0⟩:=at_T49 x1.out m0 a1 b1
         cases N1
         replace B0:=hc_ HB B0
         replace C0:=hc_ HB C0
         replace F0:=hc_ HB F0
         replace a1:=eq_true a1
         replace b1:=eq_true b1
         go_wp2_with (first|((with_reducible refine gn_ 15 rfl ?_);refine bn_ (cs:=#[.string (⟨#[]⟩:ByteArray),.string (⟨#[]⟩:ByteArray),.int .i64 0]) (t:=49) HB ?_;intro m2 VC hg hb q0 n2 hB_;have p1:=bl_ d0 hg;have H0:=bg_ d0 hg;have q1:=bl_ b0 hg;have I0:=bg_ b0 hg;have s1:=bl_ g0 hg;have J0:=bg_ g0 hg;replace h0:=rb_ h0 hb;replace a0:=rb_ a0 hb;replace d0:=bb_ d0 hb;replace b0:=bb_ b0 hb;replace g0:=bb_ g0 hb;replace HB:=hB_;clear hb hB_ hg;obtain⟨pB,qB⟩:=ns_ H0;obtain⟨rB,sB⟩:=ns_ I0;obtain⟨tB,uB⟩:=ns_ J0;obtain⟨N7,O7,P7,Q7,R7,U7⟩:=b3_ q0)|((with_reducible refine gc_ 26 rfl ?_);refine gm_ 66 Tryz.func26 (impl_numberOf.calls ((rd_T49 n0 m0).f0) (⟨#[106]⟩:ByteArray) 999 g2 _ (tab22 HT HB) e7.out) ?_;rintro w64 hb;replace h0:=mk_ (Kd.R_below (rg_ h0 q0) hb);replace a0:=mk_ (Kd.R_below (rg_ a0 q0) hb);replace d0:=bq_ d0 hb;replace b0:=bq_ b0 hb;replace g0:=bq_ g0 hb;replace q0:=bU_ q0 #[.string ((rd_T49 n0 m0).f0),.string ((rd_T49 n0 m0).f1),.int .i64 ((rd_T49 n0 m0).f2)] hb;replace HB:=bs_ HB hb;(try clear hb);(try clear hk);obtain⟨V7,W7,X7,Y7,Z7,a8⟩:=b3_ q0))
         go_roundg k3
         case measure=>have:=Y1.out;have:=M1.out;have:=B2.out;omega
         case rel=>exact⟨(X0),(wrap64 (m0+1)),rl_,H',⟨by have:=Y1.out;have:=M1.out;have:=B2.out;omega⟩,⟨rq_ h0.out⟩,⟨rq_ a0.out⟩,⟨bf_⟩,⟨bf_⟩,⟨bf_⟩,⟨bw_ HB⟩⟩
        rw [if_neg H2] at H
        have R3:=beq_eq_false_iff_ne.mpr H2
        have U3:=bne_iff_ne.mpr H2
        obtain⟨vB,H⟩:=gd_ H
        have V3:=Aside0.mk vB
        clear vB
        obtain⟨Y9,o2⟩:∃y_:List (S57),y_=(X0++ [(⟨4,(rd_T49 n0 m0).f0,(⟨#[]⟩:ByteArray),(⟨#[]⟩:ByteArray)⟩:S57)]):=⟨_,rfl⟩
        rw [←o2] at H
        have W3:=Aside0.mk o2
        clear o2
        have H':=Aside0.mk H
        clear H
        have a1:0≤(m0:Int):=od_
        have b1:m0<(n0.length:Int):=od_
        obtain⟨l2,N1,B0,C0,F0⟩:=at_T49 x1.out m0 a1 b1
        cases N1
        replace B0:=hc_ HB B0
        replace C0:=hc_ HB C0
        replace F0:=hc_ HB F0
        replace a1:=eq_true a1
        replace b1:=eq_true b1
        go_wp2_with (first|((with_reducible refine gn_ 15 rfl ?_);refine bn_ (cs:=#[.string (⟨#[]⟩:ByteArray),.string (⟨#[]⟩:ByteArray),.int .i64 0]) (t:=49) HB ?_;intro m2 WC hg hb q0 n2 hB_;have p1:=bl_ d0 hg;have H0:=bg_ d0 hg;have q1:=bl_ b0 hg;have I0:=bg_ b0 hg;have s1:=bl_ g0 hg;have J0:=bg_ g0 hg;replace h0:=rb_ h0 hb;replace a0:=rb_ a0 hb;replace d0:=bb_ d0 hb;replace b0:=bb_ b0 hb;replace g0:=bb_ g0 hb;replace HB:=hB_;clear hb hB_ hg;obtain⟨wB,xB⟩:=ns_ H0;obtain⟨yB,zB⟩:=ns_ I0;obtain⟨AB,BB⟩:=ns_ J0;obtain⟨b8,d8,e8,g8,h8,j8⟩:=b3_ q0)|((with_reducible refine gc_ 26 rfl ?_);refine gm_ 66 Tryz.func26 (impl_numberOf.calls ((rd_T49 n0 m0).f0) (⟨#[106]⟩:ByteArray) 999 g2 _ (tab22 HT HB) e7.out) ?_;rintro XC hb;replace h0:=mk_ (Kd.R_below (rg_ h0 q0) hb);replace a0:=mk_ (Kd.R_below (rg_ a0 q0) hb);replace d0:=bq_ d0 hb;replace b0:=bq_ b0 hb;replace g0:=bq_ g0 hb;replace q0:=bU_ q0 #[.string ((rd_T49 n0 m0).f0),.string ((rd_T49 n0 m0).f1),.int .i64 ((rd_T49 n0 m0).f2)] hb;replace HB:=bs_ HB hb;(try clear hb);(try clear hk);obtain⟨l8,m8,o8,p8,q8,s8⟩:=b3_ q0)|((with_reducible refine gate_builtin (b:= .append) (xs:=#[.tmp 79,.tmp 83]) rfl ?_);at_builtin;refine Kd.R_append k57 (w0:=w) w.heap.size rfl (.tmp 79) (.tmp 83) 31 57 (.agg #[(.int .i64 0),(.string ⟨#[]⟩),(.string ⟨#[]⟩),(.string ⟨#[]⟩)]) 56 rfl Tryz.underlying31 info57 rfl (by decide) (by omega) u13 X0 (⟨4,(rd_T49 n0 m0).f0,(⟨#[]⟩:ByteArray),(⟨#[]⟩:ByteArray)⟩:S57) [.int .i64 4,.string ((rd_T49 n0 m0).f0),.string (⟨#[]⟩:ByteArray),.string (⟨#[]⟩:ByteArray)] (fun _=>True) (fun _=>False) rfl rfl ?aP (fun _ hk=>hk.elim) ?aF ?aO ?aB ?aS ?aL ?_;(case aP=>exact k57_mkM _ _ _ (⟨4,(rd_T49 n0 m0).f0,(⟨#[]⟩:ByteArray),(⟨#[]⟩:ByteArray)⟩:S57));(case aB=>exact(bw_ HB));(case aF=>exact(fun _ _=>trivial));(case aO=>exact(rp_ h0));(case aS=>exact(below_size (bw_ HB)));(case aL=>have:=V3.out;omega);intro yC YC ho hb hg hat;rw [←W3.out] at ho;have X3:=mk_ (ho);replace a0:=mk_ (Kd.R_over' (rp_ a0) (Kd.R_typed (rp_ h0)) (by decide) hg);replace d0:=bgr_ d0 hg (Kd.R_ne h0.out d0.out (by decide));replace b0:=bgr_ b0 hg (Kd.R_ne h0.out b0.out (by decide));replace g0:=bgr_ g0 hg (Kd.R_ne h0.out g0.out (by decide));replace q0:=bgr_ q0 hg (Kd.R_ne h0.out q0.out (by decide));replace HB:=mk_ (hb);clear h0;clear ho hb hg hat))
        go_roundg k3
        case measure=>have:=Y1.out;have:=M1.out;have:=B2.out;omega
        case rel=>exact⟨(Y9),(wrap64 (m0+1)),rl_,H',⟨by have:=Y1.out;have:=M1.out;have:=B2.out;omega⟩,⟨rq_ X3.out⟩,⟨rq_ a0.out⟩,⟨bf_⟩,⟨bf_⟩,⟨bf_⟩,⟨bw_ HB⟩⟩
       rw [if_neg N2] at H
       have L3:=decide_eq_false N2
       clear N2
       by_cases I2:x2=(e2.size:Int)
       ·rw [if_pos I2] at H
        have Y3:=beq_iff_eq.mpr I2
        have Z3:=bne_eq_false_iff_eq.mpr I2
        clear I2
        simp only [Option.some.injEq,Prod.mk.injEq] at H
        obtain⟨rfl,rfl,rfl,rfl,rfl,rfl,rfl,rfl⟩:=H
        obtain⟨CB,DB⟩:=ns_ O0
        obtain⟨EB,FB⟩:=ns_ r0
        obtain⟨t8,v8,w8,x8,y8,A8,B8,C8,D8,F8,G8,H8⟩:=b6_ g0
        obtain⟨GB,IB⟩:=ns_ x0
        obtain⟨I8,J8,K8,L8,M8,N8,O8,P8,Q8,R8,U8,V8⟩:=b6_ b0
        go_wp2
        refine bodyPost_ret (results_ctt rfl _ _ o0 30 #[.int .i64 e1,.int .i64 g1,.int .i64 m1,.int .i64 n1,.int .i64 o1,.slice H1 Y0.length I1] (0,0) _ rfl bu_ Tryz.underlying30 rfl (by kernel_rfl)) rfl ?_
        exact⟨_,_,er_,rq_ (Kd.R_mono (Kd.R_far (p:=⟨o0,5,none⟩) (Kd.R_far (p:=⟨o0,4,none⟩) (Kd.R_far (p:=⟨o0,3,none⟩) (Kd.R_far (p:=⟨o0,2,none⟩) (Kd.R_far (p:=⟨o0,1,none⟩) (Kd.R_far (p:=⟨o0,0,none⟩) (Kd.R_types a0.out b0.out (by decide)) (fun _ hk=>hk.2) (.int .i64 e1)) (fun _ hk=>hk.2) (.int .i64 g1)) (fun _ hk=>hk.2) (.int .i64 m1)) (fun _ hk=>hk.2) (.int .i64 n1)) (fun _ hk=>hk.2) (.int .i64 o1)) (fun _ hk=>hk.2) (.slice H1 Y0.length I1)) (fun _ hk=>trivial)),rq_ (Kd.R_mono (Kd.R_far (p:=⟨o0,5,none⟩) (Kd.R_far (p:=⟨o0,4,none⟩) (Kd.R_far (p:=⟨o0,3,none⟩) (Kd.R_far (p:=⟨o0,2,none⟩) (Kd.R_far (p:=⟨o0,1,none⟩) (Kd.R_far (p:=⟨o0,0,none⟩) (Kd.R_types h0.out b0.out (by decide)) (fun _ hk=>hk.2) (.int .i64 e1)) (fun _ hk=>hk.2) (.int .i64 g1)) (fun _ hk=>hk.2) (.int .i64 m1)) (fun _ hk=>hk.2) (.int .i64 n1)) (fun _ hk=>hk.2) (.int .i64 o1)) (fun _ hk=>hk.2) (.slice H1 Y0.length I1)) (fun _ hk=>trivial)),bw_ HB⟩
       rw [if_neg I2] at H
       have Y3:=beq_eq_false_iff_ne.mpr I2
       have Z3:=bne_iff_ne.mpr I2
       obtain⟨⟨U1,P0,Q0,R0,U0,V0,N0,Z9⟩,JB,H⟩:=ob_ H
       try dsimp only at H
       by_cases W8:Z9=true
       rotate_left
       ·replace W8:=Bool.eq_false_iff.mpr W8
        subst W8
        rw [if_neg (show ¬(false=true) by decide)] at H
        simp only [Option.some.injEq,Prod.mk.injEq] at H
        obtain⟨rfl,rfl,rfl,rfl,rfl,rfl,rfl,rfl⟩:=H
        obtain⟨aA,bA⟩:=ns_ O0
        obtain⟨cA,dA⟩:=ns_ r0
        obtain⟨a4,b4,d4,e4,g4,h4,j4,l4,m4,o4,q4,s4⟩:=b6_ g0
        go_wp2_with (first|((with_reducible refine gc_ 31 rfl ?_);refine gl_ 95 Tryz.func31 #[.int .i64 Z0,.agg #[.int .i64 e1,.int .i64 g1,.int .i64 m1,.int .i64 n1,.int .i64 o1,.slice H1 Y0.length I1]] ?_;(with_reducible refine(impl_anew.calls k3 Z0 e1 g1 m1 n1 o1 _ _ Y0 U1 P0 Q0 R0 U0 V0 N0 false _ (tab21 HT HB) ?side1 ?side2 JB.out).mono ?_);(case side1=>repeat(first|exact(Kd.R_reads' a0.out).2.2|(with_reducible refine Kd.C_alloc ?_ _)|(with_reducible refine Kd.C_drewN ?_ _)|(with_reducible refine Kd.C_drew ?_)));(case side2=>exact(Kd.R_reads' a0.out).2.1);rintro e zC ⟨J2,eA,rfl,Q1,K2,hb⟩;refine⟨_,rfl,?_⟩;have L0:=mk_ (Kd.R_lower (Kd.R_new' Q1 (Kd.R_lt (rp_ h0))) (below_size (bw_ HB)));have M0:=mk_ (Kd.R_lower (Kd.R_new' K2 (Kd.R_lt (rp_ a0))) (below_size (bw_ HB)));replace h0:=mk_ (Kd.R_elder' (rp_ h0) (Kd.R_base Q1) hb);replace a0:=mk_ (Kd.R_elder' (rp_ a0) (Kd.R_base K2) hb);replace d0:=bb_ d0 hb;replace b0:=bb_ b0 hb;replace g0:=bb_ g0 hb;replace HB:=bs_ HB hb;(try clear hb);(try clear Q1);(try clear K2))|((with_reducible refine gn_ 18 rfl ?_);refine bn_ (cs:=#[.int .i64 0,.int .i64 0,.int .i64 0,.int .i64 0,.int .i64 0,.slice none 0 0]) (t:=30) HB ?_;intro e0 AC hg hb t0 t4 hB_;have V1:=bl_ d0 hg;have t1:=bg_ d0 hg;have K0:=bl_ b0 hg;have p0:=bg_ b0 hg;have W1:=bl_ g0 hg;have v1:=bg_ g0 hg;replace h0:=rb_ h0 hb;replace a0:=rb_ a0 hb;replace L0:=rb_ L0 hb;replace M0:=rb_ M0 hb;replace d0:=bb_ d0 hb;replace b0:=bb_ b0 hb;replace g0:=bb_ g0 hb;replace HB:=hB_;clear hb hB_ hg;obtain⟨fA,gA⟩:=ns_ t1;obtain⟨hA,iA⟩:=ns_ p0;obtain⟨jA,kA⟩:=ns_ v1;obtain⟨v4,w4,x4,y4,A4,C4,D4,F4,G4,H4,I4,J4⟩:=b6_ t0;obtain⟨KB,LB,K4⟩:=Kd.R_slice M0.out;subst K4;obtain⟨lA,mA⟩:=ns_ x0;obtain⟨L4,M4,N4,O4,P4,Q4,R4,U4,V4,W4,X4,Y4⟩:=b6_ b0))
        refine bodyPost_ret (results_ctt rfl _ _ o0 30 #[.int .i64 0,.int .i64 0,.int .i64 0,.int .i64 0,.int .i64 0,.slice none 0 0] (0,0) _ rfl bu_ Tryz.underlying30 rfl (by kernel_rfl)) rfl ?_
        exact⟨_,_,er_,by first|exact Kd.R_nil _ _ _ _ _|exact Kd.N_nil _ _ _ _ _|exact Kd.V_nil _ _ _ _ _|exact Kd.Q_nil _ _ _ _ _|exact Kd.S_nil _ _ _ _ _,by first|exact Kd.R_nil _ _ _ _ _|exact Kd.N_nil _ _ _ _ _|exact Kd.V_nil _ _ _ _ _|exact Kd.Q_nil _ _ _ _ _|exact Kd.S_nil _ _ _ _ _,bw_ HB⟩
       subst W8
       rw [if_pos rfl] at H
       obtain⟨MB,H⟩:=gd_ H
       have Z4:=Aside0.mk MB
       clear MB
       obtain⟨BC,q2⟩:∃y_:List (S57),y_=(X0++U1):=⟨_,rfl⟩
       rw [←q2] at H
       have a5:=Aside0.mk q2
       clear q2
       simp only [Option.some.injEq,Prod.mk.injEq] at H
       obtain⟨rfl,rfl,rfl,rfl,rfl,rfl,rfl,rfl⟩:=H
       obtain⟨NB,OB⟩:=ns_ O0
       obtain⟨PB,QB⟩:=ns_ r0
       obtain⟨X8,Y8,Z8,a9,b9,d9,e9,g9,h9,j9,l9,m9⟩:=b6_ g0
       try go_wp2_with (first|((with_reducible refine gc_ 31 rfl ?_);refine gl_ 95 Tryz.func31 #[.int .i64 Z0,.agg #[.int .i64 e1,.int .i64 g1,.int .i64 m1,.int .i64 n1,.int .i64 o1,.slice H1 Y0.length I1]] ?_;(with_reducible refine(impl_anew.calls k3 Z0 e1 g1 m1 n1 o1 _ _ Y0 U1 P0 Q0 R0 U0 V0 N0 true _ (tab21 HT HB) ?side1 ?side2 JB.out).mono ?_);(case side1=>repeat(first|exact(Kd.R_reads' a0.out).2.2|(with_reducible refine Kd.C_alloc ?_ _)|(with_reducible refine Kd.C_drewN ?_ _)|(with_reducible refine Kd.C_drew ?_)));(case side2=>exact(Kd.R_reads' a0.out).2.1);rintro e ZC ⟨J2,eA,rfl,Q1,K2,hb⟩;refine⟨_,rfl,?_⟩;have L0:=mk_ (Kd.R_lower (Kd.R_new' Q1 (Kd.R_lt (rp_ h0))) (below_size (bw_ HB)));have M0:=mk_ (Kd.R_lower (Kd.R_new' K2 (Kd.R_lt (rp_ a0))) (below_size (bw_ HB)));replace h0:=mk_ (Kd.R_elder' (rp_ h0) (Kd.R_base Q1) hb);replace a0:=mk_ (Kd.R_elder' (rp_ a0) (Kd.R_base K2) hb);replace d0:=bb_ d0 hb;replace b0:=bb_ b0 hb;replace g0:=bb_ g0 hb;replace HB:=bs_ HB hb;(try clear hb);(try clear Q1);(try clear K2))|((with_reducible refine gn_ 18 rfl ?_);refine bn_ (cs:=#[.int .i64 0,.int .i64 0,.int .i64 0,.int .i64 0,.int .i64 0,.slice none 0 0]) (t:=30) HB ?_;intro e0 s2 hg hb t0 t4 hB_;have V1:=bl_ d0 hg;have t1:=bg_ d0 hg;have K0:=bl_ b0 hg;have p0:=bg_ b0 hg;have W1:=bl_ g0 hg;have v1:=bg_ g0 hg;replace h0:=rb_ h0 hb;replace a0:=rb_ a0 hb;replace L0:=rb_ L0 hb;replace M0:=rb_ M0 hb;replace d0:=bb_ d0 hb;replace b0:=bb_ b0 hb;replace g0:=bb_ g0 hb;replace HB:=hB_;clear hb hB_ hg;obtain⟨RB,SB⟩:=ns_ t1;obtain⟨TB,UB⟩:=ns_ p0;obtain⟨VB,WB⟩:=ns_ v1;obtain⟨o9,p9,q9,r9,s9,t9,v9,w9,x9,y9,C9,D9⟩:=b6_ t0;obtain⟨y0,A0,b5⟩:=Kd.R_slice M0.out;subst b5))
       have O2:Aside0 (Kd.R k57 57 ((((((s2.setCell ⟨e0,0,none⟩ (.int .i64 P0)).setCell ⟨e0,1,none⟩ (.int .i64 Q0)).setCell ⟨e0,2,none⟩ (.int .i64 R0)).setCell ⟨e0,3,none⟩ (.int .i64 U0)).setCell ⟨e0,4,none⟩ (.int .i64 V0)).setCell ⟨e0,5,none⟩ (.slice y0 N0.length A0)) w.heap.size (fun k_=>some k_≠(J2:Value).ownBlock) u13 X0):=⟨rq_ (Kd.R_mono (Kd.R_far (p:=⟨e0,5,none⟩) (Kd.R_far (p:=⟨e0,4,none⟩) (Kd.R_far (p:=⟨e0,3,none⟩) (Kd.R_far (p:=⟨e0,2,none⟩) (Kd.R_far (p:=⟨e0,1,none⟩) (Kd.R_far (p:=⟨e0,0,none⟩) (Kd.R_types h0.out t0.out (by decide)) (fun _ hk=>hk.2) (.int .i64 P0)) (fun _ hk=>hk.2) (.int .i64 Q0)) (fun _ hk=>hk.2) (.int .i64 R0)) (fun _ hk=>hk.2) (.int .i64 U0)) (fun _ hk=>hk.2) (.int .i64 V0)) (fun _ hk=>hk.2) (.slice y0 N0.length A0)) (fun _ hk=>hk.1.2))⟩
       have P2:Aside0 (Kd.R k105 105 ((((((s2.setCell ⟨e0,0,none⟩ (.int .i64 P0)).setCell ⟨e0,1,none⟩ (.int .i64 Q0)).setCell ⟨e0,2,none⟩ (.int .i64 R0)).setCell ⟨e0,3,none⟩ (.int .i64 U0)).setCell ⟨e0,4,none⟩ (.int .i64 V0)).setCell ⟨e0,5,none⟩ (.slice y0 N0.length A0)) w.heap.size (fun k_=>some k_≠(.slice y0 N0.length A0:Value).ownBlock) (.slice H1 Y0.length I1) Y0):=⟨rq_ (Kd.R_mono (Kd.R_far (p:=⟨e0,5,none⟩) (Kd.R_far (p:=⟨e0,4,none⟩) (Kd.R_far (p:=⟨e0,3,none⟩) (Kd.R_far (p:=⟨e0,2,none⟩) (Kd.R_far (p:=⟨e0,1,none⟩) (Kd.R_far (p:=⟨e0,0,none⟩) (Kd.R_types a0.out t0.out (by decide)) (fun _ hk=>hk.2) (.int .i64 P0)) (fun _ hk=>hk.2) (.int .i64 Q0)) (fun _ hk=>hk.2) (.int .i64 R0)) (fun _ hk=>hk.2) (.int .i64 U0)) (fun _ hk=>hk.2) (.int .i64 V0)) (fun _ hk=>hk.2) (.slice y0 N0.length A0)) (fun _ hk=>hk.1.2))⟩
       have Q2:Aside0 (Kd.R k57 57 ((((((s2.setCell ⟨e0,0,none⟩ (.int .i64 P0)).setCell ⟨e0,1,none⟩ (.int .i64 Q0)).setCell ⟨e0,2,none⟩ (.int .i64 R0)).setCell ⟨e0,3,none⟩ (.int .i64 U0)).setCell ⟨e0,4,none⟩ (.int .i64 V0)).setCell ⟨e0,5,none⟩ (.slice y0 N0.length A0)) w.heap.size (fun k_=>some k_≠(u13:Value).ownBlock) J2 U1):=⟨rq_ (Kd.R_mono (Kd.R_far (p:=⟨e0,5,none⟩) (Kd.R_far (p:=⟨e0,4,none⟩) (Kd.R_far (p:=⟨e0,3,none⟩) (Kd.R_far (p:=⟨e0,2,none⟩) (Kd.R_far (p:=⟨e0,1,none⟩) (Kd.R_far (p:=⟨e0,0,none⟩) (Kd.R_types L0.out t0.out (by decide)) (fun _ hk=>hk.2) (.int .i64 P0)) (fun _ hk=>hk.2) (.int .i64 Q0)) (fun _ hk=>hk.2) (.int .i64 R0)) (fun _ hk=>hk.2) (.int .i64 U0)) (fun _ hk=>hk.2) (.int .i64 V0)) (fun _ hk=>hk.2) (.slice y0 N0.length A0)) (fun _ hk=>hk.1.2))⟩
       have R2:Aside0 (Kd.R k105 105 ((((((s2.setCell ⟨e0,0,none⟩ (.int .i64 P0)).setCell ⟨e0,1,none⟩ (.int .i64 Q0)).setCell ⟨e0,2,none⟩ (.int .i64 R0)).setCell ⟨e0,3,none⟩ (.int .i64 U0)).setCell ⟨e0,4,none⟩ (.int .i64 V0)).setCell ⟨e0,5,none⟩ (.slice y0 N0.length A0)) w.heap.size (fun k_=>some k_≠(.slice H1 Y0.length I1:Value).ownBlock) (.slice y0 N0.length A0) N0):=⟨rq_ (Kd.R_mono (Kd.R_far (p:=⟨e0,5,none⟩) (Kd.R_far (p:=⟨e0,4,none⟩) (Kd.R_far (p:=⟨e0,3,none⟩) (Kd.R_far (p:=⟨e0,2,none⟩) (Kd.R_far (p:=⟨e0,1,none⟩) (Kd.R_far (p:=⟨e0,0,none⟩) (Kd.R_types M0.out t0.out (by decide)) (fun _ hk=>hk.2) (.int .i64 P0)) (fun _ hk=>hk.2) (.int .i64 Q0)) (fun _ hk=>hk.2) (.int .i64 R0)) (fun _ hk=>hk.2) (.int .i64 U0)) (fun _ hk=>hk.2) (.int .i64 V0)) (fun _ hk=>hk.2) (.slice y0 N0.length A0)) (fun _ hk=>hk.1.2))⟩
       have U2:Aside0 (((((((s2.setCell ⟨e0,0,none⟩ (.int .i64 P0)).setCell ⟨e0,1,none⟩ (.int .i64 Q0)).setCell ⟨e0,2,none⟩ (.int .i64 R0)).setCell ⟨e0,3,none⟩ (.int .i64 U0)).setCell ⟨e0,4,none⟩ (.int .i64 V0)).setCell ⟨e0,5,none⟩ (.slice y0 N0.length A0)).heap[K1]? =some (.cells #[.slice F1 n0.length G1] 36 (0,0))):=⟨bf_⟩
       have V2:Aside0 (((((((s2.setCell ⟨e0,0,none⟩ (.int .i64 P0)).setCell ⟨e0,1,none⟩ (.int .i64 Q0)).setCell ⟨e0,2,none⟩ (.int .i64 R0)).setCell ⟨e0,3,none⟩ (.int .i64 U0)).setCell ⟨e0,4,none⟩ (.int .i64 V0)).setCell ⟨e0,5,none⟩ (.slice y0 N0.length A0)).heap[o0]? =some (.cells #[.int .i64 0,.int .i64 0,.int .i64 0,.int .i64 0,.int .i64 0,.slice none 0 0] 30 (0,0))):=⟨bf_⟩
       have W2:Aside0 (((((((s2.setCell ⟨e0,0,none⟩ (.int .i64 P0)).setCell ⟨e0,1,none⟩ (.int .i64 Q0)).setCell ⟨e0,2,none⟩ (.int .i64 R0)).setCell ⟨e0,3,none⟩ (.int .i64 U0)).setCell ⟨e0,4,none⟩ (.int .i64 V0)).setCell ⟨e0,5,none⟩ (.slice y0 N0.length A0)).heap[d1]? =some (.cells #[.int .i64 e1,.int .i64 g1,.int .i64 m1,.int .i64 n1,.int .i64 o1,.slice H1 Y0.length I1] 30 (0,0))):=⟨bf_⟩
       have X2:Aside0 (((((((s2.setCell ⟨e0,0,none⟩ (.int .i64 P0)).setCell ⟨e0,1,none⟩ (.int .i64 Q0)).setCell ⟨e0,2,none⟩ (.int .i64 R0)).setCell ⟨e0,3,none⟩ (.int .i64 U0)).setCell ⟨e0,4,none⟩ (.int .i64 V0)).setCell ⟨e0,5,none⟩ (.slice y0 N0.length A0)).heap[e0]? =some (.cells #[.int .i64 P0,.int .i64 Q0,.int .i64 R0,.int .i64 U0,.int .i64 V0,.slice y0 N0.length A0] 30 (0,0))):=⟨bu_⟩
       have Y2:Aside0 (Below w.heap.size w ((((((s2.setCell ⟨e0,0,none⟩ (.int .i64 P0)).setCell ⟨e0,1,none⟩ (.int .i64 Q0)).setCell ⟨e0,2,none⟩ (.int .i64 R0)).setCell ⟨e0,3,none⟩ (.int .i64 U0)).setCell ⟨e0,4,none⟩ (.int .i64 V0)).setCell ⟨e0,5,none⟩ (.slice y0 N0.length A0))):=⟨bw_ HB⟩
       (try clear h0);(try clear a0);(try clear L0);(try clear M0);(try clear d0);(try clear b0);(try clear g0);(try clear t0);(try clear HB)
       generalize ((((((s2.setCell ⟨e0,0,none⟩ (.int .i64 P0)).setCell ⟨e0,1,none⟩ (.int .i64 Q0)).setCell ⟨e0,2,none⟩ (.int .i64 R0)).setCell ⟨e0,3,none⟩ (.int .i64 U0)).setCell ⟨e0,4,none⟩ (.int .i64 V0)).setCell ⟨e0,5,none⟩ (.slice y0 N0.length A0))=nA at O2 P2 Q2 R2 U2 V2 W2 X2 Y2⊢
       have h0:=O2;have a0:=P2;have L0:=Q2;have M0:=R2;have d0:=U2;have b0:=V2;have g0:=W2;have t0:=X2;have HB:=Y2;clear O2 P2 Q2 R2 U2 V2 W2 X2 Y2
       replace h0:=rd_ h0;replace a0:=rd_ a0;replace L0:=rd_ L0;replace M0:=rd_ M0;replace d0:=kd_ d0;replace b0:=kd_ b0;replace g0:=kd_ g0;replace t0:=kd_ t0;replace HB:=wd_ HB
       obtain⟨d5,e5,C2⟩:=Kd.R_slice L0.out
       (first|subst C2|(injection C2 with XB CC YB;have DC:=XB.symm;have EC:=YB.symm;clear XB CC YB;subst DC;subst EC))
       refine start_ (n:=7) (S:=fun w'=>w'.cell? ⟨e0,0,none⟩=some (.int .i64 P0)∧w'.cell? ⟨e0,1,none⟩=some (.int .i64 Q0)∧w'.cell? ⟨e0,2,none⟩=some (.int .i64 R0)∧w'.cell? ⟨e0,3,none⟩=some (.int .i64 U0)∧w'.cell? ⟨e0,4,none⟩=some (.int .i64 V0)∧w'.cell? ⟨e0,5,none⟩=some (.slice y0 N0.length A0)) (ds:=[]) #[false,false,false,false,false,false,false] (by kernel_rfl) rfl rfl ⟨bc_ t0 0,bc_ t0 1,bc_ t0 2,bc_ t0 3,bc_ t0 4,bc_ t0 5⟩ (fun hHeld=>?_)
       generalize nA.drew=FC at h0 a0 L0 M0 d0 b0 g0 t0 HB hHeld⊢
       refine pv_ 1 103 ?_
       refine pv_ 2 104 ?_
       refine tv_ 0 102 hHeld ?_
       refine one_ (i:=3) (N:=some 105) #[true,true,true,true,false,false,false] rfl rfl (by kernel_rfl) (by decide) (fun K hK=>?_)
       refine Kd.R_append_rows_step k57 (w0:=w) w.heap.size (by rfl) (.tmp 103) (.tmp 104) 31 57 (.agg #[(.int .i64 0),(.string ⟨#[]⟩),(.string ⟨#[]⟩),(.string ⟨#[]⟩)]) 56 rfl Tryz.underlying31 info57 rfl (by decide) (by omega) u13 X0 U1 _ _ _ (fun k_=>some k_≠(.slice d5 U1.length e5:Value).ownBlock) (fun _=>False) rfl rfl ?aO ?aR (fun _ _ h=>h) (fun _ h=>h.elim) ?aF ?aB ?aS ?aL ?_
       (case aR=>repeat(first|exact(Kd.R_reads' L0.out).2.2|(with_reducible refine Kd.C_alloc ?_ _)|(with_reducible refine Kd.C_drewN ?_ _)|(with_reducible refine Kd.C_drew ?_)))
       (case aB=>exact(bw_ HB))
       (case aF=>exact(fun k_ hk=>Kd.fresh' (Kd.R_lt (rp_ L0)) k_ hk))
       (case aO=>exact(rp_ h0))
       (case aS=>exact(below_size (bw_ HB)))
       (case aL=>have:=Z4.out;omega)
       intro GC X1 ho hb hg hat
       rw [←a5.out] at ho
       have O2:=mk_ (Kd.R_over' (rp_ a0) (Kd.R_typed (rp_ h0)) (by decide) hg)
       have P2:=bgr_ d0 hg (Kd.R_ne h0.out d0.out (by decide))
       have Q2:=bgr_ b0 hg (Kd.R_ne h0.out b0.out (by decide))
       have R2:=bgr_ g0 hg (Kd.R_ne h0.out g0.out (by decide))
       have U2:=mk_ (Kd.R_after (ok:=(fun _=>True)) (rq_ (Kd.R_mono L0.out (fun _ hk=>⟨trivial,hk⟩))) hg hat)
       have V2:=mk_ (Kd.R_over' (rp_ M0) (Kd.R_typed (rp_ h0)) (by decide) hg)
       have W2:=bgr_ t0 hg (Kd.R_ne h0.out t0.out (by decide))
       have X2:=mk_ (hb)
       have Y2:=mk_ (ho)
       clear a0;clear d0;clear b0;clear g0;clear L0;clear M0;clear t0;clear HB;clear h0;have a0:=O2;have d0:=P2;have b0:=Q2;have g0:=R2;have L0:=U2;have M0:=V2;have t0:=W2;have HB:=X2;have g5:=Y2;clear O2 P2 Q2 R2 U2 V2 W2 X2 Y2;clear ho hb hg hat
       refine hK.out _ _ ⟨bc_ t0 0,bc_ t0 1,bc_ t0 2,bc_ t0 3,bc_ t0 4,bc_ t0 5⟩ (fun hHeld=>?_)
       clear hK K
       refine norm_ (a':=?_) ?_ ?_
       rotate_left
       ·show Act.put _ (some 105) _=_
        simp only [Act.put,sia_,scz_,scs_,i64_w,i32_w]
        rfl
       refine one_ (i:=4) (N:=none) #[true,true,true,true,true,false,false] rfl rfl (by kernel_rfl) (by decide) (fun K hK=>?_)
       have ZB:X1.cell? ⟨o0,0,none⟩=some (.int .i64 0):=bc_ b0 0
       have oA:=blk_frozen b0.out 0
       have h5:=v0.out
       have j5:=r0.out
       have l5:=p0.out
       have m5:=x0.out
       have o5:=G0.out
       have p5:=K0.out
       have aC:X1.cell? ⟨o0,1,none⟩=some (.int .i64 0):=bc_ b0 1
       have pA:=blk_frozen b0.out 1
       have q5:=v0.out
       have s5:=r0.out
       have t5:=p0.out
       have w5:=x0.out
       have x5:=G0.out
       have y5:=K0.out
       have bC:X1.cell? ⟨o0,2,none⟩=some (.int .i64 0):=bc_ b0 2
       have qA:=blk_frozen b0.out 2
       have A5:=v0.out
       have C5:=r0.out
       have D5:=p0.out
       have F5:=x0.out
       have G5:=G0.out
       have H5:=K0.out
       have cC:X1.cell? ⟨o0,3,none⟩=some (.int .i64 0):=bc_ b0 3
       have rA:=blk_frozen b0.out 3
       have I5:=v0.out
       have J5:=r0.out
       have K5:=p0.out
       have L5:=x0.out
       have M5:=G0.out
       have N5:=K0.out
       have dC:X1.cell? ⟨o0,4,none⟩=some (.int .i64 0):=bc_ b0 4
       have sA:=blk_frozen b0.out 4
       have O5:=v0.out
       have P5:=r0.out
       have Q5:=p0.out
       have R5:=x0.out
       have U5:=G0.out
       have V5:=K0.out
       have eC:X1.cell? ⟨o0,5,none⟩=some (.slice none 0 0):=bc_ b0 5
       have tA:=blk_frozen b0.out 5
       have W5:=v0.out
       have X5:=r0.out
       have Y5:=p0.out
       have Z5:=x0.out
       have a6:=G0.out
       have b6:=K0.out
       refine skip_ (w1:=?_) (by rfl) rfl ?_ ?_
       rotate_left
       ·go_simp
        rfl
       refine hK.out _ _ ⟨(cf_ p0 hHeld.1),(cf_ p0 hHeld.2.1),(cf_ p0 hHeld.2.2.1),(cf_ p0 hHeld.2.2.2.1),(cf_ p0 hHeld.2.2.2.2.1),(cf_ p0 hHeld.2.2.2.2.2)⟩ (fun hHeld=>?_)
       clear hK K
       refine pv_ 5 3 ?_
       refine pv_ 6 4 ?_
       refine done_ (by kernel_rfl) ?_
       try go_wp2
       refine bodyPost_ret (results_ctt rfl _ _ o0 30 #[.int .i64 P0,.int .i64 Q0,.int .i64 R0,.int .i64 U0,.int .i64 V0,.slice y0 N0.length A0] (0,0) _ rfl bu_ Tryz.underlying30 rfl (by kernel_rfl)) rfl ?_
       exact⟨_,_,er_,rq_ (Kd.R_mono (Kd.R_far (p:=⟨o0,5,none⟩) (Kd.R_far (p:=⟨o0,4,none⟩) (Kd.R_far (p:=⟨o0,3,none⟩) (Kd.R_far (p:=⟨o0,2,none⟩) (Kd.R_far (p:=⟨o0,1,none⟩) (Kd.R_far (p:=⟨o0,0,none⟩) (Kd.R_types M0.out b0.out (by decide)) (fun _ hk=>hk.2) (.int .i64 P0)) (fun _ hk=>hk.2) (.int .i64 Q0)) (fun _ hk=>hk.2) (.int .i64 R0)) (fun _ hk=>hk.2) (.int .i64 U0)) (fun _ hk=>hk.2) (.int .i64 V0)) (fun _ hk=>hk.2) (.slice y0 N0.length A0)) (fun _ hk=>trivial)),rq_ (Kd.R_mono (Kd.R_far (p:=⟨o0,5,none⟩) (Kd.R_far (p:=⟨o0,4,none⟩) (Kd.R_far (p:=⟨o0,3,none⟩) (Kd.R_far (p:=⟨o0,2,none⟩) (Kd.R_far (p:=⟨o0,1,none⟩) (Kd.R_far (p:=⟨o0,0,none⟩) (Kd.R_types g5.out b0.out (by decide)) (fun _ hk=>hk.2) (.int .i64 P0)) (fun _ hk=>hk.2) (.int .i64 Q0)) (fun _ hk=>hk.2) (.int .i64 R0)) (fun _ hk=>hk.2) (.int .i64 U0)) (fun _ hk=>hk.2) (.int .i64 V0)) (fun _ hk=>hk.2) (.slice y0 N0.length A0)) (fun _ hk=>trivial)),bw_ HB⟩
def laws_eqEntry.f (a0:Int) (b0:Int) (d0:ByteArray) (e0:Int) (g0:Int) (h0:ByteArray):Option (Bool):=if a0=e0 then(if b0=g0 then(if d0.toList=h0.toList then(some true) else(some false)) else(some false)) else(some false)
theorem laws_eqEntry.calls (g0:Int) (h0:Int) (m0:ByteArray) (n0:Int) (o0:Int) (p0:ByteArray) (r:Bool) (w:World) (h:laws_eqEntry.f g0 h0 m0 n0 o0 p0=some r):
  Calls Tryz.prog 96 #[.agg #[.int .i64 g0,.int .i64 h0,.string m0],.agg #[.int .i64 n0,.int .i64 o0,.string p0]] w fun e w'=>e= .returned (.bool r)∧Below w.heap.size w w':=by
 have P1:=Tryz.underlying105
 have HB:=mk_ (Below.refl w.heap.size w)
 have H:=h
 unfold laws_eqEntry.f at H
 clear h
 by_cases c3:g0=n0
 rotate_left
 ·rw [if_neg c3] at H
  have C1:=beq_eq_false_iff_ne.mpr c3
  have D1:=bne_iff_ne.mpr c3
  obtain rfl:=Option.some.inj H
  go_enter Tryz.func96,Tryz.ntmps96
  go_wp2_with (first|((with_reducible refine gn_ 2 rfl ?_);refine bv_ (cs:=#[.int .i64 g0,.int .i64 h0,.string m0]) (t:=105) HB ?_;clear HB;intro q0 a2 a0 r0 HB)|((with_reducible refine gn_ 3 rfl ?_);refine bn_ (cs:=#[.int .i64 n0,.int .i64 o0,.string p0]) (t:=105) HB ?_;intro s0 b2 hg hb e0 t0 hB_;have b0:=bl_ a0 hg;have d0:=bg_ a0 hg;replace a0:=bb_ a0 hb;replace HB:=hB_;clear hb hB_ hg;obtain⟨Q1,R1⟩:=ns_ b0;obtain⟨v0,x0,y0,A0,B0,C0⟩:=b3_ a0;obtain⟨F0,G0,H0,I0,J0,K0⟩:=b3_ e0))
  go_ret
  exact⟨er_,bw_ HB⟩
 rw [if_pos c3] at H
 have C1:=beq_iff_eq.mpr c3
 have D1:=bne_eq_false_iff_eq.mpr c3
 clear c3
 by_cases c4:h0=o0
 rotate_left
 ·rw [if_neg c4] at H
  have F1:=beq_eq_false_iff_ne.mpr c4
  have G1:=bne_iff_ne.mpr c4
  obtain rfl:=Option.some.inj H
  go_enter Tryz.func96,Tryz.ntmps96
  go_wp2_with (first|((with_reducible refine gn_ 2 rfl ?_);refine bv_ (cs:=#[.int .i64 g0,.int .i64 h0,.string m0]) (t:=105) HB ?_;clear HB;intro q0 d2 a0 r0 HB)|((with_reducible refine gn_ 3 rfl ?_);refine bn_ (cs:=#[.int .i64 n0,.int .i64 o0,.string p0]) (t:=105) HB ?_;intro s0 e2 hg hb e0 t0 hB_;have b0:=bl_ a0 hg;have d0:=bg_ a0 hg;replace a0:=bb_ a0 hb;replace HB:=hB_;clear hb hB_ hg;obtain⟨U1,V1⟩:=ns_ b0;obtain⟨L0,M0,N0,O0,P0,Q0⟩:=b3_ a0;obtain⟨R0,U0,V0,W0,X0,Y0⟩:=b3_ e0))
  go_ret
  exact⟨er_,bw_ HB⟩
 rw [if_pos c4] at H
 have F1:=beq_iff_eq.mpr c4
 have G1:=bne_eq_false_iff_eq.mpr c4
 clear c4
 by_cases c5:m0.toList=p0.toList
 rotate_left
 ·rw [if_neg c5] at H
  have H1:=beq_eq_false_iff_ne.mpr c5
  have I1:=bne_iff_ne.mpr c5
  obtain rfl:=Option.some.inj H
  go_enter Tryz.func96,Tryz.ntmps96
  go_wp2_with (first|((with_reducible refine gn_ 2 rfl ?_);refine bv_ (cs:=#[.int .i64 g0,.int .i64 h0,.string m0]) (t:=105) HB ?_;clear HB;intro q0 g2 a0 r0 HB)|((with_reducible refine gn_ 3 rfl ?_);refine bn_ (cs:=#[.int .i64 n0,.int .i64 o0,.string p0]) (t:=105) HB ?_;intro s0 h2 hg hb e0 t0 hB_;have b0:=bl_ a0 hg;have d0:=bg_ a0 hg;replace a0:=bb_ a0 hb;replace HB:=hB_;clear hb hB_ hg;obtain⟨W1,X1⟩:=ns_ b0;obtain⟨Z0,a1,b1,d1,e1,g1⟩:=b3_ a0;obtain⟨m1,n1,o1,p1,q1,r1⟩:=b3_ e0))
  go_ret
  exact⟨er_,bw_ HB⟩
 rw [if_pos c5] at H
 have H1:=beq_iff_eq.mpr c5
 have I1:=bne_eq_false_iff_eq.mpr c5
 clear c5
 obtain rfl:=Option.some.inj H
 go_enter Tryz.func96,Tryz.ntmps96
 go_wp2_with (first|((with_reducible refine gn_ 2 rfl ?_);refine bv_ (cs:=#[.int .i64 g0,.int .i64 h0,.string m0]) (t:=105) HB ?_;clear HB;intro q0 w6 a0 r0 HB)|((with_reducible refine gn_ 3 rfl ?_);refine bn_ (cs:=#[.int .i64 n0,.int .i64 o0,.string p0]) (t:=105) HB ?_;intro s0 w7 hg hb e0 t0 hB_;have b0:=bl_ a0 hg;have d0:=bg_ a0 hg;replace a0:=bb_ a0 hb;replace HB:=hB_;clear hb hB_ hg;obtain⟨Y1,Z1⟩:=ns_ b0;obtain⟨J1,K1,L1,M1,N1,O1⟩:=b3_ a0;obtain⟨s1,t1,v1,x1,y1,A1⟩:=b3_ e0))
 go_ret
 exact⟨er_,bw_ HB⟩
def laws_eqEntryS.l0:Nat→List (S105)→List (S105)→Int→Option (Bool)
 |0,_,_,_=>none
 |k+1,x0,x1,x5=>if x5<(x0.length:Int) then(if 0≤x5 then(if x5<(x1.length:Int) then((laws_eqEntry.f ((rd_T105 x0 x5).f0) ((rd_T105 x0 x5).f1) ((rd_T105 x0 x5).f2) ((rd_T105 x1 x5).f0) ((rd_T105 x1 x5).f1) ((rd_T105 x1 x5).f2)).bind fun a0=>(if a0=true then(laws_eqEntryS.l0 k x0 x1 (wrap64 (x5+1))) else(some false))) else(none)) else(none)) else(some true)
def laws_eqEntryS.f (k:Nat) (l0:List (S105)) (l1:List (S105)):Option (Bool):=if(l0.length:Int)=(l1.length:Int) then(laws_eqEntryS.l0 k l0 l1 0) else(some false)
def laws_eqEntryS.T6:Bool × List (List Nat × List Nat):=(true,[([],[]),([],[]),([0,1],[0,1]),([2],[2]),([],[]),([],[]),([4,5],[4,5]),([6],[6]),([3,7],[3,7]),([8],[8])])
def laws_eqEntryS.B6:List Nat:=[0,0,3,7,0,0,48,112,255,511]
theorem laws_eqEntryS.tab6:rtab .any (opsOf Tryz.f63 6)=laws_eqEntryS.T6:=by kernel_rfl
theorem laws_eqEntryS.bits6:waitsOk laws_eqEntryS.T6.2 laws_eqEntryS.B6=true:=by kernel_rfl
theorem laws_eqEntryS.calls (k:Nat) (A0:Option Addr) (c0:Nat) (l0:List (S105)) (A1:Option Addr) (c1:Nat) (l1:List (S105)) (r:Bool) (w:World) (L0:Kd.C k105 w A0 l0.length l0) (M0:l0.length≤c0) (N0:Kd.C k105 w A1 l1.length l1) (O0:l1.length≤c1) (h:laws_eqEntryS.f k l0 l1=some r):
  Calls Tryz.prog 63 #[.slice A0 l0.length c0,.slice A1 l1.length c1] w fun e w'=>e= .returned (.bool r)∧Below w.heap.size w w':=by
 have P0:=Tryz.underlying105
 have R0:=Aside0.mk L0
 have Z0:=Aside0.mk M0
 clear L0 M0
 have U0:=Aside0.mk N0
 have a1:=Aside0.mk O0
 clear N0 O0
 have HB:=mk_ (Below.refl w.heap.size w)
 have H:=h
 unfold laws_eqEntryS.f at H
 clear h
 by_cases c3:(l0.length:Int)=(l1.length:Int)
 rotate_left
 ·rw [if_neg c3] at H
  have F0:=beq_eq_false_iff_ne.mpr c3
  have G0:=bne_iff_ne.mpr c3
  have H0:(l0.length == l1.length)=false:=by first|simpa using c3|(simp at c3⊢;omega)
  obtain rfl:=Option.some.inj H
  go_enter Tryz.func63,Tryz.ntmps63
  go_wp2
  go_ret
  exact⟨er_,bw_ HB⟩
 rw [if_pos c3] at H
 have F0:=beq_iff_eq.mpr c3
 have G0:=bne_eq_false_iff_eq.mpr c3
 have H0:(l0.length == l1.length)=true:=by first|simpa using c3|(simp at c3⊢;omega)
 clear c3
 have H':=Aside0.mk H
 clear H
 go_enter Tryz.func63,Tryz.ntmps63
 go_wp2
 go_loopg [5] k (fun kq v5 w'=>∃(a0:Int),v5= .int .i64 a0∧Aside0 (laws_eqEntryS.l0 kq l0 l1 a0=some r)∧Aside0 (kq≤k)∧Aside0 (Below w.heap.size w w'))
 case atStart=>exact⟨(0),rl_,H',⟨Nat.le_refl _⟩,⟨bw_ HB⟩⟩
 case round=>
  clear H'
  try clear p2
  obtain⟨a0,rfl,HA,Q0,HB⟩:=hrel
  cases gk with
  |zero=>exact absurd HA.out (by simp [laws_eqEntryS.l0])
  |succ k1=>
   have H:=HA.out
   clear HA
   simp only [laws_eqEntryS.l0] at H
   refine ic_ H ?_ ?_ <;> clear H <;> intro V0 H
   ·obtain rfl:=Option.some.inj H
    go_wp2
    go_ret
    exact⟨er_,bw_ HB⟩
   obtain⟨c5,H⟩:=gd_ H
   have W0:=decide_eq_true c5
   clear c5
   obtain⟨c6,H⟩:=gd_ H
   have X0:=decide_eq_true c6
   clear c6
   obtain⟨I0,A7,H⟩:=ob_ H
   try dsimp only at H
   try go_wp2
   replace HB:=wd_ HB
   have x0:0≤(a0:Int):=od_
   have y0:a0<(l0.length:Int):=od_
   obtain⟨t0,J0,b0,d0,e0⟩:=at_T105 R0.out a0 x0 y0
   have n0:=e0
   have o0:=d0
   have p0:=b0
   cases J0
   replace b0:=hc_ HB b0
   replace d0:=hc_ HB d0
   replace e0:=hc_ HB e0
   replace x0:=eq_true x0
   replace y0:=eq_true y0
   have B0:0≤(a0:Int):=od_
   have C0:a0<(l1.length:Int):=od_
   obtain⟨v0,K0,g0,h0,m0⟩:=at_T105 U0.out a0 B0 C0
   have q0:=m0
   have r0:=h0
   have s0:=g0
   cases K0
   replace g0:=hc_ HB g0
   replace h0:=hc_ HB h0
   replace m0:=hc_ HB m0
   replace B0:=eq_true B0
   replace C0:=eq_true C0
   refine start_ (n:=10) (S:=fun w'=>w'.cell? (t0.add ((a0).toNat*3))=some (.int .i64 ((rd_T105 l0 a0).f0))∧w'.cell? ⟨(t0.add ((a0).toNat*3)).block,(t0.add ((a0).toNat*3)).off+1,none⟩=some (.int .i64 ((rd_T105 l0 a0).f1))∧w'.cell? ⟨(t0.add ((a0).toNat*3)).block,(t0.add ((a0).toNat*3)).off+2,none⟩=some (.string ((rd_T105 l0 a0).f2))∧w'.cell? (v0.add ((a0).toNat*3))=some (.int .i64 ((rd_T105 l1 a0).f0))∧w'.cell? ⟨(v0.add ((a0).toNat*3)).block,(v0.add ((a0).toNat*3)).off+1,none⟩=some (.int .i64 ((rd_T105 l1 a0).f1))∧w'.cell? ⟨(v0.add ((a0).toNat*3)).block,(v0.add ((a0).toNat*3)).off+2,none⟩=some (.string ((rd_T105 l1 a0).f2))) (ds:=[]) #[false,false,false,false,false,false,false,false,false,false] (by kernel_rfl) rfl rfl ⟨(hc_ HB p0),(hc_ HB o0),(hc_ HB n0),(hc_ HB s0),(hc_ HB r0),(hc_ HB q0)⟩ (fun hHeld=>?_);refine with_tabW laws_eqEntryS.tab6 laws_eqEntryS.bits6 (fun HT_ HW_=>?_)
   generalize wr.drew=w9 at HB b0 d0 e0 g0 h0 m0 hHeld⊢
   refine pv_ 0 17 ?_
   refine pv_ 1 18 ?_
   refine pv_ 2 19 ?_
   refine pv_ 4 21 ?_
   refine pv_ 5 22 ?_
   refine pv_ 6 23 ?_
   refine tv_ 3 20 hHeld ?_
   refine tv_ 7 24 hHeld ?_
   refine on_ 8 25 (fun K hK=>?_)
   refine goes_ Tryz.func96 (by kernel_rfl) rfl #[.agg #[.int .i64 ((rd_T105 l0 a0).f0),.int .i64 ((rd_T105 l0 a0).f1),.string ((rd_T105 l0 a0).f2)],.agg #[.int .i64 ((rd_T105 l1 a0).f0),.int .i64 ((rd_T105 l1 a0).f1),.string ((rd_T105 l1 a0).f2)]] (by rfl) rfl rfl ga_ ?_
   by_cases c8:I0=true
   rotate_left
   ·replace c8:=Bool.eq_false_iff.mpr c8
    subst c8
    rw [if_neg (show ¬(false=true) by decide)] at H
    obtain rfl:=Option.some.inj H
    with_reducible refine(laws_eqEntry.calls ((rd_T105 l0 a0).f0) ((rd_T105 l0 a0).f1) ((rd_T105 l0 a0).f2) ((rd_T105 l1 a0).f0) ((rd_T105 l1 a0).f1) ((rd_T105 l1 a0).f2) false _ A7.out).mono ?_
    rintro e b1 ⟨rfl,hb⟩
    refine⟨_,rfl,?_⟩
    replace HB:=bs_ HB hb;(try clear hb);(try clear Y0);(try clear hk);(try clear hi)
    refine hK.out _ _ ⟨(hc_ HB p0),(hc_ HB o0),(hc_ HB n0),(hc_ HB s0),(hc_ HB r0),(hc_ HB q0)⟩ (fun hHeld=>?_)
    clear hK K
    refine norm_ (a':=?_) ?_ ?_
    rotate_left
    ·show Act.put _ (some 25) _=_
     simp only [Act.put,sia_,scz_,scs_,i64_w,i32_w]
     rfl
    refine pv_ 9 26 ?_
    refine done_ (done_of HT_.out (by kernel_rfl)) ?_
    try go_wp2
    go_ret
    exact⟨er_,bw_ HB⟩
   subst c8
   rw [if_pos rfl] at H
   have H':=Aside0.mk H
   clear H
   with_reducible refine(laws_eqEntry.calls ((rd_T105 l0 a0).f0) ((rd_T105 l0 a0).f1) ((rd_T105 l0 a0).f2) ((rd_T105 l1 a0).f0) ((rd_T105 l1 a0).f1) ((rd_T105 l1 a0).f2) true _ A7.out).mono ?_
   rintro e d1 ⟨rfl,hb⟩
   refine⟨_,rfl,?_⟩
   replace HB:=bs_ HB hb;(try clear hb);(try clear Y0);(try clear hk);(try clear hi)
   refine hK.out _ _ ⟨(hc_ HB p0),(hc_ HB o0),(hc_ HB n0),(hc_ HB s0),(hc_ HB r0),(hc_ HB q0)⟩ (fun hHeld=>?_)
   clear hK K
   refine norm_ (a':=?_) ?_ ?_
   rotate_left
   ·show Act.put _ (some 25) _=_
    simp only [Act.put,sia_,scz_,scs_,i64_w,i32_w]
    rfl
   refine pv_ 9 26 ?_
   refine done_ (done_of HT_.out (by kernel_rfl)) ?_
   try go_wp2
   go_roundg k1
   case measure=>have:=Q0.out;omega
   case rel=>exact⟨(wrap64 (a0+1)),rl_,H',⟨by have:=Q0.out;omega⟩,⟨bw_ HB⟩⟩
def laws_eqLog.f (k:Nat) (a0:Int) (b0:Int) (d0:List (S105)) (e0:Int) (g0:Int) (h0:List (S105)):Option (Bool):=if a0=e0 then(if b0=g0 then((laws_eqEntryS.f k d0 h0).bind fun m0=>(if m0=true then(some true) else(some false))) else(some false)) else(some false)
theorem laws_eqLog.calls (k:Nat) (q0:Int) (r0:Int) (m0:Option Addr) (n0:Nat) (e0:List (S105)) (s0:Int) (t0:Int) (o0:Option Addr) (p0:Nat) (g0:List (S105)) (r:Bool) (w:World) (B0:Kd.C k105 w m0 e0.length e0) (C0:e0.length≤n0) (F0:Kd.C k105 w o0 g0.length g0) (G0:g0.length≤p0) (h:laws_eqLog.f k q0 r0 e0 s0 t0 g0=some r):
  Calls Tryz.prog 32 #[.agg #[.int .i64 q0,.int .i64 r0,.slice m0 e0.length n0],.agg #[.int .i64 s0,.int .i64 t0,.slice o0 g0.length p0]] w fun e w'=>e= .returned (.bool r)∧Below w.heap.size w w':=by
 have n2:=Tryz.underlying28
 have H0:=Aside0.mk B0
 have I0:=Aside0.mk C0
 clear B0 C0
 have J0:=Aside0.mk F0
 have K0:=Aside0.mk G0
 clear F0 G0
 have HB:=mk_ (Below.refl w.heap.size w)
 have H:=h
 unfold laws_eqLog.f at H
 clear h
 by_cases c3:q0=s0
 rotate_left
 ·rw [if_neg c3] at H
  have X1:=beq_eq_false_iff_ne.mpr c3
  have Y1:=bne_iff_ne.mpr c3
  obtain rfl:=Option.some.inj H
  go_enter Tryz.func32,Tryz.ntmps32
  go_wp2_with (first|((with_reducible refine gn_ 2 rfl ?_);refine bv_ (cs:=#[.int .i64 q0,.int .i64 r0,.slice m0 e0.length n0]) (t:=28) HB ?_;clear HB;intro v0 r2 a0 x0 HB)|((with_reducible refine gn_ 3 rfl ?_);refine bn_ (cs:=#[.int .i64 s0,.int .i64 t0,.slice o0 g0.length p0]) (t:=28) HB ?_;intro y0 s2 hg hb d0 A0 hB_;have b0:=bl_ a0 hg;have h0:=bg_ a0 hg;replace a0:=bb_ a0 hb;replace HB:=hB_;clear hb hB_ hg;obtain⟨d2,e2⟩:=ns_ b0;obtain⟨L0,M0,N0,O0,P0,Q0⟩:=b3_ a0;obtain⟨R0,U0,V0,W0,X0,Y0⟩:=b3_ d0))
  go_ret
  exact⟨er_,bw_ HB⟩
 rw [if_pos c3] at H
 have X1:=beq_iff_eq.mpr c3
 have Y1:=bne_eq_false_iff_eq.mpr c3
 clear c3
 by_cases c4:r0=t0
 rotate_left
 ·rw [if_neg c4] at H
  have Z1:=beq_eq_false_iff_ne.mpr c4
  have a2:=bne_iff_ne.mpr c4
  obtain rfl:=Option.some.inj H
  go_enter Tryz.func32,Tryz.ntmps32
  go_wp2_with (first|((with_reducible refine gn_ 2 rfl ?_);refine bv_ (cs:=#[.int .i64 q0,.int .i64 r0,.slice m0 e0.length n0]) (t:=28) HB ?_;clear HB;intro v0 t2 a0 x0 HB)|((with_reducible refine gn_ 3 rfl ?_);refine bn_ (cs:=#[.int .i64 s0,.int .i64 t0,.slice o0 g0.length p0]) (t:=28) HB ?_;intro y0 v2 hg hb d0 A0 hB_;have b0:=bl_ a0 hg;have h0:=bg_ a0 hg;replace a0:=bb_ a0 hb;replace HB:=hB_;clear hb hB_ hg;obtain⟨g2,h2⟩:=ns_ b0;obtain⟨Z0,a1,b1,d1,e1,g1⟩:=b3_ a0;obtain⟨m1,n1,o1,p1,q1,r1⟩:=b3_ d0))
  go_ret
  exact⟨er_,bw_ HB⟩
 rw [if_pos c4] at H
 have Z1:=beq_iff_eq.mpr c4
 have a2:=bne_eq_false_iff_eq.mpr c4
 clear c4
 obtain⟨b2,A5,H⟩:=ob_ H
 try dsimp only at H
 by_cases c6:b2=true
 ·subst c6
  rw [if_pos rfl] at H
  obtain rfl:=Option.some.inj H
  go_enter Tryz.func32,Tryz.ntmps32
  go_wp2_with (first|((with_reducible refine gn_ 2 rfl ?_);refine bv_ (cs:=#[.int .i64 q0,.int .i64 r0,.slice m0 e0.length n0]) (t:=28) HB ?_;clear HB;intro v0 w7 a0 x0 HB)|((with_reducible refine gn_ 3 rfl ?_);refine bn_ (cs:=#[.int .i64 s0,.int .i64 t0,.slice o0 g0.length p0]) (t:=28) HB ?_;intro y0 w8 hg hb d0 A0 hB_;have b0:=bl_ a0 hg;have h0:=bg_ a0 hg;replace a0:=bb_ a0 hb;replace HB:=hB_;clear hb hB_ hg;obtain⟨o2,q2⟩:=ns_ b0;obtain⟨s1,t1,v1,x1,y1,A1⟩:=b3_ a0;obtain⟨C1,D1,F1,G1,H1,I1⟩:=b3_ d0)|((with_reducible refine gc_ 63 rfl ?_);refine gx_ 19 Tryz.func63 #[.slice m0 e0.length n0,.slice o0 g0.length p0] (laws_eqEntryS.calls k _ _ e0 _ _ g0 true _ ?side1 ?side2 ?side3 ?side4 A5.out) ?_;(case side1=>repeat(first|exact(Kd.C_below H0.out HB.out)|(with_reducible refine Kd.C_alloc ?_ _)|(with_reducible refine Kd.C_drewN ?_ _)|(with_reducible refine Kd.C_drew ?_)));(case side2=>exact I0.out);(case side3=>repeat(first|exact(Kd.C_below J0.out HB.out)|(with_reducible refine Kd.C_alloc ?_ _)|(with_reducible refine Kd.C_drewN ?_ _)|(with_reducible refine Kd.C_drew ?_)));(case side4=>exact K0.out);rintro w2 hb;replace a0:=bb_ a0 hb;replace d0:=bb_ d0 hb;replace HB:=bs_ HB hb;(try clear hb)))
  go_ret
  exact⟨er_,bw_ HB⟩
 replace c6:=Bool.eq_false_iff.mpr c6
 subst c6
 rw [if_neg (show ¬(false=true) by decide)] at H
 obtain rfl:=Option.some.inj H
 go_enter Tryz.func32,Tryz.ntmps32
 go_wp2_with (first|((with_reducible refine gn_ 2 rfl ?_);refine bv_ (cs:=#[.int .i64 q0,.int .i64 r0,.slice m0 e0.length n0]) (t:=28) HB ?_;clear HB;intro v0 x2 a0 x0 HB)|((with_reducible refine gn_ 3 rfl ?_);refine bn_ (cs:=#[.int .i64 s0,.int .i64 t0,.slice o0 g0.length p0]) (t:=28) HB ?_;intro y0 y2 hg hb d0 A0 hB_;have b0:=bl_ a0 hg;have h0:=bg_ a0 hg;replace a0:=bb_ a0 hb;replace HB:=hB_;clear hb hB_ hg;obtain⟨l2,m2⟩:=ns_ b0;obtain⟨J1,K1,L1,M1,N1,O1⟩:=b3_ a0;obtain⟨P1,Q1,R1,U1,V1,W1⟩:=b3_ d0)|((with_reducible refine gc_ 63 rfl ?_);refine gx_ 19 Tryz.func63 #[.slice m0 e0.length n0,.slice o0 g0.length p0] (laws_eqEntryS.calls k _ _ e0 _ _ g0 false _ ?side1 ?side2 ?side3 ?side4 A5.out) ?_;(case side1=>repeat(first|exact(Kd.C_below H0.out HB.out)|(with_reducible refine Kd.C_alloc ?_ _)|(with_reducible refine Kd.C_drewN ?_ _)|(with_reducible refine Kd.C_drew ?_)));(case side2=>exact I0.out);(case side3=>repeat(first|exact(Kd.C_below J0.out HB.out)|(with_reducible refine Kd.C_alloc ?_ _)|(with_reducible refine Kd.C_drewN ?_ _)|(with_reducible refine Kd.C_drew ?_)));(case side4=>exact K0.out);rintro A2 hb;replace a0:=bb_ a0 hb;replace d0:=bb_ d0 hb;replace HB:=bs_ HB hb;(try clear hb)))
 go_ret
 exact⟨er_,bw_ HB⟩
def laws_eqJournal.f (k:Nat) (a0:Int) (b0:Int) (d0:Int) (e0:Int) (g0:Int) (h0:List (S105)) (m0:Int) (n0:Int) (o0:Int) (p0:Int) (q0:Int) (r0:List (S105)):Option (Bool):=if a0=m0 then(if b0=n0 then(if d0=o0 then((laws_eqLog.f k e0 g0 h0 p0 q0 r0).bind fun s0=>(if s0=true then(some true) else(some false))) else(some false)) else(some false)) else(some false)
theorem laws_eqJournal.calls (k:Nat) (v0:Int) (x0:Int) (y0:Int) (m0:Int) (n0:Int) (q0:Option Addr) (r0:Nat) (g0:List (S105)) (A0:Int) (B0:Int) (C0:Int) (o0:Int) (p0:Int) (s0:Option Addr) (t0:Nat) (h0:List (S105)) (r:Bool) (w:World) (J0:Kd.C k105 w q0 g0.length g0) (K0:g0.length≤r0) (L0:Kd.C k105 w s0 h0.length h0) (M0:h0.length≤t0) (h:laws_eqJournal.f k v0 x0 y0 m0 n0 g0 A0 B0 C0 o0 p0 h0=some r):
  Calls Tryz.prog 8 #[.agg #[.int .i64 v0,.int .i64 x0,.int .i64 y0,.int .i64 m0,.int .i64 n0,.slice q0 g0.length r0],.agg #[.int .i64 A0,.int .i64 B0,.int .i64 C0,.int .i64 o0,.int .i64 p0,.slice s0 h0.length t0]] w fun e w'=>e= .returned (.bool r)∧Below w.heap.size w w':=by
 have q4:=Tryz.underlying30
 have r4:=Tryz.underlying28
 have N0:=Aside0.mk J0
 have O0:=Aside0.mk K0
 clear J0 K0
 have P0:=Aside0.mk L0
 have Q0:=Aside0.mk M0
 clear L0 M0
 have HB:=mk_ (Below.refl w.heap.size w)
 have H:=h
 unfold laws_eqJournal.f at H
 clear h
 by_cases c3:v0=A0
 rotate_left
 ·rw [if_neg c3] at H
  have R3:=beq_eq_false_iff_ne.mpr c3
  have U3:=bne_iff_ne.mpr c3
  obtain rfl:=Option.some.inj H
  go_enter Tryz.func8,Tryz.ntmps8
  go_wp2_with (first|((with_reducible refine gn_ 2 rfl ?_);refine bv_ (cs:=#[.int .i64 v0,.int .i64 x0,.int .i64 y0,.int .i64 m0,.int .i64 n0,.slice q0 g0.length r0]) (t:=30) HB ?_;clear HB;intro F0 s4 a0 G0 HB)|((with_reducible refine gn_ 3 rfl ?_);refine bn_ (cs:=#[.int .i64 A0,.int .i64 B0,.int .i64 C0,.int .i64 o0,.int .i64 p0,.slice s0 h0.length t0]) (t:=30) HB ?_;intro H0 t4 hg hb d0 I0 hB_;have b0:=bl_ a0 hg;have e0:=bg_ a0 hg;replace a0:=bb_ a0 hb;replace HB:=hB_;clear hb hB_ hg;obtain⟨a4,b4⟩:=ns_ b0;obtain⟨R0,U0,V0,W0,X0,Y0,Z0,a1,b1,d1,e1,g1⟩:=b6_ a0;obtain⟨m1,n1,o1,p1,q1,r1,s1,t1,v1,x1,y1,A1⟩:=b6_ d0))
  go_ret
  exact⟨er_,bw_ HB⟩
 rw [if_pos c3] at H
 have R3:=beq_iff_eq.mpr c3
 have U3:=bne_eq_false_iff_eq.mpr c3
 clear c3
 by_cases c4:x0=B0
 rotate_left
 ·rw [if_neg c4] at H
  have V3:=beq_eq_false_iff_ne.mpr c4
  have W3:=bne_iff_ne.mpr c4
  obtain rfl:=Option.some.inj H
  go_enter Tryz.func8,Tryz.ntmps8
  go_wp2_with (first|((with_reducible refine gn_ 2 rfl ?_);refine bv_ (cs:=#[.int .i64 v0,.int .i64 x0,.int .i64 y0,.int .i64 m0,.int .i64 n0,.slice q0 g0.length r0]) (t:=30) HB ?_;clear HB;intro F0 v4 a0 G0 HB)|((with_reducible refine gn_ 3 rfl ?_);refine bn_ (cs:=#[.int .i64 A0,.int .i64 B0,.int .i64 C0,.int .i64 o0,.int .i64 p0,.slice s0 h0.length t0]) (t:=30) HB ?_;intro H0 w4 hg hb d0 I0 hB_;have b0:=bl_ a0 hg;have e0:=bg_ a0 hg;replace a0:=bb_ a0 hb;replace HB:=hB_;clear hb hB_ hg;obtain⟨d4,e4⟩:=ns_ b0;obtain⟨C1,D1,F1,G1,H1,I1,J1,K1,L1,M1,N1,O1⟩:=b6_ a0;obtain⟨P1,Q1,R1,U1,V1,W1,X1,Y1,Z1,a2,b2,d2⟩:=b6_ d0))
  go_ret
  exact⟨er_,bw_ HB⟩
 rw [if_pos c4] at H
 have V3:=beq_iff_eq.mpr c4
 have W3:=bne_eq_false_iff_eq.mpr c4
 clear c4
 by_cases c5:y0=C0
 rotate_left
 ·rw [if_neg c5] at H
  have X3:=beq_eq_false_iff_ne.mpr c5
  have Y3:=bne_iff_ne.mpr c5
  obtain rfl:=Option.some.inj H
  go_enter Tryz.func8,Tryz.ntmps8
  go_wp2_with (first|((with_reducible refine gn_ 2 rfl ?_);refine bv_ (cs:=#[.int .i64 v0,.int .i64 x0,.int .i64 y0,.int .i64 m0,.int .i64 n0,.slice q0 g0.length r0]) (t:=30) HB ?_;clear HB;intro F0 x4 a0 G0 HB)|((with_reducible refine gn_ 3 rfl ?_);refine bn_ (cs:=#[.int .i64 A0,.int .i64 B0,.int .i64 C0,.int .i64 o0,.int .i64 p0,.slice s0 h0.length t0]) (t:=30) HB ?_;intro H0 y4 hg hb d0 I0 hB_;have b0:=bl_ a0 hg;have e0:=bg_ a0 hg;replace a0:=bb_ a0 hb;replace HB:=hB_;clear hb hB_ hg;obtain⟨g4,h4⟩:=ns_ b0;obtain⟨e2,g2,h2,l2,m2,n2,o2,q2,r2,s2,t2,v2⟩:=b6_ a0;obtain⟨w2,x2,y2,A2,B2,C2,D2,F2,G2,H2,I2,J2⟩:=b6_ d0))
  go_ret
  exact⟨er_,bw_ HB⟩
 rw [if_pos c5] at H
 have X3:=beq_iff_eq.mpr c5
 have Y3:=bne_eq_false_iff_eq.mpr c5
 clear c5
 obtain⟨Z3,A6,H⟩:=ob_ H
 try dsimp only at H
 by_cases c7:Z3=true
 ·subst c7
  rw [if_pos rfl] at H
  obtain rfl:=Option.some.inj H
  go_enter Tryz.func8,Tryz.ntmps8
  go_wp2_with (first|((with_reducible refine gn_ 2 rfl ?_);refine bv_ (cs:=#[.int .i64 v0,.int .i64 x0,.int .i64 y0,.int .i64 m0,.int .i64 n0,.slice q0 g0.length r0]) (t:=30) HB ?_;clear HB;intro F0 w8 a0 G0 HB)|((with_reducible refine gn_ 3 rfl ?_);refine bn_ (cs:=#[.int .i64 A0,.int .i64 B0,.int .i64 C0,.int .i64 o0,.int .i64 p0,.slice s0 h0.length t0]) (t:=30) HB ?_;intro H0 w9 hg hb d0 I0 hB_;have b0:=bl_ a0 hg;have e0:=bg_ a0 hg;replace a0:=bb_ a0 hb;replace HB:=hB_;clear hb hB_ hg;obtain⟨j4,l4⟩:=ns_ b0;obtain⟨K2,L2,M2,N2,O2,P2,Q2,R2,U2,V2,W2,X2⟩:=b6_ a0;obtain⟨Y2,Z2,a3,b3,d3,e3,g3,h3,j3,l3,m3,n3⟩:=b6_ d0)|((with_reducible refine gc_ 32 rfl ?_);refine gx_ 24 Tryz.func32 #[.agg #[.int .i64 m0,.int .i64 n0,.slice q0 g0.length r0],.agg #[.int .i64 o0,.int .i64 p0,.slice s0 h0.length t0]] (laws_eqLog.calls k m0 n0 _ _ g0 o0 p0 _ _ h0 true _ ?side1 ?side2 ?side3 ?side4 A6.out) ?_;(case side1=>repeat(first|exact(Kd.C_below N0.out HB.out)|(with_reducible refine Kd.C_alloc ?_ _)|(with_reducible refine Kd.C_drewN ?_ _)|(with_reducible refine Kd.C_drew ?_)));(case side2=>exact O0.out);(case side3=>repeat(first|exact(Kd.C_below P0.out HB.out)|(with_reducible refine Kd.C_alloc ?_ _)|(with_reducible refine Kd.C_drewN ?_ _)|(with_reducible refine Kd.C_drew ?_)));(case side4=>exact Q0.out);rintro A4 hb;replace a0:=bb_ a0 hb;replace d0:=bb_ d0 hb;replace HB:=bs_ HB hb;(try clear hb)))
  go_ret
  exact⟨er_,bw_ HB⟩
 replace c7:=Bool.eq_false_iff.mpr c7
 subst c7
 rw [if_neg (show ¬(false=true) by decide)] at H
 obtain rfl:=Option.some.inj H
 go_enter Tryz.func8,Tryz.ntmps8
 go_wp2_with (first|((with_reducible refine gn_ 2 rfl ?_);refine bv_ (cs:=#[.int .i64 v0,.int .i64 x0,.int .i64 y0,.int .i64 m0,.int .i64 n0,.slice q0 g0.length r0]) (t:=30) HB ?_;clear HB;intro F0 C4 a0 G0 HB)|((with_reducible refine gn_ 3 rfl ?_);refine bn_ (cs:=#[.int .i64 A0,.int .i64 B0,.int .i64 C0,.int .i64 o0,.int .i64 p0,.slice s0 h0.length t0]) (t:=30) HB ?_;intro H0 D4 hg hb d0 I0 hB_;have b0:=bl_ a0 hg;have e0:=bg_ a0 hg;replace a0:=bb_ a0 hb;replace HB:=hB_;clear hb hB_ hg;obtain⟨m4,o4⟩:=ns_ b0;obtain⟨o3,q3,r3,s3,t3,v3,w3,x3,y3,A3,C3,D3⟩:=b6_ a0;obtain⟨F3,G3,H3,I3,J3,K3,L3,M3,N3,O3,P3,Q3⟩:=b6_ d0)|((with_reducible refine gc_ 32 rfl ?_);refine gx_ 24 Tryz.func32 #[.agg #[.int .i64 m0,.int .i64 n0,.slice q0 g0.length r0],.agg #[.int .i64 o0,.int .i64 p0,.slice s0 h0.length t0]] (laws_eqLog.calls k m0 n0 _ _ g0 o0 p0 _ _ h0 false _ ?side1 ?side2 ?side3 ?side4 A6.out) ?_;(case side1=>repeat(first|exact(Kd.C_below N0.out HB.out)|(with_reducible refine Kd.C_alloc ?_ _)|(with_reducible refine Kd.C_drewN ?_ _)|(with_reducible refine Kd.C_drew ?_)));(case side2=>exact O0.out);(case side3=>repeat(first|exact(Kd.C_below P0.out HB.out)|(with_reducible refine Kd.C_alloc ?_ _)|(with_reducible refine Kd.C_drewN ?_ _)|(with_reducible refine Kd.C_drew ?_)));(case side4=>exact Q0.out);rintro F4 hb;replace a0:=bb_ a0 hb;replace d0:=bb_ d0 hb;replace HB:=bs_ HB hb;(try clear hb)))
 go_ret
 exact⟨er_,bw_ HB⟩
def laws_eqAct.f (a0:Int) (b0:ByteArray) (d0:ByteArray) (e0:ByteArray) (g0:Int) (h0:ByteArray) (m0:ByteArray) (n0:ByteArray):Option (Bool):=if a0=g0 then(if b0.toList=h0.toList then(if d0.toList=m0.toList then(if e0.toList=n0.toList then(some true) else(some false)) else(some false)) else(some false)) else(some false)
theorem laws_eqAct.calls (g0:Int) (h0:ByteArray) (m0:ByteArray) (n0:ByteArray) (o0:Int) (p0:ByteArray) (q0:ByteArray) (r0:ByteArray) (r:Bool) (w:World) (h:laws_eqAct.f g0 h0 m0 n0 o0 p0 q0 r0=some r):
  Calls Tryz.prog 33 #[.agg #[.int .i64 g0,.string h0,.string m0,.string n0],.agg #[.int .i64 o0,.string p0,.string q0,.string r0]] w fun e w'=>e= .returned (.bool r)∧Below w.heap.size w w':=by
 have U2:=Tryz.underlying57
 have HB:=mk_ (Below.refl w.heap.size w)
 have H:=h
 unfold laws_eqAct.f at H
 clear h
 by_cases c3:g0=o0
 rotate_left
 ·rw [if_neg c3] at H
  have B2:=beq_eq_false_iff_ne.mpr c3
  have C2:=bne_iff_ne.mpr c3
  obtain rfl:=Option.some.inj H
  go_enter Tryz.func33,Tryz.ntmps33
  go_wp2_with (first|((with_reducible refine gn_ 2 rfl ?_);refine bv_ (cs:=#[.int .i64 g0,.string h0,.string m0,.string n0]) (t:=57) HB ?_;clear HB;intro s0 X2 a0 t0 HB)|((with_reducible refine gn_ 3 rfl ?_);refine bn_ (cs:=#[.int .i64 o0,.string p0,.string q0,.string r0]) (t:=57) HB ?_;intro v0 Y2 hg hb e0 x0 hB_;have b0:=bl_ a0 hg;have d0:=bg_ a0 hg;replace a0:=bb_ a0 hb;replace HB:=hB_;clear hb hB_ hg;obtain⟨K2,L2⟩:=ns_ b0;obtain⟨y0,A0,B0,C0,F0,G0,H0,I0⟩:=b4_ a0;obtain⟨J0,K0,L0,M0,N0,O0,P0,Q0⟩:=b4_ e0))
  go_ret
  exact⟨er_,bw_ HB⟩
 rw [if_pos c3] at H
 have B2:=beq_iff_eq.mpr c3
 have C2:=bne_eq_false_iff_eq.mpr c3
 clear c3
 by_cases c4:h0.toList=p0.toList
 rotate_left
 ·rw [if_neg c4] at H
  have D2:=beq_eq_false_iff_ne.mpr c4
  have F2:=bne_iff_ne.mpr c4
  obtain rfl:=Option.some.inj H
  go_enter Tryz.func33,Tryz.ntmps33
  go_wp2_with (first|((with_reducible refine gn_ 2 rfl ?_);refine bv_ (cs:=#[.int .i64 g0,.string h0,.string m0,.string n0]) (t:=57) HB ?_;clear HB;intro s0 Z2 a0 t0 HB)|((with_reducible refine gn_ 3 rfl ?_);refine bn_ (cs:=#[.int .i64 o0,.string p0,.string q0,.string r0]) (t:=57) HB ?_;intro v0 a3 hg hb e0 x0 hB_;have b0:=bl_ a0 hg;have d0:=bg_ a0 hg;replace a0:=bb_ a0 hb;replace HB:=hB_;clear hb hB_ hg;obtain⟨M2,N2⟩:=ns_ b0;obtain⟨R0,U0,V0,W0,X0,Y0,Z0,a1⟩:=b4_ a0;obtain⟨b1,d1,e1,g1,m1,n1,o1,p1⟩:=b4_ e0))
  go_ret
  exact⟨er_,bw_ HB⟩
 rw [if_pos c4] at H
 have D2:=beq_iff_eq.mpr c4
 have F2:=bne_eq_false_iff_eq.mpr c4
 clear c4
 by_cases c5:m0.toList=q0.toList
 rotate_left
 ·rw [if_neg c5] at H
  have G2:=beq_eq_false_iff_ne.mpr c5
  have H2:=bne_iff_ne.mpr c5
  obtain rfl:=Option.some.inj H
  go_enter Tryz.func33,Tryz.ntmps33
  go_wp2_with (first|((with_reducible refine gn_ 2 rfl ?_);refine bv_ (cs:=#[.int .i64 g0,.string h0,.string m0,.string n0]) (t:=57) HB ?_;clear HB;intro s0 b3 a0 t0 HB)|((with_reducible refine gn_ 3 rfl ?_);refine bn_ (cs:=#[.int .i64 o0,.string p0,.string q0,.string r0]) (t:=57) HB ?_;intro v0 d3 hg hb e0 x0 hB_;have b0:=bl_ a0 hg;have d0:=bg_ a0 hg;replace a0:=bb_ a0 hb;replace HB:=hB_;clear hb hB_ hg;obtain⟨O2,P2⟩:=ns_ b0;obtain⟨q1,r1,s1,t1,v1,x1,y1,A1⟩:=b4_ a0;obtain⟨C1,D1,F1,G1,H1,I1,J1,K1⟩:=b4_ e0))
  go_ret
  exact⟨er_,bw_ HB⟩
 rw [if_pos c5] at H
 have G2:=beq_iff_eq.mpr c5
 have H2:=bne_eq_false_iff_eq.mpr c5
 clear c5
 by_cases c6:n0.toList=r0.toList
 rotate_left
 ·rw [if_neg c6] at H
  have I2:=beq_eq_false_iff_ne.mpr c6
  have J2:=bne_iff_ne.mpr c6
  obtain rfl:=Option.some.inj H
  go_enter Tryz.func33,Tryz.ntmps33
  go_wp2_with (first|((with_reducible refine gn_ 2 rfl ?_);refine bv_ (cs:=#[.int .i64 g0,.string h0,.string m0,.string n0]) (t:=57) HB ?_;clear HB;intro s0 e3 a0 t0 HB)|((with_reducible refine gn_ 3 rfl ?_);refine bn_ (cs:=#[.int .i64 o0,.string p0,.string q0,.string r0]) (t:=57) HB ?_;intro v0 g3 hg hb e0 x0 hB_;have b0:=bl_ a0 hg;have d0:=bg_ a0 hg;replace a0:=bb_ a0 hb;replace HB:=hB_;clear hb hB_ hg;obtain⟨Q2,R2⟩:=ns_ b0;obtain⟨L1,M1,N1,O1,P1,Q1,R1,U1⟩:=b4_ a0;obtain⟨V1,W1,X1,Y1,Z1,a2,b2,d2⟩:=b4_ e0))
  go_ret
  exact⟨er_,bw_ HB⟩
 rw [if_pos c6] at H
 have I2:=beq_iff_eq.mpr c6
 have J2:=bne_eq_false_iff_eq.mpr c6
 clear c6
 obtain rfl:=Option.some.inj H
 go_enter Tryz.func33,Tryz.ntmps33
 go_wp2_with (first|((with_reducible refine gn_ 2 rfl ?_);refine bv_ (cs:=#[.int .i64 g0,.string h0,.string m0,.string n0]) (t:=57) HB ?_;clear HB;intro s0 w7 a0 t0 HB)|((with_reducible refine gn_ 3 rfl ?_);refine bn_ (cs:=#[.int .i64 o0,.string p0,.string q0,.string r0]) (t:=57) HB ?_;intro v0 w8 hg hb e0 x0 hB_;have b0:=bl_ a0 hg;have d0:=bg_ a0 hg;replace a0:=bb_ a0 hb;replace HB:=hB_;clear hb hB_ hg;obtain⟨V2,W2⟩:=ns_ b0;obtain⟨e2,g2,h2,l2,m2,n2,o2,q2⟩:=b4_ a0;obtain⟨r2,s2,t2,v2,w2,x2,y2,A2⟩:=b4_ e0))
 go_ret
 exact⟨er_,bw_ HB⟩
def laws_eqActS.l0:Nat→List (S57)→List (S57)→Int→Option (Bool)
 |0,_,_,_=>none
 |k+1,x0,x1,x5=>if x5<(x0.length:Int) then(if 0≤x5 then(if x5<(x1.length:Int) then((laws_eqAct.f ((rd_T57 x0 x5).f0) ((rd_T57 x0 x5).f1) ((rd_T57 x0 x5).f2) ((rd_T57 x0 x5).f3) ((rd_T57 x1 x5).f0) ((rd_T57 x1 x5).f1) ((rd_T57 x1 x5).f2) ((rd_T57 x1 x5).f3)).bind fun a0=>(if a0=true then(laws_eqActS.l0 k x0 x1 (wrap64 (x5+1))) else(some false))) else(none)) else(none)) else(some true)
def laws_eqActS.f (k:Nat) (l0:List (S57)) (l1:List (S57)):Option (Bool):=if(l0.length:Int)=(l1.length:Int) then(laws_eqActS.l0 k l0 l1 0) else(some false)
def laws_eqActS.T6:Bool × List (List Nat × List Nat):=(true,[([],[]),([],[]),([0,1],[0,1]),([2],[2]),([],[]),([],[]),([4,5],[4,5]),([6],[6]),([3,7],[3,7]),([8],[8])])
def laws_eqActS.B6:List Nat:=[0,0,3,7,0,0,48,112,255,511]
theorem laws_eqActS.tab6:rtab .any (opsOf Tryz.f9 6)=laws_eqActS.T6:=by kernel_rfl
theorem laws_eqActS.bits6:waitsOk laws_eqActS.T6.2 laws_eqActS.B6=true:=by kernel_rfl
theorem laws_eqActS.calls (k:Nat) (A0:Option Addr) (c0:Nat) (l0:List (S57)) (A1:Option Addr) (c1:Nat) (l1:List (S57)) (r:Bool) (w:World) (P0:Kd.C k57 w A0 l0.length l0) (Q0:l0.length≤c0) (R0:Kd.C k57 w A1 l1.length l1) (U0:l1.length≤c1) (h:laws_eqActS.f k l0 l1=some r):
  Calls Tryz.prog 9 #[.slice A0 l0.length c0,.slice A1 l1.length c1] w fun e w'=>e= .returned (.bool r)∧Below w.heap.size w w':=by
 have W0:=Tryz.underlying57
 have X0:=Aside0.mk P0
 have e1:=Aside0.mk Q0
 clear P0 Q0
 have Y0:=Aside0.mk R0
 have g1:=Aside0.mk U0
 clear R0 U0
 have HB:=mk_ (Below.refl w.heap.size w)
 have H:=h
 unfold laws_eqActS.f at H
 clear h
 by_cases c3:(l0.length:Int)=(l1.length:Int)
 rotate_left
 ·rw [if_neg c3] at H
  have J0:=beq_eq_false_iff_ne.mpr c3
  have K0:=bne_iff_ne.mpr c3
  have L0:(l0.length == l1.length)=false:=by first|simpa using c3|(simp at c3⊢;omega)
  obtain rfl:=Option.some.inj H
  go_enter Tryz.func9,Tryz.ntmps9
  go_wp2
  go_ret
  exact⟨er_,bw_ HB⟩
 rw [if_pos c3] at H
 have J0:=beq_iff_eq.mpr c3
 have K0:=bne_eq_false_iff_eq.mpr c3
 have L0:(l0.length == l1.length)=true:=by first|simpa using c3|(simp at c3⊢;omega)
 clear c3
 have H':=Aside0.mk H
 clear H
 go_enter Tryz.func9,Tryz.ntmps9
 go_wp2
 go_loopg [5] k (fun kq v5 w'=>∃(a0:Int),v5= .int .i64 a0∧Aside0 (laws_eqActS.l0 kq l0 l1 a0=some r)∧Aside0 (kq≤k)∧Aside0 (Below w.heap.size w w'))
 case atStart=>exact⟨(0),rl_,H',⟨Nat.le_refl _⟩,⟨bw_ HB⟩⟩
 case round=>
  clear H'
  try clear p2
  obtain⟨a0,rfl,HA,V0,HB⟩:=hrel
  cases gk with
  |zero=>exact absurd HA.out (by simp [laws_eqActS.l0])
  |succ k1=>
   have H:=HA.out
   clear HA
   simp only [laws_eqActS.l0] at H
   refine ic_ H ?_ ?_ <;> clear H <;> intro Z0 H
   ·obtain rfl:=Option.some.inj H
    go_wp2
    go_ret
    exact⟨er_,bw_ HB⟩
   obtain⟨c5,H⟩:=gd_ H
   have a1:=decide_eq_true c5
   clear c5
   obtain⟨c6,H⟩:=gd_ H
   have b1:=decide_eq_true c6
   clear c6
   obtain⟨M0,A7,H⟩:=ob_ H
   try dsimp only at H
   try go_wp2
   replace HB:=wd_ HB
   have F0:0≤(a0:Int):=od_
   have G0:a0<(l0.length:Int):=od_
   obtain⟨p0,N0,b0,d0,e0,g0⟩:=at_T57 X0.out a0 F0 G0
   have r0:=g0
   have s0:=e0
   have t0:=d0
   have v0:=b0
   cases N0
   replace b0:=hc_ HB b0
   replace d0:=hc_ HB d0
   replace e0:=hc_ HB e0
   replace g0:=hc_ HB g0
   replace F0:=eq_true F0
   replace G0:=eq_true G0
   have H0:0≤(a0:Int):=od_
   have I0:a0<(l1.length:Int):=od_
   obtain⟨q0,O0,h0,m0,n0,o0⟩:=at_T57 Y0.out a0 H0 I0
   have x0:=o0
   have y0:=n0
   have B0:=m0
   have C0:=h0
   cases O0
   replace h0:=hc_ HB h0
   replace m0:=hc_ HB m0
   replace n0:=hc_ HB n0
   replace o0:=hc_ HB o0
   replace H0:=eq_true H0
   replace I0:=eq_true I0
   refine start_ (n:=10) (S:=fun w'=>w'.cell? (p0.add ((a0).toNat*4))=some (.int .i64 ((rd_T57 l0 a0).f0))∧w'.cell? ⟨(p0.add ((a0).toNat*4)).block,(p0.add ((a0).toNat*4)).off+1,none⟩=some (.string ((rd_T57 l0 a0).f1))∧w'.cell? ⟨(p0.add ((a0).toNat*4)).block,(p0.add ((a0).toNat*4)).off+2,none⟩=some (.string ((rd_T57 l0 a0).f2))∧w'.cell? ⟨(p0.add ((a0).toNat*4)).block,(p0.add ((a0).toNat*4)).off+3,none⟩=some (.string ((rd_T57 l0 a0).f3))∧w'.cell? (q0.add ((a0).toNat*4))=some (.int .i64 ((rd_T57 l1 a0).f0))∧w'.cell? ⟨(q0.add ((a0).toNat*4)).block,(q0.add ((a0).toNat*4)).off+1,none⟩=some (.string ((rd_T57 l1 a0).f1))∧w'.cell? ⟨(q0.add ((a0).toNat*4)).block,(q0.add ((a0).toNat*4)).off+2,none⟩=some (.string ((rd_T57 l1 a0).f2))∧w'.cell? ⟨(q0.add ((a0).toNat*4)).block,(q0.add ((a0).toNat*4)).off+3,none⟩=some (.string ((rd_T57 l1 a0).f3))) (ds:=[]) #[false,false,false,false,false,false,false,false,false,false] (by kernel_rfl) rfl rfl ⟨(hc_ HB v0),(hc_ HB t0),(hc_ HB s0),(hc_ HB r0),(hc_ HB C0),(hc_ HB B0),(hc_ HB y0),(hc_ HB x0)⟩ (fun hHeld=>?_);refine with_tabW laws_eqActS.tab6 laws_eqActS.bits6 (fun HT_ HW_=>?_)
   generalize wr.drew=w9 at HB b0 d0 e0 g0 h0 m0 n0 o0 hHeld⊢
   refine pv_ 0 17 ?_
   refine pv_ 1 18 ?_
   refine pv_ 2 19 ?_
   refine pv_ 4 21 ?_
   refine pv_ 5 22 ?_
   refine pv_ 6 23 ?_
   refine tv_ 3 20 hHeld ?_
   refine tv_ 7 24 hHeld ?_
   refine on_ 8 25 (fun K hK=>?_)
   refine goes_ Tryz.func33 (by kernel_rfl) rfl #[.agg #[.int .i64 ((rd_T57 l0 a0).f0),.string ((rd_T57 l0 a0).f1),.string ((rd_T57 l0 a0).f2),.string ((rd_T57 l0 a0).f3)],.agg #[.int .i64 ((rd_T57 l1 a0).f0),.string ((rd_T57 l1 a0).f1),.string ((rd_T57 l1 a0).f2),.string ((rd_T57 l1 a0).f3)]] (by rfl) rfl rfl ga_ ?_
   by_cases c8:M0=true
   rotate_left
   ·replace c8:=Bool.eq_false_iff.mpr c8
    subst c8
    rw [if_neg (show ¬(false=true) by decide)] at H
    obtain rfl:=Option.some.inj H
    with_reducible refine(laws_eqAct.calls ((rd_T57 l0 a0).f0) ((rd_T57 l0 a0).f1) ((rd_T57 l0 a0).f2) ((rd_T57 l0 a0).f3) ((rd_T57 l1 a0).f0) ((rd_T57 l1 a0).f1) ((rd_T57 l1 a0).f2) ((rd_T57 l1 a0).f3) false _ A7.out).mono ?_
    rintro e m1 ⟨rfl,hb⟩
    refine⟨_,rfl,?_⟩
    replace HB:=bs_ HB hb;(try clear hb);(try clear d1);(try clear hk);(try clear hi)
    refine hK.out _ _ ⟨(hc_ HB v0),(hc_ HB t0),(hc_ HB s0),(hc_ HB r0),(hc_ HB C0),(hc_ HB B0),(hc_ HB y0),(hc_ HB x0)⟩ (fun hHeld=>?_)
    clear hK K
    refine norm_ (a':=?_) ?_ ?_
    rotate_left
    ·show Act.put _ (some 25) _=_
     simp only [Act.put,sia_,scz_,scs_,i64_w,i32_w]
     rfl
    refine pv_ 9 26 ?_
    refine done_ (done_of HT_.out (by kernel_rfl)) ?_
    try go_wp2
    go_ret
    exact⟨er_,bw_ HB⟩
   subst c8
   rw [if_pos rfl] at H
   have H':=Aside0.mk H
   clear H
   with_reducible refine(laws_eqAct.calls ((rd_T57 l0 a0).f0) ((rd_T57 l0 a0).f1) ((rd_T57 l0 a0).f2) ((rd_T57 l0 a0).f3) ((rd_T57 l1 a0).f0) ((rd_T57 l1 a0).f1) ((rd_T57 l1 a0).f2) ((rd_T57 l1 a0).f3) true _ A7.out).mono ?_
   rintro e n1 ⟨rfl,hb⟩
   refine⟨_,rfl,?_⟩
   replace HB:=bs_ HB hb;(try clear hb);(try clear d1);(try clear hk);(try clear hi)
   refine hK.out _ _ ⟨(hc_ HB v0),(hc_ HB t0),(hc_ HB s0),(hc_ HB r0),(hc_ HB C0),(hc_ HB B0),(hc_ HB y0),(hc_ HB x0)⟩ (fun hHeld=>?_)
   clear hK K
   refine norm_ (a':=?_) ?_ ?_
   rotate_left
   ·show Act.put _ (some 25) _=_
    simp only [Act.put,sia_,scz_,scs_,i64_w,i32_w]
    rfl
   refine pv_ 9 26 ?_
   refine done_ (done_of HT_.out (by kernel_rfl)) ?_
   try go_wp2
   go_roundg k1
   case measure=>have:=V0.out;omega
   case rel=>exact⟨(wrap64 (a0+1)),rl_,H',⟨by have:=V0.out;omega⟩,⟨bw_ HB⟩⟩
def laws_eqFile.f (a0:ByteArray) (b0:ByteArray) (d0:Int) (e0:ByteArray) (g0:ByteArray) (h0:Int):Option (Bool):=if a0.toList=e0.toList then(if b0.toList=g0.toList then(if d0=h0 then(some true) else(some false)) else(some false)) else(some false)
theorem laws_eqFile.calls (g0:ByteArray) (h0:ByteArray) (m0:Int) (n0:ByteArray) (o0:ByteArray) (p0:Int) (r:Bool) (w:World) (h:laws_eqFile.f g0 h0 m0 n0 o0 p0=some r):
  Calls Tryz.prog 64 #[.agg #[.string g0,.string h0,.int .i64 m0],.agg #[.string n0,.string o0,.int .i64 p0]] w fun e w'=>e= .returned (.bool r)∧Below w.heap.size w w':=by
 have X1:=Tryz.underlying49
 have HB:=mk_ (Below.refl w.heap.size w)
 have H:=h
 unfold laws_eqFile.f at H
 clear h
 by_cases c3:g0.toList=n0.toList
 rotate_left
 ·rw [if_neg c3] at H
  have C1:=beq_eq_false_iff_ne.mpr c3
  have D1:=bne_iff_ne.mpr c3
  obtain rfl:=Option.some.inj H
  go_enter Tryz.func64,Tryz.ntmps64
  go_wp2_with (first|((with_reducible refine gn_ 2 rfl ?_);refine bv_ (cs:=#[.string g0,.string h0,.int .i64 m0]) (t:=49) HB ?_;clear HB;intro q0 a2 a0 r0 HB)|((with_reducible refine gn_ 3 rfl ?_);refine bn_ (cs:=#[.string n0,.string o0,.int .i64 p0]) (t:=49) HB ?_;intro s0 b2 hg hb e0 t0 hB_;have b0:=bl_ a0 hg;have d0:=bg_ a0 hg;replace a0:=bb_ a0 hb;replace HB:=hB_;clear hb hB_ hg;obtain⟨P1,Q1⟩:=ns_ b0;obtain⟨v0,x0,y0,A0,B0,C0⟩:=b3_ a0;obtain⟨F0,G0,H0,I0,J0,K0⟩:=b3_ e0))
  go_ret
  exact⟨er_,bw_ HB⟩
 rw [if_pos c3] at H
 have C1:=beq_iff_eq.mpr c3
 have D1:=bne_eq_false_iff_eq.mpr c3
 clear c3
 by_cases c4:h0.toList=o0.toList
 rotate_left
 ·rw [if_neg c4] at H
  have F1:=beq_eq_false_iff_ne.mpr c4
  have G1:=bne_iff_ne.mpr c4
  obtain rfl:=Option.some.inj H
  go_enter Tryz.func64,Tryz.ntmps64
  go_wp2_with (first|((with_reducible refine gn_ 2 rfl ?_);refine bv_ (cs:=#[.string g0,.string h0,.int .i64 m0]) (t:=49) HB ?_;clear HB;intro q0 d2 a0 r0 HB)|((with_reducible refine gn_ 3 rfl ?_);refine bn_ (cs:=#[.string n0,.string o0,.int .i64 p0]) (t:=49) HB ?_;intro s0 e2 hg hb e0 t0 hB_;have b0:=bl_ a0 hg;have d0:=bg_ a0 hg;replace a0:=bb_ a0 hb;replace HB:=hB_;clear hb hB_ hg;obtain⟨R1,U1⟩:=ns_ b0;obtain⟨L0,M0,N0,O0,P0,Q0⟩:=b3_ a0;obtain⟨R0,U0,V0,W0,X0,Y0⟩:=b3_ e0))
  go_ret
  exact⟨er_,bw_ HB⟩
 rw [if_pos c4] at H
 have F1:=beq_iff_eq.mpr c4
 have G1:=bne_eq_false_iff_eq.mpr c4
 clear c4
 by_cases c5:m0=p0
 rotate_left
 ·rw [if_neg c5] at H
  have H1:=beq_eq_false_iff_ne.mpr c5
  have I1:=bne_iff_ne.mpr c5
  obtain rfl:=Option.some.inj H
  go_enter Tryz.func64,Tryz.ntmps64
  go_wp2_with (first|((with_reducible refine gn_ 2 rfl ?_);refine bv_ (cs:=#[.string g0,.string h0,.int .i64 m0]) (t:=49) HB ?_;clear HB;intro q0 g2 a0 r0 HB)|((with_reducible refine gn_ 3 rfl ?_);refine bn_ (cs:=#[.string n0,.string o0,.int .i64 p0]) (t:=49) HB ?_;intro s0 h2 hg hb e0 t0 hB_;have b0:=bl_ a0 hg;have d0:=bg_ a0 hg;replace a0:=bb_ a0 hb;replace HB:=hB_;clear hb hB_ hg;obtain⟨V1,W1⟩:=ns_ b0;obtain⟨Z0,a1,b1,d1,e1,g1⟩:=b3_ a0;obtain⟨m1,n1,o1,p1,q1,r1⟩:=b3_ e0))
  go_ret
  exact⟨er_,bw_ HB⟩
 rw [if_pos c5] at H
 have H1:=beq_iff_eq.mpr c5
 have I1:=bne_eq_false_iff_eq.mpr c5
 clear c5
 obtain rfl:=Option.some.inj H
 go_enter Tryz.func64,Tryz.ntmps64
 go_wp2_with (first|((with_reducible refine gn_ 2 rfl ?_);refine bv_ (cs:=#[.string g0,.string h0,.int .i64 m0]) (t:=49) HB ?_;clear HB;intro q0 w6 a0 r0 HB)|((with_reducible refine gn_ 3 rfl ?_);refine bn_ (cs:=#[.string n0,.string o0,.int .i64 p0]) (t:=49) HB ?_;intro s0 w7 hg hb e0 t0 hB_;have b0:=bl_ a0 hg;have d0:=bg_ a0 hg;replace a0:=bb_ a0 hb;replace HB:=hB_;clear hb hB_ hg;obtain⟨Y1,Z1⟩:=ns_ b0;obtain⟨J1,K1,L1,M1,N1,O1⟩:=b3_ a0;obtain⟨s1,t1,v1,x1,y1,A1⟩:=b3_ e0))
 go_ret
 exact⟨er_,bw_ HB⟩
def laws_eqFileS.l0:Nat→List (S49)→List (S49)→Int→Option (Bool)
 |0,_,_,_=>none
 |k+1,x0,x1,x5=>if x5<(x0.length:Int) then(if 0≤x5 then(if x5<(x1.length:Int) then((laws_eqFile.f ((rd_T49 x0 x5).f0) ((rd_T49 x0 x5).f1) ((rd_T49 x0 x5).f2) ((rd_T49 x1 x5).f0) ((rd_T49 x1 x5).f1) ((rd_T49 x1 x5).f2)).bind fun a0=>(if a0=true then(laws_eqFileS.l0 k x0 x1 (wrap64 (x5+1))) else(some false))) else(none)) else(none)) else(some true)
def laws_eqFileS.f (k:Nat) (l0:List (S49)) (l1:List (S49)):Option (Bool):=if(l0.length:Int)=(l1.length:Int) then(laws_eqFileS.l0 k l0 l1 0) else(some false)
def laws_eqFileS.T6:Bool × List (List Nat × List Nat):=(true,[([],[]),([],[]),([0,1],[0,1]),([2],[2]),([],[]),([],[]),([4,5],[4,5]),([6],[6]),([3,7],[3,7]),([8],[8])])
def laws_eqFileS.B6:List Nat:=[0,0,3,7,0,0,48,112,255,511]
theorem laws_eqFileS.tab6:rtab .any (opsOf Tryz.f34 6)=laws_eqFileS.T6:=by kernel_rfl
theorem laws_eqFileS.bits6:waitsOk laws_eqFileS.T6.2 laws_eqFileS.B6=true:=by kernel_rfl
theorem laws_eqFileS.calls (k:Nat) (A0:Option Addr) (c0:Nat) (l0:List (S49)) (A1:Option Addr) (c1:Nat) (l1:List (S49)) (r:Bool) (w:World) (L0:Kd.C k49 w A0 l0.length l0) (M0:l0.length≤c0) (N0:Kd.C k49 w A1 l1.length l1) (O0:l1.length≤c1) (h:laws_eqFileS.f k l0 l1=some r):
  Calls Tryz.prog 34 #[.slice A0 l0.length c0,.slice A1 l1.length c1] w fun e w'=>e= .returned (.bool r)∧Below w.heap.size w w':=by
 have Q0:=Tryz.underlying49
 have R0:=Aside0.mk L0
 have Z0:=Aside0.mk M0
 clear L0 M0
 have U0:=Aside0.mk N0
 have a1:=Aside0.mk O0
 clear N0 O0
 have HB:=mk_ (Below.refl w.heap.size w)
 have H:=h
 unfold laws_eqFileS.f at H
 clear h
 by_cases c3:(l0.length:Int)=(l1.length:Int)
 rotate_left
 ·rw [if_neg c3] at H
  have F0:=beq_eq_false_iff_ne.mpr c3
  have G0:=bne_iff_ne.mpr c3
  have H0:(l0.length == l1.length)=false:=by first|simpa using c3|(simp at c3⊢;omega)
  obtain rfl:=Option.some.inj H
  go_enter Tryz.func34,Tryz.ntmps34
  go_wp2
  go_ret
  exact⟨er_,bw_ HB⟩
 rw [if_pos c3] at H
 have F0:=beq_iff_eq.mpr c3
 have G0:=bne_eq_false_iff_eq.mpr c3
 have H0:(l0.length == l1.length)=true:=by first|simpa using c3|(simp at c3⊢;omega)
 clear c3
 have H':=Aside0.mk H
 clear H
 go_enter Tryz.func34,Tryz.ntmps34
 go_wp2
 go_loopg [5] k (fun kq v5 w'=>∃(a0:Int),v5= .int .i64 a0∧Aside0 (laws_eqFileS.l0 kq l0 l1 a0=some r)∧Aside0 (kq≤k)∧Aside0 (Below w.heap.size w w'))
 case atStart=>exact⟨(0),rl_,H',⟨Nat.le_refl _⟩,⟨bw_ HB⟩⟩
 case round=>
  clear H'
  try clear p2
  obtain⟨a0,rfl,HA,P0,HB⟩:=hrel
  cases gk with
  |zero=>exact absurd HA.out (by simp [laws_eqFileS.l0])
  |succ k1=>
   have H:=HA.out
   clear HA
   simp only [laws_eqFileS.l0] at H
   refine ic_ H ?_ ?_ <;> clear H <;> intro V0 H
   ·obtain rfl:=Option.some.inj H
    go_wp2
    go_ret
    exact⟨er_,bw_ HB⟩
   obtain⟨c5,H⟩:=gd_ H
   have W0:=decide_eq_true c5
   clear c5
   obtain⟨c6,H⟩:=gd_ H
   have X0:=decide_eq_true c6
   clear c6
   obtain⟨I0,A7,H⟩:=ob_ H
   try dsimp only at H
   try go_wp2
   replace HB:=wd_ HB
   have x0:0≤(a0:Int):=od_
   have y0:a0<(l0.length:Int):=od_
   obtain⟨t0,J0,b0,d0,e0⟩:=at_T49 R0.out a0 x0 y0
   have n0:=e0
   have o0:=d0
   have p0:=b0
   cases J0
   replace b0:=hc_ HB b0
   replace d0:=hc_ HB d0
   replace e0:=hc_ HB e0
   replace x0:=eq_true x0
   replace y0:=eq_true y0
   have B0:0≤(a0:Int):=od_
   have C0:a0<(l1.length:Int):=od_
   obtain⟨v0,K0,g0,h0,m0⟩:=at_T49 U0.out a0 B0 C0
   have q0:=m0
   have r0:=h0
   have s0:=g0
   cases K0
   replace g0:=hc_ HB g0
   replace h0:=hc_ HB h0
   replace m0:=hc_ HB m0
   replace B0:=eq_true B0
   replace C0:=eq_true C0
   refine start_ (n:=10) (S:=fun w'=>w'.cell? (t0.add ((a0).toNat*3))=some (.string ((rd_T49 l0 a0).f0))∧w'.cell? ⟨(t0.add ((a0).toNat*3)).block,(t0.add ((a0).toNat*3)).off+1,none⟩=some (.string ((rd_T49 l0 a0).f1))∧w'.cell? ⟨(t0.add ((a0).toNat*3)).block,(t0.add ((a0).toNat*3)).off+2,none⟩=some (.int .i64 ((rd_T49 l0 a0).f2))∧w'.cell? (v0.add ((a0).toNat*3))=some (.string ((rd_T49 l1 a0).f0))∧w'.cell? ⟨(v0.add ((a0).toNat*3)).block,(v0.add ((a0).toNat*3)).off+1,none⟩=some (.string ((rd_T49 l1 a0).f1))∧w'.cell? ⟨(v0.add ((a0).toNat*3)).block,(v0.add ((a0).toNat*3)).off+2,none⟩=some (.int .i64 ((rd_T49 l1 a0).f2))) (ds:=[]) #[false,false,false,false,false,false,false,false,false,false] (by kernel_rfl) rfl rfl ⟨(hc_ HB p0),(hc_ HB o0),(hc_ HB n0),(hc_ HB s0),(hc_ HB r0),(hc_ HB q0)⟩ (fun hHeld=>?_);refine with_tabW laws_eqFileS.tab6 laws_eqFileS.bits6 (fun HT_ HW_=>?_)
   generalize wr.drew=w9 at HB b0 d0 e0 g0 h0 m0 hHeld⊢
   refine pv_ 0 17 ?_
   refine pv_ 1 18 ?_
   refine pv_ 2 19 ?_
   refine pv_ 4 21 ?_
   refine pv_ 5 22 ?_
   refine pv_ 6 23 ?_
   refine tv_ 3 20 hHeld ?_
   refine tv_ 7 24 hHeld ?_
   refine on_ 8 25 (fun K hK=>?_)
   refine goes_ Tryz.func64 (by kernel_rfl) rfl #[.agg #[.string ((rd_T49 l0 a0).f0),.string ((rd_T49 l0 a0).f1),.int .i64 ((rd_T49 l0 a0).f2)],.agg #[.string ((rd_T49 l1 a0).f0),.string ((rd_T49 l1 a0).f1),.int .i64 ((rd_T49 l1 a0).f2)]] (by rfl) rfl rfl ga_ ?_
   by_cases c8:I0=true
   rotate_left
   ·replace c8:=Bool.eq_false_iff.mpr c8
    subst c8
    rw [if_neg (show ¬(false=true) by decide)] at H
    obtain rfl:=Option.some.inj H
    with_reducible refine(laws_eqFile.calls ((rd_T49 l0 a0).f0) ((rd_T49 l0 a0).f1) ((rd_T49 l0 a0).f2) ((rd_T49 l1 a0).f0) ((rd_T49 l1 a0).f1) ((rd_T49 l1 a0).f2) false _ A7.out).mono ?_
    rintro e b1 ⟨rfl,hb⟩
    refine⟨_,rfl,?_⟩
    replace HB:=bs_ HB hb;(try clear hb);(try clear Y0);(try clear hk);(try clear hi)
    refine hK.out _ _ ⟨(hc_ HB p0),(hc_ HB o0),(hc_ HB n0),(hc_ HB s0),(hc_ HB r0),(hc_ HB q0)⟩ (fun hHeld=>?_)
    clear hK K
    refine norm_ (a':=?_) ?_ ?_
    rotate_left
    ·show Act.put _ (some 25) _=_
     simp only [Act.put,sia_,scz_,scs_,i64_w,i32_w]
     rfl
    refine pv_ 9 26 ?_
    refine done_ (done_of HT_.out (by kernel_rfl)) ?_
    try go_wp2
    go_ret
    exact⟨er_,bw_ HB⟩
   subst c8
   rw [if_pos rfl] at H
   have H':=Aside0.mk H
   clear H
   with_reducible refine(laws_eqFile.calls ((rd_T49 l0 a0).f0) ((rd_T49 l0 a0).f1) ((rd_T49 l0 a0).f2) ((rd_T49 l1 a0).f0) ((rd_T49 l1 a0).f1) ((rd_T49 l1 a0).f2) true _ A7.out).mono ?_
   rintro e d1 ⟨rfl,hb⟩
   refine⟨_,rfl,?_⟩
   replace HB:=bs_ HB hb;(try clear hb);(try clear Y0);(try clear hk);(try clear hi)
   refine hK.out _ _ ⟨(hc_ HB p0),(hc_ HB o0),(hc_ HB n0),(hc_ HB s0),(hc_ HB r0),(hc_ HB q0)⟩ (fun hHeld=>?_)
   clear hK K
   refine norm_ (a':=?_) ?_ ?_
   rotate_left
   ·show Act.put _ (some 25) _=_
    simp only [Act.put,sia_,scz_,scs_,i64_w,i32_w]
    rfl
   refine pv_ 9 26 ?_
   refine done_ (done_of HT_.out (by kernel_rfl)) ?_
   try go_wp2
   go_roundg k1
   case measure=>have:=P0.out;omega
   case rel=>exact⟨(wrap64 (a0+1)),rl_,H',⟨by have:=P0.out;omega⟩,⟨bw_ HB⟩⟩
def laws_eqDisk.f (k:Nat) (a0:List (S49)) (b0:List (S49)):Option (Bool):=(laws_eqFileS.f k a0 b0).bind fun d0=>(if d0=true then(some true) else(some false))
theorem laws_eqDisk.calls (k:Nat) (h0:Option Addr) (m0:Nat) (d0:List (S49)) (n0:Option Addr) (o0:Nat) (e0:List (S49)) (r:Bool) (w:World) (q0:Kd.C k49 w h0 d0.length d0) (r0:d0.length≤m0) (s0:Kd.C k49 w n0 e0.length e0) (t0:e0.length≤o0) (h:laws_eqDisk.f k d0 e0=some r):
  Calls Tryz.prog 10 #[.agg #[.slice h0 d0.length m0],.agg #[.slice n0 e0.length o0]] w fun e w'=>e= .returned (.bool r)∧Below w.heap.size w w':=by
 have U0:=Tryz.underlying36
 have v0:=Aside0.mk q0
 have x0:=Aside0.mk r0
 clear q0 r0
 have y0:=Aside0.mk s0
 have A0:=Aside0.mk t0
 clear s0 t0
 have HB:=mk_ (Below.refl w.heap.size w)
 have H:=h
 unfold laws_eqDisk.f at H
 clear h
 obtain⟨L0,A3,H⟩:=ob_ H
 try dsimp only at H
 by_cases c4:L0=true
 ·subst c4
  rw [if_pos rfl] at H
  obtain rfl:=Option.some.inj H
  go_enter Tryz.func10,Tryz.ntmps10
  go_wp2_with (first|((with_reducible refine gn_ 2 rfl ?_);refine bv_ (cs:=#[.slice h0 d0.length m0]) (t:=36) HB ?_;clear HB;intro B0 w5 a0 C0 HB)|((with_reducible refine gn_ 3 rfl ?_);refine bn_ (cs:=#[.slice n0 e0.length o0]) (t:=36) HB ?_;intro F0 w6 hg hb g0 G0 hB_;have b0:=bl_ a0 hg;have p0:=bg_ a0 hg;replace a0:=bb_ a0 hb;replace HB:=hB_;clear hb hB_ hg;obtain⟨V0,W0⟩:=ns_ b0;obtain⟨M0,N0⟩:=b1_ a0;obtain⟨O0,P0⟩:=b1_ g0)|((with_reducible refine gc_ 34 rfl ?_);refine gx_ 9 Tryz.func34 #[.slice h0 d0.length m0,.slice n0 e0.length o0] (laws_eqFileS.calls k _ _ d0 _ _ e0 true _ ?side1 ?side2 ?side3 ?side4 A3.out) ?_;(case side1=>repeat(first|exact(Kd.C_below v0.out HB.out)|(with_reducible refine Kd.C_alloc ?_ _)|(with_reducible refine Kd.C_drewN ?_ _)|(with_reducible refine Kd.C_drew ?_)));(case side2=>exact x0.out);(case side3=>repeat(first|exact(Kd.C_below y0.out HB.out)|(with_reducible refine Kd.C_alloc ?_ _)|(with_reducible refine Kd.C_drewN ?_ _)|(with_reducible refine Kd.C_drew ?_)));(case side4=>exact A0.out);rintro X0 hb;replace a0:=bb_ a0 hb;replace g0:=bb_ g0 hb;replace HB:=bs_ HB hb;(try clear hb)))
  go_ret
  exact⟨er_,bw_ HB⟩
 replace c4:=Bool.eq_false_iff.mpr c4
 subst c4
 rw [if_neg (show ¬(false=true) by decide)] at H
 obtain rfl:=Option.some.inj H
 go_enter Tryz.func10,Tryz.ntmps10
 go_wp2_with (first|((with_reducible refine gn_ 2 rfl ?_);refine bv_ (cs:=#[.slice h0 d0.length m0]) (t:=36) HB ?_;clear HB;intro B0 Y0 a0 C0 HB)|((with_reducible refine gn_ 3 rfl ?_);refine bn_ (cs:=#[.slice n0 e0.length o0]) (t:=36) HB ?_;intro F0 Z0 hg hb g0 G0 hB_;have b0:=bl_ a0 hg;have p0:=bg_ a0 hg;replace a0:=bb_ a0 hb;replace HB:=hB_;clear hb hB_ hg;obtain⟨Q0,R0⟩:=ns_ b0;obtain⟨H0,I0⟩:=b1_ a0;obtain⟨J0,K0⟩:=b1_ g0)|((with_reducible refine gc_ 34 rfl ?_);refine gx_ 9 Tryz.func34 #[.slice h0 d0.length m0,.slice n0 e0.length o0] (laws_eqFileS.calls k _ _ d0 _ _ e0 false _ ?side1 ?side2 ?side3 ?side4 A3.out) ?_;(case side1=>repeat(first|exact(Kd.C_below v0.out HB.out)|(with_reducible refine Kd.C_alloc ?_ _)|(with_reducible refine Kd.C_drewN ?_ _)|(with_reducible refine Kd.C_drew ?_)));(case side2=>exact x0.out);(case side3=>repeat(first|exact(Kd.C_below y0.out HB.out)|(with_reducible refine Kd.C_alloc ?_ _)|(with_reducible refine Kd.C_drewN ?_ _)|(with_reducible refine Kd.C_drew ?_)));(case side4=>exact A0.out);rintro a1 hb;replace a0:=bb_ a0 hb;replace g0:=bb_ g0 hb;replace HB:=bs_ HB hb;(try clear hb)))
 go_ret
 exact⟨er_,bw_ HB⟩
end Go.Proofs.YtolakamimfhcjaaGreatDoor.QFnExactOpenJournal
