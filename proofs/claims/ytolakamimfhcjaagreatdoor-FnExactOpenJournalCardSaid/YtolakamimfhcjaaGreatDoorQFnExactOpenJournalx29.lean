/- Written by this session's own program: what the law's functions come to, and that the machine's calls do just that. -/
import Derived.Test.YtolakamimfhcjaaGreatDoorQFnExactOpenJournalx12
import Derived.Test.YtolakamimfhcjaaGreatDoorQFnExactOpenJournalx23
import Derived.Test.YtolakamimfhcjaaGreatDoorQFnExactOpenJournalx26
namespace Go.Proofs.YtolakamimfhcjaaGreatDoor.QFnExactOpenJournal
open Go.RowKit Go.Proofs.YtolakamimfhcjaaGreatDoorW.PrintWords Go.Proofs.YtolakamimfhcjaaGreatDoorW.PrintLast Go.Proofs.YtolakamimfhcjaaGreatDoorW.PrintMore
attribute [local go_sem] Go.Proofs.YtolakamimfhcjaaGreatDoor.Sem.string_geq Go.Proofs.YtolakamimfhcjaaGreatDoor.Sem.string_leq Go.Proofs.YtolakamimfhcjaaGreatDoor.Sem.string_gtr
attribute [local go_sem] max2_int min2_int max_two min_two max_three min_three max_four min_four
set_option linter.unusedVariables false
set_option linter.unusedSimpArgs false
set_option maxHeartbeats 8000000
set_option maxRecDepth 100000
mutual
def laws_FnExactOpenJournal.j0:Nat→List (S57)→Bool→List (S57)→Bool→Bool→List (S70)→Int→Int→Int→Int→Int→List (S105)→List (S49)→Int→Int→Int→Int→Int→List (S105)→Option (Bool)
 |0,_,_,_,_,_,_,_,_,_,_,_,_,_,_,_,_,_,_,_=>none
 |k+1,x5,x6,x9,C0,F0,a0,b0,d0,e0,g0,h0,m0,n0,o0,p0,q0,r0,s0,t0=>if F0=true then(none) else((laws_toDisk.f k a0).bind fun x0=>((laws_eqDisk.f k n0 x0).bind fun y0=>(if y0=true then((laws_markDisk.f k n0 1).bind fun v0=>(if v0.1<0 then(none) else((laws_eqJournal.f k o0 p0 q0 r0 s0 t0 b0 d0 e0 g0 h0 m0).bind fun A0=>(if A0=true then((laws_eqActS.f k x9 x5).bind fun B0=>(if B0=true then(laws_FnExactOpenJournal.j1 k x5 x6 x9 (C0 != x6) a0 b0 d0 e0 g0 h0 m0 o0 p0 q0 r0 s0 t0) else(none))) else(none))))) else(none))))
def laws_FnExactOpenJournal.j1:Nat→List (S57)→Bool→List (S57)→Bool→List (S70)→Int→Int→Int→Int→Int→List (S105)→Int→Int→Int→Int→Int→List (S105)→Option (Bool)
 |0,_,_,_,_,_,_,_,_,_,_,_,_,_,_,_,_,_=>none
 |k+1,x5,x6,x9,G0,o0,p0,q0,r0,s0,t0,v0,b0,d0,e0,g0,h0,x0=>if G0=true then(none) else((laws_markJournal.f k b0 d0 e0 g0 h0 x0 1).bind fun n0=>((laws_markActS.f k x9 n0.1).bind fun m0=>((laws_heldJournal.f k b0 d0 e0 g0 h0 n0.2 1).bind fun y0=>(if y0<0 then(none) else((laws_heldActS.f k m0.2 y0).bind fun A0=>(if A0<0 then(none) else(if A0=m0.1 then((laws_toDisk.f k o0).bind fun B0=>((impl_OpenJournal.f k B0).bind fun a0=>((laws_eqJournal.f k a0.1 a0.2.1 a0.2.2.1 a0.2.2.2.1 a0.2.2.2.2.1 a0.2.2.2.2.2.1 p0 q0 r0 s0 t0 v0).bind fun C0=>(if C0=true then((laws_eqActS.f k a0.2.2.2.2.2.2.1 x5).bind fun F0=>(if F0=true then(laws_FnExactOpenJournal.j2 k m0.2 m0.1 (a0.2.2.2.2.2.2.2 != x6) b0 d0 e0 g0 h0 n0.2) else(none))) else(none))))) else(none))))))))
def laws_FnExactOpenJournal.j2:Nat→List (S57)→Int→Bool→Int→Int→Int→Int→Int→List (S105)→Option (Bool)
 |0,_,_,_,_,_,_,_,_,_=>none
 |k+1,x9,p0,o0,a0,b0,d0,e0,g0,h0=>if o0=true then(none) else((laws_heldJournal.f k a0 b0 d0 e0 g0 h0 1).bind fun m0=>(if m0<0 then(none) else((laws_heldActS.f k x9 m0).bind fun n0=>(if n0<0 then(none) else(if n0=p0 then(some true) else(none))))))
end
def laws_FnExactOpenJournal.f (k:Nat) (d0:List (S70)):Option (Bool):=(laws_szDisk.f k d0 1048576).bind fun g0=>(if g0<0 then(some true) else((laws_toDisk.f k d0).bind fun h0=>((spec_OpenJournal.f k h0).bind fun a0=>((laws_toDisk.f k d0).bind fun e0=>((impl_OpenJournal.f k e0).bind fun b0=>((laws_eqJournal.f k b0.1 b0.2.1 b0.2.2.1 b0.2.2.2.1 b0.2.2.2.2.1 b0.2.2.2.2.2.1 a0.1 a0.2.1 a0.2.2.1 a0.2.2.2.1 a0.2.2.2.2.1 a0.2.2.2.2.2.1).bind fun m0=>(if m0=true then((laws_eqActS.f k b0.2.2.2.2.2.2.1 a0.2.2.2.2.2.2.1).bind fun n0=>(if n0=true then(laws_FnExactOpenJournal.j0 k a0.2.2.2.2.2.2.1 a0.2.2.2.2.2.2.2 b0.2.2.2.2.2.2.1 b0.2.2.2.2.2.2.2 (b0.2.2.2.2.2.2.2 != a0.2.2.2.2.2.2.2) d0 a0.1 a0.2.1 a0.2.2.1 a0.2.2.2.1 a0.2.2.2.2.1 a0.2.2.2.2.2.1 e0 b0.1 b0.2.1 b0.2.2.1 b0.2.2.2.1 b0.2.2.2.2.1 b0.2.2.2.2.2.1) else(none))) else(none))))))))
theorem laws_FnExactOpenJournal.calls (k:Nat) (e1:Option Addr) (g1:Nat) (A0:List (S70)) (r:Bool) (w:World) (hT:Tab2 w) (J2:Kd.C k70 w e1 A0.length A0) (K2:A0.length≤g1) (h:laws_FnExactOpenJournal.f k A0=some r):
  Calls Tryz.prog 3 #[.agg #[.slice e1 A0.length g1]] w fun e w'=>e= .returned (.bool r)∧Below w.heap.size w w':=by
 have AA:=Tryz.underlying24
 have BA:=Tryz.underlying30
 have CA:=Tryz.underlying36
 have D1:=Aside0.mk J2
 have F1:=Aside0.mk K2
 clear J2 K2
 have HT:=Aside0.mk hT
 clear hT
 have HB:=mk_ (Below.refl w.heap.size w)
 have H:=h
 unfold laws_FnExactOpenJournal.f at H
 clear h
 obtain⟨X2,A2,H⟩:=ob_ H
 try dsimp only at H
 by_cases c3:X2<0
 ·rw [if_pos c3] at H
  have O7:=decide_eq_true c3
  clear c3
  obtain rfl:=Option.some.inj H
  go_enter Tryz.func3,Tryz.ntmps3
  go_wp2_with (first|((with_reducible refine gn_ 1 rfl ?_);refine bv_ (cs:=#[.slice e1 A0.length g1]) (t:=24) HB ?_;clear HB;intro R1 w4 e0 m3 HB;obtain⟨P7,Q7⟩:=b1_ e0)|((with_reducible refine gc_ 4 rfl ?_);refine gx_ 19 Tryz.func4 #[.agg #[.slice e1 A0.length g1],.int .i64 1048576] (laws_szDisk.calls k _ _ A0 1048576 X2 _ ?side1 ?side2 A2.out) ?_;(case side1=>repeat(first|exact(Kd.C_below D1.out HB.out)|(with_reducible refine Kd.C_alloc ?_ _)|(with_reducible refine Kd.C_drewN ?_ _)|(with_reducible refine Kd.C_drew ?_)));(case side2=>exact F1.out);rintro w6 hb;replace e0:=bb_ e0 hb;replace HB:=bs_ HB hb;(try clear hb)))
  go_ret
  exact⟨er_,bw_ HB⟩
 rw [if_neg c3] at H
 have O7:=decide_eq_false c3
 clear c3
 obtain⟨B2,A7,H⟩:=ob_ H
 try dsimp only at H
 obtain⟨⟨r1,s1,t1,v1,x1,y0,U1,W1⟩,A8,H⟩:=ob_ H
 try dsimp only at H
 obtain⟨B0,A9,H⟩:=ob_ H
 try dsimp only at H
 obtain⟨⟨V0,W0,X0,Y0,Z0,s0,m1,C2⟩,DA,H⟩:=ob_ H
 try dsimp only at H
 have Y2:=Aside0.mk H
 clear H
 go_enter Tryz.func3,Tryz.ntmps3
 go_upto_region 8 with (first|((with_reducible refine gn_ 1 rfl ?_);refine bv_ (cs:=#[.slice e1 A0.length g1]) (t:=24) HB ?_;clear HB;intro R1 GB e0 m3 HB;obtain⟨q5,r5⟩:=b1_ e0)|((with_reducible refine gc_ 4 rfl ?_);refine gx_ 19 Tryz.func4 #[.agg #[.slice e1 A0.length g1],.int .i64 1048576] (laws_szDisk.calls k _ _ A0 1048576 X2 _ ?side1 ?side2 A2.out) ?_;(case side1=>repeat(first|exact(Kd.C_below D1.out HB.out)|(with_reducible refine Kd.C_alloc ?_ _)|(with_reducible refine Kd.C_drewN ?_ _)|(with_reducible refine Kd.C_drew ?_)));(case side2=>exact F1.out);rintro IB hb;replace e0:=bb_ e0 hb;replace HB:=bs_ HB hb;(try clear hb);(try clear hk);obtain⟨s5,t5⟩:=b1_ e0)|((with_reducible refine gc_ 6 rfl ?_);refine gl_ 24 Tryz.func6 #[.agg #[.slice e1 A0.length g1]] ?_;(with_reducible refine(laws_toDisk.calls k _ _ A0 B2 _ ?side1 ?side2 A7.out).mono ?_);(case side1=>repeat(first|exact(Kd.C_below D1.out HB.out)|(with_reducible refine Kd.C_alloc ?_ _)|(with_reducible refine Kd.C_drewN ?_ _)|(with_reducible refine Kd.C_drew ?_)));(case side2=>exact F1.out);rintro e JB ⟨EA,rfl,p1,hb⟩;refine⟨_,rfl,?_⟩;have t0:=mk_ (Kd.R_lower p1 (below_size (bw_ HB)));replace e0:=bb_ e0 hb;replace HB:=bs_ HB hb;(try clear hb);(try clear hk);(try clear p1);obtain⟨n3,o3,R7⟩:=Kd.R_slice t0.out;subst R7)|((with_reducible refine gc_ 5 rfl ?_);refine gl_ 25 Tryz.func5 #[.agg #[.slice n3 B2.length o3]] ?_;(with_reducible refine(spec_OpenJournal.calls k _ _ B2 r1 s1 t1 v1 x1 y0 U1 W1 _ ?side1 ?side2 A8.out).mono ?_);(case side1=>repeat(first|exact(Kd.R_reads' t0.out).2.2|(with_reducible refine Kd.C_alloc ?_ _)|(with_reducible refine Kd.C_drewN ?_ _)|(with_reducible refine Kd.C_drew ?_)));(case side2=>exact(Kd.R_reads' t0.out).2.1);rintro e KB ⟨FA,X1,rfl,p1,m2,hb⟩;refine⟨_,rfl,?_⟩;have v0:=mk_ (Kd.R_lower p1 (below_size (bw_ HB)));have x0:=mk_ (Kd.R_lower m2 (below_size (bw_ HB)));replace t0:=rb_ t0 hb;replace e0:=bb_ e0 hb;replace HB:=bs_ HB hb;(try clear hb);(try clear hk);(try clear p1);(try clear m2))|((with_reducible refine gn_ 4 rfl ?_);refine bn_ (cs:=#[.int .i64 0,.int .i64 0,.int .i64 0,.int .i64 0,.int .i64 0,.slice none 0 0]) (t:=30) HB ?_;intro n2 LB hg hb g0 m9 hB_;have Y1:=bl_ e0 hg;have U0:=bg_ e0 hg;replace t0:=rb_ t0 hb;replace v0:=rb_ v0 hb;replace x0:=rb_ x0 hb;replace e0:=bb_ e0 hb;replace HB:=hB_;clear hb hB_ hg;obtain⟨o9,p9⟩:=ns_ U0;obtain⟨v5,w5,x5,y5,A5,C5,D5,F5,G5,H5,I5,J5⟩:=b6_ g0;obtain⟨Q0,O0,U7⟩:=Kd.R_slice v0.out;subst U7;obtain⟨K5,L5⟩:=b1_ e0)|((with_reducible refine gc_ 6 rfl ?_);refine gl_ 30 Tryz.func6 #[.agg #[.slice e1 A0.length g1]] ?_;(with_reducible refine(laws_toDisk.calls k _ _ A0 B0 _ ?side1 ?side2 A9.out).mono ?_);(case side1=>exact Kd.C_below D1.out (bw_ HB));(case side2=>exact F1.out);rintro e MB ⟨GA,rfl,p1,hb⟩;refine⟨_,rfl,?_⟩;have I0:=mk_ (Kd.R_lower (Kd.R_new' p1 (Kd.R_lt (rg_ t0 g0))) (below_size (bw_ HB)));replace t0:=mk_ (Kd.R_elder' (rg_ t0 g0) (Kd.R_base p1) hb);replace v0:=mk_ (Kd.R_below (rg_ v0 g0) hb);replace x0:=mk_ (Kd.R_below (rg_ x0 g0) hb);replace e0:=bq_ e0 hb;replace g0:=bU_ g0 #[.int .i64 r1,.int .i64 s1,.int .i64 t1,.int .i64 v1,.int .i64 x1,.slice Q0 y0.length O0] hb;replace HB:=bs_ HB hb;(try clear hb);(try clear hk);(try clear p1))|((with_reducible refine gn_ 7 rfl ?_);refine bn_ (cs:=#[.slice none 0 0]) (t:=36) HB ?_;intro V1 NB hg hb h0 q9 hB_;have Z1:=bl_ e0 hg;have G1:=bg_ e0 hg;have o1:=bl_ g0 hg;have H1:=bg_ g0 hg;replace t0:=rb_ t0 hb;replace v0:=rb_ v0 hb;replace x0:=rb_ x0 hb;replace I0:=rb_ I0 hb;replace e0:=bb_ e0 hb;replace g0:=bb_ g0 hb;replace HB:=hB_;clear hb hB_ hg;obtain⟨K0,J0,V7⟩:=Kd.R_slice I0.out;subst V7;obtain⟨r9,s9⟩:=ns_ G1;obtain⟨t9,v9⟩:=ns_ H1;obtain⟨M5,N5⟩:=b1_ h0)|((with_reducible refine gc_ 7 rfl ?_);refine gl_ 33 Tryz.func7 #[.agg #[.slice K0 B0.length J0]] ?_;(with_reducible refine(impl_OpenJournal.calls k _ _ B0 V0 W0 X0 Y0 Z0 s0 m1 C2 _ (tab22 HT HB) ?side1 ?side2 DA.out).mono ?_);(case side1=>refine(Kd.R_reads' (e:=49) (base:=w.heap.size) (ok:=fun k_=>(True∧some k_≠(.slice n3 B2.length o3:Value).ownBlock)) (n:=B0.length) (c:=J0) ?_).2.2;exact(rq_ (rf_ I0 h0 0 (.slice K0 B0.length J0))));(case side2=>exact(Kd.R_reads' I0.out).2.1);rintro e OB ⟨IA,a2,rfl,p1,m2,hb⟩;refine⟨_,rfl,?_⟩;have a1:=mk_ (Kd.R_lower (Kd.R_new' p1 (Kd.R_lt (rq_ (rf_ v0 h0 0 (.slice K0 B0.length J0))))) (below_size (bw_ HB)));have b1:=mk_ (Kd.R_lower (Kd.R_new' m2 (Kd.R_lt (rq_ (rf_ x0 h0 0 (.slice K0 B0.length J0))))) (below_size (bw_ HB)));replace t0:=mk_ (Kd.R_below (rq_ (rf_ t0 h0 0 (.slice K0 B0.length J0))) hb);replace v0:=mk_ (Kd.R_elder' (rq_ (rf_ v0 h0 0 (.slice K0 B0.length J0))) (Kd.R_base p1) hb);replace x0:=mk_ (Kd.R_elder' (rq_ (rf_ x0 h0 0 (.slice K0 B0.length J0))) (Kd.R_base m2) hb);replace I0:=mk_ (Kd.R_below (rq_ (rf_ I0 h0 0 (.slice K0 B0.length J0))) hb);replace e0:=bq_ e0 hb;replace g0:=bq_ g0 hb;replace h0:=bU_ h0 #[.slice K0 B0.length J0] hb;replace HB:=bs_ HB hb;(try clear hb);(try clear hk);(try clear p1);(try clear m2))|((with_reducible refine gn_ 8 rfl ?_);refine bn_ (cs:=#[.int .i64 0,.int .i64 0,.int .i64 0,.int .i64 0,.int .i64 0,.slice none 0 0]) (t:=30) HB ?_;intro o2 PB hg hb m0 w9 hB_;have g3:=bl_ e0 hg;have L0:=bg_ e0 hg;have b2:=bl_ g0 hg;have M0:=bg_ g0 hg;have d2:=bl_ h0 hg;have N0:=bg_ h0 hg;replace t0:=rb_ t0 hb;replace v0:=rb_ v0 hb;replace x0:=rb_ x0 hb;replace I0:=rb_ I0 hb;replace a1:=rb_ a1 hb;replace b1:=rb_ b1 hb;replace e0:=bb_ e0 hb;replace g0:=bb_ g0 hb;replace h0:=bb_ h0 hb;replace HB:=hB_;clear hb hB_ hg;obtain⟨x9,y9⟩:=ns_ L0;obtain⟨C9,D9⟩:=ns_ M0;obtain⟨F9,G9⟩:=ns_ N0;obtain⟨O5,P5,Q5,R5,U5,V5,W5,X5,Y5,Z5,a6,b6⟩:=b6_ m0;obtain⟨H0,F0,W7⟩:=Kd.R_slice a1.out;subst W7))
 (try simp only [Act.put,sia_,scz_,scs_])
 go_cut [51] (fun JA wc=>∃(kq:Nat) (M1:Bool),JA= .bool M1∧Aside0 (laws_FnExactOpenJournal.j0 kq U1 W1 m1 C2 M1 A0 r1 s1 t1 v1 x1 y0 B0 V0 W0 X0 Y0 Z0 s0=some r)∧Aside0 (kq≤k)∧Aside0 (Kd.R k57 57 wc w.heap.size (fun k_=>some k_≠(a2:Value).ownBlock) X1 U1)∧Aside0 (Kd.R k57 57 wc w.heap.size (fun k_=>some k_≠(X1:Value).ownBlock) a2 m1)∧Aside0 (Kd.R k105 105 wc w.heap.size (fun k_=>some k_≠((.slice H0 s0.length F0):Value).ownBlock) (.slice Q0 y0.length O0) y0)∧Aside0 (Kd.R k49 49 wc w.heap.size (fun _=>True) (.slice K0 B0.length J0) B0)∧Aside0 (Kd.R k105 105 wc w.heap.size (fun k_=>some k_≠((.slice Q0 y0.length O0):Value).ownBlock) (.slice H0 s0.length F0) s0)∧Aside0 (wc.heap[R1]? =some (.cells #[(.slice e1 A0.length g1)] 24 (0,0)))∧Aside0 (wc.heap[n2]? =some (.cells #[.int .i64 r1,.int .i64 s1,.int .i64 t1,.int .i64 v1,.int .i64 x1,(.slice Q0 y0.length O0)] 30 (0,0)))∧Aside0 (wc.heap[V1]? =some (.cells #[(.slice K0 B0.length J0)] 36 (0,0)))∧Aside0 (wc.heap[o2]? =some (.cells #[.int .i64 V0,.int .i64 W0,.int .i64 X0,.int .i64 Y0,.int .i64 Z0,(.slice H0 s0.length F0)] 30 (0,0)))∧Aside0 (Below w.heap.size w wc))
 case first=>
  have H:=Y2.out
  clear Y2
  obtain⟨KA,LA,H⟩:=ob_ H
  try dsimp only at H
  obtain⟨rfl,H⟩:=gd_ H
  obtain⟨MA,NA,H⟩:=ob_ H
  try dsimp only at H
  obtain⟨rfl,H⟩:=gd_ H
  have H':=Aside0.mk H
  clear H
  obtain⟨H9,I9⟩:=ns_ L0
  obtain⟨J9,K9⟩:=ns_ M0
  obtain⟨L9,M9⟩:=ns_ N0
  obtain⟨d6,e6,g6,h6,j6,l6,m6,o6,p6,q6,r6,s6⟩:=b6_ m0
  obtain⟨N9,O9⟩:=ns_ U0
  obtain⟨P9,Q9⟩:=ns_ o1
  obtain⟨t6,v6,x6,y6,A6,C6,D6,F6,G6,H6,I6,J6⟩:=b6_ g0
  go_wp2_with (first|((with_reducible refine gc_ 8 rfl ?_);refine gx_ 39 Tryz.func8 #[.agg #[.int .i64 V0,.int .i64 W0,.int .i64 X0,.int .i64 Y0,.int .i64 Z0,.slice H0 s0.length F0],.agg #[.int .i64 r1,.int .i64 s1,.int .i64 t1,.int .i64 v1,.int .i64 x1,.slice Q0 y0.length O0]] (laws_eqJournal.calls k V0 W0 X0 Y0 Z0 _ _ s0 r1 s1 t1 v1 x1 _ _ y0 true _ ?side1 ?side2 ?side3 ?side4 LA.out) ?_;(case side1=>refine(Kd.R_reads' (e:=105) (base:=w.heap.size) (ok:=fun k_=>(True∧some k_≠(.slice Q0 y0.length O0:Value).ownBlock)) (n:=s0.length) (c:=F0) ?_).2.2;exact(rg_ a1 m0));(case side2=>exact(Kd.R_reads' a1.out).2.1);(case side3=>refine(Kd.R_reads' (e:=105) (base:=w.heap.size) (ok:=fun k_=>(True∧some k_≠(.slice H0 s0.length F0:Value).ownBlock)) (n:=y0.length) (c:=O0) ?_).2.2;exact(rg_ v0 m0));(case side4=>exact(Kd.R_reads' v0.out).2.1);rintro QB hb;replace t0:=mk_ (Kd.R_below (rg_ t0 m0) hb);replace v0:=mk_ (Kd.R_below (rg_ v0 m0) hb);replace x0:=mk_ (Kd.R_below (rg_ x0 m0) hb);replace I0:=mk_ (Kd.R_below (rg_ I0 m0) hb);replace a1:=mk_ (Kd.R_below (rg_ a1 m0) hb);replace b1:=mk_ (Kd.R_below (rg_ b1 m0) hb);replace e0:=bq_ e0 hb;replace g0:=bq_ g0 hb;replace h0:=bq_ h0 hb;replace m0:=bU_ m0 #[.int .i64 V0,.int .i64 W0,.int .i64 X0,.int .i64 Y0,.int .i64 Z0,.slice H0 s0.length F0] hb;replace HB:=bs_ HB hb;(try clear hb);(try clear hk);obtain⟨OA,PA,X7⟩:=Kd.R_slice b1.out;subst X7;obtain⟨QA,RA,Y7⟩:=Kd.R_slice x0.out;subst Y7)|(go_at_call 9;(with_reducible refine(laws_eqActS.calls k _ _ m1 _ _ U1 true _ ?side1 ?side2 ?side3 ?side4 NA.out).mono ?_);(case side1=>repeat(first|exact(Kd.R_reads' b1.out).2.2|(with_reducible refine Kd.C_alloc ?_ _)|(with_reducible refine Kd.C_drewN ?_ _)|(with_reducible refine Kd.C_drew ?_)));(case side2=>exact(Kd.R_reads' b1.out).2.1);(case side3=>repeat(first|exact(Kd.R_reads' x0.out).2.2|(with_reducible refine Kd.C_alloc ?_ _)|(with_reducible refine Kd.C_drewN ?_ _)|(with_reducible refine Kd.C_drew ?_)));(case side4=>exact(Kd.R_reads' x0.out).2.1);rintro e RB ⟨rfl,hb⟩;replace t0:=rb_ t0 hb;replace v0:=rb_ v0 hb;replace x0:=rb_ x0 hb;replace I0:=rb_ I0 hb;replace a1:=rb_ a1 hb;replace b1:=rb_ b1 hb;replace e0:=bb_ e0 hb;replace g0:=bb_ g0 hb;replace h0:=bb_ h0 hb;replace m0:=bb_ m0 hb;replace HB:=bs_ HB hb;(try clear hb);(try clear hk)))
  go_meet
  case rel=>exact⟨_,((C2 != W1)),rl_,H',⟨by first|omega|exact Nat.le_refl _⟩,⟨rq_ (Kd.R_mono x0.out (fun _ hk=>hk.2))⟩,⟨rq_ (Kd.R_mono b1.out (fun _ hk=>hk.2))⟩,⟨rq_ (Kd.R_mono v0.out (fun _ hk=>hk.2))⟩,⟨rq_ (Kd.R_mono I0.out (fun _ hk=>trivial))⟩,⟨rq_ (Kd.R_mono a1.out (fun _ hk=>hk.2))⟩,⟨bf_⟩,⟨bf_⟩,⟨bf_⟩,⟨bf_⟩,⟨bw_ HB⟩⟩
 case rest=>
  clear Y2
  try clear p2
  obtain⟨kq,M1,rfl,HA,q3,q0,o0,d0,b0,a0,e0,g0,h0,m0,HB⟩:=hcut
  cases kq with
  |zero=>exact absurd HA.out (by simp [laws_FnExactOpenJournal.j0])
  |succ e2=>
   have H:=HA.out
   clear HA
   simp only [laws_FnExactOpenJournal.j0] at H
   by_cases K6:M1=true
   ·subst K6
    rw [if_pos rfl] at H
    cases H
   replace K6:=Bool.eq_false_iff.mpr K6
   subst K6
   rw [if_neg (show ¬(false=true) by decide)] at H
   obtain⟨Z2,SA,H⟩:=ob_ H
   try dsimp only at H
   obtain⟨TA,UA,H⟩:=ob_ H
   try dsimp only at H
   obtain⟨rfl,H⟩:=gd_ H
   obtain⟨⟨r3,q2⟩,VA,H⟩:=ob_ H
   try dsimp only at H
   have a3:=Aside0.mk H
   clear H
   try go_wp2
   replace q0:=rd_ q0;replace o0:=rd_ o0;replace d0:=rd_ d0;replace b0:=rd_ b0;replace a0:=rd_ a0;replace e0:=kd_ e0;replace g0:=kd_ g0;replace h0:=kd_ h0;replace m0:=kd_ m0;replace HB:=wd_ HB
   refine start_ (n:=5) (S:=fun w'=>w'.cell? ⟨V1,0,none⟩=some (.slice K0 B0.length J0)∧w'.cell? ⟨R1,0,none⟩=some (.slice e1 A0.length g1)) (ds:=[]) #[false,false,false,false,false] (by kernel_rfl) rfl rfl ⟨bc_ h0 0,bc_ e0 0⟩ (fun hHeld=>?_)
   generalize wc.drew=SB at q0 o0 d0 b0 a0 e0 g0 h0 m0 HB hHeld⊢
   refine tv_ 0 52 hHeld ?_
   refine tv_ 1 53 hHeld ?_
   refine one_ (i:=2) (N:=some 54) #[true,true,true,false,false] rfl rfl (by kernel_rfl) (by decide) (fun K hK=>?_)
   refine goes_ Tryz.func6 (by kernel_rfl) rfl #[.agg #[.slice e1 A0.length g1]] (by rfl) rfl rfl ga_ ?_
   with_reducible refine(laws_toDisk.calls e2 _ _ A0 Z2 _ ?side1 ?side2 SA.out).mono ?_
   (case side1=>repeat(first|exact(Kd.C_below D1.out HB.out)|(with_reducible refine Kd.C_alloc ?_ _)|(with_reducible refine Kd.C_drewN ?_ _)|(with_reducible refine Kd.C_drew ?_)))
   (case side2=>exact F1.out)
   rintro e TB ⟨WA,rfl,p1,hb⟩
   refine⟨_,rfl,?_⟩
   have r2:=mk_ (Kd.R_elder' (rp_ b0) (Kd.R_base p1) hb)
   have s2:=mk_ (Kd.R_lower (Kd.R_new' p1 (Kd.R_lt (rp_ b0))) (below_size (bw_ HB)))
   clear b0;have b0:=r2;have P0:=s2;clear r2 s2;replace q0:=rb_ q0 hb;replace o0:=rb_ o0 hb;replace d0:=rb_ d0 hb;replace a0:=rb_ a0 hb;replace e0:=bb_ e0 hb;replace g0:=bb_ g0 hb;replace h0:=bb_ h0 hb;replace m0:=bb_ m0 hb;replace HB:=bs_ HB hb;(try clear hb);(try clear XA);(try clear hk);(try clear hi);(try clear p1)
   obtain⟨Z7,a8,s3⟩:=Kd.R_slice P0.out
   (first|subst s3|(injection s3 with R9 YA U9;have ZA:=R9.symm;have aB:=U9.symm;clear R9 YA U9;subst ZA;subst aB))
   refine hK.out _ _ ⟨bc_ h0 0,bc_ e0 0⟩ (fun hHeld=>?_)
   clear hK K
   refine norm_ (a':=?_) ?_ ?_
   rotate_left
   ·show Act.put _ (some 54) _=_
    simp only [Act.put,sia_,scz_,scs_,i64_w,i32_w]
    rfl
   refine one_ (i:=3) (N:=some 55) #[true,true,true,true,false] rfl rfl (by kernel_rfl) (by decide) (fun K hK=>?_)
   refine gt_ Tryz.func10 #[.agg #[.slice K0 B0.length J0],.agg #[.slice Z7 Z2.length a8]] (laws_eqDisk.calls e2 _ _ B0 _ _ Z2 true _ ?side1 ?side2 ?side3 ?side4 UA.out) ?_
   (case side1=>repeat(first|exact(Kd.R_reads' b0.out).2.2|(with_reducible refine Kd.C_alloc ?_ _)|(with_reducible refine Kd.C_drewN ?_ _)|(with_reducible refine Kd.C_drew ?_)))
   (case side2=>exact(Kd.R_reads' b0.out).2.1)
   (case side3=>repeat(first|exact(Kd.R_reads' P0.out).2.2|(with_reducible refine Kd.C_alloc ?_ _)|(with_reducible refine Kd.C_drewN ?_ _)|(with_reducible refine Kd.C_drew ?_)))
   (case side4=>exact(Kd.R_reads' P0.out).2.1)
   rintro UB hb
   replace q0:=rb_ q0 hb;replace o0:=rb_ o0 hb;replace d0:=rb_ d0 hb;replace b0:=rb_ b0 hb;replace a0:=rb_ a0 hb;replace P0:=rb_ P0 hb;replace e0:=bb_ e0 hb;replace g0:=bb_ g0 hb;replace h0:=bb_ h0 hb;replace m0:=bb_ m0 hb;replace HB:=bs_ HB hb;(try clear hb);(try clear XA);(try clear hk);(try clear hi)
   refine hK.out _ _ ⟨bc_ h0 0,bc_ e0 0⟩ (fun hHeld=>?_)
   clear hK K
   refine norm_ (a':=?_) ?_ ?_
   rotate_left
   ·show Act.put _ (some 55) _=_
    simp only [Act.put,sia_,scz_,scs_,i64_w,i32_w]
    rfl
   refine pv_ 4 56 ?_
   refine done_ (by kernel_rfl) ?_
   obtain⟨V9,W9⟩:=ns_ G1
   obtain⟨X9,Y9⟩:=ns_ H1
   obtain⟨Z9,aA⟩:=ns_ d2
   obtain⟨L6,M6⟩:=b1_ h0
   go_upto_region 14 with (first|((with_reducible refine gc_ 11 rfl ?_);refine gm_ 59 Tryz.func11 (laws_markDisk.calls e2 (fun k_=>some k_=(.slice K0 B0.length J0:Value).ownBlock) (.slice K0 B0.length J0) B0 1 r3 q2 w _ ?side1 ?side2 VA.out) ?_;(case side1=>exact bw_ HB);(case side2=>exact Kd.R_tight rfl b0.out);rintro VB ⟨L2,hb,hkp⟩;have M2:=mk_ (Kd.R_mono (ok':=fun k_=>some k_≠(a2:Value).ownBlock) (Kd.R_keptB ((Kd.R_apart' q0.out (Kd.R_typed b0.out) (by decide))) hkp (fun k_ hk_ hs_=>(hk_.2) hs_)) (fun k_ hk_=>hk_.1.1));have N2:=mk_ (Kd.R_mono (ok':=fun k_=>some k_≠(X1:Value).ownBlock) (Kd.R_keptB ((Kd.R_apart' o0.out (Kd.R_typed b0.out) (by decide))) hkp (fun k_ hk_ hs_=>(hk_.2) hs_)) (fun k_ hk_=>hk_.1.1));have O2:=mk_ (Kd.R_mono (ok':=fun k_=>some k_≠(.slice H0 s0.length F0:Value).ownBlock) (Kd.R_keptB ((Kd.R_apart' d0.out (Kd.R_typed b0.out) (by decide))) hkp (fun k_ hk_ hs_=>(hk_.2) hs_)) (fun k_ hk_=>hk_.1.1));have r2:=mk_ (Kd.R_reok rfl L2 (fun k_ e_=>b0.out.1 k_ e_));have P2:=mk_ (Kd.R_mono (ok':=fun k_=>some k_≠(.slice Q0 y0.length O0:Value).ownBlock) (Kd.R_keptB ((Kd.R_apart' a0.out (Kd.R_typed b0.out) (by decide))) hkp (fun k_ hk_ hs_=>(hk_.2) hs_)) (fun k_ hk_=>hk_.1.1));have s2:=mk_ (blk_kept (bp_ e0) hkp (fun hs_=>(fun e_=>(Kd.R_ne b0.out e0.out (by decide)) e_) hs_));have Q2:=mk_ (blk_kept (bp_ g0) hkp (fun hs_=>(fun e_=>(Kd.R_ne b0.out g0.out (by decide)) e_) hs_));have R2:=mk_ (blk_kept (bp_ h0) hkp (fun hs_=>(fun e_=>(Kd.R_ne b0.out h0.out (by decide)) e_) hs_));have U2:=mk_ (blk_kept (bp_ m0) hkp (fun hs_=>(fun e_=>(Kd.R_ne b0.out m0.out (by decide)) e_) hs_));have V2:=mk_ (Kd.R_mono (ok':=fun k_=>some k_≠(.slice K0 B0.length J0:Value).ownBlock) (Kd.R_keptB (P0.out) hkp (fun k_ hk_ hs_=>(hk_.2) hs_)) (fun k_ hk_=>hk_.1.2));have t3:=mk_ (hb);clear q0;clear o0;clear d0;clear b0;clear a0;clear e0;clear g0;clear h0;clear m0;clear P0;clear HB;have q0:=M2;have o0:=N2;have d0:=O2;have b0:=r2;have a0:=P2;have e0:=s2;have g0:=Q2;have h0:=R2;have m0:=U2;have P0:=V2;have HB:=t3;clear M2 N2 O2 r2 P2 s2 Q2 R2 U2 V2 t3;(try clear hb);(try clear hkp);(try clear L2)))
   (try simp only [Act.put,sia_,scz_,scs_])
   go_cut [78] (fun bB wc=>∃(kq:Nat) (N1:Bool),bB= .bool N1∧Aside0 (laws_FnExactOpenJournal.j1 kq U1 W1 m1 N1 A0 r1 s1 t1 v1 x1 y0 V0 W0 X0 Y0 Z0 s0=some r)∧Aside0 (kq≤e2)∧Aside0 (Kd.R k57 57 wc w.heap.size (fun k_=>some k_≠(a2:Value).ownBlock) X1 U1)∧Aside0 (Kd.R k57 57 wc w.heap.size (fun k_=>some k_≠(X1:Value).ownBlock) a2 m1)∧Aside0 (Kd.R k105 105 wc w.heap.size (fun k_=>some k_≠((.slice H0 s0.length F0):Value).ownBlock) (.slice Q0 y0.length O0) y0)∧Aside0 (Kd.R k49 49 wc w.heap.size (fun _=>True) (.slice K0 B0.length J0) q2)∧Aside0 (Kd.R k105 105 wc w.heap.size (fun k_=>some k_≠((.slice Q0 y0.length O0):Value).ownBlock) (.slice H0 s0.length F0) s0)∧Aside0 (wc.heap[R1]? =some (.cells #[(.slice e1 A0.length g1)] 24 (0,0)))∧Aside0 (wc.heap[n2]? =some (.cells #[.int .i64 r1,.int .i64 s1,.int .i64 t1,.int .i64 v1,.int .i64 x1,(.slice Q0 y0.length O0)] 30 (0,0)))∧Aside0 (wc.heap[V1]? =some (.cells #[(.slice K0 B0.length J0)] 36 (0,0)))∧Aside0 (wc.heap[o2]? =some (.cells #[.int .i64 V0,.int .i64 W0,.int .i64 X0,.int .i64 Y0,.int .i64 Z0,(.slice H0 s0.length F0)] 30 (0,0)))∧Aside0 (Below w.heap.size w wc))
   case first=>
    have H:=a3.out
    clear a3
    by_cases N6:r3<0
    ·rw [if_pos N6] at H
     cases H
    rw [if_neg N6] at H
    have W2:=decide_eq_false N6
    clear N6
    (first|rw [W2]|(simp only [i64_w,i32_w];rw [W2])|skip)
    obtain⟨cB,dB,H⟩:=ob_ H
    try dsimp only at H
    obtain⟨rfl,H⟩:=gd_ H
    obtain⟨eB,fB,H⟩:=ob_ H
    try dsimp only at H
    obtain⟨rfl,H⟩:=gd_ H
    have H':=Aside0.mk H
    clear H
    obtain⟨bA,cA⟩:=ns_ L0
    obtain⟨dA,eA⟩:=ns_ M0
    obtain⟨fA,gA⟩:=ns_ N0
    obtain⟨O6,P6,Q6,R6,U6,V6,W6,X6,Y6,Z6,a7,b7⟩:=b6_ m0
    obtain⟨hA,iA⟩:=ns_ U0
    obtain⟨jA,kA⟩:=ns_ o1
    obtain⟨d7,e7,g7,h7,j7,l7,m7,o7,p7,q7,r7,s7⟩:=b6_ g0
    go_wp2_with (first|(go_at_call 8;(with_reducible refine(laws_eqJournal.calls e2 V0 W0 X0 Y0 Z0 _ _ s0 r1 s1 t1 v1 x1 _ _ y0 true _ ?side1 ?side2 ?side3 ?side4 dB.out).mono ?_);(case side1=>repeat(first|exact(Kd.R_reads' a0.out).2.2|(with_reducible refine Kd.C_alloc ?_ _)|(with_reducible refine Kd.C_drewN ?_ _)|(with_reducible refine Kd.C_drew ?_)));(case side2=>exact(Kd.R_reads' a0.out).2.1);(case side3=>repeat(first|exact(Kd.R_reads' d0.out).2.2|(with_reducible refine Kd.C_alloc ?_ _)|(with_reducible refine Kd.C_drewN ?_ _)|(with_reducible refine Kd.C_drew ?_)));(case side4=>exact(Kd.R_reads' d0.out).2.1);rintro e WB ⟨rfl,hb⟩;replace q0:=rb_ q0 hb;replace o0:=rb_ o0 hb;replace d0:=rb_ d0 hb;replace b0:=rb_ b0 hb;replace a0:=rb_ a0 hb;replace P0:=rb_ P0 hb;replace e0:=bb_ e0 hb;replace g0:=bb_ g0 hb;replace h0:=bb_ h0 hb;replace m0:=bb_ m0 hb;replace HB:=bs_ HB hb;(try clear hb);obtain⟨gB,hB,b8⟩:=Kd.R_slice o0.out;subst b8;obtain⟨iB,jB,d8⟩:=Kd.R_slice q0.out;subst d8)|(go_at_call 9;(with_reducible refine(laws_eqActS.calls e2 _ _ m1 _ _ U1 true _ ?side1 ?side2 ?side3 ?side4 fB.out).mono ?_);(case side1=>repeat(first|exact(Kd.R_reads' o0.out).2.2|(with_reducible refine Kd.C_alloc ?_ _)|(with_reducible refine Kd.C_drewN ?_ _)|(with_reducible refine Kd.C_drew ?_)));(case side2=>exact(Kd.R_reads' o0.out).2.1);(case side3=>repeat(first|exact(Kd.R_reads' q0.out).2.2|(with_reducible refine Kd.C_alloc ?_ _)|(with_reducible refine Kd.C_drewN ?_ _)|(with_reducible refine Kd.C_drew ?_)));(case side4=>exact(Kd.R_reads' q0.out).2.1);rintro e XB ⟨rfl,hb⟩;replace q0:=rb_ q0 hb;replace o0:=rb_ o0 hb;replace d0:=rb_ d0 hb;replace b0:=rb_ b0 hb;replace a0:=rb_ a0 hb;replace P0:=rb_ P0 hb;replace e0:=bb_ e0 hb;replace g0:=bb_ g0 hb;replace h0:=bb_ h0 hb;replace m0:=bb_ m0 hb;replace HB:=bs_ HB hb;(try clear hb)))
    go_meet
    case rel=>exact⟨_,((C2 != W1)),rl_,H',⟨by have:=q3.out;first|omega|exact Nat.le_refl _⟩,⟨rq_ q0.out⟩,⟨rq_ o0.out⟩,⟨rq_ d0.out⟩,⟨rq_ (Kd.R_mono b0.out (fun _ hk=>trivial))⟩,⟨rq_ a0.out⟩,⟨bf_⟩,⟨bf_⟩,⟨bf_⟩,⟨bf_⟩,⟨bw_ HB⟩⟩
   case rest=>
    clear a3
    (try clear p2);(try clear p2)
    obtain⟨kq,N1,rfl,HA,e8,q0,o0,d0,b0,a0,e0,g0,h0,m0,HB⟩:=hcut
    have n0:=(Kd.R_reads' b0.out).1
    rw [n0] at b0
    (try simp only [n0])
    (try simp only [n0] at e0)
    (try simp only [n0] at g0)
    (try simp only [n0] at h0)
    (try simp only [n0] at m0)
    (try simp only [n0] at q0)
    (try simp only [n0] at o0)
    (try simp only [n0] at d0)
    (try simp only [n0] at a0)
    cases kq with
    |zero=>exact absurd HA.out (by simp [laws_FnExactOpenJournal.j1])
    |succ O1=>
     have H:=HA.out
     clear HA
     simp only [laws_FnExactOpenJournal.j1] at H
     by_cases t7:N1=true
     ·subst t7
      rw [if_pos rfl] at H
      cases H
     replace t7:=Bool.eq_false_iff.mpr t7
     subst t7
     rw [if_neg (show ¬(false=true) by decide)] at H
     obtain⟨⟨v3,P1⟩,kB,H⟩:=ob_ H
     try dsimp only at H
     obtain⟨⟨w3,Q1⟩,lB,H⟩:=ob_ H
     try dsimp only at H
     obtain⟨D2,mB,H⟩:=ob_ H
     try dsimp only at H
     by_cases v7:D2<0
     ·rw [if_pos v7] at H
      cases H
     rw [if_neg v7] at H
     have lA:=decide_eq_false v7
     clear v7
     obtain⟨x3,nB,H⟩:=ob_ H
     try dsimp only at H
     by_cases w7:x3<0
     ·rw [if_pos w7] at H
      cases H
     rw [if_neg w7] at H
     have mA:=decide_eq_false w7
     clear w7
     obtain⟨g8,H⟩:=gd_ H
     have nA:=beq_iff_eq.mpr g8
     have oA:=bne_eq_false_iff_eq.mpr g8
     clear g8
     obtain⟨b3,oB,H⟩:=ob_ H
     try dsimp only at H
     obtain⟨⟨t2,v2,w2,x2,y2,A1,y3,A3⟩,pB,H⟩:=ob_ H
     try dsimp only at H
     have d3:=Aside0.mk H
     clear H
     obtain⟨pA,qA⟩:=ns_ L0
     obtain⟨rA,sA⟩:=ns_ M0
     obtain⟨tA,uA⟩:=ns_ N0
     obtain⟨x7,y7,C7,D7,F7,G7,H7,I7,J7,K7,M7,N7⟩:=b6_ m0
     go_upto_region 29 with (first|((with_reducible refine gc_ 12 rfl ?_);refine gm_ 81 Tryz.func12 (laws_markJournal.calls O1 V0 W0 X0 Y0 Z0 (fun k_=>some k_=(.slice H0 s0.length F0:Value).ownBlock) (.slice H0 s0.length F0) s0 1 v3 P1 w _ ?side1 ?side2 kB.out) ?_;(case side1=>exact bw_ HB);(case side2=>exact Kd.R_tight rfl a0.out);rintro YB ⟨L2,hb,hkp⟩;have M2:=mk_ (Kd.R_mono (ok':=fun k_=>some k_≠(a2:Value).ownBlock) (Kd.R_keptB ((Kd.R_apart' q0.out (Kd.R_typed a0.out) (by decide))) hkp (fun k_ hk_ hs_=>(hk_.2) hs_)) (fun k_ hk_=>hk_.1.1));have N2:=mk_ (Kd.R_mono (ok':=fun k_=>some k_≠(X1:Value).ownBlock) (Kd.R_keptB ((Kd.R_apart' o0.out (Kd.R_typed a0.out) (by decide))) hkp (fun k_ hk_ hs_=>(hk_.2) hs_)) (fun k_ hk_=>hk_.1.1));have O2:=mk_ (Kd.R_mono (ok':=fun k_=>some k_≠(.slice H0 s0.length F0:Value).ownBlock) (Kd.R_keptB (d0.out) hkp (fun k_ hk_ hs_=>(hk_) hs_)) (fun k_ hk_=>hk_.1));have r2:=mk_ (Kd.R_mono (ok':=fun k_=>True) (Kd.R_keptB ((Kd.R_apart' b0.out (Kd.R_typed a0.out) (by decide))) hkp (fun k_ hk_ hs_=>(hk_.2) hs_)) (fun k_ hk_=>trivial));have P2:=mk_ (Kd.R_reok rfl L2 (fun k_ e_=>a0.out.1 k_ e_));have s2:=mk_ (blk_kept (bp_ e0) hkp (fun hs_=>(fun e_=>(Kd.R_ne a0.out e0.out (by decide)) e_) hs_));have Q2:=mk_ (blk_kept (bp_ g0) hkp (fun hs_=>(fun e_=>(Kd.R_ne a0.out g0.out (by decide)) e_) hs_));have R2:=mk_ (blk_kept (bp_ h0) hkp (fun hs_=>(fun e_=>(Kd.R_ne a0.out h0.out (by decide)) e_) hs_));have U2:=mk_ (blk_kept (bp_ m0) hkp (fun hs_=>(fun e_=>(Kd.R_ne a0.out m0.out (by decide)) e_) hs_));have V2:=mk_ (hb);clear q0;clear o0;clear d0;clear b0;clear a0;clear e0;clear g0;clear h0;clear m0;clear HB;have q0:=M2;have o0:=N2;have d0:=O2;have b0:=r2;have a0:=P2;have e0:=s2;have g0:=Q2;have h0:=R2;have m0:=U2;have HB:=V2;clear M2 N2 O2 r2 P2 s2 Q2 R2 U2 V2;(try clear hb);(try clear hkp);(try clear L2);obtain⟨g2,h2,h8⟩:=Kd.R_slice o0.out;subst h8)|((with_reducible refine gc_ 13 rfl ?_);refine gm_ 84 Tryz.func13 (laws_markActS.calls O1 (fun k_=>some k_=(.slice g2 m1.length h2:Value).ownBlock) (.slice g2 m1.length h2) m1 v3 w3 Q1 w _ ?side1 ?side2 lB.out) ?_;(case side1=>exact bw_ HB);(case side2=>exact Kd.R_tight rfl o0.out);rintro qB ⟨L2,hb,hkp⟩;have M2:=mk_ (Kd.R_mono (ok':=fun k_=>some k_≠(.slice g2 m1.length h2:Value).ownBlock) (Kd.R_keptB (q0.out) hkp (fun k_ hk_ hs_=>(hk_) hs_)) (fun k_ hk_=>hk_.1));have N2:=mk_ (Kd.R_reok rfl L2 (fun k_ e_=>o0.out.1 k_ e_));have O2:=mk_ (Kd.R_mono (ok':=fun k_=>some k_≠(.slice H0 s0.length F0:Value).ownBlock) (Kd.R_keptB ((Kd.R_apart' d0.out (Kd.R_typed o0.out) (by decide))) hkp (fun k_ hk_ hs_=>(hk_.2) hs_)) (fun k_ hk_=>hk_.1.1));have r2:=mk_ (Kd.R_mono (ok':=fun k_=>True) (Kd.R_keptB ((Kd.R_apart' b0.out (Kd.R_typed o0.out) (by decide))) hkp (fun k_ hk_ hs_=>(hk_.2) hs_)) (fun k_ hk_=>trivial));have P2:=mk_ (Kd.R_mono (ok':=fun k_=>some k_≠(.slice Q0 y0.length O0:Value).ownBlock) (Kd.R_keptB ((Kd.R_apart' a0.out (Kd.R_typed o0.out) (by decide))) hkp (fun k_ hk_ hs_=>(hk_.2) hs_)) (fun k_ hk_=>hk_.1.1));have s2:=mk_ (blk_kept (bp_ e0) hkp (fun hs_=>(fun e_=>(Kd.R_ne o0.out e0.out (by decide)) e_) hs_));have Q2:=mk_ (blk_kept (bp_ g0) hkp (fun hs_=>(fun e_=>(Kd.R_ne o0.out g0.out (by decide)) e_) hs_));have R2:=mk_ (blk_kept (bp_ h0) hkp (fun hs_=>(fun e_=>(Kd.R_ne o0.out h0.out (by decide)) e_) hs_));have U2:=mk_ (blk_kept (bp_ m0) hkp (fun hs_=>(fun e_=>(Kd.R_ne o0.out m0.out (by decide)) e_) hs_));have V2:=mk_ (hb);clear q0;clear o0;clear d0;clear b0;clear a0;clear e0;clear g0;clear h0;clear m0;clear HB;have q0:=M2;have o0:=N2;have d0:=O2;have b0:=r2;have a0:=P2;have e0:=s2;have g0:=Q2;have h0:=R2;have m0:=U2;have HB:=V2;clear M2 N2 O2 r2 P2 s2 Q2 R2 U2 V2;(try clear hb);(try clear hkp);(try clear L2);obtain⟨C3,D3,F3,G3,H3,I3,J3,K3,L3,M3,N3,O3⟩:=b6_ m0)|((with_reducible refine gc_ 14 rfl ?_);refine goesL_ (some 87) rfl rfl Tryz.func14 (by kernel_rfl) rfl #[.agg #[.int .i64 V0,.int .i64 W0,.int .i64 X0,.int .i64 Y0,.int .i64 Z0,.slice H0 P1.length F0],.int .i64 1] rfl (by(try simp only [List.map_toArray,List.map_cons,List.map_nil]);first|done|(rw [show P1.length=s0.length from(Kd.R_reads' a0.out).1.symm] <;> rfl)|rfl|(simp only [List.length_drop,List.length_take];rfl)) ?_;(with_reducible refine(laws_heldJournal.calls O1 V0 W0 X0 Y0 Z0 _ _ P1 1 D2 _ ?side1 ?side2 mB.out).mono ?_);(case side1=>repeat(first|exact(Kd.R_reads' a0.out).2.2|(with_reducible refine Kd.C_alloc ?_ _)|(with_reducible refine Kd.C_drewN ?_ _)|(with_reducible refine Kd.C_drew ?_)));(case side2=>rw [show P1.length=s0.length from(Kd.R_reads' a0.out).1.symm];exact(Kd.R_reads' a0.out).2.1);rintro e rB ⟨rfl,hb⟩;refine⟨_,rfl,?_⟩;replace q0:=rb_ q0 hb;replace o0:=rb_ o0 hb;replace d0:=rb_ d0 hb;replace b0:=rb_ b0 hb;replace a0:=rb_ a0 hb;replace e0:=bb_ e0 hb;replace g0:=bb_ g0 hb;replace h0:=bb_ h0 hb;replace m0:=bb_ m0 hb;replace HB:=bs_ HB hb;(try clear hb))|((with_reducible refine gc_ 15 rfl ?_);refine goesL_ (some 92) rfl rfl Tryz.func15 (by kernel_rfl) rfl #[.slice g2 Q1.length h2,.int .i64 D2] rfl (by(try simp only [List.map_toArray,List.map_cons,List.map_nil]);first|done|(rw [show Q1.length=m1.length from(Kd.R_reads' o0.out).1.symm] <;> rfl)|rfl|(simp only [List.length_drop,List.length_take];rfl)) ?_;(with_reducible refine(laws_heldActS.calls O1 _ _ Q1 D2 x3 _ ?side1 ?side2 nB.out).mono ?_);(case side1=>repeat(first|exact(Kd.R_reads' o0.out).2.2|(with_reducible refine Kd.C_alloc ?_ _)|(with_reducible refine Kd.C_drewN ?_ _)|(with_reducible refine Kd.C_drew ?_)));(case side2=>rw [show Q1.length=m1.length from(Kd.R_reads' o0.out).1.symm];exact(Kd.R_reads' o0.out).2.1);rintro e sB ⟨rfl,hb⟩;refine⟨_,rfl,?_⟩;replace q0:=rb_ q0 hb;replace o0:=rb_ o0 hb;replace d0:=rb_ d0 hb;replace b0:=rb_ b0 hb;replace a0:=rb_ a0 hb;replace e0:=bb_ e0 hb;replace g0:=bb_ g0 hb;replace h0:=bb_ h0 hb;replace m0:=bb_ m0 hb;replace HB:=bs_ HB hb;(try clear hb);obtain⟨j8,l8⟩:=ns_ Y1;obtain⟨m8,o8⟩:=ns_ Z1;obtain⟨P3,Q3⟩:=b1_ e0)|((with_reducible refine gc_ 6 rfl ?_);refine gl_ 100 Tryz.func6 #[.agg #[.slice e1 A0.length g1]] ?_;(with_reducible refine(laws_toDisk.calls O1 _ _ A0 b3 _ ?side1 ?side2 oB.out).mono ?_);(case side1=>repeat(first|exact(Kd.C_below D1.out HB.out)|(with_reducible refine Kd.C_alloc ?_ _)|(with_reducible refine Kd.C_drewN ?_ _)|(with_reducible refine Kd.C_drew ?_)));(case side2=>exact F1.out);rintro e tB ⟨uB,rfl,p1,hb⟩;refine⟨_,rfl,?_⟩;have R0:=mk_ (Kd.R_lower (Kd.R_new' p1 (Kd.R_lt (rp_ b0))) (below_size (bw_ HB)));replace q0:=rb_ q0 hb;replace o0:=rb_ o0 hb;replace d0:=rb_ d0 hb;replace b0:=mk_ (Kd.R_elder' (rp_ b0) (Kd.R_base p1) hb);replace a0:=rb_ a0 hb;replace e0:=bb_ e0 hb;replace g0:=bb_ g0 hb;replace h0:=bb_ h0 hb;replace m0:=bb_ m0 hb;replace HB:=bs_ HB hb;(try clear hb);(try clear p1);obtain⟨R3,U3,V3⟩:=Kd.R_slice R0.out;subst V3)|((with_reducible refine gc_ 7 rfl ?_);refine gl_ 101 Tryz.func7 #[.agg #[.slice R3 b3.length U3]] ?_;(with_reducible refine(impl_OpenJournal.calls O1 _ _ b3 t2 v2 w2 x2 y2 A1 y3 A3 _ (tab22 HT HB) ?side1 ?side2 pB.out).mono ?_);(case side1=>repeat(first|exact(Kd.R_reads' R0.out).2.2|(with_reducible refine Kd.C_alloc ?_ _)|(with_reducible refine Kd.C_drewN ?_ _)|(with_reducible refine Kd.C_drew ?_)));(case side2=>exact(Kd.R_reads' R0.out).2.1);rintro e vB ⟨wB,xB,rfl,p1,m2,hb⟩;refine⟨_,rfl,?_⟩;have d1:=mk_ (Kd.R_lower (Kd.R_new' (Kd.R_new' p1 (Kd.R_lt (rp_ d0))) (Kd.R_lt (rp_ a0))) (below_size (bw_ HB)));have n1:=mk_ (Kd.R_lower (Kd.R_new' (Kd.R_new' m2 (Kd.R_lt (rp_ q0))) (Kd.R_lt (rp_ o0))) (below_size (bw_ HB)));replace q0:=mk_ (Kd.R_elder' (rp_ q0) (Kd.R_base m2) hb);replace o0:=mk_ (Kd.R_elder' (rp_ o0) (Kd.R_base m2) hb);replace d0:=mk_ (Kd.R_elder' (rp_ d0) (Kd.R_base p1) hb);replace b0:=rb_ b0 hb;replace a0:=mk_ (Kd.R_elder' (rp_ a0) (Kd.R_base p1) hb);replace R0:=rb_ R0 hb;replace e0:=bb_ e0 hb;replace g0:=bb_ g0 hb;replace h0:=bb_ h0 hb;replace m0:=bb_ m0 hb;replace HB:=bs_ HB hb;(try clear hb);(try clear p1);(try clear m2))|((with_reducible refine gn_ 14 rfl ?_);refine bn_ (cs:=#[.int .i64 0,.int .i64 0,.int .i64 0,.int .i64 0,.int .i64 0,.slice none 0 0]) (t:=30) HB ?_;intro W3 yB hg hb r0 vA hB_;have h3:=bl_ e0 hg;have I1:=bg_ e0 hg;have j3:=bl_ g0 hg;have J1:=bg_ g0 hg;have l3:=bl_ h0 hg;have K1:=bg_ h0 hg;have l2:=bl_ m0 hg;have L1:=bg_ m0 hg;replace q0:=rb_ q0 hb;replace o0:=rb_ o0 hb;replace d0:=rb_ d0 hb;replace b0:=rb_ b0 hb;replace a0:=rb_ a0 hb;replace R0:=rb_ R0 hb;replace d1:=rb_ d1 hb;replace n1:=rb_ n1 hb;replace e0:=bb_ e0 hb;replace g0:=bb_ g0 hb;replace h0:=bb_ h0 hb;replace m0:=bb_ m0 hb;replace HB:=hB_;clear hb hB_ hg;obtain⟨p8,q8⟩:=ns_ I1;obtain⟨r8,s8⟩:=ns_ J1;obtain⟨t8,v8⟩:=ns_ K1;obtain⟨w8,x8⟩:=ns_ L1;obtain⟨X3,Y3,Z3,a4,b4,d4,e4,g4,h4,j4,l4,m4⟩:=b6_ r0;obtain⟨C1,q1,o4⟩:=Kd.R_slice d1.out;subst o4))
     (try simp only [Act.put,sia_,scz_,scs_])
     go_cut [119] (fun y8 wc=>∃(kq:Nat) (y1:Bool),y8= .bool y1∧Aside0 (laws_FnExactOpenJournal.j2 kq Q1 w3 y1 V0 W0 X0 Y0 Z0 P1=some r)∧Aside0 (kq≤O1)∧Aside0 (Kd.R k57 57 wc w.heap.size (fun _=>True) (.slice g2 m1.length h2) Q1)∧Aside0 (Kd.R k105 105 wc w.heap.size (fun k_=>some k_≠((.slice H0 s0.length F0):Value).ownBlock∧some k_≠((.slice C1 A1.length q1):Value).ownBlock) (.slice Q0 y0.length O0) y0)∧Aside0 (Kd.R k49 49 wc w.heap.size (fun _=>True) (.slice K0 q2.length J0) q2)∧Aside0 (Kd.R k105 105 wc w.heap.size (fun k_=>some k_≠((.slice Q0 y0.length O0):Value).ownBlock∧some k_≠((.slice C1 A1.length q1):Value).ownBlock) (.slice H0 s0.length F0) P1)∧Aside0 (Kd.R k105 105 wc w.heap.size (fun k_=>some k_≠((.slice Q0 y0.length O0):Value).ownBlock∧some k_≠((.slice H0 s0.length F0):Value).ownBlock) (.slice C1 A1.length q1) A1)∧Aside0 (wc.heap[R1]? =some (.cells #[(.slice e1 A0.length g1)] 24 (0,0)))∧Aside0 (wc.heap[n2]? =some (.cells #[.int .i64 r1,.int .i64 s1,.int .i64 t1,.int .i64 v1,.int .i64 x1,(.slice Q0 y0.length O0)] 30 (0,0)))∧Aside0 (wc.heap[V1]? =some (.cells #[(.slice K0 q2.length J0)] 36 (0,0)))∧Aside0 (wc.heap[o2]? =some (.cells #[.int .i64 V0,.int .i64 W0,.int .i64 X0,.int .i64 Y0,.int .i64 Z0,(.slice H0 s0.length F0)] 30 (0,0)))∧Aside0 (wc.heap[W3]? =some (.cells #[.int .i64 t2,.int .i64 v2,.int .i64 w2,.int .i64 x2,.int .i64 y2,(.slice C1 A1.length q1)] 30 (0,0)))∧Aside0 (Below w.heap.size w wc))
     case first=>
      have H:=d3.out
      clear d3
      obtain⟨zB,B8,H⟩:=ob_ H
      try dsimp only at H
      obtain⟨rfl,H⟩:=gd_ H
      obtain⟨AB,C8,H⟩:=ob_ H
      try dsimp only at H
      obtain⟨rfl,H⟩:=gd_ H
      have H':=Aside0.mk H
      clear H
      obtain⟨D8,F8⟩:=ns_ I1
      obtain⟨G8,H8⟩:=ns_ J1
      obtain⟨I8,J8⟩:=ns_ K1
      obtain⟨K8,L8⟩:=ns_ L1
      obtain⟨q4,r4,s4,t4,v4,x4,y4,A4,C4,D4,F4,G4⟩:=b6_ r0
      obtain⟨M8,N8⟩:=ns_ U0
      obtain⟨O8,P8⟩:=ns_ o1
      obtain⟨Q8,R8⟩:=ns_ b2
      obtain⟨H4,I4,J4,K4,L4,M4,N4,O4,P4,Q4,R4,U4⟩:=b6_ g0
      go_wp2_with (first|((with_reducible refine gc_ 8 rfl ?_);refine gx_ 107 Tryz.func8 #[.agg #[.int .i64 t2,.int .i64 v2,.int .i64 w2,.int .i64 x2,.int .i64 y2,.slice C1 A1.length q1],.agg #[.int .i64 r1,.int .i64 s1,.int .i64 t1,.int .i64 v1,.int .i64 x1,.slice Q0 y0.length O0]] (laws_eqJournal.calls O1 t2 v2 w2 x2 y2 _ _ A1 r1 s1 t1 v1 x1 _ _ y0 true _ ?side1 ?side2 ?side3 ?side4 B8.out) ?_;(case side1=>refine(Kd.R_reads' (e:=105) (base:=w.heap.size) (ok:=fun k_=>((True∧some k_≠(.slice Q0 y0.length O0:Value).ownBlock)∧some k_≠(.slice H0 s0.length F0:Value).ownBlock)) (n:=A1.length) (c:=q1) ?_).2.2;exact(rg_ d1 r0));(case side2=>exact(Kd.R_reads' d1.out).2.1);(case side3=>refine(Kd.R_reads' (e:=105) (base:=w.heap.size) (ok:=fun k_=>(some k_≠(.slice H0 s0.length F0:Value).ownBlock∧some k_≠(.slice C1 A1.length q1:Value).ownBlock)) (n:=y0.length) (c:=O0) ?_).2.2;exact(rg_ d0 r0));(case side4=>exact(Kd.R_reads' d0.out).2.1);rintro BB hb;replace q0:=mk_ (Kd.R_below (rg_ q0 r0) hb);replace o0:=mk_ (Kd.R_below (rg_ o0 r0) hb);replace d0:=mk_ (Kd.R_below (rg_ d0 r0) hb);replace b0:=mk_ (Kd.R_below (rg_ b0 r0) hb);replace a0:=mk_ (Kd.R_below (rg_ a0 r0) hb);replace R0:=mk_ (Kd.R_below (rg_ R0 r0) hb);replace d1:=mk_ (Kd.R_below (rg_ d1 r0) hb);replace n1:=mk_ (Kd.R_below (rg_ n1 r0) hb);replace e0:=bq_ e0 hb;replace g0:=bq_ g0 hb;replace h0:=bq_ h0 hb;replace m0:=bq_ m0 hb;replace r0:=bU_ r0 #[.int .i64 t2,.int .i64 v2,.int .i64 w2,.int .i64 x2,.int .i64 y2,.slice C1 A1.length q1] hb;replace HB:=bs_ HB hb;(try clear hb);(try clear hk);obtain⟨wA,xA,V4⟩:=Kd.R_slice n1.out;subst V4;obtain⟨yA,zA,W4⟩:=Kd.R_slice q0.out;subst W4)|(go_at_call 9;(with_reducible refine(laws_eqActS.calls O1 _ _ y3 _ _ U1 true _ ?side1 ?side2 ?side3 ?side4 C8.out).mono ?_);(case side1=>repeat(first|exact(Kd.R_reads' n1.out).2.2|(with_reducible refine Kd.C_alloc ?_ _)|(with_reducible refine Kd.C_drewN ?_ _)|(with_reducible refine Kd.C_drew ?_)));(case side2=>exact(Kd.R_reads' n1.out).2.1);(case side3=>repeat(first|exact(Kd.R_reads' q0.out).2.2|(with_reducible refine Kd.C_alloc ?_ _)|(with_reducible refine Kd.C_drewN ?_ _)|(with_reducible refine Kd.C_drew ?_)));(case side4=>exact(Kd.R_reads' q0.out).2.1);rintro e CB ⟨rfl,hb⟩;replace q0:=rb_ q0 hb;replace o0:=rb_ o0 hb;replace d0:=rb_ d0 hb;replace b0:=rb_ b0 hb;replace a0:=rb_ a0 hb;replace R0:=rb_ R0 hb;replace d1:=rb_ d1 hb;replace n1:=rb_ n1 hb;replace e0:=bb_ e0 hb;replace g0:=bb_ g0 hb;replace h0:=bb_ h0 hb;replace m0:=bb_ m0 hb;replace r0:=bb_ r0 hb;replace HB:=bs_ HB hb;(try clear hb);(try clear hk)))
      go_meet
      case rel=>exact⟨_,((A3 != W1)),rl_,H',⟨by have:=q3.out;have:=e8.out;first|omega|exact Nat.le_refl _⟩,⟨by(try simp only [n0]);(with_reducible repeat(first|apply Kd.R_alloc|apply Kd.R_drewN|apply Kd.R_drew));exact Kd.R_mono o0.out (fun _ hk=>trivial)⟩,⟨by(try simp only [n0]);(with_reducible repeat(first|apply Kd.R_alloc|apply Kd.R_drewN|apply Kd.R_drew));exact d0.out⟩,⟨by(try simp only [n0]);(with_reducible repeat(first|apply Kd.R_alloc|apply Kd.R_drewN|apply Kd.R_drew));exact Kd.R_mono b0.out (fun _ hk=>trivial)⟩,⟨by(try simp only [n0]);(with_reducible repeat(first|apply Kd.R_alloc|apply Kd.R_drewN|apply Kd.R_drew));exact a0.out⟩,⟨by(try simp only [n0]);(with_reducible repeat(first|apply Kd.R_alloc|apply Kd.R_drewN|apply Kd.R_drew));exact Kd.R_mono d1.out (fun _ hk=>⟨hk.1.2,hk.2⟩)⟩,⟨by(try simp only [n0]);(with_reducible repeat(first|refine blk_drewN ?_ _|refine blk_drew ?_|refine blk_alloc ?_ _));exact e0.out⟩,⟨by(try simp only [n0]);(with_reducible repeat(first|refine blk_drewN ?_ _|refine blk_drew ?_|refine blk_alloc ?_ _));exact g0.out⟩,⟨by(try simp only [n0]);(with_reducible repeat(first|refine blk_drewN ?_ _|refine blk_drew ?_|refine blk_alloc ?_ _));exact h0.out⟩,⟨by(try simp only [n0]);(with_reducible repeat(first|refine blk_drewN ?_ _|refine blk_drew ?_|refine blk_alloc ?_ _));exact m0.out⟩,⟨by(try simp only [n0]);(with_reducible repeat(first|refine blk_drewN ?_ _|refine blk_drew ?_|refine blk_alloc ?_ _));exact r0.out⟩,⟨bw_ HB⟩⟩
     case rest=>
      clear d3
      (try clear p2);(try clear p2)
      obtain⟨kq,y1,rfl,HA,DB,o0,d0,b0,a0,C0,e0,g0,h0,m0,r0,HB⟩:=hcut
      have G0:=(Kd.R_reads' o0.out).1
      rw [G0] at o0
      (try simp only [G0])
      (try simp only [G0] at e0)
      (try simp only [G0] at g0)
      (try simp only [G0] at h0)
      (try simp only [G0] at m0)
      (try simp only [G0] at r0)
      (try simp only [G0] at d0)
      (try simp only [G0] at b0)
      (try simp only [G0] at a0)
      (try simp only [G0] at C0)
      have p0:=(Kd.R_reads' a0.out).1
      rw [p0] at a0
      (try simp only [p0])
      (try simp only [p0] at e0)
      (try simp only [p0] at g0)
      (try simp only [p0] at h0)
      (try simp only [p0] at m0)
      (try simp only [p0] at r0)
      (try simp only [p0] at o0)
      (try simp only [p0] at d0)
      (try simp only [p0] at b0)
      (try simp only [p0] at C0)
      cases kq with
      |zero=>exact absurd HA.out (by simp [laws_FnExactOpenJournal.j2])
      |succ X4=>
       have H:=HA.out
       clear HA
       simp only [laws_FnExactOpenJournal.j2] at H
       by_cases F2:y1=true
       ·subst F2
        rw [if_pos rfl] at H
        cases H
       replace F2:=Bool.eq_false_iff.mpr F2
       subst F2
       rw [if_neg (show ¬(false=true) by decide)] at H
       obtain⟨G2,U8,H⟩:=ob_ H
       try dsimp only at H
       by_cases H2:G2<0
       ·rw [if_pos H2] at H
        cases H
       rw [if_neg H2] at H
       have V8:=decide_eq_false H2
       clear H2
       obtain⟨Y4,W8,H⟩:=ob_ H
       try dsimp only at H
       by_cases I2:Y4<0
       ·rw [if_pos I2] at H
        cases H
       rw [if_neg I2] at H
       have X8:=decide_eq_false I2
       clear I2
       obtain⟨e3,H⟩:=gd_ H
       have Y8:=beq_iff_eq.mpr e3
       have Z8:=bne_eq_false_iff_eq.mpr e3
       clear e3
       obtain rfl:=Option.some.inj H
       obtain⟨a9,b9⟩:=ns_ L0
       obtain⟨d9,e9⟩:=ns_ M0
       obtain⟨g9,h9⟩:=ns_ N0
       obtain⟨j9,l9⟩:=ns_ l2
       obtain⟨Z4,a5,b5,d5,e5,g5,h5,j5,l5,m5,o5,p5⟩:=b6_ m0
       go_wp2_with (first|((with_reducible refine gc_ 14 rfl ?_);refine gx_ 122 Tryz.func14 #[.agg #[.int .i64 V0,.int .i64 W0,.int .i64 X0,.int .i64 Y0,.int .i64 Z0,.slice H0 P1.length F0],.int .i64 1] (laws_heldJournal.calls X4 V0 W0 X0 Y0 Z0 _ _ P1 1 G2 _ ?side1 ?side2 U8.out) ?_;(case side1=>repeat(first|exact(Kd.R_reads' a0.out).2.2|(with_reducible refine Kd.C_alloc ?_ _)|(with_reducible refine Kd.C_drewN ?_ _)|(with_reducible refine Kd.C_drew ?_)));(case side2=>exact(Kd.R_reads' a0.out).2.1);rintro EB hb;replace o0:=rb_ o0 hb;replace d0:=rb_ d0 hb;replace b0:=rb_ b0 hb;replace a0:=rb_ a0 hb;replace C0:=rb_ C0 hb;replace e0:=bb_ e0 hb;replace g0:=bb_ g0 hb;replace h0:=bb_ h0 hb;replace m0:=bb_ m0 hb;replace r0:=bb_ r0 hb;replace HB:=bs_ HB hb;(try clear hb))|((with_reducible refine gc_ 15 rfl ?_);refine gx_ 127 Tryz.func15 #[.slice g2 Q1.length h2,.int .i64 G2] (laws_heldActS.calls X4 _ _ Q1 G2 Y4 _ ?side1 ?side2 W8.out) ?_;(case side1=>repeat(first|exact(Kd.R_reads' o0.out).2.2|(with_reducible refine Kd.C_alloc ?_ _)|(with_reducible refine Kd.C_drewN ?_ _)|(with_reducible refine Kd.C_drew ?_)));(case side2=>exact(Kd.R_reads' o0.out).2.1);rintro FB hb;replace o0:=rb_ o0 hb;replace d0:=rb_ d0 hb;replace b0:=rb_ b0 hb;replace a0:=rb_ a0 hb;replace C0:=rb_ C0 hb;replace e0:=bb_ e0 hb;replace g0:=bb_ g0 hb;replace h0:=bb_ h0 hb;replace m0:=bb_ m0 hb;replace r0:=bb_ r0 hb;replace HB:=bs_ HB hb;(try clear hb)))
       go_ret
       exact⟨er_,bw_ HB⟩
end Go.Proofs.YtolakamimfhcjaaGreatDoor.QFnExactOpenJournal
