/- Written by this session's own program: what the law's functions come to, and that the machine's calls do just that. -/
import Derived.Test.YtolakamimfhcjaaGreatDoorQFnExactOpenJournalx9
import Derived.Test.YtolakamimfhcjaaGreatDoorQFnExactOpenJournalx17
namespace Go.Proofs.YtolakamimfhcjaaGreatDoor.QFnExactOpenJournal
open Go.RowKit Go.Proofs.YtolakamimfhcjaaGreatDoorW.PrintWords Go.Proofs.YtolakamimfhcjaaGreatDoorW.PrintLast Go.Proofs.YtolakamimfhcjaaGreatDoorW.PrintMore
attribute [local go_sem] Go.Proofs.YtolakamimfhcjaaGreatDoor.Sem.string_geq Go.Proofs.YtolakamimfhcjaaGreatDoor.Sem.string_leq Go.Proofs.YtolakamimfhcjaaGreatDoor.Sem.string_gtr
attribute [local go_sem] max2_int min2_int max_two min_two max_three min_three max_four min_four
set_option linter.unusedVariables false
set_option linter.unusedSimpArgs false
set_option maxHeartbeats 8000000
set_option maxRecDepth 100000
def impl_told.f (k:Nat) (e0:Int) (n0:Int) (o0:Int) (g0:Int) (h0:Int) (m0:List (S105)) (a1:ByteArray):Option (Int × Int × Int × Int × Int × (List (S105)) × Bool):=(impl_head.f k a1 72).bind fun a0=>(if a0.2.2=true then((impl_JournalOk.f k e0 a0.1 a0.2.1 g0 h0 m0).bind fun p0=>(some (e0,a0.1,a0.2.1,g0,h0,m0,p0))) else((impl_ReadEntry.f k a1).bind fun b0=>(if b0.2.2.2.2=true then((impl_LogPut.f k g0 h0 m0 b0.1 b0.2.1 b0.2.2.1 b0.2.2.2.1).bind fun d0=>(some (e0,n0,o0,d0.1,d0.2.1,d0.2.2.1,d0.2.2.2))) else(some (e0,n0,o0,g0,h0,m0,false)))))
theorem impl_told.calls (k:Nat) (t0:Int) (H0:Int) (I0:Int) (v0:Int) (x0:Int) (G0:Nat→Prop) (L0:Value) (q0:List (S105)) (a1:ByteArray) (r1:Int) (r2:Int) (r3:Int) (r4:Int) (r5:Int) (r6:List (S105)) (r7:Bool) (w0 w:World) (hB:Below w0.heap.size w0 w) (p1:Kd.R k105 105 w w0.heap.size G0 L0 q0) (h:impl_told.f k t0 H0 I0 v0 x0 q0 a1=some (r1,r2,r3,r4,r5,r6,r7)):
  Calls Tryz.prog 60 #[.agg #[.int .i64 t0,.int .i64 H0,.int .i64 I0,.int .i64 v0,.int .i64 x0,L0],.string a1] w fun e w'=>∃e4:Value,e= .returned (.tuple #[.agg #[.int .i64 r1,.int .i64 r2,.int .i64 r3,.int .i64 r4,.int .i64 r5,e4],.bool r7])∧Kd.R k105 105 w' w0.heap.size (fun k_=>(G0 k_∨w.heap.size≤k_)) e4 r6∧Below w0.heap.size w0 w'∧Kept w w' (fun _=>False):=by
 have L4:=Tryz.underlying30
 have g4:=Tryz.underlying105
 have M4:=Tryz.underlying28
 have b0:=mk_ (show Kd.R k105 105 w w0.heap.size (fun k_=>(G0 k_∨w.heap.size≤k_)) L0 q0 from Kd.R_mono p1 (fun k_ hk=>(.inl hk)))
 have HK:=mk_ (Kept.refl w (fun _=>False))
 have Z4:=Aside0.mk hB.size
 have HB:=Aside0.mk hB
 clear hB
 have H:=h
 unfold impl_told.f at H
 clear h
 obtain⟨⟨r0,s0,Q3⟩,A3,H⟩:=ob_ H
 try dsimp only at H
 by_cases c4:Q3=true
 rotate_left
 ·replace c4:=Bool.eq_false_iff.mpr c4
  subst c4
  rw [if_neg (show ¬(false=true) by decide)] at H
  obtain⟨⟨O0,B0,C0,F0,R3⟩,h4,H⟩:=ob_ H
  try dsimp only at H
  by_cases t1:R3=true
  rotate_left
  ·replace t1:=Bool.eq_false_iff.mpr t1
   subst t1
   rw [if_neg (show ¬(false=true) by decide)] at H
   simp only [Option.some.injEq,Prod.mk.injEq] at H
   obtain⟨rfl,rfl,rfl,rfl,rfl,rfl,rfl⟩:=H
   obtain⟨Y0,Z0,U3⟩:=Kd.R_slice b0.out
   subst U3
   go_enter Tryz.func60,Tryz.ntmps60
   go_wp2_with (first|((with_reducible refine gn_ 2 rfl ?_);refine bx_ (N:=2) (cs:=#[.int .i64 t0,.int .i64 H0,.int .i64 I0,.int .i64 v0,.int .i64 x0,.slice Y0 q0.length Z0]) (t:=30) ?_;intro h0 hg a5 hbox hb;have a0:=mk_ (hbox);have n0:=mk_ ((by rw [hg];exact(by first|exact HK.out.1|exact(show Kept w _ (fun _=>False) from kp_ HK).1):w.heap.size≤h0));have V0:=mk_ ((by rw [hg];exact(below_size (bw_ HB)):w0.heap.size≤h0));replace b0:=mk_ (Kd.R_below (rq_ b0.out) hb);replace HK:=mk_ (Kept.below (S:=(fun _=>False)) (kp_ HK) hb);replace HB:=bs_ HB hb;clear hb hbox hg)|((with_reducible refine gn_ 4 rfl ?_);refine bx_ (N:=4) (cs:=#[.int .i64 0,.int .i64 0,.int .i64 0,.int .i64 0,.int .i64 0,.slice none 0 0]) (t:=30) ?_;intro g0 hg b5 hbox hb;have d0:=mk_ (hbox);have p0:=mk_ ((by rw [hg];exact(by first|exact HK.out.1|exact(show Kept w _ (fun _=>False) from by repeat(first|(with_reducible first|exact HK.out|apply Kept.alloc|apply Kept.drewN|apply Kept.drew|refine Kept.setCell ?_ (.inr n0.out) _)|exact HK.out)).1):w.heap.size≤g0));have W0:=mk_ ((by rw [hg];exact(below_size (bw_ HB)):w0.heap.size≤g0));have e0:=bl_ a0 hg;have o0:=bg_ a0 hg;replace b0:=mk_ (Kd.R_below (rq_ b0.out) hb);replace a0:=bb_ a0 hb;replace HK:=mk_ (Kept.below (S:=(fun _=>False)) (by repeat(first|(with_reducible first|exact HK.out|apply Kept.alloc|apply Kept.drewN|apply Kept.drew|refine Kept.setCell ?_ (.inr n0.out) _)|exact HK.out)) hb);replace HB:=bs_ HB hb;clear hb hbox hg)|((with_reducible refine gc_ 57 rfl ?_);refine gm_ 14 Tryz.func57 (impl_head.calls k a1 72 r0 s0 false _ A3.out) ?_;rintro d5 hb;replace b0:=mk_ (Kd.R_below (rq_ b0.out) hb);replace a0:=bb_ a0 hb;replace d0:=bb_ d0 hb;replace HK:=mk_ (Kept.below (S:=(fun _=>False)) (by repeat(first|(with_reducible first|exact HK.out|apply Kept.alloc|apply Kept.drewN|apply Kept.drew|refine Kept.setCell ?_ (.inr n0.out) _|refine Kept.setCell ?_ (.inr p0.out) _)|exact HK.out)) hb);replace HB:=bs_ HB hb;(try clear hb))|((with_reducible refine gc_ 92 rfl ?_);refine gm_ 28 Tryz.func92 (impl_ReadEntry.calls k a1 O0 B0 C0 F0 false _ h4.out) ?_;rintro e5 hb;replace b0:=mk_ (Kd.R_below (rq_ b0.out) hb);replace a0:=bb_ a0 hb;replace d0:=bb_ d0 hb;replace HK:=mk_ (Kept.below (S:=(fun _=>False)) (by repeat(first|(with_reducible first|exact HK.out|apply Kept.alloc|apply Kept.drewN|apply Kept.drew|refine Kept.setCell ?_ (.inr n0.out) _|refine Kept.setCell ?_ (.inr p0.out) _)|exact HK.out)) hb);replace HB:=bs_ HB hb;(try clear hb))|((with_reducible refine gn_ 10 rfl ?_);refine bx_ (N:=10) (cs:=#[.int .i64 0,.int .i64 0,.string (⟨#[]⟩:ByteArray)]) (t:=105) ?_;intro m0 hg g5 hbox hb;have J0:=mk_ (hbox);have K0:=mk_ ((by rw [hg];exact(by first|exact HK.out.1|exact(show Kept w _ (fun _=>False) from by repeat(first|(with_reducible first|exact HK.out|apply Kept.alloc|apply Kept.drewN|apply Kept.drew|refine Kept.setCell ?_ (.inr n0.out) _|refine Kept.setCell ?_ (.inr p0.out) _)|exact HK.out)).1):w.heap.size≤m0));have q1:=mk_ ((by rw [hg];exact(below_size (bw_ HB)):w0.heap.size≤m0));have M0:=bl_ a0 hg;have y0:=bg_ a0 hg;have N0:=bl_ d0 hg;have A0:=bg_ d0 hg;replace b0:=mk_ (Kd.R_below (Kd.R_elderB (rq_ b0.out) m0 (Nat.le_of_eq hg.symm)) hb);replace a0:=bb_ a0 hb;replace d0:=bb_ d0 hb;replace HK:=mk_ (Kept.below (S:=(fun _=>False)) (by repeat(first|(with_reducible first|exact HK.out|apply Kept.alloc|apply Kept.drewN|apply Kept.drew|refine Kept.setCell ?_ (.inr n0.out) _|refine Kept.setCell ?_ (.inr p0.out) _)|exact HK.out)) hb);replace HB:=bs_ HB hb;clear hb hbox hg;obtain⟨j4,l4⟩:=ns_ y0;obtain⟨m4,o4⟩:=ns_ A0;obtain⟨v1,x1,y1,A1,C1,D1⟩:=b3_ J0;obtain⟨q4,s4⟩:=ns_ e0;obtain⟨F1,G1,H1,I1,J1,K1,L1,M1,N1,O1,P1,Q1⟩:=b6_ a0;obtain⟨R1,U1,V1,W1,X1,Y1,Z1,a2,b2,d2,e2,g2⟩:=b6_ d0))
   refine bodyPost_ret (results_ct rfl _ _ g0 30 #[.int .i64 t0,.int .i64 H0,.int .i64 I0,.int .i64 v0,.int .i64 x0,.slice Y0 q0.length Z0] (0,0) _ rfl bu_ Tryz.underlying30 rfl (by kernel_rfl)) rfl ?_
   exact⟨_,er_,rq_ (Kd.R_mono (Kd.R_far (p:=⟨g0,5,none⟩) (Kd.R_far (p:=⟨g0,4,none⟩) (Kd.R_far (p:=⟨g0,3,none⟩) (Kd.R_far (p:=⟨g0,2,none⟩) (Kd.R_far (p:=⟨g0,1,none⟩) (Kd.R_far (p:=⟨g0,0,none⟩) (Kd.R_far (p:=⟨m0,2,none⟩) (Kd.R_far (p:=⟨m0,1,none⟩) (Kd.R_far (p:=⟨m0,0,none⟩) (Kd.R_types (Kd.R_mono b0.out (fun k_ hk=>(⟨hk,hk.2⟩:_∧k_≠m0))) d0.out (by decide)) (fun _ hk=>hk.1.2) (.int .i64 B0)) (fun _ hk=>hk.1.2) (.int .i64 C0)) (fun _ hk=>hk.1.2) (.string F0)) (fun _ hk=>hk.2) (.int .i64 t0)) (fun _ hk=>hk.2) (.int .i64 H0)) (fun _ hk=>hk.2) (.int .i64 I0)) (fun _ hk=>hk.2) (.int .i64 v0)) (fun _ hk=>hk.2) (.int .i64 x0)) (fun _ hk=>hk.2) (.slice Y0 q0.length Z0)) (fun _ hk=>hk.1.1.1)),bw_ HB,by repeat(first|(with_reducible first|exact HK.out|apply Kept.alloc|apply Kept.drewN|apply Kept.drew|refine Kept.setCell ?_ (.inr n0.out) _|refine Kept.setCell ?_ (.inr p0.out) _|refine Kept.setCell ?_ (.inr K0.out) _)|exact HK.out)⟩
  subst t1
  rw [if_pos rfl] at H
  obtain⟨⟨P0,Q0,R0,V3⟩,N4,H⟩:=ob_ H
  try dsimp only at H
  simp only [Option.some.injEq,Prod.mk.injEq] at H
  obtain⟨rfl,rfl,rfl,rfl,rfl,rfl,rfl⟩:=H
  obtain⟨s1,b1,W3⟩:=Kd.R_slice b0.out
  subst W3
  go_enter Tryz.func60,Tryz.ntmps60
  go_wp2_with (first|((with_reducible refine gn_ 2 rfl ?_);refine bx_ (N:=2) (cs:=#[.int .i64 t0,.int .i64 H0,.int .i64 I0,.int .i64 v0,.int .i64 x0,.slice s1 q0.length b1]) (t:=30) ?_;intro h0 hg h5 hbox hb;have a0:=mk_ (hbox);have n0:=mk_ ((by rw [hg];exact(by first|exact HK.out.1|exact(show Kept w _ (fun _=>False) from kp_ HK).1):w.heap.size≤h0));have V0:=mk_ ((by rw [hg];exact(below_size (bw_ HB)):w0.heap.size≤h0));replace b0:=mk_ (Kd.R_below (rq_ b0.out) hb);replace HK:=mk_ (Kept.below (S:=(fun _=>False)) (kp_ HK) hb);replace HB:=bs_ HB hb;clear hb hbox hg)|((with_reducible refine gn_ 4 rfl ?_);refine bx_ (N:=4) (cs:=#[.int .i64 0,.int .i64 0,.int .i64 0,.int .i64 0,.int .i64 0,.slice none 0 0]) (t:=30) ?_;intro g0 hg j5 hbox hb;have d0:=mk_ (hbox);have p0:=mk_ ((by rw [hg];exact(by first|exact HK.out.1|exact(show Kept w _ (fun _=>False) from by repeat(first|(with_reducible first|exact HK.out|apply Kept.alloc|apply Kept.drewN|apply Kept.drew|refine Kept.setCell ?_ (.inr n0.out) _)|exact HK.out)).1):w.heap.size≤g0));have W0:=mk_ ((by rw [hg];exact(below_size (bw_ HB)):w0.heap.size≤g0));have e0:=bl_ a0 hg;have o0:=bg_ a0 hg;replace b0:=mk_ (Kd.R_below (rq_ b0.out) hb);replace a0:=bb_ a0 hb;replace HK:=mk_ (Kept.below (S:=(fun _=>False)) (by repeat(first|(with_reducible first|exact HK.out|apply Kept.alloc|apply Kept.drewN|apply Kept.drew|refine Kept.setCell ?_ (.inr n0.out) _)|exact HK.out)) hb);replace HB:=bs_ HB hb;clear hb hbox hg)|((with_reducible refine gc_ 57 rfl ?_);refine gm_ 14 Tryz.func57 (impl_head.calls k a1 72 r0 s0 false _ A3.out) ?_;rintro l5 hb;replace b0:=mk_ (Kd.R_below (rq_ b0.out) hb);replace a0:=bb_ a0 hb;replace d0:=bb_ d0 hb;replace HK:=mk_ (Kept.below (S:=(fun _=>False)) (by repeat(first|(with_reducible first|exact HK.out|apply Kept.alloc|apply Kept.drewN|apply Kept.drew|refine Kept.setCell ?_ (.inr n0.out) _|refine Kept.setCell ?_ (.inr p0.out) _)|exact HK.out)) hb);replace HB:=bs_ HB hb;(try clear hb);(try clear hk))|((with_reducible refine gc_ 92 rfl ?_);refine gm_ 28 Tryz.func92 (impl_ReadEntry.calls k a1 O0 B0 C0 F0 true _ h4.out) ?_;rintro m5 hb;replace b0:=mk_ (Kd.R_below (rq_ b0.out) hb);replace a0:=bb_ a0 hb;replace d0:=bb_ d0 hb;replace HK:=mk_ (Kept.below (S:=(fun _=>False)) (by repeat(first|(with_reducible first|exact HK.out|apply Kept.alloc|apply Kept.drewN|apply Kept.drew|refine Kept.setCell ?_ (.inr n0.out) _|refine Kept.setCell ?_ (.inr p0.out) _)|exact HK.out)) hb);replace HB:=bs_ HB hb;(try clear hb);(try clear hk))|((with_reducible refine gn_ 10 rfl ?_);refine bx_ (N:=10) (cs:=#[.int .i64 0,.int .i64 0,.string (⟨#[]⟩:ByteArray)]) (t:=105) ?_;intro m0 hg o5 hbox hb;have J0:=mk_ (hbox);have K0:=mk_ ((by rw [hg];exact(by first|exact HK.out.1|exact(show Kept w _ (fun _=>False) from by repeat(first|(with_reducible first|exact HK.out|apply Kept.alloc|apply Kept.drewN|apply Kept.drew|refine Kept.setCell ?_ (.inr n0.out) _|refine Kept.setCell ?_ (.inr p0.out) _)|exact HK.out)).1):w.heap.size≤m0));have q1:=mk_ ((by rw [hg];exact(below_size (bw_ HB)):w0.heap.size≤m0));have M0:=bl_ a0 hg;have y0:=bg_ a0 hg;have N0:=bl_ d0 hg;have A0:=bg_ d0 hg;replace b0:=mk_ (Kd.R_below (Kd.R_elderB (rq_ b0.out) m0 (Nat.le_of_eq hg.symm)) hb);replace a0:=bb_ a0 hb;replace d0:=bb_ d0 hb;replace HK:=mk_ (Kept.below (S:=(fun _=>False)) (by repeat(first|(with_reducible first|exact HK.out|apply Kept.alloc|apply Kept.drewN|apply Kept.drew|refine Kept.setCell ?_ (.inr n0.out) _|refine Kept.setCell ?_ (.inr p0.out) _)|exact HK.out)) hb);replace HB:=bs_ HB hb;clear hb hbox hg;obtain⟨t4,v4⟩:=ns_ y0;obtain⟨w4,x4⟩:=ns_ A0;obtain⟨h2,l2,m2,n2,o2,q2⟩:=b3_ J0;obtain⟨y4,A4⟩:=ns_ e0;obtain⟨s2,t2,v2,w2,x2,y2,A2,B2,C2,D2,F2,G2⟩:=b6_ a0)|((with_reducible refine gc_ 93 rfl ?_);refine gl_ 40 Tryz.func93 #[.agg #[.int .i64 v0,.int .i64 x0,.slice s1 q0.length b1],.int .i64 O0,.agg #[.int .i64 B0,.int .i64 C0,.string F0]] ?_;(with_reducible refine(impl_LogPut.calls k v0 x0 _ _ q0 O0 B0 C0 F0 P0 Q0 R0 V3 _ ?side1 ?side2 N4.out).mono ?_);(case side1=>refine(Kd.R_reads' (e:=105) (base:=w0.heap.size) (ok:=fun k_=>((G0 k_∨w.heap.size≤k_)∧k_≠m0)) (n:=q0.length) (c:=b1) ?_).2.2;exact(rq_ (Kd.R_mono (Kd.R_far (p:=⟨m0,2,none⟩) (Kd.R_far (p:=⟨m0,1,none⟩) (Kd.R_far (p:=⟨m0,0,none⟩) (Kd.R_mono b0.out (fun k_ hk=>(⟨hk,hk.2⟩:_∧k_≠m0))) (fun _ hk=>hk.2) (.int .i64 B0)) (fun _ hk=>hk.2) (.int .i64 C0)) (fun _ hk=>hk.2) (.string F0)) (fun _ h_=>h_.1))));(case side2=>exact(Kd.R_reads' b0.out).2.1);rintro e p5 ⟨O4,rfl,X3,hb⟩;refine⟨_,rfl,?_⟩;have X0:=mk_ (Kd.R_lower (Kd.R_newB (Kd.R_new' (Kd.R_newM (M:=fun k_=>(G0 k_∨w.heap.size≤k_)) X3 (show Kept w _ (fun _=>False) from by repeat(first|(with_reducible first|exact HK.out|apply Kept.alloc|apply Kept.drewN|apply Kept.drew|refine Kept.setCell ?_ (.inr n0.out) _|refine Kept.setCell ?_ (.inr p0.out) _|refine Kept.setCell ?_ (.inr K0.out) _)|exact HK.out)).1 (fun k_ h_=> .inr h_)) (Kd.R_lt (rq_ (Kd.R_mono (Kd.R_far (p:=⟨m0,2,none⟩) (Kd.R_far (p:=⟨m0,1,none⟩) (Kd.R_far (p:=⟨m0,0,none⟩) (Kd.R_mono b0.out (fun k_ hk=>(⟨hk,hk.2⟩:_∧k_≠m0))) (fun _ hk=>hk.2) (.int .i64 B0)) (fun _ hk=>hk.2) (.int .i64 C0)) (fun _ hk=>hk.2) (.string F0)) (fun _ h_=>h_.1))))) (g:=m0) (o:= .cells #[.int .i64 B0,.int .i64 C0,.string F0] 105 (0,0)) bu_) (below_size (bw_ HB)));replace b0:=mk_ (Kd.R_elder' (rq_ (Kd.R_mono (Kd.R_far (p:=⟨m0,2,none⟩) (Kd.R_far (p:=⟨m0,1,none⟩) (Kd.R_far (p:=⟨m0,0,none⟩) (Kd.R_mono b0.out (fun k_ hk=>(⟨hk,hk.2⟩:_∧k_≠m0))) (fun _ hk=>hk.2) (.int .i64 B0)) (fun _ hk=>hk.2) (.int .i64 C0)) (fun _ hk=>hk.2) (.string F0)) (fun _ h_=>h_.1))) (Kd.R_base X3) hb);replace a0:=bq_ a0 hb;replace d0:=bq_ d0 hb;replace J0:=bU_ J0 #[.int .i64 B0,.int .i64 C0,.string F0] hb;replace HK:=mk_ (Kept.below (S:=(fun _=>False)) (by repeat(first|(with_reducible first|exact HK.out|apply Kept.alloc|apply Kept.drewN|apply Kept.drew|refine Kept.setCell ?_ (.inr n0.out) _|refine Kept.setCell ?_ (.inr p0.out) _|refine Kept.setCell ?_ (.inr K0.out) _)|exact HK.out)) hb);replace HB:=bs_ HB hb;(try clear hb);(try clear hk);(try clear X3);obtain⟨H2,I2,J2,K2,L2,M2,N2,O2,P2,Q2,R2,U2⟩:=b6_ a0;obtain⟨d1,e1,Y3⟩:=Kd.R_slice X0.out;subst Y3;obtain⟨V2,W2,X2,Y2,Z2,a3,b3,d3,e3,g3,h3,j3⟩:=b6_ d0))
  refine bodyPost_ret (results_ct rfl _ _ g0 30 #[.int .i64 t0,.int .i64 H0,.int .i64 I0,.int .i64 P0,.int .i64 Q0,.slice d1 R0.length e1] (0,0) _ rfl bu_ Tryz.underlying30 rfl (by kernel_rfl)) rfl ?_
  exact⟨_,er_,rq_ (Kd.R_mono (Kd.R_far (p:=⟨g0,5,none⟩) (Kd.R_far (p:=⟨g0,4,none⟩) (Kd.R_far (p:=⟨g0,3,none⟩) (Kd.R_far (p:=⟨g0,2,none⟩) (Kd.R_far (p:=⟨g0,1,none⟩) (Kd.R_far (p:=⟨g0,0,none⟩) (Kd.R_far (p:=⟨h0,5,none⟩) (Kd.R_far (p:=⟨h0,4,none⟩) (Kd.R_far (p:=⟨h0,3,none⟩) (Kd.R_types (Kd.R_types X0.out a0.out (by decide)) d0.out (by decide)) (fun _ hk=>hk.1.2) (.int .i64 P0)) (fun _ hk=>hk.1.2) (.int .i64 Q0)) (fun _ hk=>hk.1.2) (.slice d1 R0.length e1)) (fun _ hk=>hk.2) (.int .i64 t0)) (fun _ hk=>hk.2) (.int .i64 H0)) (fun _ hk=>hk.2) (.int .i64 I0)) (fun _ hk=>hk.2) (.int .i64 P0)) (fun _ hk=>hk.2) (.int .i64 Q0)) (fun _ hk=>hk.2) (.slice d1 R0.length e1)) (fun _ hk=>hk.1.1.1.1.1)),bw_ HB,by repeat(first|(with_reducible first|exact HK.out|apply Kept.alloc|apply Kept.drewN|apply Kept.drew|refine Kept.setCell ?_ (.inr n0.out) _|refine Kept.setCell ?_ (.inr p0.out) _|refine Kept.setCell ?_ (.inr K0.out) _)|exact HK.out)⟩
 subst c4
 rw [if_pos rfl] at H
 obtain⟨Z3,A5,H⟩:=ob_ H
 try dsimp only at H
 simp only [Option.some.injEq,Prod.mk.injEq] at H
 obtain⟨rfl,rfl,rfl,rfl,rfl,rfl,rfl⟩:=H
 obtain⟨g1,m1,P4⟩:=Kd.R_slice b0.out
 subst P4
 go_enter Tryz.func60,Tryz.ntmps60
 try go_wp2_with (first|((with_reducible refine gn_ 2 rfl ?_);refine bx_ (N:=2) (cs:=#[.int .i64 t0,.int .i64 H0,.int .i64 I0,.int .i64 v0,.int .i64 x0,.slice g1 q0.length m1]) (t:=30) ?_;intro h0 hg w7 hbox hb;have a0:=mk_ (hbox);have n0:=mk_ ((by rw [hg];exact(by first|exact HK.out.1|exact(show Kept w _ (fun _=>False) from kp_ HK).1):w.heap.size≤h0));have V0:=mk_ ((by rw [hg];exact(below_size (bw_ HB)):w0.heap.size≤h0));replace b0:=mk_ (Kd.R_below (rq_ b0.out) hb);replace HK:=mk_ (Kept.below (S:=(fun _=>False)) (kp_ HK) hb);replace HB:=bs_ HB hb;clear hb hbox hg)|((with_reducible refine gn_ 4 rfl ?_);refine bx_ (N:=4) (cs:=#[.int .i64 0,.int .i64 0,.int .i64 0,.int .i64 0,.int .i64 0,.slice none 0 0]) (t:=30) ?_;intro g0 hg w8 hbox hb;have d0:=mk_ (hbox);have p0:=mk_ ((by rw [hg];exact(by first|exact HK.out.1|exact(show Kept w _ (fun _=>False) from by repeat(first|(with_reducible first|exact HK.out|apply Kept.alloc|apply Kept.drewN|apply Kept.drew|refine Kept.setCell ?_ (.inr n0.out) _)|exact HK.out)).1):w.heap.size≤g0));have W0:=mk_ ((by rw [hg];exact(below_size (bw_ HB)):w0.heap.size≤g0));have e0:=bl_ a0 hg;have o0:=bg_ a0 hg;replace b0:=mk_ (Kd.R_below (rq_ b0.out) hb);replace a0:=bb_ a0 hb;replace HK:=mk_ (Kept.below (S:=(fun _=>False)) (by repeat(first|(with_reducible first|exact HK.out|apply Kept.alloc|apply Kept.drewN|apply Kept.drew|refine Kept.setCell ?_ (.inr n0.out) _)|exact HK.out)) hb);replace HB:=bs_ HB hb;clear hb hbox hg)|((with_reducible refine gc_ 57 rfl ?_);refine gm_ 14 Tryz.func57 (impl_head.calls k a1 72 r0 s0 true _ A3.out) ?_;rintro w9 hb;replace b0:=mk_ (Kd.R_below (rq_ b0.out) hb);replace a0:=bb_ a0 hb;replace d0:=bb_ d0 hb;replace HK:=mk_ (Kept.below (S:=(fun _=>False)) (by repeat(first|(with_reducible first|exact HK.out|apply Kept.alloc|apply Kept.drewN|apply Kept.drew|refine Kept.setCell ?_ (.inr n0.out) _|refine Kept.setCell ?_ (.inr p0.out) _)|exact HK.out)) hb);replace HB:=bs_ HB hb;(try clear hb);obtain⟨C4,D4⟩:=ns_ e0;obtain⟨l3,m3,n3,o3,q3,s3,t3,v3,w3,x3,y3,C3⟩:=b6_ a0))
 have n1:Aside0 (Kd.R k105 105 ((w9.setCell ⟨h0,1,none⟩ (.int .i64 r0)).setCell ⟨h0,2,none⟩ (.int .i64 s0)) w0.heap.size (fun k_=>(G0 k_∨w.heap.size≤k_)) (.slice g1 q0.length m1) q0):=⟨rq_ (Kd.R_mono (Kd.R_far (p:=⟨h0,2,none⟩) (Kd.R_far (p:=⟨h0,1,none⟩) (Kd.R_types b0.out a0.out (by decide)) (fun _ hk=>hk.2) (.int .i64 r0)) (fun _ hk=>hk.2) (.int .i64 s0)) (fun _ hk=>hk.1))⟩
 have a4:Aside0 (((w9.setCell ⟨h0,1,none⟩ (.int .i64 r0)).setCell ⟨h0,2,none⟩ (.int .i64 s0)).heap[h0]? =some (.cells #[.int .i64 t0,.int .i64 r0,.int .i64 s0,.int .i64 v0,.int .i64 x0,.slice g1 q0.length m1] 30 (0,0))):=⟨bu_⟩
 have b4:Aside0 (((w9.setCell ⟨h0,1,none⟩ (.int .i64 r0)).setCell ⟨h0,2,none⟩ (.int .i64 s0)).heap[g0]? =some (.cells #[.int .i64 0,.int .i64 0,.int .i64 0,.int .i64 0,.int .i64 0,.slice none 0 0] 30 (0,0))):=⟨bf_⟩
 have U0:Aside0 (Kept w ((w9.setCell ⟨h0,1,none⟩ (.int .i64 r0)).setCell ⟨h0,2,none⟩ (.int .i64 s0)) (fun _=>False)):=⟨by repeat(first|(with_reducible first|exact HK.out|apply Kept.alloc|apply Kept.drewN|apply Kept.drew|refine Kept.setCell ?_ (.inr n0.out) _|refine Kept.setCell ?_ (.inr p0.out) _)|exact HK.out)⟩
 have d4:Aside0 (Below w0.heap.size w0 ((w9.setCell ⟨h0,1,none⟩ (.int .i64 r0)).setCell ⟨h0,2,none⟩ (.int .i64 s0))):=⟨bw_ HB⟩
 (try clear b0);(try clear a0);(try clear d0);(try clear HK);(try clear HB)
 generalize ((w9.setCell ⟨h0,1,none⟩ (.int .i64 r0)).setCell ⟨h0,2,none⟩ (.int .i64 s0))=Q4 at n1 a4 b4 U0 d4⊢
 have b0:=n1;have a0:=a4;have d0:=b4;have HK:=U0;have HB:=d4;clear n1 a4 b4 U0 d4
 have U0:=mk_ (Kept.drew HK.out)
 clear HK;have HK:=U0;clear U0;replace b0:=rd_ b0;replace a0:=kd_ a0;replace d0:=kd_ d0;replace HB:=wd_ HB
 refine start_ (n:=5) (S:=fun w'=>w'.cell? ⟨h0,0,none⟩=some (.int .i64 t0)∧w'.cell? ⟨h0,1,none⟩=some (.int .i64 r0)∧w'.cell? ⟨h0,2,none⟩=some (.int .i64 s0)∧w'.cell? ⟨h0,3,none⟩=some (.int .i64 v0)∧w'.cell? ⟨h0,4,none⟩=some (.int .i64 x0)∧w'.cell? ⟨h0,5,none⟩=some (.slice g1 q0.length m1)) (ds:=[]) #[false,false,false,false,false] (by kernel_rfl) rfl rfl ⟨bc_ a0 0,bc_ a0 1,bc_ a0 2,bc_ a0 3,bc_ a0 4,bc_ a0 5⟩ (fun hHeld=>?_)
 generalize Q4.drew=q5 at b0 a0 d0 HK HB hHeld⊢
 refine tv_ 0 23 hHeld ?_
 refine tv_ 1 24 hHeld ?_
 refine one_ (i:=2) (N:=some 25) #[true,true,true,false,false] rfl rfl (by kernel_rfl) (by decide) (fun K hK=>?_)
 refine gt_ Tryz.func58 #[.agg #[.int .i64 t0,.int .i64 r0,.int .i64 s0,.int .i64 v0,.int .i64 x0,.slice g1 q0.length m1]] (impl_JournalOk.calls k t0 r0 s0 v0 x0 _ _ q0 Z3 _ ?side1 ?side2 A5.out) ?_
 (case side1=>repeat(first|exact(Kd.R_reads' b0.out).2.2|(with_reducible refine Kd.C_alloc ?_ _)|(with_reducible refine Kd.C_drewN ?_ _)|(with_reducible refine Kd.C_drew ?_)))
 (case side2=>exact(Kd.R_reads' b0.out).2.1)
 rintro o1 hb
 have n1:=mk_ (Kd.R_below (rq_ b0.out) hb)
 have U0:=mk_ (Kept.below (S:=(fun _=>False)) (by repeat(first|(with_reducible first|exact HK.out|apply Kept.alloc|apply Kept.drewN|apply Kept.drew|refine Kept.setCell ?_ (.inr n0.out) _|refine Kept.setCell ?_ (.inr p0.out) _)|exact HK.out)) hb)
 clear b0;clear HK;have b0:=n1;have HK:=U0;clear n1 U0;replace a0:=bb_ a0 hb;replace d0:=bb_ d0 hb;replace HB:=bs_ HB hb;(try clear hb);(try clear s5);(try clear hk);(try clear hi)
 refine hK.out _ _ ⟨bc_ a0 0,bc_ a0 1,bc_ a0 2,bc_ a0 3,bc_ a0 4,bc_ a0 5⟩ (fun hHeld=>?_)
 clear hK K
 refine norm_ (a':=?_) ?_ ?_
 rotate_left
 ·show Act.put _ (some 25) _=_
  simp only [Act.put,sia_,scz_,scs_,i64_w,i32_w]
  rfl
 refine one_ (i:=3) (N:=none) #[true,true,true,true,false] rfl rfl (by kernel_rfl) (by decide) (fun K hK=>?_)
 have R4:o1.cell? ⟨g0,0,none⟩=some (.int .i64 0):=bc_ d0 0
 have F4:=blk_frozen d0.out 0
 have D3:=e0.out
 have F3:=o0.out
 have U4:o1.cell? ⟨g0,1,none⟩=some (.int .i64 0):=bc_ d0 1
 have G4:=blk_frozen d0.out 1
 have G3:=e0.out
 have H3:=o0.out
 have V4:o1.cell? ⟨g0,2,none⟩=some (.int .i64 0):=bc_ d0 2
 have H4:=blk_frozen d0.out 2
 have I3:=e0.out
 have J3:=o0.out
 have W4:o1.cell? ⟨g0,3,none⟩=some (.int .i64 0):=bc_ d0 3
 have I4:=blk_frozen d0.out 3
 have K3:=e0.out
 have L3:=o0.out
 have X4:o1.cell? ⟨g0,4,none⟩=some (.int .i64 0):=bc_ d0 4
 have J4:=blk_frozen d0.out 4
 have M3:=e0.out
 have N3:=o0.out
 have Y4:o1.cell? ⟨g0,5,none⟩=some (.slice none 0 0):=bc_ d0 5
 have K4:=blk_frozen d0.out 5
 have O3:=e0.out
 have P3:=o0.out
 refine skip_ (w1:=?_) (by rfl) rfl ?_ ?_
 rotate_left
 ·go_simp
  rfl
 refine hK.out _ _ ⟨(cf_ e0 hHeld.1),(cf_ e0 hHeld.2.1),(cf_ e0 hHeld.2.2.1),(cf_ e0 hHeld.2.2.2.1),(cf_ e0 hHeld.2.2.2.2.1),(cf_ e0 hHeld.2.2.2.2.2)⟩ (fun hHeld=>?_)
 clear hK K
 refine pv_ 4 5 ?_
 refine done_ (by kernel_rfl) ?_
 try go_wp2
 refine bodyPost_ret (results_ct rfl _ _ g0 30 #[.int .i64 t0,.int .i64 r0,.int .i64 s0,.int .i64 v0,.int .i64 x0,.slice g1 q0.length m1] (0,0) _ rfl bu_ Tryz.underlying30 rfl (by kernel_rfl)) rfl ?_
 exact⟨_,er_,rq_ (Kd.R_mono (Kd.R_far (p:=⟨g0,5,none⟩) (Kd.R_far (p:=⟨g0,4,none⟩) (Kd.R_far (p:=⟨g0,3,none⟩) (Kd.R_far (p:=⟨g0,2,none⟩) (Kd.R_far (p:=⟨g0,1,none⟩) (Kd.R_far (p:=⟨g0,0,none⟩) (Kd.R_types b0.out d0.out (by decide)) (fun _ hk=>hk.2) (.int .i64 t0)) (fun _ hk=>hk.2) (.int .i64 r0)) (fun _ hk=>hk.2) (.int .i64 s0)) (fun _ hk=>hk.2) (.int .i64 v0)) (fun _ hk=>hk.2) (.int .i64 x0)) (fun _ hk=>hk.2) (.slice g1 q0.length m1)) (fun _ hk=>hk.1)),bw_ HB,by repeat(first|(with_reducible first|exact HK.out|apply Kept.alloc|apply Kept.drewN|apply Kept.drew|refine Kept.setCell ?_ (.inr n0.out) _|refine Kept.setCell ?_ (.inr p0.out) _)|exact HK.out)⟩
theorem add_next_ (ad:Addr) (i:Int) (h:0≤i):(⟨ad.block,ad.off+1,none⟩:Addr).add i.toNat=ad.add (i+1).toNat:=by
 have h1:(i+1).toNat=i.toNat+1:=by omega
 rw [h1]
 unfold Addr.add
 by_cases h0:i.toNat=0
 ·simp [h0]
 ·simp [h0]
  omega
theorem abs_ {P:Program} {ops:Array Oper} {rest:List Oper} {a:Act} {Q:Exit→Act→World→Prop} {W:World} (F:World→Prop) (hF:F W) (h:∀W',F W'→wpList P ops Q rest a W'):wpList P ops Q rest a W:=h W hF
theorem of_kept_ {n:Nat} {w W W1:World} (h0:Below n w W) (hb:Below n w W1) (hk:Kept W W1 (fun _=>False)):Below W.heap.size W W1:=⟨hb.os.trans h0.os.symm,hb.tape.trans h0.tape.symm,hb.output.trans h0.output.symm,hk.1,fun k h=>hk.2 k h id⟩
def impl_ReadJournal.l0 (ls:List ByteArray):Nat→Int→Int→Int→Int→Int→Int→List S105→Int→Option (Int × Int × Int × Int × Int × List S105 × Int)
 |0,_,_,_,_,_,_,_,_=>none
 |k+1,i,a0,a1,a2,a3,a4,l,e=>if i<(ls.length:Int) - 1 then(if 0≤i then((impl_told.f k a0 a1 a2 a3 a4 l (rdOf ByteArray.empty ls (i+1))).bind fun m=>if m.2.2.2.2.2.2=true then((impl_Frame.f k (rdOf ByteArray.empty ls (i+1))).bind fun f=>impl_ReadJournal.l0 ls k (wrap64 (i+1)) m.1 m.2.1 m.2.2.1 m.2.2.2.1 m.2.2.2.2.1 m.2.2.2.2.2.1 (wrap64 (e+(f.1.size:Int)))) else some (a0,a1,a2,a3,a4,l,e)) else none) else some (a0,a1,a2,a3,a4,l,e)
def impl_ReadJournal.f (k:Nat) (a0:Int) (a1:ByteArray):Option (Int × Int × Int × Int × Int × List S105 × Int × Bool):=(impl_Unframe.f k a1).bind fun u=>(impl_within.f a0 0 999).bind fun c=>if c=true then(if(u.1.length:Int)=0 then some (0,0,0,0,0,[],0,false) else((impl_head.f k (rdOf ByteArray.empty u.1 0) 66).bind fun h=>if h.2.2=true then((impl_JournalOk.f k a0 0 0 h.1 h.2.1 []).bind fun g=>if g=true then((impl_Frame.f k (rdOf ByteArray.empty u.1 0)).bind fun f=>(impl_ReadJournal.l0 u.1 k 0 a0 0 0 h.1 h.2.1 [] (f.1.size:Int)).bind fun r=>some (r.1,r.2.1,r.2.2.1,r.2.2.2.1,r.2.2.2.2.1,r.2.2.2.2.2.1,r.2.2.2.2.2.2,true)) else some (0,0,0,0,0,[],0,false)) else some (0,0,0,0,0,[],0,false))) else some (0,0,0,0,0,[],0,false)
theorem impl_ReadJournal.no1_ (k:Nat) (a0:Int) (a1:ByteArray) (w:World) (u1:List ByteArray) (u2:Int) (hu:impl_Unframe.f k a1=some (u1,u2)) (hc:impl_within.f a0 0 999=some false):
  Calls Tryz.prog 30 #[.int .i64 a0,.string a1] w fun e w'=>∃b0:Value,e= .returned (.tuple #[.agg #[.int .i64 0,.int .i64 0,.int .i64 0,.int .i64 0,.int .i64 0,b0],.int .i64 0,.bool false])∧Kd.R k105 105 w' w.heap.size (fun _=>True) b0 []∧Below w.heap.size w w':=by
 have n0:=Tryz.underlying30
 have o0:=Tryz.underlying28
 have HU:=Aside0.mk hu
 have HB:=mk_ (Below.refl w.heap.size w)
 clear hu
 have HC:=Aside0.mk hc
 clear hc
 go_enter Tryz.func30,Tryz.ntmps30
 go_wp2_with (first
  |((with_reducible refine gn_ 4 rfl ?_);refine bx_ (N:=4) (cs:=#[.int .i64 0,.int .i64 0,.int .i64 0,.int .i64 0,.int .i64 0,.slice none 0 0]) (t:=30) ?_;intro gr hg w1 hbox hb;have BR:=Aside0.mk hbox;have GR:Aside0 (w.heap.size≤gr):=bz_ hg;replace HB:=bs_ HB hb;clear hb hbox hg;obtain⟨r0,d0,e0,g0,h0,m0,z0,z1,z2,z3,z4,z5⟩:=b6_ BR)
  |(go_at_call 56;(with_reducible refine(impl_Unframe.calls k a1 u1 u2 _ HU.out).mono ?_);rintro e w2 ⟨v0,rfl,ho,hb⟩;obtain⟨A0,c0,rfl⟩:=Kd.R_slice ho;have HR:=mk_ (Kd.R_lower ho (below_size (bw_ HB)));replace BR:=bb_ BR hb;replace HB:=bs_ HB hb;clear hb ho;clear r0 d0 e0 g0 h0 m0 z0 z1 z2 z3 z4 z5;obtain⟨r0,d0,e0,g0,h0,m0,z0,z1,z2,z3,z4,z5⟩:=b6_ BR)
  |(go_at_call 53;(with_reducible refine(impl_within.calls a0 0 999 false _ HC.out).mono ?_);rintro e w3 ⟨rfl,⟨nd,rfl⟩⟩))
 refine bodyPost_ret (results_ctt rfl _ _ gr 30 #[.int .i64 0,.int .i64 0,.int .i64 0,.int .i64 0,.int .i64 0,.slice none 0 0] (0,0) _ rfl bu_ Tryz.underlying30 rfl (by kernel_rfl)) rfl ?_
 exact⟨_,rfl,Kd.R_nil _ _ _ _ _,bw_ HB⟩
theorem impl_ReadJournal.no2_ (k:Nat) (a0:Int) (a1:ByteArray) (w:World) (u1:List ByteArray) (u2:Int) (hu:impl_Unframe.f k a1=some (u1,u2)) (hc:impl_within.f a0 0 999=some true) (hl:(u1.length:Int)=0):
  Calls Tryz.prog 30 #[.int .i64 a0,.string a1] w fun e w'=>∃b0:Value,e= .returned (.tuple #[.agg #[.int .i64 0,.int .i64 0,.int .i64 0,.int .i64 0,.int .i64 0,b0],.int .i64 0,.bool false])∧Kd.R k105 105 w' w.heap.size (fun _=>True) b0 []∧Below w.heap.size w w':=by
 have n0:=Tryz.underlying30
 have o0:=Tryz.underlying28
 have HU:=Aside0.mk hu
 have HB:=mk_ (Below.refl w.heap.size w)
 clear hu
 have HC:=Aside0.mk hc
 have hlb:((u1.length:Int) == 0)=true:=beq_iff_eq.mpr hl
 have hlc:(u1.length == 0)=true:=by first|simpa using hl|(simp at hl⊢;omega)
 clear hc
 go_enter Tryz.func30,Tryz.ntmps30
 go_wp2_with (first
  |((with_reducible refine gn_ 4 rfl ?_);refine bx_ (N:=4) (cs:=#[.int .i64 0,.int .i64 0,.int .i64 0,.int .i64 0,.int .i64 0,.slice none 0 0]) (t:=30) ?_;intro gr hg w1 hbox hb;have BR:=Aside0.mk hbox;have GR:Aside0 (w.heap.size≤gr):=bz_ hg;replace HB:=bs_ HB hb;clear hb hbox hg;obtain⟨r0,d0,e0,g0,h0,m0,z0,z1,z2,z3,z4,z5⟩:=b6_ BR)
  |(go_at_call 56;(with_reducible refine(impl_Unframe.calls k a1 u1 u2 _ HU.out).mono ?_);rintro e w2 ⟨v0,rfl,ho,hb⟩;obtain⟨A0,c0,rfl⟩:=Kd.R_slice ho;have HR:=mk_ (Kd.R_lower ho (below_size (bw_ HB)));replace BR:=bb_ BR hb;replace HB:=bs_ HB hb;clear hb ho;clear r0 d0 e0 g0 h0 m0 z0 z1 z2 z3 z4 z5;obtain⟨r0,d0,e0,g0,h0,m0,z0,z1,z2,z3,z4,z5⟩:=b6_ BR)
  |(go_at_call 53;(with_reducible refine(impl_within.calls a0 0 999 true _ HC.out).mono ?_);rintro e w3 ⟨rfl,⟨nd,rfl⟩⟩))
 refine bodyPost_ret (results_ctt rfl _ _ gr 30 #[.int .i64 0,.int .i64 0,.int .i64 0,.int .i64 0,.int .i64 0,.slice none 0 0] (0,0) _ rfl bu_ Tryz.underlying30 rfl (by kernel_rfl)) rfl ?_
 exact⟨_,rfl,Kd.R_nil _ _ _ _ _,bw_ HB⟩
theorem impl_ReadJournal.no3_ (k:Nat) (a0:Int) (a1:ByteArray) (w:World) (u1:List ByteArray) (u2:Int) (hu:impl_Unframe.f k a1=some (u1,u2)) (hc:impl_within.f a0 0 999=some true) (hl:¬(u1.length:Int)=0) (b1 b2:Int) (h2:impl_head.f k (rdOf ByteArray.empty u1 0) 66=some (b1,b2,false)):
  Calls Tryz.prog 30 #[.int .i64 a0,.string a1] w fun e w'=>∃s0:Value,e= .returned (.tuple #[.agg #[.int .i64 0,.int .i64 0,.int .i64 0,.int .i64 0,.int .i64 0,s0],.int .i64 0,.bool false])∧Kd.R k105 105 w' w.heap.size (fun _=>True) s0 []∧Below w.heap.size w w':=by
 have x0:=Tryz.underlying30
 have B0:=Tryz.underlying28
 have HU:=Aside0.mk hu
 have HB:=mk_ (Below.refl w.heap.size w)
 clear hu
 have HC:=Aside0.mk hc
 have hlb:((u1.length:Int) == 0)=false:=beq_eq_false_iff_ne.mpr hl
 have hlc:(u1.length == 0)=false:=by first|simpa using hl|(simp at hl⊢;omega)
 have H2:=Aside0.mk h2
 have p0:(0:Int)≤0:=Int.le_refl 0
 have q0:(0:Int)<(u1.length:Int):=by omega
 clear hc h2
 go_enter Tryz.func30,Tryz.ntmps30
 go_wp2_with (first
  |((with_reducible refine gn_ 4 rfl ?_);refine bx_ (N:=4) (cs:=#[.int .i64 0,.int .i64 0,.int .i64 0,.int .i64 0,.int .i64 0,.slice none 0 0]) (t:=30) ?_;intro gr hg w1 hbox hb;have BR:=Aside0.mk hbox;have GR:Aside0 (w.heap.size≤gr):=bz_ hg;replace HB:=bs_ HB hb;clear hb hbox hg;obtain⟨r0,d0,g0,h0,m0,n0,z0,z1,z2,z3,z4,z5⟩:=b6_ BR)
  |(go_at_call 56;(with_reducible refine(impl_Unframe.calls k a1 u1 u2 _ HU.out).mono ?_);rintro e w2 ⟨v0,rfl,ho,hb⟩;obtain⟨A0,c0,rfl⟩:=Kd.R_slice ho;have HR:=mk_ (Kd.R_lower ho (below_size (bw_ HB)));replace BR:=bb_ BR hb;replace HB:=bs_ HB hb;clear hb ho;clear r0 d0 g0 h0 m0 n0 z0 z1 z2 z3 z4 z5;obtain⟨r0,d0,g0,h0,m0,n0,z0,z1,z2,z3,z4,z5⟩:=b6_ BR)
  |(go_at_call 53;(with_reducible refine(impl_within.calls a0 0 999 true _ HC.out).mono ?_);rintro e w3 ⟨rfl,⟨nd,rfl⟩⟩;obtain⟨ad,e0,b0⟩:=Kd.at_string (Kd.R_reads' HR.out).2.2 0 p0 q0;cases e0;have HCAP:=mk_ (Kd.R_reads' HR.out).2.1;replace b0:=(congrArg w2.cell? (show ad=ad.add (Int.toNat 0) from rfl)).trans b0;have C0:=Aside0.mk b0)
  |(go_at_call 57;(with_reducible refine(impl_head.calls k (rdOf ByteArray.empty u1 0) 66 b1 b2 _ _ H2.out).mono ?_);rintro e w4 ⟨rfl,hb⟩;replace BR:=bb_ BR hb;replace HR:=rb_ HR hb;have t0:Aside0 (w4.cell? ad=some (.string (rdOf ByteArray.empty u1 0))):=⟨(hb.cell (World.block_lt_of_cell? _ _ b0)).trans b0⟩;replace HB:=bs_ HB hb;clear hb b0 C0;clear r0 d0 g0 h0 m0 n0 z0 z1 z2 z3 z4 z5;obtain⟨r0,d0,g0,h0,m0,n0,z0,z1,z2,z3,z4,z5⟩:=b6_ BR;have o0:=mk_ (Below.refl w4.heap.size w4);have HBW:=HB;have F0:=BR;have G0:Aside0 (Kd.C Kd.string w4 (some ad) u1.length u1):=⟨(Kd.R_reads' HR.out).2.2⟩;replace b0:=t0.out;clear HR)
  |((with_reducible refine gn_ 12 rfl ?_);refine bx_ (N:=12) (cs:=#[.int .i64 0,.int .i64 0,.int .i64 0,.int .i64 0,.int .i64 0,.slice none 0 0]) (t:=30) ?_;intro gj hg w5 hbox hb;have BJ:=Aside0.mk hbox;have GJ:Aside0 (w.heap.size≤gj):=bz_ hg;have EJ:Aside0 (gj=w4.heap.size):=⟨hg⟩;have G4:Aside0 (w4.heap.size≤gj):=⟨by rw [EJ.out];exact Nat.le_refl _⟩;replace o0:Aside0 (Below w4.heap.size w4 w5):=bs_ o0 hb;have NRJ:=bl_ BR hg;have NJR:=bg_ BR hg;have H0:=NRJ.out;have I0:=NJR.out;replace BR:=bb_ BR hb;replace HB:=bs_ HB hb;replace b0:=hc_ o0 t0.out;clear hb hbox hg;clear r0 d0 g0 h0 m0 n0 z0 z1 z2 z3 z4 z5;obtain⟨r0,d0,g0,h0,m0,n0,z0,z1,z2,z3,z4,z5⟩:=b6_ BR;obtain⟨j0,j1,j2,j3,j4,j5,y0,y1,y2,y3,y4,y5⟩:=b6_ BJ))
 refine bodyPost_ret (results_ctt rfl _ _ gr 30 #[.int .i64 0,.int .i64 0,.int .i64 0,.int .i64 0,.int .i64 0,.slice none 0 0] (0,0) _ rfl bu_ Tryz.underlying30 rfl (by kernel_rfl)) rfl ?_
 exact⟨_,rfl,Kd.R_nil _ _ _ _ _,bw_ HB⟩
theorem impl_ReadJournal.no4_ (k:Nat) (a0:Int) (a1:ByteArray) (w:World) (u1:List ByteArray) (u2:Int) (hu:impl_Unframe.f k a1=some (u1,u2)) (hc:impl_within.f a0 0 999=some true) (hl:¬(u1.length:Int)=0) (b1 b2:Int) (h2:impl_head.f k (rdOf ByteArray.empty u1 0) 66=some (b1,b2,true)) (h4:impl_JournalOk.f k a0 0 0 b1 b2 []=some false):
  Calls Tryz.prog 30 #[.int .i64 a0,.string a1] w fun e w'=>∃t0:Value,e= .returned (.tuple #[.agg #[.int .i64 0,.int .i64 0,.int .i64 0,.int .i64 0,.int .i64 0,t0],.int .i64 0,.bool false])∧Kd.R k105 105 w' w.heap.size (fun _=>True) t0 []∧Below w.heap.size w w':=by
 have x0:=Tryz.underlying30
 have B0:=Tryz.underlying28
 have HU:=Aside0.mk hu
 have HB:=mk_ (Below.refl w.heap.size w)
 clear hu
 have HC:=Aside0.mk hc
 have hlb:((u1.length:Int) == 0)=false:=beq_eq_false_iff_ne.mpr hl
 have hlc:(u1.length == 0)=false:=by first|simpa using hl|(simp at hl⊢;omega)
 have H2:=Aside0.mk h2
 have p0:(0:Int)≤0:=Int.le_refl 0
 have q0:(0:Int)<(u1.length:Int):=by omega
 clear hc h2
 have HLK:Aside0 (∀W,Calls Tryz.prog 58 #[.agg #[.int .i64 a0,.int .i64 0,.int .i64 0,.int .i64 b1,.int .i64 b2,.slice none 0 0]] W (fun e w'=>e= .returned (.bool false)∧Below W.heap.size W w')):=⟨fun W=>impl_JournalOk.calls k a0 0 0 b1 b2 none 0 [] false W ((Kd.R_reads' (Kd.R_nil k105 105 W 0 (fun _=>True))).2.2) (Nat.le_refl 0) h4⟩
 clear h4
 go_enter Tryz.func30,Tryz.ntmps30
 go_wp2_with (first
  |((with_reducible refine gn_ 4 rfl ?_);refine bx_ (N:=4) (cs:=#[.int .i64 0,.int .i64 0,.int .i64 0,.int .i64 0,.int .i64 0,.slice none 0 0]) (t:=30) ?_;intro gr hg w1 hbox hb;have BR:=Aside0.mk hbox;have GR:Aside0 (w.heap.size≤gr):=bz_ hg;replace HB:=bs_ HB hb;clear hb hbox hg;obtain⟨r0,d0,g0,h0,m0,n0,z0,z1,z2,z3,z4,z5⟩:=b6_ BR)
  |(go_at_call 56;(with_reducible refine(impl_Unframe.calls k a1 u1 u2 _ HU.out).mono ?_);rintro e w2 ⟨v0,rfl,ho,hb⟩;obtain⟨A0,c0,rfl⟩:=Kd.R_slice ho;have HR:=mk_ (Kd.R_lower ho (below_size (bw_ HB)));replace BR:=bb_ BR hb;replace HB:=bs_ HB hb;clear hb ho;clear r0 d0 g0 h0 m0 n0 z0 z1 z2 z3 z4 z5;obtain⟨r0,d0,g0,h0,m0,n0,z0,z1,z2,z3,z4,z5⟩:=b6_ BR)
  |(go_at_call 53;(with_reducible refine(impl_within.calls a0 0 999 true _ HC.out).mono ?_);rintro e w3 ⟨rfl,⟨nd,rfl⟩⟩;obtain⟨ad,e0,b0⟩:=Kd.at_string (Kd.R_reads' HR.out).2.2 0 p0 q0;cases e0;have HCAP:=mk_ (Kd.R_reads' HR.out).2.1;replace b0:=(congrArg w2.cell? (show ad=ad.add (Int.toNat 0) from rfl)).trans b0;have C0:=Aside0.mk b0)
  |(go_at_call 57;(with_reducible refine(impl_head.calls k (rdOf ByteArray.empty u1 0) 66 b1 b2 _ _ H2.out).mono ?_);rintro e w4 ⟨rfl,hb⟩;replace BR:=bb_ BR hb;replace HR:=rb_ HR hb;have s0:Aside0 (w4.cell? ad=some (.string (rdOf ByteArray.empty u1 0))):=⟨(hb.cell (World.block_lt_of_cell? _ _ b0)).trans b0⟩;replace HB:=bs_ HB hb;clear hb b0 C0;clear r0 d0 g0 h0 m0 n0 z0 z1 z2 z3 z4 z5;obtain⟨r0,d0,g0,h0,m0,n0,z0,z1,z2,z3,z4,z5⟩:=b6_ BR;have o0:=mk_ (Below.refl w4.heap.size w4);have HBW:=HB;have F0:=BR;have G0:Aside0 (Kd.C Kd.string w4 (some ad) u1.length u1):=⟨(Kd.R_reads' HR.out).2.2⟩;replace b0:=s0.out;clear HR)
  |((with_reducible refine gn_ 12 rfl ?_);refine bx_ (N:=12) (cs:=#[.int .i64 0,.int .i64 0,.int .i64 0,.int .i64 0,.int .i64 0,.slice none 0 0]) (t:=30) ?_;intro gj hg w5 hbox hb;have BJ:=Aside0.mk hbox;have GJ:Aside0 (w.heap.size≤gj):=bz_ hg;have EJ:Aside0 (gj=w4.heap.size):=⟨hg⟩;have G4:Aside0 (w4.heap.size≤gj):=⟨by rw [EJ.out];exact Nat.le_refl _⟩;replace o0:Aside0 (Below w4.heap.size w4 w5):=bs_ o0 hb;have NRJ:=bl_ BR hg;have NJR:=bg_ BR hg;have H0:=NRJ.out;have I0:=NJR.out;replace BR:=bb_ BR hb;replace HB:=bs_ HB hb;replace b0:=hc_ o0 s0.out;clear hb hbox hg;clear r0 d0 g0 h0 m0 n0 z0 z1 z2 z3 z4 z5;obtain⟨r0,d0,g0,h0,m0,n0,z0,z1,z2,z3,z4,z5⟩:=b6_ BR;obtain⟨j0,j1,j2,j3,j4,j5,y0,y1,y2,y3,y4,y5⟩:=b6_ BJ)
  |(go_at_call 58;(with_reducible refine(HLK.out _).mono ?_);rintro e w6 ⟨rfl,hb⟩;replace BJ:Aside0 (w6.heap[gj]? =some (.cells #[.int .i64 a0,.int .i64 0,.int .i64 0,.int .i64 b1,.int .i64 b2,.slice none 0 0] 30 (0,0))):=⟨blk_below bu_ hb⟩;replace BR:Aside0 (w6.heap[gr]? =some (.cells #[.int .i64 0,.int .i64 0,.int .i64 0,.int .i64 0,.int .i64 0,.slice none 0 0] 30 (0,0))):=⟨blk_below bf_ hb⟩;replace o0:=bs_ o0 hb;replace HB:=bs_ HB hb;replace b0:=hc_ o0 s0.out;clear hb j0 j1 j2 j3 j4 j5 y0 y1 y2 y3 y4 y5;clear r0 d0 g0 h0 m0 n0 z0 z1 z2 z3 z4 z5;obtain⟨r0,d0,g0,h0,m0,n0,z0,z1,z2,z3,z4,z5⟩:=b6_ BR))
 refine bodyPost_ret (results_ctt rfl _ _ gr 30 #[.int .i64 0,.int .i64 0,.int .i64 0,.int .i64 0,.int .i64 0,.slice none 0 0] (0,0) _ rfl bu_ Tryz.underlying30 rfl (by kernel_rfl)) rfl ?_
 exact⟨_,rfl,Kd.R_nil _ _ _ _ _,bw_ HB⟩
theorem impl_ReadJournal.loop_ (k:Nat) (a0:Int) (a1:ByteArray) (w:World) (u1:List ByteArray) (u2:Int) (hu:impl_Unframe.f k a1=some (u1,u2)) (hc:impl_within.f a0 0 999=some true) (hl:¬(u1.length:Int)=0) (b1 b2:Int) (h2:impl_head.f k (rdOf ByteArray.empty u1 0) 66=some (b1,b2,true)) (h4:impl_JournalOk.f k a0 0 0 b1 b2 []=some true) (f1:ByteArray) (f2:Bool) (hf:impl_Frame.f k (rdOf ByteArray.empty u1 0)=some (f1,f2)) (q0 q1 q2 q3 q4:Int) (ql:List S105) (qe:Int) (h5:impl_ReadJournal.l0 u1 k 0 a0 0 0 b1 b2 [] (f1.size:Int)=some (q0,q1,q2,q3,q4,ql,qe)):
  Calls Tryz.prog 30 #[.int .i64 a0,.string a1] w fun e w'=>∃V0:Value,e= .returned (.tuple #[.agg #[.int .i64 q0,.int .i64 q1,.int .i64 q2,.int .i64 q3,.int .i64 q4,V0],.int .i64 qe,.bool true])∧Kd.R k105 105 w' w.heap.size (fun _=>True) V0 ql∧Below w.heap.size w w':=by
 have W0:=Tryz.underlying30
 have X0:=Tryz.underlying28
 have HU:=Aside0.mk hu
 have HB:=mk_ (Below.refl w.heap.size w)
 clear hu
 have HC:=Aside0.mk hc
 have hlb:((u1.length:Int) == 0)=false:=beq_eq_false_iff_ne.mpr hl
 have hlc:(u1.length == 0)=false:=by first|simpa using hl|(simp at hl⊢;omega)
 have H2:=Aside0.mk h2
 have p0:(0:Int)≤0:=Int.le_refl 0
 have Y0:(0:Int)<(u1.length:Int):=by omega
 clear hc h2
 have HLK:Aside0 (∀W,Calls Tryz.prog 58 #[.agg #[.int .i64 a0,.int .i64 0,.int .i64 0,.int .i64 b1,.int .i64 b2,.slice none 0 0]] W (fun e w'=>e= .returned (.bool true)∧Below W.heap.size W w')):=⟨fun W=>impl_JournalOk.calls k a0 0 0 b1 b2 none 0 [] true W ((Kd.R_reads' (Kd.R_nil k105 105 W 0 (fun _=>True))).2.2) (Nat.le_refl 0) h4⟩
 clear h4
 have H5:=Aside0.mk h5
 have HFR:=Aside0.mk hf
 clear h5 hf
 go_enter Tryz.func30,Tryz.ntmps30
 go_wp2_with (first
  |((with_reducible refine gn_ 4 rfl ?_);refine bx_ (N:=4) (cs:=#[.int .i64 0,.int .i64 0,.int .i64 0,.int .i64 0,.int .i64 0,.slice none 0 0]) (t:=30) ?_;intro gr hg w1 hbox hb;have BR:=Aside0.mk hbox;have GR:Aside0 (w.heap.size≤gr):=bz_ hg;replace HB:=bs_ HB hb;clear hb hbox hg;obtain⟨r0,d0,g0,s0,t0,B0,z0,z1,z2,z3,z4,z5⟩:=b6_ BR)
  |(go_at_call 56;(with_reducible refine(impl_Unframe.calls k a1 u1 u2 _ HU.out).mono ?_);rintro e w2 ⟨v0,rfl,ho,hb⟩;obtain⟨A0,c0,rfl⟩:=Kd.R_slice ho;have HR:=mk_ (Kd.R_lower ho (below_size (bw_ HB)));replace BR:=bb_ BR hb;replace HB:=bs_ HB hb;clear hb ho;clear r0 d0 g0 s0 t0 B0 z0 z1 z2 z3 z4 z5;obtain⟨r0,d0,g0,s0,t0,B0,z0,z1,z2,z3,z4,z5⟩:=b6_ BR)
  |(go_at_call 53;(with_reducible refine(impl_within.calls a0 0 999 true _ HC.out).mono ?_);rintro e w3 ⟨rfl,⟨nd,rfl⟩⟩;obtain⟨ad,e0,F0⟩:=Kd.at_string (Kd.R_reads' HR.out).2.2 0 p0 Y0;cases e0;have HCAP:=mk_ (Kd.R_reads' HR.out).2.1;replace F0:=(congrArg w2.cell? (show ad=ad.add (Int.toNat 0) from rfl)).trans F0;have Z0:=Aside0.mk F0)
  |(go_at_call 57;(with_reducible refine(impl_head.calls k (rdOf ByteArray.empty u1 0) 66 b1 b2 _ _ H2.out).mono ?_);rintro e w4 ⟨rfl,hb⟩;replace BR:=bb_ BR hb;replace HR:=rb_ HR hb;have L0:Aside0 (w4.cell? ad=some (.string (rdOf ByteArray.empty u1 0))):=⟨(hb.cell (World.block_lt_of_cell? _ _ F0)).trans F0⟩;replace HB:=bs_ HB hb;clear hb F0 Z0;clear r0 d0 g0 s0 t0 B0 z0 z1 z2 z3 z4 z5;obtain⟨r0,d0,g0,s0,t0,B0,z0,z1,z2,z3,z4,z5⟩:=b6_ BR;have b0:=mk_ (Below.refl w4.heap.size w4);have HBW:=HB;have I0:=BR;have d1:Aside0 (Kd.C Kd.string w4 (some ad) u1.length u1):=⟨(Kd.R_reads' HR.out).2.2⟩;replace F0:=L0.out;clear HR)
  |((with_reducible refine gn_ 12 rfl ?_);refine bx_ (N:=12) (cs:=#[.int .i64 0,.int .i64 0,.int .i64 0,.int .i64 0,.int .i64 0,.slice none 0 0]) (t:=30) ?_;intro gj hg w5 hbox hb;have BJ:=Aside0.mk hbox;have GJ:Aside0 (w.heap.size≤gj):=bz_ hg;have EJ:Aside0 (gj=w4.heap.size):=⟨hg⟩;have G4:Aside0 (w4.heap.size≤gj):=⟨by rw [EJ.out];exact Nat.le_refl _⟩;replace b0:Aside0 (Below w4.heap.size w4 w5):=bs_ b0 hb;have NRJ:=bl_ BR hg;have NJR:=bg_ BR hg;have e1:=NRJ.out;have r1:=NJR.out;replace BR:=bb_ BR hb;replace HB:=bs_ HB hb;replace F0:=hc_ b0 L0.out;clear hb hbox hg;clear r0 d0 g0 s0 t0 B0 z0 z1 z2 z3 z4 z5;obtain⟨r0,d0,g0,s0,t0,B0,z0,z1,z2,z3,z4,z5⟩:=b6_ BR;obtain⟨j0,j1,j2,j3,j4,j5,y0,y1,y2,y3,y4,y5⟩:=b6_ BJ)
  |(go_at_call 58;(with_reducible refine(HLK.out _).mono ?_);rintro e w6 ⟨rfl,hb⟩;replace BJ:Aside0 (w6.heap[gj]? =some (.cells #[.int .i64 a0,.int .i64 0,.int .i64 0,.int .i64 b1,.int .i64 b2,.slice none 0 0] 30 (0,0))):=⟨blk_below bu_ hb⟩;replace BR:Aside0 (w6.heap[gr]? =some (.cells #[.int .i64 0,.int .i64 0,.int .i64 0,.int .i64 0,.int .i64 0,.slice none 0 0] 30 (0,0))):=⟨blk_below bf_ hb⟩;replace b0:=bs_ b0 hb;replace HB:=bs_ HB hb;replace F0:=hc_ b0 L0.out;clear hb j0 j1 j2 j3 j4 j5 y0 y1 y2 y3 y4 y5;clear r0 d0 g0 s0 t0 B0 z0 z1 z2 z3 z4 z5;obtain⟨r0,d0,g0,s0,t0,B0,z0,z1,z2,z3,z4,z5⟩:=b6_ BR)
  |(go_at_call 59;(with_reducible refine(impl_Frame.calls k _ f1 f2 _ HFR.out).mono ?_);rintro e w7 ⟨rfl,hb⟩;replace BJ:=bb_ BJ hb;replace BR:=bb_ BR hb;replace b0:=bs_ b0 hb;replace HB:=bs_ HB hb;clear hb F0;clear r0 d0 g0 s0 t0 B0 z0 z1 z2 z3 z4 z5;obtain⟨r0,d0,g0,s0,t0,B0,z0,z1,z2,z3,z4,z5⟩:=b6_ BR))
 case inl=>
  have HV:∃AD CC,Value.slice (some ad) (u1.length - 1) 0= .slice (some AD) (u1.length - 1) CC∧∀i:Int,0≤i→i<(u1.length:Int) - 1→w4.cell? (AD.add i.toNat)=some (.string (rdOf ByteArray.empty u1 (i+1))):=⟨ad,0,rfl,fun i h0 h1=>by have:=HCAP.out;omega⟩
  generalize Value.slice (some ad) (u1.length - 1) 0=VT at HV⊢
  obtain⟨AD,CC,rfl,hT⟩:=HV
  have HTX:=Aside0.mk hT
  clear hT
  go_loopg [15,67] k (fun kq M0 N0 w'=>∃(xe xi x0 x1 x2 x3 x4:Int) (l:List S105) (v:Value),M0= .int .i64 xe∧N0= .int .i64 xi∧Aside0 (impl_ReadJournal.l0 u1 kq xi x0 x1 x2 x3 x4 l xe=some (q0,q1,q2,q3,q4,ql,qe))∧Aside0 (kq≤k)∧Aside0 (w'.heap[gj]? =some (.cells #[.int .i64 x0,.int .i64 x1,.int .i64 x2,.int .i64 x3,.int .i64 x4,v] 30 (0,0)))∧Aside0 (k105.R 105 w' w4.heap.size (fun k=>True∧k≠gj) v l)∧Aside0 (Below w4.heap.size w4 w'))
  case atStart=>exact⟨(f1.size:Int),0,a0,0,0,b1,b2,[],.slice none 0 0,rfl,rfl,H5,⟨Nat.le_refl _⟩,⟨bp_ BJ⟩,⟨Kd.R_nil _ _ _ _ _⟩,⟨bw_ b0⟩⟩
  case round=>
   clear H5 BJ BR b0 HB HLK HFR r0 d0 g0 s0 t0 B0 z0 z1 z2 z3 z4 z5
   obtain⟨xe,xi,x0,x1,x2,x3,x4,l,v,rfl,rfl,HA,J0,BK,HO,b0⟩:=hrel
   cases gk with
   |zero=>exact absurd HA.out (by simp [impl_ReadJournal.l0])
   |succ k1=>
    have H:=HA.out
    clear HA
    simp only [impl_ReadJournal.l0] at H
    obtain⟨A2,cm,rfl⟩:=Kd.R_slice HO.out
    have BR:=bb_ I0 b0.out
    obtain⟨j0,j1,j2,j3,j4,j5,y0,y1,y2,y3,y4,y5⟩:=b6_ BK;obtain⟨r0,d0,g0,s0,t0,B0,z0,z1,z2,z3,z4,z5⟩:=b6_ BR
    by_cases c1:xi<(u1.length:Int) - 1
    ·rw [if_pos c1] at H
     have G0:xi<((u1.length - 1:Nat):Int):=by omega
     have O0:decide (xi<((u1.length - 1:Nat):Int))=true:=decide_eq_true G0
     by_cases p1:0≤xi
     ·rw [if_pos p1] at H
      obtain⟨⟨m0,m1,m2,m3,m4,ml,mr⟩,hm,H⟩:=Option.bind_eq_some_iff.mp H
      have HM:=Aside0.mk hm
      clear hm
      have hx:=hc_ b0 (HTX.out xi p1 c1)
      cases mr with
      |false=>
       rw [if_neg Bool.false_ne_true] at H
       simp only [Option.some.injEq,Prod.mk.injEq] at H
       obtain⟨rfl,rfl,rfl,rfl,rfl,rfl,rfl⟩:=H
       go_wp2_with (first
        |(go_at_call 60;(with_reducible refine(impl_told.calls k1 x0 x1 x2 x3 x4 (fun k=>True∧k≠gj) (.slice A2 l.length cm) l (rdOf ByteArray.empty u1 (xi+1)) m0 m1 m2 m3 m4 ml false w4 _ ?hB ?hR HM.out).mono ?_);(case hB=>exact bw_ b0);(case hR=>exact rp_ HO);rintro e w8 ⟨v8,rfl,ho,C0,hk⟩;have hb:=of_kept_ (show Below w4.heap.size w4 _ from bw_ b0) C0 hk;have hlt:=blk_lt (show _ from bp_ BK);have HN:Aside0 (k105.R 105 w8 w4.heap.size (fun k=>True∧k≠gj) v8 ml):=⟨Kd.R_mono ho (fun k hk=>⟨trivial,hk.elim (fun h=>h.2) (fun h e=>by omega)⟩)⟩;clear hlt;replace BK:=bb_ BK hb;replace HO:=rb_ HO hb;replace BR:=bb_ BR hb;replace b0:=bs_ b0 hb;clear hb ho C0 hk hx j0 j1 j2 j3 j4 j5 y0 y1 y2 y3 y4 y5 r0 d0 g0 s0 t0 B0 z0 z1 z2 z3 z4 z5;obtain⟨A5,c5,rfl⟩:=Kd.R_slice HN.out;obtain⟨j0,j1,j2,j3,j4,j5,y0,y1,y2,y3,y4,y5⟩:=b6_ BK;obtain⟨r0,d0,g0,s0,t0,B0,z0,z1,z2,z3,z4,z5⟩:=b6_ BR)
        |((with_reducible refine gn_ 18 rfl ?_);refine bx_ (N:=18) (cs:=#[.int .i64 0,.int .i64 0,.int .i64 0,.int .i64 0,.int .i64 0,.slice none 0 0]) (t:=30) ?_;intro gn hg w9 hbox hb;have BN:=Aside0.mk hbox;have G9:Aside0 (w4.heap.size≤gn):=⟨by rw [hg];exact low4_ b0⟩;have NJN:=bl_ BK hg;have NNJ:=bg_ BK hg;have NRN:=bl_ BR hg;have NNR:=bg_ BR hg;have P0:=NJN.out;have Q0:=NNJ.out;have R0:=NRN.out;have U0:=NNR.out;replace HN:Aside0 (k105.R 105 w9 w4.heap.size (fun k=>(True∧k≠gj)∧k≠gn) (.slice A5 ml.length c5) ml):=⟨Kd.R_below (Kd.R_mono (Kd.R_bound HN.out) (fun k hk=>⟨hk.1,by have:=hk.2.2.1;omega⟩)) hb⟩;replace HO:Aside0 (k105.R 105 w9 w4.heap.size (fun k=>(True∧k≠gj)∧k≠gn) (.slice A2 l.length cm) l):=⟨Kd.R_below (Kd.R_mono (Kd.R_bound HO.out) (fun k hk=>⟨hk.1,by have:=hk.2.2.1;omega⟩)) hb⟩;replace BK:=bb_ BK hb;replace BR:=bb_ BR hb;replace b0:=bs_ b0 hb;clear hb hbox hg j0 j1 j2 j3 j4 j5 y0 y1 y2 y3 y4 y5 r0 d0 g0 s0 t0 B0 z0 z1 z2 z3 z4 z5;obtain⟨j0,j1,j2,j3,j4,j5,y0,y1,y2,y3,y4,y5⟩:=b6_ BK;obtain⟨r0,d0,g0,s0,t0,B0,z0,z1,z2,z3,z4,z5⟩:=b6_ BR;obtain⟨n0,n1,n2,n3,n4,n5,o0,o1,o2,o3,o4,o5⟩:=b6_ BN)
        |((with_reducible refine gn_ 78 rfl ?_);refine abs_ (fun W=>W.heap[gj]? =some (.cells #[.int .i64 x0,.int .i64 x1,.int .i64 x2,.int .i64 x3,.int .i64 x4,.slice A2 l.length cm] 30 (0,0))∧W.heap[gn]? =some (.cells #[.int .i64 m0,.int .i64 m1,.int .i64 m2,.int .i64 m3,.int .i64 m4,.slice A5 ml.length c5] 30 (0,0))∧W.heap[gr]? =some (.cells #[.int .i64 0,.int .i64 0,.int .i64 0,.int .i64 0,.int .i64 0,.slice none 0 0] 30 (0,0))∧k105.R 105 W w4.heap.size (fun k=>(True∧k≠gn)∧k≠gj) (.slice A5 ml.length c5) ml∧k105.R 105 W w4.heap.size (fun k=>True∧k≠gj) (.slice A2 l.length cm) l∧Below w4.heap.size w4 W) ⟨bf_,bu_,bf_,Kd.R_mono (rk_ HN.out) (fun k hk=>⟨⟨trivial,hk.2⟩,hk.1.2⟩),Kd.R_mono (rk_ HO.out) (fun k hk=>hk.1),bw_ b0⟩ ?_;clear HN HO BK BN BR b0 j0 j1 j2 j3 j4 j5 y0 y1 y2 y3 y4 y5 r0 d0 g0 s0 t0 B0 z0 z1 z2 z3 z4 z5 n0 n1 n2 n3 n4 n5 o0 o1 o2 o3 o4 o5;intro wc ⟨qk,qn,qr,qh,qo,qb⟩;have BK:=Aside0.mk qk;have BN:=Aside0.mk qn;have BR:=Aside0.mk qr;have HN:=Aside0.mk qh;have HO:=Aside0.mk qo;have b0:=Aside0.mk qb;clear qk qn qr qh qo qb;obtain⟨j0,j1,j2,j3,j4,j5,y0,y1,y2,y3,y4,y5⟩:=b6_ BK;obtain⟨r0,d0,g0,s0,t0,B0,z0,z1,z2,z3,z4,z5⟩:=b6_ BR;obtain⟨n0,n1,n2,n3,n4,n5,o0,o1,o2,o3,o4,o5⟩:=b6_ BN;refine Kd.event_run (v:= .bool true) rfl (by first|(go_simp;done)|(go_simp;rfl)) ?_))
       have hOr:∀k,w4.heap.size≤k→k≠gr:=fun k hk=>by have h1:=blk_lt I0.out;omega
       have HBF:=bs_ HBW b0.out
       refine bodyPost_ret (results_ctt rfl _ _ gr 30 #[.int .i64 x0,.int .i64 x1,.int .i64 x2,.int .i64 x3,.int .i64 x4,.slice A2 l.length cm] (0,0) _ rfl bu_ Tryz.underlying30 rfl (by kernel_rfl)) rfl ?_
       exact⟨_,rfl,Kd.R_mono (Kd.R_lower (rk_ (g:=gr) (Kd.R_mono (Kd.R_bound HO.out) (fun k hk=>⟨trivial,hOr k hk.2.1⟩))) (below_size HBW.out)) (fun _ _=>trivial),bw_ HBF⟩
      |true=>
       rw [if_pos rfl] at H
       obtain⟨⟨g1,g2⟩,hg,H⟩:=Option.bind_eq_some_iff.mp H
       have H0:=Aside0.mk hg
       have H':=Aside0.mk H
       clear hg H
       go_wp2_with (first
        |(go_at_call 60;(with_reducible refine(impl_told.calls k1 x0 x1 x2 x3 x4 (fun k=>True∧k≠gj) (.slice A2 l.length cm) l (rdOf ByteArray.empty u1 (xi+1)) m0 m1 m2 m3 m4 ml true w4 _ ?hB ?hR HM.out).mono ?_);(case hB=>exact bw_ b0);(case hR=>exact rp_ HO);rintro e w8 ⟨v8,rfl,ho,C0,hk⟩;have hb:=of_kept_ (show Below w4.heap.size w4 _ from bw_ b0) C0 hk;have hlt:=blk_lt (show _ from bp_ BK);have HN:Aside0 (k105.R 105 w8 w4.heap.size (fun k=>True∧k≠gj) v8 ml):=⟨Kd.R_mono ho (fun k hk=>⟨trivial,hk.elim (fun h=>h.2) (fun h e=>by omega)⟩)⟩;clear hlt;replace BK:=bb_ BK hb;replace HO:=rb_ HO hb;replace BR:=bb_ BR hb;replace b0:=bs_ b0 hb;clear hb ho C0 hk hx j0 j1 j2 j3 j4 j5 y0 y1 y2 y3 y4 y5 r0 d0 g0 s0 t0 B0 z0 z1 z2 z3 z4 z5;obtain⟨A5,c5,rfl⟩:=Kd.R_slice HN.out;obtain⟨j0,j1,j2,j3,j4,j5,y0,y1,y2,y3,y4,y5⟩:=b6_ BK;obtain⟨r0,d0,g0,s0,t0,B0,z0,z1,z2,z3,z4,z5⟩:=b6_ BR)
        |((with_reducible refine gn_ 18 rfl ?_);refine bx_ (N:=18) (cs:=#[.int .i64 0,.int .i64 0,.int .i64 0,.int .i64 0,.int .i64 0,.slice none 0 0]) (t:=30) ?_;intro gn hg w9 hbox hb;have BN:=Aside0.mk hbox;have G9:Aside0 (w4.heap.size≤gn):=⟨by rw [hg];exact low4_ b0⟩;have NJN:=bl_ BK hg;have NNJ:=bg_ BK hg;have NRN:=bl_ BR hg;have NNR:=bg_ BR hg;have P0:=NJN.out;have Q0:=NNJ.out;have R0:=NRN.out;have U0:=NNR.out;replace HN:Aside0 (k105.R 105 w9 w4.heap.size (fun k=>(True∧k≠gj)∧k≠gn) (.slice A5 ml.length c5) ml):=⟨Kd.R_below (Kd.R_mono (Kd.R_bound HN.out) (fun k hk=>⟨hk.1,by have:=hk.2.2.1;omega⟩)) hb⟩;replace HO:Aside0 (k105.R 105 w9 w4.heap.size (fun k=>(True∧k≠gj)∧k≠gn) (.slice A2 l.length cm) l):=⟨Kd.R_below (Kd.R_mono (Kd.R_bound HO.out) (fun k hk=>⟨hk.1,by have:=hk.2.2.1;omega⟩)) hb⟩;replace BK:=bb_ BK hb;replace BR:=bb_ BR hb;replace b0:=bs_ b0 hb;clear hb hbox hg j0 j1 j2 j3 j4 j5 y0 y1 y2 y3 y4 y5 r0 d0 g0 s0 t0 B0 z0 z1 z2 z3 z4 z5;obtain⟨j0,j1,j2,j3,j4,j5,y0,y1,y2,y3,y4,y5⟩:=b6_ BK;obtain⟨r0,d0,g0,s0,t0,B0,z0,z1,z2,z3,z4,z5⟩:=b6_ BR;obtain⟨n0,n1,n2,n3,n4,n5,o0,o1,o2,o3,o4,o5⟩:=b6_ BN)
        |((with_reducible refine gn_ 78 rfl ?_);refine abs_ (fun W=>W.heap[gj]? =some (.cells #[.int .i64 x0,.int .i64 x1,.int .i64 x2,.int .i64 x3,.int .i64 x4,.slice A2 l.length cm] 30 (0,0))∧W.heap[gn]? =some (.cells #[.int .i64 m0,.int .i64 m1,.int .i64 m2,.int .i64 m3,.int .i64 m4,.slice A5 ml.length c5] 30 (0,0))∧W.heap[gr]? =some (.cells #[.int .i64 0,.int .i64 0,.int .i64 0,.int .i64 0,.int .i64 0,.slice none 0 0] 30 (0,0))∧k105.R 105 W w4.heap.size (fun k=>(True∧k≠gn)∧k≠gj) (.slice A5 ml.length c5) ml∧k105.R 105 W w4.heap.size (fun k=>True∧k≠gj) (.slice A2 l.length cm) l∧Below w4.heap.size w4 W) ⟨bf_,bu_,bf_,Kd.R_mono (rk_ HN.out) (fun k hk=>⟨⟨trivial,hk.2⟩,hk.1.2⟩),Kd.R_mono (rk_ HO.out) (fun k hk=>hk.1),bw_ b0⟩ ?_;clear HN HO BK BN BR b0 j0 j1 j2 j3 j4 j5 y0 y1 y2 y3 y4 y5 r0 d0 g0 s0 t0 B0 z0 z1 z2 z3 z4 z5 n0 n1 n2 n3 n4 n5 o0 o1 o2 o3 o4 o5;intro wc ⟨qk,qn,qr,qh,qo,qb⟩;have BK:=Aside0.mk qk;have BN:=Aside0.mk qn;have BR:=Aside0.mk qr;have HN:=Aside0.mk qh;have HO:=Aside0.mk qo;have b0:=Aside0.mk qb;clear qk qn qr qh qo qb;obtain⟨j0,j1,j2,j3,j4,j5,y0,y1,y2,y3,y4,y5⟩:=b6_ BK;obtain⟨r0,d0,g0,s0,t0,B0,z0,z1,z2,z3,z4,z5⟩:=b6_ BR;obtain⟨n0,n1,n2,n3,n4,n5,o0,o1,o2,o3,o4,o5⟩:=b6_ BN;refine Kd.event_run (v:= .bool false) rfl (by first|(go_simp;done)|(go_simp;rfl)) ?_)
        |(go_at_call 59;(with_reducible refine(impl_Frame.calls k1 _ g1 g2 _ H0.out).mono ?_);rintro e K0 ⟨rfl,hb⟩;replace BK:Aside0 (K0.heap[gj]? =some (.cells #[.int .i64 m0,.int .i64 m1,.int .i64 m2,.int .i64 m3,.int .i64 m4,.slice A5 ml.length c5] 30 (0,0))):=⟨blk_below bu_ hb⟩;replace HN:Aside0 (k105.R 105 K0 w4.heap.size (fun k=>(True∧k≠gn)∧k≠gj) (.slice A5 ml.length c5) ml):=⟨Kd.R_below (rk_ HN.out) hb⟩;replace b0:=bs_ b0 hb;clear hb HO BR BN n0 n1 n2 n3 n4 n5 o0 o1 o2 o3 o4 o5 j0 j1 j2 j3 j4 j5 y0 y1 y2 y3 y4 y5 r0 d0 g0 s0 t0 B0 z0 z1 z2 z3 z4 z5))
       go_roundg k1
       case measure=>have:=J0.out;omega
       case rel=>exact⟨_,wrap64 (xi+1),m0,m1,m2,m3,m4,ml,_,rfl,rfl,H',⟨by have:=J0.out;omega⟩,⟨bp_ BK⟩,⟨Kd.R_mono (rp_ HN) (fun _ hk=>⟨trivial,hk.2⟩)⟩,⟨bw_ b0⟩⟩
     ·rw [if_neg p1] at H
      cases H
    ·rw [if_neg c1] at H
     have G0:¬xi<((u1.length - 1:Nat):Int):=by omega
     have O0:decide (xi<((u1.length - 1:Nat):Int))=false:=decide_eq_false G0
     simp only [Option.some.injEq,Prod.mk.injEq] at H
     obtain⟨rfl,rfl,rfl,rfl,rfl,rfl,rfl⟩:=H
     go_wp2
     have hOr:∀k,w4.heap.size≤k→k≠gr:=fun k hk=>by have h1:=blk_lt I0.out;omega
     have HBF:=bs_ HBW b0.out
     refine bodyPost_ret (results_ctt rfl _ _ gr 30 #[.int .i64 x0,.int .i64 x1,.int .i64 x2,.int .i64 x3,.int .i64 x4,.slice A2 l.length cm] (0,0) _ rfl bu_ Tryz.underlying30 rfl (by kernel_rfl)) rfl ?_
     exact⟨_,rfl,Kd.R_mono (Kd.R_lower (rk_ (g:=gr) (Kd.R_mono (Kd.R_bound HO.out) (fun k hk=>⟨trivial,hOr k hk.2.1⟩))) (below_size HBW.out)) (fun _ _=>trivial),bw_ HBF⟩
 case inr=>
  have HV:∃AD CC,Value.slice (some ⟨ad.block,ad.off+1,none⟩) (u1.length - 1) (c0 - 1)= .slice (some AD) (u1.length - 1) CC∧∀i:Int,0≤i→i<(u1.length:Int) - 1→w4.cell? (AD.add i.toNat)=some (.string (rdOf ByteArray.empty u1 (i+1))):=⟨⟨ad.block,ad.off+1,none⟩,c0 - 1,rfl,fun i h0 h1=>by
   obtain⟨ad',e',hx⟩:=Kd.at_string d1.out (i+1) (by omega) (by omega)
   cases e'
   rw [add_next_ ad i h0]
   exact hx⟩
  generalize Value.slice (some ⟨ad.block,ad.off+1,none⟩) (u1.length - 1) (c0 - 1)=VT at HV⊢
  obtain⟨AD,CC,rfl,hT⟩:=HV
  have HTX:=Aside0.mk hT
  clear hT
  go_loopg [15,67] k (fun kq M0 N0 w'=>∃(xe xi x0 x1 x2 x3 x4:Int) (l:List S105) (v:Value),M0= .int .i64 xe∧N0= .int .i64 xi∧Aside0 (impl_ReadJournal.l0 u1 kq xi x0 x1 x2 x3 x4 l xe=some (q0,q1,q2,q3,q4,ql,qe))∧Aside0 (kq≤k)∧Aside0 (w'.heap[gj]? =some (.cells #[.int .i64 x0,.int .i64 x1,.int .i64 x2,.int .i64 x3,.int .i64 x4,v] 30 (0,0)))∧Aside0 (k105.R 105 w' w4.heap.size (fun k=>True∧k≠gj) v l)∧Aside0 (Below w4.heap.size w4 w'))
  case atStart=>exact⟨(f1.size:Int),0,a0,0,0,b1,b2,[],.slice none 0 0,rfl,rfl,H5,⟨Nat.le_refl _⟩,⟨bp_ BJ⟩,⟨Kd.R_nil _ _ _ _ _⟩,⟨bw_ b0⟩⟩
  case round=>
   clear H5 BJ BR b0 HB HLK HFR r0 d0 g0 s0 t0 B0 z0 z1 z2 z3 z4 z5
   obtain⟨xe,xi,x0,x1,x2,x3,x4,l,v,rfl,rfl,HA,J0,BK,HO,b0⟩:=hrel
   cases gk with
   |zero=>exact absurd HA.out (by simp [impl_ReadJournal.l0])
   |succ k1=>
    have H:=HA.out
    clear HA
    simp only [impl_ReadJournal.l0] at H
    obtain⟨A2,cm,rfl⟩:=Kd.R_slice HO.out
    have BR:=bb_ I0 b0.out
    obtain⟨j0,j1,j2,j3,j4,j5,y0,y1,y2,y3,y4,y5⟩:=b6_ BK;obtain⟨r0,d0,g0,s0,t0,B0,z0,z1,z2,z3,z4,z5⟩:=b6_ BR
    by_cases c1:xi<(u1.length:Int) - 1
    ·rw [if_pos c1] at H
     have G0:xi<((u1.length - 1:Nat):Int):=by omega
     have O0:decide (xi<((u1.length - 1:Nat):Int))=true:=decide_eq_true G0
     by_cases p1:0≤xi
     ·rw [if_pos p1] at H
      obtain⟨⟨m0,m1,m2,m3,m4,ml,mr⟩,hm,H⟩:=Option.bind_eq_some_iff.mp H
      have HM:=Aside0.mk hm
      clear hm
      have hx:=hc_ b0 (HTX.out xi p1 c1)
      cases mr with
      |false=>
       rw [if_neg Bool.false_ne_true] at H
       simp only [Option.some.injEq,Prod.mk.injEq] at H
       obtain⟨rfl,rfl,rfl,rfl,rfl,rfl,rfl⟩:=H
       go_wp2_with (first
        |(go_at_call 60;(with_reducible refine(impl_told.calls k1 x0 x1 x2 x3 x4 (fun k=>True∧k≠gj) (.slice A2 l.length cm) l (rdOf ByteArray.empty u1 (xi+1)) m0 m1 m2 m3 m4 ml false w4 _ ?hB ?hR HM.out).mono ?_);(case hB=>exact bw_ b0);(case hR=>exact rp_ HO);rintro e w8 ⟨v8,rfl,ho,C0,hk⟩;have hb:=of_kept_ (show Below w4.heap.size w4 _ from bw_ b0) C0 hk;have hlt:=blk_lt (show _ from bp_ BK);have HN:Aside0 (k105.R 105 w8 w4.heap.size (fun k=>True∧k≠gj) v8 ml):=⟨Kd.R_mono ho (fun k hk=>⟨trivial,hk.elim (fun h=>h.2) (fun h e=>by omega)⟩)⟩;clear hlt;replace BK:=bb_ BK hb;replace HO:=rb_ HO hb;replace BR:=bb_ BR hb;replace b0:=bs_ b0 hb;clear hb ho C0 hk hx j0 j1 j2 j3 j4 j5 y0 y1 y2 y3 y4 y5 r0 d0 g0 s0 t0 B0 z0 z1 z2 z3 z4 z5;obtain⟨A5,c5,rfl⟩:=Kd.R_slice HN.out;obtain⟨j0,j1,j2,j3,j4,j5,y0,y1,y2,y3,y4,y5⟩:=b6_ BK;obtain⟨r0,d0,g0,s0,t0,B0,z0,z1,z2,z3,z4,z5⟩:=b6_ BR)
        |((with_reducible refine gn_ 18 rfl ?_);refine bx_ (N:=18) (cs:=#[.int .i64 0,.int .i64 0,.int .i64 0,.int .i64 0,.int .i64 0,.slice none 0 0]) (t:=30) ?_;intro gn hg w9 hbox hb;have BN:=Aside0.mk hbox;have G9:Aside0 (w4.heap.size≤gn):=⟨by rw [hg];exact low4_ b0⟩;have NJN:=bl_ BK hg;have NNJ:=bg_ BK hg;have NRN:=bl_ BR hg;have NNR:=bg_ BR hg;have P0:=NJN.out;have Q0:=NNJ.out;have R0:=NRN.out;have U0:=NNR.out;replace HN:Aside0 (k105.R 105 w9 w4.heap.size (fun k=>(True∧k≠gj)∧k≠gn) (.slice A5 ml.length c5) ml):=⟨Kd.R_below (Kd.R_mono (Kd.R_bound HN.out) (fun k hk=>⟨hk.1,by have:=hk.2.2.1;omega⟩)) hb⟩;replace HO:Aside0 (k105.R 105 w9 w4.heap.size (fun k=>(True∧k≠gj)∧k≠gn) (.slice A2 l.length cm) l):=⟨Kd.R_below (Kd.R_mono (Kd.R_bound HO.out) (fun k hk=>⟨hk.1,by have:=hk.2.2.1;omega⟩)) hb⟩;replace BK:=bb_ BK hb;replace BR:=bb_ BR hb;replace b0:=bs_ b0 hb;clear hb hbox hg j0 j1 j2 j3 j4 j5 y0 y1 y2 y3 y4 y5 r0 d0 g0 s0 t0 B0 z0 z1 z2 z3 z4 z5;obtain⟨j0,j1,j2,j3,j4,j5,y0,y1,y2,y3,y4,y5⟩:=b6_ BK;obtain⟨r0,d0,g0,s0,t0,B0,z0,z1,z2,z3,z4,z5⟩:=b6_ BR;obtain⟨n0,n1,n2,n3,n4,n5,o0,o1,o2,o3,o4,o5⟩:=b6_ BN)
        |((with_reducible refine gn_ 78 rfl ?_);refine abs_ (fun W=>W.heap[gj]? =some (.cells #[.int .i64 x0,.int .i64 x1,.int .i64 x2,.int .i64 x3,.int .i64 x4,.slice A2 l.length cm] 30 (0,0))∧W.heap[gn]? =some (.cells #[.int .i64 m0,.int .i64 m1,.int .i64 m2,.int .i64 m3,.int .i64 m4,.slice A5 ml.length c5] 30 (0,0))∧W.heap[gr]? =some (.cells #[.int .i64 0,.int .i64 0,.int .i64 0,.int .i64 0,.int .i64 0,.slice none 0 0] 30 (0,0))∧k105.R 105 W w4.heap.size (fun k=>(True∧k≠gn)∧k≠gj) (.slice A5 ml.length c5) ml∧k105.R 105 W w4.heap.size (fun k=>True∧k≠gj) (.slice A2 l.length cm) l∧Below w4.heap.size w4 W) ⟨bf_,bu_,bf_,Kd.R_mono (rk_ HN.out) (fun k hk=>⟨⟨trivial,hk.2⟩,hk.1.2⟩),Kd.R_mono (rk_ HO.out) (fun k hk=>hk.1),bw_ b0⟩ ?_;clear HN HO BK BN BR b0 j0 j1 j2 j3 j4 j5 y0 y1 y2 y3 y4 y5 r0 d0 g0 s0 t0 B0 z0 z1 z2 z3 z4 z5 n0 n1 n2 n3 n4 n5 o0 o1 o2 o3 o4 o5;intro wc ⟨qk,qn,qr,qh,qo,qb⟩;have BK:=Aside0.mk qk;have BN:=Aside0.mk qn;have BR:=Aside0.mk qr;have HN:=Aside0.mk qh;have HO:=Aside0.mk qo;have b0:=Aside0.mk qb;clear qk qn qr qh qo qb;obtain⟨j0,j1,j2,j3,j4,j5,y0,y1,y2,y3,y4,y5⟩:=b6_ BK;obtain⟨r0,d0,g0,s0,t0,B0,z0,z1,z2,z3,z4,z5⟩:=b6_ BR;obtain⟨n0,n1,n2,n3,n4,n5,o0,o1,o2,o3,o4,o5⟩:=b6_ BN;refine Kd.event_run (v:= .bool true) rfl (by first|(go_simp;done)|(go_simp;rfl)) ?_))
       have hOr:∀k,w4.heap.size≤k→k≠gr:=fun k hk=>by have h1:=blk_lt I0.out;omega
       have HBF:=bs_ HBW b0.out
       refine bodyPost_ret (results_ctt rfl _ _ gr 30 #[.int .i64 x0,.int .i64 x1,.int .i64 x2,.int .i64 x3,.int .i64 x4,.slice A2 l.length cm] (0,0) _ rfl bu_ Tryz.underlying30 rfl (by kernel_rfl)) rfl ?_
       exact⟨_,rfl,Kd.R_mono (Kd.R_lower (rk_ (g:=gr) (Kd.R_mono (Kd.R_bound HO.out) (fun k hk=>⟨trivial,hOr k hk.2.1⟩))) (below_size HBW.out)) (fun _ _=>trivial),bw_ HBF⟩
      |true=>
       rw [if_pos rfl] at H
       obtain⟨⟨g1,g2⟩,hg,H⟩:=Option.bind_eq_some_iff.mp H
       have H0:=Aside0.mk hg
       have H':=Aside0.mk H
       clear hg H
       go_wp2_with (first
        |(go_at_call 60;(with_reducible refine(impl_told.calls k1 x0 x1 x2 x3 x4 (fun k=>True∧k≠gj) (.slice A2 l.length cm) l (rdOf ByteArray.empty u1 (xi+1)) m0 m1 m2 m3 m4 ml true w4 _ ?hB ?hR HM.out).mono ?_);(case hB=>exact bw_ b0);(case hR=>exact rp_ HO);rintro e w8 ⟨v8,rfl,ho,C0,hk⟩;have hb:=of_kept_ (show Below w4.heap.size w4 _ from bw_ b0) C0 hk;have hlt:=blk_lt (show _ from bp_ BK);have HN:Aside0 (k105.R 105 w8 w4.heap.size (fun k=>True∧k≠gj) v8 ml):=⟨Kd.R_mono ho (fun k hk=>⟨trivial,hk.elim (fun h=>h.2) (fun h e=>by omega)⟩)⟩;clear hlt;replace BK:=bb_ BK hb;replace HO:=rb_ HO hb;replace BR:=bb_ BR hb;replace b0:=bs_ b0 hb;clear hb ho C0 hk hx j0 j1 j2 j3 j4 j5 y0 y1 y2 y3 y4 y5 r0 d0 g0 s0 t0 B0 z0 z1 z2 z3 z4 z5;obtain⟨A5,c5,rfl⟩:=Kd.R_slice HN.out;obtain⟨j0,j1,j2,j3,j4,j5,y0,y1,y2,y3,y4,y5⟩:=b6_ BK;obtain⟨r0,d0,g0,s0,t0,B0,z0,z1,z2,z3,z4,z5⟩:=b6_ BR)
        |((with_reducible refine gn_ 18 rfl ?_);refine bx_ (N:=18) (cs:=#[.int .i64 0,.int .i64 0,.int .i64 0,.int .i64 0,.int .i64 0,.slice none 0 0]) (t:=30) ?_;intro gn hg w9 hbox hb;have BN:=Aside0.mk hbox;have G9:Aside0 (w4.heap.size≤gn):=⟨by rw [hg];exact low4_ b0⟩;have NJN:=bl_ BK hg;have NNJ:=bg_ BK hg;have NRN:=bl_ BR hg;have NNR:=bg_ BR hg;have P0:=NJN.out;have Q0:=NNJ.out;have R0:=NRN.out;have U0:=NNR.out;replace HN:Aside0 (k105.R 105 w9 w4.heap.size (fun k=>(True∧k≠gj)∧k≠gn) (.slice A5 ml.length c5) ml):=⟨Kd.R_below (Kd.R_mono (Kd.R_bound HN.out) (fun k hk=>⟨hk.1,by have:=hk.2.2.1;omega⟩)) hb⟩;replace HO:Aside0 (k105.R 105 w9 w4.heap.size (fun k=>(True∧k≠gj)∧k≠gn) (.slice A2 l.length cm) l):=⟨Kd.R_below (Kd.R_mono (Kd.R_bound HO.out) (fun k hk=>⟨hk.1,by have:=hk.2.2.1;omega⟩)) hb⟩;replace BK:=bb_ BK hb;replace BR:=bb_ BR hb;replace b0:=bs_ b0 hb;clear hb hbox hg j0 j1 j2 j3 j4 j5 y0 y1 y2 y3 y4 y5 r0 d0 g0 s0 t0 B0 z0 z1 z2 z3 z4 z5;obtain⟨j0,j1,j2,j3,j4,j5,y0,y1,y2,y3,y4,y5⟩:=b6_ BK;obtain⟨r0,d0,g0,s0,t0,B0,z0,z1,z2,z3,z4,z5⟩:=b6_ BR;obtain⟨n0,n1,n2,n3,n4,n5,o0,o1,o2,o3,o4,o5⟩:=b6_ BN)
        |((with_reducible refine gn_ 78 rfl ?_);refine abs_ (fun W=>W.heap[gj]? =some (.cells #[.int .i64 x0,.int .i64 x1,.int .i64 x2,.int .i64 x3,.int .i64 x4,.slice A2 l.length cm] 30 (0,0))∧W.heap[gn]? =some (.cells #[.int .i64 m0,.int .i64 m1,.int .i64 m2,.int .i64 m3,.int .i64 m4,.slice A5 ml.length c5] 30 (0,0))∧W.heap[gr]? =some (.cells #[.int .i64 0,.int .i64 0,.int .i64 0,.int .i64 0,.int .i64 0,.slice none 0 0] 30 (0,0))∧k105.R 105 W w4.heap.size (fun k=>(True∧k≠gn)∧k≠gj) (.slice A5 ml.length c5) ml∧k105.R 105 W w4.heap.size (fun k=>True∧k≠gj) (.slice A2 l.length cm) l∧Below w4.heap.size w4 W) ⟨bf_,bu_,bf_,Kd.R_mono (rk_ HN.out) (fun k hk=>⟨⟨trivial,hk.2⟩,hk.1.2⟩),Kd.R_mono (rk_ HO.out) (fun k hk=>hk.1),bw_ b0⟩ ?_;clear HN HO BK BN BR b0 j0 j1 j2 j3 j4 j5 y0 y1 y2 y3 y4 y5 r0 d0 g0 s0 t0 B0 z0 z1 z2 z3 z4 z5 n0 n1 n2 n3 n4 n5 o0 o1 o2 o3 o4 o5;intro wc ⟨qk,qn,qr,qh,qo,qb⟩;have BK:=Aside0.mk qk;have BN:=Aside0.mk qn;have BR:=Aside0.mk qr;have HN:=Aside0.mk qh;have HO:=Aside0.mk qo;have b0:=Aside0.mk qb;clear qk qn qr qh qo qb;obtain⟨j0,j1,j2,j3,j4,j5,y0,y1,y2,y3,y4,y5⟩:=b6_ BK;obtain⟨r0,d0,g0,s0,t0,B0,z0,z1,z2,z3,z4,z5⟩:=b6_ BR;obtain⟨n0,n1,n2,n3,n4,n5,o0,o1,o2,o3,o4,o5⟩:=b6_ BN;refine Kd.event_run (v:= .bool false) rfl (by first|(go_simp;done)|(go_simp;rfl)) ?_)
        |(go_at_call 59;(with_reducible refine(impl_Frame.calls k1 _ g1 g2 _ H0.out).mono ?_);rintro e K0 ⟨rfl,hb⟩;replace BK:Aside0 (K0.heap[gj]? =some (.cells #[.int .i64 m0,.int .i64 m1,.int .i64 m2,.int .i64 m3,.int .i64 m4,.slice A5 ml.length c5] 30 (0,0))):=⟨blk_below bu_ hb⟩;replace HN:Aside0 (k105.R 105 K0 w4.heap.size (fun k=>(True∧k≠gn)∧k≠gj) (.slice A5 ml.length c5) ml):=⟨Kd.R_below (rk_ HN.out) hb⟩;replace b0:=bs_ b0 hb;clear hb HO BR BN n0 n1 n2 n3 n4 n5 o0 o1 o2 o3 o4 o5 j0 j1 j2 j3 j4 j5 y0 y1 y2 y3 y4 y5 r0 d0 g0 s0 t0 B0 z0 z1 z2 z3 z4 z5))
       go_roundg k1
       case measure=>have:=J0.out;omega
       case rel=>exact⟨_,wrap64 (xi+1),m0,m1,m2,m3,m4,ml,_,rfl,rfl,H',⟨by have:=J0.out;omega⟩,⟨bp_ BK⟩,⟨Kd.R_mono (rp_ HN) (fun _ hk=>⟨trivial,hk.2⟩)⟩,⟨bw_ b0⟩⟩
     ·rw [if_neg p1] at H
      cases H
    ·rw [if_neg c1] at H
     have G0:¬xi<((u1.length - 1:Nat):Int):=by omega
     have O0:decide (xi<((u1.length - 1:Nat):Int))=false:=decide_eq_false G0
     simp only [Option.some.injEq,Prod.mk.injEq] at H
     obtain⟨rfl,rfl,rfl,rfl,rfl,rfl,rfl⟩:=H
     go_wp2
     have hOr:∀k,w4.heap.size≤k→k≠gr:=fun k hk=>by have h1:=blk_lt I0.out;omega
     have HBF:=bs_ HBW b0.out
     refine bodyPost_ret (results_ctt rfl _ _ gr 30 #[.int .i64 x0,.int .i64 x1,.int .i64 x2,.int .i64 x3,.int .i64 x4,.slice A2 l.length cm] (0,0) _ rfl bu_ Tryz.underlying30 rfl (by kernel_rfl)) rfl ?_
     exact⟨_,rfl,Kd.R_mono (Kd.R_lower (rk_ (g:=gr) (Kd.R_mono (Kd.R_bound HO.out) (fun k hk=>⟨trivial,hOr k hk.2.1⟩))) (below_size HBW.out)) (fun _ _=>trivial),bw_ HBF⟩
theorem impl_ReadJournal.calls (k:Nat) (a0:Int) (a1:ByteArray) (r1:Int) (r2:Int) (r3:Int) (r4:Int) (r5:Int) (r6:List S105) (r7:Int) (r8:Bool) (w:World) (h:impl_ReadJournal.f k a0 a1=some (r1,r2,r3,r4,r5,r6,r7,r8)):
  Calls Tryz.prog 30 #[.int .i64 a0,.string a1] w fun e w'=>∃b0:Value,e= .returned (.tuple #[.agg #[.int .i64 r1,.int .i64 r2,.int .i64 r3,.int .i64 r4,.int .i64 r5,b0],.int .i64 r7,.bool r8])∧Kd.R k105 105 w' w.heap.size (fun _=>True) b0 r6∧Below w.heap.size w w':=by
 unfold impl_ReadJournal.f at h
 obtain⟨⟨u1,u2⟩,hu,h⟩:=Option.bind_eq_some_iff.mp h
 obtain⟨c,hc,h⟩:=Option.bind_eq_some_iff.mp h
 cases c with
 |false=>
  rw [if_neg Bool.false_ne_true] at h
  simp only [Option.some.injEq,Prod.mk.injEq] at h
  obtain⟨rfl,rfl,rfl,rfl,rfl,rfl,rfl,rfl⟩:=h
  exact impl_ReadJournal.no1_ k a0 a1 w u1 u2 hu hc
 |true=>
  rw [if_pos rfl] at h
  by_cases hl:(u1.length:Int)=0
  ·rw [if_pos hl] at h
   simp only [Option.some.injEq,Prod.mk.injEq] at h
   obtain⟨rfl,rfl,rfl,rfl,rfl,rfl,rfl,rfl⟩:=h
   exact impl_ReadJournal.no2_ k a0 a1 w u1 u2 hu hc hl
  ·rw [if_neg hl] at h
   obtain⟨⟨b1,b2,b3⟩,h2,h⟩:=Option.bind_eq_some_iff.mp h
   cases b3 with
   |false=>
    rw [if_neg Bool.false_ne_true] at h
    simp only [Option.some.injEq,Prod.mk.injEq] at h
    obtain⟨rfl,rfl,rfl,rfl,rfl,rfl,rfl,rfl⟩:=h
    exact impl_ReadJournal.no3_ k a0 a1 w u1 u2 hu hc hl b1 b2 h2
   |true=>
    rw [if_pos rfl] at h
    obtain⟨g,h4,h⟩:=Option.bind_eq_some_iff.mp h
    cases g with
    |false=>
     rw [if_neg Bool.false_ne_true] at h
     simp only [Option.some.injEq,Prod.mk.injEq] at h
     obtain⟨rfl,rfl,rfl,rfl,rfl,rfl,rfl,rfl⟩:=h
     exact impl_ReadJournal.no4_ k a0 a1 w u1 u2 hu hc hl b1 b2 h2 h4
    |true=>
     rw [if_pos rfl] at h
     obtain⟨⟨f1,f2⟩,hf,h⟩:=Option.bind_eq_some_iff.mp h
     obtain⟨⟨q0,q1,q2,q3,q4,ql,qe⟩,h5,h⟩:=Option.bind_eq_some_iff.mp h
     simp only [Option.some.injEq,Prod.mk.injEq] at h
     obtain⟨rfl,rfl,rfl,rfl,rfl,rfl,rfl,rfl⟩:=h
     exact impl_ReadJournal.loop_ k a0 a1 w u1 u2 hu hc hl b1 b2 h2 h4 f1 f2 hf q0 q1 q2 q3 q4 ql qe h5
def impl_vars.l0:Nat→List Int→List Int→Int→Int→Option (ByteArray × Bool)
 |0,_,_,_,_=>none
 |k+1,x4,x9,d0,b0=>if b0<d0 then(if 0≤b0 then(if b0<(x9.length:Int) then((impl_VarText.f k (rd x9 b0)).bind fun a0=>(if a0.2=true then(if x4.length+a0.1.size<140737488355328 then(impl_vars.l0 k (x4++bytesOf a0.1) x9 d0 (wrap64 (b0+1))) else(none)) else(some ((⟨#[]⟩:ByteArray),false)))) else(none)) else(none)) else(some (strOfNums x4,true))
def impl_vars.f (k:Nat) (l0:List Int):Option (ByteArray × Bool):=impl_vars.l0 k ([]:List Int) l0 (l0.length:Int) 0
theorem impl_vars.calls (k:Nat) (A0:Option Addr) (c0:Nat) (l0:List Int) (r1:ByteArray) (r2:Bool) (w:World) (y0:Kd.C (Kd.int .i64) w A0 l0.length l0) (B0:l0.length≤c0) (h:impl_vars.f k l0=some (r1,r2)):
  Calls Tryz.prog 108 #[.slice A0 l0.length c0] w fun e w'=>e= .returned (.tuple #[.string r1,.bool r2])∧Below w.heap.size w w':=by
 have C0:=Aside0.mk y0
 have M0:=Aside0.mk B0
 clear y0 B0
 have HB:=mk_ (Below.refl w.heap.size w)
 have H:=h
 unfold impl_vars.f at H
 clear h
 have H':=Aside0.mk H
 clear H
 go_enter Tryz.func108,Tryz.ntmps108
 go_wp2
 go_loopg [4,11] k (fun kq v4 I0 w'=>∃(h0:List Int) (a0:Int),I0= .int .i64 a0∧Aside0 (impl_vars.l0 kq h0 l0 (l0.length:Int) a0=some (r1,r2))∧Aside0 (kq≤k)∧Aside0 (Kd.R (Kd.int .u8) 5 w' w.heap.size (fun _=>True) v4 h0)∧Aside0 (Below w.heap.size w w'))
 case atStart=>exact⟨(([]:List Int)),(0),rl_,H',⟨Nat.le_refl _⟩,⟨by first|exact Kd.R_nil _ _ _ _ _|exact Kd.N_nil _ _ _ _ _|exact Kd.V_nil _ _ _ _ _|exact Kd.Q_nil _ _ _ _ _|exact Kd.S_nil _ _ _ _ _⟩,⟨bw_ HB⟩⟩
 case round=>
  clear H'
  obtain⟨h0,a0,rfl,HA,F0,d0,HB⟩:=hrel
  cases gk with
  |zero=>exact absurd HA.out (by simp [impl_vars.l0])
  |succ k1=>
   have H:=HA.out
   clear HA
   simp only [impl_vars.l0] at H
   refine ic_ H ?_ ?_ <;> clear H <;> intro J0 H
   ·simp only [Option.some.injEq,Prod.mk.injEq] at H
    obtain⟨rfl,rfl⟩:=H
    have G0:=own_string (P:=Tryz.prog) Tryz.underlying95 Tryz.underlying5 Tryz.underlying9 (Kd.own_of_R d0.out)
    go_wp2
    go_ret2
    exact⟨er_,bw_ HB⟩
   obtain⟨c3,H⟩:=gd_ H
   have K0:=decide_eq_true c3
   clear c3
   obtain⟨c4,H⟩:=gd_ H
   have L0:=decide_eq_true c4
   clear c4
   obtain⟨⟨n0,t0⟩,A5,H⟩:=ob_ H
   try dsimp only at H
   by_cases c6:t0=true
   rotate_left
   ·replace c6:=Bool.eq_false_iff.mpr c6
    subst c6
    rw [if_neg (show ¬(false=true) by decide)] at H
    simp only [Option.some.injEq,Prod.mk.injEq] at H
    obtain⟨rfl,rfl⟩:=H
    have e0:0≤(a0:Int):=od_
    have g0:a0<(l0.length:Int):=od_
    obtain⟨p0,o0,b0⟩:=Kd.at_int C0.out a0 e0 g0
    cases o0
    replace b0:=hc_ HB b0
    replace e0:=eq_true e0
    replace g0:=eq_true g0
    go_wp2_with (first|((with_reducible refine gc_ 90 rfl ?_);refine gm_ 17 Tryz.func90 (impl_VarText.calls k1 (rd l0 a0) n0 false _ A5.out) ?_;rintro N0 hb;replace d0:=rb_ d0 hb;replace HB:=bs_ HB hb;(try clear hb)))
    go_ret2
    exact⟨er_,bw_ HB⟩
   subst c6
   rw [if_pos rfl] at H
   obtain⟨c7,H⟩:=gd_ H
   have v0:=Aside0.mk c7
   clear c7
   obtain⟨q0,m0⟩:∃y_:List Int,y_=(h0++bytesOf n0):=⟨_,rfl⟩
   rw [←m0] at H
   have r0:=Aside0.mk m0
   clear m0
   have H':=Aside0.mk H
   clear H
   have e0:0≤(a0:Int):=od_
   have g0:a0<(l0.length:Int):=od_
   obtain⟨p0,o0,b0⟩:=Kd.at_int C0.out a0 e0 g0
   cases o0
   replace b0:=hc_ HB b0
   replace e0:=eq_true e0
   replace g0:=eq_true g0
   go_wp2_with (first|((with_reducible refine gc_ 90 rfl ?_);refine gm_ 17 Tryz.func90 (impl_VarText.calls k1 (rd l0 a0) n0 true _ A5.out) ?_;rintro w8 hb;replace d0:=rb_ d0 hb;replace HB:=bs_ HB hb;(try clear hb))|(at_builtin;refine print_append_str (w0:=w) w.heap.size rfl (.tmp 22) _ 95 9 5 rfl Tryz.underlying95 Tryz.underlying9 info5 u4 h0 n0 rfl rfl ?aO ?aB ?aS ?aL ?_;(case aB=>exact(bw_ HB));(case aO=>exact(Kd.own_of_R (rp_ d0)));(case aS=>exact(below_size (bw_ HB)));(case aL=>have:=v0.out;omega);intro x0 w9 H0 hb hg;have ho:=Kd.R_of_own (h1:=fun _=>rfl) (ok:=fun _=>True) H0 (fun _ _=>trivial);clear H0;have hat:=True.intro;rw [←r0.out] at ho;change Kd.R (Kd.int .u8) 5 w9 w.heap.size (fun _=>True) x0 q0 at ho;have s0:=mk_ (ho);replace HB:=mk_ (hb);clear d0;clear ho hb hg hat))
   go_roundg k1
   case measure=>have:=F0.out;omega
   case rel=>exact⟨(q0),(wrap64 (a0+1)),rl_,H',⟨by have:=F0.out;omega⟩,⟨rq_ s0.out⟩,⟨bw_ HB⟩⟩
def impl_headFrame.f (k:Nat) (a0:ByteArray) (a1:Int) (a2:Int):Option (ByteArray):=(impl_vars.f k (([a1,a2]:List Int))).bind fun b0=>(if a0.size+b0.1.size≤9223372036854775807 then((impl_Frame.f k (a0++b0.1)).bind fun d0=>(some d0.1)) else(none))
theorem impl_headFrame.calls (k:Nat) (a0:ByteArray) (a1:Int) (a2:Int) (r:ByteArray) (w:World) (h:impl_headFrame.f k a0 a1 a2=some r):
  Calls Tryz.prog 94 #[.string a0,.int .i64 a1,.int .i64 a2] w fun e w'=>e= .returned (.string r)∧Below w.heap.size w w':=by
 have HB:=mk_ (Below.refl w.heap.size w)
 have H:=h
 unfold impl_headFrame.f at H
 clear h
 obtain⟨g0,d0⟩:∃y_:List Int,y_=(([a1,a2]:List Int)):=⟨_,rfl⟩
 rw [←d0] at H
 have e0:=Aside0.mk d0
 clear d0
 obtain⟨⟨h0,n0⟩,A4,H⟩:=ob_ H
 try dsimp only at H
 obtain⟨c5,H⟩:=gd_ H
 have q0:=eq_true c5
 have r0:=decide_eq_true c5
 have s0:=eq_false (Nat.not_lt.2 c5)
 obtain⟨⟨o0,p0⟩,A6,H⟩:=ob_ H
 try dsimp only at H
 obtain rfl:=Option.some.inj H
 go_enter Tryz.func94,Tryz.ntmps94
 go_wp2_with (first|((with_reducible refine gn_ 14 rfl ?_);refine Kd.R_lit (Kd.int .i64) _ 3 ?hg (N:=14) ?hd (xs:=([a1,a2]:List Int)) (inner:=[.int .i64 a1,.int .i64 a2]) (ok:=fun _=>True) (okp:=fun _=>True) ?hr ?hp (fun _ hk=>hk) trivial (Below.refl _ _) (Nat.le_refl _) (by simp) ?_;(case hd=>rfl);(case hg=>rfl);(case hr=>first|(go_simp;done)|(go_simp;rfl));(case hp=>exact(Reps.one (show Kd.M (Kd.int .i64) _ _ _ a1 [.int .i64 a1] from rfl) (Reps.one (show Kd.M (Kd.int .i64) _ _ _ a2 [.int .i64 a2] from rfl) (Reps.none _ _))));intro t0 w7 m0 hb hg_ hnew_;clear hg_ hnew_;(first|rw [←e0.out] at m0|(simp only [Int.reduceToNat] at m0;rw [←e0.out] at m0));have b0:=mk_ (Kd.R_lower m0 (below_size (bw_ HB)));replace HB:=bs_ HB hb;clear hb m0;obtain⟨v0,x0,y0⟩:=Kd.R_slice b0.out;subst y0)|((with_reducible refine gc_ 108 rfl ?_);refine gx_ 15 Tryz.func108 #[.slice v0 g0.length x0] (impl_vars.calls k _ _ g0 h0 n0 _ ?side1 ?side2 A4.out) ?_;(case side1=>repeat(first|exact(Kd.R_reads' b0.out).2.2|(with_reducible refine Kd.C_alloc ?_ _)|(with_reducible refine Kd.C_drewN ?_ _)|(with_reducible refine Kd.C_drew ?_)));(case side2=>exact(Kd.R_reads' b0.out).2.1);rintro A0 hb;replace b0:=rb_ b0 hb;replace HB:=bs_ HB hb;(try clear hb);(try clear hk))|((with_reducible refine gc_ 59 rfl ?_);refine gm_ 22 Tryz.func59 (impl_Frame.calls k (a0++h0) o0 p0 _ A6.out) ?_;rintro B0 hb;replace b0:=rb_ b0 hb;replace HB:=bs_ HB hb;(try clear hb);(try clear hk)))
 go_ret
 exact⟨er_,bw_ HB⟩
def impl_EntryText.f (k:Nat) (a0:Int) (g0:Int) (h0:Int) (d0:ByteArray):Option (ByteArray × Bool):=(impl_EntryOk.f k g0 h0 d0).bind fun m0=>(if m0=true then((impl_within.f a0 1 1000000).bind fun n0=>(if n0=true then((impl_vars.f k (([a0,g0]:List Int))).bind fun b0=>(if 1+b0.1.size≤9223372036854775807 then((some (([(h0) % 256]:List Int):List Int)).bind fun e0=>(if((⟨#[69]⟩:ByteArray)++b0.1).size+(strOfNums e0).size≤9223372036854775807 then(if(((⟨#[69]⟩:ByteArray)++b0.1)++(strOfNums e0)).size+d0.size≤9223372036854775807 then(some ((((⟨#[69]⟩:ByteArray)++b0.1)++(strOfNums e0))++d0,true)) else(none)) else(none))) else(none))) else(some ((⟨#[]⟩:ByteArray),false)))) else(some ((⟨#[]⟩:ByteArray),false)))
theorem impl_EntryText.calls (k:Nat) (a0:Int) (d0:Int) (e0:Int) (h0:ByteArray) (r1:ByteArray) (r2:Bool) (w:World) (h:impl_EntryText.f k a0 d0 e0 h0=some (r1,r2)):
  Calls Tryz.prog 109 #[.int .i64 a0,.agg #[.int .i64 d0,.int .i64 e0,.string h0]] w fun e w'=>e= .returned (.tuple #[.string r1,.bool r2])∧Below w.heap.size w w':=by
 have I1:=Tryz.underlying105
 have HB:=mk_ (Below.refl w.heap.size w)
 have H:=h
 unfold impl_EntryText.f at H
 clear h
 obtain⟨A1,A3,H⟩:=ob_ H
 try dsimp only at H
 by_cases c4:A1=true
 rotate_left
 ·replace c4:=Bool.eq_false_iff.mpr c4
  subst c4
  rw [if_neg (show ¬(false=true) by decide)] at H
  simp only [Option.some.injEq,Prod.mk.injEq] at H
  obtain⟨rfl,rfl⟩:=H
  go_enter Tryz.func109,Tryz.ntmps109
  go_wp2_with (first|((with_reducible refine gn_ 3 rfl ?_);refine bv_ (cs:=#[.int .i64 d0,.int .i64 e0,.string h0]) (t:=105) HB ?_;clear HB;intro q0 Z1 b0 r0 HB;obtain⟨B0,C0,F0,G0,H0,I0⟩:=b3_ b0)|((with_reducible refine gc_ 105 rfl ?_);refine gm_ 9 Tryz.func105 (impl_EntryOk.calls k d0 e0 h0 false _ A3.out) ?_;rintro a2 hb;replace b0:=bb_ b0 hb;replace HB:=bs_ HB hb;(try clear hb)))
  go_ret2
  exact⟨er_,bw_ HB⟩
 subst c4
 rw [if_pos rfl] at H
 obtain⟨C1,A5,H⟩:=ob_ H
 try dsimp only at H
 by_cases c6:C1=true
 rotate_left
 ·replace c6:=Bool.eq_false_iff.mpr c6
  subst c6
  rw [if_neg (show ¬(false=true) by decide)] at H
  simp only [Option.some.injEq,Prod.mk.injEq] at H
  obtain⟨rfl,rfl⟩:=H
  go_enter Tryz.func109,Tryz.ntmps109
  go_wp2_with (first|((with_reducible refine gn_ 3 rfl ?_);refine bv_ (cs:=#[.int .i64 d0,.int .i64 e0,.string h0]) (t:=105) HB ?_;clear HB;intro q0 b2 b0 r0 HB;obtain⟨J0,K0,L0,M0,N0,O0⟩:=b3_ b0)|((with_reducible refine gc_ 105 rfl ?_);refine gm_ 9 Tryz.func105 (impl_EntryOk.calls k d0 e0 h0 true _ A3.out) ?_;rintro d2 hb;replace b0:=bb_ b0 hb;replace HB:=bs_ HB hb;(try clear hb))|(go_at_call 53;(with_reducible refine(impl_within.calls a0 1 1000000 false _ A5.out).mono ?_);rintro e w' ⟨rfl,⟨nd,rfl⟩⟩))
  go_ret2
  exact⟨er_,bw_ HB⟩
 subst c6
 rw [if_pos rfl] at H
 obtain⟨x0,m0⟩:∃y_:List Int,y_=(([a0,d0]:List Int)):=⟨_,rfl⟩
 rw [←m0] at H
 have s0:=Aside0.mk m0
 clear m0
 obtain⟨⟨v0,D1⟩,A7,H⟩:=ob_ H
 try dsimp only at H
 obtain⟨c8,H⟩:=gd_ H
 have O1:=eq_true c8
 have P1:=decide_eq_true c8
 have Q1:=eq_false (Nat.not_lt.2 c8)
 obtain⟨y0,n0⟩:∃y_:List Int,y_=(([(e0) % 256]:List Int)):=⟨_,rfl⟩
 replace H:=sb_ n0 H
 have t0:=Aside0.mk n0
 clear n0
 obtain⟨c9,H⟩:=gd_ H
 have R1:=eq_true c9
 have U1:=decide_eq_true c9
 have V1:=eq_false (Nat.not_lt.2 c9)
 have W1:(9223372036854775807<1+v0.size+(strOfNums y0).size)=False:=eq_false (by have h_:=c9;simp only [ByteArray.size_append] at h_;exact Nat.not_lt.2 h_)
 obtain⟨c10,H⟩:=gd_ H
 have J1:=eq_true c10
 have K1:=decide_eq_true c10
 have L1:=eq_false (Nat.not_lt.2 c10)
 have M1:(9223372036854775807<1+v0.size+(strOfNums y0).size+h0.size)=False:=eq_false (by have h_:=c10;simp only [ByteArray.size_append] at h_;exact Nat.not_lt.2 h_)
 simp only [Option.some.injEq,Prod.mk.injEq] at H
 obtain⟨rfl,rfl⟩:=H
 go_enter Tryz.func109,Tryz.ntmps109
 go_wp2_with (first|((with_reducible refine gn_ 3 rfl ?_);refine bv_ (cs:=#[.int .i64 d0,.int .i64 e0,.string h0]) (t:=105) HB ?_;clear HB;intro q0 e2 b0 r0 HB;obtain⟨P0,Q0,R0,U0,V0,W0⟩:=b3_ b0)|((with_reducible refine gc_ 105 rfl ?_);refine gm_ 9 Tryz.func105 (impl_EntryOk.calls k d0 e0 h0 true _ A3.out) ?_;rintro g2 hb;replace b0:=bb_ b0 hb;replace HB:=bs_ HB hb;(try clear hb);(try clear hk))|(go_at_call 53;(with_reducible refine(impl_within.calls a0 1 1000000 true _ A5.out).mono ?_);rintro e w' ⟨rfl,⟨nd,rfl⟩⟩;obtain⟨X0,Y0,Z0,a1,b1,d1⟩:=b3_ b0)|((with_reducible refine gn_ 20 rfl ?_);refine Kd.R_lit (Kd.int .i64) _ 3 ?hg (N:=20) ?hd (xs:=([a0,d0]:List Int)) (inner:=[.int .i64 a0,.int .i64 d0]) (ok:=fun _=>True) (okp:=fun _=>True) ?hr ?hp (fun _ hk=>hk) trivial (Below.refl _ _) (Nat.le_refl _) (by simp) ?_;(case hd=>rfl);(case hg=>rfl);(case hr=>first|(go_simp;done)|(go_simp;rfl));(case hp=>exact(Reps.one (show Kd.M (Kd.int .i64) _ _ _ a0 [.int .i64 a0] from rfl) (Reps.one (show Kd.M (Kd.int .i64) _ _ _ d0 [.int .i64 d0] from rfl) (Reps.none _ _))));intro X1 h2 o0 hb hg_ hnew_;clear hg_ hnew_;(first|rw [←s0.out] at o0|(simp only [Int.reduceToNat] at o0;rw [←s0.out] at o0));have g0:=mk_ (Kd.R_lower o0 (below_size (bw_ HB)));replace b0:=bb_ b0 hb;replace HB:=bs_ HB hb;clear hb o0;obtain⟨F1,G1,H1⟩:=Kd.R_slice g0.out;subst H1)|((with_reducible refine gc_ 108 rfl ?_);refine gx_ 21 Tryz.func108 #[.slice F1 x0.length G1] (impl_vars.calls k _ _ x0 v0 D1 _ ?side1 ?side2 A7.out) ?_;(case side1=>repeat(first|exact(Kd.R_reads' g0.out).2.2|(with_reducible refine Kd.C_alloc ?_ _)|(with_reducible refine Kd.C_drewN ?_ _)|(with_reducible refine Kd.C_drew ?_)));(case side2=>exact(Kd.R_reads' g0.out).2.1);rintro l2 hb;replace g0:=rb_ g0 hb;replace b0:=bb_ b0 hb;replace HB:=bs_ HB hb;(try clear hb);(try clear hk);obtain⟨e1,g1,m1,n1,o1,p1⟩:=b3_ b0)|((with_reducible refine gn_ 29 rfl ?_);refine Kd.R_lit (Kd.int .u8) _ 5 ?hg (N:=29) ?hd (xs:=([(e0) % 256]:List Int)) (inner:=[.int .u8 ((e0) % 256)]) (ok:=fun _=>True) (okp:=fun _=>True) ?hr ?hp (fun _ hk=>hk) trivial (Below.refl _ _) (Nat.le_refl _) (by simp) ?_;(case hd=>rfl);(case hg=>rfl);(case hr=>first|(go_simp;done)|(go_simp;rfl));(case hp=>exact(Reps.one (show Kd.M (Kd.int .u8) _ _ _ ((e0) % 256) [.int .u8 ((e0) % 256)] from rfl) (Reps.none _ _)));intro Y1 m2 p0 hb hg_ hnew_;clear hg_ hnew_;(first|rw [←t0.out] at p0|(simp only [Int.reduceToNat] at p0;rw [←t0.out] at p0));have A0:=mk_ (Kd.R_lower p0 (below_size (bw_ HB)));replace g0:=rb_ g0 hb;replace b0:=bb_ b0 hb;replace HB:=bs_ HB hb;clear hb p0;have N1:=own_string (P:=Tryz.prog) Tryz.underlying95 Tryz.underlying5 Tryz.underlying9 (Kd.own_of_R A0.out);obtain⟨q1,s1,t1,v1,x1,y1⟩:=b3_ b0))
 go_ret2
 exact⟨er_,bw_ HB⟩
def impl_entryFrames.l0:Nat→List Int→Int→Int→Int→List (S105)→Option (ByteArray)
 |0,_,_,_,_,_=>none
 |k+1,x5,x6,b0,d0,a0=>if x6<(a0.length:Int) then(if 0≤x6 then((impl_EntryText.f k (wrap64 ((wrap64 (b0+x6))+1)) ((rd_T105 a0 x6).f0) ((rd_T105 a0 x6).f1) ((rd_T105 a0 x6).f2)).bind fun g0=>((impl_Frame.f k g0.1).bind fun e0=>(if x5.length+e0.1.size<140737488355328 then(impl_entryFrames.l0 k (x5++bytesOf e0.1) (wrap64 (x6+1)) b0 d0 a0) else(none)))) else(none)) else(some (strOfNums x5))
def impl_entryFrames.f (k:Nat) (a0:Int) (b0:Int) (d0:List (S105)) (a1:Int):Option (ByteArray):=impl_entryFrames.l0 k ([]:List Int) a1 a0 b0 d0
def impl_entryFrames.T5:Bool × List (List Nat × List Nat):=(true,[([],[]),([0],[0]),([],[]),([1,2],[1,2]),([3],[3]),([],[]),([5],[5]),([],[]),([6,7],[6,7]),([8],[8]),([4,9],[4,9]),([10],[10]),([11],[11]),([11],[11]),([12,10,0,1,2,3,4,5,6,7,8,9,10,11,12],[12]),([13,14,0,1,2,3,4,5,6,7,8,9,10,11,12,13,14],[13])])
def impl_entryFrames.B5:List Nat:=[0,1,0,7,15,0,32,0,224,480,1023,2047,4095,4095,8191,32767]
theorem impl_entryFrames.tab5:rtab .any (opsOf Tryz.f95 5)=impl_entryFrames.T5:=by kernel_rfl
theorem impl_entryFrames.bits5:waitsOk impl_entryFrames.T5.2 impl_entryFrames.B5=true:=by kernel_rfl
theorem impl_entryFrames.calls (k:Nat) (o0:Int) (t0:Int) (A0:Option Addr) (v0:Nat) (d0:List (S105)) (a1:Int) (r:ByteArray) (w:World) (B0:Kd.C k105 w A0 d0.length d0) (C0:d0.length≤v0) (h:impl_entryFrames.f k o0 t0 d0 a1=some r):
  Calls Tryz.prog 95 #[.agg #[.int .i64 o0,.int .i64 t0,.slice A0 d0.length v0],.int .i64 a1] w fun e w'=>e= .returned (.string r)∧Below w.heap.size w w':=by
 have v1:=Tryz.underlying28
 have o1:=Tryz.underlying105
 have I0:=Aside0.mk B0
 have p1:=Aside0.mk C0
 clear B0 C0
 have HB:=mk_ (Below.refl w.heap.size w)
 have H:=h
 unfold impl_entryFrames.f at H
 clear h
 have H':=Aside0.mk H
 clear H
 go_enter Tryz.func95,Tryz.ntmps95
 go_wp2_with (first|((with_reducible refine gn_ 2 rfl ?_);refine bv_ (cs:=#[.int .i64 o0,.int .i64 t0,.slice A0 d0.length v0]) (t:=28) HB ?_;clear HB;intro p0 w3 a0 q1 HB))
 go_loopg [5,6] k (fun kq v5 v6 w'=>∃(x0:List Int) (b0:Int),v6= .int .i64 b0∧Aside0 (impl_entryFrames.l0 kq x0 b0 o0 t0 d0=some r)∧Aside0 (kq≤k)∧Aside0 (Kd.R (Kd.int .u8) 5 w' w.heap.size (fun _=>True) v5 x0)∧Aside0 (w'.heap[p0]? =some (.cells #[.int .i64 o0,.int .i64 t0,(.slice A0 d0.length v0)] 28 (0,0)))∧Aside0 (Below w.heap.size w w'))
 case atStart=>exact⟨(([]:List Int)),(a1),rl_,H',⟨Nat.le_refl _⟩,⟨by first|exact Kd.R_nil _ _ _ _ _|exact Kd.N_nil _ _ _ _ _|exact Kd.V_nil _ _ _ _ _|exact Kd.Q_nil _ _ _ _ _|exact Kd.S_nil _ _ _ _ _⟩,⟨bf_⟩,⟨bw_ HB⟩⟩
 case round=>
  clear H'
  try clear p2
  obtain⟨x0,b0,rfl,HA,r1,m0,a0,HB⟩:=hrel
  cases gk with
  |zero=>exact absurd HA.out (by simp [impl_entryFrames.l0])
  |succ k1=>
   have H:=HA.out
   clear HA
   simp only [impl_entryFrames.l0] at H
   refine ic_ H ?_ ?_ <;> clear H <;> intro x1 H
   ·obtain rfl:=Option.some.inj H
    obtain⟨N0,O0,P0,Q0,R0,U0⟩:=b3_ a0
    have s1:=own_string (P:=Tryz.prog) Tryz.underlying95 Tryz.underlying5 Tryz.underlying9 (Kd.own_of_R m0.out)
    go_wp2
    go_ret
    exact⟨er_,bw_ HB⟩
   obtain⟨c5,H⟩:=gd_ H
   have y1:=decide_eq_true c5
   clear c5
   obtain⟨⟨J0,V0⟩,A6,H⟩:=ob_ H
   try dsimp only at H
   obtain⟨⟨F0,W0⟩,A7,H⟩:=ob_ H
   try dsimp only at H
   obtain⟨c8,H⟩:=gd_ H
   have X0:=Aside0.mk c8
   clear c8
   obtain⟨K0,y0⟩:∃y_:List Int,y_=(x0++bytesOf F0):=⟨_,rfl⟩
   rw [←y0] at H
   have L0:=Aside0.mk y0
   clear y0
   have H':=Aside0.mk H
   clear H
   obtain⟨Y0,Z0,b1,d1,e1,g1⟩:=b3_ a0
   try go_wp2
   replace m0:=rd_ m0;replace a0:=kd_ a0;replace HB:=wd_ HB
   have G0:0≤(b0:Int):=od_
   have H0:b0<(d0.length:Int):=od_
   obtain⟨n0,m1,e0,g0,h0⟩:=at_T105 I0.out b0 G0 H0
   have q0:=h0
   have r0:=g0
   have s0:=e0
   cases m1
   replace e0:=hc_ HB e0
   replace g0:=hc_ HB g0
   replace h0:=hc_ HB h0
   replace G0:=eq_true G0
   replace H0:=eq_true H0
   refine start_ (n:=16) (S:=fun w'=>w'.cell? ⟨p0,0,none⟩=some (.int .i64 o0)∧w'.cell? ⟨p0,1,none⟩=some (.int .i64 t0)∧w'.cell? ⟨p0,2,none⟩=some (.slice (some n0) d0.length v0)∧w'.cell? (n0.add ((b0).toNat*3))=some (.int .i64 ((rd_T105 d0 b0).f0))∧w'.cell? ⟨(n0.add ((b0).toNat*3)).block,(n0.add ((b0).toNat*3)).off+1,none⟩=some (.int .i64 ((rd_T105 d0 b0).f1))∧w'.cell? ⟨(n0.add ((b0).toNat*3)).block,(n0.add ((b0).toNat*3)).off+2,none⟩=some (.string ((rd_T105 d0 b0).f2))) (ds:=[]) #[false,false,false,false,false,false,false,false,false,false,false,false,false,false,false,false] (by kernel_rfl) rfl rfl ⟨bc_ a0 0,bc_ a0 1,bc_ a0 2,(hc_ HB s0),(hc_ HB r0),(hc_ HB q0)⟩ (fun hHeld=>?_);refine with_tabW impl_entryFrames.tab5 impl_entryFrames.bits5 (fun HT_ HW_=>?_)
   generalize wr.drew=C1 at m0 a0 HB e0 g0 h0 hHeld⊢
   refine pv_ 0 20 ?_
   refine pv_ 2 22 ?_
   refine pv_ 5 25 ?_
   refine pv_ 7 27 ?_
   refine tv_ 1 21 hHeld ?_
   refine pv_ 3 23 ?_
   refine pv_ 4 24 ?_
   refine tv_ 6 26 hHeld ?_
   refine pv_ 8 28 ?_
   refine tv_ 9 29 hHeld ?_
   refine on_ 10 30 (fun K hK=>?_)
   refine gs_ Tryz.func109 (impl_EntryText.calls k1 (wrap64 ((wrap64 (o0+b0))+1)) ((rd_T105 d0 b0).f0) ((rd_T105 d0 b0).f1) ((rd_T105 d0 b0).f2) J0 V0 _ A6.out) ?_
   rintro D1 hb
   replace m0:=rb_ m0 hb;replace a0:=bb_ a0 hb;replace HB:=bs_ HB hb;(try clear hb);(try clear F1);(try clear hk);(try clear hi)
   refine hK.out _ _ ⟨bc_ a0 0,bc_ a0 1,bc_ a0 2,(hc_ HB s0),(hc_ HB r0),(hc_ HB q0)⟩ (fun hHeld=>?_)
   clear hK K
   refine norm_ (a':=?_) ?_ ?_
   rotate_left
   ·show Act.put _ (some 30) _=_
    simp only [Act.put,sia_,scz_,scs_,i64_w,i32_w]
    rfl
   refine pv_ 11 19 ?_
   refine pv_ 12 31 ?_
   refine pv_ 13 32 ?_
   refine pv_ 14 7 ?_
   refine pv_ 15 8 ?_
   refine done_ (done_of HT_.out (by kernel_rfl)) ?_
   try go_wp2_with (first|((with_reducible refine gc_ 59 rfl ?_);refine gm_ 35 Tryz.func59 (impl_Frame.calls k1 J0 F0 W0 _ A7.out) ?_;rintro G1 hb;replace m0:=rb_ m0 hb;replace a0:=bb_ a0 hb;replace HB:=bs_ HB hb;(try clear hb))|(at_builtin;refine print_append_str (w0:=w) w.heap.size rfl (.tmp 38) _ 95 9 5 rfl Tryz.underlying95 Tryz.underlying9 info5 u5 x0 F0 rfl rfl ?aO ?aB ?aS ?aL ?_;(case aB=>exact(bw_ HB));(case aO=>exact(Kd.own_of_R (rp_ m0)));(case aS=>exact(below_size (bw_ HB)));(case aL=>have:=X0.out;omega);intro n1 A1 t1 hb hg;have ho:=Kd.R_of_own (h1:=fun _=>rfl) (ok:=fun _=>True) t1 (fun _ _=>trivial);clear t1;have hat:=True.intro;rw [←L0.out] at ho;change Kd.R (Kd.int .u8) 5 A1 w.heap.size (fun _=>True) n1 K0 at ho;have M0:=mk_ (ho);replace a0:=bgr_ a0 hg (Kd.R_ne m0.out a0.out (by decide));replace HB:=mk_ (hb);clear m0;clear ho hb hg hat))
   go_roundg k1
   case measure=>have:=r1.out;omega
   case rel=>exact⟨(K0),(wrap64 (b0+1)),rl_,H',⟨by have:=r1.out;omega⟩,⟨rq_ M0.out⟩,⟨bf_⟩,⟨bw_ HB⟩⟩
def impl_JournalText.f (k:Nat) (o0:Int) (h0:Int) (m0:Int) (d0:Int) (e0:Int) (n0:List (S105)):Option (ByteArray × Bool):=(impl_JournalOk.f k o0 h0 m0 d0 e0 n0).bind fun p0=>(if p0=true then((impl_headFrame.f k (⟨#[66]⟩:ByteArray) d0 e0).bind fun a0=>((impl_headFrame.f k (⟨#[72]⟩:ByteArray) h0 m0).bind fun b0=>(if a0.size+b0.size≤9223372036854775807 then((impl_entryFrames.f k d0 e0 n0 0).bind fun g0=>(if(a0++b0).size+g0.size≤9223372036854775807 then(if(((a0++b0)++g0).size:Int)>20000 then(some ((⟨#[]⟩:ByteArray),false)) else(some ((a0++b0)++g0,true))) else(none))) else(none)))) else(some ((⟨#[]⟩:ByteArray),false)))
def impl_JournalText.T3:Bool × List (List Nat × List Nat):=(true,[([],[]),([0],[0]),([1],[1]),([],[]),([3],[3]),([4],[4]),([2,5],[2,5]),([],[]),([7],[7]),([],[]),([9],[9]),([8,10,6],[8,10]),([6,11],[6,11]),([],[]),([13],[13]),([14,11],[14]),([12,15],[12,15]),([16,15,0,1,2,3,4,5,6,7,8,9,10,11,12,13,14,15,16],[16])])
def impl_JournalText.B3:List Nat:=[0,1,3,0,8,24,63,0,128,0,512,2047,4095,0,8192,28671,65535,131071]
theorem impl_JournalText.tab3:rtab .any (opsOf Tryz.f62 3)=impl_JournalText.T3:=by kernel_rfl
theorem impl_JournalText.bits3:waitsOk impl_JournalText.T3.2 impl_JournalText.B3=true:=by kernel_rfl
theorem impl_JournalText.calls (k:Nat) (n0:Int) (h0:Int) (m0:Int) (e0:Int) (g0:Int) (o0:Option Addr) (p0:Nat) (d0:List (S105)) (r1:ByteArray) (r2:Bool) (w:World) (x0:Kd.C k105 w o0 d0.length d0) (y0:d0.length≤p0) (h:impl_JournalText.f k n0 h0 m0 e0 g0 d0=some (r1,r2)):
  Calls Tryz.prog 62 #[.agg #[.int .i64 n0,.int .i64 h0,.int .i64 m0,.int .i64 e0,.int .i64 g0,.slice o0 d0.length p0]] w fun e w'=>e= .returned (.tuple #[.string r1,.bool r2])∧Below w.heap.size w w':=by
 have H1:=Tryz.underlying30
 have I1:=Tryz.underlying28
 have q0:=Aside0.mk x0
 have r0:=Aside0.mk y0
 clear x0 y0
 have HB:=mk_ (Below.refl w.heap.size w)
 have H:=h
 unfold impl_JournalText.f at H
 clear h
 obtain⟨D1,A2,H⟩:=ob_ H
 try dsimp only at H
 by_cases c3:D1=true
 rotate_left
 ·replace c3:=Bool.eq_false_iff.mpr c3
  subst c3
  rw [if_neg (show ¬(false=true) by decide)] at H
  simp only [Option.some.injEq,Prod.mk.injEq] at H
  obtain⟨rfl,rfl⟩:=H
  go_enter Tryz.func62,Tryz.ntmps62
  go_wp2_with (first|((with_reducible refine gn_ 1 rfl ?_);refine bv_ (cs:=#[.int .i64 n0,.int .i64 h0,.int .i64 m0,.int .i64 e0,.int .i64 g0,.slice o0 d0.length p0]) (t:=30) HB ?_;clear HB;intro b0 U1 a0 A0 HB;obtain⟨F0,G0,H0,I0,J0,K0,L0,M0,N0,O0,P0,Q0⟩:=b6_ a0)|((with_reducible refine gc_ 58 rfl ?_);refine gx_ 6 Tryz.func58 #[.agg #[.int .i64 n0,.int .i64 h0,.int .i64 m0,.int .i64 e0,.int .i64 g0,.slice o0 d0.length p0]] (impl_JournalOk.calls k n0 h0 m0 e0 g0 _ _ d0 false _ ?side1 ?side2 A2.out) ?_;(case side1=>repeat(first|exact(Kd.C_below q0.out HB.out)|(with_reducible refine Kd.C_alloc ?_ _)|(with_reducible refine Kd.C_drewN ?_ _)|(with_reducible refine Kd.C_drew ?_)));(case side2=>exact r0.out);rintro V1 hb;replace a0:=bb_ a0 hb;replace HB:=bs_ HB hb;(try clear hb)))
  go_ret2
  exact⟨er_,bw_ HB⟩
 subst c3
 rw [if_pos rfl] at H
 obtain⟨s0,A4,H⟩:=ob_ H
 try dsimp only at H
 obtain⟨t0,A5,H⟩:=ob_ H
 try dsimp only at H
 obtain⟨c6,H⟩:=gd_ H
 have J1:=eq_true c6
 have K1:=decide_eq_true c6
 have L1:=eq_false (Nat.not_lt.2 c6)
 obtain⟨v0,A7,H⟩:=ob_ H
 try dsimp only at H
 obtain⟨c8,H⟩:=gd_ H
 have M1:=eq_true c8
 have N1:=decide_eq_true c8
 have O1:=eq_false (Nat.not_lt.2 c8)
 have P1:(9223372036854775807<s0.size+t0.size+v0.size)=False:=eq_false (by have h_:=c8;simp only [ByteArray.size_append] at h_;exact Nat.not_lt.2 h_)
 by_cases c9:(((s0++t0)++v0).size:Int)>20000
 rotate_left
 ·rw [if_neg c9] at H
  have B0:=decide_eq_false c9
  have F1:decide (20000<((s0++t0)++v0).size)=false:=decide_eq_false (by omega)
  try have G1:decide (20000<((s0.size:Int)+(t0.size:Int)+(v0.size:Int)))=false:=by simpa only [ByteArray.size_append,Int.natCast_add] using B0
  clear c9
  simp only [Option.some.injEq,Prod.mk.injEq] at H
  obtain⟨rfl,rfl⟩:=H
  go_enter Tryz.func62,Tryz.ntmps62
  try go_wp2_with (first|((with_reducible refine gn_ 1 rfl ?_);refine bv_ (cs:=#[.int .i64 n0,.int .i64 h0,.int .i64 m0,.int .i64 e0,.int .i64 g0,.slice o0 d0.length p0]) (t:=30) HB ?_;clear HB;intro b0 W1 a0 A0 HB;obtain⟨R0,U0,V0,W0,X0,Y0,Z0,a1,b1,d1,e1,g1⟩:=b6_ a0)|((with_reducible refine gc_ 58 rfl ?_);refine gx_ 6 Tryz.func58 #[.agg #[.int .i64 n0,.int .i64 h0,.int .i64 m0,.int .i64 e0,.int .i64 g0,.slice o0 d0.length p0]] (impl_JournalOk.calls k n0 h0 m0 e0 g0 _ _ d0 true _ ?side1 ?side2 A2.out) ?_;(case side1=>repeat(first|exact(Kd.C_below q0.out HB.out)|(with_reducible refine Kd.C_alloc ?_ _)|(with_reducible refine Kd.C_drewN ?_ _)|(with_reducible refine Kd.C_drew ?_)));(case side2=>exact r0.out);rintro Q1 hb;replace a0:=bb_ a0 hb;replace HB:=bs_ HB hb;(try clear hb)))
  replace a0:=kd_ a0;replace HB:=wd_ HB
  refine start_ (n:=18) (S:=fun w'=>w'.cell? ⟨b0,0,none⟩=some (.int .i64 n0)∧w'.cell? ⟨b0,1,none⟩=some (.int .i64 h0)∧w'.cell? ⟨b0,2,none⟩=some (.int .i64 m0)∧w'.cell? ⟨b0,3,none⟩=some (.int .i64 e0)∧w'.cell? ⟨b0,4,none⟩=some (.int .i64 g0)∧w'.cell? ⟨b0,5,none⟩=some (.slice o0 d0.length p0)) (ds:=[]) #[false,false,false,false,false,false,false,false,false,false,false,false,false,false,false,false,false,false] (by kernel_rfl) rfl rfl ⟨bc_ a0 0,bc_ a0 1,bc_ a0 2,bc_ a0 3,bc_ a0 4,bc_ a0 5⟩ (fun hHeld=>?_);refine with_tabW impl_JournalText.tab3 impl_JournalText.bits3 (fun HT_ HW_=>?_)
  generalize Q1.drew=X1 at a0 HB hHeld⊢
  refine pv_ 0 8 ?_
  refine pv_ 1 9 ?_
  refine pv_ 3 11 ?_
  refine pv_ 4 12 ?_
  refine pv_ 7 15 ?_
  refine pv_ 9 17 ?_
  refine pv_ 13 21 ?_
  refine tv_ 2 10 hHeld ?_
  refine tv_ 5 13 hHeld ?_
  refine tv_ 8 16 hHeld ?_
  refine tv_ 10 18 hHeld ?_
  refine tv_ 14 22 hHeld ?_
  refine on_ 6 14 (fun K hK=>?_)
  refine gs_ Tryz.func94 (impl_headFrame.calls k (⟨#[66]⟩:ByteArray) e0 g0 s0 _ A4.out) ?_
  rintro Y1 hb
  replace a0:=bb_ a0 hb;replace HB:=bs_ HB hb;(try clear hb);(try clear C0);(try clear hk);(try clear hi)
  refine hK.out _ _ ⟨bc_ a0 0,bc_ a0 1,bc_ a0 2,bc_ a0 3,bc_ a0 4,bc_ a0 5⟩ (fun hHeld=>?_)
  clear hK K
  refine norm_ (a':=?_) ?_ ?_
  rotate_left
  ·show Act.put _ (some 14) _=_
   simp only [Act.put,sia_,scz_,scs_,i64_w,i32_w]
   rfl
  refine on_ 11 19 (fun K hK=>?_)
  refine gs_ Tryz.func94 (impl_headFrame.calls k (⟨#[72]⟩:ByteArray) h0 m0 t0 _ A5.out) ?_
  rintro Z1 hb
  replace a0:=bb_ a0 hb;replace HB:=bs_ HB hb;(try clear hb);(try clear C0);(try clear hk);(try clear hi)
  refine hK.out _ _ ⟨bc_ a0 0,bc_ a0 1,bc_ a0 2,bc_ a0 3,bc_ a0 4,bc_ a0 5⟩ (fun hHeld=>?_)
  clear hK K
  refine norm_ (a':=?_) ?_ ?_
  rotate_left
  ·show Act.put _ (some 19) _=_
   simp only [Act.put,sia_,scz_,scs_,i64_w,i32_w]
   rfl
  refine pv_ 12 20 ?_
  refine on_ 15 23 (fun K hK=>?_)
  refine gt_ Tryz.func95 #[.agg #[.int .i64 e0,.int .i64 g0,.slice o0 d0.length p0],.int .i64 0] (impl_entryFrames.calls k e0 g0 _ _ d0 0 v0 _ ?side1 ?side2 A7.out) ?_
  (case side1=>repeat(first|exact(Kd.C_below q0.out HB.out)|(with_reducible refine Kd.C_alloc ?_ _)|(with_reducible refine Kd.C_drewN ?_ _)|(with_reducible refine Kd.C_drew ?_)))
  (case side2=>exact r0.out)
  rintro a2 hb
  replace a0:=bb_ a0 hb;replace HB:=bs_ HB hb;(try clear hb);(try clear C0);(try clear hk);(try clear hi)
  refine hK.out _ _ ⟨bc_ a0 0,bc_ a0 1,bc_ a0 2,bc_ a0 3,bc_ a0 4,bc_ a0 5⟩ (fun hHeld=>?_)
  clear hK K
  refine norm_ (a':=?_) ?_ ?_
  rotate_left
  ·show Act.put _ (some 23) _=_
   simp only [Act.put,sia_,scz_,scs_,i64_w,i32_w]
   rfl
  refine pv_ 16 24 ?_
  refine pv_ 17 4 ?_
  refine done_ (done_of HT_.out (by kernel_rfl)) ?_
  try go_wp2
  go_ret2
  exact⟨er_,bw_ HB⟩
 rw [if_pos c9] at H
 have B0:=decide_eq_true c9
 have F1:decide (20000<((s0++t0)++v0).size)=true:=decide_eq_true (by omega)
 try have G1:decide (20000<((s0.size:Int)+(t0.size:Int)+(v0.size:Int)))=true:=by simpa only [ByteArray.size_append,Int.natCast_add] using B0
 clear c9
 simp only [Option.some.injEq,Prod.mk.injEq] at H
 obtain⟨rfl,rfl⟩:=H
 go_enter Tryz.func62,Tryz.ntmps62
 try go_wp2_with (first|((with_reducible refine gn_ 1 rfl ?_);refine bv_ (cs:=#[.int .i64 n0,.int .i64 h0,.int .i64 m0,.int .i64 e0,.int .i64 g0,.slice o0 d0.length p0]) (t:=30) HB ?_;clear HB;intro b0 b2 a0 A0 HB;obtain⟨m1,n1,o1,p1,q1,s1,t1,v1,x1,y1,A1,C1⟩:=b6_ a0)|((with_reducible refine gc_ 58 rfl ?_);refine gx_ 6 Tryz.func58 #[.agg #[.int .i64 n0,.int .i64 h0,.int .i64 m0,.int .i64 e0,.int .i64 g0,.slice o0 d0.length p0]] (impl_JournalOk.calls k n0 h0 m0 e0 g0 _ _ d0 true _ ?side1 ?side2 A2.out) ?_;(case side1=>repeat(first|exact(Kd.C_below q0.out HB.out)|(with_reducible refine Kd.C_alloc ?_ _)|(with_reducible refine Kd.C_drewN ?_ _)|(with_reducible refine Kd.C_drew ?_)));(case side2=>exact r0.out);rintro R1 hb;replace a0:=bb_ a0 hb;replace HB:=bs_ HB hb;(try clear hb)))
 replace a0:=kd_ a0;replace HB:=wd_ HB
 refine start_ (n:=18) (S:=fun w'=>w'.cell? ⟨b0,0,none⟩=some (.int .i64 n0)∧w'.cell? ⟨b0,1,none⟩=some (.int .i64 h0)∧w'.cell? ⟨b0,2,none⟩=some (.int .i64 m0)∧w'.cell? ⟨b0,3,none⟩=some (.int .i64 e0)∧w'.cell? ⟨b0,4,none⟩=some (.int .i64 g0)∧w'.cell? ⟨b0,5,none⟩=some (.slice o0 d0.length p0)) (ds:=[]) #[false,false,false,false,false,false,false,false,false,false,false,false,false,false,false,false,false,false] (by kernel_rfl) rfl rfl ⟨bc_ a0 0,bc_ a0 1,bc_ a0 2,bc_ a0 3,bc_ a0 4,bc_ a0 5⟩ (fun hHeld=>?_);refine with_tabW impl_JournalText.tab3 impl_JournalText.bits3 (fun HT_ HW_=>?_)
 generalize R1.drew=d2 at a0 HB hHeld⊢
 refine pv_ 0 8 ?_
 refine pv_ 1 9 ?_
 refine pv_ 3 11 ?_
 refine pv_ 4 12 ?_
 refine pv_ 7 15 ?_
 refine pv_ 9 17 ?_
 refine pv_ 13 21 ?_
 refine tv_ 2 10 hHeld ?_
 refine tv_ 5 13 hHeld ?_
 refine tv_ 8 16 hHeld ?_
 refine tv_ 10 18 hHeld ?_
 refine tv_ 14 22 hHeld ?_
 refine on_ 6 14 (fun K hK=>?_)
 refine gs_ Tryz.func94 (impl_headFrame.calls k (⟨#[66]⟩:ByteArray) e0 g0 s0 _ A4.out) ?_
 rintro e2 hb
 replace a0:=bb_ a0 hb;replace HB:=bs_ HB hb;(try clear hb);(try clear C0);(try clear hk);(try clear hi)
 refine hK.out _ _ ⟨bc_ a0 0,bc_ a0 1,bc_ a0 2,bc_ a0 3,bc_ a0 4,bc_ a0 5⟩ (fun hHeld=>?_)
 clear hK K
 refine norm_ (a':=?_) ?_ ?_
 rotate_left
 ·show Act.put _ (some 14) _=_
  simp only [Act.put,sia_,scz_,scs_,i64_w,i32_w]
  rfl
 refine on_ 11 19 (fun K hK=>?_)
 refine gs_ Tryz.func94 (impl_headFrame.calls k (⟨#[72]⟩:ByteArray) h0 m0 t0 _ A5.out) ?_
 rintro g2 hb
 replace a0:=bb_ a0 hb;replace HB:=bs_ HB hb;(try clear hb);(try clear C0);(try clear hk);(try clear hi)
 refine hK.out _ _ ⟨bc_ a0 0,bc_ a0 1,bc_ a0 2,bc_ a0 3,bc_ a0 4,bc_ a0 5⟩ (fun hHeld=>?_)
 clear hK K
 refine norm_ (a':=?_) ?_ ?_
 rotate_left
 ·show Act.put _ (some 19) _=_
  simp only [Act.put,sia_,scz_,scs_,i64_w,i32_w]
  rfl
 refine pv_ 12 20 ?_
 refine on_ 15 23 (fun K hK=>?_)
 refine gt_ Tryz.func95 #[.agg #[.int .i64 e0,.int .i64 g0,.slice o0 d0.length p0],.int .i64 0] (impl_entryFrames.calls k e0 g0 _ _ d0 0 v0 _ ?side1 ?side2 A7.out) ?_
 (case side1=>repeat(first|exact(Kd.C_below q0.out HB.out)|(with_reducible refine Kd.C_alloc ?_ _)|(with_reducible refine Kd.C_drewN ?_ _)|(with_reducible refine Kd.C_drew ?_)))
 (case side2=>exact r0.out)
 rintro h2 hb
 replace a0:=bb_ a0 hb;replace HB:=bs_ HB hb;(try clear hb);(try clear C0);(try clear hk);(try clear hi)
 refine hK.out _ _ ⟨bc_ a0 0,bc_ a0 1,bc_ a0 2,bc_ a0 3,bc_ a0 4,bc_ a0 5⟩ (fun hHeld=>?_)
 clear hK K
 refine norm_ (a':=?_) ?_ ?_
 rotate_left
 ·show Act.put _ (some 23) _=_
  simp only [Act.put,sia_,scz_,scs_,i64_w,i32_w]
  rfl
 refine pv_ 16 24 ?_
 refine pv_ 17 4 ?_
 refine done_ (done_of HT_.out (by kernel_rfl)) ?_
 try go_wp2
 go_ret2
 exact⟨er_,bw_ HB⟩
def impl_anew.f (k:Nat) (a0:Int) (q0:Int) (e0:Int) (g0:Int) (m0:Int) (n0:Int) (o0:List (S105)):Option ((List (S57)) × Int × Int × Int × Int × Int × (List (S105)) × Bool):=(impl_copyLog.f m0 n0 o0).bind fun b0=>((impl_JournalText.f k (wrap64 (a0+1)) e0 g0 b0.1 b0.2.1 b0.2.2).bind fun d0=>((impl_JournalName.f (wrap64 (a0+1))).bind fun h0=>(if d0.2=true then(if h0.toList=([]:List UInt8) then(some (([]:List (S57)),0,0,0,0,0,([]:List (S105)),false)) else((impl_JournalName.f a0).bind fun p0=>(some ((([(⟨1,(⟨#[106,43]⟩:ByteArray),d0.1,(⟨#[]⟩:ByteArray)⟩:S57),(⟨2,(⟨#[106,43]⟩:ByteArray),(⟨#[]⟩:ByteArray),(⟨#[]⟩:ByteArray)⟩:S57),(⟨3,(⟨#[106,43]⟩:ByteArray),(⟨#[]⟩:ByteArray),h0⟩:S57),(⟨4,p0,(⟨#[]⟩:ByteArray),(⟨#[]⟩:ByteArray)⟩:S57)]:List (S57))),wrap64 (a0+1),e0,g0,b0.1,b0.2.1,b0.2.2,true)))) else(some (([]:List (S57)),0,0,0,0,0,([]:List (S105)),false)))))
theorem impl_anew.calls (k:Nat) (a0:Int) (J0:Int) (n0:Int) (o0:Int) (t0:Int) (v0:Int) (y0:Option Addr) (A0:Nat) (q0:List (S105)) (r1:List (S57)) (r2:Int) (r3:Int) (r4:Int) (r5:Int) (r6:Int) (r7:List (S105)) (r8:Bool) (w:World) (hT:Tab1 w) (O0:Kd.C k105 w y0 q0.length q0) (P0:q0.length≤A0) (h:impl_anew.f k a0 J0 n0 o0 t0 v0 q0=some (r1,r2,r3,r4,r5,r6,r7,r8)):
  Calls Tryz.prog 31 #[.int .i64 a0,.agg #[.int .i64 J0,.int .i64 n0,.int .i64 o0,.int .i64 t0,.int .i64 v0,.slice y0 q0.length A0]] w fun e w'=>∃Y4 Z4:Value,e= .returned (.tuple #[Y4,.agg #[.int .i64 r2,.int .i64 r3,.int .i64 r4,.int .i64 r5,.int .i64 r6,Z4],.bool r8])∧Kd.R k57 57 w' w.heap.size (fun _=>True) Y4 r1∧Kd.R k105 105 w' w.heap.size (fun _=>True) Z4 r7∧Below w.heap.size w w':=by
 have s5:=Tryz.underlying30
 have t5:=Tryz.underlying28
 have v5:=Tryz.underlying57
 have K0:=Aside0.mk O0
 have L0:=Aside0.mk P0
 clear O0 P0
 have HT:=Aside0.mk hT
 clear hT
 have HB:=mk_ (Below.refl w.heap.size w)
 have H:=h
 unfold impl_anew.f at H
 clear h
 obtain⟨⟨r0,s0,p0⟩,A3,H⟩:=ob_ H
 try dsimp only at H
 obtain⟨⟨C0,Q4⟩,A4,H⟩:=ob_ H
 try dsimp only at H
 obtain⟨B0,A5,H⟩:=ob_ H
 try dsimp only at H
 by_cases c6:Q4=true
 rotate_left
 ·replace c6:=Bool.eq_false_iff.mpr c6
  subst c6
  rw [if_neg (show ¬(false=true) by decide)] at H
  simp only [Option.some.injEq,Prod.mk.injEq] at H
  obtain⟨rfl,rfl,rfl,rfl,rfl,rfl,rfl,rfl⟩:=H
  go_enter Tryz.func31,Tryz.ntmps31
  go_wp2_with (first|((with_reducible refine gn_ 3 rfl ?_);refine bv_ (cs:=#[.int .i64 J0,.int .i64 n0,.int .i64 o0,.int .i64 t0,.int .i64 v0,.slice y0 q0.length A0]) (t:=30) HB ?_;clear HB;intro x0 K5 b0 Q0 HB)|((with_reducible refine gn_ 5 rfl ?_);refine bn_ (cs:=#[.int .i64 0,.int .i64 0,.int .i64 0,.int .i64 0,.int .i64 0,.slice none 0 0]) (t:=30) HB ?_;intro h0 L5 hg hb d0 R0 hB_;have e0:=bl_ b0 hg;have m0:=bg_ b0 hg;replace b0:=bb_ b0 hb;replace HB:=hB_;clear hb hB_ hg;obtain⟨a5,b5⟩:=ns_ e0;obtain⟨d1,e1,g1,m1,n1,o1,p1,q1,s1,t1,v1,x1⟩:=b6_ b0)|((with_reducible refine gc_ 61 rfl ?_);refine gl_ 16 Tryz.func61 #[.agg #[.int .i64 t0,.int .i64 v0,.slice y0 q0.length A0]] ?_;(with_reducible refine(impl_copyLog.calls t0 v0 _ _ q0 r0 s0 p0 _ ?side1 ?side2 A3.out).mono ?_);(case side1=>exact Kd.C_below K0.out (bw_ HB));(case side2=>exact L0.out);rintro e M5 ⟨Z0,rfl,U0,hb⟩;refine⟨_,rfl,?_⟩;have g0:=mk_ (Kd.R_lower U0 (below_size (bw_ HB)));replace b0:=bU_ b0 #[.int .i64 (wrap64 (a0+1)),.int .i64 n0,.int .i64 o0,.int .i64 t0,.int .i64 v0,.slice y0 q0.length A0] hb;replace d0:=bq_ d0 hb;replace HB:=bs_ HB hb;(try clear hb);(try clear hk);(try clear U0);obtain⟨y1,A1,C1,D1,F1,G1,H1,I1,J1,K1,L1,M1⟩:=b6_ b0;obtain⟨a1,W0,R4⟩:=Kd.R_slice g0.out;subst R4)|((with_reducible refine gc_ 62 rfl ?_);refine gx_ 20 Tryz.func62 #[.agg #[.int .i64 (wrap64 (a0+1)),.int .i64 n0,.int .i64 o0,.int .i64 r0,.int .i64 s0,.slice a1 p0.length W0]] (impl_JournalText.calls k (wrap64 (a0+1)) n0 o0 r0 s0 _ _ p0 C0 false _ ?side1 ?side2 A4.out) ?_;(case side1=>refine(Kd.R_reads' (e:=105) (base:=w.heap.size) (ok:=fun k_=>True) (n:=p0.length) (c:=W0) ?_).2.2;exact(rg_ g0 b0));(case side2=>exact(Kd.R_reads' g0.out).2.1);rintro N5 hb;replace g0:=mk_ (Kd.R_below (rg_ g0 b0) hb);replace b0:=bU_ b0 #[.int .i64 (wrap64 (a0+1)),.int .i64 n0,.int .i64 o0,.int .i64 r0,.int .i64 s0,.slice a1 p0.length W0] hb;replace d0:=bq_ d0 hb;replace HB:=bs_ HB hb;(try clear hb);(try clear hk);obtain⟨N1,O1,P1,Q1,R1,U1,V1,W1,X1,Y1,Z1,a2⟩:=b6_ b0)|((with_reducible refine gc_ 29 rfl ?_);refine gm_ 25 Tryz.func29 (impl_JournalName.calls (wrap64 (a0+1)) B0 _ (tab11 HT HB) A5.out) ?_;rintro O5 hb;replace g0:=rb_ g0 hb;replace b0:=bb_ b0 hb;replace d0:=bb_ d0 hb;replace HB:=bs_ HB hb;(try clear hb);(try clear hk);obtain⟨b2,d2,e2,g2,h2,l2,m2,n2,o2,q2,s2,t2⟩:=b6_ d0))
  refine bodyPost_ret (results_list (rs:=[.tmp 4,.cell 5 30,.tmp 6]) rfl (by simp) (.tmp (.cell h0 30 #[.int .i64 0,.int .i64 0,.int .i64 0,.int .i64 0,.int .i64 0,.slice none 0 0] (0,0) _ rfl bu_ Tryz.underlying30 rfl (by kernel_rfl) (.tmp .nil)))) rfl ?_
  exact⟨_,_,er_,by first|exact Kd.R_nil _ _ _ _ _|exact Kd.N_nil _ _ _ _ _|exact Kd.V_nil _ _ _ _ _|exact Kd.Q_nil _ _ _ _ _|exact Kd.S_nil _ _ _ _ _,by first|exact Kd.R_nil _ _ _ _ _|exact Kd.N_nil _ _ _ _ _|exact Kd.V_nil _ _ _ _ _|exact Kd.Q_nil _ _ _ _ _|exact Kd.S_nil _ _ _ _ _,bw_ HB⟩
 subst c6
 rw [if_pos rfl] at H
 by_cases c7:B0.toList=([]:List UInt8)
 ·rw [if_pos c7] at H
  have U4:=beq_iff_eq.mpr c7
  have V4:=bne_eq_false_iff_eq.mpr c7
  clear c7
  simp only [Option.some.injEq,Prod.mk.injEq] at H
  obtain⟨rfl,rfl,rfl,rfl,rfl,rfl,rfl,rfl⟩:=H
  go_enter Tryz.func31,Tryz.ntmps31
  go_wp2_with (first|((with_reducible refine gn_ 3 rfl ?_);refine bv_ (cs:=#[.int .i64 J0,.int .i64 n0,.int .i64 o0,.int .i64 t0,.int .i64 v0,.slice y0 q0.length A0]) (t:=30) HB ?_;clear HB;intro x0 w8 b0 Q0 HB)|((with_reducible refine gn_ 5 rfl ?_);refine bn_ (cs:=#[.int .i64 0,.int .i64 0,.int .i64 0,.int .i64 0,.int .i64 0,.slice none 0 0]) (t:=30) HB ?_;intro h0 w9 hg hb d0 R0 hB_;have e0:=bl_ b0 hg;have m0:=bg_ b0 hg;replace b0:=bb_ b0 hb;replace HB:=hB_;clear hb hB_ hg;obtain⟨d5,e5⟩:=ns_ e0;obtain⟨v2,w2,x2,y2,A2,B2,C2,D2,F2,G2,H2,I2⟩:=b6_ b0)|((with_reducible refine gc_ 61 rfl ?_);refine gl_ 16 Tryz.func61 #[.agg #[.int .i64 t0,.int .i64 v0,.slice y0 q0.length A0]] ?_;(with_reducible refine(impl_copyLog.calls t0 v0 _ _ q0 r0 s0 p0 _ ?side1 ?side2 A3.out).mono ?_);(case side1=>exact Kd.C_below K0.out (bw_ HB));(case side2=>exact L0.out);rintro e P5 ⟨Z0,rfl,U0,hb⟩;refine⟨_,rfl,?_⟩;have g0:=mk_ (Kd.R_lower U0 (below_size (bw_ HB)));replace b0:=bU_ b0 #[.int .i64 (wrap64 (a0+1)),.int .i64 n0,.int .i64 o0,.int .i64 t0,.int .i64 v0,.slice y0 q0.length A0] hb;replace d0:=bq_ d0 hb;replace HB:=bs_ HB hb;(try clear hb);(try clear hk);(try clear U0);obtain⟨J2,K2,L2,M2,N2,O2,P2,Q2,R2,U2,V2,W2⟩:=b6_ b0;obtain⟨b1,X0,W4⟩:=Kd.R_slice g0.out;subst W4)|((with_reducible refine gc_ 62 rfl ?_);refine gx_ 20 Tryz.func62 #[.agg #[.int .i64 (wrap64 (a0+1)),.int .i64 n0,.int .i64 o0,.int .i64 r0,.int .i64 s0,.slice b1 p0.length X0]] (impl_JournalText.calls k (wrap64 (a0+1)) n0 o0 r0 s0 _ _ p0 C0 true _ ?side1 ?side2 A4.out) ?_;(case side1=>refine(Kd.R_reads' (e:=105) (base:=w.heap.size) (ok:=fun k_=>True) (n:=p0.length) (c:=X0) ?_).2.2;exact(rg_ g0 b0));(case side2=>exact(Kd.R_reads' g0.out).2.1);rintro Q5 hb;replace g0:=mk_ (Kd.R_below (rg_ g0 b0) hb);replace b0:=bU_ b0 #[.int .i64 (wrap64 (a0+1)),.int .i64 n0,.int .i64 o0,.int .i64 r0,.int .i64 s0,.slice b1 p0.length X0] hb;replace d0:=bq_ d0 hb;replace HB:=bs_ HB hb;(try clear hb);(try clear hk);obtain⟨X2,Y2,Z2,a3,b3,d3,e3,g3,h3,j3,l3,m3⟩:=b6_ b0)|((with_reducible refine gc_ 29 rfl ?_);refine gm_ 25 Tryz.func29 (impl_JournalName.calls (wrap64 (a0+1)) B0 _ (tab11 HT HB) A5.out) ?_;rintro R5 hb;replace g0:=rb_ g0 hb;replace b0:=bb_ b0 hb;replace d0:=bb_ d0 hb;replace HB:=bs_ HB hb;(try clear hb);(try clear hk);obtain⟨n3,o3,q3,s3,t3,v3,w3,x3,y3,C3,D3,F3⟩:=b6_ d0))
  refine bodyPost_ret (results_list (rs:=[.tmp 4,.cell 5 30,.tmp 6]) rfl (by simp) (.tmp (.cell h0 30 #[.int .i64 0,.int .i64 0,.int .i64 0,.int .i64 0,.int .i64 0,.slice none 0 0] (0,0) _ rfl bu_ Tryz.underlying30 rfl (by kernel_rfl) (.tmp .nil)))) rfl ?_
  exact⟨_,_,er_,by first|exact Kd.R_nil _ _ _ _ _|exact Kd.N_nil _ _ _ _ _|exact Kd.V_nil _ _ _ _ _|exact Kd.Q_nil _ _ _ _ _|exact Kd.S_nil _ _ _ _ _,by first|exact Kd.R_nil _ _ _ _ _|exact Kd.N_nil _ _ _ _ _|exact Kd.V_nil _ _ _ _ _|exact Kd.Q_nil _ _ _ _ _|exact Kd.S_nil _ _ _ _ _,bw_ HB⟩
 rw [if_neg c7] at H
 have U4:=beq_eq_false_iff_ne.mpr c7
 have V4:=bne_iff_ne.mpr c7
 obtain⟨F0,w5,H⟩:=ob_ H
 try dsimp only at H
 obtain⟨x5,M0⟩:∃y_:List (S57),y_=(([(⟨1,(⟨#[106,43]⟩:ByteArray),C0,(⟨#[]⟩:ByteArray)⟩:S57),(⟨2,(⟨#[106,43]⟩:ByteArray),(⟨#[]⟩:ByteArray),(⟨#[]⟩:ByteArray)⟩:S57),(⟨3,(⟨#[106,43]⟩:ByteArray),(⟨#[]⟩:ByteArray),B0⟩:S57),(⟨4,F0,(⟨#[]⟩:ByteArray),(⟨#[]⟩:ByteArray)⟩:S57)]:List (S57))):=⟨_,rfl⟩
 rw [←M0] at H
 have V0:=Aside0.mk M0
 clear M0
 simp only [Option.some.injEq,Prod.mk.injEq] at H
 obtain⟨rfl,rfl,rfl,rfl,rfl,rfl,rfl,rfl⟩:=H
 go_enter Tryz.func31,Tryz.ntmps31
 try go_wp2_with (first|((with_reducible refine gn_ 3 rfl ?_);refine bv_ (cs:=#[.int .i64 J0,.int .i64 n0,.int .i64 o0,.int .i64 t0,.int .i64 v0,.slice y0 q0.length A0]) (t:=30) HB ?_;clear HB;intro x0 U5 b0 Q0 HB)|((with_reducible refine gn_ 5 rfl ?_);refine bn_ (cs:=#[.int .i64 0,.int .i64 0,.int .i64 0,.int .i64 0,.int .i64 0,.slice none 0 0]) (t:=30) HB ?_;intro h0 V5 hg hb d0 R0 hB_;have e0:=bl_ b0 hg;have m0:=bg_ b0 hg;replace b0:=bb_ b0 hb;replace HB:=hB_;clear hb hB_ hg;obtain⟨g5,h5⟩:=ns_ e0;obtain⟨G3,H3,I3,J3,K3,L3,M3,N3,O3,P3,Q3,R3⟩:=b6_ b0)|((with_reducible refine gc_ 61 rfl ?_);refine gl_ 16 Tryz.func61 #[.agg #[.int .i64 t0,.int .i64 v0,.slice y0 q0.length A0]] ?_;(with_reducible refine(impl_copyLog.calls t0 v0 _ _ q0 r0 s0 p0 _ ?side1 ?side2 A3.out).mono ?_);(case side1=>exact Kd.C_below K0.out (bw_ HB));(case side2=>exact L0.out);rintro e W5 ⟨Z0,rfl,U0,hb⟩;refine⟨_,rfl,?_⟩;have g0:=mk_ (Kd.R_lower U0 (below_size (bw_ HB)));replace b0:=bU_ b0 #[.int .i64 (wrap64 (a0+1)),.int .i64 n0,.int .i64 o0,.int .i64 t0,.int .i64 v0,.slice y0 q0.length A0] hb;replace d0:=bq_ d0 hb;replace HB:=bs_ HB hb;(try clear hb);(try clear hk);(try clear U0);obtain⟨U3,V3,W3,X3,Y3,Z3,a4,b4,d4,e4,g4,h4⟩:=b6_ b0;obtain⟨I0,G0,X4⟩:=Kd.R_slice g0.out;subst X4)|((with_reducible refine gc_ 62 rfl ?_);refine gx_ 20 Tryz.func62 #[.agg #[.int .i64 (wrap64 (a0+1)),.int .i64 n0,.int .i64 o0,.int .i64 r0,.int .i64 s0,.slice I0 p0.length G0]] (impl_JournalText.calls k (wrap64 (a0+1)) n0 o0 r0 s0 _ _ p0 C0 true _ ?side1 ?side2 A4.out) ?_;(case side1=>refine(Kd.R_reads' (e:=105) (base:=w.heap.size) (ok:=fun k_=>True) (n:=p0.length) (c:=G0) ?_).2.2;exact(rg_ g0 b0));(case side2=>exact(Kd.R_reads' g0.out).2.1);rintro X5 hb;replace g0:=mk_ (Kd.R_below (rg_ g0 b0) hb);replace b0:=bU_ b0 #[.int .i64 (wrap64 (a0+1)),.int .i64 n0,.int .i64 o0,.int .i64 r0,.int .i64 s0,.slice I0 p0.length G0] hb;replace d0:=bq_ d0 hb;replace HB:=bs_ HB hb;(try clear hb);(try clear hk);obtain⟨j4,l4,m4,o4,q4,s4,t4,v4,w4,x4,y4,C4⟩:=b6_ b0)|((with_reducible refine gc_ 29 rfl ?_);refine gm_ 25 Tryz.func29 (impl_JournalName.calls (wrap64 (a0+1)) B0 _ (tab11 HT HB) A5.out) ?_;rintro Y5 hb;replace g0:=rb_ g0 hb;replace b0:=bb_ b0 hb;replace d0:=bb_ d0 hb;replace HB:=bs_ HB hb;(try clear hb);(try clear hk))|((with_reducible refine gc_ 29 rfl ?_);refine gm_ 39 Tryz.func29 (impl_JournalName.calls a0 F0 _ (tab11 HT HB) w5.out) ?_;rintro Z5 hb;replace g0:=rb_ g0 hb;replace b0:=bb_ b0 hb;replace d0:=bb_ d0 hb;replace HB:=bs_ HB hb;(try clear hb);(try clear hk))|((with_reducible refine gn_ 41 rfl ?_);refine Kd.R_lit k57 _ 57 ?hg (N:=41) ?hd (xs:=([(⟨1,(⟨#[106,43]⟩:ByteArray),C0,(⟨#[]⟩:ByteArray)⟩:S57),(⟨2,(⟨#[106,43]⟩:ByteArray),(⟨#[]⟩:ByteArray),(⟨#[]⟩:ByteArray)⟩:S57),(⟨3,(⟨#[106,43]⟩:ByteArray),(⟨#[]⟩:ByteArray),B0⟩:S57),(⟨4,F0,(⟨#[]⟩:ByteArray),(⟨#[]⟩:ByteArray)⟩:S57)]:List (S57))) (inner:=[.int .i64 1,.string (⟨#[106,43]⟩:ByteArray),.string C0,.string (⟨#[]⟩:ByteArray),.int .i64 2,.string (⟨#[106,43]⟩:ByteArray),.string (⟨#[]⟩:ByteArray),.string (⟨#[]⟩:ByteArray),.int .i64 3,.string (⟨#[106,43]⟩:ByteArray),.string (⟨#[]⟩:ByteArray),.string B0,.int .i64 4,.string F0,.string (⟨#[]⟩:ByteArray),.string (⟨#[]⟩:ByteArray)]) (ok:=fun _=>True) (okp:=fun _=>True) ?hr ?hp (fun _ hk=>hk) trivial (Below.refl _ _) (Nat.le_refl _) (by simp) ?_;(case hd=>rfl);(case hg=>rfl);(case hr=>first|(go_simp;done)|(go_simp;rfl));(case hp=>exact(Reps.c4 (show Kd.M k57 _ _ _ (⟨1,(⟨#[106,43]⟩:ByteArray),C0,(⟨#[]⟩:ByteArray)⟩:S57) [.int .i64 1,.string (⟨#[106,43]⟩:ByteArray),.string C0,.string (⟨#[]⟩:ByteArray)] from(k57_mkM _ _ _ (⟨1,(⟨#[106,43]⟩:ByteArray),C0,(⟨#[]⟩:ByteArray)⟩:S57))) (Reps.c4 (show Kd.M k57 _ _ _ (⟨2,(⟨#[106,43]⟩:ByteArray),(⟨#[]⟩:ByteArray),(⟨#[]⟩:ByteArray)⟩:S57) [.int .i64 2,.string (⟨#[106,43]⟩:ByteArray),.string (⟨#[]⟩:ByteArray),.string (⟨#[]⟩:ByteArray)] from(k57_mkM _ _ _ (⟨2,(⟨#[106,43]⟩:ByteArray),(⟨#[]⟩:ByteArray),(⟨#[]⟩:ByteArray)⟩:S57))) (Reps.c4 (show Kd.M k57 _ _ _ (⟨3,(⟨#[106,43]⟩:ByteArray),(⟨#[]⟩:ByteArray),B0⟩:S57) [.int .i64 3,.string (⟨#[106,43]⟩:ByteArray),.string (⟨#[]⟩:ByteArray),.string B0] from(k57_mkM _ _ _ (⟨3,(⟨#[106,43]⟩:ByteArray),(⟨#[]⟩:ByteArray),B0⟩:S57))) (Reps.c4 (show Kd.M k57 _ _ _ (⟨4,F0,(⟨#[]⟩:ByteArray),(⟨#[]⟩:ByteArray)⟩:S57) [.int .i64 4,.string F0,.string (⟨#[]⟩:ByteArray),.string (⟨#[]⟩:ByteArray)] from(k57_mkM _ _ _ (⟨4,F0,(⟨#[]⟩:ByteArray),(⟨#[]⟩:ByteArray)⟩:S57))) (Reps.none _ _))))));intro y5 C5 N0 hb hg_ hnew_;clear hg_ hnew_;(first|rw [←V0.out] at N0|(simp only [Int.reduceToNat] at N0;rw [←V0.out] at N0));have H0:=mk_ (Kd.R_lower N0 (below_size (bw_ HB)));replace g0:=rb_ g0 hb;replace b0:=bb_ b0 hb;replace d0:=bb_ d0 hb;replace HB:=bs_ HB hb;clear hb N0))
 replace g0:=rd_ g0;replace H0:=rd_ H0;replace b0:=kd_ b0;replace d0:=kd_ d0;replace HB:=wd_ HB
 refine start_ (n:=5) (S:=fun w'=>w'.cell? ⟨x0,0,none⟩=some (.int .i64 (wrap64 (a0+1)))∧w'.cell? ⟨x0,1,none⟩=some (.int .i64 n0)∧w'.cell? ⟨x0,2,none⟩=some (.int .i64 o0)∧w'.cell? ⟨x0,3,none⟩=some (.int .i64 r0)∧w'.cell? ⟨x0,4,none⟩=some (.int .i64 s0)∧w'.cell? ⟨x0,5,none⟩=some (.slice I0 p0.length G0)) (ds:=[]) #[false,false,false,false,false] (by kernel_rfl) rfl rfl ⟨bc_ b0 0,bc_ b0 1,bc_ b0 2,bc_ b0 3,bc_ b0 4,bc_ b0 5⟩ (fun hHeld=>?_)
 generalize C5.drew=Y0 at g0 H0 b0 d0 HB hHeld⊢
 refine pv_ 0 42 ?_
 refine pv_ 2 4 ?_
 refine tv_ 1 43 hHeld ?_
 refine one_ (i:=3) (N:=none) #[true,true,true,true,false] rfl rfl (by kernel_rfl) (by decide) (fun K hK=>?_)
 have D5:Y0.cell? ⟨h0,0,none⟩=some (.int .i64 0):=bc_ d0 0
 have j5:=blk_frozen d0.out 0
 have D4:=e0.out
 have F4:=m0.out
 have F5:Y0.cell? ⟨h0,1,none⟩=some (.int .i64 0):=bc_ d0 1
 have l5:=blk_frozen d0.out 1
 have G4:=e0.out
 have H4:=m0.out
 have G5:Y0.cell? ⟨h0,2,none⟩=some (.int .i64 0):=bc_ d0 2
 have m5:=blk_frozen d0.out 2
 have I4:=e0.out
 have J4:=m0.out
 have H5:Y0.cell? ⟨h0,3,none⟩=some (.int .i64 0):=bc_ d0 3
 have o5:=blk_frozen d0.out 3
 have K4:=e0.out
 have L4:=m0.out
 have I5:Y0.cell? ⟨h0,4,none⟩=some (.int .i64 0):=bc_ d0 4
 have p5:=blk_frozen d0.out 4
 have M4:=e0.out
 have N4:=m0.out
 have J5:Y0.cell? ⟨h0,5,none⟩=some (.slice none 0 0):=bc_ d0 5
 have q5:=blk_frozen d0.out 5
 have O4:=e0.out
 have P4:=m0.out
 refine skip_ (w1:=?_) (by rfl) rfl ?_ ?_
 rotate_left
 ·go_simp
  rfl
 refine hK.out _ _ ⟨(cf_ e0 hHeld.1),(cf_ e0 hHeld.2.1),(cf_ e0 hHeld.2.2.1),(cf_ e0 hHeld.2.2.2.1),(cf_ e0 hHeld.2.2.2.2.1),(cf_ e0 hHeld.2.2.2.2.2)⟩ (fun hHeld=>?_)
 clear hK K
 refine pv_ 4 6 ?_
 refine done_ (by kernel_rfl) ?_
 try go_wp2
 refine bodyPost_ret (results_list (rs:=[.tmp 4,.cell 5 30,.tmp 6]) rfl (by simp) (.tmp (.cell h0 30 #[.int .i64 (wrap64 (a0+1)),.int .i64 n0,.int .i64 o0,.int .i64 r0,.int .i64 s0,.slice I0 p0.length G0] (0,0) _ rfl bu_ Tryz.underlying30 rfl (by kernel_rfl) (.tmp .nil)))) rfl ?_
 exact⟨_,_,er_,rq_ (Kd.R_mono (Kd.R_far (p:=⟨h0,5,none⟩) (Kd.R_far (p:=⟨h0,4,none⟩) (Kd.R_far (p:=⟨h0,3,none⟩) (Kd.R_far (p:=⟨h0,2,none⟩) (Kd.R_far (p:=⟨h0,1,none⟩) (Kd.R_far (p:=⟨h0,0,none⟩) (Kd.R_types H0.out d0.out (by decide)) (fun _ hk=>hk.2) (.int .i64 (wrap64 (a0+1)))) (fun _ hk=>hk.2) (.int .i64 n0)) (fun _ hk=>hk.2) (.int .i64 o0)) (fun _ hk=>hk.2) (.int .i64 r0)) (fun _ hk=>hk.2) (.int .i64 s0)) (fun _ hk=>hk.2) (.slice I0 p0.length G0)) (fun _ hk=>trivial)),rq_ (Kd.R_mono (Kd.R_far (p:=⟨h0,5,none⟩) (Kd.R_far (p:=⟨h0,4,none⟩) (Kd.R_far (p:=⟨h0,3,none⟩) (Kd.R_far (p:=⟨h0,2,none⟩) (Kd.R_far (p:=⟨h0,1,none⟩) (Kd.R_far (p:=⟨h0,0,none⟩) (Kd.R_types g0.out d0.out (by decide)) (fun _ hk=>hk.2) (.int .i64 (wrap64 (a0+1)))) (fun _ hk=>hk.2) (.int .i64 n0)) (fun _ hk=>hk.2) (.int .i64 o0)) (fun _ hk=>hk.2) (.int .i64 r0)) (fun _ hk=>hk.2) (.int .i64 s0)) (fun _ hk=>hk.2) (.slice I0 p0.length G0)) (fun _ hk=>trivial)),bw_ HB⟩
end Go.Proofs.YtolakamimfhcjaaGreatDoor.QFnExactOpenJournal
