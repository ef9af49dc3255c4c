/- Written by this session's own program: what the law's functions come to, and that the machine's calls do just that. -/
import Derived.Test.YtolakamimfhcjaaGreatDoorQFnExactOpenJournalx9
namespace Go.Proofs.YtolakamimfhcjaaGreatDoor.QFnExactOpenJournal
open Go.RowKit Go.Proofs.YtolakamimfhcjaaGreatDoorW.PrintWords Go.Proofs.YtolakamimfhcjaaGreatDoorW.PrintLast Go.Proofs.YtolakamimfhcjaaGreatDoorW.PrintMore
attribute [local go_sem] Go.Proofs.YtolakamimfhcjaaGreatDoor.Sem.string_geq Go.Proofs.YtolakamimfhcjaaGreatDoor.Sem.string_leq Go.Proofs.YtolakamimfhcjaaGreatDoor.Sem.string_gtr
attribute [local go_sem] max2_int min2_int max_two min_two max_three min_three max_four min_four
set_option linter.unusedVariables false
set_option linter.unusedSimpArgs false
set_option maxHeartbeats 8000000
set_option maxRecDepth 100000
def spec_l07Anew.f (k:Nat) (b0:Int) (q0:Int) (r0:Int) (s0:Int) (t0:Int) (v0:List (S105)) (x0:Int) (e0:Int) (g0:Int) (h0:Int) (m0:Int) (n0:List (S105)):Option ((List (S57)) × Int × Int × Int × Int × Int × (List (S105)) × Bool):=(spec_JournalText.f k (wrap64 (b0+1)) e0 g0 h0 m0 n0).bind fun d0=>(if d0.2=true then((spec_JournalName.f k (wrap64 (b0+1))).bind fun o0=>((spec_JournalName.f k b0).bind fun p0=>((spec_l07Copy.f (wrap64 (b0+1)) e0 g0 h0 m0 n0).bind fun a0=>(some ((([(⟨1,(⟨#[106,43]⟩:ByteArray),d0.1,(⟨#[]⟩:ByteArray)⟩:S57),(⟨2,(⟨#[106,43]⟩:ByteArray),(⟨#[]⟩:ByteArray),(⟨#[]⟩:ByteArray)⟩:S57),(⟨3,(⟨#[106,43]⟩:ByteArray),(⟨#[]⟩:ByteArray),o0⟩:S57),(⟨4,p0,(⟨#[]⟩:ByteArray),(⟨#[]⟩:ByteArray)⟩:S57)]:List (S57))),a0.1,a0.2.1,a0.2.2.1,a0.2.2.2.1,a0.2.2.2.2.1,a0.2.2.2.2.2,true))))) else(some ((([]:List (S57))),0,0,0,0,0,([]:List (S105)),false)))
def spec_l07Anew.T5:Bool × List (List Nat × List Nat):=(true,[([],[]),([0],[0]),([],[]),([],[]),([3],[3]),([4],[4]),([5],[5]),([],[]),([7],[7]),([8,5],[8]),([9],[9]),([1,2,6,10],[1,2,6,10]),([],[]),([12,9],[12]),([11,13,0,1,2,3,4,5,6,7,8,9,10,11],[11]),([13,14,0,1,2,3,4,5,6,7,8,9,10,11,12,13,14],[13]),([15,0,1,2,3,4,5,6,7,8,9,10,11,12,13,14,15],[])])
def spec_l07Anew.B5:List Nat:=[0,1,0,0,8,24,56,0,128,440,952,2047,0,5048,16383,32767,65535]
theorem spec_l07Anew.tab5:rtab .any (opsOf Tryz.f24 5)=spec_l07Anew.T5:=by kernel_rfl
theorem spec_l07Anew.bits5:waitsOk spec_l07Anew.T5.2 spec_l07Anew.B5=true:=by kernel_rfl
theorem spec_l07Anew.calls (k:Nat) (F0:Int) (t1:Int) (v1:Int) (x1:Int) (y1:Int) (A1:Option Addr) (C1:Nat) (g1:List (S105)) (I1:Int) (N0:Int) (O0:Int) (P0:Int) (Q0:Int) (R0:Option Addr) (U0:Nat) (M0:List (S105)) (r1:List (S57)) (r2:Int) (r3:Int) (r4:Int) (r5:Int) (r6:Int) (r7:List (S105)) (r8:Bool) (w:World) (W1:Kd.C k105 w A1 g1.length g1) (X1:g1.length≤C1) (Y1:Kd.C k105 w R0 M0.length M0) (Z1:M0.length≤U0) (h:spec_l07Anew.f k F0 t1 v1 x1 y1 g1 I1 N0 O0 P0 Q0 M0=some (r1,r2,r3,r4,r5,r6,r7,r8)):
  Calls Tryz.prog 24 #[.agg #[.int .i64 F0,.int .i64 t1,.int .i64 v1,.int .i64 x1,.int .i64 y1,.slice A1 g1.length C1],.agg #[.int .i64 I1,.int .i64 N0,.int .i64 O0,.int .i64 P0,.int .i64 Q0,.slice R0 M0.length U0]] w fun e w'=>∃W5 X5:Value,e= .returned (.tuple #[W5,.agg #[.int .i64 r2,.int .i64 r3,.int .i64 r4,.int .i64 r5,.int .i64 r6,X5],.bool r8])∧Kd.R k57 57 w' w.heap.size (fun _=>True) W5 r1∧Kd.R k105 105 w' w.heap.size (fun _=>True) X5 r7∧Below w.heap.size w w':=by
 have Y6:=Tryz.underlying30
 have Z6:=Tryz.underlying28
 have a7:=Tryz.underlying57
 have Y5:=Aside0.mk W1
 have Z5:=Aside0.mk X1
 clear W1 X1
 have J1:=Aside0.mk Y1
 have K1:=Aside0.mk Z1
 clear Y1 Z1
 have HB:=mk_ (Below.refl w.heap.size w)
 have H:=h
 unfold spec_l07Anew.f at H
 clear h
 obtain⟨⟨Y0,R5⟩,A3,H⟩:=ob_ H
 try dsimp only at H
 by_cases c4:R5=true
 rotate_left
 ·replace c4:=Bool.eq_false_iff.mpr c4
  subst c4
  rw [if_neg (show ¬(false=true) by decide)] at H
  obtain⟨U5,L1⟩:∃y_:List (S57),y_=(([]:List (S57))):=⟨_,rfl⟩
  replace H:(some (U5,0,0,0,0,0,([]:List (S105)),false))=some (r1,r2,r3,r4,r5,r6,r7,r8):=by first|(rw [L1];with_reducible exact H)|with_reducible exact H
  have a2:=Aside0.mk L1
  clear L1
  simp only [Option.some.injEq,Prod.mk.injEq] at H
  obtain⟨rfl,rfl,rfl,rfl,rfl,rfl,rfl,rfl⟩:=H
  go_enter Tryz.func24,Tryz.ntmps24
  go_wp2_with (first|((with_reducible refine gn_ 2 rfl ?_);refine bv_ (cs:=#[.int .i64 F0,.int .i64 t1,.int .i64 v1,.int .i64 x1,.int .i64 y1,.slice A1 g1.length C1]) (t:=30) HB ?_;clear HB;intro V0 w7 a0 n2 HB)|((with_reducible refine gn_ 3 rfl ?_);refine bn_ (cs:=#[.int .i64 I1,.int .i64 N0,.int .i64 O0,.int .i64 P0,.int .i64 Q0,.slice R0 M0.length U0]) (t:=30) HB ?_;intro b2 x7 hg hb m0 o2 hB_;have Z0:=bl_ a0 hg;have D1:=bg_ a0 hg;replace a0:=bb_ a0 hb;replace HB:=hB_;clear hb hB_ hg)|((with_reducible refine gn_ 5 rfl ?_);refine bn_ (cs:=#[.int .i64 0,.int .i64 0,.int .i64 0,.int .i64 0,.int .i64 0,.slice none 0 0]) (t:=30) HB ?_;intro s0 y7 hg hb g0 q2 hB_;have A0:=bl_ a0 hg;have I0:=bg_ a0 hg;have B0:=bl_ m0 hg;have J0:=bg_ m0 hg;replace a0:=bb_ a0 hb;replace m0:=bb_ m0 hb;replace HB:=hB_;clear hb hB_ hg;obtain⟨a6,b6⟩:=ns_ Z0;obtain⟨d6,e6⟩:=ns_ A0;obtain⟨N2,O2,P2,Q2,R2,U2,V2,W2,X2,Y2,Z2,a3⟩:=b6_ a0;obtain⟨g6,h6⟩:=ns_ B0;obtain⟨b3,d3,e3,g3,h3,j3,l3,m3,n3,o3,q3,s3⟩:=b6_ m0)|((with_reducible refine gn_ 7 rfl ?_);refine bn_ (cs:=#[.int .i64 0,.int .i64 0,.int .i64 0,.int .i64 0,.int .i64 0,.slice none 0 0]) (t:=30) HB ?_;intro L0 C7 hg hb o0 s2 hB_;have F1:=bl_ a0 hg;have a1:=bg_ a0 hg;have G1:=bl_ m0 hg;have b1:=bg_ m0 hg;have K0:=bl_ g0 hg;have C0:=bg_ g0 hg;replace a0:=bb_ a0 hb;replace m0:=bb_ m0 hb;replace g0:=bb_ g0 hb;replace HB:=hB_;clear hb hB_ hg;obtain⟨j6,l6⟩:=ns_ a1;obtain⟨m6,o6⟩:=ns_ b1;obtain⟨p6,q6⟩:=ns_ C0;obtain⟨t3,v3,w3,x3,y3,C3,D3,F3,G3,H3,I3,J3⟩:=b6_ o0)|((with_reducible refine gc_ 49 rfl ?_);refine gx_ 22 Tryz.func49 #[.agg #[.int .i64 (wrap64 (F0+1)),.int .i64 N0,.int .i64 O0,.int .i64 P0,.int .i64 Q0,.slice R0 M0.length U0]] (spec_JournalText.calls k (wrap64 (F0+1)) N0 O0 P0 Q0 _ _ M0 Y0 false _ ?side1 ?side2 A3.out) ?_;(case side1=>exact Kd.C_below J1.out (bw_ HB));(case side2=>exact K1.out);rintro D7 hb;replace a0:=bq_ a0 hb;replace m0:=bq_ m0 hb;replace g0:=bq_ g0 hb;replace o0:=bU_ o0 #[.int .i64 (wrap64 (F0+1)),.int .i64 N0,.int .i64 O0,.int .i64 P0,.int .i64 Q0,.slice R0 M0.length U0] hb;replace HB:=bs_ HB hb;(try clear hb);(try clear hk))|((with_reducible refine gn_ 27 rfl ?_);refine Kd.R_lit k57 _ 57 ?hg (N:=27) ?hd (xs:=([]:List (S57))) (inner:=[]) (ok:=fun _=>True) (okp:=fun _=>True) ?hr ?hp (fun _ hk=>hk) trivial (Below.refl _ _) (Nat.le_refl _) (by simp) ?_;(case hd=>rfl);(case hg=>rfl);(case hr=>first|(go_simp;done)|(go_simp;rfl));(case hp=>exact(Reps.none _ _));intro b7 F7 M1 hb hg_ hnew_;clear hg_ hnew_;(first|rw [←a2.out] at M1|(simp only [Int.reduceToNat] at M1;rw [←a2.out] at M1));have t2:=mk_ (Kd.R_lower M1 (below_size (bw_ HB)));replace a0:=bb_ a0 hb;replace m0:=bb_ m0 hb;replace g0:=bb_ g0 hb;replace o0:=bb_ o0 hb;replace HB:=bs_ HB hb;clear hb M1;obtain⟨K3,L3,M3,N3,O3,P3,Q3,R3,U3,V3,W3,X3⟩:=b6_ g0))
  refine bodyPost_ret (results_list (rs:=[.tmp 4,.cell 5 30,.tmp 6]) rfl (by simp) (.tmp (.cell s0 30 #[.int .i64 0,.int .i64 0,.int .i64 0,.int .i64 0,.int .i64 0,.slice none 0 0] (0,0) _ rfl bu_ Tryz.underlying30 rfl (by kernel_rfl) (.tmp .nil)))) rfl ?_
  exact⟨_,_,er_,rq_ (Kd.R_mono (Kd.R_far (p:=⟨s0,5,none⟩) (Kd.R_far (p:=⟨s0,4,none⟩) (Kd.R_far (p:=⟨s0,3,none⟩) (Kd.R_far (p:=⟨s0,2,none⟩) (Kd.R_far (p:=⟨s0,1,none⟩) (Kd.R_far (p:=⟨s0,0,none⟩) (Kd.R_types t2.out g0.out (by decide)) (fun _ hk=>hk.2) (.int .i64 0)) (fun _ hk=>hk.2) (.int .i64 0)) (fun _ hk=>hk.2) (.int .i64 0)) (fun _ hk=>hk.2) (.int .i64 0)) (fun _ hk=>hk.2) (.int .i64 0)) (fun _ hk=>hk.2) (.slice none 0 0)) (fun _ hk=>trivial)),by first|exact Kd.R_nil _ _ _ _ _|exact Kd.N_nil _ _ _ _ _|exact Kd.V_nil _ _ _ _ _|exact Kd.Q_nil _ _ _ _ _|exact Kd.S_nil _ _ _ _ _,bw_ HB⟩
 subst c4
 rw [if_pos rfl] at H
 obtain⟨W0,A5,H⟩:=ob_ H
 try dsimp only at H
 obtain⟨X0,A6,H⟩:=ob_ H
 try dsimp only at H
 obtain⟨v2,N1⟩:∃y_:List (S57),y_=(([(⟨1,(⟨#[106,43]⟩:ByteArray),Y0,(⟨#[]⟩:ByteArray)⟩:S57),(⟨2,(⟨#[106,43]⟩:ByteArray),(⟨#[]⟩:ByteArray),(⟨#[]⟩:ByteArray)⟩:S57),(⟨3,(⟨#[106,43]⟩:ByteArray),(⟨#[]⟩:ByteArray),W0⟩:S57),(⟨4,X0,(⟨#[]⟩:ByteArray),(⟨#[]⟩:ByteArray)⟩:S57)]:List (S57))):=⟨_,rfl⟩
 rw [←N1] at H
 have d2:=Aside0.mk N1
 clear N1
 obtain⟨⟨m1,n1,o1,p1,q1,H1⟩,A7,H⟩:=ob_ H
 try dsimp only at H
 simp only [Option.some.injEq,Prod.mk.injEq] at H
 obtain⟨rfl,rfl,rfl,rfl,rfl,rfl,rfl,rfl⟩:=H
 go_enter Tryz.func24,Tryz.ntmps24
 try go_wp2_with (first|((with_reducible refine gn_ 2 rfl ?_);refine bv_ (cs:=#[.int .i64 F0,.int .i64 t1,.int .i64 v1,.int .i64 x1,.int .i64 y1,.slice A1 g1.length C1]) (t:=30) HB ?_;clear HB;intro V0 w8 a0 n2 HB)|((with_reducible refine gn_ 3 rfl ?_);refine bn_ (cs:=#[.int .i64 I1,.int .i64 N0,.int .i64 O0,.int .i64 P0,.int .i64 Q0,.slice R0 M0.length U0]) (t:=30) HB ?_;intro b2 w9 hg hb m0 o2 hB_;have Z0:=bl_ a0 hg;have D1:=bg_ a0 hg;replace a0:=bb_ a0 hb;replace HB:=hB_;clear hb hB_ hg)|((with_reducible refine gn_ 5 rfl ?_);refine bn_ (cs:=#[.int .i64 0,.int .i64 0,.int .i64 0,.int .i64 0,.int .i64 0,.slice none 0 0]) (t:=30) HB ?_;intro s0 G7 hg hb g0 q2 hB_;have A0:=bl_ a0 hg;have I0:=bg_ a0 hg;have B0:=bl_ m0 hg;have J0:=bg_ m0 hg;replace a0:=bb_ a0 hb;replace m0:=bb_ m0 hb;replace HB:=hB_;clear hb hB_ hg;obtain⟨s6,t6⟩:=ns_ Z0;obtain⟨v6,w6⟩:=ns_ A0;obtain⟨Y3,Z3,a4,b4,d4,e4,g4,h4,j4,l4,m4,o4⟩:=b6_ a0;obtain⟨x6,y6⟩:=ns_ B0;obtain⟨q4,s4,t4,v4,w4,x4,y4,A4,C4,D4,F4,G4⟩:=b6_ m0)|((with_reducible refine gn_ 7 rfl ?_);refine bn_ (cs:=#[.int .i64 0,.int .i64 0,.int .i64 0,.int .i64 0,.int .i64 0,.slice none 0 0]) (t:=30) HB ?_;intro L0 H7 hg hb o0 s2 hB_;have F1:=bl_ a0 hg;have a1:=bg_ a0 hg;have G1:=bl_ m0 hg;have b1:=bg_ m0 hg;have K0:=bl_ g0 hg;have C0:=bg_ g0 hg;replace a0:=bb_ a0 hb;replace m0:=bb_ m0 hb;replace g0:=bb_ g0 hb;replace HB:=hB_;clear hb hB_ hg;obtain⟨C6,D6⟩:=ns_ a1;obtain⟨F6,G6⟩:=ns_ b1;obtain⟨H6,I6⟩:=ns_ C0;obtain⟨H4,I4,J4,K4,L4,M4,N4,O4,P4,Q4,R4,U4⟩:=b6_ o0)|((with_reducible refine gc_ 49 rfl ?_);refine gx_ 22 Tryz.func49 #[.agg #[.int .i64 (wrap64 (F0+1)),.int .i64 N0,.int .i64 O0,.int .i64 P0,.int .i64 Q0,.slice R0 M0.length U0]] (spec_JournalText.calls k (wrap64 (F0+1)) N0 O0 P0 Q0 _ _ M0 Y0 true _ ?side1 ?side2 A3.out) ?_;(case side1=>exact Kd.C_below J1.out (bw_ HB));(case side2=>exact K1.out);rintro d7 hb;replace a0:=bq_ a0 hb;replace m0:=bq_ m0 hb;replace g0:=bq_ g0 hb;replace o0:=bU_ o0 #[.int .i64 (wrap64 (F0+1)),.int .i64 N0,.int .i64 O0,.int .i64 P0,.int .i64 Q0,.slice R0 M0.length U0] hb;replace HB:=bs_ HB hb;(try clear hb)))
 replace a0:=kd_ a0;replace m0:=kd_ m0;replace g0:=kd_ g0;replace o0:=kd_ o0;replace HB:=wd_ HB
 refine start_ (n:=17) (S:=fun w'=>True) (ds:=[]) #[false,false,false,false,false,false,false,false,false,false,false,false,false,false,false,false,false] (by kernel_rfl) rfl rfl trivial (fun hHeld=>?_);refine with_tabW spec_l07Anew.tab5 spec_l07Anew.bits5 (fun HT_ HW_=>?_)
 generalize d7.drew=I7 at a0 m0 g0 o0 HB hHeld⊢
 refine pv_ 0 29 ?_
 refine pv_ 3 32 ?_
 refine pv_ 7 36 ?_
 refine inv_at [1,2,4,5,6,8,9,10,11,12,13,14,15,16] (fun g7 b a w'=>∃(v0:Value) (x0:Value) (G0:Value) (H0:Value),a=putSel g7 b [(1,30,.agg #[.int .i64 1,.string (⟨#[106,43]⟩:ByteArray),.string Y0,.string (⟨#[]⟩:ByteArray)]),(2,31,.agg #[.int .i64 2,.string (⟨#[106,43]⟩:ByteArray),.string (⟨#[]⟩:ByteArray),.string (⟨#[]⟩:ByteArray)]),(4,33,.int .i64 (wrap64 (F0+1))),(5,34,.string W0),(6,35,.agg #[.int .i64 3,.string (⟨#[106,43]⟩:ByteArray),.string (⟨#[]⟩:ByteArray),.string W0]),(8,37,.int .i64 F0),(9,38,.string X0),(10,39,.agg #[.int .i64 4,.string X0,.string (⟨#[]⟩:ByteArray),.string (⟨#[]⟩:ByteArray)]),(11,40,v0),(12,41,.agg #[.int .i64 (wrap64 (F0+1)),.int .i64 N0,.int .i64 O0,.int .i64 P0,.int .i64 Q0,.slice R0 M0.length U0]),(13,42,G0),(14,4,H0),(16,6,.bool true)]∧(w'.heap[V0]? =some (.cells #[.int .i64 F0,.int .i64 t1,.int .i64 v1,.int .i64 x1,.int .i64 y1,.slice A1 g1.length C1] 30 (0,0)))∧(w'.heap[b2]? =some (.cells #[.int .i64 I1,.int .i64 N0,.int .i64 O0,.int .i64 P0,.int .i64 Q0,.slice R0 M0.length U0] 30 (0,0)))∧(b 15=false→w'.heap[s0]? =some (.cells #[.int .i64 0,.int .i64 0,.int .i64 0,.int .i64 0,.int .i64 0,.slice none 0 0] 30 (0,0)))∧(w'.heap[L0]? =some (.cells #[.int .i64 (wrap64 (F0+1)),.int .i64 N0,.int .i64 O0,.int .i64 P0,.int .i64 Q0,.slice R0 M0.length U0] 30 (0,0)))∧(Below w.heap.size w w')∧(b 11=true→Kd.R k57 57 w' w.heap.size (fun _=>True) v0 v2)∧(b 13=true→Kd.R k105 105 w' w.heap.size (fun _=>True) x0 H1)∧(b 15=true→w'.heap[s0]? =some (.cells #[.int .i64 m1,.int .i64 n1,.int .i64 o1,.int .i64 p1,.int .i64 q1,x0] 30 (0,0)))∧(b 13=true→(G0:Value)= .agg #[.int .i64 m1,.int .i64 n1,.int .i64 o1,.int .i64 p1,.int .i64 q1,x0])∧(b 14=true→(H0:Value)=v0)) HT_.out HW_.out (by kernel_rfl) (by kernel_rfl) ?_ ?_ ?_
 ·exact⟨.bool false,.bool false,.bool false,.bool false,by simp only [putSel,Bool.false_eq_true,if_false],a0.out,m0.out,fun _=>g0.out,o0.out,HB.out,fun h_=>absurd h_ (by decide),fun h_=>absurd h_ (by decide),fun h_=>absurd h_ (by decide),fun h_=>absurd h_ (by decide),fun h_=>absurd h_ (by decide)⟩
 ·skip
  clear a0 m0 g0 o0 HB
  refine steps_cons ?_ ?_
  ·rintro b a w' ⟨v0,x0,G0,H0,ha,b0,d0,h0,e0,Q_HB,q0,p0,n0,r0,y0⟩ hb_ hon hoff
   refine⟨_,rfl,fun K hK=>?_⟩
   have J7:a.tmps[29]? =some (.string Y0):=by rw [ha];exact(putSel_off rfl).trans rfl
   replace ha:=Aside0.mk ha
   have a0:=Aside0.mk b0
   have m0:=Aside0.mk d0
   have g0:=mk_ (h0 (hoff 15 (by kernel_rfl)))
   have o0:=Aside0.mk e0
   have HB:=Aside0.mk Q_HB
   refine value_ (w1:=w') (v:= .agg #[.int .i64 1,.string (⟨#[106,43]⟩:ByteArray),.string Y0,.string (⟨#[]⟩:ByteArray)]) (by rfl) rfl ?_ ?_
   ·go_simp
    (try simp only [i64_w])
    try rfl
   refine hK.out _ _ ⟨v0,x0,G0,H0,(by rw [ha.out];exact putSel_upk 0 hb_ rfl rfl rfl),b0,d0,h0,e0,Q_HB,fun t0=>absurd ((hoff 11 (by kernel_rfl)).symm.trans t0) (by decide),p0,fun t0=>absurd ((hoff 15 (by kernel_rfl)).symm.trans t0) (by decide),r0,fun t0=>absurd ((hoff 14 (by kernel_rfl)).symm.trans t0) (by decide)⟩
  refine steps_cons ?_ ?_
  ·rintro b a w' ⟨v0,x0,G0,H0,ha,b0,d0,h0,e0,Q_HB,q0,p0,n0,r0,y0⟩ hb_ hon hoff
   refine⟨_,rfl,fun K hK=>?_⟩
   replace ha:=Aside0.mk ha
   have a0:=Aside0.mk b0
   have m0:=Aside0.mk d0
   have g0:=mk_ (h0 (hoff 15 (by kernel_rfl)))
   have o0:=Aside0.mk e0
   have HB:=Aside0.mk Q_HB
   refine value_ (w1:=w') (v:= .agg #[.int .i64 2,.string (⟨#[106,43]⟩:ByteArray),.string (⟨#[]⟩:ByteArray),.string (⟨#[]⟩:ByteArray)]) (by rfl) rfl ?_ ?_
   ·go_simp
    (try simp only [i64_w])
    try rfl
   refine hK.out _ _ ⟨v0,x0,G0,H0,(by rw [ha.out];exact putSel_upk 1 hb_ rfl rfl rfl),b0,d0,h0,e0,Q_HB,fun t0=>absurd ((hoff 11 (by kernel_rfl)).symm.trans t0) (by decide),p0,fun t0=>absurd ((hoff 15 (by kernel_rfl)).symm.trans t0) (by decide),r0,fun t0=>absurd ((hoff 14 (by kernel_rfl)).symm.trans t0) (by decide)⟩
  refine steps_cons ?_ ?_
  ·rintro b a w' ⟨v0,x0,G0,H0,ha,b0,d0,h0,e0,Q_HB,q0,p0,n0,r0,y0⟩ hb_ hon hoff
   refine⟨_,rfl,fun K hK=>?_⟩
   have K7:a.tmps[32]? =some (.pointer (some ⟨L0,0,none⟩)):=by rw [ha];exact(putSel_off rfl).trans rfl
   replace ha:=Aside0.mk ha
   have a0:=Aside0.mk b0
   have m0:=Aside0.mk d0
   have g0:=mk_ (h0 (hoff 15 (by kernel_rfl)))
   have o0:=Aside0.mk e0
   have HB:=Aside0.mk Q_HB
   have w2:w'.cell? ⟨L0,0,none⟩=some (.int .i64 (wrap64 (F0+1))):=bc_ o0 0
   have x2:w'.cell? ⟨L0,1,none⟩=some (.int .i64 N0):=bc_ o0 1
   have y2:w'.cell? ⟨L0,2,none⟩=some (.int .i64 O0):=bc_ o0 2
   have A2:w'.cell? ⟨L0,3,none⟩=some (.int .i64 P0):=bc_ o0 3
   have B2:w'.cell? ⟨L0,4,none⟩=some (.int .i64 Q0):=bc_ o0 4
   have C2:w'.cell? ⟨L0,5,none⟩=some (.slice R0 M0.length U0):=bc_ o0 5
   refine value_ (w1:=w') (v:= .int .i64 (wrap64 (F0+1))) (by rfl) rfl ?_ ?_
   ·go_simp
    (try simp only [i64_w])
    try rfl
   refine hK.out _ _ ⟨v0,x0,G0,H0,(by rw [ha.out];exact putSel_upk 2 hb_ rfl rfl rfl),b0,d0,h0,e0,Q_HB,fun t0=>absurd ((hoff 11 (by kernel_rfl)).symm.trans t0) (by decide),fun t0=>absurd ((hoff 13 (by kernel_rfl)).symm.trans t0) (by decide),fun t0=>absurd ((hoff 15 (by kernel_rfl)).symm.trans t0) (by decide),fun t0=>absurd ((hoff 13 (by kernel_rfl)).symm.trans t0) (by decide),fun t0=>absurd ((hoff 14 (by kernel_rfl)).symm.trans t0) (by decide)⟩
  refine steps_cons ?_ ?_
  ·rintro b a w' ⟨v0,x0,G0,H0,ha,b0,d0,h0,e0,Q_HB,q0,p0,n0,r0,y0⟩ hb_ hon hoff
   refine⟨_,rfl,fun K hK=>?_⟩
   have J6:a.tmps[33]? =some (.int .i64 (wrap64 (F0+1))):=by rw [ha];exact putSel_on (e:=(4,33,.int .i64 (wrap64 (F0+1)))) 2 rfl rfl (hon 4 (by kernel_rfl)) rfl
   replace ha:=Aside0.mk ha
   have a0:=Aside0.mk b0
   have m0:=Aside0.mk d0
   have g0:=mk_ (h0 (hoff 15 (by kernel_rfl)))
   have o0:=Aside0.mk e0
   have HB:=Aside0.mk Q_HB
   refine goes_ Tryz.func20 (by kernel_rfl) rfl #[.int .i64 (wrap64 (F0+1))] (by rfl) rfl rfl (by first|(simp only [List.map_toArray,List.map_cons,List.map_nil,Act.eval,Array.getD_eq_getD_getElem?,Option.getD_some,J6];done)|(simp only [List.map_toArray,List.map_cons,List.map_nil,Act.eval,Array.getD_eq_getD_getElem?,Option.getD_some,J6];rfl)) ?_
   with_reducible refine(spec_JournalName.calls k (wrap64 (F0+1)) W0 _ A5.out).mono ?_
   rintro e M7 ⟨rfl,hb⟩
   refine⟨_,rfl,?_⟩
   replace a0:=bb_ a0 hb;replace m0:=bb_ m0 hb;replace g0:=bb_ g0 hb;replace o0:=bb_ o0 hb;replace HB:=bs_ HB hb;(try clear hb);(try clear K6);(try clear hk);(try clear hi)
   refine hK.out _ _ ⟨v0,x0,G0,H0,(by rw [ha.out];exact putSel_upk 3 hb_ rfl rfl rfl),(bp_ a0),(bp_ m0),fun _=>(bp_ g0),(bp_ o0),(bw_ HB),fun t0=>absurd ((hoff 11 (by kernel_rfl)).symm.trans t0) (by decide),fun t0=>absurd ((hoff 13 (by kernel_rfl)).symm.trans t0) (by decide),fun t0=>absurd ((hoff 15 (by kernel_rfl)).symm.trans t0) (by decide),fun t0=>absurd ((hoff 13 (by kernel_rfl)).symm.trans t0) (by decide),fun t0=>absurd ((hoff 14 (by kernel_rfl)).symm.trans t0) (by decide)⟩
  refine steps_cons ?_ ?_
  ·rintro b a w' ⟨v0,x0,G0,H0,ha,b0,d0,h0,e0,Q_HB,q0,p0,n0,r0,y0⟩ hb_ hon hoff
   refine⟨_,rfl,fun K hK=>?_⟩
   have N7:a.tmps[34]? =some (.string W0):=by rw [ha];exact putSel_on (e:=(5,34,.string W0)) 3 rfl rfl (hon 5 (by kernel_rfl)) rfl
   replace ha:=Aside0.mk ha
   have a0:=Aside0.mk b0
   have m0:=Aside0.mk d0
   have g0:=mk_ (h0 (hoff 15 (by kernel_rfl)))
   have o0:=Aside0.mk e0
   have HB:=Aside0.mk Q_HB
   refine value_ (w1:=w') (v:= .agg #[.int .i64 3,.string (⟨#[106,43]⟩:ByteArray),.string (⟨#[]⟩:ByteArray),.string W0]) (by rfl) rfl ?_ ?_
   ·go_simp
    (try simp only [i64_w])
    try rfl
   refine hK.out _ _ ⟨v0,x0,G0,H0,(by rw [ha.out];exact putSel_upk 4 hb_ rfl rfl rfl),b0,d0,h0,e0,Q_HB,fun t0=>absurd ((hoff 11 (by kernel_rfl)).symm.trans t0) (by decide),p0,fun t0=>absurd ((hoff 15 (by kernel_rfl)).symm.trans t0) (by decide),r0,fun t0=>absurd ((hoff 14 (by kernel_rfl)).symm.trans t0) (by decide)⟩
  refine steps_cons ?_ ?_
  ·rintro b a w' ⟨v0,x0,G0,H0,ha,b0,d0,h0,e0,Q_HB,q0,p0,n0,r0,y0⟩ hb_ hon hoff
   refine⟨_,rfl,fun K hK=>?_⟩
   have O7:a.tmps[36]? =some (.pointer (some ⟨V0,0,none⟩)):=by rw [ha];exact(putSel_off rfl).trans rfl
   replace ha:=Aside0.mk ha
   have a0:=Aside0.mk b0
   have m0:=Aside0.mk d0
   have g0:=mk_ (h0 (hoff 15 (by kernel_rfl)))
   have o0:=Aside0.mk e0
   have HB:=Aside0.mk Q_HB
   have w2:w'.cell? ⟨V0,0,none⟩=some (.int .i64 F0):=bc_ a0 0
   have x2:w'.cell? ⟨V0,1,none⟩=some (.int .i64 t1):=bc_ a0 1
   have y2:w'.cell? ⟨V0,2,none⟩=some (.int .i64 v1):=bc_ a0 2
   have A2:w'.cell? ⟨V0,3,none⟩=some (.int .i64 x1):=bc_ a0 3
   have B2:w'.cell? ⟨V0,4,none⟩=some (.int .i64 y1):=bc_ a0 4
   have C2:w'.cell? ⟨V0,5,none⟩=some (.slice A1 g1.length C1):=bc_ a0 5
   refine value_ (w1:=w') (v:= .int .i64 F0) (by rfl) rfl ?_ ?_
   ·go_simp
    (try simp only [i64_w])
    try rfl
   refine hK.out _ _ ⟨v0,x0,G0,H0,(by rw [ha.out];exact putSel_upk 5 hb_ rfl rfl rfl),b0,d0,h0,e0,Q_HB,fun t0=>absurd ((hoff 11 (by kernel_rfl)).symm.trans t0) (by decide),fun t0=>absurd ((hoff 13 (by kernel_rfl)).symm.trans t0) (by decide),fun t0=>absurd ((hoff 15 (by kernel_rfl)).symm.trans t0) (by decide),fun t0=>absurd ((hoff 13 (by kernel_rfl)).symm.trans t0) (by decide),fun t0=>absurd ((hoff 14 (by kernel_rfl)).symm.trans t0) (by decide)⟩
  refine steps_cons ?_ ?_
  ·rintro b a w' ⟨v0,x0,G0,H0,ha,b0,d0,h0,e0,Q_HB,q0,p0,n0,r0,y0⟩ hb_ hon hoff
   refine⟨_,rfl,fun K hK=>?_⟩
   have L6:a.tmps[37]? =some (.int .i64 F0):=by rw [ha];exact putSel_on (e:=(8,37,.int .i64 F0)) 5 rfl rfl (hon 8 (by kernel_rfl)) rfl
   replace ha:=Aside0.mk ha
   have a0:=Aside0.mk b0
   have m0:=Aside0.mk d0
   have g0:=mk_ (h0 (hoff 15 (by kernel_rfl)))
   have o0:=Aside0.mk e0
   have HB:=Aside0.mk Q_HB
   refine goes_ Tryz.func20 (by kernel_rfl) rfl #[.int .i64 F0] (by rfl) rfl rfl (by first|(simp only [List.map_toArray,List.map_cons,List.map_nil,Act.eval,Array.getD_eq_getD_getElem?,Option.getD_some,L6];done)|(simp only [List.map_toArray,List.map_cons,List.map_nil,Act.eval,Array.getD_eq_getD_getElem?,Option.getD_some,L6];rfl)) ?_
   with_reducible refine(spec_JournalName.calls k F0 X0 _ A6.out).mono ?_
   rintro e P7 ⟨rfl,hb⟩
   refine⟨_,rfl,?_⟩
   replace a0:=bb_ a0 hb;replace m0:=bb_ m0 hb;replace g0:=bb_ g0 hb;replace o0:=bb_ o0 hb;replace HB:=bs_ HB hb;(try clear hb);(try clear K6);(try clear hk);(try clear hi)
   refine hK.out _ _ ⟨v0,x0,G0,H0,(by rw [ha.out];exact putSel_upk 6 hb_ rfl rfl rfl),(bp_ a0),(bp_ m0),fun _=>(bp_ g0),(bp_ o0),(bw_ HB),fun t0=>absurd ((hoff 11 (by kernel_rfl)).symm.trans t0) (by decide),fun t0=>absurd ((hoff 13 (by kernel_rfl)).symm.trans t0) (by decide),fun t0=>absurd ((hoff 15 (by kernel_rfl)).symm.trans t0) (by decide),fun t0=>absurd ((hoff 13 (by kernel_rfl)).symm.trans t0) (by decide),fun t0=>absurd ((hoff 14 (by kernel_rfl)).symm.trans t0) (by decide)⟩
  refine steps_cons ?_ ?_
  ·rintro b a w' ⟨v0,x0,G0,H0,ha,b0,d0,h0,e0,Q_HB,q0,p0,n0,r0,y0⟩ hb_ hon hoff
   refine⟨_,rfl,fun K hK=>?_⟩
   have Q7:a.tmps[38]? =some (.string X0):=by rw [ha];exact putSel_on (e:=(9,38,.string X0)) 6 rfl rfl (hon 9 (by kernel_rfl)) rfl
   replace ha:=Aside0.mk ha
   have a0:=Aside0.mk b0
   have m0:=Aside0.mk d0
   have g0:=mk_ (h0 (hoff 15 (by kernel_rfl)))
   have o0:=Aside0.mk e0
   have HB:=Aside0.mk Q_HB
   refine value_ (w1:=w') (v:= .agg #[.int .i64 4,.string X0,.string (⟨#[]⟩:ByteArray),.string (⟨#[]⟩:ByteArray)]) (by rfl) rfl ?_ ?_
   ·go_simp
    (try simp only [i64_w])
    try rfl
   refine hK.out _ _ ⟨v0,x0,G0,H0,(by rw [ha.out];exact putSel_upk 7 hb_ rfl rfl rfl),b0,d0,h0,e0,Q_HB,fun t0=>absurd ((hoff 11 (by kernel_rfl)).symm.trans t0) (by decide),p0,fun t0=>absurd ((hoff 15 (by kernel_rfl)).symm.trans t0) (by decide),r0,fun t0=>absurd ((hoff 14 (by kernel_rfl)).symm.trans t0) (by decide)⟩
  refine steps_cons ?_ ?_
  ·rintro b a w' ⟨v0,x0,G0,H0,ha,b0,d0,h0,e0,Q_HB,q0,p0,n0,r0,y0⟩ hb_ hon hoff
   refine⟨_,rfl,fun K hK=>?_⟩
   have R7:a.tmps[30]? =some (.agg #[.int .i64 1,.string (⟨#[106,43]⟩:ByteArray),.string Y0,.string (⟨#[]⟩:ByteArray)]):=by rw [ha];exact putSel_on (e:=(1,30,.agg #[.int .i64 1,.string (⟨#[106,43]⟩:ByteArray),.string Y0,.string (⟨#[]⟩:ByteArray)])) 0 rfl rfl (hon 1 (by kernel_rfl)) rfl
   have U7:a.tmps[31]? =some (.agg #[.int .i64 2,.string (⟨#[106,43]⟩:ByteArray),.string (⟨#[]⟩:ByteArray),.string (⟨#[]⟩:ByteArray)]):=by rw [ha];exact putSel_on (e:=(2,31,.agg #[.int .i64 2,.string (⟨#[106,43]⟩:ByteArray),.string (⟨#[]⟩:ByteArray),.string (⟨#[]⟩:ByteArray)])) 1 rfl rfl (hon 2 (by kernel_rfl)) rfl
   have V7:a.tmps[35]? =some (.agg #[.int .i64 3,.string (⟨#[106,43]⟩:ByteArray),.string (⟨#[]⟩:ByteArray),.string W0]):=by rw [ha];exact putSel_on (e:=(6,35,.agg #[.int .i64 3,.string (⟨#[106,43]⟩:ByteArray),.string (⟨#[]⟩:ByteArray),.string W0])) 4 rfl rfl (hon 6 (by kernel_rfl)) rfl
   have W7:a.tmps[39]? =some (.agg #[.int .i64 4,.string X0,.string (⟨#[]⟩:ByteArray),.string (⟨#[]⟩:ByteArray)]):=by rw [ha];exact putSel_on (e:=(10,39,.agg #[.int .i64 4,.string X0,.string (⟨#[]⟩:ByteArray),.string (⟨#[]⟩:ByteArray)])) 7 rfl rfl (hon 10 (by kernel_rfl)) rfl
   replace ha:=Aside0.mk ha
   have a0:=Aside0.mk b0
   have m0:=Aside0.mk d0
   have g0:=mk_ (h0 (hoff 15 (by kernel_rfl)))
   have o0:=Aside0.mk e0
   have HB:=Aside0.mk Q_HB
   refine Kd.R_lit_step k57 _ 57 ?hg (N:=40) ?hd (xs:=([(⟨1,(⟨#[106,43]⟩:ByteArray),Y0,(⟨#[]⟩:ByteArray)⟩:S57),(⟨2,(⟨#[106,43]⟩:ByteArray),(⟨#[]⟩:ByteArray),(⟨#[]⟩:ByteArray)⟩:S57),(⟨3,(⟨#[106,43]⟩:ByteArray),(⟨#[]⟩:ByteArray),W0⟩:S57),(⟨4,X0,(⟨#[]⟩:ByteArray),(⟨#[]⟩:ByteArray)⟩:S57)]:List (S57))) (inner:=[.int .i64 1,.string (⟨#[106,43]⟩:ByteArray),.string Y0,.string (⟨#[]⟩:ByteArray),.int .i64 2,.string (⟨#[106,43]⟩:ByteArray),.string (⟨#[]⟩:ByteArray),.string (⟨#[]⟩:ByteArray),.int .i64 3,.string (⟨#[106,43]⟩:ByteArray),.string (⟨#[]⟩:ByteArray),.string W0,.int .i64 4,.string X0,.string (⟨#[]⟩:ByteArray),.string (⟨#[]⟩:ByteArray)]) (ok:=fun _=>True) (okp:=fun _=>True) ?hr ?hp (fun _ hk=>hk) trivial (Below.refl _ _) (Nat.le_refl _) (by simp) ?_;(case hd=>rfl);(case hg=>rfl);(case hr=>first|(go_simp;done)|(go_simp;rfl));(case hp=>exact(Reps.c4 (show Kd.M k57 _ _ _ (⟨1,(⟨#[106,43]⟩:ByteArray),Y0,(⟨#[]⟩:ByteArray)⟩:S57) [.int .i64 1,.string (⟨#[106,43]⟩:ByteArray),.string Y0,.string (⟨#[]⟩:ByteArray)] from(k57_mkM _ _ _ (⟨1,(⟨#[106,43]⟩:ByteArray),Y0,(⟨#[]⟩:ByteArray)⟩:S57))) (Reps.c4 (show Kd.M k57 _ _ _ (⟨2,(⟨#[106,43]⟩:ByteArray),(⟨#[]⟩:ByteArray),(⟨#[]⟩:ByteArray)⟩:S57) [.int .i64 2,.string (⟨#[106,43]⟩:ByteArray),.string (⟨#[]⟩:ByteArray),.string (⟨#[]⟩:ByteArray)] from(k57_mkM _ _ _ (⟨2,(⟨#[106,43]⟩:ByteArray),(⟨#[]⟩:ByteArray),(⟨#[]⟩:ByteArray)⟩:S57))) (Reps.c4 (show Kd.M k57 _ _ _ (⟨3,(⟨#[106,43]⟩:ByteArray),(⟨#[]⟩:ByteArray),W0⟩:S57) [.int .i64 3,.string (⟨#[106,43]⟩:ByteArray),.string (⟨#[]⟩:ByteArray),.string W0] from(k57_mkM _ _ _ (⟨3,(⟨#[106,43]⟩:ByteArray),(⟨#[]⟩:ByteArray),W0⟩:S57))) (Reps.c4 (show Kd.M k57 _ _ _ (⟨4,X0,(⟨#[]⟩:ByteArray),(⟨#[]⟩:ByteArray)⟩:S57) [.int .i64 4,.string X0,.string (⟨#[]⟩:ByteArray),.string (⟨#[]⟩:ByteArray)] from(k57_mkM _ _ _ (⟨4,X0,(⟨#[]⟩:ByteArray),(⟨#[]⟩:ByteArray)⟩:S57))) (Reps.none _ _))))))
   intro v0 V5 O1 hb hg_ hnew_
   clear hg_ hnew_
   (first|rw [←d2.out] at O1|(simp only [Int.reduceToNat] at O1;rw [←d2.out] at O1))
   have D2:=mk_ (Kd.R_lower O1 (below_size (bw_ HB)))
   have U1:=fun(t0:b 13=true)=>(show Kd.R k105 105 V5 w.heap.size (fun _=>True) x0 H1 from by first|exact(Kd.R_below (rq_ (p0 t0)) hb)|exact Kd.R_mono (Kd.R_below (rq_ (p0 t0)) hb) (fun _ h_=>by first|trivial|exact h_|exact h_.1))
   have e1:=D2;clear D2;replace a0:=bb_ a0 hb;replace m0:=bb_ m0 hb;replace g0:=bb_ g0 hb;replace o0:=bb_ o0 hb;replace HB:=bs_ HB hb;clear hb O1
   refine hK.out _ _ ⟨v0,x0,G0,H0,(by rw [ha.out];exact putSel_upk 8 hb_ rfl rfl rfl),(bp_ a0),(bp_ m0),fun _=>(bp_ g0),(bp_ o0),(bw_ HB),fun _=>(rp_ e1),U1,fun t0=>absurd ((hoff 15 (by kernel_rfl)).symm.trans t0) (by decide),r0,fun t0=>absurd ((hoff 14 (by kernel_rfl)).symm.trans t0) (by decide)⟩
  refine steps_cons ?_ ?_
  ·rintro b a w' ⟨v0,x0,G0,H0,ha,b0,d0,h0,e0,Q_HB,q0,p0,n0,r0,y0⟩ hb_ hon hoff
   refine⟨_,rfl,fun K hK=>?_⟩
   have e7:a.tmps[7]? =some (.pointer (some ⟨L0,0,none⟩)):=by rw [ha];exact(putSel_off rfl).trans rfl
   replace ha:=Aside0.mk ha
   have a0:=Aside0.mk b0
   have m0:=Aside0.mk d0
   have g0:=mk_ (h0 (hoff 15 (by kernel_rfl)))
   have o0:=Aside0.mk e0
   have HB:=Aside0.mk Q_HB
   have w2:w'.cell? ⟨L0,0,none⟩=some (.int .i64 (wrap64 (F0+1))):=bc_ o0 0
   have x2:w'.cell? ⟨L0,1,none⟩=some (.int .i64 N0):=bc_ o0 1
   have y2:w'.cell? ⟨L0,2,none⟩=some (.int .i64 O0):=bc_ o0 2
   have A2:w'.cell? ⟨L0,3,none⟩=some (.int .i64 P0):=bc_ o0 3
   have B2:w'.cell? ⟨L0,4,none⟩=some (.int .i64 Q0):=bc_ o0 4
   have C2:w'.cell? ⟨L0,5,none⟩=some (.slice R0 M0.length U0):=bc_ o0 5
   refine value_ (w1:=w') (v:= .agg #[.int .i64 (wrap64 (F0+1)),.int .i64 N0,.int .i64 O0,.int .i64 P0,.int .i64 Q0,.slice R0 M0.length U0]) (by rfl) rfl ?_ ?_
   ·go_simp
    (try simp only [i64_w])
    try rfl
   refine hK.out _ _ ⟨v0,x0,G0,H0,(by rw [ha.out];exact putSel_upk 9 hb_ rfl rfl rfl),b0,d0,h0,e0,Q_HB,q0,fun t0=>absurd ((hoff 13 (by kernel_rfl)).symm.trans t0) (by decide),fun t0=>absurd ((hoff 15 (by kernel_rfl)).symm.trans t0) (by decide),fun t0=>absurd ((hoff 13 (by kernel_rfl)).symm.trans t0) (by decide),fun t0=>absurd ((hoff 14 (by kernel_rfl)).symm.trans t0) (by decide)⟩
  refine steps_cons ?_ ?_
  ·rintro b a w' ⟨v0,x0,G0,H0,ha,b0,d0,h0,e0,Q_HB,q0,p0,n0,r0,y0⟩ hb_ hon hoff
   refine⟨_,rfl,fun K hK=>?_⟩
   have M6:a.tmps[41]? =some (.agg #[.int .i64 (wrap64 (F0+1)),.int .i64 N0,.int .i64 O0,.int .i64 P0,.int .i64 Q0,.slice R0 M0.length U0]):=by rw [ha];exact putSel_on (e:=(12,41,.agg #[.int .i64 (wrap64 (F0+1)),.int .i64 N0,.int .i64 O0,.int .i64 P0,.int .i64 Q0,.slice R0 M0.length U0])) 9 rfl rfl (hon 12 (by kernel_rfl)) rfl
   replace ha:=Aside0.mk ha
   have a0:=Aside0.mk b0
   have m0:=Aside0.mk d0
   have g0:=mk_ (h0 (hoff 15 (by kernel_rfl)))
   have o0:=Aside0.mk e0
   have HB:=Aside0.mk Q_HB
   refine goes_ Tryz.func23 (by kernel_rfl) rfl #[.agg #[.int .i64 (wrap64 (F0+1)),.int .i64 N0,.int .i64 O0,.int .i64 P0,.int .i64 Q0,.slice R0 M0.length U0]] (by rfl) rfl rfl (by first|(simp only [List.map_toArray,List.map_cons,List.map_nil,Act.eval,Array.getD_eq_getD_getElem?,Option.getD_some,M6];done)|(simp only [List.map_toArray,List.map_cons,List.map_nil,Act.eval,Array.getD_eq_getD_getElem?,Option.getD_some,M6];rfl)) ?_
   with_reducible refine(spec_l07Copy.calls (wrap64 (F0+1)) N0 O0 P0 Q0 _ _ M0 m1 n1 o1 p1 q1 H1 _ ?side1 ?side2 A7.out).mono ?_
   (case side1=>repeat(first|exact(Kd.C_below J1.out HB.out)|(with_reducible refine Kd.C_alloc ?_ _)|(with_reducible refine Kd.C_drewN ?_ _)|(with_reducible refine Kd.C_drew ?_)))
   (case side2=>exact K1.out)
   rintro e V5 ⟨x0,rfl,N6,hb⟩
   refine⟨_,rfl,?_⟩
   have D2:=mk_ (Kd.R_lower N6 (below_size (bw_ HB)))
   have V1:=fun(t0:b 11=true)=>(show Kd.R k57 57 V5 w.heap.size (fun _=>True) v0 v2 from by first|exact(Kd.R_below (rq_ (q0 t0)) hb)|exact Kd.R_mono (Kd.R_below (rq_ (q0 t0)) hb) (fun _ h_=>by first|trivial|exact h_|exact h_.1))
   have d1:=D2;clear D2;replace a0:=bb_ a0 hb;replace m0:=bb_ m0 hb;replace g0:=bb_ g0 hb;replace o0:=bb_ o0 hb;replace HB:=bs_ HB hb;(try clear hb);(try clear K6);(try clear hk);(try clear hi);(try clear N6)
   refine hK.out _ _ ⟨v0,x0,(.agg #[.int .i64 m1,.int .i64 n1,.int .i64 o1,.int .i64 p1,.int .i64 q1,x0]),H0,(by rw [ha.out];exact putSel_upk 10 hb_ rfl rfl rfl),(bp_ a0),(bp_ m0),fun _=>(bp_ g0),(bp_ o0),(bw_ HB),V1,fun _=>(rp_ d1),fun t0=>absurd ((hoff 15 (by kernel_rfl)).symm.trans t0) (by decide),fun _=>rfl,fun t0=>absurd ((hoff 14 (by kernel_rfl)).symm.trans t0) (by decide)⟩
  refine steps_cons ?_ ?_
  ·rintro b a w' ⟨v0,x0,G0,H0,ha,b0,d0,h0,e0,Q_HB,q0,p0,n0,r0,y0⟩ hb_ hon hoff
   refine⟨_,rfl,fun K hK=>?_⟩
   have X7:a.tmps[40]? =some (v0):=by rw [ha];exact putSel_on (e:=(11,40,v0)) 8 rfl rfl (hon 11 (by kernel_rfl)) rfl
   replace ha:=Aside0.mk ha
   have a0:=Aside0.mk b0
   have m0:=Aside0.mk d0
   have g0:=mk_ (h0 (hoff 15 (by kernel_rfl)))
   have o0:=Aside0.mk e0
   have HB:=Aside0.mk Q_HB
   have e1:=mk_ (q0 (hon 11 (by kernel_rfl)))
   have d1:=mk_ (p0 (hon 13 (by kernel_rfl)))
   refine value_ (w1:=w') (v:=v0) (by rfl) rfl ?_ ?_
   ·go_simp
    (try simp only [i64_w])
    try rfl
   refine hK.out _ _ ⟨v0,x0,G0,(v0),(by rw [ha.out];exact putSel_upk 11 hb_ rfl rfl rfl),b0,d0,h0,e0,Q_HB,q0,p0,fun t0=>absurd ((hoff 15 (by kernel_rfl)).symm.trans t0) (by decide),r0,fun _=>rfl⟩
  refine steps_cons ?_ ?_
  ·rintro b a w' ⟨v0,x0,G0,H0,ha,b0,d0,h0,e0,Q_HB,q0,p0,n0,r0,y0⟩ hb_ hon hoff
   refine⟨_,rfl,fun K hK=>?_⟩
   have e5:a.tmps[5]? =some (.pointer (some ⟨s0,0,none⟩)):=by rw [ha];exact(putSel_off rfl).trans rfl
   have h7:a.tmps[42]? =some (G0):=by rw [ha];exact putSel_on (e:=(13,42,G0)) 10 rfl rfl (hon 13 (by kernel_rfl)) rfl
   rw [r0 (hon 13 (by kernel_rfl))] at h7
   replace ha:=Aside0.mk ha
   have a0:=Aside0.mk b0
   have m0:=Aside0.mk d0
   have g0:=mk_ (h0 hb_)
   have o0:=Aside0.mk e0
   have HB:=Aside0.mk Q_HB
   have e1:=mk_ (q0 (hon 11 (by kernel_rfl)))
   have d1:=mk_ (p0 (hon 13 (by kernel_rfl)))
   obtain⟨l2,m2,F2⟩:=Kd.R_slice d1.out
   (first|subst F2|(injection F2 with O6 j7 P6;have l7:=O6.symm;have m7:=P6.symm;clear O6 j7 P6;subst l7;subst m7))
   have o7:w'.cell? ⟨s0,0,none⟩=some (.int .i64 0):=bc_ g0 0
   have Q6:=blk_frozen g0.out 0
   have V4:=A0.out
   have W4:=B0.out
   have X4:=C0.out
   have Y4:=I0.out
   have Z4:=J0.out
   have a5:=K0.out
   have p7:w'.cell? ⟨s0,1,none⟩=some (.int .i64 0):=bc_ g0 1
   have R6:=blk_frozen g0.out 1
   have b5:=A0.out
   have d5:=B0.out
   have g5:=C0.out
   have h5:=I0.out
   have j5:=J0.out
   have l5:=K0.out
   have q7:w'.cell? ⟨s0,2,none⟩=some (.int .i64 0):=bc_ g0 2
   have U6:=blk_frozen g0.out 2
   have m5:=A0.out
   have o5:=B0.out
   have p5:=C0.out
   have q5:=I0.out
   have s5:=J0.out
   have t5:=K0.out
   have s7:w'.cell? ⟨s0,3,none⟩=some (.int .i64 0):=bc_ g0 3
   have V6:=blk_frozen g0.out 3
   have v5:=A0.out
   have w5:=B0.out
   have x5:=C0.out
   have y5:=I0.out
   have C5:=J0.out
   have D5:=K0.out
   have t7:w'.cell? ⟨s0,4,none⟩=some (.int .i64 0):=bc_ g0 4
   have W6:=blk_frozen g0.out 4
   have F5:=A0.out
   have G5:=B0.out
   have H5:=C0.out
   have I5:=I0.out
   have J5:=J0.out
   have K5:=K0.out
   have v7:w'.cell? ⟨s0,5,none⟩=some (.slice none 0 0):=bc_ g0 5
   have X6:=blk_frozen g0.out 5
   have L5:=A0.out
   have M5:=B0.out
   have N5:=C0.out
   have O5:=I0.out
   have P5:=J0.out
   have Q5:=K0.out
   refine skip_ (w1:=?_) (by rfl) rfl ?_ ?_
   rotate_left
   ·go_simp
    rfl
   refine hK.out _ _ ⟨v0,.slice l2 H1.length m2,G0,H0,(by rw [ha.out];exact putSel_none (v:=undef) rfl),bf_,bf_,fun t0=>absurd ((up_self b 15).symm.trans t0) (by decide),bf_,(bw_ HB),fun _=>(rq_ (Kd.R_mono (Kd.R_far (p:=⟨s0,5,none⟩) (Kd.R_far (p:=⟨s0,4,none⟩) (Kd.R_far (p:=⟨s0,3,none⟩) (Kd.R_far (p:=⟨s0,2,none⟩) (Kd.R_far (p:=⟨s0,1,none⟩) (Kd.R_far (p:=⟨s0,0,none⟩) (Kd.R_types e1.out g0.out (by decide)) (fun _ hk=>hk.2) (.int .i64 m1)) (fun _ hk=>hk.2) (.int .i64 n1)) (fun _ hk=>hk.2) (.int .i64 o1)) (fun _ hk=>hk.2) (.int .i64 p1)) (fun _ hk=>hk.2) (.int .i64 q1)) (fun _ hk=>hk.2) (.slice l2 H1.length m2)) (fun _ hk=>trivial))),fun _=>(rq_ (Kd.R_mono (Kd.R_far (p:=⟨s0,5,none⟩) (Kd.R_far (p:=⟨s0,4,none⟩) (Kd.R_far (p:=⟨s0,3,none⟩) (Kd.R_far (p:=⟨s0,2,none⟩) (Kd.R_far (p:=⟨s0,1,none⟩) (Kd.R_far (p:=⟨s0,0,none⟩) (Kd.R_types d1.out g0.out (by decide)) (fun _ hk=>hk.2) (.int .i64 m1)) (fun _ hk=>hk.2) (.int .i64 n1)) (fun _ hk=>hk.2) (.int .i64 o1)) (fun _ hk=>hk.2) (.int .i64 p1)) (fun _ hk=>hk.2) (.int .i64 q1)) (fun _ hk=>hk.2) (.slice l2 H1.length m2)) (fun _ hk=>trivial))),fun _=>bu_,r0,y0⟩
  refine steps_cons ?_ ?_
  ·rintro b a w' ⟨v0,x0,G0,H0,ha,b0,d0,h0,e0,Q_HB,q0,p0,n0,r0,y0⟩ hb_ hon hoff
   refine⟨_,rfl,fun K hK=>?_⟩
   replace ha:=Aside0.mk ha
   have a0:=Aside0.mk b0
   have m0:=Aside0.mk d0
   have o0:=Aside0.mk e0
   have HB:=Aside0.mk Q_HB
   have e1:=mk_ (q0 (hon 11 (by kernel_rfl)))
   have d1:=mk_ (p0 (hon 13 (by kernel_rfl)))
   have g0:=mk_ (n0 (hon 15 (by kernel_rfl)))
   refine value_ (w1:=w') (v:= .bool true) (by rfl) rfl ?_ ?_
   ·go_simp
    (try simp only [i64_w])
    try rfl
   refine hK.out _ _ ⟨v0,x0,G0,H0,(by rw [ha.out];exact putSel_upk 12 hb_ rfl rfl rfl),b0,d0,fun t0=>absurd ((hon 15 (by kernel_rfl)).symm.trans t0) (by decide),e0,Q_HB,q0,p0,n0,r0,y0⟩
  exact steps_nil
 rintro b a Y7 hall ⟨v0,x0,G0,H0,ha,b0,d0,h0,e0,Q_HB,q0,p0,n0,r0,y0⟩
 clear a0 m0 g0 o0 HB
 have G2:=hall 1 (by kernel_rfl)
 have H2:=hall 2 (by kernel_rfl)
 have I2:=hall 4 (by kernel_rfl)
 have J2:=hall 5 (by kernel_rfl)
 have K2:=hall 6 (by kernel_rfl)
 have L2:=hall 8 (by kernel_rfl)
 have M2:=hall 9 (by kernel_rfl)
 have e2:=hall 10 (by kernel_rfl)
 have P1:=hall 11 (by kernel_rfl)
 have g2:=hall 12 (by kernel_rfl)
 have s1:=hall 13 (by kernel_rfl)
 have Q1:=hall 14 (by kernel_rfl)
 have R1:=hall 15 (by kernel_rfl)
 have h2:=hall 16 (by kernel_rfl)
 subst ha
 obtain rfl:=r0 s1
 obtain rfl:=y0 Q1
 simp only [putSel,G2,H2,I2,J2,K2,L2,M2,e2,P1,g2,s1,Q1,R1,h2,if_true,Act.put,sia_,scz_,scs_]
 have a0:=Aside0.mk b0
 clear b0
 have m0:=Aside0.mk d0
 clear d0;clear h0
 have o0:=Aside0.mk e0
 clear e0
 have HB:=Aside0.mk Q_HB
 clear Q_HB
 have e1:=mk_ (q0 P1)
 clear q0
 have d1:=mk_ (p0 s1)
 clear p0
 have g0:=mk_ (n0 R1)
 clear n0;clear hall G2 H2 I2 J2 K2 L2 M2 e2 P1 g2 s1 Q1 R1 h2
 try go_wp2
 refine bodyPost_ret (results_list (rs:=[.tmp 4,.cell 5 30,.tmp 6]) rfl (by simp) (.tmp (.cell s0 30 #[.int .i64 m1,.int .i64 n1,.int .i64 o1,.int .i64 p1,.int .i64 q1,x0] (0,0) _ rfl (bp_ g0) Tryz.underlying30 rfl (by kernel_rfl) (.tmp .nil)))) rfl ?_
 exact⟨_,_,er_,rq_ e1.out,rq_ d1.out,bw_ HB⟩
mutual
def spec_OpenJournal.l0:Nat→List (S57)→Int→Int→List (S49)→Option (Int × Int × Int × Int × Int × (List (S105)) × (List (S57)) × Bool)
 |0,_,_,_,_=>none
 |k+1,x5,x6,x7,a0=>if x7<(a0.length:Int) then((spec_DiskOk.f k a0).bind fun b0=>(spec_OpenJournal.j1 k x5 x6 x7 b0 a0)) else(spec_OpenJournal.j1 k x5 x6 x7 false a0)
def spec_OpenJournal.j1:Nat→List (S57)→Int→Int→Bool→List (S49)→Option (Int × Int × Int × Int × Int × (List (S105)) × (List (S57)) × Bool)
 |0,_,_,_,_,_=>none
 |k+1,x5,x6,x7,m0,b0=>if m0=true then(if 0≤x7 then(if x7<(b0.length:Int) then((spec_l07Number.f k ((rd_T49 b0 x7).f0)).bind fun e0=>(if e0>x6 then(spec_OpenJournal.l0 k x5 e0 (wrap64 (x7+1)) b0) else(spec_OpenJournal.l0 k x5 x6 (wrap64 (x7+1)) b0))) else(none)) else(none)) else(if x6<0 then(some (0,0,0,0,0,([]:List (S105)),x5,false)) else((spec_JournalName.f k x6).bind fun g0=>((spec_FileAt.f k b0 g0).bind fun d0=>((spec_ReadJournal.f k x6 d0.1).bind fun a0=>(if a0.2.2.2.2.2.2.2=true then((spec_l03At.f k b0 (⟨#[106,43]⟩:ByteArray)).bind fun h0=>(if h0≥0 then(if x5.length<2513169434916 then(spec_OpenJournal.j2 k (x5++ [(⟨4,(⟨#[106,43]⟩:ByteArray),(⟨#[]⟩:ByteArray),(⟨#[]⟩:ByteArray)⟩:S57)]) x6 d0.1 a0.2.2.2.2.2.2.1 b0 a0.1 a0.2.1 a0.2.2.1 a0.2.2.2.1 a0.2.2.2.2.1 a0.2.2.2.2.2.1) else(none)) else(spec_OpenJournal.j2 k x5 x6 d0.1 a0.2.2.2.2.2.2.1 b0 a0.1 a0.2.1 a0.2.2.1 a0.2.2.2.1 a0.2.2.2.2.1 a0.2.2.2.2.2.1))) else(some (0,0,0,0,0,([]:List (S105)),x5,false)))))))
def spec_OpenJournal.j2:Nat→List (S57)→Int→ByteArray→Int→List (S49)→Int→Int→Int→Int→Int→List (S105)→Option (Int × Int × Int × Int × Int × (List (S105)) × (List (S57)) × Bool)
 |0,_,_,_,_,_,_,_,_,_,_,_=>none
 |k+1,x5,x6,x9,n0,a0,b0,d0,e0,g0,h0,m0=>spec_OpenJournal.l1 k x5 x6 x9 n0 0 a0 b0 d0 e0 g0 h0 m0
def spec_OpenJournal.l1:Nat→List (S57)→Int→ByteArray→Int→Int→List (S49)→Int→Int→Int→Int→Int→List (S105)→Option (Int × Int × Int × Int × Int × (List (S105)) × (List (S57)) × Bool)
 |0,_,_,_,_,_,_,_,_,_,_,_,_=>none
 |k+1,x5,x6,x9,r0,p0,a0,b0,d0,e0,g0,h0,m0=>if p0<(a0.length:Int) then(if 0≤p0 then((spec_l07Number.f k ((rd_T49 a0 p0).f0)).bind fun q0=>(if q0≥0 then(if q0=x6 then(spec_OpenJournal.l1 k x5 x6 x9 r0 (wrap64 (p0+1)) a0 b0 d0 e0 g0 h0 m0) else(if x5.length<2513169434916 then(spec_OpenJournal.l1 k (x5++ [(⟨4,(rd_T49 a0 p0).f0,(⟨#[]⟩:ByteArray),(⟨#[]⟩:ByteArray)⟩:S57)]) x6 x9 r0 (wrap64 (p0+1)) a0 b0 d0 e0 g0 h0 m0) else(none))) else(spec_OpenJournal.l1 k x5 x6 x9 r0 (wrap64 (p0+1)) a0 b0 d0 e0 g0 h0 m0))) else(none)) else(if r0=(x9.size:Int) then((spec_l07Copy.f b0 d0 e0 g0 h0 m0).bind fun o0=>(some (o0.1,o0.2.1,o0.2.2.1,o0.2.2.2.1,o0.2.2.2.2.1,o0.2.2.2.2.2,x5,true))) else((spec_l07Anew.f k b0 d0 e0 g0 h0 m0 b0 d0 e0 g0 h0 m0).bind fun n0=>(if n0.2.2.2.2.2.2.2=true then(if x5.length+n0.1.length<2513169434916 then(some (n0.2.1,n0.2.2.1,n0.2.2.2.1,n0.2.2.2.2.1,n0.2.2.2.2.2.1,n0.2.2.2.2.2.2.1,(x5++n0.1),true)) else(none)) else(some (0,0,0,0,0,([]:List (S105)),(([]:List (S57))),false)))))
end
def spec_OpenJournal.f (k:Nat) (a0:List (S49)):Option (Int × Int × Int × Int × Int × (List (S105)) × (List (S57)) × Bool):=spec_OpenJournal.l0 k (([]:List (S57))) (-1) 0 a0
def spec_OpenJournal.T11:Bool × List (List Nat × List Nat):=(true,[([],[]),([],[]),([1],[1]),([0,2,2],[0,2]),([3],[3]),([4],[4]),([4],[4]),([5,3,0,1,2,3,4,5],[5]),([6,7,0,1,2,3,4,5,6,7],[6])])
def spec_OpenJournal.B11:List Nat:=[0,0,2,7,15,31,31,63,255]
theorem spec_OpenJournal.tab11:rtab .any (opsOf Tryz.f5 11)=spec_OpenJournal.T11:=by kernel_rfl
theorem spec_OpenJournal.bits11:waitsOk spec_OpenJournal.T11.2 spec_OpenJournal.B11=true:=by kernel_rfl
theorem spec_OpenJournal.calls (k:Nat) (t1:Option Addr) (v1:Nat) (t0:List (S49)) (r1:Int) (r2:Int) (r3:Int) (r4:Int) (r5:Int) (r6:List (S105)) (r7:List (S57)) (r8:Bool) (w:World) (B2:Kd.C k49 w t1 t0.length t0) (C2:t0.length≤v1) (h:spec_OpenJournal.f k t0=some (r1,r2,r3,r4,r5,r6,r7,r8)):
  Calls Tryz.prog 5 #[.agg #[.slice t1 t0.length v1]] w fun e w'=>∃dA eA:Value,e= .returned (.tuple #[.agg #[.int .i64 r1,.int .i64 r2,.int .i64 r3,.int .i64 r4,.int .i64 r5,dA],eA,.bool r8])∧Kd.R k105 105 w' w.heap.size (fun _=>True) dA r6∧Kd.R k57 57 w' w.heap.size (fun _=>True) eA r7∧Below w.heap.size w w':=by
 have yB:=Tryz.underlying36
 have zB:=Tryz.underlying30
 have AB:=Tryz.underlying57
 have e1:=Aside0.mk B2
 have Y1:=Aside0.mk C2
 clear B2 C2
 have HB:=mk_ (Below.refl w.heap.size w)
 have H:=h
 unfold spec_OpenJournal.f at H
 clear h
 obtain⟨H1,Z1⟩:∃y_:List (S57),y_=(([]:List (S57))):=⟨_,rfl⟩
 replace H:(spec_OpenJournal.l0 k H1 (-1) 0 t0)=some (r1,r2,r3,r4,r5,r6,r7,r8):=by first|(rw [Z1];with_reducible exact H)|with_reducible exact H
 have D2:=Aside0.mk Z1
 clear Z1
 have H':=Aside0.mk H
 clear H
 go_enter Tryz.func5,Tryz.ntmps5
 go_wp2_with (first|((with_reducible refine gn_ 1 rfl ?_);refine bv_ (cs:=#[.slice t1 t0.length v1]) (t:=36) HB ?_;clear HB;intro D1 w2 e0 fA HB)|((with_reducible refine gn_ 2 rfl ?_);refine bn_ (cs:=#[.int .i64 0,.int .i64 0,.int .i64 0,.int .i64 0,.int .i64 0,.slice none 0 0]) (t:=30) HB ?_;intro g0 w3 hg hb b0 gA hB_;have n0:=bl_ e0 hg;have v0:=bg_ e0 hg;replace e0:=bb_ e0 hb;replace HB:=hB_;clear hb hB_ hg)|((with_reducible refine gn_ 19 rfl ?_);refine Kd.R_lit k57 _ 57 ?hg (N:=19) ?hd (xs:=([]:List (S57))) (inner:=[]) (ok:=fun _=>True) (okp:=fun _=>True) ?hr ?hp (fun _ hk=>hk) trivial (Below.refl _ _) (Nat.le_refl _) (by simp) ?_;(case hd=>rfl);(case hg=>rfl);(case hr=>first|(go_simp;done)|(go_simp;rfl));(case hp=>exact(Reps.none _ _));intro H2 w4 n3 hb hg_ hnew_;clear hg_ hnew_;(first|rw [←D2.out] at n3|(simp only [Int.reduceToNat] at n3;rw [←D2.out] at n3));have o3:=mk_ (Kd.R_lower n3 (below_size (bw_ HB)));replace e0:=bb_ e0 hb;replace b0:=bb_ b0 hb;replace HB:=bs_ HB hb;clear hb n3))
 go_loopg [6,7] k (fun kq v6 v7 w'=>∃(s1:Int) (g1:Int),v6= .int .i64 s1∧v7= .int .i64 g1∧Aside0 (spec_OpenJournal.l0 kq H1 s1 g1 t0=some (r1,r2,r3,r4,r5,r6,r7,r8))∧Aside0 (kq≤k)∧Aside0 (Kd.R k57 57 w' w.heap.size (fun _=>True) H2 H1)∧Aside0 (w'.heap[D1]? =some (.cells #[(.slice t1 t0.length v1)] 36 (0,0)))∧Aside0 (w'.heap[g0]? =some (.cells #[.int .i64 0,.int .i64 0,.int .i64 0,.int .i64 0,.int .i64 0,(.slice none 0 0)] 30 (0,0)))∧Aside0 (Below w.heap.size w w'))
 case atStart=>exact⟨((-1)),(0),rl_,rl_,H',⟨Nat.le_refl _⟩,⟨rq_ o3.out⟩,⟨bf_⟩,⟨bf_⟩,⟨bw_ HB⟩⟩
 case round=>
  clear H'
  try clear p2
  obtain⟨s1,g1,rfl,rfl,HA,J1,h0,e0,b0,HB⟩:=hrel
  cases gk with
  |zero=>exact absurd HA.out (by simp [spec_OpenJournal.l0])
  |succ k1=>
   have H:=HA.out
   clear HA
   simp only [spec_OpenJournal.l0] at H
   have g9:=Aside0.mk H
   clear H
   go_upto_region 4 with (fail)
   go_cut [28] (fun BB wc=>∃(kq:Nat) (K1:Bool),BB= .bool K1∧Aside0 (spec_OpenJournal.j1 kq H1 s1 g1 K1 t0=some (r1,r2,r3,r4,r5,r6,r7,r8))∧Aside0 (kq≤k1)∧Aside0 (Kd.R k57 57 wc w.heap.size (fun _=>True) H2 H1)∧Aside0 (wc.heap[D1]? =some (.cells #[(.slice t1 t0.length v1)] 36 (0,0)))∧Aside0 (wc.heap[g0]? =some (.cells #[.int .i64 0,.int .i64 0,.int .i64 0,.int .i64 0,.int .i64 0,(.slice none 0 0)] 30 (0,0)))∧Aside0 (Below w.heap.size w wc))
   case first=>
    have H:=g9.out
    clear g9
    refine ic_ H ?_ ?_ <;> clear H <;> intro o2 H
    ·(first|rw [o2]|(simp only [i64_w,i32_w];rw [o2])|skip)
     have H':=Aside0.mk H
     clear H
     obtain⟨hA,iA⟩:=ns_ n0
     obtain⟨s6,t6⟩:=b1_ e0
     go_wp2
     go_meet
     case rel=>exact⟨_,(false),rl_,H',⟨by have:=J1.out;first|omega|exact Nat.le_refl _⟩,⟨rq_ h0.out⟩,⟨bf_⟩,⟨bf_⟩,⟨bw_ HB⟩⟩
    (first|rw [o2]|(simp only [i64_w,i32_w];rw [o2])|skip)
    obtain⟨s3,A8,H⟩:=ob_ H
    try dsimp only at H
    have H':=Aside0.mk H
    clear H
    obtain⟨CB,DB⟩:=ns_ n0
    obtain⟨w6,x6⟩:=b1_ e0
    go_wp2_with (first|(go_at_call 17;(with_reducible refine(spec_DiskOk.calls k1 _ _ t0 s3 _ ?side1 ?side2 A8.out).mono ?_);(case side1=>repeat(first|exact(Kd.C_below e1.out HB.out)|(with_reducible refine Kd.C_alloc ?_ _)|(with_reducible refine Kd.C_drewN ?_ _)|(with_reducible refine Kd.C_drew ?_)));(case side2=>exact Y1.out);rintro e dC ⟨rfl,hb⟩;replace h0:=rb_ h0 hb;replace e0:=bb_ e0 hb;replace b0:=bb_ b0 hb;replace HB:=bs_ HB hb;(try clear hb)))
    go_meet
    case rel=>exact⟨_,(s3),rl_,H',⟨by have:=J1.out;first|omega|exact Nat.le_refl _⟩,⟨rq_ h0.out⟩,⟨bf_⟩,⟨bf_⟩,⟨bw_ HB⟩⟩
   case rest=>
    clear g9
    (try clear p2);(try clear p2)
    obtain⟨kq,K1,rfl,HA,X1,h0,e0,b0,HB⟩:=hcut
    cases kq with
    |zero=>exact absurd HA.out (by simp [spec_OpenJournal.j1])
    |succ m2=>
     have H:=HA.out
     clear HA
     simp only [spec_OpenJournal.j1] at H
     by_cases y6:K1=true
     ·subst y6
      rw [if_pos rfl] at H
      obtain⟨jA,H⟩:=gd_ H
      have kA:=decide_eq_true jA
      clear jA
      obtain⟨lA,H⟩:=gd_ H
      have mA:=decide_eq_true lA
      clear lA
      obtain⟨I2,nA,H⟩:=ob_ H
      try dsimp only at H
      refine ig_ H ?_ ?_ <;> clear H <;> intro oA H
      ·have H':=Aside0.mk H
       clear H
       obtain⟨pA,qA⟩:=ns_ n0
       obtain⟨A6,C6⟩:=b1_ e0
       have F1:0≤(g1:Int):=od_
       have G1:g1<(t0.length:Int):=od_
       obtain⟨t3,J2,U0,V0,W0⟩:=at_T49 e1.out g1 F1 G1
       cases J2
       replace U0:=hc_ HB U0
       replace V0:=hc_ HB V0
       replace W0:=hc_ HB W0
       replace F1:=eq_true F1
       replace G1:=eq_true G1
       go_wp2_with (first|((with_reducible refine gc_ 18 rfl ?_);refine gm_ 37 Tryz.func18 (spec_l07Number.calls m2 ((rd_T49 t0 g1).f0) I2 _ nA.out) ?_;rintro eC hb;replace h0:=rb_ h0 hb;replace e0:=bb_ e0 hb;replace b0:=bb_ b0 hb;replace HB:=bs_ HB hb;(try clear hb)))
       go_roundg m2
       case measure=>have:=J1.out;have:=X1.out;omega
       case rel=>exact⟨(s1),(wrap64 (g1+1)),rl_,rl_,H',⟨by have:=J1.out;have:=X1.out;omega⟩,⟨rq_ h0.out⟩,⟨bf_⟩,⟨bf_⟩,⟨bw_ HB⟩⟩
      have H':=Aside0.mk H
      clear H
      obtain⟨rA,sA⟩:=ns_ n0
      obtain⟨D6,F6⟩:=b1_ e0
      have F1:0≤(g1:Int):=od_
      have G1:g1<(t0.length:Int):=od_
      obtain⟨t3,J2,U0,V0,W0⟩:=at_T49 e1.out g1 F1 G1
      cases J2
      replace U0:=hc_ HB U0
      replace V0:=hc_ HB V0
      replace W0:=hc_ HB W0
      replace F1:=eq_true F1
      replace G1:=eq_true G1
      go_wp2_with (first|((with_reducible refine gc_ 18 rfl ?_);refine gm_ 37 Tryz.func18 (spec_l07Number.calls m2 ((rd_T49 t0 g1).f0) I2 _ nA.out) ?_;rintro fC hb;replace h0:=rb_ h0 hb;replace e0:=bb_ e0 hb;replace b0:=bb_ b0 hb;replace HB:=bs_ HB hb;(try clear hb)))
      go_roundg m2
      case measure=>have:=J1.out;have:=X1.out;omega
      case rel=>exact⟨(I2),(wrap64 (g1+1)),rl_,rl_,H',⟨by have:=J1.out;have:=X1.out;omega⟩,⟨rq_ h0.out⟩,⟨bf_⟩,⟨bf_⟩,⟨bw_ HB⟩⟩
     replace y6:=Bool.eq_false_iff.mpr y6
     subst y6
     rw [if_neg (show ¬(false=true) by decide)] at H
     by_cases W2:s1<0
     ·rw [if_pos W2] at H
      have v3:=decide_eq_true W2
      clear W2
      simp only [Option.some.injEq,Prod.mk.injEq] at H
      obtain⟨rfl,rfl,rfl,rfl,rfl,rfl,rfl,rfl⟩:=H
      obtain⟨tA,uA⟩:=ns_ v0
      obtain⟨G6,H6,I6,J6,K6,L6,M6,N6,O6,P6,Q6,R6⟩:=b6_ b0
      go_wp2
      refine bodyPost_ret (results_ctt rfl _ _ g0 30 #[.int .i64 0,.int .i64 0,.int .i64 0,.int .i64 0,.int .i64 0,.slice none 0 0] (0,0) _ rfl bu_ Tryz.underlying30 rfl (by kernel_rfl)) rfl ?_
      exact⟨_,_,er_,by first|exact Kd.R_nil _ _ _ _ _|exact Kd.N_nil _ _ _ _ _|exact Kd.V_nil _ _ _ _ _|exact Kd.Q_nil _ _ _ _ _|exact Kd.S_nil _ _ _ _ _,rq_ (Kd.R_mono (Kd.R_far (p:=⟨g0,5,none⟩) (Kd.R_far (p:=⟨g0,4,none⟩) (Kd.R_far (p:=⟨g0,3,none⟩) (Kd.R_far (p:=⟨g0,2,none⟩) (Kd.R_far (p:=⟨g0,1,none⟩) (Kd.R_far (p:=⟨g0,0,none⟩) (Kd.R_types h0.out b0.out (by decide)) (fun _ hk=>hk.2) (.int .i64 0)) (fun _ hk=>hk.2) (.int .i64 0)) (fun _ hk=>hk.2) (.int .i64 0)) (fun _ hk=>hk.2) (.int .i64 0)) (fun _ hk=>hk.2) (.int .i64 0)) (fun _ hk=>hk.2) (.slice none 0 0)) (fun _ hk=>trivial)),bw_ HB⟩
     rw [if_neg W2] at H
     have v3:=decide_eq_false W2
     clear W2
     obtain⟨K2,EB,H⟩:=ob_ H
     try dsimp only at H
     obtain⟨⟨Q1,h9⟩,FB,H⟩:=ob_ H
     try dsimp only at H
     obtain⟨⟨X0,Y0,Z0,a1,b1,F0,a2,j9⟩,vA,H⟩:=ob_ H
     try dsimp only at H
     try go_wp2
     replace h0:=rd_ h0;replace e0:=kd_ e0;replace b0:=kd_ b0;replace HB:=wd_ HB
     refine start_ (n:=9) (S:=fun w'=>w'.cell? ⟨D1,0,none⟩=some (.slice t1 t0.length v1)) (ds:=[]) #[false,false,false,false,false,false,false,false,false] (by kernel_rfl) rfl rfl (bc_ e0 0) (fun hHeld=>?_);refine with_tabW spec_OpenJournal.tab11 spec_OpenJournal.bits11 (fun HT_ HW_=>?_)
     generalize wc.drew=gC at h0 e0 b0 HB hHeld⊢
     refine pv_ 1 48 ?_
     refine take_ (i:=0) (N:=some 47) (v:=?_) (a':=?_) #[true,true,false,false,false,false,false,false,false] rfl rfl (take_ofW HT_.out HW_.out (by kernel_rfl)) (fun _ _ _ h=>h) (Or.inl ⟨by rfl,?_⟩) hHeld ?_ ?_
     rotate_left
     ·intro w' s0
      go_simp
      with_reducible rfl
     rotate_left
     ·simp only [Act.put,sia_,scz_,scs_,i64_w,i32_w]
      rfl
     refine on_ 2 49 (fun K hK=>?_)
     refine gs_ Tryz.func20 (spec_JournalName.calls m2 s1 K2 _ EB.out) ?_
     rintro hC hb
     replace h0:=rb_ h0 hb;replace e0:=bb_ e0 hb;replace b0:=bb_ b0 hb;replace HB:=bs_ HB hb;(try clear hb);(try clear GB);(try clear hk);(try clear hi)
     refine hK.out _ _ (bc_ e0 0) (fun hHeld=>?_)
     clear hK K
     refine norm_ (a':=?_) ?_ ?_
     rotate_left
     ·show Act.put _ (some 49) _=_
      simp only [Act.put,sia_,scz_,scs_,i64_w,i32_w]
      rfl
     refine on_ 3 50 (fun K hK=>?_)
     refine gt_ Tryz.func19 #[.agg #[.slice t1 t0.length v1],.string K2] (spec_FileAt.calls m2 _ _ t0 K2 Q1 h9 _ ?side1 ?side2 FB.out) ?_
     (case side1=>repeat(first|exact(Kd.C_below e1.out HB.out)|(with_reducible refine Kd.C_alloc ?_ _)|(with_reducible refine Kd.C_drewN ?_ _)|(with_reducible refine Kd.C_drew ?_)))
     (case side2=>exact Y1.out)
     rintro iC hb
     replace h0:=rb_ h0 hb;replace e0:=bb_ e0 hb;replace b0:=bb_ b0 hb;replace HB:=bs_ HB hb;(try clear hb);(try clear GB);(try clear hk);(try clear hi)
     refine hK.out _ _ (bc_ e0 0) (fun hHeld=>?_)
     clear hK K
     refine norm_ (a':=?_) ?_ ?_
     rotate_left
     ·show Act.put _ (some 50) _=_
      simp only [Act.put,sia_,scz_,scs_,i64_w,i32_w]
      rfl
     refine pv_ 4 46 ?_
     refine pv_ 5 51 ?_
     refine pv_ 6 52 ?_
     refine pv_ 7 9 ?_
     refine pv_ 8 10 ?_
     refine done_ (done_of HT_.out (by kernel_rfl)) ?_
     by_cases U6:j9=true
     rotate_left
     ·replace U6:=Bool.eq_false_iff.mpr U6
      subst U6
      rw [if_neg (show ¬(false=true) by decide)] at H
      simp only [Option.some.injEq,Prod.mk.injEq] at H
      obtain⟨rfl,rfl,rfl,rfl,rfl,rfl,rfl,rfl⟩:=H
      try go_wp2_with (first|((with_reducible refine gc_ 21 rfl ?_);refine gv_ 56 Tryz.func21 (spec_ReadJournal.calls m2 s1 Q1 X0 Y0 Z0 a1 b1 F0 a2 false _ vA.out) ?_;rintro l9 IB ⟨I1,hb⟩;have R0:=mk_ (Kd.R_lower I1 (below_size (bw_ HB)));replace h0:=rb_ h0 hb;replace e0:=bb_ e0 hb;replace b0:=bb_ b0 hb;replace HB:=bs_ HB hb;(try clear hb);(try clear I1))|((with_reducible refine gn_ 11 rfl ?_);refine bn_ (cs:=#[.int .i64 0,.int .i64 0,.int .i64 0,.int .i64 0,.int .i64 0,.slice none 0 0]) (t:=30) HB ?_;intro d1 JB hg hb m0 x3 hB_;have A0:=bl_ e0 hg;have m1:=bg_ e0 hg;have B0:=bl_ b0 hg;have q0:=bg_ b0 hg;replace h0:=rb_ h0 hb;replace R0:=rb_ R0 hb;replace e0:=bb_ e0 hb;replace b0:=bb_ b0 hb;replace HB:=hB_;clear hb hB_ hg;obtain⟨m9,o9⟩:=ns_ m1;obtain⟨p9,q9⟩:=ns_ q0;obtain⟨y3,A3,C3,D3,F3,G3,H3,I3,J3,K3,L3,M3⟩:=b6_ m0;obtain⟨N3,O3,P3⟩:=Kd.R_slice R0.out;subst P3;obtain⟨r9,s9⟩:=ns_ v0;obtain⟨Q3,R3,U3,V3,W3,X3,Y3,Z3,a4,b4,d4,e4⟩:=b6_ b0))
      refine bodyPost_ret (results_ctt rfl _ _ g0 30 #[.int .i64 0,.int .i64 0,.int .i64 0,.int .i64 0,.int .i64 0,.slice none 0 0] (0,0) _ rfl bu_ Tryz.underlying30 rfl (by kernel_rfl)) rfl ?_
      exact⟨_,_,er_,by first|exact Kd.R_nil _ _ _ _ _|exact Kd.N_nil _ _ _ _ _|exact Kd.V_nil _ _ _ _ _|exact Kd.Q_nil _ _ _ _ _|exact Kd.S_nil _ _ _ _ _,rq_ (Kd.R_mono (Kd.R_far (p:=⟨g0,5,none⟩) (Kd.R_far (p:=⟨g0,4,none⟩) (Kd.R_far (p:=⟨g0,3,none⟩) (Kd.R_far (p:=⟨g0,2,none⟩) (Kd.R_far (p:=⟨g0,1,none⟩) (Kd.R_far (p:=⟨g0,0,none⟩) (Kd.R_far (p:=⟨d1,5,none⟩) (Kd.R_far (p:=⟨d1,4,none⟩) (Kd.R_far (p:=⟨d1,3,none⟩) (Kd.R_far (p:=⟨d1,2,none⟩) (Kd.R_far (p:=⟨d1,1,none⟩) (Kd.R_far (p:=⟨d1,0,none⟩) (Kd.R_types (Kd.R_types h0.out m0.out (by decide)) b0.out (by decide)) (fun _ hk=>hk.1.2) (.int .i64 X0)) (fun _ hk=>hk.1.2) (.int .i64 Y0)) (fun _ hk=>hk.1.2) (.int .i64 Z0)) (fun _ hk=>hk.1.2) (.int .i64 a1)) (fun _ hk=>hk.1.2) (.int .i64 b1)) (fun _ hk=>hk.1.2) (.slice N3 F0.length O3)) (fun _ hk=>hk.2) (.int .i64 0)) (fun _ hk=>hk.2) (.int .i64 0)) (fun _ hk=>hk.2) (.int .i64 0)) (fun _ hk=>hk.2) (.int .i64 0)) (fun _ hk=>hk.2) (.int .i64 0)) (fun _ hk=>hk.2) (.slice none 0 0)) (fun _ hk=>trivial)),bw_ HB⟩
     subst U6
     rw [if_pos rfl] at H
     obtain⟨t9,KB,H⟩:=ob_ H
     try dsimp only at H
     have L2:=Aside0.mk H
     clear H
     go_upto_if 66 with (first|((with_reducible refine gc_ 21 rfl ?_);refine gv_ 56 Tryz.func21 (spec_ReadJournal.calls m2 s1 Q1 X0 Y0 Z0 a1 b1 F0 a2 true _ vA.out) ?_;rintro l9 jC ⟨I1,hb⟩;have R0:=mk_ (Kd.R_lower I1 (below_size (bw_ HB)));replace h0:=rb_ h0 hb;replace e0:=bb_ e0 hb;replace b0:=bb_ b0 hb;replace HB:=bs_ HB hb;(try clear hb);(try clear hk);(try clear I1))|((with_reducible refine gn_ 11 rfl ?_);refine bn_ (cs:=#[.int .i64 0,.int .i64 0,.int .i64 0,.int .i64 0,.int .i64 0,.slice none 0 0]) (t:=30) HB ?_;intro d1 kC hg hb m0 x3 hB_;have A0:=bl_ e0 hg;have m1:=bg_ e0 hg;have B0:=bl_ b0 hg;have q0:=bg_ b0 hg;replace h0:=rb_ h0 hb;replace R0:=rb_ R0 hb;replace e0:=bb_ e0 hb;replace b0:=bb_ b0 hb;replace HB:=hB_;clear hb hB_ hg;obtain⟨wA,xA⟩:=ns_ m1;obtain⟨yA,zA⟩:=ns_ q0;obtain⟨V6,W6,X6,Y6,Z6,a7,b7,d7,e7,g7,h7,j7⟩:=b6_ m0;obtain⟨n1,o1,v9⟩:=Kd.R_slice R0.out;subst v9;obtain⟨AA,BA⟩:=ns_ n0;obtain⟨l7,m7⟩:=b1_ e0)|((with_reducible refine gc_ 22 rfl ?_);refine gx_ 65 Tryz.func22 #[.agg #[.slice t1 t0.length v1],.string (⟨#[106,43]⟩:ByteArray)] (spec_l03At.calls m2 _ _ t0 (⟨#[106,43]⟩:ByteArray) t9 _ ?side1 ?side2 KB.out) ?_;(case side1=>exact Kd.C_below e1.out (bw_ HB));(case side2=>exact Y1.out);rintro lC hb;replace h0:=mk_ (Kd.R_below (rg_ h0 m0) hb);replace R0:=mk_ (Kd.R_below (rg_ R0 m0) hb);replace e0:=bq_ e0 hb;replace b0:=bq_ b0 hb;replace m0:=bU_ m0 #[.int .i64 X0,.int .i64 Y0,.int .i64 Z0,.int .i64 a1,.int .i64 b1,.slice n1 F0.length o1] hb;replace HB:=bs_ HB hb;(try clear hb);(try clear hk)))
     (try simp only [Act.put,sia_,scz_,scs_])
     go_cut [5] (fun v5 wc=>∃(kq:Nat) (L1:List (S57)),Aside0 (spec_OpenJournal.j2 kq L1 s1 Q1 a2 t0 X0 Y0 Z0 a1 b1 F0=some (r1,r2,r3,r4,r5,r6,r7,r8))∧Aside0 (kq≤m2)∧Aside0 (Kd.R k57 57 wc w.heap.size (fun _=>True) v5 L1)∧Aside0 (Kd.R k105 105 wc w.heap.size (fun _=>True) (.slice n1 F0.length o1) F0)∧Aside0 (wc.heap[D1]? =some (.cells #[(.slice t1 t0.length v1)] 36 (0,0)))∧Aside0 (wc.heap[g0]? =some (.cells #[.int .i64 0,.int .i64 0,.int .i64 0,.int .i64 0,.int .i64 0,(.slice none 0 0)] 30 (0,0)))∧Aside0 (wc.heap[d1]? =some (.cells #[.int .i64 X0,.int .i64 Y0,.int .i64 Z0,.int .i64 a1,.int .i64 b1,(.slice n1 F0.length o1)] 30 (0,0)))∧Aside0 (Below w.heap.size w wc))
     case first=>
      have H:=L2.out
      clear L2
      refine ih_ H ?_ ?_ <;> clear H <;> intro M1 H
      ·(first|rw [M1]|(simp only [i64_w,i32_w];rw [M1])|skip)
       have H':=Aside0.mk H
       clear H
       go_wp2
       go_meet
       case rel=>exact⟨_,(H1),H',⟨by have:=J1.out;have:=X1.out;first|omega|exact Nat.le_refl _⟩,⟨rq_ h0.out⟩,⟨rq_ R0.out⟩,⟨bf_⟩,⟨bf_⟩,⟨bf_⟩,⟨bw_ HB⟩⟩
      (first|rw [M1]|(simp only [i64_w,i32_w];rw [M1])|skip)
      obtain⟨CA,H⟩:=gd_ H
      have g4:=Aside0.mk CA
      clear CA
      obtain⟨w9,b2⟩:∃y_:List (S57),y_=(H1++ [(⟨4,(⟨#[106,43]⟩:ByteArray),(⟨#[]⟩:ByteArray),(⟨#[]⟩:ByteArray)⟩:S57)]):=⟨_,rfl⟩
      rw [←b2] at H
      have h4:=Aside0.mk b2
      clear b2
      have H':=Aside0.mk H
      clear H
      go_wp2_with (first|((with_reducible refine gate_builtin (b:= .append) (xs:=#[.tmp 67,.tmp 69]) rfl ?_);at_builtin;refine Kd.R_append k57 (w0:=w) w.heap.size rfl (.tmp 67) (.tmp 69) 31 57 (.agg #[(.int .i64 0),(.string ⟨#[]⟩),(.string ⟨#[]⟩),(.string ⟨#[]⟩)]) 56 rfl Tryz.underlying31 info57 rfl (by decide) (by omega) H2 H1 (⟨4,(⟨#[106,43]⟩:ByteArray),(⟨#[]⟩:ByteArray),(⟨#[]⟩:ByteArray)⟩:S57) [.int .i64 4,.string (⟨#[106,43]⟩:ByteArray),.string (⟨#[]⟩:ByteArray),.string (⟨#[]⟩:ByteArray)] (fun _=>True) (fun _=>False) rfl rfl ?aP (fun _ hk=>hk.elim) ?aF ?aO ?aB ?aS ?aL ?_;(case aP=>exact k57_mkM _ _ _ (⟨4,(⟨#[106,43]⟩:ByteArray),(⟨#[]⟩:ByteArray),(⟨#[]⟩:ByteArray)⟩:S57));(case aB=>exact(bw_ HB));(case aF=>exact(fun _ _=>trivial));(case aO=>exact(rp_ h0));(case aS=>exact(below_size (bw_ HB)));(case aL=>have:=g4.out;omega);intro LB mC ho hb hg hat;rw [←h4.out] at ho;have j4:=mk_ (ho);replace e0:=bgr_ e0 hg (Kd.R_ne h0.out e0.out (by decide));replace b0:=bgr_ b0 hg (Kd.R_ne h0.out b0.out (by decide));replace R0:=mk_ (Kd.R_over' (rp_ R0) (Kd.R_typed (rp_ h0)) (by decide) hg);replace m0:=bgr_ m0 hg (Kd.R_ne h0.out m0.out (by decide));replace HB:=mk_ (hb);clear h0;clear ho hb hg hat))
      go_meet
      case rel=>exact⟨_,(w9),H',⟨by have:=J1.out;have:=X1.out;first|omega|exact Nat.le_refl _⟩,⟨rq_ j4.out⟩,⟨rq_ R0.out⟩,⟨bf_⟩,⟨bf_⟩,⟨bf_⟩,⟨bw_ HB⟩⟩
     case rest=>
      clear L2
      (try clear p2);(try clear p3);(try clear q3);(try clear MB);(try clear p6);(try clear p33);(try clear DA);(try clear x9);(try clear U0);(try clear V0);(try clear W0);(try clear p2);(try clear F1);(try clear G1)
      obtain⟨kq,L1,HA,R1,h0,a0,e0,b0,m0,HB⟩:=hcut
      cases kq with
      |zero=>exact absurd HA.out (by simp [spec_OpenJournal.j2])
      |succ l4=>
       have H:=HA.out
       clear HA
       simp only [spec_OpenJournal.j2] at H
       have H':=Aside0.mk H
       clear H
       go_wp2
       go_loopg [5,14] l4 (fun kq v5 NB w'=>∃(C1:List (S57)) (r0:Int),NB= .int .i64 r0∧Aside0 (spec_OpenJournal.l1 kq C1 s1 Q1 a2 r0 t0 X0 Y0 Z0 a1 b1 F0=some (r1,r2,r3,r4,r5,r6,r7,r8))∧Aside0 (kq≤l4)∧Aside0 (Kd.R k57 57 w' w.heap.size (fun _=>True) v5 C1)∧Aside0 (Kd.R k105 105 w' w.heap.size (fun _=>True) (.slice n1 F0.length o1) F0)∧Aside0 (w'.heap[D1]? =some (.cells #[(.slice t1 t0.length v1)] 36 (0,0)))∧Aside0 (w'.heap[g0]? =some (.cells #[.int .i64 0,.int .i64 0,.int .i64 0,.int .i64 0,.int .i64 0,(.slice none 0 0)] 30 (0,0)))∧Aside0 (w'.heap[d1]? =some (.cells #[.int .i64 X0,.int .i64 Y0,.int .i64 Z0,.int .i64 a1,.int .i64 b1,(.slice n1 F0.length o1)] 30 (0,0)))∧Aside0 (Below w.heap.size w w'))
       case atStart=>exact⟨(L1),(0),rl_,H',⟨Nat.le_refl _⟩,⟨rq_ h0.out⟩,⟨rq_ a0.out⟩,⟨bf_⟩,⟨bf_⟩,⟨bf_⟩,⟨bw_ HB⟩⟩
       case round=>
        clear H'
        (try clear p2);(try clear p3);(try clear q3);(try clear MB);(try clear p6);(try clear p33);(try clear DA);(try clear x9);(try clear U0);(try clear V0);(try clear W0);(try clear p2);(try clear p3);(try clear p33);(try clear F1);(try clear p6);(try clear q3);(try clear DA);(try clear G1)
        obtain⟨C1,r0,rfl,HA,X2,h0,a0,e0,b0,m0,HB⟩:=hrel
        cases gk with
        |zero=>exact absurd HA.out (by simp [spec_OpenJournal.l1])
        |succ k4=>
         have H:=HA.out
         clear HA
         simp only [spec_OpenJournal.l1] at H
         by_cases Y2:r0<(t0.length:Int)
         ·rw [if_pos Y2] at H
          have m4:=decide_eq_true Y2
          clear Y2
          obtain⟨EA,H⟩:=gd_ H
          have FA:=decide_eq_true EA
          clear EA
          obtain⟨q2,y9,H⟩:=ob_ H
          try dsimp only at H
          refine ih_ H ?_ ?_ <;> clear H <;> intro GA H
          ·have H':=Aside0.mk H
           clear H
           obtain⟨IA,JA⟩:=ns_ n0
           obtain⟨KA,LA⟩:=ns_ A0
           obtain⟨o7,p7⟩:=b1_ e0
           have x1:0≤(r0:Int):=od_
           have y1:r0<(t0.length:Int):=od_
           obtain⟨d2,e2,M0,N0,O0⟩:=at_T49 e1.out r0 x1 y1
           cases e2
           replace M0:=hc_ HB M0
           replace N0:=hc_ HB N0
           replace O0:=hc_ HB O0
           replace x1:=eq_true x1
           replace y1:=eq_true y1
           go_wp2_with (first|((with_reducible refine gc_ 18 rfl ?_);refine gm_ 84 Tryz.func18 (spec_l07Number.calls k4 ((rd_T49 t0 r0).f0) q2 _ y9.out) ?_;rintro nC hb;replace h0:=rb_ h0 hb;replace a0:=rb_ a0 hb;replace e0:=bb_ e0 hb;replace b0:=bb_ b0 hb;replace m0:=bb_ m0 hb;replace HB:=bs_ HB hb;(try clear hb)))
           go_roundg k4
           case measure=>have:=J1.out;have:=X1.out;have:=R1.out;have:=X2.out;omega
           case rel=>exact⟨(C1),(wrap64 (r0+1)),rl_,H',⟨by have:=J1.out;have:=X1.out;have:=R1.out;have:=X2.out;omega⟩,⟨rq_ h0.out⟩,⟨rq_ a0.out⟩,⟨bf_⟩,⟨bf_⟩,⟨bf_⟩,⟨bw_ HB⟩⟩
          by_cases M2:q2=s1
          ·rw [if_pos M2] at H
           have o4:=beq_iff_eq.mpr M2
           have q4:=bne_eq_false_iff_eq.mpr M2
           clear M2
           have H':=Aside0.mk H
           clear H
           obtain⟨MA,NA⟩:=ns_ n0
           obtain⟨OA,PA⟩:=ns_ A0
           obtain⟨q7,s7⟩:=b1_ e0
           have x1:0≤(r0:Int):=od_
           have y1:r0<(t0.length:Int):=od_
           obtain⟨d2,e2,M0,N0,O0⟩:=at_T49 e1.out r0 x1 y1
           cases e2
           replace M0:=hc_ HB M0
           replace N0:=hc_ HB N0
           replace O0:=hc_ HB O0
           replace x1:=eq_true x1
           replace y1:=eq_true y1
           go_wp2_with (first|((with_reducible refine gc_ 18 rfl ?_);refine gm_ 84 Tryz.func18 (spec_l07Number.calls k4 ((rd_T49 t0 r0).f0) q2 _ y9.out) ?_;rintro oC hb;replace h0:=rb_ h0 hb;replace a0:=rb_ a0 hb;replace e0:=bb_ e0 hb;replace b0:=bb_ b0 hb;replace m0:=bb_ m0 hb;replace HB:=bs_ HB hb;(try clear hb)))
           go_roundg k4
           case measure=>have:=J1.out;have:=X1.out;have:=R1.out;have:=X2.out;omega
           case rel=>exact⟨(C1),(wrap64 (r0+1)),rl_,H',⟨by have:=J1.out;have:=X1.out;have:=R1.out;have:=X2.out;omega⟩,⟨rq_ h0.out⟩,⟨rq_ a0.out⟩,⟨bf_⟩,⟨bf_⟩,⟨bf_⟩,⟨bw_ HB⟩⟩
          rw [if_neg M2] at H
          have o4:=beq_eq_false_iff_ne.mpr M2
          have q4:=bne_iff_ne.mpr M2
          obtain⟨QA,H⟩:=gd_ H
          have s4:=Aside0.mk QA
          clear QA
          obtain⟨A9,g2⟩:∃y_:List (S57),y_=(C1++ [(⟨4,(rd_T49 t0 r0).f0,(⟨#[]⟩:ByteArray),(⟨#[]⟩:ByteArray)⟩:S57)]):=⟨_,rfl⟩
          rw [←g2] at H
          have t4:=Aside0.mk g2
          clear g2
          have H':=Aside0.mk H
          clear H
          obtain⟨RA,SA⟩:=ns_ n0
          obtain⟨TA,UA⟩:=ns_ A0
          obtain⟨t7,w7⟩:=b1_ e0
          have x1:0≤(r0:Int):=od_
          have y1:r0<(t0.length:Int):=od_
          obtain⟨d2,e2,M0,N0,O0⟩:=at_T49 e1.out r0 x1 y1
          cases e2
          replace M0:=hc_ HB M0
          replace N0:=hc_ HB N0
          replace O0:=hc_ HB O0
          replace x1:=eq_true x1
          replace y1:=eq_true y1
          go_wp2_with (first|((with_reducible refine gc_ 18 rfl ?_);refine gm_ 84 Tryz.func18 (spec_l07Number.calls k4 ((rd_T49 t0 r0).f0) q2 _ y9.out) ?_;rintro pC hb;replace h0:=rb_ h0 hb;replace a0:=rb_ a0 hb;replace e0:=bb_ e0 hb;replace b0:=bb_ b0 hb;replace m0:=bb_ m0 hb;replace HB:=bs_ HB hb;(try clear hb);(try clear hk);obtain⟨x7,y7⟩:=b1_ e0;have N2:0≤(r0:Int):=od_;have O2:r0<(t0.length:Int):=od_;obtain⟨v4,C9,N1,O1,P1⟩:=at_T49 e1.out r0 N2 O2;obtain rfl:d2=v4:=(by injection C9);replace N1:=hc_ HB N1;replace O1:=hc_ HB O1;replace P1:=hc_ HB P1;replace N2:=eq_true N2;replace O2:=eq_true O2)|((with_reducible refine gate_builtin (b:= .append) (xs:=#[.tmp 92,.tmp 100]) rfl ?_);at_builtin;refine Kd.R_append k57 (w0:=w) w.heap.size rfl (.tmp 92) (.tmp 100) 31 57 (.agg #[(.int .i64 0),(.string ⟨#[]⟩),(.string ⟨#[]⟩),(.string ⟨#[]⟩)]) 56 rfl Tryz.underlying31 info57 rfl (by decide) (by omega) u5 C1 (⟨4,(rd_T49 t0 r0).f0,(⟨#[]⟩:ByteArray),(⟨#[]⟩:ByteArray)⟩:S57) [.int .i64 4,.string ((rd_T49 t0 r0).f0),.string (⟨#[]⟩:ByteArray),.string (⟨#[]⟩:ByteArray)] (fun _=>True) (fun _=>False) rfl rfl ?aP (fun _ hk=>hk.elim) ?aF ?aO ?aB ?aS ?aL ?_;(case aP=>exact k57_mkM _ _ _ (⟨4,(rd_T49 t0 r0).f0,(⟨#[]⟩:ByteArray),(⟨#[]⟩:ByteArray)⟩:S57));(case aB=>exact(bw_ HB));(case aF=>exact(fun _ _=>trivial));(case aO=>exact(rp_ h0));(case aS=>exact(below_size (bw_ HB)));(case aL=>have:=s4.out;omega);intro OB w64 ho hb hg hat;rw [←t4.out] at ho;have x4:=mk_ (ho);replace a0:=mk_ (Kd.R_over' (rp_ a0) (Kd.R_typed (rp_ h0)) (by decide) hg);replace e0:=bgr_ e0 hg (Kd.R_ne h0.out e0.out (by decide));replace b0:=bgr_ b0 hg (Kd.R_ne h0.out b0.out (by decide));replace m0:=bgr_ m0 hg (Kd.R_ne h0.out m0.out (by decide));replace HB:=mk_ (hb);clear h0;clear ho hb hg hat))
          go_roundg k4
          case measure=>have:=J1.out;have:=X1.out;have:=R1.out;have:=X2.out;omega
          case rel=>exact⟨(A9),(wrap64 (r0+1)),rl_,H',⟨by have:=J1.out;have:=X1.out;have:=R1.out;have:=X2.out;omega⟩,⟨rq_ x4.out⟩,⟨rq_ a0.out⟩,⟨bf_⟩,⟨bf_⟩,⟨bf_⟩,⟨bw_ HB⟩⟩
         rw [if_neg Y2] at H
         have m4:=decide_eq_false Y2
         clear Y2
         by_cases P2:a2=(Q1.size:Int)
         ·rw [if_pos P2] at H
          have y4:=beq_iff_eq.mpr P2
          have A4:=bne_eq_false_iff_eq.mpr P2
          clear P2
          obtain⟨⟨s2,t2,v2,x2,y2,A2⟩,PB,H⟩:=ob_ H
          try dsimp only at H
          simp only [Option.some.injEq,Prod.mk.injEq] at H
          obtain⟨rfl,rfl,rfl,rfl,rfl,rfl,rfl,rfl⟩:=H
          obtain⟨VA,WA⟩:=ns_ n0
          obtain⟨XA,YA⟩:=ns_ A0
          obtain⟨A7,C7⟩:=b1_ e0
          obtain⟨ZA,bB⟩:=ns_ q0
          obtain⟨D7,F7,G7,H7,I7,J7,K7,M7,N7,O7,P7,Q7⟩:=b6_ m0
          go_wp2_with (first|((with_reducible refine gc_ 23 rfl ?_);refine gl_ 107 Tryz.func23 #[.agg #[.int .i64 X0,.int .i64 Y0,.int .i64 Z0,.int .i64 a1,.int .i64 b1,.slice n1 F0.length o1]] ?_;(with_reducible refine(spec_l07Copy.calls X0 Y0 Z0 a1 b1 _ _ F0 s2 t2 v2 x2 y2 A2 _ ?side1 ?side2 PB.out).mono ?_);(case side1=>repeat(first|exact(Kd.R_reads' a0.out).2.2|(with_reducible refine Kd.C_alloc ?_ _)|(with_reducible refine Kd.C_drewN ?_ _)|(with_reducible refine Kd.C_drew ?_)));(case side2=>exact(Kd.R_reads' a0.out).2.1);rintro e qC ⟨QB,rfl,I1,hb⟩;refine⟨_,rfl,?_⟩;have F2:=mk_ (Kd.R_lower (Kd.R_new' I1 (Kd.R_lt (rp_ a0))) (below_size (bw_ HB)));replace h0:=rb_ h0 hb;replace a0:=mk_ (Kd.R_elder' (rp_ a0) (Kd.R_base I1) hb);replace e0:=bb_ e0 hb;replace b0:=bb_ b0 hb;replace m0:=bb_ m0 hb;replace HB:=bs_ HB hb;(try clear hb);(try clear I1);obtain⟨R7,U7,V7,W7,X7,Y7,Z7,a8,b8,d8,e8,g8⟩:=b6_ b0;obtain⟨Q2,R2,D9⟩:=Kd.R_slice F2.out;subst D9))
          refine bodyPost_ret (results_ctt rfl _ _ g0 30 #[.int .i64 s2,.int .i64 t2,.int .i64 v2,.int .i64 x2,.int .i64 y2,.slice Q2 A2.length R2] (0,0) _ rfl bu_ Tryz.underlying30 rfl (by kernel_rfl)) rfl ?_
          exact⟨_,_,er_,rq_ (Kd.R_mono (Kd.R_far (p:=⟨g0,5,none⟩) (Kd.R_far (p:=⟨g0,4,none⟩) (Kd.R_far (p:=⟨g0,3,none⟩) (Kd.R_far (p:=⟨g0,2,none⟩) (Kd.R_far (p:=⟨g0,1,none⟩) (Kd.R_far (p:=⟨g0,0,none⟩) (Kd.R_types F2.out b0.out (by decide)) (fun _ hk=>hk.2) (.int .i64 s2)) (fun _ hk=>hk.2) (.int .i64 t2)) (fun _ hk=>hk.2) (.int .i64 v2)) (fun _ hk=>hk.2) (.int .i64 x2)) (fun _ hk=>hk.2) (.int .i64 y2)) (fun _ hk=>hk.2) (.slice Q2 A2.length R2)) (fun _ hk=>trivial)),rq_ (Kd.R_mono (Kd.R_far (p:=⟨g0,5,none⟩) (Kd.R_far (p:=⟨g0,4,none⟩) (Kd.R_far (p:=⟨g0,3,none⟩) (Kd.R_far (p:=⟨g0,2,none⟩) (Kd.R_far (p:=⟨g0,1,none⟩) (Kd.R_far (p:=⟨g0,0,none⟩) (Kd.R_types h0.out b0.out (by decide)) (fun _ hk=>hk.2) (.int .i64 s2)) (fun _ hk=>hk.2) (.int .i64 t2)) (fun _ hk=>hk.2) (.int .i64 v2)) (fun _ hk=>hk.2) (.int .i64 x2)) (fun _ hk=>hk.2) (.int .i64 y2)) (fun _ hk=>hk.2) (.slice Q2 A2.length R2)) (fun _ hk=>trivial)),bw_ HB⟩
         rw [if_neg P2] at H
         have y4:=beq_eq_false_iff_ne.mpr P2
         have A4:=bne_iff_ne.mpr P2
         obtain⟨⟨U1,H0,I0,J0,K0,L0,G0,F9⟩,cB,H⟩:=ob_ H
         try dsimp only at H
         by_cases h8:F9=true
         rotate_left
         ·replace h8:=Bool.eq_false_iff.mpr h8
          subst h8
          rw [if_neg (show ¬(false=true) by decide)] at H
          obtain⟨G9,h2⟩:∃y_:List (S57),y_=(([]:List (S57))):=⟨_,rfl⟩
          replace H:(some (0,0,0,0,0,([]:List (S105)),G9,false))=some (r1,r2,r3,r4,r5,r6,r7,r8):=by first|(rw [h2];with_reducible exact H)|with_reducible exact H
          have G2:=Aside0.mk h2
          clear h2
          simp only [Option.some.injEq,Prod.mk.injEq] at H
          obtain⟨rfl,rfl,rfl,rfl,rfl,rfl,rfl,rfl⟩:=H
          obtain⟨H9,I9⟩:=ns_ n0
          obtain⟨J9,K9⟩:=ns_ A0
          obtain⟨C4,D4⟩:=b1_ e0
          obtain⟨L9,M9⟩:=ns_ q0
          obtain⟨F4,G4,H4,I4,J4,K4,L4,M4,N4,O4,P4,Q4⟩:=b6_ m0
          go_wp2_with (first|((with_reducible refine gc_ 24 rfl ?_);refine gl_ 112 Tryz.func24 #[.agg #[.int .i64 X0,.int .i64 Y0,.int .i64 Z0,.int .i64 a1,.int .i64 b1,.slice n1 F0.length o1],.agg #[.int .i64 X0,.int .i64 Y0,.int .i64 Z0,.int .i64 a1,.int .i64 b1,.slice n1 F0.length o1]] ?_;(with_reducible refine(spec_l07Anew.calls k4 X0 Y0 Z0 a1 b1 _ _ F0 X0 Y0 Z0 a1 b1 _ _ F0 U1 H0 I0 J0 K0 L0 G0 false _ ?side1 ?side2 ?side3 ?side4 cB.out).mono ?_);(case side1=>repeat(first|exact(Kd.R_reads' a0.out).2.2|(with_reducible refine Kd.C_alloc ?_ _)|(with_reducible refine Kd.C_drewN ?_ _)|(with_reducible refine Kd.C_drew ?_)));(case side2=>exact(Kd.R_reads' a0.out).2.1);(case side3=>repeat(first|exact(Kd.R_reads' a0.out).2.2|(with_reducible refine Kd.C_alloc ?_ _)|(with_reducible refine Kd.C_drewN ?_ _)|(with_reducible refine Kd.C_drew ?_)));(case side4=>exact(Kd.R_reads' a0.out).2.1);rintro e RB ⟨U2,N9,rfl,I1,V2,hb⟩;refine⟨_,rfl,?_⟩;have x0:=mk_ (Kd.R_lower (Kd.R_new' I1 (Kd.R_lt (rp_ h0))) (below_size (bw_ HB)));have y0:=mk_ (Kd.R_lower (Kd.R_new' V2 (Kd.R_lt (rp_ a0))) (below_size (bw_ HB)));replace h0:=mk_ (Kd.R_elder' (rp_ h0) (Kd.R_base I1) hb);replace a0:=mk_ (Kd.R_elder' (rp_ a0) (Kd.R_base V2) hb);replace e0:=bb_ e0 hb;replace b0:=bb_ b0 hb;replace m0:=bb_ m0 hb;replace HB:=bs_ HB hb;(try clear hb);(try clear hk);(try clear I1);(try clear V2))|((with_reducible refine gn_ 17 rfl ?_);refine bn_ (cs:=#[.int .i64 0,.int .i64 0,.int .i64 0,.int .i64 0,.int .i64 0,.slice none 0 0]) (t:=30) HB ?_;intro d0 SB hg hb p0 R4 hB_;have V1:=bl_ e0 hg;have p1:=bg_ e0 hg;have C0:=bl_ b0 hg;have o0:=bg_ b0 hg;have W1:=bl_ m0 hg;have q1:=bg_ m0 hg;replace h0:=rb_ h0 hb;replace a0:=rb_ a0 hb;replace x0:=rb_ x0 hb;replace y0:=rb_ y0 hb;replace e0:=bb_ e0 hb;replace b0:=bb_ b0 hb;replace m0:=bb_ m0 hb;replace HB:=hB_;clear hb hB_ hg;obtain⟨O9,P9⟩:=ns_ p1;obtain⟨Q9,R9⟩:=ns_ o0;obtain⟨U9,V9⟩:=ns_ q1;obtain⟨U4,V4,W4,X4,Y4,Z4,a5,b5,d5,e5,g5,h5⟩:=b6_ p0;obtain⟨j5,l5,m5⟩:=Kd.R_slice y0.out;subst m5)|((with_reducible refine gn_ 119 rfl ?_);refine Kd.R_lit k57 _ 57 ?hg (N:=119) ?hd (xs:=([]:List (S57))) (inner:=[]) (ok:=fun _=>True) (okp:=fun _=>True) ?hr ?hp (fun _ hk=>hk) trivial (Below.refl _ _) (Nat.le_refl _) (by simp) ?_;(case hd=>rfl);(case hg=>rfl);(case hr=>first|(go_simp;done)|(go_simp;rfl));(case hp=>exact(Reps.none _ _));intro TB UB A1 hb hg_ hnew_;clear hg_ hnew_;(first|rw [←G2.out] at A1|(simp only [Int.reduceToNat] at A1;rw [←G2.out] at A1));have o5:=mk_ (Kd.R_lower (Kd.R_new' (Kd.R_new' A1 (Kd.R_lt (rg_ h0 p0))) (Kd.R_lt (rg_ x0 p0))) (below_size (bw_ HB)));replace h0:=mk_ (Kd.R_elder' (rg_ h0 p0) (Kd.R_base A1) hb);replace a0:=mk_ (Kd.R_below (rg_ a0 p0) hb);replace x0:=mk_ (Kd.R_elder' (rg_ x0 p0) (Kd.R_base A1) hb);replace y0:=mk_ (Kd.R_below (rg_ y0 p0) hb);replace e0:=bq_ e0 hb;replace b0:=bq_ b0 hb;replace m0:=bq_ m0 hb;replace p0:=bU_ p0 #[.int .i64 H0,.int .i64 I0,.int .i64 J0,.int .i64 K0,.int .i64 L0,.slice j5 G0.length l5] hb;replace HB:=bs_ HB hb;clear hb A1;obtain⟨p5,q5,s5,t5,w5,x5,y5,A5,C5,D5,F5,G5⟩:=b6_ b0))
          refine bodyPost_ret (results_ctt rfl _ _ g0 30 #[.int .i64 0,.int .i64 0,.int .i64 0,.int .i64 0,.int .i64 0,.slice none 0 0] (0,0) _ rfl bu_ Tryz.underlying30 rfl (by kernel_rfl)) rfl ?_
          exact⟨_,_,er_,by first|exact Kd.R_nil _ _ _ _ _|exact Kd.N_nil _ _ _ _ _|exact Kd.V_nil _ _ _ _ _|exact Kd.Q_nil _ _ _ _ _|exact Kd.S_nil _ _ _ _ _,rq_ (Kd.R_mono (Kd.R_far (p:=⟨g0,5,none⟩) (Kd.R_far (p:=⟨g0,4,none⟩) (Kd.R_far (p:=⟨g0,3,none⟩) (Kd.R_far (p:=⟨g0,2,none⟩) (Kd.R_far (p:=⟨g0,1,none⟩) (Kd.R_far (p:=⟨g0,0,none⟩) (Kd.R_types o5.out b0.out (by decide)) (fun _ hk=>hk.2) (.int .i64 0)) (fun _ hk=>hk.2) (.int .i64 0)) (fun _ hk=>hk.2) (.int .i64 0)) (fun _ hk=>hk.2) (.int .i64 0)) (fun _ hk=>hk.2) (.int .i64 0)) (fun _ hk=>hk.2) (.slice none 0 0)) (fun _ hk=>trivial)),bw_ HB⟩
         subst h8
         rw [if_pos rfl] at H
         obtain⟨dB,H⟩:=gd_ H
         have H5:=Aside0.mk dB
         clear dB
         obtain⟨VB,l2⟩:∃y_:List (S57),y_=(C1++U1):=⟨_,rfl⟩
         rw [←l2] at H
         have I5:=Aside0.mk l2
         clear l2
         simp only [Option.some.injEq,Prod.mk.injEq] at H
         obtain⟨rfl,rfl,rfl,rfl,rfl,rfl,rfl,rfl⟩:=H
         obtain⟨eB,fB⟩:=ns_ n0
         obtain⟨gB,hB⟩:=ns_ A0
         obtain⟨j8,l8⟩:=b1_ e0
         obtain⟨iB,jB⟩:=ns_ q0
         obtain⟨m8,o8,p8,q8,s8,t8,v8,w8,x8,y8,B8,C8⟩:=b6_ m0
         try go_wp2_with (first|((with_reducible refine gc_ 24 rfl ?_);refine gl_ 112 Tryz.func24 #[.agg #[.int .i64 X0,.int .i64 Y0,.int .i64 Z0,.int .i64 a1,.int .i64 b1,.slice n1 F0.length o1],.agg #[.int .i64 X0,.int .i64 Y0,.int .i64 Z0,.int .i64 a1,.int .i64 b1,.slice n1 F0.length o1]] ?_;(with_reducible refine(spec_l07Anew.calls k4 X0 Y0 Z0 a1 b1 _ _ F0 X0 Y0 Z0 a1 b1 _ _ F0 U1 H0 I0 J0 K0 L0 G0 true _ ?side1 ?side2 ?side3 ?side4 cB.out).mono ?_);(case side1=>repeat(first|exact(Kd.R_reads' a0.out).2.2|(with_reducible refine Kd.C_alloc ?_ _)|(with_reducible refine Kd.C_drewN ?_ _)|(with_reducible refine Kd.C_drew ?_)));(case side2=>exact(Kd.R_reads' a0.out).2.1);(case side3=>repeat(first|exact(Kd.R_reads' a0.out).2.2|(with_reducible refine Kd.C_alloc ?_ _)|(with_reducible refine Kd.C_drewN ?_ _)|(with_reducible refine Kd.C_drew ?_)));(case side4=>exact(Kd.R_reads' a0.out).2.1);rintro e rC ⟨U2,N9,rfl,I1,V2,hb⟩;refine⟨_,rfl,?_⟩;have x0:=mk_ (Kd.R_lower (Kd.R_new' I1 (Kd.R_lt (rp_ h0))) (below_size (bw_ HB)));have y0:=mk_ (Kd.R_lower (Kd.R_new' V2 (Kd.R_lt (rp_ a0))) (below_size (bw_ HB)));replace h0:=mk_ (Kd.R_elder' (rp_ h0) (Kd.R_base I1) hb);replace a0:=mk_ (Kd.R_elder' (rp_ a0) (Kd.R_base V2) hb);replace e0:=bb_ e0 hb;replace b0:=bb_ b0 hb;replace m0:=bb_ m0 hb;replace HB:=bs_ HB hb;(try clear hb);(try clear I1);(try clear V2))|((with_reducible refine gn_ 17 rfl ?_);refine bn_ (cs:=#[.int .i64 0,.int .i64 0,.int .i64 0,.int .i64 0,.int .i64 0,.slice none 0 0]) (t:=30) HB ?_;intro d0 n2 hg hb p0 R4 hB_;have V1:=bl_ e0 hg;have p1:=bg_ e0 hg;have C0:=bl_ b0 hg;have o0:=bg_ b0 hg;have W1:=bl_ m0 hg;have q1:=bg_ m0 hg;replace h0:=rb_ h0 hb;replace a0:=rb_ a0 hb;replace x0:=rb_ x0 hb;replace y0:=rb_ y0 hb;replace e0:=bb_ e0 hb;replace b0:=bb_ b0 hb;replace m0:=bb_ m0 hb;replace HB:=hB_;clear hb hB_ hg;obtain⟨kB,lB⟩:=ns_ p1;obtain⟨mB,nB⟩:=ns_ o0;obtain⟨oB,pB⟩:=ns_ q1;obtain⟨D8,F8,G8,H8,I8,J8,K8,L8,M8,N8,O8,P8⟩:=b6_ p0;obtain⟨P0,Q0,W9⟩:=Kd.R_slice y0.out;subst W9))
         have Z2:Aside0 (Kd.R k57 57 ((((((n2.setCell ⟨d0,0,none⟩ (.int .i64 H0)).setCell ⟨d0,1,none⟩ (.int .i64 I0)).setCell ⟨d0,2,none⟩ (.int .i64 J0)).setCell ⟨d0,3,none⟩ (.int .i64 K0)).setCell ⟨d0,4,none⟩ (.int .i64 L0)).setCell ⟨d0,5,none⟩ (.slice P0 G0.length Q0)) w.heap.size (fun k_=>some k_≠(U2:Value).ownBlock) u5 C1):=⟨rq_ (Kd.R_mono (Kd.R_far (p:=⟨d0,5,none⟩) (Kd.R_far (p:=⟨d0,4,none⟩) (Kd.R_far (p:=⟨d0,3,none⟩) (Kd.R_far (p:=⟨d0,2,none⟩) (Kd.R_far (p:=⟨d0,1,none⟩) (Kd.R_far (p:=⟨d0,0,none⟩) (Kd.R_types h0.out p0.out (by decide)) (fun _ hk=>hk.2) (.int .i64 H0)) (fun _ hk=>hk.2) (.int .i64 I0)) (fun _ hk=>hk.2) (.int .i64 J0)) (fun _ hk=>hk.2) (.int .i64 K0)) (fun _ hk=>hk.2) (.int .i64 L0)) (fun _ hk=>hk.2) (.slice P0 G0.length Q0)) (fun _ hk=>hk.1.2))⟩
         have a3:Aside0 (Kd.R k105 105 ((((((n2.setCell ⟨d0,0,none⟩ (.int .i64 H0)).setCell ⟨d0,1,none⟩ (.int .i64 I0)).setCell ⟨d0,2,none⟩ (.int .i64 J0)).setCell ⟨d0,3,none⟩ (.int .i64 K0)).setCell ⟨d0,4,none⟩ (.int .i64 L0)).setCell ⟨d0,5,none⟩ (.slice P0 G0.length Q0)) w.heap.size (fun k_=>some k_≠(.slice P0 G0.length Q0:Value).ownBlock) (.slice n1 F0.length o1) F0):=⟨rq_ (Kd.R_mono (Kd.R_far (p:=⟨d0,5,none⟩) (Kd.R_far (p:=⟨d0,4,none⟩) (Kd.R_far (p:=⟨d0,3,none⟩) (Kd.R_far (p:=⟨d0,2,none⟩) (Kd.R_far (p:=⟨d0,1,none⟩) (Kd.R_far (p:=⟨d0,0,none⟩) (Kd.R_types a0.out p0.out (by decide)) (fun _ hk=>hk.2) (.int .i64 H0)) (fun _ hk=>hk.2) (.int .i64 I0)) (fun _ hk=>hk.2) (.int .i64 J0)) (fun _ hk=>hk.2) (.int .i64 K0)) (fun _ hk=>hk.2) (.int .i64 L0)) (fun _ hk=>hk.2) (.slice P0 G0.length Q0)) (fun _ hk=>hk.1.2))⟩
         have b3:Aside0 (Kd.R k57 57 ((((((n2.setCell ⟨d0,0,none⟩ (.int .i64 H0)).setCell ⟨d0,1,none⟩ (.int .i64 I0)).setCell ⟨d0,2,none⟩ (.int .i64 J0)).setCell ⟨d0,3,none⟩ (.int .i64 K0)).setCell ⟨d0,4,none⟩ (.int .i64 L0)).setCell ⟨d0,5,none⟩ (.slice P0 G0.length Q0)) w.heap.size (fun k_=>some k_≠(u5:Value).ownBlock) U2 U1):=⟨rq_ (Kd.R_mono (Kd.R_far (p:=⟨d0,5,none⟩) (Kd.R_far (p:=⟨d0,4,none⟩) (Kd.R_far (p:=⟨d0,3,none⟩) (Kd.R_far (p:=⟨d0,2,none⟩) (Kd.R_far (p:=⟨d0,1,none⟩) (Kd.R_far (p:=⟨d0,0,none⟩) (Kd.R_types x0.out p0.out (by decide)) (fun _ hk=>hk.2) (.int .i64 H0)) (fun _ hk=>hk.2) (.int .i64 I0)) (fun _ hk=>hk.2) (.int .i64 J0)) (fun _ hk=>hk.2) (.int .i64 K0)) (fun _ hk=>hk.2) (.int .i64 L0)) (fun _ hk=>hk.2) (.slice P0 G0.length Q0)) (fun _ hk=>hk.1.2))⟩
         have d3:Aside0 (Kd.R k105 105 ((((((n2.setCell ⟨d0,0,none⟩ (.int .i64 H0)).setCell ⟨d0,1,none⟩ (.int .i64 I0)).setCell ⟨d0,2,none⟩ (.int .i64 J0)).setCell ⟨d0,3,none⟩ (.int .i64 K0)).setCell ⟨d0,4,none⟩ (.int .i64 L0)).setCell ⟨d0,5,none⟩ (.slice P0 G0.length Q0)) w.heap.size (fun k_=>some k_≠(.slice n1 F0.length o1:Value).ownBlock) (.slice P0 G0.length Q0) G0):=⟨rq_ (Kd.R_mono (Kd.R_far (p:=⟨d0,5,none⟩) (Kd.R_far (p:=⟨d0,4,none⟩) (Kd.R_far (p:=⟨d0,3,none⟩) (Kd.R_far (p:=⟨d0,2,none⟩) (Kd.R_far (p:=⟨d0,1,none⟩) (Kd.R_far (p:=⟨d0,0,none⟩) (Kd.R_types y0.out p0.out (by decide)) (fun _ hk=>hk.2) (.int .i64 H0)) (fun _ hk=>hk.2) (.int .i64 I0)) (fun _ hk=>hk.2) (.int .i64 J0)) (fun _ hk=>hk.2) (.int .i64 K0)) (fun _ hk=>hk.2) (.int .i64 L0)) (fun _ hk=>hk.2) (.slice P0 G0.length Q0)) (fun _ hk=>hk.1.2))⟩
         have e3:Aside0 (((((((n2.setCell ⟨d0,0,none⟩ (.int .i64 H0)).setCell ⟨d0,1,none⟩ (.int .i64 I0)).setCell ⟨d0,2,none⟩ (.int .i64 J0)).setCell ⟨d0,3,none⟩ (.int .i64 K0)).setCell ⟨d0,4,none⟩ (.int .i64 L0)).setCell ⟨d0,5,none⟩ (.slice P0 G0.length Q0)).heap[D1]? =some (.cells #[.slice t1 t0.length v1] 36 (0,0))):=⟨bf_⟩
         have g3:Aside0 (((((((n2.setCell ⟨d0,0,none⟩ (.int .i64 H0)).setCell ⟨d0,1,none⟩ (.int .i64 I0)).setCell ⟨d0,2,none⟩ (.int .i64 J0)).setCell ⟨d0,3,none⟩ (.int .i64 K0)).setCell ⟨d0,4,none⟩ (.int .i64 L0)).setCell ⟨d0,5,none⟩ (.slice P0 G0.length Q0)).heap[g0]? =some (.cells #[.int .i64 0,.int .i64 0,.int .i64 0,.int .i64 0,.int .i64 0,.slice none 0 0] 30 (0,0))):=⟨bf_⟩
         have h3:Aside0 (((((((n2.setCell ⟨d0,0,none⟩ (.int .i64 H0)).setCell ⟨d0,1,none⟩ (.int .i64 I0)).setCell ⟨d0,2,none⟩ (.int .i64 J0)).setCell ⟨d0,3,none⟩ (.int .i64 K0)).setCell ⟨d0,4,none⟩ (.int .i64 L0)).setCell ⟨d0,5,none⟩ (.slice P0 G0.length Q0)).heap[d1]? =some (.cells #[.int .i64 X0,.int .i64 Y0,.int .i64 Z0,.int .i64 a1,.int .i64 b1,.slice n1 F0.length o1] 30 (0,0))):=⟨bf_⟩
         have j3:Aside0 (((((((n2.setCell ⟨d0,0,none⟩ (.int .i64 H0)).setCell ⟨d0,1,none⟩ (.int .i64 I0)).setCell ⟨d0,2,none⟩ (.int .i64 J0)).setCell ⟨d0,3,none⟩ (.int .i64 K0)).setCell ⟨d0,4,none⟩ (.int .i64 L0)).setCell ⟨d0,5,none⟩ (.slice P0 G0.length Q0)).heap[d0]? =some (.cells #[.int .i64 H0,.int .i64 I0,.int .i64 J0,.int .i64 K0,.int .i64 L0,.slice P0 G0.length Q0] 30 (0,0))):=⟨bu_⟩
         have l3:Aside0 (Below w.heap.size w ((((((n2.setCell ⟨d0,0,none⟩ (.int .i64 H0)).setCell ⟨d0,1,none⟩ (.int .i64 I0)).setCell ⟨d0,2,none⟩ (.int .i64 J0)).setCell ⟨d0,3,none⟩ (.int .i64 K0)).setCell ⟨d0,4,none⟩ (.int .i64 L0)).setCell ⟨d0,5,none⟩ (.slice P0 G0.length Q0))):=⟨bw_ HB⟩
         (try clear h0);(try clear a0);(try clear x0);(try clear y0);(try clear e0);(try clear b0);(try clear m0);(try clear p0);(try clear HB)
         generalize ((((((n2.setCell ⟨d0,0,none⟩ (.int .i64 H0)).setCell ⟨d0,1,none⟩ (.int .i64 I0)).setCell ⟨d0,2,none⟩ (.int .i64 J0)).setCell ⟨d0,3,none⟩ (.int .i64 K0)).setCell ⟨d0,4,none⟩ (.int .i64 L0)).setCell ⟨d0,5,none⟩ (.slice P0 G0.length Q0))=WB at Z2 a3 b3 d3 e3 g3 h3 j3 l3⊢
         have h0:=Z2;have a0:=a3;have x0:=b3;have y0:=d3;have e0:=e3;have b0:=g3;have m0:=h3;have p0:=j3;have HB:=l3;clear Z2 a3 b3 d3 e3 g3 h3 j3 l3
         replace h0:=rd_ h0;replace a0:=rd_ a0;replace x0:=rd_ x0;replace y0:=rd_ y0;replace e0:=kd_ e0;replace b0:=kd_ b0;replace m0:=kd_ m0;replace p0:=kd_ p0;replace HB:=wd_ HB
         obtain⟨X9,Y9,J5⟩:=Kd.R_slice x0.out
         (first|subst J5|(injection J5 with qB XB rB;have YB:=qB.symm;have ZB:=rB.symm;clear qB XB rB;subst YB;subst ZB))
         refine start_ (n:=7) (S:=fun w'=>w'.cell? ⟨d0,0,none⟩=some (.int .i64 H0)∧w'.cell? ⟨d0,1,none⟩=some (.int .i64 I0)∧w'.cell? ⟨d0,2,none⟩=some (.int .i64 J0)∧w'.cell? ⟨d0,3,none⟩=some (.int .i64 K0)∧w'.cell? ⟨d0,4,none⟩=some (.int .i64 L0)∧w'.cell? ⟨d0,5,none⟩=some (.slice P0 G0.length Q0)) (ds:=[]) #[false,false,false,false,false,false,false] (by kernel_rfl) rfl rfl ⟨bc_ p0 0,bc_ p0 1,bc_ p0 2,bc_ p0 3,bc_ p0 4,bc_ p0 5⟩ (fun hHeld=>?_)
         generalize WB.drew=sC at h0 a0 x0 y0 e0 b0 m0 p0 HB hHeld⊢
         refine pv_ 1 121 ?_
         refine pv_ 2 122 ?_
         refine tv_ 0 120 hHeld ?_
         refine one_ (i:=3) (N:=some 123) #[true,true,true,true,false,false,false] rfl rfl (by kernel_rfl) (by decide) (fun K hK=>?_)
         refine Kd.R_append_rows_step k57 (w0:=w) w.heap.size (by rfl) (.tmp 121) (.tmp 122) 31 57 (.agg #[(.int .i64 0),(.string ⟨#[]⟩),(.string ⟨#[]⟩),(.string ⟨#[]⟩)]) 56 rfl Tryz.underlying31 info57 rfl (by decide) (by omega) u5 C1 U1 _ _ _ (fun k_=>some k_≠(.slice X9 U1.length Y9:Value).ownBlock) (fun _=>False) rfl rfl ?aO ?aR (fun _ _ h=>h) (fun _ h=>h.elim) ?aF ?aB ?aS ?aL ?_
         (case aR=>repeat(first|exact(Kd.R_reads' x0.out).2.2|(with_reducible refine Kd.C_alloc ?_ _)|(with_reducible refine Kd.C_drewN ?_ _)|(with_reducible refine Kd.C_drew ?_)))
         (case aB=>exact(bw_ HB))
         (case aF=>exact(fun k_ hk=>Kd.fresh' (Kd.R_lt (rp_ x0)) k_ hk))
         (case aO=>exact(rp_ h0))
         (case aS=>exact(below_size (bw_ HB)))
         (case aL=>have:=H5.out;omega)
         intro aC m3 ho hb hg hat
         rw [←I5.out] at ho
         have Z2:=mk_ (Kd.R_over' (rp_ a0) (Kd.R_typed (rp_ h0)) (by decide) hg)
         have a3:=bgr_ e0 hg (Kd.R_ne h0.out e0.out (by decide))
         have b3:=bgr_ b0 hg (Kd.R_ne h0.out b0.out (by decide))
         have d3:=bgr_ m0 hg (Kd.R_ne h0.out m0.out (by decide))
         have e3:=mk_ (Kd.R_after (ok:=(fun _=>True)) (rq_ (Kd.R_mono x0.out (fun _ hk=>⟨trivial,hk⟩))) hg hat)
         have g3:=mk_ (Kd.R_over' (rp_ y0) (Kd.R_typed (rp_ h0)) (by decide) hg)
         have h3:=bgr_ p0 hg (Kd.R_ne h0.out p0.out (by decide))
         have j3:=mk_ (hb)
         have l3:=mk_ (ho)
         clear a0;clear e0;clear b0;clear m0;clear x0;clear y0;clear p0;clear HB;clear h0;have a0:=Z2;have e0:=a3;have b0:=b3;have m0:=d3;have x0:=e3;have y0:=g3;have p0:=h3;have HB:=j3;have K5:=l3;clear Z2 a3 b3 d3 e3 g3 h3 j3 l3;clear ho hb hg hat
         refine hK.out _ _ ⟨bc_ p0 0,bc_ p0 1,bc_ p0 2,bc_ p0 3,bc_ p0 4,bc_ p0 5⟩ (fun hHeld=>?_)
         clear hK K
         refine norm_ (a':=?_) ?_ ?_
         rotate_left
         ·show Act.put _ (some 123) _=_
          simp only [Act.put,sia_,scz_,scs_,i64_w,i32_w]
          rfl
         refine one_ (i:=4) (N:=none) #[true,true,true,true,true,false,false] rfl rfl (by kernel_rfl) (by decide) (fun K hK=>?_)
         have bC:m3.cell? ⟨g0,0,none⟩=some (.int .i64 0):=bc_ b0 0
         have sB:=blk_frozen b0.out 0
         have Q8:=n0.out
         have R8:=q0.out
         have U8:=o0.out
         have V8:=v0.out
         have W8:=B0.out
         have X8:=C0.out
         have cC:m3.cell? ⟨g0,1,none⟩=some (.int .i64 0):=bc_ b0 1
         have tB:=blk_frozen b0.out 1
         have Y8:=n0.out
         have Z8:=q0.out
         have a9:=o0.out
         have b9:=v0.out
         have d9:=B0.out
         have e9:=C0.out
         have uB:m3.cell? ⟨g0,2,none⟩=some (.int .i64 0):=bc_ b0 2
         have Z9:=blk_frozen b0.out 2
         have L5:=n0.out
         have M5:=q0.out
         have N5:=o0.out
         have O5:=v0.out
         have P5:=B0.out
         have Q5:=C0.out
         have vB:m3.cell? ⟨g0,3,none⟩=some (.int .i64 0):=bc_ b0 3
         have aA:=blk_frozen b0.out 3
         have R5:=n0.out
         have U5:=q0.out
         have V5:=o0.out
         have W5:=v0.out
         have X5:=B0.out
         have Y5:=C0.out
         have wB:m3.cell? ⟨g0,4,none⟩=some (.int .i64 0):=bc_ b0 4
         have bA:=blk_frozen b0.out 4
         have Z5:=n0.out
         have a6:=q0.out
         have b6:=o0.out
         have d6:=v0.out
         have e6:=B0.out
         have g6:=C0.out
         have xB:m3.cell? ⟨g0,5,none⟩=some (.slice none 0 0):=bc_ b0 5
         have cA:=blk_frozen b0.out 5
         have h6:=n0.out
         have j6:=q0.out
         have l6:=o0.out
         have m6:=v0.out
         have o6:=B0.out
         have q6:=C0.out
         refine skip_ (w1:=?_) (by rfl) rfl ?_ ?_
         rotate_left
         ·go_simp
          rfl
         refine hK.out _ _ ⟨(cf_ o0 hHeld.1),(cf_ o0 hHeld.2.1),(cf_ o0 hHeld.2.2.1),(cf_ o0 hHeld.2.2.2.1),(cf_ o0 hHeld.2.2.2.2.1),(cf_ o0 hHeld.2.2.2.2.2)⟩ (fun hHeld=>?_)
         clear hK K
         refine pv_ 5 3 ?_
         refine pv_ 6 4 ?_
         refine done_ (by kernel_rfl) ?_
         try go_wp2
         refine bodyPost_ret (results_ctt rfl _ _ g0 30 #[.int .i64 H0,.int .i64 I0,.int .i64 J0,.int .i64 K0,.int .i64 L0,.slice P0 G0.length Q0] (0,0) _ rfl bu_ Tryz.underlying30 rfl (by kernel_rfl)) rfl ?_
         exact⟨_,_,er_,rq_ (Kd.R_mono (Kd.R_far (p:=⟨g0,5,none⟩) (Kd.R_far (p:=⟨g0,4,none⟩) (Kd.R_far (p:=⟨g0,3,none⟩) (Kd.R_far (p:=⟨g0,2,none⟩) (Kd.R_far (p:=⟨g0,1,none⟩) (Kd.R_far (p:=⟨g0,0,none⟩) (Kd.R_types y0.out b0.out (by decide)) (fun _ hk=>hk.2) (.int .i64 H0)) (fun _ hk=>hk.2) (.int .i64 I0)) (fun _ hk=>hk.2) (.int .i64 J0)) (fun _ hk=>hk.2) (.int .i64 K0)) (fun _ hk=>hk.2) (.int .i64 L0)) (fun _ hk=>hk.2) (.slice P0 G0.length Q0)) (fun _ hk=>trivial)),rq_ (Kd.R_mono (Kd.R_far (p:=⟨g0,5,none⟩) (Kd.R_far (p:=⟨g0,4,none⟩) (Kd.R_far (p:=⟨g0,3,none⟩) (Kd.R_far (p:=⟨g0,2,none⟩) (Kd.R_far (p:=⟨g0,1,none⟩) (Kd.R_far (p:=⟨g0,0,none⟩) (Kd.R_types K5.out b0.out (by decide)) (fun _ hk=>hk.2) (.int .i64 H0)) (fun _ hk=>hk.2) (.int .i64 I0)) (fun _ hk=>hk.2) (.int .i64 J0)) (fun _ hk=>hk.2) (.int .i64 K0)) (fun _ hk=>hk.2) (.int .i64 L0)) (fun _ hk=>hk.2) (.slice P0 G0.length Q0)) (fun _ hk=>trivial)),bw_ HB⟩
end Go.Proofs.YtolakamimfhcjaaGreatDoor.QFnExactOpenJournal
