/- Written by this session's own program: what the law's functions come to, and that the machine's calls do just that. -/
import Derived.Test.YtolakamimfhcjaaGreatDoorQFnExactOpenJournalx0
import Derived.Test.YtolakamimfhcjaaGreatDoorTMSix
namespace Go.Proofs.YtolakamimfhcjaaGreatDoor.QFnExactOpenJournal
open Go.RowKit Go.Proofs.YtolakamimfhcjaaGreatDoorW.PrintWords Go.Proofs.YtolakamimfhcjaaGreatDoorW.PrintLast Go.Proofs.YtolakamimfhcjaaGreatDoorW.PrintMore
attribute [local go_sem] Go.Proofs.YtolakamimfhcjaaGreatDoor.Sem.string_geq Go.Proofs.YtolakamimfhcjaaGreatDoor.Sem.string_leq Go.Proofs.YtolakamimfhcjaaGreatDoor.Sem.string_gtr
attribute [local go_sem] max2_int min2_int max_two min_two max_three min_three max_four min_four
set_option linter.unusedVariables false
set_option linter.unusedSimpArgs false
set_option maxHeartbeats 8000000
set_option maxRecDepth 100000
def laws_markText.l0:Nat→Int→ByteArray→Option (ByteArray)
 |0,_,_=>none
 |k+1,x0,x3=>if x0>0 then((some (([(wrap64 (48+(Int.tmod x0 10))) % 256]:List Int):List Int)).bind fun a0=>(if(strOfNums a0).size+x3.size≤9223372036854775807 then(laws_markText.l0 k (wrap64 (Int.tdiv x0 10)) ((strOfNums a0)++x3)) else(none))) else(if 1+x3.size≤9223372036854775807 then(some ((⟨#[109]⟩:ByteArray)++x3)) else(none))
def laws_markText.f (k:Nat) (a0:Int):Option (ByteArray):=if a0≤0 then(some (⟨#[109,48]⟩:ByteArray)) else(laws_markText.l0 k a0 (⟨#[]⟩:ByteArray))
theorem laws_markText.calls (k:Nat) (a0:Int) (r:ByteArray) (w:World) (h:laws_markText.f k a0=some r):
  Calls Tryz.prog 37 #[.int .i64 a0] w fun e w'=>e= .returned (.string r)∧Below w.heap.size w w':=by
 have HB:=mk_ (Below.refl w.heap.size w)
 have H:=h
 unfold laws_markText.f at H
 clear h
 by_cases c2:a0≤0
 ·rw [if_pos c2] at H
  have n0:=decide_eq_true c2
  clear c2
  obtain rfl:=Option.some.inj H
  go_enter Tryz.func37,Tryz.ntmps37
  go_wp2
  go_ret
  exact⟨er_,bw_ HB⟩
 rw [if_neg c2] at H
 have n0:=decide_eq_false c2
 clear c2
 have H':=Aside0.mk H
 clear H
 go_enter Tryz.func37,Tryz.ntmps37
 go_wp2
 go_loopg [0,3] k (fun kq v0 v3 w'=>∃(b0:Int) (e0:ByteArray),v0= .int .i64 b0∧v3= .string e0∧Aside0 (laws_markText.l0 kq b0 e0=some r)∧Aside0 (kq≤k)∧Aside0 (Below w.heap.size w w'))
 case atStart=>exact⟨(a0),((⟨#[]⟩:ByteArray)),rl_,rl_,H',⟨Nat.le_refl _⟩,⟨bw_ HB⟩⟩
 case round=>
  clear H'
  try clear p2
  obtain⟨b0,e0,rfl,rfl,HA,p0,HB⟩:=hrel
  cases gk with
  |zero=>exact absurd HA.out (by simp [laws_markText.l0])
  |succ k1=>
   have H:=HA.out
   clear HA
   simp only [laws_markText.l0] at H
   refine ig_ H ?_ ?_ <;> clear H <;> intro q0 H
   ·obtain⟨c8,H⟩:=gd_ H
    have r0:=eq_true c8
    have s0:=decide_eq_true c8
    have t0:=eq_false (Nat.not_lt.2 c8)
    obtain rfl:=Option.some.inj H
    go_wp2
    go_ret
    exact⟨er_,bw_ HB⟩
   obtain⟨o0,d0⟩:∃y_:List Int,y_=(([(wrap64 (48+(Int.tmod b0 10))) % 256]:List Int)):=⟨_,rfl⟩
   replace H:=sb_ d0 H
   have g0:=Aside0.mk d0
   clear d0
   obtain⟨c4,H⟩:=gd_ H
   have x0:=eq_true c4
   have y0:=decide_eq_true c4
   have A0:=eq_false (Nat.not_lt.2 c4)
   have H':=Aside0.mk H
   clear H
   go_wp2_with (first|((with_reducible refine gn_ 12 rfl ?_);refine Kd.R_lit (Kd.int .u8) _ 5 ?hg (N:=12) ?hd (xs:=([(wrap64 (48+(Int.tmod b0 10))) % 256]:List Int)) (inner:=[.int .u8 ((wrap64 (48+(Int.tmod b0 10))) % 256)]) (ok:=fun _=>True) (okp:=fun _=>True) ?hr ?hp (fun _ hk=>hk) trivial (Below.refl _ _) (Nat.le_refl _) (by simp) ?_;(case hd=>rfl);(case hg=>rfl);(case hr=>first|(go_simp;done)|(go_simp;rfl));(case hp=>exact(Reps.one (show Kd.M (Kd.int .u8) _ _ _ ((wrap64 (48+(Int.tmod b0 10))) % 256) [.int .u8 ((wrap64 (48+(Int.tmod b0 10))) % 256)] from rfl) (Reps.none _ _)));intro B0 w5 h0 hb hg_ hnew_;clear hg_ hnew_;(first|rw [←g0.out] at h0|(simp only [Int.reduceToNat] at h0;rw [←g0.out] at h0));have m0:=mk_ (Kd.R_lower h0 (below_size (bw_ HB)));replace HB:=bs_ HB hb;clear hb h0;have C0:=own_string (P:=Tryz.prog) Tryz.underlying95 Tryz.underlying5 Tryz.underlying9 (Kd.own_of_R m0.out)))
   go_roundg k1
   case measure=>have:=p0.out;omega
   case rel=>exact⟨(wrap64 (Int.tdiv b0 10)),((strOfNums o0)++e0),rl_,rl_,H',⟨by have:=p0.out;omega⟩,⟨bw_ HB⟩⟩
def laws_markFileS.l0:Nat→List (S49)→Int→Int→Option (Int × (List (S49)))
 |0,_,_,_=>none
 |k+1,x0,x1,x5=>if x5<(x0.length:Int) then((laws_markText.f k x1).bind fun d0=>(if 0≤x5 then((some (x0.set (x5:Int).toNat (⟨d0,(rd_T49 x0 x5).f1,(rd_T49 x0 x5).f2⟩:S49):List (S49))).bind fun a0=>((laws_markText.f k (wrap64 (x1+1))).bind fun e0=>((some (a0.set (x5:Int).toNat (⟨(rd_T49 a0 x5).f0,e0,(rd_T49 a0 x5).f2⟩:S49):List (S49))).bind fun b0=>(laws_markFileS.l0 k (b0.set (x5:Int).toNat (⟨(rd_T49 b0 x5).f0,(rd_T49 b0 x5).f1,wrap64 ((wrap64 (x1+1))+1)⟩:S49)) (wrap64 ((wrap64 ((wrap64 (x1+1))+1))+1)) (wrap64 (x5+1)))))) else(none))) else(some (x1,x0))
def laws_markFileS.f (k:Nat) (l0:List (S49)) (a1:Int):Option (Int × (List (S49))):=laws_markFileS.l0 k l0 a1 0
theorem laws_markFileS.calls (k:Nat) (o0:Nat→Prop) (m0:Value) (l0:List (S49)) (a1:Int) (r1:Int) (r2:List (S49)) (w0 w:World) (hB:Below w0.heap.size w0 w) (x2:Kd.R k49 49 w w0.heap.size o0 m0 l0) (h:laws_markFileS.f k l0 a1=some (r1,r2)):
  Calls Tryz.prog 35 #[m0,.int .i64 a1] w fun e w'=>e= .returned (.int .i64 r1)∧Kd.R k49 49 w' w0.heap.size (fun k_=>(o0 k_∨w.heap.size≤k_)) m0 r2∧Below w0.heap.size w0 w'∧Kept w w' (fun k_=>o0 k_):=by
 have y2:=mk_ (show Kd.R k49 49 w w0.heap.size (fun k_=>(o0 k_∨w.heap.size≤k_)) m0 l0 from Kd.R_mono x2 (fun k_ hk=>(.inl hk)))
 have HK:=mk_ (Kept.refl w (fun k_=>o0 k_))
 have K2:=Aside0.mk hB.size
 have HB:=Aside0.mk hB
 clear hB
 have H:(laws_markFileS.l0 k l0 a1 0)=some (r1,r2):=h
 clear h
 have H':=Aside0.mk H
 clear H
 go_enter Tryz.func35,Tryz.ntmps35
 go_wp2
 go_loopg [1,5] k (fun kq v1 v5 w'=>∃(d0:List (S49)) (n0:Int) (a0:Int),v1= .int .i64 n0∧v5= .int .i64 a0∧Aside0 (laws_markFileS.l0 kq d0 n0 a0=some (r1,r2))∧Aside0 (kq≤k)∧Aside0 (Kd.R k49 49 w' w0.heap.size (fun k_=>(o0 k_∨w.heap.size≤k_)) m0 d0)∧Aside0 (Kept w w' (fun k_=>o0 k_))∧Aside0 (Below w0.heap.size w0 w'))
 case atStart=>exact⟨(l0),(a1),(0),rl_,rl_,H',⟨Nat.le_refl _⟩,⟨rq_ y2.out⟩,⟨kp_ HK⟩,⟨bw_ HB⟩⟩
 case round=>
  clear H'
  try clear p2
  obtain⟨d0,n0,a0,rfl,rfl,HA,N1,b0,HK,HB⟩:=hrel
  cases gk with
  |zero=>exact absurd HA.out (by simp [laws_markFileS.l0])
  |succ k1=>
   have H:=HA.out
   clear HA
   simp only [laws_markFileS.l0] at H
   refine ic_ H ?_ ?_ <;> clear H <;> intro A2 H
   ·simp only [Option.some.injEq,Prod.mk.injEq] at H
    obtain⟨rfl,rfl⟩:=H
    obtain⟨B2,C2,F1⟩:=Kd.R_slice b0.out
    subst F1
    go_wp2
    go_ret
    exact⟨er_,rq_ b0.out,bw_ HB,kp_ HK⟩
   obtain⟨p0,A4,H⟩:=ob_ H
   try dsimp only at H
   obtain⟨c5,H⟩:=gd_ H
   have D2:=decide_eq_true c5
   clear c5
   obtain⟨g0,t0⟩:∃y_:List (S49),y_=(d0.set (a0:Int).toNat (⟨p0,(rd_T49 d0 a0).f1,(rd_T49 d0 a0).f2⟩:S49)):=⟨_,rfl⟩
   replace H:=sb_ t0 H
   have o1:=Aside0.mk t0
   clear t0
   obtain⟨q0,A7,H⟩:=ob_ H
   try dsimp only at H
   obtain⟨h0,v0⟩:∃y_:List (S49),y_=(g0.set (a0:Int).toNat (⟨(rd_T49 g0 a0).f0,q0,(rd_T49 g0 a0).f2⟩:S49)):=⟨_,rfl⟩
   replace H:=sb_ v0 H
   have p1:=Aside0.mk v0
   clear v0
   obtain⟨q1,x0⟩:∃y_:List (S49),y_=(h0.set (a0:Int).toNat (⟨(rd_T49 h0 a0).f0,(rd_T49 h0 a0).f1,wrap64 ((wrap64 (n0+1))+1)⟩:S49)):=⟨_,rfl⟩
   rw [←x0] at H
   have s1:=Aside0.mk x0
   clear x0
   have H':=Aside0.mk H
   clear H
   obtain⟨F2,r0,G1⟩:=Kd.R_slice b0.out
   subst G1
   go_wp2_with (first|((with_reducible refine gc_ 37 rfl ?_);refine gm_ 15 Tryz.func37 (laws_markText.calls k1 n0 p0 _ A4.out) ?_;rintro C0 hb;replace b0:=rb_ b0 hb;replace HK:=kl_ HK hb;replace HB:=bs_ HB hb;(try clear hb);(try clear hk);have p6:0≤(a0:Int):=od_;have q6:(a0:Int)<((d0.length:Int):Int):=od_;obtain⟨e0,L2,O1,P1,G2,M2,Q1⟩:=Kd.R_form b0.out (by omega);(first|cases O1|(injection O1 with ea_ en_ ec_;(first|subst ea_|(injection ea_ with ea_;subst ea_));subst ec_;clear en_));have H1:=Aside0.mk P1;have N2:=Aside0.mk Q1;clear P1 G2 Q1;have R1:=mk_ (show(o0 e0∨w.heap.size≤e0) from(b0.out.1 _ rfl));obtain⟨O2,I1,U1,F0,G0⟩:=Kd.R_elem b0.out z49 (a0:Int) p6 q6;obtain rfl:=k49_openM U1;have V1:C0.cell? ⟨e0,(a0:Int).toNat*3,none⟩=some (.string ((rd_T49 d0 a0).f0)):=F0 0 _ rfl;have W1:C0.cell? ⟨e0,(a0:Int).toNat*3+1,none⟩=some (.string ((rd_T49 d0 a0).f1)):=F0 1 _ rfl;have X1:C0.cell? ⟨e0,(a0:Int).toNat*3+2,none⟩=some (.int .i64 ((rd_T49 d0 a0).f2)):=F0 2 _ rfl;have Y1:C0.frozen? ⟨e0,(a0:Int).toNat*3,none⟩=false:=G0 0;have Z1:C0.frozen? ⟨e0,(a0:Int).toNat*3+1,none⟩=false:=G0 1;have a2:C0.frozen? ⟨e0,(a0:Int).toNat*3+2,none⟩=false:=G0 2;clear I1 F0 G0 U1;replace p6:=eq_true p6;replace q6:=eq_true q6;have t1:=mk_ (show Kd.R k49 49 C0 w0.heap.size (fun k_=>(o0 k_∨w.heap.size≤k_)) (.slice (some ⟨e0,0,none⟩) d0.length r0) d0 from(rp_ b0));obtain⟨H2,M0,x1,y0,N0⟩:=Kd.R_elem t1.out z49 (a0:Int) (od_) (by have h_:(a0:Int)<((d0.length:Int):Int):=od_;first|exact h_|(have e_:=(Kd.R_reads' b0.out).1;omega)|simpa using h_);obtain rfl:=k49_openM x1;have X0:=Kd.R_seg t1.out (a0:Int) (od_) (by have h_:(a0:Int)<((d0.length:Int):Int):=od_;first|exact h_|(have e_:=(Kd.R_reads' b0.out).1;omega)|simpa using h_) (seg:=[.string p0]) (j:=0) M0 y0 (show 1≤3 from by decide) (x':=(⟨p0,(rd_T49 d0 a0).f1,(rd_T49 d0 a0).f2⟩:S49)) (k49_mkM _ _ _ (⟨p0,(rd_T49 d0 a0).f1,(rd_T49 d0 a0).f2⟩:S49)) (fun _ hk=>hk);have Y0:=y0 0 _ rfl;(try simp only [show(k49).sz=3 from rfl,Nat.mul_one,Nat.add_zero] at Y0);have Z0:=N0 0;(try simp only [show(k49).sz=3 from rfl,Nat.mul_one,Nat.add_zero] at Z0);clear M0 y0 N0 x1)|((with_reducible refine gate_store (t:=9) (p:=17) rfl ?_);refine store_event (t:=9) (p:=17) (v:=?vo_w13) (w1:=(C0.setCell ⟨e0,(a0:Int).toNat*3,none⟩ (.string p0))) ?hg ?ho ?hn ?hr ?_;(case ho=>rfl);(case hg=>rfl);(case hn=>rfl);(case hr=>first|(go_simp;done)|(go_simp;rfl));intro J1 hw;have hg:C0.grownBy J1 (some e0):=(by rw [hw];exact X0.2);have hp_:Kd.R k49 49 J1 w0.heap.size (fun k_=>(o0 k_∨w.heap.size≤k_)) (.slice (some ⟨e0,0,none⟩) d0.length r0) g0:=(by rw [hw,o1.out];exact X0.1);clear X0;have O0:=mk_ (hp_);have P0:=mk_ ((by rw [hw];exact below_set (HB.out) H1.out:Below w0.heap.size w0 J1));have Q0:=mk_ (Kept.of_grown (S:=(fun k_=>o0 k_)) hg (kp_ HK) (fun k_ e_=>(b0.out.1 k_ e_)));clear b0;clear HB;clear HK;have b0:=O0;have HB:=P0;have HK:=Q0;clear O0 P0 Q0;clear hg hw hp_)|((with_reducible refine gc_ 37 rfl ?_);refine gm_ 23 Tryz.func37 (laws_markText.calls k1 (wrap64 (n0+1)) q0 _ A7.out) ?_;rintro H0 hb;replace b0:=rb_ b0 hb;replace HK:=kl_ HK hb;replace HB:=bs_ HB hb;(try clear hb);(try clear hk);have p8:0≤(a0:Int):=od_;have q8:(a0:Int)<((d0.length:Int):Int):=od_;obtain⟨P2,K1,b2,I0,J0⟩:=Kd.R_elem b0.out z49 (a0:Int) p8 q8;obtain rfl:=k49_openM b2;have d2:H0.cell? ⟨e0,(a0:Int).toNat*3,none⟩=some (.string ((rd_T49 g0 a0).f0)):=I0 0 _ rfl;have e2:H0.cell? ⟨e0,(a0:Int).toNat*3+1,none⟩=some (.string ((rd_T49 g0 a0).f1)):=I0 1 _ rfl;have g2:H0.cell? ⟨e0,(a0:Int).toNat*3+2,none⟩=some (.int .i64 ((rd_T49 g0 a0).f2)):=I0 2 _ rfl;have h2:H0.frozen? ⟨e0,(a0:Int).toNat*3,none⟩=false:=J0 0;have l2:H0.frozen? ⟨e0,(a0:Int).toNat*3+1,none⟩=false:=J0 1;have m2:H0.frozen? ⟨e0,(a0:Int).toNat*3+2,none⟩=false:=J0 2;clear K1 I0 J0 b2;replace p8:=eq_true p8;replace q8:=eq_true q8;have y1:=mk_ (show Kd.R k49 49 H0 w0.heap.size (fun k_=>(o0 k_∨w.heap.size≤k_)) (.slice (some ⟨e0,0,none⟩) d0.length r0) g0 from(rp_ b0));obtain⟨I2,R0,A1,A0,U0⟩:=Kd.R_elem y1.out z49 (a0:Int) (od_) (by have h_:(a0:Int)<((d0.length:Int):Int):=od_;first|exact h_|(have e_:=(Kd.R_reads' b0.out).1;omega)|simpa using h_);obtain rfl:=k49_openM A1;have b1:=Kd.R_seg y1.out (a0:Int) (od_) (by have h_:(a0:Int)<((d0.length:Int):Int):=od_;first|exact h_|(have e_:=(Kd.R_reads' b0.out).1;omega)|simpa using h_) (seg:=[.string q0]) (j:=1) R0 A0 (show 2≤3 from by decide) (x':=(⟨(rd_T49 g0 a0).f0,q0,(rd_T49 g0 a0).f2⟩:S49)) (k49_mkM _ _ _ (⟨(rd_T49 g0 a0).f0,q0,(rd_T49 g0 a0).f2⟩:S49)) (fun _ hk=>hk);have d1:=A0 1 _ rfl;(try simp only [show(k49).sz=3 from rfl,Nat.mul_one,Nat.add_zero] at d1);have e1:=U0 1;(try simp only [show(k49).sz=3 from rfl,Nat.mul_one,Nat.add_zero] at e1);clear R0 A0 U0 A1)|((with_reducible refine gate_store (t:=9) (p:=25) rfl ?_);refine store_event (t:=9) (p:=25) (v:=?vo_w16) (w1:=(H0.setCell ⟨e0,(a0:Int).toNat*3+1,none⟩ (.string q0))) ?hg ?ho ?hn ?hr ?_;(case ho=>rfl);(case hg=>rfl);(case hn=>rfl);(case hr=>first|(go_simp;done)|(go_simp;rfl));intro s0 hw;have hg:H0.grownBy s0 (some e0):=(by rw [hw];exact b1.2);have hp_:Kd.R k49 49 s0 w0.heap.size (fun k_=>(o0 k_∨w.heap.size≤k_)) (.slice (some ⟨e0,0,none⟩) d0.length r0) h0:=(by rw [hw,p1.out];exact b1.1);clear b1;have O0:=mk_ (hp_);have P0:=mk_ ((by rw [hw];exact below_set (HB.out) H1.out:Below w0.heap.size w0 s0));have Q0:=mk_ (Kept.of_grown (S:=(fun k_=>o0 k_)) hg (kp_ HK) (fun k_ e_=>(b0.out.1 k_ e_)));clear b0;clear HB;clear HK;have b0:=O0;have HB:=P0;have HK:=Q0;clear O0 P0 Q0;clear hg hw hp_;have p9:0≤(a0:Int):=od_;have q9:(a0:Int)<((d0.length:Int):Int):=od_;obtain⟨Q2,L1,n2,K0,L0⟩:=Kd.R_elem b0.out z49 (a0:Int) p9 q9;obtain rfl:=k49_openM n2;have o2:s0.cell? ⟨e0,(a0:Int).toNat*3,none⟩=some (.string ((rd_T49 h0 a0).f0)):=K0 0 _ rfl;have q2:s0.cell? ⟨e0,(a0:Int).toNat*3+1,none⟩=some (.string ((rd_T49 h0 a0).f1)):=K0 1 _ rfl;have s2:s0.cell? ⟨e0,(a0:Int).toNat*3+2,none⟩=some (.int .i64 ((rd_T49 h0 a0).f2)):=K0 2 _ rfl;have t2:s0.frozen? ⟨e0,(a0:Int).toNat*3,none⟩=false:=L0 0;have v2:s0.frozen? ⟨e0,(a0:Int).toNat*3+1,none⟩=false:=L0 1;have w2:s0.frozen? ⟨e0,(a0:Int).toNat*3+2,none⟩=false:=L0 2;clear L1 K0 L0 n2;replace p9:=eq_true p9;replace q9:=eq_true q9;have C1:=mk_ (show Kd.R k49 49 s0 w0.heap.size (fun k_=>(o0 k_∨w.heap.size≤k_)) (.slice (some ⟨e0,0,none⟩) d0.length r0) h0 from(rp_ b0));obtain⟨J2,V0,D1,B0,W0⟩:=Kd.R_elem C1.out z49 (a0:Int) (od_) (by have h_:(a0:Int)<((d0.length:Int):Int):=od_;first|exact h_|(have e_:=(Kd.R_reads' b0.out).1;omega)|simpa using h_);obtain rfl:=k49_openM D1;have g1:=Kd.R_seg C1.out (a0:Int) (od_) (by have h_:(a0:Int)<((d0.length:Int):Int):=od_;first|exact h_|(have e_:=(Kd.R_reads' b0.out).1;omega)|simpa using h_) (seg:=[.int .i64 (wrap64 ((wrap64 (n0+1))+1))]) (j:=2) V0 B0 (show 3≤3 from by decide) (x':=(⟨(rd_T49 h0 a0).f0,(rd_T49 h0 a0).f1,wrap64 ((wrap64 (n0+1))+1)⟩:S49)) (k49_mkM _ _ _ (⟨(rd_T49 h0 a0).f0,(rd_T49 h0 a0).f1,wrap64 ((wrap64 (n0+1))+1)⟩:S49)) (fun _ hk=>hk);have m1:=B0 2 _ rfl;(try simp only [show(k49).sz=3 from rfl,Nat.mul_one,Nat.add_zero] at m1);have n1:=W0 2;(try simp only [show(k49).sz=3 from rfl,Nat.mul_one,Nat.add_zero] at n1);clear V0 B0 W0 D1)|((with_reducible refine gate_store (t:=3) (p:=32) rfl ?_);refine store_event (t:=3) (p:=32) (v:=?vo_w18) (w1:=(s0.setCell ⟨e0,(a0:Int).toNat*3+2,none⟩ (.int .i64 (wrap64 ((wrap64 (n0+1))+1))))) ?hg ?ho ?hn ?hr ?_;(case ho=>rfl);(case hg=>rfl);(case hn=>rfl);(case hr=>first|(go_simp;done)|(go_simp;rfl));intro M1 hw;have hg:s0.grownBy M1 (some e0):=(by rw [hw];exact g1.2);have hp_:Kd.R k49 49 M1 w0.heap.size (fun k_=>(o0 k_∨w.heap.size≤k_)) (.slice (some ⟨e0,0,none⟩) d0.length r0) q1:=(by rw [hw,s1.out];exact g1.1);clear g1;have O0:=mk_ (hp_);have P0:=mk_ ((by rw [hw];exact below_set (HB.out) H1.out:Below w0.heap.size w0 M1));have Q0:=mk_ (Kept.of_grown (S:=(fun k_=>o0 k_)) hg (kp_ HK) (fun k_ e_=>(b0.out.1 k_ e_)));clear b0;clear HB;clear HK;have b0:=O0;have HB:=P0;have HK:=Q0;clear O0 P0 Q0;clear hg hw hp_))
   go_roundg k1
   case measure=>have:=N1.out;omega
   case rel=>exact⟨(q1),(wrap64 ((wrap64 ((wrap64 (n0+1))+1))+1)),(wrap64 (a0+1)),rl_,rl_,H',⟨by have:=N1.out;omega⟩,⟨rq_ b0.out⟩,⟨kp_ HK⟩,⟨bw_ HB⟩⟩
def laws_markDisk.f (k:Nat) (b0:List (S49)) (a1:Int):Option (Int × (List (S49))):=(laws_markFileS.f k b0 a1).bind fun a0=>(some (a0.1,a0.2))
theorem laws_markDisk.calls (k:Nat) (b0:Nat→Prop) (d0:Value) (g0:List (S49)) (a1:Int) (r1:Int) (r2:List (S49)) (w0 w:World) (hB:Below w0.heap.size w0 w) (n0:Kd.R k49 49 w w0.heap.size b0 d0 g0) (h:laws_markDisk.f k g0 a1=some (r1,r2)):
  Calls Tryz.prog 11 #[.agg #[d0],.int .i64 a1] w fun e w'=>e= .returned (.int .i64 r1)∧Kd.R k49 49 w' w0.heap.size (fun k_=>(b0 k_∨w.heap.size≤k_)) d0 r2∧Below w0.heap.size w0 w'∧Kept w w' (fun k_=>b0 k_):=by
 have F0:=Tryz.underlying36
 have a0:=mk_ (show Kd.R k49 49 w w0.heap.size (fun k_=>(b0 k_∨w.heap.size≤k_)) d0 g0 from Kd.R_mono n0 (fun k_ hk=>(.inl hk)))
 have HK:=mk_ (Kept.refl w (fun k_=>b0 k_))
 have H0:=Aside0.mk hB.size
 have HB:=Aside0.mk hB
 clear hB
 have H:=h
 unfold laws_markDisk.f at H
 clear h
 obtain⟨⟨o0,p0⟩,A3,H⟩:=ob_ H
 try dsimp only at H
 simp only [Option.some.injEq,Prod.mk.injEq] at H
 obtain⟨rfl,rfl⟩:=H
 obtain⟨q0,r0,G0⟩:=Kd.R_slice a0.out
 subst G0
 go_enter Tryz.func11,Tryz.ntmps11
 go_wp2_with (first|((with_reducible refine gn_ 2 rfl ?_);refine bx_ (N:=2) (cs:=#[.slice q0 g0.length r0]) (t:=36) ?_;intro h0 hg w5 hbox hb;have e0:=mk_ (hbox);have m0:=mk_ ((by rw [hg];exact(kp_ HK).1:w.heap.size≤h0));have v0:=mk_ ((by rw [hg];exact(below_size (bw_ HB)):w0.heap.size≤h0));replace a0:=mk_ (Kd.R_below (rq_ a0.out) hb);replace HK:=kl_ HK hb;replace HB:=bs_ HB hb;clear hb hbox hg;obtain⟨s0,t0⟩:=b1_ e0)|((with_reducible refine gc_ 35 rfl ?_);refine gm_ 8 Tryz.func35 (laws_markFileS.calls k (fun k_=>some k_=(.slice q0 g0.length r0:Value).ownBlock) (.slice q0 g0.length r0) g0 a1 o0 p0 w0 _ ?side1 ?side2 A3.out) ?_;(case side1=>exact bw_ HB);(case side2=>exact Kd.R_tight rfl a0.out);rintro w7 ⟨x0,hb,hkp⟩;have y0:=mk_ (Kd.R_reok rfl x0 (fun k_ e_=>a0.out.1 k_ e_));have A0:=mk_ (blk_kept (bp_ e0) hkp (fun hs_=>(fun e_=>(Kd.R_ne a0.out e0.out (by decide)) e_) hs_));have B0:=mk_ (Kept.then_ (S:=(fun k_=>b0 k_)) (by repeat(first|(with_reducible first|exact HK.out|apply Kept.alloc|apply Kept.drewN|apply Kept.drew|refine Kept.setCell ?_ (.inr m0.out) _)|exact HK.out)) hkp (fun k_ hs_=>(fun e_=>(a0.out.1 k_ e_.symm)) hs_));have C0:=mk_ (hb);clear a0;clear e0;clear HK;clear HB;have a0:=y0;have e0:=A0;have HK:=B0;have HB:=C0;clear y0 A0 B0 C0;(try clear hb);(try clear hkp);(try clear x0)))
 go_ret
 exact⟨er_,rq_ a0.out,bw_ HB,by repeat(first|(with_reducible first|exact HK.out|apply Kept.alloc|apply Kept.drewN|apply Kept.drew|refine Kept.setCell ?_ (.inr m0.out) _)|exact HK.out)⟩
def laws_markEntryS.l0:Nat→List (S105)→Int→Int→Option (Int × (List (S105)))
 |0,_,_,_=>none
 |k+1,x0,x1,x5=>if x5<(x0.length:Int) then(if 0≤x5 then((some (x0.set (x5:Int).toNat (⟨x1,(rd_T105 x0 x5).f1,(rd_T105 x0 x5).f2⟩:S105):List (S105))).bind fun a0=>((some (a0.set (x5:Int).toNat (⟨(rd_T105 a0 x5).f0,wrap64 (x1+1),(rd_T105 a0 x5).f2⟩:S105):List (S105))).bind fun b0=>((laws_markText.f k (wrap64 ((wrap64 (x1+1))+1))).bind fun d0=>(laws_markEntryS.l0 k (b0.set (x5:Int).toNat (⟨(rd_T105 b0 x5).f0,(rd_T105 b0 x5).f1,d0⟩:S105)) (wrap64 ((wrap64 ((wrap64 (x1+1))+1))+1)) (wrap64 (x5+1)))))) else(none)) else(some (x1,x0))
def laws_markEntryS.f (k:Nat) (l0:List (S105)) (a1:Int):Option (Int × (List (S105))):=laws_markEntryS.l0 k l0 a1 0
theorem laws_markEntryS.calls (k:Nat) (o0:Nat→Prop) (n0:Value) (l0:List (S105)) (a1:Int) (r1:Int) (r2:List (S105)) (w0 w:World) (hB:Below w0.heap.size w0 w) (t2:Kd.R k105 105 w w0.heap.size o0 n0 l0) (h:laws_markEntryS.f k l0 a1=some (r1,r2)):
  Calls Tryz.prog 65 #[n0,.int .i64 a1] w fun e w'=>e= .returned (.int .i64 r1)∧Kd.R k105 105 w' w0.heap.size (fun k_=>(o0 k_∨w.heap.size≤k_)) n0 r2∧Below w0.heap.size w0 w'∧Kept w w' (fun k_=>o0 k_):=by
 have v2:=mk_ (show Kd.R k105 105 w w0.heap.size (fun k_=>(o0 k_∨w.heap.size≤k_)) n0 l0 from Kd.R_mono t2 (fun k_ hk=>(.inl hk)))
 have HK:=mk_ (Kept.refl w (fun k_=>o0 k_))
 have H2:=Aside0.mk hB.size
 have HB:=Aside0.mk hB
 clear hB
 have H:=h
 unfold laws_markEntryS.f at H
 clear h
 have H':=Aside0.mk H
 clear H
 go_enter Tryz.func65,Tryz.ntmps65
 go_wp2
 go_loopg [1,5] k (fun kq v1 v5 w'=>∃(b0:List (S105)) (g0:Int) (a0:Int),v1= .int .i64 g0∧v5= .int .i64 a0∧Aside0 (laws_markEntryS.l0 kq b0 g0 a0=some (r1,r2))∧Aside0 (kq≤k)∧Aside0 (Kd.R k105 105 w' w0.heap.size (fun k_=>(o0 k_∨w.heap.size≤k_)) n0 b0)∧Aside0 (Kept w w' (fun k_=>o0 k_))∧Aside0 (Below w0.heap.size w0 w'))
 case atStart=>exact⟨(l0),(a1),(0),rl_,rl_,H',⟨Nat.le_refl _⟩,⟨rq_ v2.out⟩,⟨kp_ HK⟩,⟨bw_ HB⟩⟩
 case round=>
  clear H'
  try clear p2
  obtain⟨b0,g0,a0,rfl,rfl,HA,K1,d0,HK,HB⟩:=hrel
  cases gk with
  |zero=>exact absurd HA.out (by simp [laws_markEntryS.l0])
  |succ k1=>
   have H:=HA.out
   clear HA
   simp only [laws_markEntryS.l0] at H
   refine ic_ H ?_ ?_ <;> clear H <;> intro w2 H
   ·simp only [Option.some.injEq,Prod.mk.injEq] at H
    obtain⟨rfl,rfl⟩:=H
    obtain⟨x2,y2,C1⟩:=Kd.R_slice d0.out
    subst C1
    go_wp2
    go_ret
    exact⟨er_,rq_ d0.out,bw_ HB,kp_ HK⟩
   obtain⟨c4,H⟩:=gd_ H
   have A2:=decide_eq_true c4
   clear c4
   obtain⟨h0,r0⟩:∃y_:List (S105),y_=(b0.set (a0:Int).toNat (⟨g0,(rd_T105 b0 a0).f1,(rd_T105 b0 a0).f2⟩:S105)):=⟨_,rfl⟩
   replace H:=sb_ r0 H
   have m1:=Aside0.mk r0
   clear r0
   obtain⟨m0,s0⟩:∃y_:List (S105),y_=(h0.set (a0:Int).toNat (⟨(rd_T105 h0 a0).f0,wrap64 (g0+1),(rd_T105 h0 a0).f2⟩:S105)):=⟨_,rfl⟩
   replace H:=sb_ s0 H
   have n1:=Aside0.mk s0
   clear s0
   obtain⟨p0,A7,H⟩:=ob_ H
   try dsimp only at H
   obtain⟨o1,t0⟩:∃y_:List (S105),y_=(m0.set (a0:Int).toNat (⟨(rd_T105 m0 a0).f0,(rd_T105 m0 a0).f1,p0⟩:S105)):=⟨_,rfl⟩
   rw [←t0] at H
   have p1:=Aside0.mk t0
   clear t0
   have H':=Aside0.mk H
   clear H
   obtain⟨I2,g1,B2⟩:=Kd.R_slice d0.out
   subst B2
   have p5:0≤(a0:Int):=od_
   have q5:(a0:Int)<((b0.length:Int):Int):=od_
   obtain⟨e0,J2,L1,M1,C2,K2,N1⟩:=Kd.R_form d0.out (by omega)
   (first|cases L1|(injection L1 with ea_ en_ ec_;(first|subst ea_|(injection ea_ with ea_;subst ea_));subst ec_;clear en_))
   have D1:=Aside0.mk M1
   have L2:=Aside0.mk N1
   clear M1 C2 N1
   have O1:=mk_ (show(o0 e0∨w.heap.size≤e0) from(d0.out.1 _ rfl))
   obtain⟨M2,F1,P1,A0,B0⟩:=Kd.R_elem d0.out z105 (a0:Int) p5 q5
   obtain rfl:=k105_openM P1
   have Q1:wr.cell? ⟨e0,(a0:Int).toNat*3,none⟩=some (.int .i64 ((rd_T105 b0 a0).f0)):=A0 0 _ rfl
   have R1:wr.cell? ⟨e0,(a0:Int).toNat*3+1,none⟩=some (.int .i64 ((rd_T105 b0 a0).f1)):=A0 1 _ rfl
   have U1:wr.cell? ⟨e0,(a0:Int).toNat*3+2,none⟩=some (.string ((rd_T105 b0 a0).f2)):=A0 2 _ rfl
   have V1:wr.frozen? ⟨e0,(a0:Int).toNat*3,none⟩=false:=B0 0
   have W1:wr.frozen? ⟨e0,(a0:Int).toNat*3+1,none⟩=false:=B0 1
   have X1:wr.frozen? ⟨e0,(a0:Int).toNat*3+2,none⟩=false:=B0 2
   clear F1 A0 B0 P1
   replace p5:=eq_true p5
   replace q5:=eq_true q5
   have q1:=mk_ (show Kd.R k105 105 wr w0.heap.size (fun k_=>(o0 k_∨w.heap.size≤k_)) (.slice (some ⟨e0,0,none⟩) b0.length g1) b0 from(rp_ d0))
   obtain⟨D2,J0,s1,v0,K0⟩:=Kd.R_elem q1.out z105 (a0:Int) (od_) (by have h_:(a0:Int)<((b0.length:Int):Int):=od_;first|exact h_|(have e_:=(Kd.R_reads' d0.out).1;omega)|simpa using h_)
   obtain rfl:=k105_openM s1
   have U0:=Kd.R_seg q1.out (a0:Int) (od_) (by have h_:(a0:Int)<((b0.length:Int):Int):=od_;first|exact h_|(have e_:=(Kd.R_reads' d0.out).1;omega)|simpa using h_) (seg:=[.int .i64 g0]) (j:=0) J0 v0 (show 1≤3 from by decide) (x':=(⟨g0,(rd_T105 b0 a0).f1,(rd_T105 b0 a0).f2⟩:S105)) (k105_mkM _ _ _ (⟨g0,(rd_T105 b0 a0).f1,(rd_T105 b0 a0).f2⟩:S105)) (fun _ hk=>hk)
   have V0:=v0 0 _ rfl
   (try simp only [show(k105).sz=3 from rfl,Nat.mul_one,Nat.add_zero] at V0)
   have W0:=K0 0
   (try simp only [show(k105).sz=3 from rfl,Nat.mul_one,Nat.add_zero] at W0)
   clear J0 v0 K0 s1
   go_wp2_with (first|((with_reducible refine gate_store (t:=3) (p:=16) rfl ?_);refine store_event (t:=3) (p:=16) (v:=?vo_w11) (w1:=(wr.setCell ⟨e0,(a0:Int).toNat*3,none⟩ (.int .i64 g0))) ?hg ?ho ?hn ?hr ?_;(case ho=>rfl);(case hg=>rfl);(case hn=>rfl);(case hr=>first|(go_simp;done)|(go_simp;rfl));intro q0 hw;have hg:wr.grownBy q0 (some e0):=(by rw [hw];exact U0.2);have hp_:Kd.R k105 105 q0 w0.heap.size (fun k_=>(o0 k_∨w.heap.size≤k_)) (.slice (some ⟨e0,0,none⟩) b0.length g1) h0:=(by rw [hw,m1.out];exact U0.1);clear U0;have L0:=mk_ (hp_);have M0:=mk_ ((by rw [hw];exact below_set (HB.out) D1.out:Below w0.heap.size w0 q0));have N0:=mk_ (Kept.of_grown (S:=(fun k_=>o0 k_)) hg (kp_ HK) (fun k_ e_=>(d0.out.1 k_ e_)));clear d0;clear HB;clear HK;have d0:=L0;have HB:=M0;have HK:=N0;clear L0 M0 N0;clear hg hw hp_;have p6:0≤(a0:Int):=od_;have q6:(a0:Int)<((b0.length:Int):Int):=od_;obtain⟨N2,G1,Y1,C0,F0⟩:=Kd.R_elem d0.out z105 (a0:Int) p6 q6;obtain rfl:=k105_openM Y1;have Z1:q0.cell? ⟨e0,(a0:Int).toNat*3,none⟩=some (.int .i64 ((rd_T105 h0 a0).f0)):=C0 0 _ rfl;have a2:q0.cell? ⟨e0,(a0:Int).toNat*3+1,none⟩=some (.int .i64 ((rd_T105 h0 a0).f1)):=C0 1 _ rfl;have b2:q0.cell? ⟨e0,(a0:Int).toNat*3+2,none⟩=some (.string ((rd_T105 h0 a0).f2)):=C0 2 _ rfl;have d2:q0.frozen? ⟨e0,(a0:Int).toNat*3,none⟩=false:=F0 0;have e2:q0.frozen? ⟨e0,(a0:Int).toNat*3+1,none⟩=false:=F0 1;have g2:q0.frozen? ⟨e0,(a0:Int).toNat*3+2,none⟩=false:=F0 2;clear G1 C0 F0 Y1;replace p6:=eq_true p6;replace q6:=eq_true q6;have t1:=mk_ (show Kd.R k105 105 q0 w0.heap.size (fun k_=>(o0 k_∨w.heap.size≤k_)) (.slice (some ⟨e0,0,none⟩) b0.length g1) h0 from(rp_ d0));obtain⟨F2,O0,x1,x0,P0⟩:=Kd.R_elem t1.out z105 (a0:Int) (od_) (by have h_:(a0:Int)<((b0.length:Int):Int):=od_;first|exact h_|(have e_:=(Kd.R_reads' d0.out).1;omega)|simpa using h_);obtain rfl:=k105_openM x1;have X0:=Kd.R_seg t1.out (a0:Int) (od_) (by have h_:(a0:Int)<((b0.length:Int):Int):=od_;first|exact h_|(have e_:=(Kd.R_reads' d0.out).1;omega)|simpa using h_) (seg:=[.int .i64 (wrap64 (g0+1))]) (j:=1) O0 x0 (show 2≤3 from by decide) (x':=(⟨(rd_T105 h0 a0).f0,wrap64 (g0+1),(rd_T105 h0 a0).f2⟩:S105)) (k105_mkM _ _ _ (⟨(rd_T105 h0 a0).f0,wrap64 (g0+1),(rd_T105 h0 a0).f2⟩:S105)) (fun _ hk=>hk);have Y0:=x0 1 _ rfl;(try simp only [show(k105).sz=3 from rfl,Nat.mul_one,Nat.add_zero] at Y0);have Z0:=P0 1;(try simp only [show(k105).sz=3 from rfl,Nat.mul_one,Nat.add_zero] at Z0);clear O0 x0 P0 x1)|((with_reducible refine gate_store (t:=3) (p:=23) rfl ?_);refine store_event (t:=3) (p:=23) (v:=?vo_w13) (w1:=(q0.setCell ⟨e0,(a0:Int).toNat*3+1,none⟩ (.int .i64 (wrap64 (g0+1))))) ?hg ?ho ?hn ?hr ?_;(case ho=>rfl);(case hg=>rfl);(case hn=>rfl);(case hr=>first|(go_simp;done)|(go_simp;rfl));intro H1 hw;have hg:q0.grownBy H1 (some e0):=(by rw [hw];exact X0.2);have hp_:Kd.R k105 105 H1 w0.heap.size (fun k_=>(o0 k_∨w.heap.size≤k_)) (.slice (some ⟨e0,0,none⟩) b0.length g1) m0:=(by rw [hw,n1.out];exact X0.1);clear X0;have L0:=mk_ (hp_);have M0:=mk_ ((by rw [hw];exact below_set (HB.out) D1.out:Below w0.heap.size w0 H1));have N0:=mk_ (Kept.of_grown (S:=(fun k_=>o0 k_)) hg (kp_ HK) (fun k_ e_=>(d0.out.1 k_ e_)));clear d0;clear HB;clear HK;have d0:=L0;have HB:=M0;have HK:=N0;clear L0 M0 N0;clear hg hw hp_)|((with_reducible refine gc_ 37 rfl ?_);refine gm_ 29 Tryz.func37 (laws_markText.calls k1 (wrap64 ((wrap64 (g0+1))+1)) p0 _ A7.out) ?_;rintro G0 hb;replace d0:=rb_ d0 hb;replace HK:=kl_ HK hb;replace HB:=bs_ HB hb;(try clear hb);(try clear hk);have p8:0≤(a0:Int):=od_;have q8:(a0:Int)<((b0.length:Int):Int):=od_;obtain⟨O2,I1,h2,H0,I0⟩:=Kd.R_elem d0.out z105 (a0:Int) p8 q8;obtain rfl:=k105_openM h2;have l2:G0.cell? ⟨e0,(a0:Int).toNat*3,none⟩=some (.int .i64 ((rd_T105 m0 a0).f0)):=H0 0 _ rfl;have m2:G0.cell? ⟨e0,(a0:Int).toNat*3+1,none⟩=some (.int .i64 ((rd_T105 m0 a0).f1)):=H0 1 _ rfl;have n2:G0.cell? ⟨e0,(a0:Int).toNat*3+2,none⟩=some (.string ((rd_T105 m0 a0).f2)):=H0 2 _ rfl;have o2:G0.frozen? ⟨e0,(a0:Int).toNat*3,none⟩=false:=I0 0;have q2:G0.frozen? ⟨e0,(a0:Int).toNat*3+1,none⟩=false:=I0 1;have s2:G0.frozen? ⟨e0,(a0:Int).toNat*3+2,none⟩=false:=I0 2;clear I1 H0 I0 h2;replace p8:=eq_true p8;replace q8:=eq_true q8;have y1:=mk_ (show Kd.R k105 105 G0 w0.heap.size (fun k_=>(o0 k_∨w.heap.size≤k_)) (.slice (some ⟨e0,0,none⟩) b0.length g1) m0 from(rp_ d0));obtain⟨G2,Q0,A1,y0,R0⟩:=Kd.R_elem y1.out z105 (a0:Int) (od_) (by have h_:(a0:Int)<((b0.length:Int):Int):=od_;first|exact h_|(have e_:=(Kd.R_reads' d0.out).1;omega)|simpa using h_);obtain rfl:=k105_openM A1;have b1:=Kd.R_seg y1.out (a0:Int) (od_) (by have h_:(a0:Int)<((b0.length:Int):Int):=od_;first|exact h_|(have e_:=(Kd.R_reads' d0.out).1;omega)|simpa using h_) (seg:=[.string p0]) (j:=2) Q0 y0 (show 3≤3 from by decide) (x':=(⟨(rd_T105 m0 a0).f0,(rd_T105 m0 a0).f1,p0⟩:S105)) (k105_mkM _ _ _ (⟨(rd_T105 m0 a0).f0,(rd_T105 m0 a0).f1,p0⟩:S105)) (fun _ hk=>hk);have d1:=y0 2 _ rfl;(try simp only [show(k105).sz=3 from rfl,Nat.mul_one,Nat.add_zero] at d1);have e1:=R0 2;(try simp only [show(k105).sz=3 from rfl,Nat.mul_one,Nat.add_zero] at e1);clear Q0 y0 R0 A1)|((with_reducible refine gate_store (t:=9) (p:=31) rfl ?_);refine store_event (t:=9) (p:=31) (v:=?vo_w16) (w1:=(G0.setCell ⟨e0,(a0:Int).toNat*3+2,none⟩ (.string p0))) ?hg ?ho ?hn ?hr ?_;(case ho=>rfl);(case hg=>rfl);(case hn=>rfl);(case hr=>first|(go_simp;done)|(go_simp;rfl));intro J1 hw;have hg:G0.grownBy J1 (some e0):=(by rw [hw];exact b1.2);have hp_:Kd.R k105 105 J1 w0.heap.size (fun k_=>(o0 k_∨w.heap.size≤k_)) (.slice (some ⟨e0,0,none⟩) b0.length g1) o1:=(by rw [hw,p1.out];exact b1.1);clear b1;have L0:=mk_ (hp_);have M0:=mk_ ((by rw [hw];exact below_set (HB.out) D1.out:Below w0.heap.size w0 J1));have N0:=mk_ (Kept.of_grown (S:=(fun k_=>o0 k_)) hg (kp_ HK) (fun k_ e_=>(d0.out.1 k_ e_)));clear d0;clear HB;clear HK;have d0:=L0;have HB:=M0;have HK:=N0;clear L0 M0 N0;clear hg hw hp_))
   go_roundg k1
   case measure=>have:=K1.out;omega
   case rel=>exact⟨(o1),(wrap64 ((wrap64 ((wrap64 (g0+1))+1))+1)),(wrap64 (a0+1)),rl_,rl_,H',⟨by have:=K1.out;omega⟩,⟨rq_ d0.out⟩,⟨kp_ HK⟩,⟨bw_ HB⟩⟩
def laws_markLog.f (k:Nat) (d0:Int) (e0:Int) (b0:List (S105)) (a1:Int):Option (Int × (List (S105))):=(laws_markEntryS.f k b0 a1).bind fun a0=>(some (a0.1,a0.2))
theorem laws_markLog.calls (k:Nat) (n0:Int) (o0:Int) (b0:Nat→Prop) (d0:Value) (g0:List (S105)) (a1:Int) (r1:Int) (r2:List (S105)) (w0 w:World) (hB:Below w0.heap.size w0 w) (p0:Kd.R k105 105 w w0.heap.size b0 d0 g0) (h:laws_markLog.f k n0 o0 g0 a1=some (r1,r2)):
  Calls Tryz.prog 36 #[.agg #[.int .i64 n0,.int .i64 o0,d0],.int .i64 a1] w fun e w'=>e= .returned (.int .i64 r1)∧Kd.R k105 105 w' w0.heap.size (fun k_=>(b0 k_∨w.heap.size≤k_)) d0 r2∧Below w0.heap.size w0 w'∧Kept w w' (fun k_=>b0 k_):=by
 have L0:=Tryz.underlying28
 have a0:=mk_ (show Kd.R k105 105 w w0.heap.size (fun k_=>(b0 k_∨w.heap.size≤k_)) d0 g0 from Kd.R_mono p0 (fun k_ hk=>(.inl hk)))
 have HK:=mk_ (Kept.refl w (fun k_=>b0 k_))
 have N0:=Aside0.mk hB.size
 have HB:=Aside0.mk hB
 clear hB
 have H:=h
 unfold laws_markLog.f at H
 clear h
 obtain⟨⟨q0,r0⟩,A3,H⟩:=ob_ H
 try dsimp only at H
 simp only [Option.some.injEq,Prod.mk.injEq] at H
 obtain⟨rfl,rfl⟩:=H
 obtain⟨s0,t0,M0⟩:=Kd.R_slice a0.out
 subst M0
 go_enter Tryz.func36,Tryz.ntmps36
 go_wp2_with (first|((with_reducible refine gn_ 2 rfl ?_);refine bx_ (N:=2) (cs:=#[.int .i64 n0,.int .i64 o0,.slice s0 g0.length t0]) (t:=28) ?_;intro h0 hg w5 hbox hb;have e0:=mk_ (hbox);have m0:=mk_ ((by rw [hg];exact(kp_ HK).1:w.heap.size≤h0));have F0:=mk_ ((by rw [hg];exact(below_size (bw_ HB)):w0.heap.size≤h0));replace a0:=mk_ (Kd.R_below (rq_ a0.out) hb);replace HK:=kl_ HK hb;replace HB:=bs_ HB hb;clear hb hbox hg;obtain⟨v0,x0,y0,A0,B0,C0⟩:=b3_ e0)|((with_reducible refine gc_ 65 rfl ?_);refine gm_ 8 Tryz.func65 (laws_markEntryS.calls k (fun k_=>some k_=(.slice s0 g0.length t0:Value).ownBlock) (.slice s0 g0.length t0) g0 a1 q0 r0 w0 _ ?side1 ?side2 A3.out) ?_;(case side1=>exact bw_ HB);(case side2=>exact Kd.R_tight rfl a0.out);rintro w7 ⟨G0,hb,hkp⟩;have H0:=mk_ (Kd.R_reok rfl G0 (fun k_ e_=>a0.out.1 k_ e_));have I0:=mk_ (blk_kept (bp_ e0) hkp (fun hs_=>(fun e_=>(Kd.R_ne a0.out e0.out (by decide)) e_) hs_));have J0:=mk_ (Kept.then_ (S:=(fun k_=>b0 k_)) (by repeat(first|(with_reducible first|exact HK.out|apply Kept.alloc|apply Kept.drewN|apply Kept.drew|refine Kept.setCell ?_ (.inr m0.out) _)|exact HK.out)) hkp (fun k_ hs_=>(fun e_=>(a0.out.1 k_ e_.symm)) hs_));have K0:=mk_ (hb);clear a0;clear e0;clear HK;clear HB;have a0:=H0;have e0:=I0;have HK:=J0;have HB:=K0;clear H0 I0 J0 K0;(try clear hb);(try clear hkp);(try clear G0)))
 go_ret
 exact⟨er_,rq_ a0.out,bw_ HB,by repeat(first|(with_reducible first|exact HK.out|apply Kept.alloc|apply Kept.drewN|apply Kept.drew|refine Kept.setCell ?_ (.inr m0.out) _)|exact HK.out)⟩
def laws_markJournal.f (k:Nat) (g0:Int) (h0:Int) (m0:Int) (b0:Int) (d0:Int) (e0:List (S105)) (a1:Int):Option (Int × (List (S105))):=(laws_markLog.f k b0 d0 e0 a1).bind fun a0=>(some (a0.1,a0.2))
theorem laws_markJournal.calls (k:Nat) (p0:Int) (q0:Int) (r0:Int) (h0:Int) (m0:Int) (b0:Nat→Prop) (d0:Value) (g0:List (S105)) (a1:Int) (r1:Int) (r2:List (S105)) (w0 w:World) (hB:Below w0.heap.size w0 w) (s0:Kd.R k105 105 w w0.heap.size b0 d0 g0) (h:laws_markJournal.f k p0 q0 r0 h0 m0 g0 a1=some (r1,r2)):
  Calls Tryz.prog 12 #[.agg #[.int .i64 p0,.int .i64 q0,.int .i64 r0,.int .i64 h0,.int .i64 m0,d0],.int .i64 a1] w fun e w'=>e= .returned (.int .i64 r1)∧Kd.R k105 105 w' w0.heap.size (fun k_=>(b0 k_∨w.heap.size≤k_)) d0 r2∧Below w0.heap.size w0 w'∧Kept w w' (fun k_=>b0 k_):=by
 have W0:=Tryz.underlying30
 have X0:=Tryz.underlying28
 have a0:=mk_ (show Kd.R k105 105 w w0.heap.size (fun k_=>(b0 k_∨w.heap.size≤k_)) d0 g0 from Kd.R_mono s0 (fun k_ hk=>(.inl hk)))
 have HK:=mk_ (Kept.refl w (fun k_=>b0 k_))
 have Z0:=Aside0.mk hB.size
 have HB:=Aside0.mk hB
 clear hB
 have H:=h
 unfold laws_markJournal.f at H
 clear h
 obtain⟨⟨t0,v0⟩,A3,H⟩:=ob_ H
 try dsimp only at H
 simp only [Option.some.injEq,Prod.mk.injEq] at H
 obtain⟨rfl,rfl⟩:=H
 obtain⟨x0,y0,Y0⟩:=Kd.R_slice a0.out
 subst Y0
 go_enter Tryz.func12,Tryz.ntmps12
 go_wp2_with (first|((with_reducible refine gn_ 2 rfl ?_);refine bx_ (N:=2) (cs:=#[.int .i64 p0,.int .i64 q0,.int .i64 r0,.int .i64 h0,.int .i64 m0,.slice x0 g0.length y0]) (t:=30) ?_;intro n0 hg w5 hbox hb;have e0:=mk_ (hbox);have o0:=mk_ ((by rw [hg];exact(kp_ HK).1:w.heap.size≤n0));have O0:=mk_ ((by rw [hg];exact(below_size (bw_ HB)):w0.heap.size≤n0));replace a0:=mk_ (Kd.R_below (rq_ a0.out) hb);replace HK:=kl_ HK hb;replace HB:=bs_ HB hb;clear hb hbox hg;obtain⟨A0,B0,C0,F0,G0,H0,I0,J0,K0,L0,M0,N0⟩:=b6_ e0)|((with_reducible refine gc_ 36 rfl ?_);refine gm_ 8 Tryz.func36 (laws_markLog.calls k h0 m0 (fun k_=>some k_=(.slice x0 g0.length y0:Value).ownBlock) (.slice x0 g0.length y0) g0 a1 t0 v0 w0 _ ?side1 ?side2 A3.out) ?_;(case side1=>exact bw_ HB);(case side2=>exact Kd.R_tight rfl a0.out);rintro w7 ⟨P0,hb,hkp⟩;have Q0:=mk_ (Kd.R_reok rfl P0 (fun k_ e_=>a0.out.1 k_ e_));have R0:=mk_ (blk_kept (bp_ e0) hkp (fun hs_=>(fun e_=>(Kd.R_ne a0.out e0.out (by decide)) e_) hs_));have U0:=mk_ (Kept.then_ (S:=(fun k_=>b0 k_)) (by repeat(first|(with_reducible first|exact HK.out|apply Kept.alloc|apply Kept.drewN|apply Kept.drew|refine Kept.setCell ?_ (.inr o0.out) _)|exact HK.out)) hkp (fun k_ hs_=>(fun e_=>(a0.out.1 k_ e_.symm)) hs_));have V0:=mk_ (hb);clear a0;clear e0;clear HK;clear HB;have a0:=Q0;have e0:=R0;have HK:=U0;have HB:=V0;clear Q0 R0 U0 V0;(try clear hb);(try clear hkp);(try clear P0)))
 go_ret
 exact⟨er_,rq_ a0.out,bw_ HB,by repeat(first|(with_reducible first|exact HK.out|apply Kept.alloc|apply Kept.drewN|apply Kept.drew|refine Kept.setCell ?_ (.inr o0.out) _)|exact HK.out)⟩
def laws_markActS.l0:Nat→List (S57)→Int→Int→Option (Int × (List (S57)))
 |0,_,_,_=>none
 |k+1,x0,x1,x5=>if x5<(x0.length:Int) then(if 0≤x5 then((some (x0.set (x5:Int).toNat (⟨x1,(rd_T57 x0 x5).f1,(rd_T57 x0 x5).f2,(rd_T57 x0 x5).f3⟩:S57):List (S57))).bind fun a0=>((laws_markText.f k (wrap64 (x1+1))).bind fun e0=>((some (a0.set (x5:Int).toNat (⟨(rd_T57 a0 x5).f0,e0,(rd_T57 a0 x5).f2,(rd_T57 a0 x5).f3⟩:S57):List (S57))).bind fun b0=>((laws_markText.f k (wrap64 ((wrap64 (x1+1))+1))).bind fun g0=>((some (b0.set (x5:Int).toNat (⟨(rd_T57 b0 x5).f0,(rd_T57 b0 x5).f1,g0,(rd_T57 b0 x5).f3⟩:S57):List (S57))).bind fun d0=>((laws_markText.f k (wrap64 ((wrap64 ((wrap64 (x1+1))+1))+1))).bind fun h0=>(laws_markActS.l0 k (d0.set (x5:Int).toNat (⟨(rd_T57 d0 x5).f0,(rd_T57 d0 x5).f1,(rd_T57 d0 x5).f2,h0⟩:S57)) (wrap64 ((wrap64 ((wrap64 ((wrap64 (x1+1))+1))+1))+1)) (wrap64 (x5+1))))))))) else(none)) else(some (x1,x0))
def laws_markActS.f (k:Nat) (l0:List (S57)) (a1:Int):Option (Int × (List (S57))):=laws_markActS.l0 k l0 a1 0
theorem laws_markActS.calls (k:Nat) (p0:Nat→Prop) (o0:Value) (l0:List (S57)) (a1:Int) (r1:Int) (r2:List (S57)) (w0 w:World) (hB:Below w0.heap.size w0 w) (n3:Kd.R k57 57 w w0.heap.size p0 o0 l0) (h:laws_markActS.f k l0 a1=some (r1,r2)):
  Calls Tryz.prog 13 #[o0,.int .i64 a1] w fun e w'=>e= .returned (.int .i64 r1)∧Kd.R k57 57 w' w0.heap.size (fun k_=>(p0 k_∨w.heap.size≤k_)) o0 r2∧Below w0.heap.size w0 w'∧Kept w w' (fun k_=>p0 k_):=by
 have o3:=mk_ (show Kd.R k57 57 w w0.heap.size (fun k_=>(p0 k_∨w.heap.size≤k_)) o0 l0 from Kd.R_mono n3 (fun k_ hk=>(.inl hk)))
 have HK:=mk_ (Kept.refl w (fun k_=>p0 k_))
 have G3:=Aside0.mk hB.size
 have HB:=Aside0.mk hB
 clear hB
 have H:(laws_markActS.l0 k l0 a1 0)=some (r1,r2):=h
 clear h
 have H':=Aside0.mk H
 clear H
 go_enter Tryz.func13,Tryz.ntmps13
 go_wp2
 go_loopg [1,5] k (fun kq v1 v5 w'=>∃(d0:List (S57)) (n0:Int) (a0:Int),v1= .int .i64 n0∧v5= .int .i64 a0∧Aside0 (laws_markActS.l0 kq d0 n0 a0=some (r1,r2))∧Aside0 (kq≤k)∧Aside0 (Kd.R k57 57 w' w0.heap.size (fun k_=>(p0 k_∨w.heap.size≤k_)) o0 d0)∧Aside0 (Kept w w' (fun k_=>p0 k_))∧Aside0 (Below w0.heap.size w0 w'))
 case atStart=>exact⟨(l0),(a1),(0),rl_,rl_,H',⟨Nat.le_refl _⟩,⟨rq_ o3.out⟩,⟨kp_ HK⟩,⟨bw_ HB⟩⟩
 case round=>
  clear H'
  try clear p2
  obtain⟨d0,n0,a0,rfl,rfl,HA,A2,b0,HK,HB⟩:=hrel
  cases gk with
  |zero=>exact absurd HA.out (by simp [laws_markActS.l0])
  |succ k1=>
   have H:=HA.out
   clear HA
   simp only [laws_markActS.l0] at H
   refine ic_ H ?_ ?_ <;> clear H <;> intro q3 H
   ·simp only [Option.some.injEq,Prod.mk.injEq] at H
    obtain⟨rfl,rfl⟩:=H
    obtain⟨r3,s3,Y1⟩:=Kd.R_slice b0.out
    subst Y1
    go_wp2
    go_ret
    exact⟨er_,rq_ b0.out,bw_ HB,kp_ HK⟩
   obtain⟨c4,H⟩:=gd_ H
   have t3:=decide_eq_true c4
   clear c4
   obtain⟨g0,y0⟩:∃y_:List (S57),y_=(d0.set (a0:Int).toNat (⟨n0,(rd_T57 d0 a0).f1,(rd_T57 d0 a0).f2,(rd_T57 d0 a0).f3⟩:S57)):=⟨_,rfl⟩
   replace H:=sb_ y0 H
   have G1:=Aside0.mk y0
   clear y0
   obtain⟨t0,A6,H⟩:=ob_ H
   try dsimp only at H
   obtain⟨h0,A0⟩:∃y_:List (S57),y_=(g0.set (a0:Int).toNat (⟨(rd_T57 g0 a0).f0,t0,(rd_T57 g0 a0).f2,(rd_T57 g0 a0).f3⟩:S57)):=⟨_,rfl⟩
   replace H:=sb_ A0 H
   have H1:=Aside0.mk A0
   clear A0
   obtain⟨v0,A8,H⟩:=ob_ H
   try dsimp only at H
   obtain⟨m0,B0⟩:∃y_:List (S57),y_=(h0.set (a0:Int).toNat (⟨(rd_T57 h0 a0).f0,(rd_T57 h0 a0).f1,v0,(rd_T57 h0 a0).f3⟩:S57)):=⟨_,rfl⟩
   replace H:=sb_ B0 H
   have I1:=Aside0.mk B0
   clear B0
   obtain⟨x0,v3,H⟩:=ob_ H
   try dsimp only at H
   obtain⟨J1,C0⟩:∃y_:List (S57),y_=(m0.set (a0:Int).toNat (⟨(rd_T57 m0 a0).f0,(rd_T57 m0 a0).f1,(rd_T57 m0 a0).f2,x0⟩:S57)):=⟨_,rfl⟩
   rw [←C0] at H
   have K1:=Aside0.mk C0
   clear C0
   have H':=Aside0.mk H
   clear H
   obtain⟨w3,q0,Z1⟩:=Kd.R_slice b0.out
   subst Z1
   have p5:0≤(a0:Int):=od_
   have q5:(a0:Int)<((d0.length:Int):Int):=od_
   obtain⟨e0,H3,B2,C2,x3,I3,D2⟩:=Kd.R_form b0.out (by omega)
   (first|cases B2|(injection B2 with ea_ en_ ec_;(first|subst ea_|(injection ea_ with ea_;subst ea_));subst ec_;clear en_))
   have X1:=Aside0.mk C2
   have J3:=Aside0.mk D2
   clear C2 x3 D2
   have F2:=mk_ (show(p0 e0∨w.heap.size≤e0) from(b0.out.1 _ rfl))
   obtain⟨K3,a2,G2,F0,G0⟩:=Kd.R_elem b0.out z57 (a0:Int) p5 q5
   obtain rfl:=k57_openM G2
   have H2:wr.cell? ⟨e0,(a0:Int).toNat*4,none⟩=some (.int .i64 ((rd_T57 d0 a0).f0)):=F0 0 _ rfl
   have I2:wr.cell? ⟨e0,(a0:Int).toNat*4+1,none⟩=some (.string ((rd_T57 d0 a0).f1)):=F0 1 _ rfl
   have J2:wr.cell? ⟨e0,(a0:Int).toNat*4+2,none⟩=some (.string ((rd_T57 d0 a0).f2)):=F0 2 _ rfl
   have K2:wr.cell? ⟨e0,(a0:Int).toNat*4+3,none⟩=some (.string ((rd_T57 d0 a0).f3)):=F0 3 _ rfl
   have L2:wr.frozen? ⟨e0,(a0:Int).toNat*4,none⟩=false:=G0 0
   have M2:wr.frozen? ⟨e0,(a0:Int).toNat*4+1,none⟩=false:=G0 1
   have N2:wr.frozen? ⟨e0,(a0:Int).toNat*4+2,none⟩=false:=G0 2
   have O2:wr.frozen? ⟨e0,(a0:Int).toNat*4+3,none⟩=false:=G0 3
   clear a2 F0 G0 G2
   replace p5:=eq_true p5
   replace q5:=eq_true q5
   have L1:=mk_ (show Kd.R k57 57 wr w0.heap.size (fun k_=>(p0 k_∨w.heap.size≤k_)) (.slice (some ⟨e0,0,none⟩) d0.length q0) d0 from(rp_ b0))
   obtain⟨y3,X0,M1,H0,Y0⟩:=Kd.R_elem L1.out z57 (a0:Int) (od_) (by have h_:(a0:Int)<((d0.length:Int):Int):=od_;first|exact h_|(have e_:=(Kd.R_reads' b0.out).1;omega)|simpa using h_)
   obtain rfl:=k57_openM M1
   have n1:=Kd.R_seg L1.out (a0:Int) (od_) (by have h_:(a0:Int)<((d0.length:Int):Int):=od_;first|exact h_|(have e_:=(Kd.R_reads' b0.out).1;omega)|simpa using h_) (seg:=[.int .i64 n0]) (j:=0) X0 H0 (show 1≤4 from by decide) (x':=(⟨n0,(rd_T57 d0 a0).f1,(rd_T57 d0 a0).f2,(rd_T57 d0 a0).f3⟩:S57)) (k57_mkM _ _ _ (⟨n0,(rd_T57 d0 a0).f1,(rd_T57 d0 a0).f2,(rd_T57 d0 a0).f3⟩:S57)) (fun _ hk=>hk)
   have o1:=H0 0 _ rfl
   (try simp only [show(k57).sz=4 from rfl,Nat.mul_one,Nat.add_zero] at o1)
   have p1:=Y0 0
   (try simp only [show(k57).sz=4 from rfl,Nat.mul_one,Nat.add_zero] at p1)
   clear X0 H0 Y0 M1
   go_wp2_with (first|((with_reducible refine gate_store (t:=3) (p:=16) rfl ?_);refine store_event (t:=3) (p:=16) (v:=?vo_w14) (w1:=(wr.setCell ⟨e0,(a0:Int).toNat*4,none⟩ (.int .i64 n0))) ?hg ?ho ?hn ?hr ?_;(case ho=>rfl);(case hg=>rfl);(case hn=>rfl);(case hr=>first|(go_simp;done)|(go_simp;rfl));intro b2 hw;have hg:wr.grownBy b2 (some e0):=(by rw [hw];exact n1.2);have hp_:Kd.R k57 57 b2 w0.heap.size (fun k_=>(p0 k_∨w.heap.size≤k_)) (.slice (some ⟨e0,0,none⟩) d0.length q0) g0:=(by rw [hw,G1.out];exact n1.1);clear n1;have I0:=mk_ (hp_);have J0:=mk_ ((by rw [hw];exact below_set (HB.out) X1.out:Below w0.heap.size w0 b2));have K0:=mk_ (Kept.of_grown (S:=(fun k_=>p0 k_)) hg (kp_ HK) (fun k_ e_=>(b0.out.1 k_ e_)));clear b0;clear HB;clear HK;have b0:=I0;have HB:=J0;have HK:=K0;clear I0 J0 K0;clear hg hw hp_)|((with_reducible refine gc_ 37 rfl ?_);refine gm_ 22 Tryz.func37 (laws_markText.calls k1 (wrap64 (n0+1)) t0 _ A6.out) ?_;rintro L0 hb;replace b0:=rb_ b0 hb;replace HK:=kl_ HK hb;replace HB:=bs_ HB hb;(try clear hb);(try clear hk);have p7:0≤(a0:Int):=od_;have q7:(a0:Int)<((d0.length:Int):Int):=od_;obtain⟨L3,d2,P2,M0,N0⟩:=Kd.R_elem b0.out z57 (a0:Int) p7 q7;obtain rfl:=k57_openM P2;have Q2:L0.cell? ⟨e0,(a0:Int).toNat*4,none⟩=some (.int .i64 ((rd_T57 g0 a0).f0)):=M0 0 _ rfl;have R2:L0.cell? ⟨e0,(a0:Int).toNat*4+1,none⟩=some (.string ((rd_T57 g0 a0).f1)):=M0 1 _ rfl;have U2:L0.cell? ⟨e0,(a0:Int).toNat*4+2,none⟩=some (.string ((rd_T57 g0 a0).f2)):=M0 2 _ rfl;have V2:L0.cell? ⟨e0,(a0:Int).toNat*4+3,none⟩=some (.string ((rd_T57 g0 a0).f3)):=M0 3 _ rfl;have W2:L0.frozen? ⟨e0,(a0:Int).toNat*4,none⟩=false:=N0 0;have X2:L0.frozen? ⟨e0,(a0:Int).toNat*4+1,none⟩=false:=N0 1;have Y2:L0.frozen? ⟨e0,(a0:Int).toNat*4+2,none⟩=false:=N0 2;have Z2:L0.frozen? ⟨e0,(a0:Int).toNat*4+3,none⟩=false:=N0 3;clear d2 M0 N0 P2;replace p7:=eq_true p7;replace q7:=eq_true q7;have N1:=mk_ (show Kd.R k57 57 L0 w0.heap.size (fun k_=>(p0 k_∨w.heap.size≤k_)) (.slice (some ⟨e0,0,none⟩) d0.length q0) g0 from(rp_ b0));obtain⟨A3,Z0,O1,O0,b1⟩:=Kd.R_elem N1.out z57 (a0:Int) (od_) (by have h_:(a0:Int)<((d0.length:Int):Int):=od_;first|exact h_|(have e_:=(Kd.R_reads' b0.out).1;omega)|simpa using h_);obtain rfl:=k57_openM O1;have q1:=Kd.R_seg N1.out (a0:Int) (od_) (by have h_:(a0:Int)<((d0.length:Int):Int):=od_;first|exact h_|(have e_:=(Kd.R_reads' b0.out).1;omega)|simpa using h_) (seg:=[.string t0]) (j:=1) Z0 O0 (show 2≤4 from by decide) (x':=(⟨(rd_T57 g0 a0).f0,t0,(rd_T57 g0 a0).f2,(rd_T57 g0 a0).f3⟩:S57)) (k57_mkM _ _ _ (⟨(rd_T57 g0 a0).f0,t0,(rd_T57 g0 a0).f2,(rd_T57 g0 a0).f3⟩:S57)) (fun _ hk=>hk);have s1:=O0 1 _ rfl;(try simp only [show(k57).sz=4 from rfl,Nat.mul_one,Nat.add_zero] at s1);have t1:=b1 1;(try simp only [show(k57).sz=4 from rfl,Nat.mul_one,Nat.add_zero] at t1);clear Z0 O0 b1 O1)|((with_reducible refine gate_store (t:=9) (p:=24) rfl ?_);refine store_event (t:=9) (p:=24) (v:=?vo_w17) (w1:=(L0.setCell ⟨e0,(a0:Int).toNat*4+1,none⟩ (.string t0))) ?hg ?ho ?hn ?hr ?_;(case ho=>rfl);(case hg=>rfl);(case hn=>rfl);(case hr=>first|(go_simp;done)|(go_simp;rfl));intro e2 hw;have hg:L0.grownBy e2 (some e0):=(by rw [hw];exact q1.2);have hp_:Kd.R k57 57 e2 w0.heap.size (fun k_=>(p0 k_∨w.heap.size≤k_)) (.slice (some ⟨e0,0,none⟩) d0.length q0) h0:=(by rw [hw,H1.out];exact q1.1);clear q1;have I0:=mk_ (hp_);have J0:=mk_ ((by rw [hw];exact below_set (HB.out) X1.out:Below w0.heap.size w0 e2));have K0:=mk_ (Kept.of_grown (S:=(fun k_=>p0 k_)) hg (kp_ HK) (fun k_ e_=>(b0.out.1 k_ e_)));clear b0;clear HB;clear HK;have b0:=I0;have HB:=J0;have HK:=K0;clear I0 J0 K0;clear hg hw hp_)|((with_reducible refine gc_ 37 rfl ?_);refine gm_ 30 Tryz.func37 (laws_markText.calls k1 (wrap64 ((wrap64 (n0+1))+1)) v0 _ A8.out) ?_;rintro P0 hb;replace b0:=rb_ b0 hb;replace HK:=kl_ HK hb;replace HB:=bs_ HB hb;(try clear hb);(try clear hk);have p9:0≤(a0:Int):=od_;have q9:(a0:Int)<((d0.length:Int):Int):=od_;obtain⟨M3,g2,a3,Q0,R0⟩:=Kd.R_elem b0.out z57 (a0:Int) p9 q9;obtain rfl:=k57_openM a3;have b3:P0.cell? ⟨e0,(a0:Int).toNat*4,none⟩=some (.int .i64 ((rd_T57 h0 a0).f0)):=Q0 0 _ rfl;have d3:P0.cell? ⟨e0,(a0:Int).toNat*4+1,none⟩=some (.string ((rd_T57 h0 a0).f1)):=Q0 1 _ rfl;have e3:P0.cell? ⟨e0,(a0:Int).toNat*4+2,none⟩=some (.string ((rd_T57 h0 a0).f2)):=Q0 2 _ rfl;have g3:P0.cell? ⟨e0,(a0:Int).toNat*4+3,none⟩=some (.string ((rd_T57 h0 a0).f3)):=Q0 3 _ rfl;have h3:P0.frozen? ⟨e0,(a0:Int).toNat*4,none⟩=false:=R0 0;have j3:P0.frozen? ⟨e0,(a0:Int).toNat*4+1,none⟩=false:=R0 1;have l3:P0.frozen? ⟨e0,(a0:Int).toNat*4+2,none⟩=false:=R0 2;have m3:P0.frozen? ⟨e0,(a0:Int).toNat*4+3,none⟩=false:=R0 3;clear g2 Q0 R0 a3;replace p9:=eq_true p9;replace q9:=eq_true q9;have P1:=mk_ (show Kd.R k57 57 P0 w0.heap.size (fun k_=>(p0 k_∨w.heap.size≤k_)) (.slice (some ⟨e0,0,none⟩) d0.length q0) h0 from(rp_ b0));obtain⟨C3,d1,Q1,U0,e1⟩:=Kd.R_elem P1.out z57 (a0:Int) (od_) (by have h_:(a0:Int)<((d0.length:Int):Int):=od_;first|exact h_|(have e_:=(Kd.R_reads' b0.out).1;omega)|simpa using h_);obtain rfl:=k57_openM Q1;have x1:=Kd.R_seg P1.out (a0:Int) (od_) (by have h_:(a0:Int)<((d0.length:Int):Int):=od_;first|exact h_|(have e_:=(Kd.R_reads' b0.out).1;omega)|simpa using h_) (seg:=[.string v0]) (j:=2) d1 U0 (show 3≤4 from by decide) (x':=(⟨(rd_T57 h0 a0).f0,(rd_T57 h0 a0).f1,v0,(rd_T57 h0 a0).f3⟩:S57)) (k57_mkM _ _ _ (⟨(rd_T57 h0 a0).f0,(rd_T57 h0 a0).f1,v0,(rd_T57 h0 a0).f3⟩:S57)) (fun _ hk=>hk);have y1:=U0 2 _ rfl;(try simp only [show(k57).sz=4 from rfl,Nat.mul_one,Nat.add_zero] at y1);have A1:=e1 2;(try simp only [show(k57).sz=4 from rfl,Nat.mul_one,Nat.add_zero] at A1);clear d1 U0 e1 Q1)|((with_reducible refine gate_store (t:=9) (p:=32) rfl ?_);refine store_event (t:=9) (p:=32) (v:=?vo_w20) (w1:=(P0.setCell ⟨e0,(a0:Int).toNat*4+2,none⟩ (.string v0))) ?hg ?ho ?hn ?hr ?_;(case ho=>rfl);(case hg=>rfl);(case hn=>rfl);(case hr=>first|(go_simp;done)|(go_simp;rfl));intro h2 hw;have hg:P0.grownBy h2 (some e0):=(by rw [hw];exact x1.2);have hp_:Kd.R k57 57 h2 w0.heap.size (fun k_=>(p0 k_∨w.heap.size≤k_)) (.slice (some ⟨e0,0,none⟩) d0.length q0) m0:=(by rw [hw,I1.out];exact x1.1);clear x1;have I0:=mk_ (hp_);have J0:=mk_ ((by rw [hw];exact below_set (HB.out) X1.out:Below w0.heap.size w0 h2));have K0:=mk_ (Kept.of_grown (S:=(fun k_=>p0 k_)) hg (kp_ HK) (fun k_ e_=>(b0.out.1 k_ e_)));clear b0;clear HB;clear HK;have b0:=I0;have HB:=J0;have HK:=K0;clear I0 J0 K0;clear hg hw hp_)|((with_reducible refine gc_ 37 rfl ?_);refine gm_ 38 Tryz.func37 (laws_markText.calls k1 (wrap64 ((wrap64 ((wrap64 (n0+1))+1))+1)) x0 _ v3.out) ?_;rintro V0 hb;replace b0:=rb_ b0 hb;replace HK:=kl_ HK hb;replace HB:=bs_ HB hb;(try clear hb);(try clear hk);have l2:0≤(a0:Int):=od_;have m2:(a0:Int)<((d0.length:Int):Int):=od_;obtain⟨D3,R1,U1,r0,s0⟩:=Kd.R_elem b0.out z57 (a0:Int) l2 m2;obtain rfl:=k57_openM U1;have n2:V0.cell? ⟨e0,(a0:Int).toNat*4,none⟩=some (.int .i64 ((rd_T57 m0 a0).f0)):=r0 0 _ rfl;have o2:V0.cell? ⟨e0,(a0:Int).toNat*4+1,none⟩=some (.string ((rd_T57 m0 a0).f1)):=r0 1 _ rfl;have q2:V0.cell? ⟨e0,(a0:Int).toNat*4+2,none⟩=some (.string ((rd_T57 m0 a0).f2)):=r0 2 _ rfl;have s2:V0.cell? ⟨e0,(a0:Int).toNat*4+3,none⟩=some (.string ((rd_T57 m0 a0).f3)):=r0 3 _ rfl;have t2:V0.frozen? ⟨e0,(a0:Int).toNat*4,none⟩=false:=s0 0;have v2:V0.frozen? ⟨e0,(a0:Int).toNat*4+1,none⟩=false:=s0 1;have w2:V0.frozen? ⟨e0,(a0:Int).toNat*4+2,none⟩=false:=s0 2;have x2:V0.frozen? ⟨e0,(a0:Int).toNat*4+3,none⟩=false:=s0 3;clear R1 r0 s0 U1;replace l2:=eq_true l2;replace m2:=eq_true m2;have V1:=mk_ (show Kd.R k57 57 V0 w0.heap.size (fun k_=>(p0 k_∨w.heap.size≤k_)) (.slice (some ⟨e0,0,none⟩) d0.length q0) m0 from(rp_ b0));obtain⟨F3,g1,W1,W0,m1⟩:=Kd.R_elem V1.out z57 (a0:Int) (od_) (by have h_:(a0:Int)<((d0.length:Int):Int):=od_;first|exact h_|(have e_:=(Kd.R_reads' b0.out).1;omega)|simpa using h_);obtain rfl:=k57_openM W1;have C1:=Kd.R_seg V1.out (a0:Int) (od_) (by have h_:(a0:Int)<((d0.length:Int):Int):=od_;first|exact h_|(have e_:=(Kd.R_reads' b0.out).1;omega)|simpa using h_) (seg:=[.string x0]) (j:=3) g1 W0 (show 4≤4 from by decide) (x':=(⟨(rd_T57 m0 a0).f0,(rd_T57 m0 a0).f1,(rd_T57 m0 a0).f2,x0⟩:S57)) (k57_mkM _ _ _ (⟨(rd_T57 m0 a0).f0,(rd_T57 m0 a0).f1,(rd_T57 m0 a0).f2,x0⟩:S57)) (fun _ hk=>hk);have D1:=W0 3 _ rfl;(try simp only [show(k57).sz=4 from rfl,Nat.mul_one,Nat.add_zero] at D1);have F1:=m1 3;(try simp only [show(k57).sz=4 from rfl,Nat.mul_one,Nat.add_zero] at F1);clear g1 W0 m1 W1)|((with_reducible refine gate_store (t:=9) (p:=40) rfl ?_);refine store_event (t:=9) (p:=40) (v:=?vo_w23) (w1:=(V0.setCell ⟨e0,(a0:Int).toNat*4+3,none⟩ (.string x0))) ?hg ?ho ?hn ?hr ?_;(case ho=>rfl);(case hg=>rfl);(case hn=>rfl);(case hr=>first|(go_simp;done)|(go_simp;rfl));intro y2 hw;have hg:V0.grownBy y2 (some e0):=(by rw [hw];exact C1.2);have hp_:Kd.R k57 57 y2 w0.heap.size (fun k_=>(p0 k_∨w.heap.size≤k_)) (.slice (some ⟨e0,0,none⟩) d0.length q0) J1:=(by rw [hw,K1.out];exact C1.1);clear C1;have I0:=mk_ (hp_);have J0:=mk_ ((by rw [hw];exact below_set (HB.out) X1.out:Below w0.heap.size w0 y2));have K0:=mk_ (Kept.of_grown (S:=(fun k_=>p0 k_)) hg (kp_ HK) (fun k_ e_=>(b0.out.1 k_ e_)));clear b0;clear HB;clear HK;have b0:=I0;have HB:=J0;have HK:=K0;clear I0 J0 K0;clear hg hw hp_))
   go_roundg k1
   case measure=>have:=A2.out;omega
   case rel=>exact⟨(J1),(wrap64 ((wrap64 ((wrap64 ((wrap64 (n0+1))+1))+1))+1)),(wrap64 (a0+1)),rl_,rl_,H',⟨by have:=A2.out;omega⟩,⟨rq_ b0.out⟩,⟨kp_ HK⟩,⟨bw_ HB⟩⟩
def laws_heldEntryS.l0:Nat→List (S105)→Int→Int→Option (Int)
 |0,_,_,_=>none
 |k+1,x0,x1,x5=>if x5<(x0.length:Int) then(if 0≤x5 then(if((rd_T105 x0 x5).f0)=x1 then(if((rd_T105 x0 x5).f1)=(wrap64 (x1+1)) then((laws_markText.f k (wrap64 ((wrap64 (x1+1))+1))).bind fun a0=>(if((rd_T105 x0 x5).f2).toList=a0.toList then(laws_heldEntryS.l0 k x0 (wrap64 ((wrap64 ((wrap64 (x1+1))+1))+1)) (wrap64 (x5+1))) else(some (-1)))) else(some (-1))) else(some (-1))) else(none)) else(some x1)
def laws_heldEntryS.f (k:Nat) (l0:List (S105)) (a1:Int):Option (Int):=laws_heldEntryS.l0 k l0 a1 0
def laws_heldEntryS.T10:Bool × List (List Nat × List Nat):=(true,[([],[]),([],[]),([0,1],[0,1]),([2],[2]),([3],[3]),([],[]),([5],[5]),([4,6],[4,6])])
def laws_heldEntryS.B10:List Nat:=[0,0,3,7,15,0,32,127]
theorem laws_heldEntryS.tab10:rtab .any (opsOf Tryz.f66 10)=laws_heldEntryS.T10:=by kernel_rfl
theorem laws_heldEntryS.bits10:waitsOk laws_heldEntryS.T10.2 laws_heldEntryS.B10=true:=by kernel_rfl
theorem laws_heldEntryS.calls (k:Nat) (A0:Option Addr) (c0:Nat) (l0:List (S105)) (a1:Int) (r:Int) (w:World) (W0:Kd.C k105 w A0 l0.length l0) (X0:l0.length≤c0) (h:laws_heldEntryS.f k l0 a1=some r):
  Calls Tryz.prog 66 #[.slice A0 l0.length c0,.int .i64 a1] w fun e w'=>e= .returned (.int .i64 r)∧Below w.heap.size w w':=by
 have L0:=Aside0.mk W0
 have e1:=Aside0.mk X0
 clear W0 X0
 have HB:=mk_ (Below.refl w.heap.size w)
 have H:(laws_heldEntryS.l0 k l0 a1 0)=some r:=h
 clear h
 have H':=Aside0.mk H
 clear H
 go_enter Tryz.func66,Tryz.ntmps66
 go_wp2
 go_loopg [1,5] k (fun kq v1 v5 w'=>∃(C0:Int) (a0:Int),v1= .int .i64 C0∧v5= .int .i64 a0∧Aside0 (laws_heldEntryS.l0 kq l0 C0 a0=some r)∧Aside0 (kq≤k)∧Aside0 (Below w.heap.size w w'))
 case atStart=>exact⟨(a1),(0),rl_,rl_,H',⟨Nat.le_refl _⟩,⟨bw_ HB⟩⟩
 case round=>
  clear H'
  try clear p2
  obtain⟨C0,a0,rfl,rfl,HA,Y0,HB⟩:=hrel
  cases gk with
  |zero=>exact absurd HA.out (by simp [laws_heldEntryS.l0])
  |succ k1=>
   have H:=HA.out
   clear HA
   simp only [laws_heldEntryS.l0] at H
   refine ic_ H ?_ ?_ <;> clear H <;> intro Z0 H
   ·obtain rfl:=Option.some.inj H
    go_wp2
    go_ret
    exact⟨er_,bw_ HB⟩
   obtain⟨c4,H⟩:=gd_ H
   have b1:=decide_eq_true c4
   clear c4
   by_cases c5:((rd_T105 l0 a0).f0)=C0
   rotate_left
   ·rw [if_neg c5] at H
    have O0:=beq_eq_false_iff_ne.mpr c5
    have P0:=bne_iff_ne.mpr c5
    obtain rfl:=Option.some.inj H
    have r0:0≤(a0:Int):=od_
    have s0:a0<(l0.length:Int):=od_
    obtain⟨g0,G0,b0,d0,e0⟩:=at_T105 L0.out a0 r0 s0
    cases G0
    replace b0:=hc_ HB b0
    replace d0:=hc_ HB d0
    replace e0:=hc_ HB e0
    replace r0:=eq_true r0
    replace s0:=eq_true s0
    go_wp2
    go_ret
    exact⟨er_,bw_ HB⟩
   rw [if_pos c5] at H
   have O0:=beq_iff_eq.mpr c5
   have P0:=bne_eq_false_iff_eq.mpr c5
   clear c5
   by_cases c6:((rd_T105 l0 a0).f1)=(wrap64 (C0+1))
   rotate_left
   ·rw [if_neg c6] at H
    have Q0:=beq_eq_false_iff_ne.mpr c6
    have R0:=bne_iff_ne.mpr c6
    obtain rfl:=Option.some.inj H
    have r0:0≤(a0:Int):=od_
    have s0:a0<(l0.length:Int):=od_
    obtain⟨g0,G0,b0,d0,e0⟩:=at_T105 L0.out a0 r0 s0
    cases G0
    replace b0:=hc_ HB b0
    replace d0:=hc_ HB d0
    replace e0:=hc_ HB e0
    replace r0:=eq_true r0
    replace s0:=eq_true s0
    have y0:0≤(a0:Int):=od_
    have B0:a0<(l0.length:Int):=od_
    obtain⟨F0,J0,o0,p0,q0⟩:=at_T105 L0.out a0 y0 B0
    obtain rfl:g0=F0:=(by injection J0)
    replace o0:=hc_ HB o0
    replace p0:=hc_ HB p0
    replace q0:=hc_ HB q0
    replace y0:=eq_true y0
    replace B0:=eq_true B0
    go_wp2
    go_ret
    exact⟨er_,bw_ HB⟩
   rw [if_pos c6] at H
   have Q0:=beq_iff_eq.mpr c6
   have R0:=bne_eq_false_iff_eq.mpr c6
   clear c6
   obtain⟨M0,A7,H⟩:=ob_ H
   try dsimp only at H
   by_cases c8:((rd_T105 l0 a0).f2).toList=M0.toList
   rotate_left
   ·rw [if_neg c8] at H
    have U0:=beq_eq_false_iff_ne.mpr c8
    have V0:=bne_iff_ne.mpr c8
    obtain rfl:=Option.some.inj H
    have r0:0≤(a0:Int):=od_
    have s0:a0<(l0.length:Int):=od_
    obtain⟨g0,G0,b0,d0,e0⟩:=at_T105 L0.out a0 r0 s0
    cases G0
    replace b0:=hc_ HB b0
    replace d0:=hc_ HB d0
    replace e0:=hc_ HB e0
    replace r0:=eq_true r0
    replace s0:=eq_true s0
    have y0:0≤(a0:Int):=od_
    have B0:a0<(l0.length:Int):=od_
    obtain⟨F0,J0,o0,p0,q0⟩:=at_T105 L0.out a0 y0 B0
    obtain rfl:g0=F0:=(by injection J0)
    replace o0:=hc_ HB o0
    replace p0:=hc_ HB p0
    replace q0:=hc_ HB q0
    replace y0:=eq_true y0
    replace B0:=eq_true B0
    try go_wp2
    replace HB:=wd_ HB
    have H0:0≤(a0:Int):=od_
    have I0:a0<(l0.length:Int):=od_
    obtain⟨K0,N0,h0,m0,n0⟩:=at_T105 L0.out a0 H0 I0
    have t0:=n0
    have v0:=m0
    have x0:=h0
    obtain rfl:g0=K0:=(by injection N0)
    replace h0:=hc_ HB h0
    replace m0:=hc_ HB m0
    replace n0:=hc_ HB n0
    replace H0:=eq_true H0
    replace I0:=eq_true I0
    refine start_ (n:=8) (S:=fun w'=>w'.cell? (g0.add ((a0).toNat*3))=some (.int .i64 ((rd_T105 l0 a0).f0))∧w'.cell? ⟨(g0.add ((a0).toNat*3)).block,(g0.add ((a0).toNat*3)).off+1,none⟩=some (.int .i64 ((rd_T105 l0 a0).f1))∧w'.cell? ⟨(g0.add ((a0).toNat*3)).block,(g0.add ((a0).toNat*3)).off+2,none⟩=some (.string ((rd_T105 l0 a0).f2))) (ds:=[]) #[false,false,false,false,false,false,false,false] (by kernel_rfl) rfl rfl ⟨(hc_ HB x0),(hc_ HB v0),(hc_ HB t0)⟩ (fun hHeld=>?_);refine with_tabW laws_heldEntryS.tab10 laws_heldEntryS.bits10 (fun HT_ HW_=>?_)
    generalize wr.drew=g1 at HB h0 m0 n0 hHeld⊢
    refine pv_ 0 30 ?_
    refine pv_ 1 31 ?_
    refine pv_ 2 32 ?_
    refine pv_ 3 33 ?_
    refine pv_ 5 35 ?_
    refine tv_ 4 34 hHeld ?_
    refine on_ 6 36 (fun K hK=>?_)
    refine gs_ Tryz.func37 (laws_markText.calls k1 (wrap64 ((wrap64 (C0+1))+1)) M0 _ A7.out) ?_
    rintro m1 hb
    replace HB:=bs_ HB hb;(try clear hb);(try clear d1);(try clear hk);(try clear hi)
    refine hK.out _ _ ⟨(hc_ HB x0),(hc_ HB v0),(hc_ HB t0)⟩ (fun hHeld=>?_)
    clear hK K
    refine norm_ (a':=?_) ?_ ?_
    rotate_left
    ·show Act.put _ (some 36) _=_
     simp only [Act.put,sia_,scz_,scs_,i64_w,i32_w]
     rfl
    refine pv_ 7 37 ?_
    refine done_ (done_of HT_.out (by kernel_rfl)) ?_
    try go_wp2
    go_ret
    exact⟨er_,bw_ HB⟩
   rw [if_pos c8] at H
   have U0:=beq_iff_eq.mpr c8
   have V0:=bne_eq_false_iff_eq.mpr c8
   clear c8
   have H':=Aside0.mk H
   clear H
   have r0:0≤(a0:Int):=od_
   have s0:a0<(l0.length:Int):=od_
   obtain⟨g0,G0,b0,d0,e0⟩:=at_T105 L0.out a0 r0 s0
   cases G0
   replace b0:=hc_ HB b0
   replace d0:=hc_ HB d0
   replace e0:=hc_ HB e0
   replace r0:=eq_true r0
   replace s0:=eq_true s0
   have y0:0≤(a0:Int):=od_
   have B0:a0<(l0.length:Int):=od_
   obtain⟨F0,J0,o0,p0,q0⟩:=at_T105 L0.out a0 y0 B0
   obtain rfl:g0=F0:=(by injection J0)
   replace o0:=hc_ HB o0
   replace p0:=hc_ HB p0
   replace q0:=hc_ HB q0
   replace y0:=eq_true y0
   replace B0:=eq_true B0
   try go_wp2
   replace HB:=wd_ HB
   have H0:0≤(a0:Int):=od_
   have I0:a0<(l0.length:Int):=od_
   obtain⟨K0,N0,h0,m0,n0⟩:=at_T105 L0.out a0 H0 I0
   have t0:=n0
   have v0:=m0
   have x0:=h0
   obtain rfl:g0=K0:=(by injection N0)
   replace h0:=hc_ HB h0
   replace m0:=hc_ HB m0
   replace n0:=hc_ HB n0
   replace H0:=eq_true H0
   replace I0:=eq_true I0
   refine start_ (n:=8) (S:=fun w'=>w'.cell? (g0.add ((a0).toNat*3))=some (.int .i64 ((rd_T105 l0 a0).f0))∧w'.cell? ⟨(g0.add ((a0).toNat*3)).block,(g0.add ((a0).toNat*3)).off+1,none⟩=some (.int .i64 ((rd_T105 l0 a0).f1))∧w'.cell? ⟨(g0.add ((a0).toNat*3)).block,(g0.add ((a0).toNat*3)).off+2,none⟩=some (.string ((rd_T105 l0 a0).f2))) (ds:=[]) #[false,false,false,false,false,false,false,false] (by kernel_rfl) rfl rfl ⟨(hc_ HB x0),(hc_ HB v0),(hc_ HB t0)⟩ (fun hHeld=>?_);refine with_tabW laws_heldEntryS.tab10 laws_heldEntryS.bits10 (fun HT_ HW_=>?_)
   generalize wr.drew=w9 at HB h0 m0 n0 hHeld⊢
   refine pv_ 0 30 ?_
   refine pv_ 1 31 ?_
   refine pv_ 2 32 ?_
   refine pv_ 3 33 ?_
   refine pv_ 5 35 ?_
   refine tv_ 4 34 hHeld ?_
   refine on_ 6 36 (fun K hK=>?_)
   refine gs_ Tryz.func37 (laws_markText.calls k1 (wrap64 ((wrap64 (C0+1))+1)) M0 _ A7.out) ?_
   rintro n1 hb
   replace HB:=bs_ HB hb;(try clear hb);(try clear d1);(try clear hk);(try clear hi)
   refine hK.out _ _ ⟨(hc_ HB x0),(hc_ HB v0),(hc_ HB t0)⟩ (fun hHeld=>?_)
   clear hK K
   refine norm_ (a':=?_) ?_ ?_
   rotate_left
   ·show Act.put _ (some 36) _=_
    simp only [Act.put,sia_,scz_,scs_,i64_w,i32_w]
    rfl
   refine pv_ 7 37 ?_
   refine done_ (done_of HT_.out (by kernel_rfl)) ?_
   try go_wp2
   go_roundg k1
   case measure=>have:=Y0.out;omega
   case rel=>exact⟨(wrap64 ((wrap64 ((wrap64 (C0+1))+1))+1)),(wrap64 (a0+1)),rl_,rl_,H',⟨by have:=Y0.out;omega⟩,⟨bw_ HB⟩⟩
def laws_heldLog.f (k:Nat) (d0:Int) (e0:Int) (b0:List (S105)) (a1:Int):Option (Int):=(laws_heldEntryS.f k b0 a1).bind fun a0=>(if a0<0 then(some (-1)) else(some a0))
theorem laws_heldLog.calls (k:Nat) (g0:Int) (h0:Int) (d0:Option Addr) (e0:Nat) (a0:List (S105)) (a1:Int) (r:Int) (w:World) (m0:Kd.C k105 w d0 a0.length a0) (n0:a0.length≤e0) (h:laws_heldLog.f k g0 h0 a0 a1=some r):
  Calls Tryz.prog 38 #[.agg #[.int .i64 g0,.int .i64 h0,.slice d0 a0.length e0],.int .i64 a1] w fun e w'=>e= .returned (.int .i64 r)∧Below w.heap.size w w':=by
 have K0:=Tryz.underlying28
 have o0:=Aside0.mk m0
 have p0:=Aside0.mk n0
 clear m0 n0
 have HB:=mk_ (Below.refl w.heap.size w)
 have H:=h
 unfold laws_heldLog.f at H
 clear h
 obtain⟨q0,A3,H⟩:=ob_ H
 try dsimp only at H
 refine ic_ H ?_ ?_ <;> clear H <;> intro L0 H
 ·obtain rfl:=Option.some.inj H
  go_enter Tryz.func38,Tryz.ntmps38
  go_wp2_with (first|((with_reducible refine gn_ 2 rfl ?_);refine bv_ (cs:=#[.int .i64 g0,.int .i64 h0,.slice d0 a0.length e0]) (t:=28) HB ?_;clear HB;intro r0 w8 b0 s0 HB;obtain⟨t0,v0,x0,y0,A0,B0⟩:=b3_ b0)|((with_reducible refine gc_ 66 rfl ?_);refine gx_ 8 Tryz.func66 #[.slice d0 a0.length e0,.int .i64 a1] (laws_heldEntryS.calls k _ _ a0 a1 q0 _ ?side1 ?side2 A3.out) ?_;(case side1=>repeat(first|exact(Kd.C_below o0.out HB.out)|(with_reducible refine Kd.C_alloc ?_ _)|(with_reducible refine Kd.C_drewN ?_ _)|(with_reducible refine Kd.C_drew ?_)));(case side2=>exact p0.out);rintro M0 hb;replace b0:=bb_ b0 hb;replace HB:=bs_ HB hb;(try clear hb)))
  go_ret
  exact⟨er_,bw_ HB⟩
 obtain rfl:=Option.some.inj H
 go_enter Tryz.func38,Tryz.ntmps38
 go_wp2_with (first|((with_reducible refine gn_ 2 rfl ?_);refine bv_ (cs:=#[.int .i64 g0,.int .i64 h0,.slice d0 a0.length e0]) (t:=28) HB ?_;clear HB;intro r0 w5 b0 s0 HB;obtain⟨C0,F0,G0,H0,I0,J0⟩:=b3_ b0)|((with_reducible refine gc_ 66 rfl ?_);refine gx_ 8 Tryz.func66 #[.slice d0 a0.length e0,.int .i64 a1] (laws_heldEntryS.calls k _ _ a0 a1 q0 _ ?side1 ?side2 A3.out) ?_;(case side1=>repeat(first|exact(Kd.C_below o0.out HB.out)|(with_reducible refine Kd.C_alloc ?_ _)|(with_reducible refine Kd.C_drewN ?_ _)|(with_reducible refine Kd.C_drew ?_)));(case side2=>exact p0.out);rintro w7 hb;replace b0:=bb_ b0 hb;replace HB:=bs_ HB hb;(try clear hb)))
 go_ret
 exact⟨er_,bw_ HB⟩
def laws_heldJournal.f (k:Nat) (g0:Int) (h0:Int) (m0:Int) (b0:Int) (d0:Int) (e0:List (S105)) (a1:Int):Option (Int):=(laws_heldLog.f k b0 d0 e0 a1).bind fun a0=>(if a0<0 then(some (-1)) else(some a0))
theorem laws_heldJournal.calls (k:Nat) (m0:Int) (n0:Int) (o0:Int) (d0:Int) (e0:Int) (g0:Option Addr) (h0:Nat) (a0:List (S105)) (a1:Int) (r:Int) (w:World) (p0:Kd.C k105 w g0 a0.length a0) (q0:a0.length≤h0) (h:laws_heldJournal.f k m0 n0 o0 d0 e0 a0 a1=some r):
  Calls Tryz.prog 14 #[.agg #[.int .i64 m0,.int .i64 n0,.int .i64 o0,.int .i64 d0,.int .i64 e0,.slice g0 a0.length h0],.int .i64 a1] w fun e w'=>e= .returned (.int .i64 r)∧Below w.heap.size w w':=by
 have d1:=Tryz.underlying30
 have e1:=Tryz.underlying28
 have r0:=Aside0.mk p0
 have s0:=Aside0.mk q0
 clear p0 q0
 have HB:=mk_ (Below.refl w.heap.size w)
 have H:=h
 unfold laws_heldJournal.f at H
 clear h
 obtain⟨t0,A3,H⟩:=ob_ H
 try dsimp only at H
 refine ic_ H ?_ ?_ <;> clear H <;> intro g1 H
 ·obtain rfl:=Option.some.inj H
  go_enter Tryz.func14,Tryz.ntmps14
  go_wp2_with (first|((with_reducible refine gn_ 2 rfl ?_);refine bv_ (cs:=#[.int .i64 m0,.int .i64 n0,.int .i64 o0,.int .i64 d0,.int .i64 e0,.slice g0 a0.length h0]) (t:=30) HB ?_;clear HB;intro v0 w8 b0 x0 HB;obtain⟨y0,A0,B0,C0,F0,G0,H0,I0,J0,K0,L0,M0⟩:=b6_ b0)|((with_reducible refine gc_ 38 rfl ?_);refine gx_ 8 Tryz.func38 #[.agg #[.int .i64 d0,.int .i64 e0,.slice g0 a0.length h0],.int .i64 a1] (laws_heldLog.calls k d0 e0 _ _ a0 a1 t0 _ ?side1 ?side2 A3.out) ?_;(case side1=>repeat(first|exact(Kd.C_below r0.out HB.out)|(with_reducible refine Kd.C_alloc ?_ _)|(with_reducible refine Kd.C_drewN ?_ _)|(with_reducible refine Kd.C_drew ?_)));(case side2=>exact s0.out);rintro m1 hb;replace b0:=bb_ b0 hb;replace HB:=bs_ HB hb;(try clear hb)))
  go_ret
  exact⟨er_,bw_ HB⟩
 obtain rfl:=Option.some.inj H
 go_enter Tryz.func14,Tryz.ntmps14
 go_wp2_with (first|((with_reducible refine gn_ 2 rfl ?_);refine bv_ (cs:=#[.int .i64 m0,.int .i64 n0,.int .i64 o0,.int .i64 d0,.int .i64 e0,.slice g0 a0.length h0]) (t:=30) HB ?_;clear HB;intro v0 w5 b0 x0 HB;obtain⟨N0,O0,P0,Q0,R0,U0,V0,W0,X0,Y0,Z0,b1⟩:=b6_ b0)|((with_reducible refine gc_ 38 rfl ?_);refine gx_ 8 Tryz.func38 #[.agg #[.int .i64 d0,.int .i64 e0,.slice g0 a0.length h0],.int .i64 a1] (laws_heldLog.calls k d0 e0 _ _ a0 a1 t0 _ ?side1 ?side2 A3.out) ?_;(case side1=>repeat(first|exact(Kd.C_below r0.out HB.out)|(with_reducible refine Kd.C_alloc ?_ _)|(with_reducible refine Kd.C_drewN ?_ _)|(with_reducible refine Kd.C_drew ?_)));(case side2=>exact s0.out);rintro w7 hb;replace b0:=bb_ b0 hb;replace HB:=bs_ HB hb;(try clear hb)))
 go_ret
 exact⟨er_,bw_ HB⟩
def laws_heldActS.l0:Nat→List (S57)→Int→Int→Option (Int)
 |0,_,_,_=>none
 |k+1,x0,x1,x5=>if x5<(x0.length:Int) then(if 0≤x5 then(if((rd_T57 x0 x5).f0)=x1 then((laws_markText.f k (wrap64 (x1+1))).bind fun a0=>(if((rd_T57 x0 x5).f1).toList=a0.toList then((laws_markText.f k (wrap64 ((wrap64 (x1+1))+1))).bind fun b0=>(if((rd_T57 x0 x5).f2).toList=b0.toList then((laws_markText.f k (wrap64 ((wrap64 ((wrap64 (x1+1))+1))+1))).bind fun d0=>(if((rd_T57 x0 x5).f3).toList=d0.toList then(laws_heldActS.l0 k x0 (wrap64 ((wrap64 ((wrap64 ((wrap64 (x1+1))+1))+1))+1)) (wrap64 (x5+1))) else(some (-1)))) else(some (-1)))) else(some (-1)))) else(some (-1))) else(none)) else(some x1)
def laws_heldActS.f (k:Nat) (l0:List (S57)) (a1:Int):Option (Int):=laws_heldActS.l0 k l0 a1 0
def laws_heldActS.T7:Bool × List (List Nat × List Nat):=(true,[([],[]),([],[]),([0,1],[0,1]),([2],[2]),([3],[3]),([],[]),([5],[5]),([4,6],[4,6])])
def laws_heldActS.B7:List Nat:=[0,0,3,7,15,0,32,127]
theorem laws_heldActS.tab7:rtab .any (opsOf Tryz.f15 7)=laws_heldActS.T7:=by kernel_rfl
theorem laws_heldActS.bits7:waitsOk laws_heldActS.T7.2 laws_heldActS.B7=true:=by kernel_rfl
def laws_heldActS.T10:Bool × List (List Nat × List Nat):=(true,[([],[]),([],[]),([0,1],[0,1]),([2],[2]),([3],[3]),([],[]),([5],[5]),([4,6],[4,6])])
def laws_heldActS.B10:List Nat:=[0,0,3,7,15,0,32,127]
theorem laws_heldActS.tab10:rtab .any (opsOf Tryz.f15 10)=laws_heldActS.T10:=by kernel_rfl
theorem laws_heldActS.bits10:waitsOk laws_heldActS.T10.2 laws_heldActS.B10=true:=by kernel_rfl
def laws_heldActS.T13:Bool × List (List Nat × List Nat):=(true,[([],[]),([],[]),([0,1],[0,1]),([2],[2]),([3],[3]),([],[]),([5],[5]),([4,6],[4,6])])
def laws_heldActS.B13:List Nat:=[0,0,3,7,15,0,32,127]
theorem laws_heldActS.tab13:rtab .any (opsOf Tryz.f15 13)=laws_heldActS.T13:=by kernel_rfl
theorem laws_heldActS.bits13:waitsOk laws_heldActS.T13.2 laws_heldActS.B13=true:=by kernel_rfl
theorem laws_heldActS.calls (k:Nat) (A0:Option Addr) (c0:Nat) (l0:List (S57)) (a1:Int) (r:Int) (w:World) (K1:Kd.C k57 w A0 l0.length l0) (L1:l0.length≤c0) (h:laws_heldActS.f k l0 a1=some r):
  Calls Tryz.prog 15 #[.slice A0 l0.length c0,.int .i64 a1] w fun e w'=>e= .returned (.int .i64 r)∧Below w.heap.size w w':=by
 have n1:=Aside0.mk K1
 have X1:=Aside0.mk L1
 clear K1 L1
 have HB:=mk_ (Below.refl w.heap.size w)
 have H:(laws_heldActS.l0 k l0 a1 0)=some r:=h
 clear h
 have H':=Aside0.mk H
 clear H
 go_enter Tryz.func15,Tryz.ntmps15
 go_wp2
 go_loopg [1,5] k (fun kq v1 v5 w'=>∃(Q0:Int) (a0:Int),v1= .int .i64 Q0∧v5= .int .i64 a0∧Aside0 (laws_heldActS.l0 kq l0 Q0 a0=some r)∧Aside0 (kq≤k)∧Aside0 (Below w.heap.size w w'))
 case atStart=>exact⟨(a1),(0),rl_,rl_,H',⟨Nat.le_refl _⟩,⟨bw_ HB⟩⟩
 case round=>
  clear H'
  try clear p2
  obtain⟨Q0,a0,rfl,rfl,HA,M1,HB⟩:=hrel
  cases gk with
  |zero=>exact absurd HA.out (by simp [laws_heldActS.l0])
  |succ k1=>
   have H:=HA.out
   clear HA
   simp only [laws_heldActS.l0] at H
   refine ic_ H ?_ ?_ <;> clear H <;> intro O1 H
   ·obtain rfl:=Option.some.inj H
    go_wp2
    go_ret
    exact⟨er_,bw_ HB⟩
   obtain⟨c4,H⟩:=gd_ H
   have P1:=decide_eq_true c4
   clear c4
   by_cases c5:((rd_T57 l0 a0).f0)=Q0
   rotate_left
   ·rw [if_neg c5] at H
    have D1:=beq_eq_false_iff_ne.mpr c5
    have F1:=bne_iff_ne.mpr c5
    obtain rfl:=Option.some.inj H
    have M0:0≤(a0:Int):=od_
    have N0:a0<(l0.length:Int):=od_
    obtain⟨b0,b1,m0,n0,o0,p0⟩:=at_T57 n1.out a0 M0 N0
    cases b1
    replace m0:=hc_ HB m0
    replace n0:=hc_ HB n0
    replace o0:=hc_ HB o0
    replace p0:=hc_ HB p0
    replace M0:=eq_true M0
    replace N0:=eq_true N0
    go_wp2
    go_ret
    exact⟨er_,bw_ HB⟩
   rw [if_pos c5] at H
   have D1:=beq_iff_eq.mpr c5
   have F1:=bne_eq_false_iff_eq.mpr c5
   clear c5
   obtain⟨o1,A6,H⟩:=ob_ H
   try dsimp only at H
   by_cases c7:((rd_T57 l0 a0).f1).toList=o1.toList
   rotate_left
   ·rw [if_neg c7] at H
    have G1:=beq_eq_false_iff_ne.mpr c7
    have H1:=bne_iff_ne.mpr c7
    obtain rfl:=Option.some.inj H
    have M0:0≤(a0:Int):=od_
    have N0:a0<(l0.length:Int):=od_
    obtain⟨b0,b1,m0,n0,o0,p0⟩:=at_T57 n1.out a0 M0 N0
    cases b1
    replace m0:=hc_ HB m0
    replace n0:=hc_ HB n0
    replace o0:=hc_ HB o0
    replace p0:=hc_ HB p0
    replace M0:=eq_true M0
    replace N0:=eq_true N0
    try go_wp2
    replace HB:=wd_ HB
    have O0:0≤(a0:Int):=od_
    have P0:a0<(l0.length:Int):=od_
    obtain⟨X0,e1,d0,e0,g0,h0⟩:=at_T57 n1.out a0 O0 P0
    have v0:=h0
    have x0:=g0
    have y0:=e0
    have B0:=d0
    obtain rfl:b0=X0:=(by injection e1)
    replace d0:=hc_ HB d0
    replace e0:=hc_ HB e0
    replace g0:=hc_ HB g0
    replace h0:=hc_ HB h0
    replace O0:=eq_true O0
    replace P0:=eq_true P0
    refine start_ (n:=8) (S:=fun w'=>w'.cell? (b0.add ((a0).toNat*4))=some (.int .i64 ((rd_T57 l0 a0).f0))∧w'.cell? ⟨(b0.add ((a0).toNat*4)).block,(b0.add ((a0).toNat*4)).off+1,none⟩=some (.string ((rd_T57 l0 a0).f1))∧w'.cell? ⟨(b0.add ((a0).toNat*4)).block,(b0.add ((a0).toNat*4)).off+2,none⟩=some (.string ((rd_T57 l0 a0).f2))∧w'.cell? ⟨(b0.add ((a0).toNat*4)).block,(b0.add ((a0).toNat*4)).off+3,none⟩=some (.string ((rd_T57 l0 a0).f3))) (ds:=[]) #[false,false,false,false,false,false,false,false] (by kernel_rfl) rfl rfl ⟨(hc_ HB B0),(hc_ HB y0),(hc_ HB x0),(hc_ HB v0)⟩ (fun hHeld=>?_);refine with_tabW laws_heldActS.tab7 laws_heldActS.bits7 (fun HT_ HW_=>?_)
    generalize wr.drew=Y1 at HB d0 e0 g0 h0 hHeld⊢
    refine pv_ 0 21 ?_
    refine pv_ 1 22 ?_
    refine pv_ 2 23 ?_
    refine pv_ 3 24 ?_
    refine pv_ 5 26 ?_
    refine tv_ 4 25 hHeld ?_
    refine on_ 6 27 (fun K hK=>?_)
    refine gs_ Tryz.func37 (laws_markText.calls k1 (wrap64 (Q0+1)) o1 _ A6.out) ?_
    rintro Z1 hb
    replace HB:=bs_ HB hb;(try clear hb);(try clear s1);(try clear hk);(try clear hi)
    refine hK.out _ _ ⟨(hc_ HB B0),(hc_ HB y0),(hc_ HB x0),(hc_ HB v0)⟩ (fun hHeld=>?_)
    clear hK K
    refine norm_ (a':=?_) ?_ ?_
    rotate_left
    ·show Act.put _ (some 27) _=_
     simp only [Act.put,sia_,scz_,scs_,i64_w,i32_w]
     rfl
    refine pv_ 7 28 ?_
    refine done_ (done_of HT_.out (by kernel_rfl)) ?_
    try go_wp2
    go_ret
    exact⟨er_,bw_ HB⟩
   rw [if_pos c7] at H
   have G1:=beq_iff_eq.mpr c7
   have H1:=bne_eq_false_iff_eq.mpr c7
   clear c7
   obtain⟨r1,A8,H⟩:=ob_ H
   try dsimp only at H
   by_cases c9:((rd_T57 l0 a0).f2).toList=r1.toList
   rotate_left
   ·rw [if_neg c9] at H
    have I1:=beq_eq_false_iff_ne.mpr c9
    have J1:=bne_iff_ne.mpr c9
    obtain rfl:=Option.some.inj H
    have M0:0≤(a0:Int):=od_
    have N0:a0<(l0.length:Int):=od_
    obtain⟨b0,b1,m0,n0,o0,p0⟩:=at_T57 n1.out a0 M0 N0
    cases b1
    replace m0:=hc_ HB m0
    replace n0:=hc_ HB n0
    replace o0:=hc_ HB o0
    replace p0:=hc_ HB p0
    replace M0:=eq_true M0
    replace N0:=eq_true N0
    try go_wp2
    replace HB:=wd_ HB
    have O0:0≤(a0:Int):=od_
    have P0:a0<(l0.length:Int):=od_
    obtain⟨X0,e1,d0,e0,g0,h0⟩:=at_T57 n1.out a0 O0 P0
    have v0:=h0
    have x0:=g0
    have y0:=e0
    have B0:=d0
    obtain rfl:b0=X0:=(by injection e1)
    replace d0:=hc_ HB d0
    replace e0:=hc_ HB e0
    replace g0:=hc_ HB g0
    replace h0:=hc_ HB h0
    replace O0:=eq_true O0
    replace P0:=eq_true P0
    refine start_ (n:=8) (S:=fun w'=>w'.cell? (b0.add ((a0).toNat*4))=some (.int .i64 ((rd_T57 l0 a0).f0))∧w'.cell? ⟨(b0.add ((a0).toNat*4)).block,(b0.add ((a0).toNat*4)).off+1,none⟩=some (.string ((rd_T57 l0 a0).f1))∧w'.cell? ⟨(b0.add ((a0).toNat*4)).block,(b0.add ((a0).toNat*4)).off+2,none⟩=some (.string ((rd_T57 l0 a0).f2))∧w'.cell? ⟨(b0.add ((a0).toNat*4)).block,(b0.add ((a0).toNat*4)).off+3,none⟩=some (.string ((rd_T57 l0 a0).f3))) (ds:=[]) #[false,false,false,false,false,false,false,false] (by kernel_rfl) rfl rfl ⟨(hc_ HB B0),(hc_ HB y0),(hc_ HB x0),(hc_ HB v0)⟩ (fun hHeld=>?_);refine with_tabW laws_heldActS.tab7 laws_heldActS.bits7 (fun HT_ HW_=>?_)
    generalize wr.drew=a2 at HB d0 e0 g0 h0 hHeld⊢
    refine pv_ 0 21 ?_
    refine pv_ 1 22 ?_
    refine pv_ 2 23 ?_
    refine pv_ 3 24 ?_
    refine pv_ 5 26 ?_
    refine tv_ 4 25 hHeld ?_
    refine on_ 6 27 (fun K hK=>?_)
    refine gs_ Tryz.func37 (laws_markText.calls k1 (wrap64 (Q0+1)) o1 _ A6.out) ?_
    rintro Q1 hb
    replace HB:=bs_ HB hb;(try clear hb);(try clear s1);(try clear hk);(try clear hi)
    refine hK.out _ _ ⟨(hc_ HB B0),(hc_ HB y0),(hc_ HB x0),(hc_ HB v0)⟩ (fun hHeld=>?_)
    clear hK K
    refine norm_ (a':=?_) ?_ ?_
    rotate_left
    ·show Act.put _ (some 27) _=_
     simp only [Act.put,sia_,scz_,scs_,i64_w,i32_w]
     rfl
    refine pv_ 7 28 ?_
    refine done_ (done_of HT_.out (by kernel_rfl)) ?_
    try go_wp2
    replace HB:=wd_ HB
    have Y0:0≤(a0:Int):=od_
    have Z0:a0<(l0.length:Int):=od_
    obtain⟨d1,p1,q0,r0,s0,t0⟩:=at_T57 n1.out a0 Y0 Z0
    have I0:=t0
    have J0:=s0
    have K0:=r0
    have L0:=q0
    obtain rfl:b0=d1:=(by injection p1)
    replace q0:=hc_ HB q0
    replace r0:=hc_ HB r0
    replace s0:=hc_ HB s0
    replace t0:=hc_ HB t0
    replace Y0:=eq_true Y0
    replace Z0:=eq_true Z0
    refine start_ (n:=8) (S:=fun w'=>w'.cell? (b0.add ((a0).toNat*4))=some (.int .i64 ((rd_T57 l0 a0).f0))∧w'.cell? ⟨(b0.add ((a0).toNat*4)).block,(b0.add ((a0).toNat*4)).off+1,none⟩=some (.string ((rd_T57 l0 a0).f1))∧w'.cell? ⟨(b0.add ((a0).toNat*4)).block,(b0.add ((a0).toNat*4)).off+2,none⟩=some (.string ((rd_T57 l0 a0).f2))∧w'.cell? ⟨(b0.add ((a0).toNat*4)).block,(b0.add ((a0).toNat*4)).off+3,none⟩=some (.string ((rd_T57 l0 a0).f3))) (ds:=[]) #[false,false,false,false,false,false,false,false] (by kernel_rfl) rfl rfl ⟨(hc_ HB L0),(hc_ HB K0),(hc_ HB J0),(hc_ HB I0)⟩ (fun hHeld=>?_);refine with_tabW laws_heldActS.tab10 laws_heldActS.bits10 (fun HT_ HW_=>?_)
    generalize Q1.drew=b2 at HB q0 r0 s0 t0 hHeld⊢
    refine pv_ 0 31 ?_
    refine pv_ 1 32 ?_
    refine pv_ 2 33 ?_
    refine pv_ 3 34 ?_
    refine pv_ 5 36 ?_
    refine tv_ 4 35 hHeld ?_
    refine on_ 6 37 (fun K hK=>?_)
    refine gs_ Tryz.func37 (laws_markText.calls k1 (wrap64 ((wrap64 (Q0+1))+1)) r1 _ A8.out) ?_
    rintro d2 hb
    replace HB:=bs_ HB hb;(try clear hb);(try clear s1);(try clear hk);(try clear hi)
    refine hK.out _ _ ⟨(hc_ HB L0),(hc_ HB K0),(hc_ HB J0),(hc_ HB I0)⟩ (fun hHeld=>?_)
    clear hK K
    refine norm_ (a':=?_) ?_ ?_
    rotate_left
    ·show Act.put _ (some 37) _=_
     simp only [Act.put,sia_,scz_,scs_,i64_w,i32_w]
     rfl
    refine pv_ 7 38 ?_
    refine done_ (done_of HT_.out (by kernel_rfl)) ?_
    try go_wp2
    go_ret
    exact⟨er_,bw_ HB⟩
   rw [if_pos c9] at H
   have I1:=beq_iff_eq.mpr c9
   have J1:=bne_eq_false_iff_eq.mpr c9
   clear c9
   obtain⟨t1,N1,H⟩:=ob_ H
   try dsimp only at H
   by_cases x1:((rd_T57 l0 a0).f3).toList=t1.toList
   rotate_left
   ·rw [if_neg x1] at H
    have A1:=beq_eq_false_iff_ne.mpr x1
    have C1:=bne_iff_ne.mpr x1
    obtain rfl:=Option.some.inj H
    have M0:0≤(a0:Int):=od_
    have N0:a0<(l0.length:Int):=od_
    obtain⟨b0,b1,m0,n0,o0,p0⟩:=at_T57 n1.out a0 M0 N0
    cases b1
    replace m0:=hc_ HB m0
    replace n0:=hc_ HB n0
    replace o0:=hc_ HB o0
    replace p0:=hc_ HB p0
    replace M0:=eq_true M0
    replace N0:=eq_true N0
    try go_wp2
    replace HB:=wd_ HB
    have O0:0≤(a0:Int):=od_
    have P0:a0<(l0.length:Int):=od_
    obtain⟨X0,e1,d0,e0,g0,h0⟩:=at_T57 n1.out a0 O0 P0
    have v0:=h0
    have x0:=g0
    have y0:=e0
    have B0:=d0
    obtain rfl:b0=X0:=(by injection e1)
    replace d0:=hc_ HB d0
    replace e0:=hc_ HB e0
    replace g0:=hc_ HB g0
    replace h0:=hc_ HB h0
    replace O0:=eq_true O0
    replace P0:=eq_true P0
    refine start_ (n:=8) (S:=fun w'=>w'.cell? (b0.add ((a0).toNat*4))=some (.int .i64 ((rd_T57 l0 a0).f0))∧w'.cell? ⟨(b0.add ((a0).toNat*4)).block,(b0.add ((a0).toNat*4)).off+1,none⟩=some (.string ((rd_T57 l0 a0).f1))∧w'.cell? ⟨(b0.add ((a0).toNat*4)).block,(b0.add ((a0).toNat*4)).off+2,none⟩=some (.string ((rd_T57 l0 a0).f2))∧w'.cell? ⟨(b0.add ((a0).toNat*4)).block,(b0.add ((a0).toNat*4)).off+3,none⟩=some (.string ((rd_T57 l0 a0).f3))) (ds:=[]) #[false,false,false,false,false,false,false,false] (by kernel_rfl) rfl rfl ⟨(hc_ HB B0),(hc_ HB y0),(hc_ HB x0),(hc_ HB v0)⟩ (fun hHeld=>?_);refine with_tabW laws_heldActS.tab7 laws_heldActS.bits7 (fun HT_ HW_=>?_)
    generalize wr.drew=e2 at HB d0 e0 g0 h0 hHeld⊢
    refine pv_ 0 21 ?_
    refine pv_ 1 22 ?_
    refine pv_ 2 23 ?_
    refine pv_ 3 24 ?_
    refine pv_ 5 26 ?_
    refine tv_ 4 25 hHeld ?_
    refine on_ 6 27 (fun K hK=>?_)
    refine gs_ Tryz.func37 (laws_markText.calls k1 (wrap64 (Q0+1)) o1 _ A6.out) ?_
    rintro R1 hb
    replace HB:=bs_ HB hb;(try clear hb);(try clear s1);(try clear hk);(try clear hi)
    refine hK.out _ _ ⟨(hc_ HB B0),(hc_ HB y0),(hc_ HB x0),(hc_ HB v0)⟩ (fun hHeld=>?_)
    clear hK K
    refine norm_ (a':=?_) ?_ ?_
    rotate_left
    ·show Act.put _ (some 27) _=_
     simp only [Act.put,sia_,scz_,scs_,i64_w,i32_w]
     rfl
    refine pv_ 7 28 ?_
    refine done_ (done_of HT_.out (by kernel_rfl)) ?_
    try go_wp2
    replace HB:=wd_ HB
    have Y0:0≤(a0:Int):=od_
    have Z0:a0<(l0.length:Int):=od_
    obtain⟨d1,p1,q0,r0,s0,t0⟩:=at_T57 n1.out a0 Y0 Z0
    have I0:=t0
    have J0:=s0
    have K0:=r0
    have L0:=q0
    obtain rfl:b0=d1:=(by injection p1)
    replace q0:=hc_ HB q0
    replace r0:=hc_ HB r0
    replace s0:=hc_ HB s0
    replace t0:=hc_ HB t0
    replace Y0:=eq_true Y0
    replace Z0:=eq_true Z0
    refine start_ (n:=8) (S:=fun w'=>w'.cell? (b0.add ((a0).toNat*4))=some (.int .i64 ((rd_T57 l0 a0).f0))∧w'.cell? ⟨(b0.add ((a0).toNat*4)).block,(b0.add ((a0).toNat*4)).off+1,none⟩=some (.string ((rd_T57 l0 a0).f1))∧w'.cell? ⟨(b0.add ((a0).toNat*4)).block,(b0.add ((a0).toNat*4)).off+2,none⟩=some (.string ((rd_T57 l0 a0).f2))∧w'.cell? ⟨(b0.add ((a0).toNat*4)).block,(b0.add ((a0).toNat*4)).off+3,none⟩=some (.string ((rd_T57 l0 a0).f3))) (ds:=[]) #[false,false,false,false,false,false,false,false] (by kernel_rfl) rfl rfl ⟨(hc_ HB L0),(hc_ HB K0),(hc_ HB J0),(hc_ HB I0)⟩ (fun hHeld=>?_);refine with_tabW laws_heldActS.tab10 laws_heldActS.bits10 (fun HT_ HW_=>?_)
    generalize R1.drew=g2 at HB q0 r0 s0 t0 hHeld⊢
    refine pv_ 0 31 ?_
    refine pv_ 1 32 ?_
    refine pv_ 2 33 ?_
    refine pv_ 3 34 ?_
    refine pv_ 5 36 ?_
    refine tv_ 4 35 hHeld ?_
    refine on_ 6 37 (fun K hK=>?_)
    refine gs_ Tryz.func37 (laws_markText.calls k1 (wrap64 ((wrap64 (Q0+1))+1)) r1 _ A8.out) ?_
    rintro U1 hb
    replace HB:=bs_ HB hb;(try clear hb);(try clear s1);(try clear hk);(try clear hi)
    refine hK.out _ _ ⟨(hc_ HB L0),(hc_ HB K0),(hc_ HB J0),(hc_ HB I0)⟩ (fun hHeld=>?_)
    clear hK K
    refine norm_ (a':=?_) ?_ ?_
    rotate_left
    ·show Act.put _ (some 37) _=_
     simp only [Act.put,sia_,scz_,scs_,i64_w,i32_w]
     rfl
    refine pv_ 7 38 ?_
    refine done_ (done_of HT_.out (by kernel_rfl)) ?_
    try go_wp2
    replace HB:=wd_ HB
    have g1:0≤(a0:Int):=od_
    have m1:a0<(l0.length:Int):=od_
    obtain⟨q1,y1,C0,F0,G0,H0⟩:=at_T57 n1.out a0 g1 m1
    have R0:=H0
    have U0:=G0
    have V0:=F0
    have W0:=C0
    obtain rfl:b0=q1:=(by injection y1)
    replace C0:=hc_ HB C0
    replace F0:=hc_ HB F0
    replace G0:=hc_ HB G0
    replace H0:=hc_ HB H0
    replace g1:=eq_true g1
    replace m1:=eq_true m1
    refine start_ (n:=8) (S:=fun w'=>w'.cell? (b0.add ((a0).toNat*4))=some (.int .i64 ((rd_T57 l0 a0).f0))∧w'.cell? ⟨(b0.add ((a0).toNat*4)).block,(b0.add ((a0).toNat*4)).off+1,none⟩=some (.string ((rd_T57 l0 a0).f1))∧w'.cell? ⟨(b0.add ((a0).toNat*4)).block,(b0.add ((a0).toNat*4)).off+2,none⟩=some (.string ((rd_T57 l0 a0).f2))∧w'.cell? ⟨(b0.add ((a0).toNat*4)).block,(b0.add ((a0).toNat*4)).off+3,none⟩=some (.string ((rd_T57 l0 a0).f3))) (ds:=[]) #[false,false,false,false,false,false,false,false] (by kernel_rfl) rfl rfl ⟨(hc_ HB W0),(hc_ HB V0),(hc_ HB U0),(hc_ HB R0)⟩ (fun hHeld=>?_);refine with_tabW laws_heldActS.tab13 laws_heldActS.bits13 (fun HT_ HW_=>?_)
    generalize U1.drew=h2 at HB C0 F0 G0 H0 hHeld⊢
    refine pv_ 0 41 ?_
    refine pv_ 1 42 ?_
    refine pv_ 2 43 ?_
    refine pv_ 3 44 ?_
    refine pv_ 5 46 ?_
    refine tv_ 4 45 hHeld ?_
    refine on_ 6 47 (fun K hK=>?_)
    refine gs_ Tryz.func37 (laws_markText.calls k1 (wrap64 ((wrap64 ((wrap64 (Q0+1))+1))+1)) t1 _ N1.out) ?_
    rintro l2 hb
    replace HB:=bs_ HB hb;(try clear hb);(try clear s1);(try clear hk);(try clear hi)
    refine hK.out _ _ ⟨(hc_ HB W0),(hc_ HB V0),(hc_ HB U0),(hc_ HB R0)⟩ (fun hHeld=>?_)
    clear hK K
    refine norm_ (a':=?_) ?_ ?_
    rotate_left
    ·show Act.put _ (some 47) _=_
     simp only [Act.put,sia_,scz_,scs_,i64_w,i32_w]
     rfl
    refine pv_ 7 48 ?_
    refine done_ (done_of HT_.out (by kernel_rfl)) ?_
    try go_wp2
    go_ret
    exact⟨er_,bw_ HB⟩
   rw [if_pos x1] at H
   have A1:=beq_iff_eq.mpr x1
   have C1:=bne_eq_false_iff_eq.mpr x1
   clear x1
   have H':=Aside0.mk H
   clear H
   have M0:0≤(a0:Int):=od_
   have N0:a0<(l0.length:Int):=od_
   obtain⟨b0,b1,m0,n0,o0,p0⟩:=at_T57 n1.out a0 M0 N0
   cases b1
   replace m0:=hc_ HB m0
   replace n0:=hc_ HB n0
   replace o0:=hc_ HB o0
   replace p0:=hc_ HB p0
   replace M0:=eq_true M0
   replace N0:=eq_true N0
   try go_wp2
   replace HB:=wd_ HB
   have O0:0≤(a0:Int):=od_
   have P0:a0<(l0.length:Int):=od_
   obtain⟨X0,e1,d0,e0,g0,h0⟩:=at_T57 n1.out a0 O0 P0
   have v0:=h0
   have x0:=g0
   have y0:=e0
   have B0:=d0
   obtain rfl:b0=X0:=(by injection e1)
   replace d0:=hc_ HB d0
   replace e0:=hc_ HB e0
   replace g0:=hc_ HB g0
   replace h0:=hc_ HB h0
   replace O0:=eq_true O0
   replace P0:=eq_true P0
   refine start_ (n:=8) (S:=fun w'=>w'.cell? (b0.add ((a0).toNat*4))=some (.int .i64 ((rd_T57 l0 a0).f0))∧w'.cell? ⟨(b0.add ((a0).toNat*4)).block,(b0.add ((a0).toNat*4)).off+1,none⟩=some (.string ((rd_T57 l0 a0).f1))∧w'.cell? ⟨(b0.add ((a0).toNat*4)).block,(b0.add ((a0).toNat*4)).off+2,none⟩=some (.string ((rd_T57 l0 a0).f2))∧w'.cell? ⟨(b0.add ((a0).toNat*4)).block,(b0.add ((a0).toNat*4)).off+3,none⟩=some (.string ((rd_T57 l0 a0).f3))) (ds:=[]) #[false,false,false,false,false,false,false,false] (by kernel_rfl) rfl rfl ⟨(hc_ HB B0),(hc_ HB y0),(hc_ HB x0),(hc_ HB v0)⟩ (fun hHeld=>?_);refine with_tabW laws_heldActS.tab7 laws_heldActS.bits7 (fun HT_ HW_=>?_)
   generalize wr.drew=m2 at HB d0 e0 g0 h0 hHeld⊢
   refine pv_ 0 21 ?_
   refine pv_ 1 22 ?_
   refine pv_ 2 23 ?_
   refine pv_ 3 24 ?_
   refine pv_ 5 26 ?_
   refine tv_ 4 25 hHeld ?_
   refine on_ 6 27 (fun K hK=>?_)
   refine gs_ Tryz.func37 (laws_markText.calls k1 (wrap64 (Q0+1)) o1 _ A6.out) ?_
   rintro V1 hb
   replace HB:=bs_ HB hb;(try clear hb);(try clear s1);(try clear hk);(try clear hi)
   refine hK.out _ _ ⟨(hc_ HB B0),(hc_ HB y0),(hc_ HB x0),(hc_ HB v0)⟩ (fun hHeld=>?_)
   clear hK K
   refine norm_ (a':=?_) ?_ ?_
   rotate_left
   ·show Act.put _ (some 27) _=_
    simp only [Act.put,sia_,scz_,scs_,i64_w,i32_w]
    rfl
   refine pv_ 7 28 ?_
   refine done_ (done_of HT_.out (by kernel_rfl)) ?_
   try go_wp2
   replace HB:=wd_ HB
   have Y0:0≤(a0:Int):=od_
   have Z0:a0<(l0.length:Int):=od_
   obtain⟨d1,p1,q0,r0,s0,t0⟩:=at_T57 n1.out a0 Y0 Z0
   have I0:=t0
   have J0:=s0
   have K0:=r0
   have L0:=q0
   obtain rfl:b0=d1:=(by injection p1)
   replace q0:=hc_ HB q0
   replace r0:=hc_ HB r0
   replace s0:=hc_ HB s0
   replace t0:=hc_ HB t0
   replace Y0:=eq_true Y0
   replace Z0:=eq_true Z0
   refine start_ (n:=8) (S:=fun w'=>w'.cell? (b0.add ((a0).toNat*4))=some (.int .i64 ((rd_T57 l0 a0).f0))∧w'.cell? ⟨(b0.add ((a0).toNat*4)).block,(b0.add ((a0).toNat*4)).off+1,none⟩=some (.string ((rd_T57 l0 a0).f1))∧w'.cell? ⟨(b0.add ((a0).toNat*4)).block,(b0.add ((a0).toNat*4)).off+2,none⟩=some (.string ((rd_T57 l0 a0).f2))∧w'.cell? ⟨(b0.add ((a0).toNat*4)).block,(b0.add ((a0).toNat*4)).off+3,none⟩=some (.string ((rd_T57 l0 a0).f3))) (ds:=[]) #[false,false,false,false,false,false,false,false] (by kernel_rfl) rfl rfl ⟨(hc_ HB L0),(hc_ HB K0),(hc_ HB J0),(hc_ HB I0)⟩ (fun hHeld=>?_);refine with_tabW laws_heldActS.tab10 laws_heldActS.bits10 (fun HT_ HW_=>?_)
   generalize V1.drew=n2 at HB q0 r0 s0 t0 hHeld⊢
   refine pv_ 0 31 ?_
   refine pv_ 1 32 ?_
   refine pv_ 2 33 ?_
   refine pv_ 3 34 ?_
   refine pv_ 5 36 ?_
   refine tv_ 4 35 hHeld ?_
   refine on_ 6 37 (fun K hK=>?_)
   refine gs_ Tryz.func37 (laws_markText.calls k1 (wrap64 ((wrap64 (Q0+1))+1)) r1 _ A8.out) ?_
   rintro W1 hb
   replace HB:=bs_ HB hb;(try clear hb);(try clear s1);(try clear hk);(try clear hi)
   refine hK.out _ _ ⟨(hc_ HB L0),(hc_ HB K0),(hc_ HB J0),(hc_ HB I0)⟩ (fun hHeld=>?_)
   clear hK K
   refine norm_ (a':=?_) ?_ ?_
   rotate_left
   ·show Act.put _ (some 37) _=_
    simp only [Act.put,sia_,scz_,scs_,i64_w,i32_w]
    rfl
   refine pv_ 7 38 ?_
   refine done_ (done_of HT_.out (by kernel_rfl)) ?_
   try go_wp2
   replace HB:=wd_ HB
   have g1:0≤(a0:Int):=od_
   have m1:a0<(l0.length:Int):=od_
   obtain⟨q1,y1,C0,F0,G0,H0⟩:=at_T57 n1.out a0 g1 m1
   have R0:=H0
   have U0:=G0
   have V0:=F0
   have W0:=C0
   obtain rfl:b0=q1:=(by injection y1)
   replace C0:=hc_ HB C0
   replace F0:=hc_ HB F0
   replace G0:=hc_ HB G0
   replace H0:=hc_ HB H0
   replace g1:=eq_true g1
   replace m1:=eq_true m1
   refine start_ (n:=8) (S:=fun w'=>w'.cell? (b0.add ((a0).toNat*4))=some (.int .i64 ((rd_T57 l0 a0).f0))∧w'.cell? ⟨(b0.add ((a0).toNat*4)).block,(b0.add ((a0).toNat*4)).off+1,none⟩=some (.string ((rd_T57 l0 a0).f1))∧w'.cell? ⟨(b0.add ((a0).toNat*4)).block,(b0.add ((a0).toNat*4)).off+2,none⟩=some (.string ((rd_T57 l0 a0).f2))∧w'.cell? ⟨(b0.add ((a0).toNat*4)).block,(b0.add ((a0).toNat*4)).off+3,none⟩=some (.string ((rd_T57 l0 a0).f3))) (ds:=[]) #[false,false,false,false,false,false,false,false] (by kernel_rfl) rfl rfl ⟨(hc_ HB W0),(hc_ HB V0),(hc_ HB U0),(hc_ HB R0)⟩ (fun hHeld=>?_);refine with_tabW laws_heldActS.tab13 laws_heldActS.bits13 (fun HT_ HW_=>?_)
   generalize W1.drew=o2 at HB C0 F0 G0 H0 hHeld⊢
   refine pv_ 0 41 ?_
   refine pv_ 1 42 ?_
   refine pv_ 2 43 ?_
   refine pv_ 3 44 ?_
   refine pv_ 5 46 ?_
   refine tv_ 4 45 hHeld ?_
   refine on_ 6 47 (fun K hK=>?_)
   refine gs_ Tryz.func37 (laws_markText.calls k1 (wrap64 ((wrap64 ((wrap64 (Q0+1))+1))+1)) t1 _ N1.out) ?_
   rintro q2 hb
   replace HB:=bs_ HB hb;(try clear hb);(try clear s1);(try clear hk);(try clear hi)
   refine hK.out _ _ ⟨(hc_ HB W0),(hc_ HB V0),(hc_ HB U0),(hc_ HB R0)⟩ (fun hHeld=>?_)
   clear hK K
   refine norm_ (a':=?_) ?_ ?_
   rotate_left
   ·show Act.put _ (some 47) _=_
    simp only [Act.put,sia_,scz_,scs_,i64_w,i32_w]
    rfl
   refine pv_ 7 48 ?_
   refine done_ (done_of HT_.out (by kernel_rfl)) ?_
   try go_wp2
   go_roundg k1
   case measure=>have:=M1.out;omega
   case rel=>exact⟨(wrap64 ((wrap64 ((wrap64 ((wrap64 (Q0+1))+1))+1))+1)),(wrap64 (a0+1)),rl_,rl_,H',⟨by have:=M1.out;omega⟩,⟨bw_ HB⟩⟩
end Go.Proofs.YtolakamimfhcjaaGreatDoor.QFnExactOpenJournal
