/- Written by this session's own program: what the law's functions come to, and that the machine's calls do just that. -/
import Derived.Test.YtolakamimfhcjaaGreatDoorTMFive
import Derived.Test.YtolakamimfhcjaaGreatDoorQFnExactOpenJournalx0
namespace Go.Proofs.YtolakamimfhcjaaGreatDoor.QFnExactOpenJournal
open Go.RowKit Go.Proofs.YtolakamimfhcjaaGreatDoorW.PrintWords Go.Proofs.YtolakamimfhcjaaGreatDoorW.PrintLast Go.Proofs.YtolakamimfhcjaaGreatDoorW.PrintMore
attribute [local go_sem] Go.Proofs.YtolakamimfhcjaaGreatDoor.Sem.string_geq Go.Proofs.YtolakamimfhcjaaGreatDoor.Sem.string_leq Go.Proofs.YtolakamimfhcjaaGreatDoor.Sem.string_gtr
attribute [local go_sem] max2_int min2_int max_two min_two max_three min_three max_four min_four
set_option linter.unusedVariables false
set_option linter.unusedSimpArgs false
set_option maxHeartbeats 8000000
set_option maxRecDepth 100000
def laws_toFile.f (a0:ByteArray) (b0:ByteArray) (d0:Int):Option (ByteArray × ByteArray × Int):=some (a0,b0,d0)
theorem laws_toFile.calls (h0:ByteArray) (m0:ByteArray) (n0:Int) (r1:ByteArray) (r2:ByteArray) (r3:Int) (w:World) (h:laws_toFile.f h0 m0 n0=some (r1,r2,r3)):
  Calls Tryz.prog 50 #[.agg #[.string h0,.string m0,.int .i64 n0]] w fun e w'=>e= .returned (.agg #[.string r1,.string r2,.int .i64 r3])∧Below w.heap.size w w':=by
 have X0:=Tryz.underlying70
 have Y0:=Tryz.underlying49
 have HB:=mk_ (Below.refl w.heap.size w)
 have H:(some (h0,m0,n0))=some (r1,r2,r3):=h
 clear h
 simp only [Option.some.injEq,Prod.mk.injEq] at H
 obtain⟨rfl,rfl,rfl⟩:=H
 go_enter Tryz.func50,Tryz.ntmps50
 go_wp2_with (first|((with_reducible refine gn_ 1 rfl ?_);refine bv_ (cs:=#[.string h0,.string m0,.int .i64 n0]) (t:=70) HB ?_;clear HB;intro Q0 w2 a0 R0 HB)|((with_reducible refine gn_ 2 rfl ?_);refine bn_ (cs:=#[.string (⟨#[]⟩:ByteArray),.string (⟨#[]⟩:ByteArray),.int .i64 0]) (t:=49) HB ?_;intro r0 w3 hg hb b0 U0 hB_;have d0:=bl_ a0 hg;have o0:=bg_ a0 hg;replace a0:=bb_ a0 hb;replace HB:=hB_;clear hb hB_ hg)|((with_reducible refine gn_ 3 rfl ?_);refine bn_ (cs:=#[.string (⟨#[]⟩:ByteArray),.string (⟨#[]⟩:ByteArray),.int .i64 0]) (t:=49) HB ?_;intro V0 w4 hg hb s0 W0 hB_;have e0:=bl_ a0 hg;have p0:=bg_ a0 hg;have q0:=bl_ b0 hg;have g0:=bg_ b0 hg;replace a0:=bb_ a0 hb;replace b0:=bb_ b0 hb;replace HB:=hB_;clear hb hB_ hg;obtain⟨Z0,a1⟩:=ns_ d0;obtain⟨b1,d1⟩:=ns_ e0;obtain⟨C0,F0,G0,H0,I0,J0⟩:=b3_ a0;obtain⟨e1,g1⟩:=ns_ g0;obtain⟨K0,L0,M0,N0,O0,P0⟩:=b3_ s0;obtain⟨t0,v0,x0,y0,A0,B0⟩:=b3_ b0))
 refine bodyPost_ret (results_cell_row rfl _ _ r0 49 #[.string h0,.string m0,.int .i64 n0] (0,0) _ rfl bu_ Tryz.underlying49 rfl (by kernel_rfl)) rfl ?_
 exact⟨er_,bw_ HB⟩
def laws_toFileS.l0:Nat→List (S70)→List (S49)→Int→Option ((List (S49)))
 |0,_,_,_=>none
 |k+1,x0,x3,x4=>if x4<(x0.length:Int) then(if 0≤x4 then((laws_toFile.f ((rd_T70 x0 x4).f0) ((rd_T70 x0 x4).f1) ((rd_T70 x0 x4).f2)).bind fun a0=>(if x4<(x3.length:Int) then(laws_toFileS.l0 k x0 (x3.set (x4:Int).toNat (⟨a0.1,a0.2.1,a0.2.2⟩:S49)) (wrap64 (x4+1))) else(none))) else(none)) else(some x3)
def laws_toFileS.f (k:Nat) (l0:List (S70)):Option ((List (S49))):=if 0≤(l0.length:Int) then(if((l0.length:Int):Int).toNat≤7036874417766 then(laws_toFileS.l0 k l0 (List.replicate ((l0.length:Int):Int).toNat z49) 0) else(none)) else(none)
theorem laws_toFileS.calls (k:Nat) (A0:Option Addr) (c0:Nat) (l0:List (S70)) (r:List (S49)) (w:World) (A1:Kd.C k70 w A0 l0.length l0) (C1:l0.length≤c0) (h:laws_toFileS.f k l0=some r):
  Calls Tryz.prog 25 #[.slice A0 l0.length c0] w fun e w'=>∃D1:Value,e= .returned (D1)∧Kd.R k49 49 w' w.heap.size (fun _=>True) D1 r∧Below w.heap.size w w':=by
 have H1:=Tryz.underlying70
 have I1:=Tryz.underlying49
 have J1:=Aside0.mk A1
 have X1:=Aside0.mk C1
 clear A1 C1
 have HB:=mk_ (Below.refl w.heap.size w)
 have H:=h
 unfold laws_toFileS.f at H
 clear h
 obtain⟨c2,H⟩:=gd_ H
 have K1:=eq_true c2
 have L1:=decide_eq_true c2
 clear c2
 obtain⟨c3,H⟩:=gd_ H
 have M1:=eq_true c3
 have N1:=decide_eq_true c3
 clear c3
 obtain⟨e1,v0⟩:∃y_:List (S49),y_=(List.replicate ((l0.length:Int):Int).toNat z49):=⟨_,rfl⟩
 rw [←v0] at H
 have B0:=Aside0.mk v0
 clear v0
 have H':=Aside0.mk H
 clear H
 go_enter Tryz.func25,Tryz.ntmps25
 go_wp2_with (first|((with_reducible refine gn_ 7 rfl ?_);refine Kd.R_make k49 _ 49 rfl (N:=7) rfl 34 _ _ rfl (l0.length:Int) rfl rfl Tryz.underlying34 (.agg #[(.string ⟨#[]⟩),(.string ⟨#[]⟩),(.int .i64 0)]) 40 info49 rfl (by decide) (by omega) z49 (ok:=fun _=>True) (okp:=fun _=>True) (k49_mkM _ _ _ z49) (fun _ hk=>hk) trivial (od_) (Nat.le_trans (Nat.mul_le_mul_right _ (od_:(l0.length:Int).toNat≤7036874417766)) (by omega)) (Below.refl _ _) (Nat.le_refl _) ?_;intro g1 w4 P0 hb hg_ hnew_;clear hg_ hnew_;(first|rw [←B0.out] at P0|(simp only [Int.reduceToNat] at P0;rw [←B0.out] at P0));have Q0:=mk_ (Kd.R_lower P0 (below_size (bw_ HB)));replace HB:=bs_ HB hb;clear hb P0))
 go_loopg [4] k (fun kq v4 w'=>∃(b0:List (S49)) (a0:Int),v4= .int .i64 a0∧Aside0 (laws_toFileS.l0 kq l0 b0 a0=some r)∧Aside0 (kq≤k)∧Aside0 (Kd.R k49 49 w' w.heap.size (fun _=>True) g1 b0)∧Aside0 (Below w.heap.size w w'))
 case atStart=>exact⟨(e1),(0),rl_,H',⟨Nat.le_refl _⟩,⟨rq_ Q0.out⟩,⟨bw_ HB⟩⟩
 case round=>
  clear H'
  try clear p2
  obtain⟨b0,a0,rfl,HA,F1,e0,HB⟩:=hrel
  cases gk with
  |zero=>exact absurd HA.out (by simp [laws_toFileS.l0])
  |succ k1=>
   have H:=HA.out
   clear HA
   simp only [laws_toFileS.l0] at H
   refine ic_ H ?_ ?_ <;> clear H <;> intro O1 H
   ·obtain rfl:=Option.some.inj H
    go_wp2
    go_ret
    exact⟨_,er_,rq_ e0.out,bw_ HB⟩
   obtain⟨c7,H⟩:=gd_ H
   have P1:=decide_eq_true c7
   clear c7
   obtain⟨⟨r0,s0,t0⟩,A8,H⟩:=ob_ H
   try dsimp only at H
   obtain⟨c9,H⟩:=gd_ H
   have Q1:=decide_eq_true c9
   clear c9
   obtain⟨R0,x0⟩:∃y_:List (S49),y_=(b0.set (a0:Int).toNat (⟨r0,s0,t0⟩:S49)):=⟨_,rfl⟩
   rw [←x0] at H
   have U0:=Aside0.mk x0
   clear x0
   have H':=Aside0.mk H
   clear H
   have F0:0≤(a0:Int):=od_
   have G0:a0<(l0.length:Int):=od_
   obtain⟨G1,m1,h0,m0,n0⟩:=at_T70 J1.out a0 F0 G0
   cases m1
   replace h0:=hc_ HB h0
   replace m0:=hc_ HB m0
   replace n0:=hc_ HB n0
   replace F0:=eq_true F0
   replace G0:=eq_true G0
   go_wp2_with (first|((with_reducible refine gc_ 50 rfl ?_);refine gm_ 20 Tryz.func50 (laws_toFile.calls ((rd_T70 l0 a0).f0) ((rd_T70 l0 a0).f1) ((rd_T70 l0 a0).f2) r0 s0 t0 _ A8.out) ?_;rintro y0 hb;replace e0:=rb_ e0 hb;replace HB:=bs_ HB hb;(try clear hb);(try clear hk);have n1:0≤(a0:Int):=od_;have o1:(a0:Int)<((b0.length:Int):Int):=od_;obtain⟨d0,V0,W0,X0,p1,R1,Y0⟩:=Kd.R_form e0.out (by omega);(first|cases W0|(injection W0 with ea_ en_ ec_;(first|subst ea_|(injection ea_ with ea_;subst ea_));subst ec_;clear en_));have H0:=Aside0.mk X0;have U1:=Aside0.mk Y0;clear X0 p1 Y0;obtain⟨V1,Z0,a1,o0,p0⟩:=Kd.R_elem e0.out z49 (a0:Int) n1 o1;obtain rfl:=k49_openM a1;have q1:y0.cell? ⟨d0,(a0:Int).toNat*3,none⟩=some (.string ((rd_T49 b0 a0).f0)):=o0 0 _ rfl;have r1:y0.cell? ⟨d0,(a0:Int).toNat*3+1,none⟩=some (.string ((rd_T49 b0 a0).f1)):=o0 1 _ rfl;have s1:y0.cell? ⟨d0,(a0:Int).toNat*3+2,none⟩=some (.int .i64 ((rd_T49 b0 a0).f2)):=o0 2 _ rfl;have t1:y0.frozen? ⟨d0,(a0:Int).toNat*3,none⟩=false:=p0 0;have v1:y0.frozen? ⟨d0,(a0:Int).toNat*3+1,none⟩=false:=p0 1;have x1:y0.frozen? ⟨d0,(a0:Int).toNat*3+2,none⟩=false:=p0 2;clear Z0 o0 p0 a1;replace n1:=eq_true n1;replace o1:=eq_true o1;have b1:=mk_ (show Kd.R k49 49 y0 w.heap.size (fun _=>True) (.slice (some ⟨d0,0,none⟩) b0.length V0) b0 from(rp_ e0));obtain⟨W1,C0,d1,g0,q0⟩:=Kd.R_elem b1.out z49 (a0:Int) (od_) (by have h_:(a0:Int)<((b0.length:Int):Int):=od_;first|exact h_|(have e_:=(Kd.R_reads' e0.out).1;omega)|simpa using h_);obtain rfl:=k49_openM d1;have I0:=Kd.R_seg b1.out (a0:Int) (od_) (by have h_:(a0:Int)<((b0.length:Int):Int):=od_;first|exact h_|(have e_:=(Kd.R_reads' e0.out).1;omega)|simpa using h_) (seg:=[.string r0,.string s0,.int .i64 t0]) (j:=0) C0 g0 (show 3≤3 from by decide) (x':=(⟨r0,s0,t0⟩:S49)) (k49_mkM _ _ _ (⟨r0,s0,t0⟩:S49)) (fun _ hk=>hk);have J0:=g0 0 _ rfl;(try simp only [show(k49).sz=3 from rfl,Nat.mul_one,Nat.add_zero] at J0);have K0:=q0 0;(try simp only [show(k49).sz=3 from rfl,Nat.mul_one,Nat.add_zero] at K0);have L0:=g0 1 _ rfl;(try simp only [show(k49).sz=3 from rfl,Nat.mul_one,Nat.add_zero] at L0);have M0:=q0 1;(try simp only [show(k49).sz=3 from rfl,Nat.mul_one,Nat.add_zero] at M0);have N0:=g0 2 _ rfl;(try simp only [show(k49).sz=3 from rfl,Nat.mul_one,Nat.add_zero] at N0);have O0:=q0 2;(try simp only [show(k49).sz=3 from rfl,Nat.mul_one,Nat.add_zero] at O0);clear C0 g0 q0 d1)|((with_reducible refine gate_store (t:=49) (p:=21) rfl ?_);refine store_event (t:=49) (p:=21) (v:=?vo_w13) (w1:=(((y0.setCell ⟨d0,(a0:Int).toNat*3,none⟩ (.string r0)).setCell ⟨d0,(a0:Int).toNat*3+1,none⟩ (.string s0)).setCell ⟨d0,(a0:Int).toNat*3+2,none⟩ (.int .i64 t0))) ?hg ?ho ?hn ?hr ?_;(case ho=>rfl);(case hg=>rfl);(case hn=>rfl);(case hr=>first|(go_simp;done)|(go_simp;rfl));intro y1 hw;have hg:y0.grownBy y1 (some d0):=(by rw [hw];exact I0.2);have hp_:Kd.R k49 49 y1 w.heap.size (fun _=>True) (.slice (some ⟨d0,0,none⟩) b0.length V0) R0:=(by rw [hw,U0.out];exact I0.1);clear I0;replace e0:=mk_ (hp_);replace HB:=mk_ ((by rw [hw];exact below_set (below_set (below_set (HB.out) H0.out) H0.out) H0.out:Below w.heap.size w y1));clear hg hw hp_))
   go_roundg k1
   case measure=>have:=F1.out;omega
   case rel=>exact⟨(R0),(wrap64 (a0+1)),rl_,H',⟨by have:=F1.out;omega⟩,⟨rq_ e0.out⟩,⟨bw_ HB⟩⟩
def laws_toDisk.f (k:Nat) (a0:List (S70)):Option ((List (S49))):=(laws_toFileS.f k a0).bind fun b0=>(some b0)
theorem laws_toDisk.calls (k:Nat) (n0:Option Addr) (o0:Nat) (d0:List (S70)) (r:List (S49)) (w:World) (q0:Kd.C k70 w n0 d0.length d0) (r0:d0.length≤o0) (h:laws_toDisk.f k d0=some r):
  Calls Tryz.prog 6 #[.agg #[.slice n0 d0.length o0]] w fun e w'=>∃O0:Value,e= .returned (.agg #[O0])∧Kd.R k49 49 w' w.heap.size (fun _=>True) O0 r∧Below w.heap.size w w':=by
 have Y0:=Tryz.underlying24
 have Z0:=Tryz.underlying36
 have C0:=Aside0.mk q0
 have F0:=Aside0.mk r0
 clear q0 r0
 have HB:=mk_ (Below.refl w.heap.size w)
 have H:=h
 unfold laws_toDisk.f at H
 clear h
 obtain⟨p0,A2,H⟩:=ob_ H
 try dsimp only at H
 obtain rfl:=Option.some.inj H
 go_enter Tryz.func6,Tryz.ntmps6
 go_wp2_with (first|((with_reducible refine gn_ 1 rfl ?_);refine bv_ (cs:=#[.slice n0 d0.length o0]) (t:=24) HB ?_;clear HB;intro P0 w3 a0 Q0 HB)|((with_reducible refine gn_ 2 rfl ?_);refine bn_ (cs:=#[.slice none 0 0]) (t:=36) HB ?_;intro s0 w4 hg hb b0 R0 hB_;have g0:=bl_ a0 hg;have y0:=bg_ a0 hg;replace a0:=bb_ a0 hb;replace HB:=hB_;clear hb hB_ hg)|((with_reducible refine gn_ 3 rfl ?_);refine bn_ (cs:=#[.slice none 0 0]) (t:=36) HB ?_;intro G0 w5 hg hb e0 U0 hB_;have h0:=bl_ a0 hg;have A0:=bg_ a0 hg;have B0:=bl_ b0 hg;have m0:=bg_ b0 hg;replace a0:=bb_ a0 hb;replace b0:=bb_ b0 hb;replace HB:=hB_;clear hb hB_ hg;obtain⟨a1,b1⟩:=ns_ g0;obtain⟨d1,e1⟩:=ns_ h0;obtain⟨L0,M0⟩:=b1_ a0)|((with_reducible refine gc_ 25 rfl ?_);refine gl_ 6 Tryz.func25 #[.slice n0 d0.length o0] ?_;(with_reducible refine(laws_toFileS.calls k _ _ d0 p0 _ ?side1 ?side2 A2.out).mono ?_);(case side1=>repeat(first|exact(Kd.C_below C0.out HB.out)|(with_reducible refine Kd.C_alloc ?_ _)|(with_reducible refine Kd.C_drewN ?_ _)|(with_reducible refine Kd.C_drew ?_)));(case side2=>exact F0.out);rintro e w9 ⟨g1,rfl,V0,hb⟩;refine⟨_,rfl,?_⟩;have t0:=mk_ (Kd.R_lower V0 (below_size (bw_ HB)));replace a0:=bb_ a0 hb;replace b0:=bb_ b0 hb;replace e0:=bb_ e0 hb;replace HB:=bs_ HB hb;(try clear hb);(try clear V0);obtain⟨v0,x0,N0⟩:=Kd.R_slice t0.out;subst N0;obtain⟨W0,X0⟩:=ns_ m0;obtain⟨H0,I0⟩:=b1_ e0;obtain⟨J0,K0⟩:=b1_ b0))
 refine bodyPost_ret (results_cell_row rfl _ _ s0 36 #[.slice v0 p0.length x0] (0,0) _ rfl bu_ Tryz.underlying36 rfl (by kernel_rfl)) rfl ?_
 exact⟨_,er_,rq_ (Kd.R_mono (Kd.R_far (p:=⟨s0,0,none⟩) (Kd.R_far (p:=⟨G0,0,none⟩) (Kd.R_types (Kd.R_types t0.out e0.out (by decide)) b0.out (by decide)) (fun _ hk=>hk.1.2) (.slice v0 p0.length x0)) (fun _ hk=>hk.2) (.slice v0 p0.length x0)) (fun _ hk=>trivial)),bw_ HB⟩
def strings_CutPrefix.f (a0 a1:ByteArray):Option (ByteArray × Bool):=some (⟨(Lib.trimPrefix a0.data.toList a1.data.toList).toArray⟩,Lib.hasPrefix a0.data.toList a1.data.toList)
theorem strings_CutPrefix.calls (a0 a1:ByteArray) (r1:ByteArray) (r2:Bool) (w:World) (h:strings_CutPrefix.f a0 a1=some (r1,r2)):
  Calls Tryz.prog 51 #[.string a0,.string a1] w fun e w'=>e= .returned (.tuple #[.string r1,.bool r2])∧Below w.heap.size w w':=by
 obtain⟨rfl,rfl⟩:=Prod.mk.inj (Option.some.inj h)
 exact(Tryz.strings_CutPrefix a0 a1 w).mono fun e w' ⟨he,hw⟩=>⟨he,hw▸Below.refl _ _⟩
def impl_within.f (a0:Int) (a1:Int) (a2:Int):Option (Bool):=if a0≥a1 then(some (decide (a0≤a2))) else(some false)
theorem impl_within.calls (a0:Int) (a1:Int) (a2:Int) (r:Bool) (w:World) (h:impl_within.f a0 a1 a2=some r):
  Calls Tryz.prog 53 #[.int .i64 a0,.int .i64 a1,.int .i64 a2] w fun e w'=>e= .returned (.bool r)∧Drawn0 w w':=by
 have H:=h
 unfold impl_within.f at H
 clear h
 refine ih_ H ?_ ?_ <;> clear H <;> intro b0 H
 ·obtain rfl:=Option.some.inj H
  go_enter Tryz.func53,Tryz.ntmps53
  go_wp2
  go_ret
  exact⟨by first|rfl|(simp;done)|(simp [*];done)|(simp [bne];done),by repeat(first|exact Drawn0.refl _|apply Drawn0.step)⟩
 obtain rfl:=Option.some.inj H
 go_enter Tryz.func53,Tryz.ntmps53
 go_wp2
 go_ret
 exact⟨by first|rfl|(simp;done)|(simp [*];done)|(simp [bne];done),by repeat(first|exact Drawn0.refl _|apply Drawn0.step)⟩
def impl_Decimal.f (a0:Int):Option ByteArray:=if -9223372036854775808≤a0∧a0≤9223372036854775807 then some ⟨(Lib.itoa a0).toArray⟩ else none
theorem impl_Decimal.calls (a0:Int) (r:ByteArray) (w:World) (hT:Tab1 w) (h:impl_Decimal.f a0=some r):
  Calls Tryz.prog 55 #[.int .i64 a0] w fun e w'=>e= .returned (.string r)∧Below w.heap.size w w':=by
 unfold impl_Decimal.f at h
 split at h
 rotate_left
 ·cases h
 rename_i hb
 obtain rfl:=Option.some.inj h
 have HX:=mk_ (Tryz.strconv_Itoa a0 hb.1 hb.2 w hT)
 clear h hb hT
 generalize (Lib.itoa a0)=l at *
 go_enter Tryz.func55,Tryz.ntmps55
 go_wp2_with (go_at_call 84;refine HX.out.mono ?_;rintro e w' ⟨rfl,⟨k,os,rfl⟩⟩)
 go_ret
 exact⟨rfl,Lib.below_grow _ _ (Nat.le_refl _) _ _⟩
def impl_ReadDecimal.v (a0:ByteArray):Int × Bool:=match Lib.atoiAll a0.data.toList with
 | .ok v=>if(⟨(Lib.itoa v).toArray⟩:ByteArray).toList=a0.toList then(if 0≤v∧v≤1000000000 then(v,true) else(0,false)) else(0,false)
 |_=>(0,false)
def impl_ReadDecimal.f (a0:ByteArray):Option (Int × Bool):=if a0.size≤281474976710656 then some (impl_ReadDecimal.v a0) else none
theorem impl_ReadDecimal.in_ {v:Int} (h:0≤v∧v≤1000000000):impl_within.f v 0 1000000000=some true:=by
 unfold impl_within.f;rw [if_pos h.1,decide_eq_true h.2]
theorem impl_ReadDecimal.out_ {v:Int} (h:¬(0≤v∧v≤1000000000)):impl_within.f v 0 1000000000=some false:=by
 unfold impl_within.f
 by_cases h0:v≥0
 ·rw [if_pos h0,decide_eq_false (by omega)]
 ·rw [if_neg h0]
theorem impl_ReadDecimal.calls (a0:ByteArray) (r1:Int) (r2:Bool) (w:World) (hT:Tab2 w) (h:impl_ReadDecimal.f a0=some (r1,r2)):
  Calls Tryz.prog 52 #[.string a0] w fun e w'=>e= .returned (.tuple #[.int .i64 r1,.bool r2])∧Below w.heap.size w w':=by
 unfold impl_ReadDecimal.f at h
 split at h
 rotate_left
 ·cases h
 rename_i hs
 have h:=Option.some.inj h
 obtain⟨m0,⟨t2,p2,n0⟩,t3,p3,o0⟩:=hT
 unfold impl_ReadDecimal.v at h
 cases ha:Lib.atoiAll a0.data.toList with
 |ok v=>
  rw [ha] at h
  simp only at h
  obtain⟨b0,b1⟩:=Lib.atoiAll_bounds ha
  have HA:Aside0 (Calls Tryz.prog 81 #[.string a0] w fun e w'=>e= .returned (.tuple #[.int .i64 v,.nilIface])∧Below w.heap.size w w'):=
   mk_ ((Tryz.strconv_Atoi_ok a0 (by omega) v ha w).mono fun e w' ⟨he,hw⟩=>⟨he,by rcases hw with rfl|⟨t,rfl⟩;exact Below.refl _ _;exact Lib.bytesWorld_below _ _ _⟩)
  have HD:Aside0 (impl_Decimal.f v=some (⟨(Lib.itoa v).toArray⟩:ByteArray)):=mk_ (by unfold impl_Decimal.f;rw [if_pos ⟨by omega,by omega⟩])
  have p0:=Aside0.mk m0
  clear ha m0 n0 o0 hs b0 b1
  generalize (⟨(Lib.itoa v).toArray⟩:ByteArray)=s at *
  by_cases hq:s.toList=a0.toList
  ·rw [if_pos hq] at h
   have q0:(s.toList == a0.toList)=true:=beq_iff_eq.mpr hq
   have r0:(s.toList != a0.toList)=false:=bne_eq_false_iff_eq.mpr hq
   clear hq
   by_cases hr:0≤v∧v≤1000000000
   ·rw [if_pos hr] at h
    obtain⟨rfl,rfl⟩:=Prod.mk.inj h
    have HW:=mk_ (impl_ReadDecimal.in_ hr)
    clear h hr
    go_enter Tryz.func52,Tryz.ntmps52
    go_wp2_with (first
     |(go_at_call 81;refine HA.out.mono ?_;rintro e w1 ⟨rfl,e0⟩;have d0:=Aside0.mk e0;clear e0)
     |(go_at_call 55;refine(impl_Decimal.calls _ s _ (p0.out.keep d0.out) HD.out).mono ?_;rintro e w2 ⟨rfl,g0⟩;have h0:=Aside0.mk g0;clear g0)
     |(go_at_call 53;refine(impl_within.calls _ 0 1000000000 true _ HW.out).mono ?_;rintro e w3 ⟨rfl,⟨nd,rfl⟩⟩))
    go_ret2
    exact⟨rfl,pw_below_drewN (below_then d0.out d0.out.size h0.out) _⟩
   ·rw [if_neg hr] at h
    obtain⟨rfl,rfl⟩:=Prod.mk.inj h
    have HW:=mk_ (impl_ReadDecimal.out_ hr)
    clear h hr
    go_enter Tryz.func52,Tryz.ntmps52
    go_wp2_with (first
     |(go_at_call 81;refine HA.out.mono ?_;rintro e w1 ⟨rfl,e0⟩;have d0:=Aside0.mk e0;clear e0)
     |(go_at_call 55;refine(impl_Decimal.calls _ s _ (p0.out.keep d0.out) HD.out).mono ?_;rintro e w2 ⟨rfl,g0⟩;have h0:=Aside0.mk g0;clear g0)
     |(go_at_call 53;refine(impl_within.calls _ 0 1000000000 false _ HW.out).mono ?_;rintro e w3 ⟨rfl,⟨nd,rfl⟩⟩))
    go_ret2
    exact⟨rfl,pw_below_drewN (below_then d0.out d0.out.size h0.out) _⟩
  ·rw [if_neg hq] at h
   have q0:(s.toList == a0.toList)=false:=beq_eq_false_iff_ne.mpr hq
   have r0:(s.toList != a0.toList)=true:=bne_iff_ne.mpr hq
   clear hq
   obtain⟨rfl,rfl⟩:=Prod.mk.inj h
   clear h
   go_enter Tryz.func52,Tryz.ntmps52
   go_wp2_with (first
     |(go_at_call 81;refine HA.out.mono ?_;rintro e w1 ⟨rfl,e0⟩;have d0:=Aside0.mk e0;clear e0)
     |(go_at_call 55;refine(impl_Decimal.calls _ s _ (p0.out.keep d0.out) HD.out).mono ?_;rintro e w2 ⟨rfl,g0⟩;have h0:=Aside0.mk g0;clear g0))
   go_ret2
   exact⟨rfl,below_then d0.out d0.out.size h0.out⟩
 |range=>
  rw [ha] at h
  obtain⟨rfl,rfl⟩:=Prod.mk.inj h
  have HA:=mk_ (Tryz.strconv_Atoi_range_var a0 hs ha t3 p3 w o0)
  clear ha m0 n0 o0 hs h
  go_enter Tryz.func52,Tryz.ntmps52
  go_wp2_with (go_at_call 81;refine HA.out.mono ?_;rintro e w1 ⟨N,rfl,-,-,e0⟩;have d0:=Aside0.mk e0;clear e0)
  go_ret2
  exact⟨rfl,d0.out⟩
 |_=>
  rw [ha] at h
  obtain⟨rfl,rfl⟩:=Prod.mk.inj h
  have HA:=mk_ (Tryz.strconv_Atoi_syntax_var a0 hs ha t2 p2 w n0)
  clear ha m0 n0 o0 hs h
  go_enter Tryz.func52,Tryz.ntmps52
  go_wp2_with (go_at_call 81;refine HA.out.mono ?_;rintro e w1 ⟨N,rfl,-,-,e0⟩;have d0:=Aside0.mk e0;clear e0)
  go_ret2
  exact⟨rfl,d0.out⟩
def impl_numberOf.f (a0:ByteArray) (a1:ByteArray) (a2:Int):Option (Int):=(strings_CutPrefix.f a0 a1).bind fun d0=>((impl_ReadDecimal.f d0.1).bind fun b0=>(if d0.2=true then(if b0.2=true then(if b0.1>a2 then(some (-1)) else(some b0.1)) else(some (-1))) else(some (-1))))
theorem impl_numberOf.calls (a0:ByteArray) (a1:ByteArray) (a2:Int) (r:Int) (w:World) (hT:Tab2 w) (h:impl_numberOf.f a0 a1 a2=some r):
  Calls Tryz.prog 26 #[.string a0,.string a1,.int .i64 a2] w fun e w'=>e= .returned (.int .i64 r)∧Below w.heap.size w w':=by
 have HT:=Aside0.mk hT
 clear hT
 have HB:=mk_ (Below.refl w.heap.size w)
 have H:=h
 unfold impl_numberOf.f at H
 clear h
 obtain⟨⟨b0,g0⟩,A4,H⟩:=ob_ H
 try dsimp only at H
 obtain⟨⟨d0,e0⟩,A5,H⟩:=ob_ H
 try dsimp only at H
 by_cases c6:g0=true
 rotate_left
 ·replace c6:=Bool.eq_false_iff.mpr c6
  subst c6
  rw [if_neg (show ¬(false=true) by decide)] at H
  obtain rfl:=Option.some.inj H
  go_enter Tryz.func26,Tryz.ntmps26
  go_wp2_with (first|((with_reducible refine gc_ 51 rfl ?_);refine gm_ 14 Tryz.func51 (strings_CutPrefix.calls a0 a1 b0 false _ A4.out) ?_;rintro m0 hb;replace HB:=bs_ HB hb;(try clear hb))|((with_reducible refine gc_ 52 rfl ?_);refine gm_ 19 Tryz.func52 (impl_ReadDecimal.calls b0 d0 e0 _ (tab22 HT HB) A5.out) ?_;rintro n0 hb;replace HB:=bs_ HB hb;(try clear hb)))
  go_ret
  exact⟨er_,bw_ HB⟩
 subst c6
 rw [if_pos rfl] at H
 by_cases c7:e0=true
 rotate_left
 ·replace c7:=Bool.eq_false_iff.mpr c7
  subst c7
  rw [if_neg (show ¬(false=true) by decide)] at H
  obtain rfl:=Option.some.inj H
  go_enter Tryz.func26,Tryz.ntmps26
  go_wp2_with (first|((with_reducible refine gc_ 51 rfl ?_);refine gm_ 14 Tryz.func51 (strings_CutPrefix.calls a0 a1 b0 true _ A4.out) ?_;rintro o0 hb;replace HB:=bs_ HB hb;(try clear hb))|((with_reducible refine gc_ 52 rfl ?_);refine gm_ 19 Tryz.func52 (impl_ReadDecimal.calls b0 d0 false _ (tab22 HT HB) A5.out) ?_;rintro p0 hb;replace HB:=bs_ HB hb;(try clear hb)))
  go_ret
  exact⟨er_,bw_ HB⟩
 subst c7
 rw [if_pos rfl] at H
 refine ig_ H ?_ ?_ <;> clear H <;> intro h0 H
 ·obtain rfl:=Option.some.inj H
  go_enter Tryz.func26,Tryz.ntmps26
  go_wp2_with (first|((with_reducible refine gc_ 51 rfl ?_);refine gm_ 14 Tryz.func51 (strings_CutPrefix.calls a0 a1 b0 true _ A4.out) ?_;rintro q0 hb;replace HB:=bs_ HB hb;(try clear hb))|((with_reducible refine gc_ 52 rfl ?_);refine gm_ 19 Tryz.func52 (impl_ReadDecimal.calls b0 d0 true _ (tab22 HT HB) A5.out) ?_;rintro r0 hb;replace HB:=bs_ HB hb;(try clear hb)))
  go_ret
  exact⟨er_,bw_ HB⟩
 obtain rfl:=Option.some.inj H
 go_enter Tryz.func26,Tryz.ntmps26
 go_wp2_with (first|((with_reducible refine gc_ 51 rfl ?_);refine gm_ 14 Tryz.func51 (strings_CutPrefix.calls a0 a1 b0 true _ A4.out) ?_;rintro w9 hb;replace HB:=bs_ HB hb;(try clear hb))|((with_reducible refine gc_ 52 rfl ?_);refine gm_ 19 Tryz.func52 (impl_ReadDecimal.calls b0 d0 true _ (tab22 HT HB) A5.out) ?_;rintro s0 hb;replace HB:=bs_ HB hb;(try clear hb)))
 go_ret
 exact⟨er_,bw_ HB⟩
def impl_DiskOk.l0:Nat→List (S49)→Int→Int→List (S49)→Option (Bool)
 |0,_,_,_,_=>none
 |k+1,x6,x7,x8,a0=>if x8<x7 then(if 0≤x8 then(if x8<(x6.length:Int) then((impl_within.f (((rd_T49 x6 x8).f0).size:Int) 1 8).bind fun b0=>(if b0=true then(if(((rd_T49 x6 x8).f1).size:Int)>20000 then(some false) else((impl_within.f ((rd_T49 x6 x8).f2) 0 (((rd_T49 x6 x8).f1).size:Int)).bind fun d0=>(if d0=true then(if x8>0 then(if 0≤(wrap64 (x8 - 1)) then(if(wrap64 (x8 - 1))<(a0.length:Int) then(if((Op.bytesLess (((rd_T49 a0 (wrap64 (x8 - 1))).f0).toList) (((rd_T49 x6 x8).f0).toList))=true) then(impl_DiskOk.l0 k x6 x7 (wrap64 (x8+1)) a0) else(some false)) else(none)) else(none)) else(impl_DiskOk.l0 k x6 x7 (wrap64 (x8+1)) a0)) else(some false)))) else(some false))) else(none)) else(none)) else(some (decide ((a0.length:Int)≤30)))
def impl_DiskOk.f (k:Nat) (a0:List (S49)):Option (Bool):=impl_DiskOk.l0 k a0 (a0.length:Int) 0 a0
theorem impl_DiskOk.calls (k:Nat) (N0:Option Addr) (O0:Nat) (a0:List (S49)) (r:Bool) (w:World) (U0:Kd.C k49 w N0 a0.length a0) (V0:a0.length≤O0) (h:impl_DiskOk.f k a0=some r):
  Calls Tryz.prog 27 #[.agg #[.slice N0 a0.length O0]] w fun e w'=>e= .returned (.bool r)∧Below w.heap.size w w':=by
 have W2:=Tryz.underlying36
 have X2:=Tryz.underlying49
 have B0:=Aside0.mk U0
 have A2:=Aside0.mk V0
 clear U0 V0
 have HB:=mk_ (Below.refl w.heap.size w)
 have H:=h
 unfold impl_DiskOk.f at H
 clear h
 have H':=Aside0.mk H
 clear H
 go_enter Tryz.func27,Tryz.ntmps27
 go_wp2_with (first|((with_reducible refine gn_ 1 rfl ?_);(try(refine gate_guard (by rfl) ?_;dsimp only));refine bv_ (cs:=#[.slice N0 a0.length O0]) (t:=36) HB ?_;clear HB;intro Y0 w2 m0 B2 HB;obtain⟨n2,o2⟩:=b1_ m0))
 go_loopg [8] k (fun kq v8 w'=>∃(b0:Int),v8= .int .i64 b0∧Aside0 (impl_DiskOk.l0 kq a0 (a0.length:Int) b0 a0=some r)∧Aside0 (kq≤k)∧Aside0 (w'.heap[Y0]? =some (.cells #[(.slice N0 a0.length O0)] 36 (0,0)))∧Aside0 (Below w.heap.size w w'))
 case atStart=>exact⟨(0),rl_,H',⟨Nat.le_refl _⟩,⟨bf_⟩,⟨bw_ HB⟩⟩
 case round=>
  clear H'
  try clear p2
  obtain⟨b0,rfl,HA,d1,m0,HB⟩:=hrel
  cases gk with
  |zero=>exact absurd HA.out (by simp [impl_DiskOk.l0])
  |succ k1=>
   have H:=HA.out
   clear HA
   simp only [impl_DiskOk.l0] at H
   refine ic_ H ?_ ?_ <;> clear H <;> intro Y2 H
   ·obtain rfl:=Option.some.inj H
    obtain⟨e1,g1⟩:=b1_ m0
    go_wp2
    go_ret
    exact⟨er_,bw_ HB⟩
   obtain⟨c5,H⟩:=gd_ H
   have Z2:=decide_eq_true c5
   clear c5
   obtain⟨c6,H⟩:=gd_ H
   have a3:=decide_eq_true c6
   clear c6
   obtain⟨q2,A7,H⟩:=ob_ H
   try dsimp only at H
   by_cases c8:q2=true
   rotate_left
   ·replace c8:=Bool.eq_false_iff.mpr c8
    subst c8
    rw [if_neg (show ¬(false=true) by decide)] at H
    obtain rfl:=Option.some.inj H
    have r0:0≤(b0:Int):=od_
    have s0:b0<(a0.length:Int):=od_
    obtain⟨t0,C0,n0,o0,p0⟩:=at_T49 B0.out b0 r0 s0
    cases C0
    replace n0:=hc_ HB n0
    replace o0:=hc_ HB o0
    replace p0:=hc_ HB p0
    replace r0:=eq_true r0
    replace s0:=eq_true s0
    go_wp2_with (first|((with_reducible refine gn_ 4 rfl ?_);(try(refine gate_guard (by rfl) ?_;dsimp only));refine bn_ (cs:=#[.string (⟨#[]⟩:ByteArray),.string (⟨#[]⟩:ByteArray),.int .i64 0]) (t:=49) HB ?_;intro d0 b3 hg hb x0 y0 hB_;have v0:=bl_ m0 hg;have q0:=bg_ m0 hg;replace m0:=bb_ m0 hb;replace HB:=hB_;clear hb hB_ hg;obtain⟨C2,D2⟩:=ns_ q0;obtain⟨m1,n1,o1,p1,q1,r1⟩:=b3_ x0))
    repeat(go_quiet (first|(go_at_call 53;(with_reducible refine(impl_within.calls (((rd_T49 a0 b0).f0).size:Int) 1 8 false _ A7.out).mono ?_);rintro e w' ⟨rfl,⟨nd,rfl⟩⟩;(try first|exact⟨rfl,_,World.drewN_drewN _ _ _⟩|exact⟨rfl,_,Eq.trans (World.drewN_drewN _ _ _) (congrArg (World.drewN _) (Nat.add_assoc _ _ _))⟩)));try go_wp2_with fail)
    go_ret
    exact⟨er_,bw_ HB⟩
   subst c8
   rw [if_pos rfl] at H
   by_cases c9:(((rd_T49 a0 b0).f1).size:Int)>20000
   ·rw [if_pos c9] at H
    have r2:=decide_eq_true c9
    have s2:decide (20000<((rd_T49 a0 b0).f1).size)=true:=decide_eq_true (by omega)
    clear c9
    obtain rfl:=Option.some.inj H
    have r0:0≤(b0:Int):=od_
    have s0:b0<(a0.length:Int):=od_
    obtain⟨t0,C0,n0,o0,p0⟩:=at_T49 B0.out b0 r0 s0
    cases C0
    replace n0:=hc_ HB n0
    replace o0:=hc_ HB o0
    replace p0:=hc_ HB p0
    replace r0:=eq_true r0
    replace s0:=eq_true s0
    go_wp2_with (first|((with_reducible refine gn_ 4 rfl ?_);(try(refine gate_guard (by rfl) ?_;dsimp only));refine bn_ (cs:=#[.string (⟨#[]⟩:ByteArray),.string (⟨#[]⟩:ByteArray),.int .i64 0]) (t:=49) HB ?_;intro d0 d3 hg hb x0 y0 hB_;have v0:=bl_ m0 hg;have q0:=bg_ m0 hg;replace m0:=bb_ m0 hb;replace HB:=hB_;clear hb hB_ hg;obtain⟨F2,G2⟩:=ns_ q0;obtain⟨s1,t1,v1,x1,y1,A1⟩:=b3_ x0))
    repeat(go_quiet (first|(go_at_call 53;(with_reducible refine(impl_within.calls (((rd_T49 a0 b0).f0).size:Int) 1 8 true _ A7.out).mono ?_);rintro e w' ⟨rfl,⟨nd,rfl⟩⟩;(try first|exact⟨rfl,_,World.drewN_drewN _ _ _⟩|exact⟨rfl,_,Eq.trans (World.drewN_drewN _ _ _) (congrArg (World.drewN _) (Nat.add_assoc _ _ _))⟩)));try go_wp2_with fail)
    go_ret
    exact⟨er_,bw_ HB⟩
   rw [if_neg c9] at H
   have r2:=decide_eq_false c9
   have s2:decide (20000<((rd_T49 a0 b0).f1).size)=false:=decide_eq_false (by omega)
   clear c9
   obtain⟨t2,Z0,H⟩:=ob_ H
   try dsimp only at H
   by_cases C1:t2=true
   rotate_left
   ·replace C1:=Bool.eq_false_iff.mpr C1
    subst C1
    rw [if_neg (show ¬(false=true) by decide)] at H
    obtain rfl:=Option.some.inj H
    have r0:0≤(b0:Int):=od_
    have s0:b0<(a0.length:Int):=od_
    obtain⟨t0,C0,n0,o0,p0⟩:=at_T49 B0.out b0 r0 s0
    cases C0
    replace n0:=hc_ HB n0
    replace o0:=hc_ HB o0
    replace p0:=hc_ HB p0
    replace r0:=eq_true r0
    replace s0:=eq_true s0
    go_wp2_with (first|((with_reducible refine gn_ 4 rfl ?_);(try(refine gate_guard (by rfl) ?_;dsimp only));refine bn_ (cs:=#[.string (⟨#[]⟩:ByteArray),.string (⟨#[]⟩:ByteArray),.int .i64 0]) (t:=49) HB ?_;intro d0 e3 hg hb x0 y0 hB_;have v0:=bl_ m0 hg;have q0:=bg_ m0 hg;replace m0:=bb_ m0 hb;replace HB:=hB_;clear hb hB_ hg;obtain⟨H2,I2⟩:=ns_ q0;obtain⟨D1,F1,G1,H1,I1,J1⟩:=b3_ x0))
    repeat(go_quiet (first|(go_at_call 53;(with_reducible refine(impl_within.calls (((rd_T49 a0 b0).f0).size:Int) 1 8 true _ A7.out).mono ?_);rintro e w' ⟨rfl,⟨nd,rfl⟩⟩;(try first|exact⟨rfl,_,World.drewN_drewN _ _ _⟩|exact⟨rfl,_,Eq.trans (World.drewN_drewN _ _ _) (congrArg (World.drewN _) (Nat.add_assoc _ _ _))⟩))|(go_at_call 53;(with_reducible refine(impl_within.calls ((rd_T49 a0 b0).f2) 0 (((rd_T49 a0 b0).f1).size:Int) false _ Z0.out).mono ?_);rintro e w' ⟨rfl,⟨nd,rfl⟩⟩;(try first|exact⟨rfl,_,World.drewN_drewN _ _ _⟩|exact⟨rfl,_,Eq.trans (World.drewN_drewN _ _ _) (congrArg (World.drewN _) (Nat.add_assoc _ _ _))⟩)));try go_wp2_with fail)
    go_ret
    exact⟨er_,bw_ HB⟩
   subst C1
   rw [if_pos rfl] at H
   refine ig_ H ?_ ?_ <;> clear H <;> intro J2 H
   ·have H':=Aside0.mk H
    clear H
    have r0:0≤(b0:Int):=od_
    have s0:b0<(a0.length:Int):=od_
    obtain⟨t0,C0,n0,o0,p0⟩:=at_T49 B0.out b0 r0 s0
    cases C0
    replace n0:=hc_ HB n0
    replace o0:=hc_ HB o0
    replace p0:=hc_ HB p0
    replace r0:=eq_true r0
    replace s0:=eq_true s0
    go_wp2_with (first|((with_reducible refine gn_ 4 rfl ?_);(try(refine gate_guard (by rfl) ?_;dsimp only));refine bn_ (cs:=#[.string (⟨#[]⟩:ByteArray),.string (⟨#[]⟩:ByteArray),.int .i64 0]) (t:=49) HB ?_;intro d0 g3 hg hb x0 y0 hB_;have v0:=bl_ m0 hg;have q0:=bg_ m0 hg;replace m0:=bb_ m0 hb;replace HB:=hB_;clear hb hB_ hg;obtain⟨K2,L2⟩:=ns_ q0;obtain⟨K1,L1,M1,N1,O1,P1⟩:=b3_ x0))
    repeat(go_quiet (first|(go_at_call 53;(with_reducible refine(impl_within.calls (((rd_T49 a0 b0).f0).size:Int) 1 8 true _ A7.out).mono ?_);rintro e w' ⟨rfl,⟨nd,rfl⟩⟩;(try first|exact⟨rfl,_,World.drewN_drewN _ _ _⟩|exact⟨rfl,_,Eq.trans (World.drewN_drewN _ _ _) (congrArg (World.drewN _) (Nat.add_assoc _ _ _))⟩))|(go_at_call 53;(with_reducible refine(impl_within.calls ((rd_T49 a0 b0).f2) 0 (((rd_T49 a0 b0).f1).size:Int) true _ Z0.out).mono ?_);rintro e w' ⟨rfl,⟨nd,rfl⟩⟩;(try first|exact⟨rfl,_,World.drewN_drewN _ _ _⟩|exact⟨rfl,_,Eq.trans (World.drewN_drewN _ _ _) (congrArg (World.drewN _) (Nat.add_assoc _ _ _))⟩)));try go_wp2_with fail)
    go_roundg k1
    case measure=>have:=d1.out;omega
    case rel=>exact⟨(wrap64 (b0+1)),rl_,H',⟨by have:=d1.out;omega⟩,⟨bf_⟩,⟨bw_ HB⟩⟩
   obtain⟨A0,F0⟩:∃j_:Int,(wrap64 (b0 - 1))=j_:=⟨_,rfl⟩
   (first|rw [F0] at H|simp only [F0] at H)
   (try rw [F0] at A7)
   (try rw [F0] at Z0)
   have v2:(IntKind.i64.wrap (b0 - 1))=A0:=(i64_w _).trans F0
   obtain⟨M2,H⟩:=gd_ H
   have N2:=decide_eq_true M2
   clear M2
   obtain⟨O2,H⟩:=gd_ H
   have P2:=decide_eq_true O2
   clear O2
   by_cases X0:((Op.bytesLess (((rd_T49 a0 (A0)).f0).toList) (((rd_T49 a0 b0).f0).toList))=true)
   rotate_left
   ·rw [if_neg X0] at H
    have J0:(Op.bytesLess (((rd_T49 a0 (A0)).f0).toList) (((rd_T49 a0 b0).f0).toList))=false:=by simpa using X0
    have a1:(Op.bytesLess (((rd_T49 a0 b0).f0).toList) (((rd_T49 a0 (A0)).f0).toList) || (((rd_T49 a0 b0).f0).toList) == (((rd_T49 a0 (A0)).f0).toList))=true:=Go.Proofs.YtolakamimfhcjaaGreatDoor.Sem.less_or J0
    have b1:(!Op.bytesLess (((rd_T49 a0 b0).f0).toList) (((rd_T49 a0 (A0)).f0).toList) && !((((rd_T49 a0 b0).f0).toList) == (((rd_T49 a0 (A0)).f0).toList)))=false:=Go.Proofs.YtolakamimfhcjaaGreatDoor.Sem.less_and J0
    clear X0
    obtain rfl:=Option.some.inj H
    have r0:0≤(b0:Int):=od_
    have s0:b0<(a0.length:Int):=od_
    obtain⟨t0,C0,n0,o0,p0⟩:=at_T49 B0.out b0 r0 s0
    cases C0
    replace n0:=hc_ HB n0
    replace o0:=hc_ HB o0
    replace p0:=hc_ HB p0
    replace r0:=eq_true r0
    replace s0:=eq_true s0
    go_wp2_with (first|((with_reducible refine gn_ 4 rfl ?_);(try(refine gate_guard (by rfl) ?_;dsimp only));refine bn_ (cs:=#[.string (⟨#[]⟩:ByteArray),.string (⟨#[]⟩:ByteArray),.int .i64 0]) (t:=49) HB ?_;intro d0 x2 hg hb x0 y0 hB_;have v0:=bl_ m0 hg;have q0:=bg_ m0 hg;replace m0:=bb_ m0 hb;replace HB:=hB_;clear hb hB_ hg;obtain⟨Q2,R2⟩:=ns_ q0;obtain⟨Q1,R1,U1,V1,W1,X1⟩:=b3_ x0))
    repeat(go_quiet (first|(go_at_call 53;(with_reducible refine(impl_within.calls (((rd_T49 a0 b0).f0).size:Int) 1 8 true _ A7.out).mono ?_);rintro e w' ⟨rfl,⟨nd,rfl⟩⟩;(try first|exact⟨rfl,_,World.drewN_drewN _ _ _⟩|exact⟨rfl,_,Eq.trans (World.drewN_drewN _ _ _) (congrArg (World.drewN _) (Nat.add_assoc _ _ _))⟩))|(go_at_call 53;(with_reducible refine(impl_within.calls ((rd_T49 a0 b0).f2) 0 (((rd_T49 a0 b0).f1).size:Int) true _ Z0.out).mono ?_);rintro e w' ⟨rfl,⟨nd,rfl⟩⟩;(try first|exact⟨rfl,_,World.drewN_drewN _ _ _⟩|exact⟨rfl,_,Eq.trans (World.drewN_drewN _ _ _) (congrArg (World.drewN _) (Nat.add_assoc _ _ _))⟩);obtain⟨Y1,Z1⟩:=b1_ m0;have K0:0≤((A0):Int):=od_;have L0:(A0)<(a0.length:Int):=od_;obtain⟨M0,W0,e0,g0,h0⟩:=at_T49 B0.out (A0) K0 L0;obtain rfl:t0=M0:=(by injection W0);have G0:t0.block≠d0:=Nat.ne_of_lt (Nat.lt_of_lt_of_le (by have:=World.block_lt_of_cell? _ _ e0;first|rwa [add_block] at this|exact this) y0.out);have H0:t0.block≠d0:=Nat.ne_of_lt (Nat.lt_of_lt_of_le (by have:=World.block_lt_of_cell? _ _ e0;first|rwa [add_block] at this|exact this) y0.out);have I0:t0.block≠d0:=Nat.ne_of_lt (Nat.lt_of_lt_of_le (by have:=World.block_lt_of_cell? _ _ e0;first|rwa [add_block] at this|exact this) y0.out);replace e0:=hc_ HB e0;replace g0:=hc_ HB g0;replace h0:=hc_ HB h0;replace e0:=(cell_far (p:=⟨d0,0,none⟩) ab_ (.string ((rd_T49 a0 b0).f0))).trans e0;replace g0:=(cell_far (p:=⟨d0,0,none⟩) ab_ (.string ((rd_T49 a0 b0).f0))).trans g0;replace h0:=(cell_far (p:=⟨d0,0,none⟩) ab_ (.string ((rd_T49 a0 b0).f0))).trans h0;replace e0:=(cell_far (p:=⟨d0,1,none⟩) ab_ (.string ((rd_T49 a0 b0).f1))).trans e0;replace g0:=(cell_far (p:=⟨d0,1,none⟩) ab_ (.string ((rd_T49 a0 b0).f1))).trans g0;replace h0:=(cell_far (p:=⟨d0,1,none⟩) ab_ (.string ((rd_T49 a0 b0).f1))).trans h0;replace e0:=(cell_far (p:=⟨d0,2,none⟩) ab_ (.int .i64 ((rd_T49 a0 b0).f2))).trans e0;replace g0:=(cell_far (p:=⟨d0,2,none⟩) ab_ (.int .i64 ((rd_T49 a0 b0).f2))).trans g0;replace h0:=(cell_far (p:=⟨d0,2,none⟩) ab_ (.int .i64 ((rd_T49 a0 b0).f2))).trans h0;(try have P0:=fun(n_:Nat)=>(show(((((x2.drewN n_).setCell ⟨d0,0,none⟩ (.string ((rd_T49 a0 b0).f0))).setCell ⟨d0,1,none⟩ (.string ((rd_T49 a0 b0).f1))).setCell ⟨d0,2,none⟩ (.int .i64 ((rd_T49 a0 b0).f2)))).cell? _=some _ from e0));(try have Q0:=fun(n_:Nat)=>(show(((((x2.drewN n_).setCell ⟨d0,0,none⟩ (.string ((rd_T49 a0 b0).f0))).setCell ⟨d0,1,none⟩ (.string ((rd_T49 a0 b0).f1))).setCell ⟨d0,2,none⟩ (.int .i64 ((rd_T49 a0 b0).f2)))).cell? _=some _ from g0));(try have R0:=fun(n_:Nat)=>(show(((((x2.drewN n_).setCell ⟨d0,0,none⟩ (.string ((rd_T49 a0 b0).f0))).setCell ⟨d0,1,none⟩ (.string ((rd_T49 a0 b0).f1))).setCell ⟨d0,2,none⟩ (.int .i64 ((rd_T49 a0 b0).f2)))).cell? _=some _ from h0));clear G0;clear H0;clear I0;replace K0:=eq_true K0;replace L0:=eq_true L0));try go_wp2_with fail)
    go_ret
    exact⟨by first|rfl|(simp [errW_none,errW_some] <;> rfl)|(simp only [←F0];first|rfl|(simp [errW_none,errW_some] <;> rfl))|(simp [*,errW_none,errW_some] <;> rfl),bw_ HB⟩
   rw [if_pos X0] at H
   have J0:(Op.bytesLess (((rd_T49 a0 (A0)).f0).toList) (((rd_T49 a0 b0).f0).toList))=true:=X0
   have a1:Op.bytesLess (((rd_T49 a0 b0).f0).toList) (((rd_T49 a0 (A0)).f0).toList)=false:=Go.Proofs.YtolakamimfhcjaaGreatDoor.Sem.less_no J0
   have b1:((((rd_T49 a0 b0).f0).toList) == (((rd_T49 a0 (A0)).f0).toList))=false:=Go.Proofs.YtolakamimfhcjaaGreatDoor.Sem.less_ne J0
   clear X0
   have H':=Aside0.mk H
   clear H
   have r0:0≤(b0:Int):=od_
   have s0:b0<(a0.length:Int):=od_
   obtain⟨t0,C0,n0,o0,p0⟩:=at_T49 B0.out b0 r0 s0
   cases C0
   replace n0:=hc_ HB n0
   replace o0:=hc_ HB o0
   replace p0:=hc_ HB p0
   replace r0:=eq_true r0
   replace s0:=eq_true s0
   go_wp2_with (first|((with_reducible refine gn_ 4 rfl ?_);(try(refine gate_guard (by rfl) ?_;dsimp only));refine bn_ (cs:=#[.string (⟨#[]⟩:ByteArray),.string (⟨#[]⟩:ByteArray),.int .i64 0]) (t:=49) HB ?_;intro d0 y2 hg hb x0 y0 hB_;have v0:=bl_ m0 hg;have q0:=bg_ m0 hg;replace m0:=bb_ m0 hb;replace HB:=hB_;clear hb hB_ hg;obtain⟨U2,V2⟩:=ns_ q0;obtain⟨a2,b2,d2,e2,g2,h2⟩:=b3_ x0))
   repeat(go_quiet (first|(go_at_call 53;(with_reducible refine(impl_within.calls (((rd_T49 a0 b0).f0).size:Int) 1 8 true _ A7.out).mono ?_);rintro e w' ⟨rfl,⟨nd,rfl⟩⟩;(try first|exact⟨rfl,_,World.drewN_drewN _ _ _⟩|exact⟨rfl,_,Eq.trans (World.drewN_drewN _ _ _) (congrArg (World.drewN _) (Nat.add_assoc _ _ _))⟩))|(go_at_call 53;(with_reducible refine(impl_within.calls ((rd_T49 a0 b0).f2) 0 (((rd_T49 a0 b0).f1).size:Int) true _ Z0.out).mono ?_);rintro e w' ⟨rfl,⟨nd,rfl⟩⟩;(try first|exact⟨rfl,_,World.drewN_drewN _ _ _⟩|exact⟨rfl,_,Eq.trans (World.drewN_drewN _ _ _) (congrArg (World.drewN _) (Nat.add_assoc _ _ _))⟩);obtain⟨l2,m2⟩:=b1_ m0;have K0:0≤((A0):Int):=od_;have L0:(A0)<(a0.length:Int):=od_;obtain⟨M0,W0,e0,g0,h0⟩:=at_T49 B0.out (A0) K0 L0;obtain rfl:t0=M0:=(by injection W0);have G0:t0.block≠d0:=Nat.ne_of_lt (Nat.lt_of_lt_of_le (by have:=World.block_lt_of_cell? _ _ e0;first|rwa [add_block] at this|exact this) y0.out);have H0:t0.block≠d0:=Nat.ne_of_lt (Nat.lt_of_lt_of_le (by have:=World.block_lt_of_cell? _ _ e0;first|rwa [add_block] at this|exact this) y0.out);have I0:t0.block≠d0:=Nat.ne_of_lt (Nat.lt_of_lt_of_le (by have:=World.block_lt_of_cell? _ _ e0;first|rwa [add_block] at this|exact this) y0.out);replace e0:=hc_ HB e0;replace g0:=hc_ HB g0;replace h0:=hc_ HB h0;replace e0:=(cell_far (p:=⟨d0,0,none⟩) ab_ (.string ((rd_T49 a0 b0).f0))).trans e0;replace g0:=(cell_far (p:=⟨d0,0,none⟩) ab_ (.string ((rd_T49 a0 b0).f0))).trans g0;replace h0:=(cell_far (p:=⟨d0,0,none⟩) ab_ (.string ((rd_T49 a0 b0).f0))).trans h0;replace e0:=(cell_far (p:=⟨d0,1,none⟩) ab_ (.string ((rd_T49 a0 b0).f1))).trans e0;replace g0:=(cell_far (p:=⟨d0,1,none⟩) ab_ (.string ((rd_T49 a0 b0).f1))).trans g0;replace h0:=(cell_far (p:=⟨d0,1,none⟩) ab_ (.string ((rd_T49 a0 b0).f1))).trans h0;replace e0:=(cell_far (p:=⟨d0,2,none⟩) ab_ (.int .i64 ((rd_T49 a0 b0).f2))).trans e0;replace g0:=(cell_far (p:=⟨d0,2,none⟩) ab_ (.int .i64 ((rd_T49 a0 b0).f2))).trans g0;replace h0:=(cell_far (p:=⟨d0,2,none⟩) ab_ (.int .i64 ((rd_T49 a0 b0).f2))).trans h0;(try have P0:=fun(n_:Nat)=>(show(((((y2.drewN n_).setCell ⟨d0,0,none⟩ (.string ((rd_T49 a0 b0).f0))).setCell ⟨d0,1,none⟩ (.string ((rd_T49 a0 b0).f1))).setCell ⟨d0,2,none⟩ (.int .i64 ((rd_T49 a0 b0).f2)))).cell? _=some _ from e0));(try have Q0:=fun(n_:Nat)=>(show(((((y2.drewN n_).setCell ⟨d0,0,none⟩ (.string ((rd_T49 a0 b0).f0))).setCell ⟨d0,1,none⟩ (.string ((rd_T49 a0 b0).f1))).setCell ⟨d0,2,none⟩ (.int .i64 ((rd_T49 a0 b0).f2)))).cell? _=some _ from g0));(try have R0:=fun(n_:Nat)=>(show(((((y2.drewN n_).setCell ⟨d0,0,none⟩ (.string ((rd_T49 a0 b0).f0))).setCell ⟨d0,1,none⟩ (.string ((rd_T49 a0 b0).f1))).setCell ⟨d0,2,none⟩ (.int .i64 ((rd_T49 a0 b0).f2)))).cell? _=some _ from h0));clear G0;clear H0;clear I0;replace K0:=eq_true K0;replace L0:=eq_true L0));try go_wp2_with fail)
   go_roundg k1
   case measure=>have:=d1.out;omega
   case rel=>exact⟨(wrap64 (b0+1)),rl_,H',⟨by have:=d1.out;omega⟩,⟨bf_⟩,⟨bw_ HB⟩⟩
theorem fileIndexFunc (p:S49→Bool) (g:Nat) (lb:Array Value) (eg:∀args w,(callFunc g args).run Tryz.prog w= .ok (.enter g args) w) (A0:Option Addr) (c0:Nat) (l0:List S49) (w:World)
  (a0:Kd.C k49 w A0 l0.length l0) (m0:l0.length≤c0)
  (hp:∀(W:World) (x:S49),Below w.heap.size w W→Calls Tryz.prog g (#[.agg #[.string x.f0,.string x.f1,.int .i64 x.f2]]++lb) W fun e w'=>e= .returned (.bool (p x))∧Below W.heap.size W w'):
  Calls Tryz.prog 82 #[.slice A0 l0.length c0,.func (.func g) #[] lb] w fun e w'=>e= .returned (.int .i64 (M.idxP p l0 0))∧Below w.heap.size w w':=by
 have hu:=Tryz.underlying49
 have n0:=Aside0.mk a0
 have hlen:=a0.2.1
 have HP:=Aside0.mk hp
 have o0:=Aside0.mk m0
 clear a0 m0 hp
 generalize hn:l0.length=n at *
 have HN:=Aside0.mk hn
 clear hn
 go_enter Tryz.func82,Tryz.ntmps82
 go_wp2
 go_loopg [5,8] n (fun gg _ s8 wr=>∃kk:Nat,kk≤n∧n - kk≤gg∧s8= .int .i64 kk∧Aside0 (Below w.heap.size w wr)∧Aside0 (M.idxP p l0 0=M.idxP p (l0.drop kk) kk))
 case atStart=>exact⟨0,Nat.zero_le _,by omega,rfl,⟨Below.refl _ w⟩,⟨rfl⟩⟩
 case round=>
  obtain⟨kk,hkk,hg,rfl,HB,HA⟩:=hrel
  by_cases hlt:kk<n
  ·have hltz:(kk:Int)<(n:Int):=by omega
   have b0:kk<l0.length:=by rw [HN.out];exact hlt
   obtain⟨ad,e0,d0,g0,h0⟩:=at_T49 n0.out (kk:Int) (by omega) (by omega)
   cases e0
   simp only [Int.toNat_natCast] at d0 g0 h0
   replace d0:=hc_ HB d0
   replace g0:=hc_ HB g0
   replace h0:=hc_ HB h0
   have hdrop:M.idxP p (l0.drop kk) kk=if p (rd_T49 l0 (kk:Int))=true then(kk:Int) else M.idxP p (l0.drop (kk+1)) ((kk+1:Nat):Int):=by
    rw [List.drop_eq_getElem_cons b0]
    have:rd_T49 l0 (kk:Int)=l0[kk]:=by simp [rd_T49,List.getD_eq_getElem?_getD,List.getElem?_eq_getElem b0]
    rw [this];rfl
   have HD:=Aside0.mk hdrop
   clear hdrop b0
   generalize rd_T49 l0 (kk:Int)=x at *
   have hcall:=HP.out wr x HB.out
   cases hq:p x with
   |true=>
    rw [hq] at hcall
    have HQ:=Aside0.mk hq
    clear hq
    go_wp2_with (go_at_fn g;refine hcall.mono ?_;rintro e w' ⟨rfl,hb'⟩)
    go_ret
    refine⟨?_,below_then HB.out HB.out.size hb'⟩
    rw [HA.out,HD.out,if_pos HQ.out]
    rfl
   |false=>
    rw [hq] at hcall
    have HQ:=Aside0.mk hq
    clear hq
    go_wp2_with (go_at_fn g;refine hcall.mono ?_;rintro e w' ⟨rfl,hb'⟩)
    go_roundg (n - (kk+1))
    case measure=>omega
    case rel=>
     refine⟨kk+1,by omega,by omega,by go_num,⟨below_then HB.out HB.out.size hb'⟩,⟨?_⟩⟩
     rw [HA.out,HD.out,if_neg (by rw [HQ.out];simp)]
  ·have hltz:¬(kk:Int)<(n:Int):=by omega
   go_wp2
   go_ret
   refine⟨?_,HB.out⟩
   rw [HA.out,List.drop_of_length_le (by rw [HN.out];omega)]
   rfl
def impl_fileAt.f (a0:List S49) (a1:ByteArray):Option Int:=some (M.idxP (fun x:S49=>x.f0.toList == a1.toList) a0 0)
theorem impl_fileAt.one (x0 x1:ByteArray) (x2:Int) (B:Nat) (s:ByteArray) (w:World) (hB:B<w.heap.size) (hc:w.cell? ⟨B,0,none⟩=some (.string s)):
  Calls Tryz.prog 83 #[.agg #[.string x0,.string x1,.int .i64 x2],.pointer (some ⟨B,0,none⟩)] w fun e w'=>e= .returned (.bool (x0.toList == s.toList))∧Below w.heap.size w w':=by
 have hu:=Tryz.underlying49
 go_enter Tryz.func83,Tryz.ntmps83
 go_wp2
 go_ret
 exact⟨rfl,by repeat(first|exact Below.refl _ _|apply below_alloc|apply pw_below_drewN|apply below_drew1)⟩
theorem impl_fileAt.calls (b0:Option Addr) (d0:Nat) (a0:List S49) (a1:ByteArray) (r:Int) (w:World) (e0:Kd.C k49 w b0 a0.length a0) (g0:a0.length≤d0) (h:impl_fileAt.f a0 a1=some r):
  Calls Tryz.prog 54 #[.agg #[.slice b0 a0.length d0],.string a1] w fun e w'=>e= .returned (.int .i64 r)∧Below w.heap.size w w':=by
 obtain rfl:=Option.some.inj h
 clear h
 have hu:=Tryz.underlying36
 have HR:=Aside0.mk e0
 have HC:=Aside0.mk g0
 clear e0 g0
 have eg:∀args w,(callFunc 83 args).run Tryz.prog w= .ok (.enter 83 args) w:=enters_of Tryz.func83 (by kernel_rfl) rfl
 have h0:Below w.heap.size w ((w.alloc (.cells #[.slice b0 a0.length d0] 36)).alloc (.cells #[.string a1] 9)):=below_alloc (below_alloc (Below.refl _ _) _) _
 have hone:∀(W:World) (x:S49),Below ((w.alloc (.cells #[.slice b0 a0.length d0] 36)).alloc (.cells #[.string a1] 9)).heap.size ((w.alloc (.cells #[.slice b0 a0.length d0] 36)).alloc (.cells #[.string a1] 9)) W→
   Calls Tryz.prog 83 (#[.agg #[.string x.f0,.string x.f1,.int .i64 x.f2]]++#[.pointer (some ⟨w.heap.size+1,0,none⟩)]) W fun e w'=>e= .returned (.bool (x.f0.toList == a1.toList))∧Below W.heap.size W w':=by
  intro W x hB
  have hb:((w.alloc (.cells #[.slice b0 a0.length d0] 36)).alloc (.cells #[.string a1] 9)).heap[w.heap.size+1]? =some (.cells #[.string a1] 9 (0,0)):=by
   simpa using heap_alloc_new (w.alloc (.cells #[.slice b0 a0.length d0] 36)) (.cells #[.string a1] 9)
  have hlt:w.heap.size+1<((w.alloc (.cells #[.slice b0 a0.length d0] 36)).alloc (.cells #[.string a1] 9)).heap.size:=blk_lt hb
  exact impl_fileAt.one x.f0 x.f1 x.f2 (w.heap.size+1) a1 W (Nat.lt_of_lt_of_le hlt hB.size) ((hB.cell (p:=⟨w.heap.size+1,0,none⟩) hlt).trans ((blk_cell hb 0).trans rfl))
 have HX:=mk_ (fileIndexFunc (fun x:S49=>x.f0.toList == a1.toList) 83 #[.pointer (some ⟨w.heap.size+1,0,none⟩)] eg b0 d0 a0 _ (Kd.C_alloc (Kd.C_alloc HR.out _) _) HC.out hone)
 clear hone eg
 have m0:=Aside0.mk h0
 clear h0
 go_enter Tryz.func54,Tryz.ntmps54
 go_wp2_with (go_at_call 82;refine HX.out.mono ?_;rintro e w' ⟨rfl,hb'⟩)
 go_ret
 exact⟨rfl,below_then m0.out m0.out.size hb'⟩
def impl_FileAt.f (b0:List (S49)) (a1:ByteArray):Option (ByteArray × Bool):=(impl_fileAt.f b0 a1).bind fun a0=>(if a0<0 then(some ((⟨#[]⟩:ByteArray),false)) else(if 0≤a0 then(if a0<(b0.length:Int) then(some ((rd_T49 b0 a0).f1,true)) else(none)) else(none)))
theorem impl_FileAt.calls (h0:Option Addr) (m0:Nat) (b0:List (S49)) (a1:ByteArray) (r1:ByteArray) (r2:Bool) (w:World) (p0:Kd.C k49 w h0 b0.length b0) (q0:b0.length≤m0) (h:impl_FileAt.f b0 a1=some (r1,r2)):
  Calls Tryz.prog 28 #[.agg #[.slice h0 b0.length m0],.string a1] w fun e w'=>e= .returned (.tuple #[.string r1,.bool r2])∧Below w.heap.size w w':=by
 have K0:=Tryz.underlying36
 have o0:=Aside0.mk p0
 have r0:=Aside0.mk q0
 clear p0 q0
 have HB:=mk_ (Below.refl w.heap.size w)
 have H:=h
 unfold impl_FileAt.f at H
 clear h
 obtain⟨n0,A3,H⟩:=ob_ H
 try dsimp only at H
 by_cases c4:n0<0
 ·rw [if_pos c4] at H
  have F0:=decide_eq_true c4
  clear c4
  simp only [Option.some.injEq,Prod.mk.injEq] at H
  obtain⟨rfl,rfl⟩:=H
  go_enter Tryz.func28,Tryz.ntmps28
  go_wp2_with (first|((with_reducible refine gn_ 2 rfl ?_);refine bv_ (cs:=#[.slice h0 b0.length m0]) (t:=36) HB ?_;clear HB;intro v0 w5 a0 x0 HB;obtain⟨G0,H0⟩:=b1_ a0)|((with_reducible refine gc_ 54 rfl ?_);refine gx_ 9 Tryz.func54 #[.agg #[.slice h0 b0.length m0],.string a1] (impl_fileAt.calls _ _ b0 a1 n0 _ ?side1 ?side2 A3.out) ?_;(case side1=>repeat(first|exact(Kd.C_below o0.out HB.out)|(with_reducible refine Kd.C_alloc ?_ _)|(with_reducible refine Kd.C_drewN ?_ _)|(with_reducible refine Kd.C_drew ?_)));(case side2=>exact r0.out);rintro w7 hb;replace a0:=bb_ a0 hb;replace HB:=bs_ HB hb;(try clear hb)))
  go_ret2
  exact⟨er_,bw_ HB⟩
 rw [if_neg c4] at H
 have F0:=decide_eq_false c4
 clear c4
 obtain⟨c8,H⟩:=gd_ H
 have L0:=decide_eq_true c8
 clear c8
 obtain⟨c9,H⟩:=gd_ H
 have M0:=decide_eq_true c9
 clear c9
 simp only [Option.some.injEq,Prod.mk.injEq] at H
 obtain⟨rfl,rfl⟩:=H
 go_enter Tryz.func28,Tryz.ntmps28
 go_wp2_with (first|((with_reducible refine gn_ 2 rfl ?_);refine bv_ (cs:=#[.slice h0 b0.length m0]) (t:=36) HB ?_;clear HB;intro v0 N0 a0 x0 HB;obtain⟨y0,A0⟩:=b1_ a0)|((with_reducible refine gc_ 54 rfl ?_);refine gx_ 9 Tryz.func54 #[.agg #[.slice h0 b0.length m0],.string a1] (impl_fileAt.calls _ _ b0 a1 n0 _ ?side1 ?side2 A3.out) ?_;(case side1=>repeat(first|exact(Kd.C_below o0.out HB.out)|(with_reducible refine Kd.C_alloc ?_ _)|(with_reducible refine Kd.C_drewN ?_ _)|(with_reducible refine Kd.C_drew ?_)));(case side2=>exact r0.out);rintro O0 hb;replace a0:=bb_ a0 hb;replace HB:=bs_ HB hb;(try clear hb);obtain⟨B0,C0⟩:=b1_ a0;have s0:0≤(n0:Int):=od_;have t0:n0<(b0.length:Int):=od_;obtain⟨J0,I0,d0,e0,g0⟩:=at_T49 o0.out n0 s0 t0;cases I0;replace d0:=hc_ HB d0;replace e0:=hc_ HB e0;replace g0:=hc_ HB g0;replace s0:=eq_true s0;replace t0:=eq_true t0))
 go_ret2
 exact⟨er_,bw_ HB⟩
def impl_JournalName.f (a0:Int):Option (ByteArray):=(impl_within.f a0 0 999).bind fun d0=>(if d0=true then((impl_Decimal.f a0).bind fun b0=>(if 1+b0.size≤9223372036854775807 then(some ((⟨#[106]⟩:ByteArray)++b0)) else(none))) else(some (⟨#[]⟩:ByteArray)))
theorem impl_JournalName.calls (a0:Int) (r:ByteArray) (w:World) (hT:Tab1 w) (h:impl_JournalName.f a0=some r):
  Calls Tryz.prog 29 #[.int .i64 a0] w fun e w'=>e= .returned (.string r)∧Below w.heap.size w w':=by
 have HT:=Aside0.mk hT
 clear hT
 have HB:=mk_ (Below.refl w.heap.size w)
 have H:=h
 unfold impl_JournalName.f at H
 clear h
 obtain⟨b0,A2,H⟩:=ob_ H
 try dsimp only at H
 by_cases c3:b0=true
 rotate_left
 ·replace c3:=Bool.eq_false_iff.mpr c3
  subst c3
  rw [if_neg (show ¬(false=true) by decide)] at H
  obtain rfl:=Option.some.inj H
  go_enter Tryz.func29,Tryz.ntmps29
  go_wp2_with (first|((with_reducible refine gc_ 53 rfl ?_);refine gm_ 4 Tryz.func53 (impl_within.calls a0 0 999 false _ A2.out) ?_;rintro w' ⟨nd,rfl⟩))
  go_ret
  exact⟨er_,bw_ HB⟩
 subst c3
 rw [if_pos rfl] at H
 obtain⟨d0,A4,H⟩:=ob_ H
 try dsimp only at H
 obtain⟨c5,H⟩:=gd_ H
 have e0:=eq_true c5
 have g0:=decide_eq_true c5
 have h0:=eq_false (Nat.not_lt.2 c5)
 obtain rfl:=Option.some.inj H
 go_enter Tryz.func29,Tryz.ntmps29
 go_wp2_with (first|((with_reducible refine gc_ 53 rfl ?_);refine gm_ 4 Tryz.func53 (impl_within.calls a0 0 999 true _ A2.out) ?_;rintro w' ⟨nd,rfl⟩)|((with_reducible refine gc_ 55 rfl ?_);refine gm_ 7 Tryz.func55 (impl_Decimal.calls a0 d0 _ (tab11 HT HB) A4.out) ?_;rintro w6 hb;replace HB:=bs_ HB hb;(try clear hb)))
 go_ret
 exact⟨er_,bw_ HB⟩
def impl_VarText.l0:Nat→Int→List Int→Option (ByteArray × Bool)
 |0,_,_=>none
 |k+1,x0,x4=>if x0>127 then(if x4.length<140737488355328 then(impl_VarText.l0 k (wrap64 (Int.tdiv x0 128)) (x4++ [(wrap64 ((Int.tmod x0 128)+128)) % 256])) else(none)) else(if x4.length<140737488355328 then(some (strOfNums (x4++ [(x0) % 256]),true)) else(none))
def impl_VarText.f (k:Nat) (a0:Int):Option (ByteArray × Bool):=(impl_within.f a0 0 1000000000).bind fun b0=>(if b0=true then(impl_VarText.l0 k a0 ([]:List Int)) else(some ((⟨#[]⟩:ByteArray),false)))
theorem impl_VarText.calls (k:Nat) (a0:Int) (r1:ByteArray) (r2:Bool) (w:World) (h:impl_VarText.f k a0=some (r1,r2)):
  Calls Tryz.prog 90 #[.int .i64 a0] w fun e w'=>e= .returned (.tuple #[.string r1,.bool r2])∧Below w.heap.size w w':=by
 have HB:=mk_ (Below.refl w.heap.size w)
 have H:=h
 unfold impl_VarText.f at H
 clear h
 obtain⟨q0,A2,H⟩:=ob_ H
 try dsimp only at H
 by_cases c3:q0=true
 rotate_left
 ·replace c3:=Bool.eq_false_iff.mpr c3
  subst c3
  rw [if_neg (show ¬(false=true) by decide)] at H
  simp only [Option.some.injEq,Prod.mk.injEq] at H
  obtain⟨rfl,rfl⟩:=H
  go_enter Tryz.func90,Tryz.ntmps90
  go_wp2_with (first|((with_reducible refine gc_ 53 rfl ?_);refine gm_ 6 Tryz.func53 (impl_within.calls a0 0 1000000000 false _ A2.out) ?_;rintro w' ⟨nd,rfl⟩))
  go_ret2
  exact⟨er_,bw_ HB⟩
 subst c3
 rw [if_pos rfl] at H
 have H':=Aside0.mk H
 clear H
 go_enter Tryz.func90,Tryz.ntmps90
 go_wp2_with (first|((with_reducible refine gc_ 53 rfl ?_);refine gm_ 6 Tryz.func53 (impl_within.calls a0 0 1000000000 true _ A2.out) ?_;rintro w' ⟨nd,rfl⟩))
 go_loopg [0,4] k (fun kq v0 v4 w'=>∃(b0:Int) (d0:List Int),v0= .int .i64 b0∧Aside0 (impl_VarText.l0 kq b0 d0=some (r1,r2))∧Aside0 (kq≤k)∧Aside0 (Kd.R (Kd.int .u8) 5 w' w.heap.size (fun _=>True) v4 d0)∧Aside0 (Below w.heap.size w w'))
 case atStart=>exact⟨(a0),(([]:List Int)),rl_,H',⟨Nat.le_refl _⟩,⟨by first|exact Kd.R_nil _ _ _ _ _|exact Kd.N_nil _ _ _ _ _|exact Kd.V_nil _ _ _ _ _|exact Kd.Q_nil _ _ _ _ _|exact Kd.S_nil _ _ _ _ _⟩,⟨bw_ HB⟩⟩
 case round=>
  clear H'
  try clear p2
  obtain⟨b0,d0,rfl,HA,x0,h0,HB⟩:=hrel
  cases gk with
  |zero=>exact absurd HA.out (by simp [impl_VarText.l0])
  |succ k1=>
   have H:=HA.out
   clear HA
   simp only [impl_VarText.l0] at H
   refine ig_ H ?_ ?_ <;> clear H <;> intro y0 H
   ·obtain⟨c7,H⟩:=gd_ H
    have r0:=Aside0.mk c7
    clear c7
    obtain⟨A0,e0⟩:∃y_:List Int,y_=(d0++ [(b0) % 256]):=⟨_,rfl⟩
    rw [←e0] at H
    have m0:=Aside0.mk e0
    clear e0
    simp only [Option.some.injEq,Prod.mk.injEq] at H
    obtain⟨rfl,rfl⟩:=H
    go_wp2_with (first|((with_reducible refine gate_builtin (b:= .append) (xs:=#[.tmp 19,.tmp 22]) rfl ?_);at_builtin;refine Kd.R_append (Kd.int .u8) (w0:=w) w.heap.size rfl (.tmp 19) (.tmp 22) 95 5 (.int .u8 0) 1 rfl Tryz.underlying95 info5 rfl (by decide) (by omega) u4 d0 ((b0) % 256) [.int .u8 ((b0) % 256)] (fun _=>True) (fun _=>False) rfl rfl ?aP (fun _ hk=>hk.elim) ?aF ?aO ?aB ?aS ?aL ?_;(case aP=>exact rfl);(case aB=>exact(bw_ HB));(case aF=>exact(fun _ _=>trivial));(case aO=>exact(rp_ h0));(case aS=>exact(below_size (bw_ HB)));(case aL=>have:=r0.out;omega);intro B0 w8 ho hb hg hat;rw [←m0.out] at ho;have n0:=mk_ (ho);replace HB:=mk_ (hb);clear h0;clear ho hb hg hat;have C0:=own_string (P:=Tryz.prog) Tryz.underlying95 Tryz.underlying5 Tryz.underlying9 (Kd.own_of_R n0.out)))
    go_ret2
    exact⟨er_,bw_ HB⟩
   obtain⟨c5,H⟩:=gd_ H
   have s0:=Aside0.mk c5
   clear c5
   obtain⟨t0,g0⟩:∃y_:List Int,y_=(d0++ [(wrap64 ((Int.tmod b0 128)+128)) % 256]):=⟨_,rfl⟩
   rw [←g0] at H
   have o0:=Aside0.mk g0
   clear g0
   have H':=Aside0.mk H
   clear H
   go_wp2_with (first|((with_reducible refine gate_builtin (b:= .append) (xs:=#[.tmp 10,.tmp 15]) rfl ?_);at_builtin;refine Kd.R_append (Kd.int .u8) (w0:=w) w.heap.size rfl (.tmp 10) (.tmp 15) 95 5 (.int .u8 0) 1 rfl Tryz.underlying95 info5 rfl (by decide) (by omega) u4 d0 ((wrap64 ((Int.tmod b0 128)+128)) % 256) [.int .u8 ((wrap64 ((Int.tmod b0 128)+128)) % 256)] (fun _=>True) (fun _=>False) rfl rfl ?aP (fun _ hk=>hk.elim) ?aF ?aO ?aB ?aS ?aL ?_;(case aP=>exact rfl);(case aB=>exact(bw_ HB));(case aF=>exact(fun _ _=>trivial));(case aO=>exact(rp_ h0));(case aS=>exact(below_size (bw_ HB)));(case aL=>have:=s0.out;omega);intro F0 w6 ho hb hg hat;rw [←o0.out] at ho;have p0:=mk_ (ho);replace HB:=mk_ (hb);clear h0;clear ho hb hg hat))
   go_roundg k1
   case measure=>have:=x0.out;omega
   case rel=>exact⟨(wrap64 (Int.tdiv b0 128)),(t0),rl_,H',⟨by have:=x0.out;omega⟩,⟨rq_ p0.out⟩,⟨bw_ HB⟩⟩
mutual
def impl_SumMore.l0:Nat→Int→ByteArray→Int→Option (Int)
 |0,_,_,_=>none
 |k+1,x0,x1,x5=>if x5<(x1.size:Int) then(if 0≤x5 then(impl_SumMore.l1 k (Go.bits .xor .u32 x0 ((bt x1 x5) % 4294967296)) x1 x5 0) else(none)) else(some x0)
def impl_SumMore.l1:Nat→Int→ByteArray→Int→Int→Option (Int)
 |0,_,_,_,_=>none
 |k+1,x0,x1,x5,x6=>if x6<8 then(if(Int.tmod x0 2)=1 then(impl_SumMore.l1 k (Go.bits .xor .u32 ((Int.tdiv x0 2) % 4294967296) 3558460437) x1 x5 (wrap64 (x6+1))) else(impl_SumMore.l1 k ((Int.tdiv x0 2) % 4294967296) x1 x5 (wrap64 (x6+1)))) else(impl_SumMore.l0 k x0 x1 (wrap64 (x5+1)))
end
def impl_SumMore.f (k:Nat) (a0:Int) (a1:ByteArray):Option (Int):=impl_SumMore.l0 k a0 a1 0
theorem impl_SumMore.calls (k:Nat) (a0:Int) (a1:ByteArray) (r:Int) (w:World) (h:impl_SumMore.f k a0 a1=some r):
  Calls Tryz.prog 106 #[.int .u32 a0,.string a1] w fun e w'=>e= .returned (.int .u32 r)∧Drawn0 w w':=by
 have H:(impl_SumMore.l0 k a0 a1 0)=some r:=h
 clear h
 have H':=Aside0.mk H
 clear H
 go_enter Tryz.func106,Tryz.ntmps106
 go_wp2
 go_loopg [0,5] k (fun kq v0 v5 w'=>∃(g0:Int) (b0:Int),v0= .int .u32 g0∧v5= .int .i64 b0∧Aside0 (impl_SumMore.l0 kq g0 a1 b0=some r)∧Aside0 (kq≤k)∧Drawn0 w w')
 case atStart=>exact⟨(a0),(0),rl_,rl_,H',⟨Nat.le_refl _⟩,by repeat(first|exact Drawn0.refl _|apply Drawn0.step)⟩
 case round=>
  clear H'
  try clear p2
  obtain⟨g0,b0,rfl,rfl,HA,h0,⟨m1,rfl⟩⟩:=hrel
  cases gk with
  |zero=>exact absurd HA.out (by simp [impl_SumMore.l0])
  |succ k1=>
   have H:=HA.out
   clear HA
   simp only [impl_SumMore.l0] at H
   refine ic_ H ?_ ?_ <;> clear H <;> intro p0 H
   ·obtain rfl:=Option.some.inj H
    go_wp2
    go_ret
    exact⟨by first|rfl|(simp;done)|(simp [*];done)|(simp [bne];done),by repeat(first|exact Drawn0.refl _|apply Drawn0.step)⟩
   obtain⟨c4,H⟩:=gd_ H
   have q0:=decide_eq_true c4
   clear c4
   have H':=Aside0.mk H
   clear H
   have p5:0≤(b0:Int):=od_
   have q5:b0<(a1.size:Int):=od_
   have r0:=bt_at a1 b0
   replace p5:=eq_true p5
   replace q5:=eq_true q5
   go_wp2
   go_loopg [0,6] k1 (fun kq v0 v6 w'=>∃(d0:Int) (e0:Int),v0= .int .u32 d0∧v6= .int .i64 e0∧Aside0 (impl_SumMore.l1 kq d0 a1 b0 e0=some r)∧Aside0 (kq≤k1)∧Drawn0 w w')
   case atStart=>exact⟨(Go.bits .xor .u32 g0 ((bt a1 b0) % 4294967296)),(0),rl_,rl_,H',⟨Nat.le_refl _⟩,by repeat(first|exact Drawn0.refl _|apply Drawn0.step)⟩
   case round=>
    clear H'
    (try clear p2);(try clear p5);(try clear q5);(try clear r0);(try clear p2);(try clear p5);(try clear q5)
    obtain⟨d0,e0,rfl,rfl,HA,m0,⟨m2,rfl⟩⟩:=hrel
    cases gk with
    |zero=>exact absurd HA.out (by simp [impl_SumMore.l1])
    |succ k2=>
     have H:=HA.out
     clear HA
     simp only [impl_SumMore.l1] at H
     refine ic_ H ?_ ?_ <;> clear H <;> intro s0 H
     ·have H':=Aside0.mk H
      clear H
      go_wp2
      go_roundg k2
      case measure=>have:=h0.out;have:=m0.out;omega
      case rel=>exact⟨(d0),(wrap64 (b0+1)),rl_,rl_,H',⟨by have:=h0.out;have:=m0.out;omega⟩,by repeat(first|exact Drawn0.refl _|apply Drawn0.step)⟩
     by_cases c7:(Int.tmod d0 2)=1
     rotate_left
     ·rw [if_neg c7] at H
      have n0:=beq_eq_false_iff_ne.mpr c7
      have o0:=bne_iff_ne.mpr c7
      have H':=Aside0.mk H
      clear H
      go_wp2
      go_roundg k2
      case measure=>have:=h0.out;have:=m0.out;omega
      case rel=>exact⟨((Int.tdiv d0 2) % 4294967296),(wrap64 (e0+1)),rl_,rl_,H',⟨by have:=h0.out;have:=m0.out;omega⟩,by repeat(first|exact Drawn0.refl _|apply Drawn0.step)⟩
     rw [if_pos c7] at H
     have n0:=beq_iff_eq.mpr c7
     have o0:=bne_eq_false_iff_eq.mpr c7
     clear c7
     have H':=Aside0.mk H
     clear H
     go_wp2
     go_roundg k2
     case measure=>have:=h0.out;have:=m0.out;omega
     case rel=>exact⟨(Go.bits .xor .u32 ((Int.tdiv d0 2) % 4294967296) 3558460437),(wrap64 (e0+1)),rl_,rl_,H',⟨by have:=h0.out;have:=m0.out;omega⟩,by repeat(first|exact Drawn0.refl _|apply Drawn0.step)⟩
def impl_SumOf.f (k:Nat) (a0:ByteArray):Option (Int):=(impl_SumMore.f k 4294967295 a0).bind fun b0=>(some b0)
theorem impl_SumOf.calls (k:Nat) (a0:ByteArray) (r:Int) (w:World) (h:impl_SumOf.f k a0=some r):
  Calls Tryz.prog 91 #[.string a0] w fun e w'=>e= .returned (.int .u32 r)∧Drawn0 w w':=by
 have H:=h
 unfold impl_SumOf.f at H
 clear h
 obtain⟨b0,A2,H⟩:=ob_ H
 try dsimp only at H
 obtain rfl:=Option.some.inj H
 go_enter Tryz.func91,Tryz.ntmps91
 go_wp2_with (first|((with_reducible refine gc_ 106 rfl ?_);refine gm_ 4 Tryz.func106 (impl_SumMore.calls k 4294967295 a0 b0 _ A2.out) ?_;rintro w' ⟨nd,rfl⟩))
 go_ret
 exact⟨by first|rfl|(simp;done)|(simp [*];done)|(simp [bne];done),by repeat(first|exact Drawn0.refl _|apply Drawn0.step)⟩
def impl_Frame.f (k:Nat) (a0:ByteArray):Option (ByteArray × Bool):=(impl_within.f (a0.size:Int) 1 9000).bind fun g0=>(if g0=true then((impl_VarText.f k (a0.size:Int)).bind fun b0=>((impl_SumOf.f k a0).bind fun d0=>((some (([(d0 / 16777216) % 256,(d0 / 65536) % 256,(d0 / 256) % 256,(d0) % 256]:List Int):List Int)).bind fun e0=>(if b0.1.size+(strOfNums e0).size≤9223372036854775807 then(if(b0.1++(strOfNums e0)).size+a0.size≤9223372036854775807 then(some ((b0.1++(strOfNums e0))++a0,true)) else(none)) else(none))))) else(some ((⟨#[]⟩:ByteArray),false)))
theorem impl_Frame.calls (k:Nat) (a0:ByteArray) (r1:ByteArray) (r2:Bool) (w:World) (h:impl_Frame.f k a0=some (r1,r2)):
  Calls Tryz.prog 59 #[.string a0] w fun e w'=>e= .returned (.tuple #[.string r1,.bool r2])∧Below w.heap.size w w':=by
 have HB:=mk_ (Below.refl w.heap.size w)
 have H:=h
 unfold impl_Frame.f at H
 clear h
 obtain⟨n0,A2,H⟩:=ob_ H
 try dsimp only at H
 by_cases c3:n0=true
 rotate_left
 ·replace c3:=Bool.eq_false_iff.mpr c3
  subst c3
  rw [if_neg (show ¬(false=true) by decide)] at H
  simp only [Option.some.injEq,Prod.mk.injEq] at H
  obtain⟨rfl,rfl⟩:=H
  go_enter Tryz.func59,Tryz.ntmps59
  go_wp2_with (first|((with_reducible refine gc_ 53 rfl ?_);refine gm_ 9 Tryz.func53 (impl_within.calls (a0.size:Int) 1 9000 false _ A2.out) ?_;rintro w' ⟨nd,rfl⟩))
  go_ret2
  exact⟨er_,bw_ HB⟩
 subst c3
 rw [if_pos rfl] at H
 obtain⟨⟨h0,o0⟩,A4,H⟩:=ob_ H
 try dsimp only at H
 obtain⟨b0,A5,H⟩:=ob_ H
 try dsimp only at H
 obtain⟨p0,d0⟩:∃y_:List Int,y_=(([(b0 / 16777216) % 256,(b0 / 65536) % 256,(b0 / 256) % 256,(b0) % 256]:List Int)):=⟨_,rfl⟩
 replace H:=sb_ d0 H
 have g0:=Aside0.mk d0
 clear d0
 obtain⟨c6,H⟩:=gd_ H
 have r0:=eq_true c6
 have s0:=decide_eq_true c6
 have t0:=eq_false (Nat.not_lt.2 c6)
 obtain⟨c7,H⟩:=gd_ H
 have v0:=eq_true c7
 have x0:=decide_eq_true c7
 have y0:=eq_false (Nat.not_lt.2 c7)
 have A0:(9223372036854775807<h0.size+(strOfNums p0).size+a0.size)=False:=eq_false (by have h_:=c7;simp only [ByteArray.size_append] at h_;exact Nat.not_lt.2 h_)
 simp only [Option.some.injEq,Prod.mk.injEq] at H
 obtain⟨rfl,rfl⟩:=H
 go_enter Tryz.func59,Tryz.ntmps59
 go_wp2_with (first|((with_reducible refine gc_ 53 rfl ?_);refine gm_ 9 Tryz.func53 (impl_within.calls (a0.size:Int) 1 9000 true _ A2.out) ?_;rintro w' ⟨nd,rfl⟩)|((with_reducible refine gc_ 90 rfl ?_);refine gm_ 14 Tryz.func90 (impl_VarText.calls k (a0.size:Int) h0 o0 _ A4.out) ?_;rintro w8 hb;replace HB:=bs_ HB hb;(try clear hb);(try clear hk))|((with_reducible refine gc_ 91 rfl ?_);refine gm_ 18 Tryz.func91 (impl_SumOf.calls k a0 b0 _ A5.out) ?_;rintro w' ⟨nd,rfl⟩)|((with_reducible refine gn_ 31 rfl ?_);refine Kd.R_lit (Kd.int .u8) _ 5 ?hg (N:=31) ?hd (xs:=([(b0 / 16777216) % 256,(b0 / 65536) % 256,(b0 / 256) % 256,(b0) % 256]:List Int)) (inner:=[.int .u8 ((b0 / 16777216) % 256),.int .u8 ((b0 / 65536) % 256),.int .u8 ((b0 / 256) % 256),.int .u8 ((b0) % 256)]) (ok:=fun _=>True) (okp:=fun _=>True) ?hr ?hp (fun _ hk=>hk) trivial (Below.refl _ _) (Nat.le_refl _) (by simp) ?_;(case hd=>rfl);(case hg=>rfl);(case hr=>first|(go_simp;done)|(go_simp;rfl));(case hp=>exact(Reps.one (show Kd.M (Kd.int .u8) _ _ _ ((b0 / 16777216) % 256) [.int .u8 ((b0 / 16777216) % 256)] from rfl) (Reps.one (show Kd.M (Kd.int .u8) _ _ _ ((b0 / 65536) % 256) [.int .u8 ((b0 / 65536) % 256)] from rfl) (Reps.one (show Kd.M (Kd.int .u8) _ _ _ ((b0 / 256) % 256) [.int .u8 ((b0 / 256) % 256)] from rfl) (Reps.one (show Kd.M (Kd.int .u8) _ _ _ ((b0) % 256) [.int .u8 ((b0) % 256)] from rfl) (Reps.none _ _))))));intro B0 w9 e0 hb hg_ hnew_;clear hg_ hnew_;(first|rw [←g0.out] at e0|(simp only [Int.reduceToNat] at e0;rw [←g0.out] at e0));have m0:=mk_ (Kd.R_lower e0 (below_size (bw_ HB)));replace HB:=bs_ HB hb;clear hb e0;have q0:=own_string (P:=Tryz.prog) Tryz.underlying95 Tryz.underlying5 Tryz.underlying9 (Kd.own_of_R m0.out)))
 go_ret2
 exact⟨er_,bw_ HB⟩
mutual
def impl_ReadVar.l0:Nat→ByteArray→Int→Int→Int→Option (Int × Int × Bool)
 |0,_,_,_,_=>none
 |k+1,x0,x1,x7,x8=>if x8<5 then(impl_ReadVar.j1 k x0 x1 x7 x8 (decide ((wrap64 (x1+x8))<(x0.size:Int)))) else(impl_ReadVar.j1 k x0 x1 x7 x8 false)
def impl_ReadVar.j1:Nat→ByteArray→Int→Int→Int→Bool→Option (Int × Int × Bool)
 |0,_,_,_,_,_=>none
 |k+1,x0,x1,x7,x8,b0=>if b0=true then(if 0≤(wrap64 (x1+x8)) then(if(wrap64 (x1+x8))<(x0.size:Int) then(if 0≤(wrap64 (7*x8)) then(if(wrap64 (bt x0 (wrap64 (x1+x8))))<128 then((impl_VarText.f k (wrap64 (x7+(shl .i64 (Int.tmod (wrap64 (bt x0 (wrap64 (x1+x8)))) 128) (wrap64 (7*x8)))))).bind fun a0=>(if a0.2=true then(if(a0.1.size:Int)=(wrap64 (x8+1)) then(some (wrap64 (x7+(shl .i64 (Int.tmod (wrap64 (bt x0 (wrap64 (x1+x8)))) 128) (wrap64 (7*x8)))),wrap64 ((wrap64 (x1+x8))+1),true)) else(some (0,0,false))) else(some (0,0,false)))) else(impl_ReadVar.l0 k x0 x1 (wrap64 (x7+(shl .i64 (Int.tmod (wrap64 (bt x0 (wrap64 (x1+x8)))) 128) (wrap64 (7*x8))))) (wrap64 (x8+1)))) else(none)) else(none)) else(none)) else(some (0,0,false))
end
def impl_ReadVar.f (k:Nat) (a0:ByteArray) (a1:Int):Option (Int × Int × Bool):=(impl_within.f a1 0 (a0.size:Int)).bind fun b0=>(if b0=true then(impl_ReadVar.l0 k a0 a1 0 0) else(some (0,0,false)))
theorem impl_ReadVar.calls (k:Nat) (a0:ByteArray) (a1:Int) (r1:Int) (r2:Int) (r3:Bool) (w:World) (h:impl_ReadVar.f k a0 a1=some (r1,r2,r3)):
  Calls Tryz.prog 85 #[.string a0,.int .i64 a1] w fun e w'=>e= .returned (.tuple #[.int .i64 r1,.int .i64 r2,.bool r3])∧Below w.heap.size w w':=by
 have HB:=mk_ (Below.refl w.heap.size w)
 have H:=h
 unfold impl_ReadVar.f at H
 clear h
 obtain⟨I0,A3,H⟩:=ob_ H
 try dsimp only at H
 by_cases c4:I0=true
 rotate_left
 ·replace c4:=Bool.eq_false_iff.mpr c4
  subst c4
  rw [if_neg (show ¬(false=true) by decide)] at H
  simp only [Option.some.injEq,Prod.mk.injEq] at H
  obtain⟨rfl,rfl,rfl⟩:=H
  go_enter Tryz.func85,Tryz.ntmps85
  go_wp2_with (first|((with_reducible refine gc_ 53 rfl ?_);refine gm_ 15 Tryz.func53 (impl_within.calls a1 0 (a0.size:Int) false _ A3.out) ?_;rintro w' ⟨nd,rfl⟩))
  go_ret3
  exact⟨er_,bw_ HB⟩
 subst c4
 rw [if_pos rfl] at H
 have H':=Aside0.mk H
 clear H
 go_enter Tryz.func85,Tryz.ntmps85
 go_wp2_with (first|((with_reducible refine gc_ 53 rfl ?_);refine gm_ 15 Tryz.func53 (impl_within.calls a1 0 (a0.size:Int) true _ A3.out) ?_;rintro w' ⟨nd,rfl⟩))
 go_loopg [7,8] k (fun kq v7 v8 w'=>∃(d0:Int) (e0:Int),v7= .int .i64 d0∧v8= .int .i64 e0∧Aside0 (impl_ReadVar.l0 kq a0 a1 d0 e0=some (r1,r2,r3))∧Aside0 (kq≤k)∧Aside0 (Below w.heap.size w w'))
 case atStart=>exact⟨(0),(0),rl_,rl_,H',⟨Nat.le_refl _⟩,⟨bw_ HB⟩⟩
 case round=>
  clear H'
  try clear p2
  obtain⟨d0,e0,rfl,rfl,HA,F0,HB⟩:=hrel
  cases gk with
  |zero=>exact absurd HA.out (by simp [impl_ReadVar.l0])
  |succ k1=>
   have H:=HA.out
   clear HA
   simp only [impl_ReadVar.l0] at H
   have J0:=Aside0.mk H
   clear H
   go_upto_region 5 with (fail)
   go_cut [26] (fun Y0 wc=>∃(kq:Nat) (o0:Bool),Y0= .bool o0∧Aside0 (impl_ReadVar.j1 kq a0 a1 d0 e0 o0=some (r1,r2,r3))∧Aside0 (kq≤k1)∧Aside0 (Below w.heap.size w wc))
   case first=>
    have H:=J0.out
    clear J0
    refine ic_ H ?_ ?_ <;> clear H <;> intro s0 H
    ·(first|rw [s0]|(simp only [i64_w,i32_w];rw [s0])|skip)
     have H':=Aside0.mk H
     clear H
     go_wp2
     go_meet
     case rel=>exact⟨_,(false),rl_,H',⟨by have:=F0.out;first|omega|exact Nat.le_refl _⟩,⟨bw_ HB⟩⟩
    (first|rw [s0]|(simp only [i64_w,i32_w];rw [s0])|skip)
    have H':=Aside0.mk H
    clear H
    go_wp2
    go_meet
    case rel=>exact⟨_,(decide ((wrap64 (a1+e0))<(a0.size:Int))),rl_,H',⟨by have:=F0.out;first|omega|exact Nat.le_refl _⟩,⟨bw_ HB⟩⟩
   case rest=>
    clear J0
    (try clear p2);(try clear p6);(try clear p2)
    obtain⟨kq,o0,rfl,HA,Q0,HB⟩:=hcut
    cases kq with
    |zero=>exact absurd HA.out (by simp [impl_ReadVar.j1])
    |succ G0=>
     have H:=HA.out
     clear HA
     simp only [impl_ReadVar.j1] at H
     by_cases c7:o0=true
     rotate_left
     ·replace c7:=Bool.eq_false_iff.mpr c7
      subst c7
      rw [if_neg (show ¬(false=true) by decide)] at H
      simp only [Option.some.injEq,Prod.mk.injEq] at H
      obtain⟨rfl,rfl,rfl⟩:=H
      go_wp2
      go_ret3
      exact⟨er_,bw_ HB⟩
     subst c7
     rw [if_pos rfl] at H
     obtain⟨m0,p0⟩:∃j_:Int,(wrap64 (a1+e0))=j_:=⟨_,rfl⟩
     (first|rw [p0] at H|simp only [p0] at H)
     have R0:(IntKind.i64.wrap (a1+e0))=m0:=(i64_w _).trans p0
     obtain⟨c9,H⟩:=gd_ H
     have Z0:=decide_eq_true c9
     clear c9
     obtain⟨c10,H⟩:=gd_ H
     have U0:=decide_eq_true c10
     clear c10
     obtain⟨n0,h0⟩:∃j_:Int,(wrap64 (7*e0))=j_:=⟨_,rfl⟩
     (first|rw [h0] at H|simp only [h0] at H)
     have K0:(IntKind.i64.wrap (7*e0))=n0:=(i64_w _).trans h0
     obtain⟨L0,H⟩:=gd_ H
     have V0:=eq_true L0
     have W0:=decide_eq_true L0
     clear L0
     obtain⟨g0,b0⟩:∃j_:Int,(shl .i64 (Int.tmod (wrap64 (bt a0 (m0))) 128) (n0))=j_:=⟨_,rfl⟩
     (first|rw [b0] at H|simp only [b0] at H)
     have v0:(IntKind.i64.wrap ((Int.tmod (wrap64 (bt a0 (m0))) 128)*2 ^ min (n0).toNat 64))=g0:=b0
     have x0:(n0)≤64→(IntKind.i64.wrap ((Int.tmod (wrap64 (bt a0 (m0))) 128)*2 ^ (n0).toNat))=g0:=shl_small b0
     have M0:(wrap64 ((Int.tmod (wrap64 (bt a0 (m0))) 128)*2 ^ min (n0).toNat 64))=g0:=(i64_w _).symm.trans v0
     have N0:(n0)≤64→(wrap64 ((Int.tmod (wrap64 (bt a0 (m0))) 128)*2 ^ (n0).toNat))=g0:=fun h_=>(i64_w _).symm.trans (x0 h_)
     refine ic_ H ?_ ?_ <;> clear H <;> intro X0 H
     ·have H':=Aside0.mk H
      clear H
      have q0:0≤((m0):Int):=od_
      have r0:(m0)<(a0.size:Int):=od_
      have y0:=bt_at a0 (m0)
      replace q0:=eq_true q0
      replace r0:=eq_true r0
      go_wp2
      go_roundg G0
      case measure=>have:=F0.out;have:=Q0.out;omega
      case rel=>exact⟨(wrap64 (d0+(g0))),(wrap64 (e0+1)),(by first|rfl|(simp;done)|(simp only [←b0] <;> (first|rfl|simp))|(simp [*];done)),rl_,H',⟨by have:=F0.out;have:=Q0.out;omega⟩,⟨bw_ HB⟩⟩
     obtain⟨⟨t0,O0⟩,P0,H⟩:=ob_ H
     try dsimp only at H
     by_cases H0:O0=true
     rotate_left
     ·replace H0:=Bool.eq_false_iff.mpr H0
      subst H0
      rw [if_neg (show ¬(false=true) by decide)] at H
      simp only [Option.some.injEq,Prod.mk.injEq] at H
      obtain⟨rfl,rfl,rfl⟩:=H
      have q0:0≤((m0):Int):=od_
      have r0:(m0)<(a0.size:Int):=od_
      have y0:=bt_at a0 (m0)
      replace q0:=eq_true q0
      replace r0:=eq_true r0
      go_wp2_with (first|((with_reducible refine gc_ 90 rfl ?_);refine goesL_ (some 46) rfl rfl Tryz.func90 (by kernel_rfl) rfl #[.int .i64 (wrap64 (d0+(g0)))] rfl (by(try simp only [List.map_toArray,List.map_cons,List.map_nil]);first|done|(simp only [b0];rfl)|rfl|(simp only [List.length_drop,List.length_take];rfl)) ?_;(with_reducible refine(impl_VarText.calls G0 (wrap64 (d0+(g0))) t0 false _ P0.out).mono ?_);rintro e b1 ⟨rfl,hb⟩;refine⟨_,rfl,?_⟩;replace HB:=bs_ HB hb;(try clear hb)))
      go_ret3
      exact⟨by first|rfl|(simp [errW_none,errW_some] <;> rfl)|(simp only [←p0,←h0,←b0];first|rfl|(simp [errW_none,errW_some] <;> rfl))|(simp [*,errW_none,errW_some] <;> rfl),bw_ HB⟩
     subst H0
     rw [if_pos rfl] at H
     by_cases A0:(t0.size:Int)=(wrap64 (e0+1))
     rotate_left
     ·rw [if_neg A0] at H
      have B0:=beq_eq_false_iff_ne.mpr A0
      have C0:=bne_iff_ne.mpr A0
      simp only [Option.some.injEq,Prod.mk.injEq] at H
      obtain⟨rfl,rfl,rfl⟩:=H
      have q0:0≤((m0):Int):=od_
      have r0:(m0)<(a0.size:Int):=od_
      have y0:=bt_at a0 (m0)
      replace q0:=eq_true q0
      replace r0:=eq_true r0
      go_wp2_with (first|((with_reducible refine gc_ 90 rfl ?_);refine goesL_ (some 46) rfl rfl Tryz.func90 (by kernel_rfl) rfl #[.int .i64 (wrap64 (d0+(g0)))] rfl (by(try simp only [List.map_toArray,List.map_cons,List.map_nil]);first|done|(simp only [b0];rfl)|rfl|(simp only [List.length_drop,List.length_take];rfl)) ?_;(with_reducible refine(impl_VarText.calls G0 (wrap64 (d0+(g0))) t0 true _ P0.out).mono ?_);rintro e d1 ⟨rfl,hb⟩;refine⟨_,rfl,?_⟩;replace HB:=bs_ HB hb;(try clear hb)))
      go_ret3
      exact⟨by first|rfl|(simp [errW_none,errW_some] <;> rfl)|(simp only [←p0,←h0,←b0];first|rfl|(simp [errW_none,errW_some] <;> rfl))|(simp [*,errW_none,errW_some] <;> rfl),bw_ HB⟩
     rw [if_pos A0] at H
     have B0:=beq_iff_eq.mpr A0
     have C0:=bne_eq_false_iff_eq.mpr A0
     clear A0
     simp only [Option.some.injEq,Prod.mk.injEq] at H
     obtain⟨rfl,rfl,rfl⟩:=H
     have q0:0≤((m0):Int):=od_
     have r0:(m0)<(a0.size:Int):=od_
     have y0:=bt_at a0 (m0)
     replace q0:=eq_true q0
     replace r0:=eq_true r0
     go_wp2_with (first|((with_reducible refine gc_ 90 rfl ?_);refine goesL_ (some 46) rfl rfl Tryz.func90 (by kernel_rfl) rfl #[.int .i64 (wrap64 (d0+(g0)))] rfl (by(try simp only [List.map_toArray,List.map_cons,List.map_nil]);first|done|(simp only [b0];rfl)|rfl|(simp only [List.length_drop,List.length_take];rfl)) ?_;(with_reducible refine(impl_VarText.calls G0 (wrap64 (d0+(g0))) t0 true _ P0.out).mono ?_);rintro e e1 ⟨rfl,hb⟩;refine⟨_,rfl,?_⟩;replace HB:=bs_ HB hb;(try clear hb)))
     go_ret3
     exact⟨by first|rfl|(simp [errW_none,errW_some] <;> rfl)|(simp only [←p0,←h0,←b0];first|rfl|(simp [errW_none,errW_some] <;> rfl))|(simp [*,errW_none,errW_some] <;> rfl),bw_ HB⟩
mutual
def impl_Unframe.l0:Nat→ByteArray→List ByteArray→Int→Option (List ByteArray × Int)
 |0,_,_,_=>none
 |k+1,x0,x4,x5=>(impl_ReadVar.f k x0 x5).bind fun a0=>(if a0.2.2=true then(impl_Unframe.j1 k x0 x4 x5 a0.1 a0.2.1 (decide (a0.1>(wrap64 ((wrap64 ((x0.size:Int) - a0.2.1)) - 4))))) else(impl_Unframe.j1 k x0 x4 x5 a0.1 a0.2.1 true))
def impl_Unframe.j1:Nat→ByteArray→List ByteArray→Int→Int→Int→Bool→Option (List ByteArray × Int)
 |0,_,_,_,_,_,_=>none
 |k+1,x0,x4,x5,x6,x7,b0=>if b0=true then(some (x4,x5)) else(if 0≤(wrap64 (x7+4)) then(if(wrap64 (x7+4))≤(wrap64 ((wrap64 (x7+4))+x6)) then(if(wrap64 ((wrap64 (x7+4))+x6))≤(x0.size:Int) then((impl_Frame.f k (x0.extract ((wrap64 (x7+4)):Int).toNat ((wrap64 ((wrap64 (x7+4))+x6)):Int).toNat)).bind fun a0=>(if a0.2=true then(if 0≤x5 then(if x5≤(wrap64 ((wrap64 (x7+4))+x6)) then(if a0.1.toList=(x0.extract (x5:Int).toNat ((wrap64 ((wrap64 (x7+4))+x6)):Int).toNat).toList then(if x4.length<8796093022208 then(impl_Unframe.l0 k x0 (x4++ [x0.extract ((wrap64 (x7+4)):Int).toNat ((wrap64 ((wrap64 (x7+4))+x6)):Int).toNat]) (wrap64 ((wrap64 (x7+4))+x6))) else(none)) else(some (x4,x5))) else(none)) else(none)) else(some (x4,x5)))) else(none)) else(none)) else(none))
end
def impl_Unframe.f (k:Nat) (a0:ByteArray):Option (List ByteArray × Int):=if(a0.size:Int)>20000 then(some (([]:List ByteArray),0)) else(impl_Unframe.l0 k a0 ([]:List ByteArray) 0)
theorem impl_Unframe.calls (k:Nat) (a0:ByteArray) (r1:List ByteArray) (r2:Int) (w:World) (h:impl_Unframe.f k a0=some (r1,r2)):
  Calls Tryz.prog 56 #[.string a0] w fun e w'=>∃N0:Value,e= .returned (.tuple #[N0,.int .i64 r2])∧Kd.R Kd.string 9 w' w.heap.size (fun _=>True) N0 r1∧Below w.heap.size w w':=by
 have HB:=mk_ (Below.refl w.heap.size w)
 have H:=h
 unfold impl_Unframe.f at H
 clear h
 by_cases c2:(a0.size:Int)>20000
 ·rw [if_pos c2] at H
  have G0:=decide_eq_true c2
  have H0:decide (20000<a0.size)=true:=decide_eq_true (by omega)
  clear c2
  simp only [Option.some.injEq,Prod.mk.injEq] at H
  obtain⟨rfl,rfl⟩:=H
  go_enter Tryz.func56,Tryz.ntmps56
  go_wp2
  go_ret2
  exact⟨_,er_,by first|exact Kd.R_nil _ _ _ _ _|exact Kd.N_nil _ _ _ _ _|exact Kd.V_nil _ _ _ _ _|exact Kd.Q_nil _ _ _ _ _|exact Kd.S_nil _ _ _ _ _,bw_ HB⟩
 rw [if_neg c2] at H
 have G0:=decide_eq_false c2
 have H0:decide (20000<a0.size)=false:=decide_eq_false (by omega)
 clear c2
 have H':=Aside0.mk H
 clear H
 go_enter Tryz.func56,Tryz.ntmps56
 go_wp2
 go_loopg [4,5] k (fun kq v4 v5 w'=>∃(h0:List ByteArray) (n0:Int),v5= .int .i64 n0∧Aside0 (impl_Unframe.l0 kq a0 h0 n0=some (r1,r2))∧Aside0 (kq≤k)∧Aside0 (Kd.R Kd.string 9 w' w.heap.size (fun _=>True) v4 h0)∧Aside0 (Below w.heap.size w w'))
 case atStart=>exact⟨(([]:List ByteArray)),(0),rl_,H',⟨Nat.le_refl _⟩,⟨by first|exact Kd.R_nil _ _ _ _ _|exact Kd.N_nil _ _ _ _ _|exact Kd.V_nil _ _ _ _ _|exact Kd.Q_nil _ _ _ _ _|exact Kd.S_nil _ _ _ _ _⟩,⟨bw_ HB⟩⟩
 case round=>
  clear H'
  try clear p2
  obtain⟨h0,n0,rfl,HA,B0,b0,HB⟩:=hrel
  cases gk with
  |zero=>exact absurd HA.out (by simp [impl_Unframe.l0])
  |succ k1=>
   have H:=HA.out
   clear HA
   simp only [impl_Unframe.l0] at H
   obtain⟨⟨d0,o0,s0⟩,A3,H⟩:=ob_ H
   try dsimp only at H
   have I0:=Aside0.mk H
   clear H
   go_upto_region 6 with (first|((with_reducible refine gc_ 85 rfl ?_);refine gm_ 18 Tryz.func85 (impl_ReadVar.calls k1 a0 n0 d0 o0 s0 _ A3.out) ?_;rintro w5 hb;replace b0:=rb_ b0 hb;replace HB:=bs_ HB hb;(try clear hb)))
   (try simp only [Act.put,sia_,scz_,scs_])
   go_cut [32] (fun g1 wc=>∃(kq:Nat) (m0:Bool),g1= .bool m0∧Aside0 (impl_Unframe.j1 kq a0 h0 n0 d0 o0 m0=some (r1,r2))∧Aside0 (kq≤k1)∧Aside0 (Kd.R Kd.string 9 wc w.heap.size (fun _=>True) u4 h0)∧Aside0 (Below w.heap.size w wc))
   case first=>
    have H:=I0.out
    clear I0
    by_cases c6:s0=true
    ·subst c6
     rw [if_pos rfl] at H
     have H':=Aside0.mk H
     clear H
     go_wp2
     go_meet
     case rel=>exact⟨_,(decide (d0>(wrap64 ((wrap64 ((a0.size:Int) - o0)) - 4)))),rl_,H',⟨by have:=B0.out;first|omega|exact Nat.le_refl _⟩,⟨rq_ b0.out⟩,⟨bw_ HB⟩⟩
    replace c6:=Bool.eq_false_iff.mpr c6
    subst c6
    rw [if_neg (show ¬(false=true) by decide)] at H
    have H':=Aside0.mk H
    clear H
    go_wp2
    go_meet
    case rel=>exact⟨_,(true),rl_,H',⟨by have:=B0.out;first|omega|exact Nat.le_refl _⟩,⟨rq_ b0.out⟩,⟨bw_ HB⟩⟩
   case rest=>
    clear I0
    (try clear p2);(try clear p6);(try clear p2)
    obtain⟨kq,m0,rfl,HA,O0,b0,HB⟩:=hcut
    cases kq with
    |zero=>exact absurd HA.out (by simp [impl_Unframe.j1])
    |succ C0=>
     have H:=HA.out
     clear HA
     simp only [impl_Unframe.j1] at H
     by_cases c7:m0=true
     ·subst c7
      rw [if_pos rfl] at H
      simp only [Option.some.injEq,Prod.mk.injEq] at H
      obtain⟨rfl,rfl⟩:=H
      go_wp2
      go_ret2
      exact⟨_,er_,rq_ b0.out,bw_ HB⟩
     replace c7:=Bool.eq_false_iff.mpr c7
     subst c7
     rw [if_neg (show ¬(false=true) by decide)] at H
     obtain⟨e0,g0⟩:∃j_:Int,(wrap64 (o0+4))=j_:=⟨_,rfl⟩
     (first|rw [g0] at H|simp only [g0] at H)
     have P0:(IntKind.i64.wrap (o0+4))=e0:=(i64_w _).trans g0
     obtain⟨c9,H⟩:=gd_ H
     have m1:=eq_true c9
     have n1:=decide_eq_true c9
     clear c9
     obtain⟨c10,H⟩:=gd_ H
     have Q0:=eq_true c10
     have R0:=decide_eq_true c10
     obtain⟨U0,H⟩:=gd_ H
     have V0:=eq_true U0
     have W0:=decide_eq_true U0
     obtain⟨⟨q0,J0⟩,K0,H⟩:=ob_ H
     try dsimp only at H
     by_cases F0:J0=true
     rotate_left
     ·replace F0:=Bool.eq_false_iff.mpr F0
      subst F0
      rw [if_neg (show ¬(false=true) by decide)] at H
      simp only [Option.some.injEq,Prod.mk.injEq] at H
      obtain⟨rfl,rfl⟩:=H
      go_wp2_with (first|((with_reducible refine gc_ 59 rfl ?_);refine goesL_ (some 45) rfl rfl Tryz.func59 (by kernel_rfl) rfl #[.string (a0.extract ((e0):Int).toNat ((wrap64 ((e0)+d0)):Int).toNat)] rfl (by(try simp only [List.map_toArray,List.map_cons,List.map_nil]);first|done|(simp only [g0];rfl)|rfl|(simp only [List.length_drop,List.length_take];rfl)) ?_;(with_reducible refine(impl_Frame.calls C0 (a0.extract ((e0):Int).toNat ((wrap64 ((e0)+d0)):Int).toNat) q0 false _ K0.out).mono ?_);rintro e p1 ⟨rfl,hb⟩;refine⟨_,rfl,?_⟩;replace b0:=rb_ b0 hb;replace HB:=bs_ HB hb;(try clear hb)))
      go_ret2
      exact⟨_,by first|rfl|(simp [errW_none,errW_some] <;> rfl)|(simp only [←g0];first|rfl|(simp [errW_none,errW_some] <;> rfl))|(simp [*,errW_none,errW_some] <;> rfl),rq_ b0.out,bw_ HB⟩
     subst F0
     rw [if_pos rfl] at H
     obtain⟨L0,H⟩:=gd_ H
     have X0:=eq_true L0
     have Y0:=decide_eq_true L0
     clear L0
     obtain⟨Z0,H⟩:=gd_ H
     have a1:=eq_true Z0
     have b1:=decide_eq_true Z0
     have d1:=eq_true (od_:(wrap64 ((e0)+d0))≤(a0.size:Int))
     by_cases r0:q0.toList=(a0.extract (n0:Int).toNat ((wrap64 ((e0)+d0)):Int).toNat).toList
     rotate_left
     ·rw [if_neg r0] at H
      have t0:=beq_eq_false_iff_ne.mpr r0
      have v0:=bne_iff_ne.mpr r0
      simp only [Option.some.injEq,Prod.mk.injEq] at H
      obtain⟨rfl,rfl⟩:=H
      go_wp2_with (first|((with_reducible refine gc_ 59 rfl ?_);refine goesL_ (some 45) rfl rfl Tryz.func59 (by kernel_rfl) rfl #[.string (a0.extract ((e0):Int).toNat ((wrap64 ((e0)+d0)):Int).toNat)] rfl (by(try simp only [List.map_toArray,List.map_cons,List.map_nil]);first|done|(simp only [g0];rfl)|rfl|(simp only [List.length_drop,List.length_take];rfl)) ?_;(with_reducible refine(impl_Frame.calls C0 (a0.extract ((e0):Int).toNat ((wrap64 ((e0)+d0)):Int).toNat) q0 true _ K0.out).mono ?_);rintro e q1 ⟨rfl,hb⟩;refine⟨_,rfl,?_⟩;replace b0:=rb_ b0 hb;replace HB:=bs_ HB hb;(try clear hb)))
      go_ret2
      exact⟨_,by first|rfl|(simp [errW_none,errW_some] <;> rfl)|(simp only [←g0];first|rfl|(simp [errW_none,errW_some] <;> rfl))|(simp [*,errW_none,errW_some] <;> rfl),rq_ b0.out,bw_ HB⟩
     rw [if_pos r0] at H
     have t0:=beq_iff_eq.mpr r0
     have v0:=bne_eq_false_iff_eq.mpr r0
     clear r0
     obtain⟨e1,H⟩:=gd_ H
     have x0:=Aside0.mk e1
     clear e1
     obtain⟨M0,p0⟩:∃y_:List ByteArray,y_=(h0++ [a0.extract ((e0):Int).toNat ((wrap64 ((e0)+d0)):Int).toNat]):=⟨_,rfl⟩
     rw [←p0] at H
     have y0:=Aside0.mk p0
     clear p0
     have H':=Aside0.mk H
     clear H
     go_wp2_with (first|((with_reducible refine gc_ 59 rfl ?_);refine goesL_ (some 45) rfl rfl Tryz.func59 (by kernel_rfl) rfl #[.string (a0.extract ((e0):Int).toNat ((wrap64 ((e0)+d0)):Int).toNat)] rfl (by(try simp only [List.map_toArray,List.map_cons,List.map_nil]);first|done|(simp only [g0];rfl)|rfl|(simp only [List.length_drop,List.length_take];rfl)) ?_;(with_reducible refine(impl_Frame.calls C0 (a0.extract ((e0):Int).toNat ((wrap64 ((e0)+d0)):Int).toNat) q0 true _ K0.out).mono ?_);rintro e s1 ⟨rfl,hb⟩;refine⟨_,rfl,?_⟩;replace b0:=rb_ b0 hb;replace HB:=bs_ HB hb;(try clear hb);(try clear hk))|((with_reducible refine gate_builtin (b:= .append) (xs:=#[.tmp 63,.tmp 65]) rfl ?_);(try(refine gate_guard (by rfl) ?_;dsimp only));at_builtin;refine Kd.R_append Kd.string (w0:=w) w.heap.size rfl (.tmp 63) (.tmp 65) 75 9 (.string ⟨#[]⟩) 16 rfl Tryz.underlying75 info9 rfl (by decide) (by omega) u4 h0 (a0.extract ((e0):Int).toNat ((wrap64 ((e0)+d0)):Int).toNat) [.string (a0.extract ((e0):Int).toNat ((wrap64 ((e0)+d0)):Int).toNat)] (fun _=>True) (fun _=>False) rfl rfl ?aP (fun _ hk=>hk.elim) ?aF ?aO ?aB ?aS ?aL ?_;(case aP=>exact rfl);(case aB=>exact(bw_ HB));(case aF=>exact(fun _ _=>trivial));(case aO=>exact(rp_ b0));(case aS=>exact(below_size (bw_ HB)));(case aL=>have:=x0.out;omega);intro o1 t1 ho hb hg hat;rw [←y0.out] at ho;have A0:=mk_ (ho);replace HB:=mk_ (hb);clear b0;clear ho hb hg hat))
     go_roundg C0
     case measure=>have:=B0.out;have:=O0.out;omega
     case rel=>exact⟨(M0),(wrap64 ((e0)+d0)),(by first|rfl|(simp;done)|(simp only [←g0] <;> (first|rfl|simp))|(simp [*];done)),H',⟨by have:=B0.out;have:=O0.out;omega⟩,⟨rq_ A0.out⟩,⟨bw_ HB⟩⟩
def IsS123 (w0 W:World) (g:Nat) (f0:ByteArray) (f1:Int) (f2:Bool):Prop:=W.heap[g]? =some (.cells #[.string f0,.int .i64 f1,.bool f2] 123 (0,0))∧w0.heap.size≤g
theorem IsS123.grown {w0 W:World} {g:Nat} {f0:ByteArray} {f1:Int} {f2:Bool} {W1:World} {row:Option Nat} (h:IsS123 w0 W g f0 f1 f2) (hw:W.grownBy W1 row) (hne:some g≠row):IsS123 w0 W1 g f0 f1 f2:=by
 obtain⟨hb,hg⟩:=h
 exact⟨blk_grown hb hw hne,hg⟩
theorem IsS123.own_neN {w0 W:World} {g:Nat} {f0:ByteArray} {f1:Int} {f2:Bool} {α:Type} {d:Kd α} {e:Nat} {base:Nat} {ok:Nat→Prop} {v:Value} {xs:List α} (h:IsS123 w0 W g f0 f1 f2) (ho:Kd.N d e W base ok v xs) (ht:e≠123):some g≠v.ownBlock:=by
 obtain⟨hb,hg⟩:=h
 exact Kd.N_ne ho hb ht
theorem IsS123.fresh {w0 W:World} {g:Nat} {f0:ByteArray} {f1:Int} {f2:Bool} (h:IsS123 w0 W g f0 f1 f2):∀k,W.heap.size≤k→k≠g:=by
 obtain⟨hb,hg⟩:=h
 exact Kd.freshB hb
theorem IsS123.kept {w0 W:World} {g:Nat} {f0:ByteArray} {f1:Int} {f2:Bool} {W1:World} {S:Nat→Prop} (h:IsS123 w0 W g f0 f1 f2) (hk:Kept W W1 S) (hne:¬S g):IsS123 w0 W1 g f0 f1 f2:=by
 obtain⟨hb,hg⟩:=h
 exact⟨blk_kept hb hk hne,hg⟩
theorem IsS123.below {w0 W:World} {g:Nat} {f0:ByteArray} {f1:Int} {f2:Bool} {W1:World} (h:IsS123 w0 W g f0 f1 f2) (hw:Below W.heap.size W W1):IsS123 w0 W1 g f0 f1 f2:=h.grown (grown_of_below hw none) (by simp)
theorem IsS123.alloc {w0 W:World} {g:Nat} {f0:ByteArray} {f1:Int} {f2:Bool} (h:IsS123 w0 W g f0 f1 f2) (o:Obj):IsS123 w0 (W.alloc o) g f0 f1 f2:=h.below (below_alloc (Below.refl _ _) o)
theorem IsS123.drewN {w0 W:World} {g:Nat} {f0:ByteArray} {f1:Int} {f2:Bool} (h:IsS123 w0 W g f0 f1 f2) (m:Nat):IsS123 w0 (W.drewN m) g f0 f1 f2:=h
theorem IsS123.drew {w0 W:World} {g:Nat} {f0:ByteArray} {f1:Int} {f2:Bool} (h:IsS123 w0 W g f0 f1 f2):IsS123 w0 W.drew g f0 f1 f2:=h
theorem IsS123.at_ {w0 W:World} {g:Nat} {f0:ByteArray} {f1:Int} {f2:Bool} {w':World} {m:Nat} (hq:W.drewN m=w') (h:IsS123 w0 W g f0 f1 f2):IsS123 w0 w' g f0 f1 f2:=by subst hq;exact IsS123.drewN h m
theorem IsS123.apart {w0 W:World} {g:Nat} {f0:ByteArray} {f1:Int} {f2:Bool} {α:Type} {d:Kd α} {e:Nat} {base:Nat} {ok:Nat→Prop} {v:Value} {xs:List α} (h:IsS123 w0 W g f0 f1 f2) (ho:d.R e W base ok v xs) (ht:∀q,q∈e :: d.E→q≠123):d.R e W base (fun k=>ok k∧k≠g) v xs:=by
 obtain⟨hb,hg⟩:=h
 exact Kd.R_types ho hb ht
theorem IsS123.own_ne {w0 W:World} {g:Nat} {f0:ByteArray} {f1:Int} {f2:Bool} {α:Type} {d:Kd α} {e:Nat} {base:Nat} {ok:Nat→Prop} {v:Value} {xs:List α} (h:IsS123 w0 W g f0 f1 f2) (ho:d.R e W base ok v xs) (ht:e≠123):some g≠v.ownBlock:=by
 obtain⟨hb,hg⟩:=h
 exact Kd.R_ne ho hb ht
theorem IsS123.apartQ {w0 W:World} {g:Nat} {f0:ByteArray} {f1:Int} {f2:Bool} {α:Type} {d:Kd α} {e:Nat} {base:Nat} {ok:Nat→Prop} {v:Value} {xs:List α} (h:IsS123 w0 W g f0 f1 f2) (ho:d.Q e W base ok v xs) (ht:∀q,q∈e :: d.E→q≠123):d.Q e W base (fun k=>ok k∧k≠g) v xs:=by
 obtain⟨hb,hg⟩:=h
 exact Kd.Q_types ho hb ht
theorem IsS123.own_neQ {w0 W:World} {g:Nat} {f0:ByteArray} {f1:Int} {f2:Bool} {α:Type} {d:Kd α} {e:Nat} {base:Nat} {ok:Nat→Prop} {v:Value} {xs:List α} (h:IsS123 w0 W g f0 f1 f2) (ho:d.Q e W base ok v xs) (ht:e≠123):some g≠v.ownBlock:=by
 obtain⟨hb,hg⟩:=h
 exact Kd.Q_ne ho hb ht
theorem IsS123.apartS {w0 W:World} {g:Nat} {f0:ByteArray} {f1:Int} {f2:Bool} {α:Type} {d:Kd α} {e:Nat} {base:Nat} {ok:Nat→Prop} {v:Value} {xs:List α} (h:IsS123 w0 W g f0 f1 f2) (ho:d.S e W base ok v xs) (ht:∀q,q∈e :: d.E→q≠123):d.S e W base (fun k=>ok k∧k≠g) v xs:=by
 obtain⟨hb,hg⟩:=h
 exact Kd.S_types ho hb ht
theorem IsS123.own_neS {w0 W:World} {g:Nat} {f0:ByteArray} {f1:Int} {f2:Bool} {α:Type} {d:Kd α} {e:Nat} {base:Nat} {ok:Nat→Prop} {v:Value} {xs:List α} (h:IsS123 w0 W g f0 f1 f2) (ho:d.S e W base ok v xs) (ht:e≠123):some g≠v.ownBlock:=by
 obtain⟨hb,hg⟩:=h
 exact Kd.S_ne ho hb ht
theorem IsS123.lt {w0 W:World} {g:Nat} {f0:ByteArray} {f1:Int} {f2:Bool} (h:IsS123 w0 W g f0 f1 f2):g<W.heap.size:=by
 obtain⟨hb,hg⟩:=h
 exact blk_lt hb
theorem IsS123.ge {w0 W:World} {g:Nat} {f0:ByteArray} {f1:Int} {f2:Bool} (h:IsS123 w0 W g f0 f1 f2):w0.heap.size≤g:=by
 obtain⟨hb,hg⟩:=h
 exact hg
theorem IsS123.ne_blk {w0 W:World} {g:Nat} {f0:ByteArray} {f1:Int} {f2:Bool} {a:Nat} {cs:Array Value} {t:TypeId} {fr:Nat × Nat} (h:IsS123 w0 W g f0 f1 f2) (a0:W.heap[a]? =some (.cells cs t fr)) (ht:t≠123):g≠a:=by
 obtain⟨hb,hg⟩:=h
 rintro rfl
 rw [hb] at a0
 injection a0 with a0
 injection a0 with _ b0
 exact ht b0.symm
theorem IsS123.far {w0 W:World} {g:Nat} {f0:ByteArray} {f1:Int} {f2:Bool} {p:Addr} (h:IsS123 w0 W g f0 f1 f2) (hne:g≠p.block) (u:Value):IsS123 w0 (W.setCell p u) g f0 f1 f2:=by
 obtain⟨hb,hg⟩:=h
 exact⟨blk_far hb hne u,hg⟩
theorem cellS123_0 {W:World} {g:Nat} {f0:ByteArray} {f1:Int} {f2:Bool} (h:W.heap[g]? =some (.cells #[.string f0,.int .i64 f1,.bool f2] 123 (0,0))):W.cell? ⟨g,0,none⟩=some (.string f0):=(blk_cell h 0).trans rfl
theorem IsS123.set_0 {w0 W:World} {g:Nat} {f0:ByteArray} {f1:Int} {f2:Bool} (h:IsS123 w0 W g f0 f1 f2) (x:ByteArray):IsS123 w0 (W.setCell ⟨g,0,none⟩ (.string x)) g x f1 f2:=by
 obtain⟨hb,hg⟩:=h
 exact⟨by simpa using blk_set hb 0 (.string x),hg⟩
theorem cellS123_1 {W:World} {g:Nat} {f0:ByteArray} {f1:Int} {f2:Bool} (h:W.heap[g]? =some (.cells #[.string f0,.int .i64 f1,.bool f2] 123 (0,0))):W.cell? ⟨g,1,none⟩=some (.int .i64 f1):=(blk_cell h 1).trans rfl
theorem IsS123.set_1 {w0 W:World} {g:Nat} {f0:ByteArray} {f1:Int} {f2:Bool} (h:IsS123 w0 W g f0 f1 f2) (x:Int):IsS123 w0 (W.setCell ⟨g,1,none⟩ (.int .i64 x)) g f0 x f2:=by
 obtain⟨hb,hg⟩:=h
 exact⟨by simpa using blk_set hb 1 (.int .i64 x),hg⟩
theorem cellS123_2 {W:World} {g:Nat} {f0:ByteArray} {f1:Int} {f2:Bool} (h:W.heap[g]? =some (.cells #[.string f0,.int .i64 f1,.bool f2] 123 (0,0))):W.cell? ⟨g,2,none⟩=some (.bool f2):=(blk_cell h 2).trans rfl
theorem IsS123.set_2 {w0 W:World} {g:Nat} {f0:ByteArray} {f1:Int} {f2:Bool} (h:IsS123 w0 W g f0 f1 f2) (x:Bool):IsS123 w0 (W.setCell ⟨g,2,none⟩ (.bool x)) g f0 f1 x:=by
 obtain⟨hb,hg⟩:=h
 exact⟨by simpa using blk_set hb 2 (.bool x),hg⟩
theorem IsS123.new (w0 W:World) (f0:ByteArray) (f1:Int) (f2:Bool) (hB:Below w0.heap.size w0 W):IsS123 w0 (W.alloc (.cells #[.string f0,.int .i64 f1,.bool f2] 123)) W.heap.size f0 f1 f2:=⟨by simpa using heap_alloc_new W _,hB.size⟩
theorem IsS123.ii_ {w W0 W:World} {g:Nat} {f0 a0:ByteArray} {f1 b0:Int} {f2 d0:Bool} (h0:Aside0 (IsS123 w W0 g f0 f1 f2)) (h:IsS123 w W g a0 b0 d0:=by repeat(first|(with_reducible first|exact Aside0.out (by assumption)|apply IsS123.alloc|apply IsS123.drewN|apply IsS123.drew|apply IsS123.set_0|apply IsS123.set_1|apply IsS123.set_2|refine IsS123.far ?_ (Aside0.out (by assumption)) _)|exact Aside0.out (by assumption))):IsS123 w W g a0 b0 d0:=h
def impl_reader_byte.f (b0:ByteArray) (a0:Int) (d0:Bool):Option (Int × ByteArray × Int × Bool):=if d0=true then(some (0,b0,a0,true)) else(if a0≥(b0.size:Int) then(some (0,b0,a0,true)) else(if 0≤(wrap64 ((wrap64 (a0+1)) - 1)) then(if(wrap64 ((wrap64 (a0+1)) - 1))<(b0.size:Int) then(some (wrap64 (bt b0 (wrap64 ((wrap64 (a0+1)) - 1))),b0,wrap64 (a0+1),d0)) else(none)) else(none)))
theorem impl_reader_byte.calls (g:Nat) (e0:ByteArray) (g0:Int) (n0:Bool) (r1:Int) (r2:ByteArray) (r3:Int) (r4:Bool) (w0 w:World) (hI:IsS123 w0 w g e0 g0 n0) (hB:Below w0.heap.size w0 w) (h:impl_reader_byte.f e0 g0 n0=some (r1,r2,r3,r4)):
  Calls Tryz.prog 86 #[.pointer (some ⟨g,0,none⟩)] w fun e w'=>e= .returned (.int .i64 r1)∧IsS123 w0 w' g r2 r3 r4∧Below w0.heap.size w0 w'∧KeepBut w w' g none:=by
 have h0:=Aside0.mk hI
 have HK:=mk_ (KeepBut.refl w g none)
 have HL:=Aside0.mk hB.size
 clear hI
 have V0:=Aside0.mk hB.size
 have HB:=Aside0.mk hB
 clear hB
 have H:=h
 unfold impl_reader_byte.f at H
 clear h
 by_cases c2:n0=true
 ·subst c2
  rw [if_pos rfl] at H
  simp only [Option.some.injEq,Prod.mk.injEq] at H
  obtain⟨rfl,rfl,rfl,rfl⟩:=H
  obtain⟨b0,y0⟩:=h0.out
  have A0:=cellS123_0 b0
  have B0:=cellS123_1 b0
  have C0:=cellS123_2 b0
  have F0:=blk_frozen b0 0
  have G0:=blk_frozen b0 1
  have H0:=blk_frozen b0 2
  clear b0 y0
  go_enter Tryz.func86,Tryz.ntmps86
  go_wp2
  repeat(go_quiet (fail);try go_wp2)
  go_ret
  exact⟨er_,IsS123.ii_ h0,bwi_ HB (IsS123.ge h0.out),kb_ HK⟩
 replace c2:=Bool.eq_false_iff.mpr c2
 subst c2
 rw [if_neg (show ¬(false=true) by decide)] at H
 by_cases c4:g0≥(e0.size:Int)
 ·rw [if_pos c4] at H
  have I0:=decide_eq_true c4
  clear c4
  simp only [Option.some.injEq,Prod.mk.injEq] at H
  obtain⟨rfl,rfl,rfl,rfl⟩:=H
  obtain⟨d0,J0⟩:=h0.out
  have K0:=cellS123_0 d0
  have L0:=cellS123_1 d0
  have M0:=cellS123_2 d0
  have N0:=blk_frozen d0 0
  have O0:=blk_frozen d0 1
  have P0:=blk_frozen d0 2
  clear d0 J0
  go_enter Tryz.func86,Tryz.ntmps86
  go_wp2
  repeat(go_quiet (fail);try go_wp2)
  go_ret
  exact⟨er_,IsS123.ii_ h0,bwi_ HB (IsS123.ge h0.out),kb_ HK⟩
 rw [if_neg c4] at H
 have I0:=decide_eq_false c4
 clear c4
 obtain⟨p0,m0⟩:∃j_:Int,(wrap64 ((wrap64 (g0+1)) - 1))=j_:=⟨_,rfl⟩
 (first|rw [m0] at H|simp only [m0] at H)
 have Q0:(IntKind.i64.wrap ((wrap64 (g0+1)) - 1))=p0:=(i64_w _).trans m0
 obtain⟨c7,H⟩:=gd_ H
 have R0:=decide_eq_true c7
 clear c7
 obtain⟨c8,H⟩:=gd_ H
 have U0:=decide_eq_true c8
 clear c8
 simp only [Option.some.injEq,Prod.mk.injEq] at H
 obtain⟨rfl,rfl,rfl,rfl⟩:=H
 obtain⟨a0,o0⟩:=h0.out
 have q0:=cellS123_0 a0
 have r0:=cellS123_1 a0
 have s0:=cellS123_2 a0
 have t0:=blk_frozen a0 0
 have v0:=blk_frozen a0 1
 have x0:=blk_frozen a0 2
 clear a0 o0
 have p9:0≤((p0):Int):=od_
 have q9:(p0)<(e0.size:Int):=od_
 have W0:=bt_at e0 (p0)
 replace p9:=eq_true p9
 replace q9:=eq_true q9
 go_enter Tryz.func86,Tryz.ntmps86
 go_wp2
 repeat(go_quiet (fail);try go_wp2)
 go_ret
 exact⟨by first|rfl|(simp [errW_none,errW_some] <;> rfl)|(simp only [←m0];first|rfl|(simp [errW_none,errW_some] <;> rfl))|(simp [*,errW_none,errW_some] <;> rfl),IsS123.ii_ h0,bwi_ HB (IsS123.ge h0.out),kb_ HK⟩
def impl_reader_num.f (k:Nat) (a0:ByteArray) (b0:Int) (d0:Bool):Option (Int × ByteArray × Int × Bool):=(impl_ReadVar.f k a0 b0).bind fun t=>(if d0=true then(some (0,a0,b0,true)) else(if t.2.2=true then(some (t.1,a0,t.2.1,d0)) else(some (0,a0,b0,true))))
theorem impl_reader_num.calls (k:Nat) (g:Nat) (a0:ByteArray) (b0:Int) (m0:Bool) (r1:Int) (r2:ByteArray) (r3:Int) (r4:Bool) (w0 w:World) (hI:IsS123 w0 w g a0 b0 m0) (hB:Below w0.heap.size w0 w) (h:impl_reader_num.f k a0 b0 m0=some (r1,r2,r3,r4)):
  Calls Tryz.prog 87 #[.pointer (some ⟨g,0,none⟩)] w fun e w'=>e= .returned (.int .i64 r1)∧IsS123 w0 w' g r2 r3 r4∧Below w0.heap.size w0 w'∧KeepBut w w' g none:=by
 obtain⟨⟨n,nx,ok⟩,o0,hr⟩:=Option.bind_eq_some_iff.mp h
 clear h
 have HT:=Aside0.mk o0
 clear o0
 have HI:=Aside0.mk hI
 have hlt:g<w.heap.size:=blk_lt hI.1
 have c0:w.cell? ⟨g,0,none⟩=some (.string a0):=(blk_cell hI.1 0).trans rfl
 have c1:w.cell? ⟨g,1,none⟩=some (.int .i64 b0):=(blk_cell hI.1 1).trans rfl
 clear hI
 have HB:=Aside0.mk hB
 clear hB
 cases m0 with
 |true=>
  obtain⟨rfl,rfl,rfl,rfl⟩:0=r1∧a0=r2∧b0=r3∧true=r4:=by simpa using hr
  clear hr
  go_enter Tryz.func87,Tryz.ntmps87
  go_wp2_with fail
  go_region_held3 (fun w'=>w'.cell? ⟨g,0,none⟩=some (.string a0)∧w'.cell? ⟨g,1,none⟩=some (.int .i64 b0)∧g<w'.heap.size) (first|go_keep|exact⟨(hb'.cell (p:=⟨g,0,none⟩) hlt).trans c0,(hb'.cell (p:=⟨g,1,none⟩) hlt).trans c1,Nat.lt_of_lt_of_le hlt hb'.size⟩) (first|(go_at_call 85;refine(impl_ReadVar.calls k a0 b0 n nx ok _ HT.out).mono ?_;rintro e w' ⟨rfl,hb'⟩))
  have g0:=mk_ ((IsS123.drew HI.out).below hb')
  have h0:=mk_ ((keep_drew (KeepBut.refl w g none)).trans (KeepBut.of_below hb' g none) (.inl rfl))
  have n0:=mk_ (below_then (below_drew1 HB.out) (below_drew1 HB.out).size hb')
  clear c0 c1 HI HB hb'
  obtain⟨HG,hg_⟩:=g0.out
  have d0:=cellS123_0 HG
  have d1:=cellS123_1 HG
  have d2:=cellS123_2 HG
  have e0:=blk_frozen HG 0
  have e1:=blk_frozen HG 1
  have e2:=blk_frozen HG 2
  clear HG hg_
  go_wp2
  go_ret
  exact⟨rfl,IsS123.ii_ g0,bwi_ n0 (IsS123.ge g0.out),by repeat(first|(with_reducible first|exact h0.out|apply KeepBut.set_|apply keep_drewN|apply keep_drew|apply keep_alloc)|exact h0.out)⟩
 |false=>
  cases ok with
  |true=>
   obtain⟨rfl,rfl,rfl,rfl⟩:n=r1∧a0=r2∧nx=r3∧false=r4:=by simpa using hr
   clear hr
   go_enter Tryz.func87,Tryz.ntmps87
   go_wp2_with fail
   go_region_held3 (fun w'=>w'.cell? ⟨g,0,none⟩=some (.string a0)∧w'.cell? ⟨g,1,none⟩=some (.int .i64 b0)∧g<w'.heap.size) (first|go_keep|exact⟨(hb'.cell (p:=⟨g,0,none⟩) hlt).trans c0,(hb'.cell (p:=⟨g,1,none⟩) hlt).trans c1,Nat.lt_of_lt_of_le hlt hb'.size⟩) (first|(go_at_call 85;refine(impl_ReadVar.calls k a0 b0 n nx true _ HT.out).mono ?_;rintro e w' ⟨rfl,hb'⟩))
   have g0:=mk_ ((IsS123.drew HI.out).below hb')
   have h0:=mk_ ((keep_drew (KeepBut.refl w g none)).trans (KeepBut.of_below hb' g none) (.inl rfl))
   have n0:=mk_ (below_then (below_drew1 HB.out) (below_drew1 HB.out).size hb')
   clear c0 c1 HI HB hb'
   obtain⟨HG,hg_⟩:=g0.out
   have d0:=cellS123_0 HG
   have d1:=cellS123_1 HG
   have d2:=cellS123_2 HG
   have e0:=blk_frozen HG 0
   have e1:=blk_frozen HG 1
   have e2:=blk_frozen HG 2
   clear HG hg_
   go_wp2
   go_ret
   exact⟨rfl,IsS123.ii_ g0,bwi_ n0 (IsS123.ge g0.out),by repeat(first|(with_reducible first|exact h0.out|apply KeepBut.set_|apply keep_drewN|apply keep_drew|apply keep_alloc)|exact h0.out)⟩
  |false=>
   obtain⟨rfl,rfl,rfl,rfl⟩:0=r1∧a0=r2∧b0=r3∧true=r4:=by simpa using hr
   clear hr
   go_enter Tryz.func87,Tryz.ntmps87
   go_wp2_with fail
   go_region_held3 (fun w'=>w'.cell? ⟨g,0,none⟩=some (.string a0)∧w'.cell? ⟨g,1,none⟩=some (.int .i64 b0)∧g<w'.heap.size) (first|go_keep|exact⟨(hb'.cell (p:=⟨g,0,none⟩) hlt).trans c0,(hb'.cell (p:=⟨g,1,none⟩) hlt).trans c1,Nat.lt_of_lt_of_le hlt hb'.size⟩) (first|(go_at_call 85;refine(impl_ReadVar.calls k a0 b0 n nx false _ HT.out).mono ?_;rintro e w' ⟨rfl,hb'⟩))
   have g0:=mk_ ((IsS123.drew HI.out).below hb')
   have h0:=mk_ ((keep_drew (KeepBut.refl w g none)).trans (KeepBut.of_below hb' g none) (.inl rfl))
   have n0:=mk_ (below_then (below_drew1 HB.out) (below_drew1 HB.out).size hb')
   clear c0 c1 HI HB hb'
   obtain⟨HG,hg_⟩:=g0.out
   have d0:=cellS123_0 HG
   have d1:=cellS123_1 HG
   have d2:=cellS123_2 HG
   have e0:=blk_frozen HG 0
   have e1:=blk_frozen HG 1
   have e2:=blk_frozen HG 2
   clear HG hg_
   go_wp2
   go_ret
   exact⟨rfl,IsS123.ii_ g0,bwi_ n0 (IsS123.ge g0.out),by repeat(first|(with_reducible first|exact h0.out|apply KeepBut.set_|apply keep_drewN|apply keep_drew|apply keep_alloc)|exact h0.out)⟩
def impl_reader_done.f (a0:ByteArray) (b0:Int) (d0:Bool):Option (Bool × ByteArray × Int × Bool):=if d0=true then(some (false,a0,b0,d0)) else(some ((b0 == (a0.size:Int)),a0,b0,d0))
theorem impl_reader_done.calls (g:Nat) (g0:ByteArray) (h0:Int) (d0:Bool) (r1:Bool) (r2:ByteArray) (r3:Int) (r4:Bool) (w0 w:World) (hI:IsS123 w0 w g g0 h0 d0) (hB:Below w0.heap.size w0 w) (h:impl_reader_done.f g0 h0 d0=some (r1,r2,r3,r4)):
  Calls Tryz.prog 88 #[.pointer (some ⟨g,0,none⟩)] w fun e w'=>e= .returned (.bool r1)∧IsS123 w0 w' g r2 r3 r4∧Below w0.heap.size w0 w'∧KeepBut w w' g none:=by
 have e0:=Aside0.mk hI
 have HK:=mk_ (KeepBut.refl w g none)
 have HL:=Aside0.mk hB.size
 clear hI
 have F0:=Aside0.mk hB.size
 have HB:=Aside0.mk hB
 clear hB
 have H:=h
 unfold impl_reader_done.f at H
 clear h
 by_cases c2:d0=true
 ·subst c2
  rw [if_pos rfl] at H
  simp only [Option.some.injEq,Prod.mk.injEq] at H
  obtain⟨rfl,rfl,rfl,rfl⟩:=H
  obtain⟨a0,m0⟩:=e0.out
  have n0:=cellS123_0 a0
  have o0:=cellS123_1 a0
  have p0:=cellS123_2 a0
  have q0:=blk_frozen a0 0
  have r0:=blk_frozen a0 1
  have s0:=blk_frozen a0 2
  clear a0 m0
  go_enter Tryz.func88,Tryz.ntmps88
  go_wp2
  repeat(go_quiet (fail);try go_wp2)
  go_ret
  exact⟨er_,IsS123.ii_ e0,bwi_ HB (IsS123.ge e0.out),kb_ HK⟩
 replace c2:=Bool.eq_false_iff.mpr c2
 subst c2
 rw [if_neg (show ¬(false=true) by decide)] at H
 simp only [Option.some.injEq,Prod.mk.injEq] at H
 obtain⟨rfl,rfl,rfl,rfl⟩:=H
 obtain⟨b0,t0⟩:=e0.out
 have v0:=cellS123_0 b0
 have x0:=cellS123_1 b0
 have y0:=cellS123_2 b0
 have A0:=blk_frozen b0 0
 have B0:=blk_frozen b0 1
 have C0:=blk_frozen b0 2
 clear b0 t0
 go_enter Tryz.func88,Tryz.ntmps88
 go_wp2
 repeat(go_quiet (fail);try go_wp2)
 go_ret
 exact⟨er_,IsS123.ii_ e0,bwi_ HB (IsS123.ge e0.out),kb_ HK⟩
def impl_head.f (k:Nat) (a0:ByteArray) (a1:Int):Option (Int × Int × Bool):=(impl_reader_byte.f a0 0 false).bind fun e0=>((impl_reader_num.f k e0.2.1 e0.2.2.1 e0.2.2.2).bind fun b0=>((impl_reader_num.f k b0.2.1 b0.2.2.1 b0.2.2.2).bind fun d0=>((impl_reader_done.f d0.2.1 d0.2.2.1 d0.2.2.2).bind fun g0=>(if g0.1=true then(some (b0.1,d0.1,(e0.1 == (wrap64 (a1))))) else(some (b0.1,d0.1,false))))))
theorem impl_head.calls (k:Nat) (a0:ByteArray) (a1:Int) (r1:Int) (r2:Int) (r3:Bool) (w:World) (h:impl_head.f k a0 a1=some (r1,r2,r3)):
  Calls Tryz.prog 57 #[.string a0,.int .u8 a1] w fun e w'=>e= .returned (.tuple #[.int .i64 r1,.int .i64 r2,.bool r3])∧Below w.heap.size w w':=by
 have G0:=Tryz.underlying123
 have HB:=mk_ (Below.refl w.heap.size w)
 have H:=h
 unfold impl_head.f at H
 clear h
 obtain⟨⟨t0,g0,h0,m0⟩,A3,H⟩:=ob_ H
 try dsimp only at H
 obtain⟨⟨v0,n0,o0,p0⟩,A4,H⟩:=ob_ H
 try dsimp only at H
 obtain⟨⟨x0,q0,r0,s0⟩,A5,H⟩:=ob_ H
 try dsimp only at H
 obtain⟨⟨F0,y0,A0,B0⟩,A6,H⟩:=ob_ H
 try dsimp only at H
 by_cases c7:F0=true
 ·subst c7
  rw [if_pos rfl] at H
  simp only [Option.some.injEq,Prod.mk.injEq] at H
  obtain⟨rfl,rfl,rfl⟩:=H
  go_enter Tryz.func57,Tryz.ntmps57
  go_wp2_with (first|((with_reducible refine gn_ 13 rfl ?_);refine bx_ (N:=13) (cs:=#[.string a0,.int .i64 0,.bool false]) (t:=123) ?_;intro d0 hg w8 hbox hb;have e0:Aside0 (w.heap.size≤d0):=bz_ hg;have C0:=e0;have b0:=mk_ ((⟨hbox,(by rw [hg];exact(below_size (bw_ HB)):w.heap.size≤d0)⟩:IsS123 w w8 d0 a0 0 false));replace HB:=bs_ HB hb;clear hb hbox hg)|((with_reducible refine gc_ 86 rfl ?_);refine gm_ 15 Tryz.func86 (impl_reader_byte.calls d0 a0 0 false t0 g0 h0 m0 w _ ?side1 ?side2 A3.out) ?_;(case side1=>exact IsS123.ii_ b0);(case side2=>exact bwi_ HB (IsS123.ge b0.out));rintro w9 ⟨hi,hb,hk⟩;replace HB:=mk_ (hb);replace b0:=mk_ (hi);(try clear hb);(try clear hk);(try clear hi))|((with_reducible refine gc_ 87 rfl ?_);refine gm_ 17 Tryz.func87 (impl_reader_num.calls k d0 g0 h0 m0 v0 n0 o0 p0 w _ ?side1 ?side2 A4.out) ?_;(case side1=>exact IsS123.ii_ b0);(case side2=>exact bwi_ HB (IsS123.ge b0.out));rintro I0 ⟨hi,hb,hk⟩;replace HB:=mk_ (hb);replace b0:=mk_ (hi);(try clear hb);(try clear hk);(try clear hi))|((with_reducible refine gc_ 87 rfl ?_);refine gm_ 19 Tryz.func87 (impl_reader_num.calls k d0 n0 o0 p0 x0 q0 r0 s0 w _ ?side1 ?side2 A5.out) ?_;(case side1=>exact IsS123.ii_ b0);(case side2=>exact bwi_ HB (IsS123.ge b0.out));rintro J0 ⟨hi,hb,hk⟩;replace HB:=mk_ (hb);replace b0:=mk_ (hi);(try clear hb);(try clear hk);(try clear hi))|((with_reducible refine gc_ 88 rfl ?_);refine gm_ 23 Tryz.func88 (impl_reader_done.calls d0 q0 r0 s0 true y0 A0 B0 w _ ?side1 ?side2 A6.out) ?_;(case side1=>exact IsS123.ii_ b0);(case side2=>exact bwi_ HB (IsS123.ge b0.out));rintro K0 ⟨hi,hb,hk⟩;replace HB:=mk_ (hb);replace b0:=mk_ (hi);(try clear hb);(try clear hk);(try clear hi)))
  go_ret3
  exact⟨er_,bwi_ HB (IsS123.ge b0.out)⟩
 replace c7:=Bool.eq_false_iff.mpr c7
 subst c7
 rw [if_neg (show ¬(false=true) by decide)] at H
 simp only [Option.some.injEq,Prod.mk.injEq] at H
 obtain⟨rfl,rfl,rfl⟩:=H
 go_enter Tryz.func57,Tryz.ntmps57
 go_wp2_with (first|((with_reducible refine gn_ 13 rfl ?_);refine bx_ (N:=13) (cs:=#[.string a0,.int .i64 0,.bool false]) (t:=123) ?_;intro d0 hg H0 hbox hb;have e0:Aside0 (w.heap.size≤d0):=bz_ hg;have C0:=e0;have b0:=mk_ ((⟨hbox,(by rw [hg];exact(below_size (bw_ HB)):w.heap.size≤d0)⟩:IsS123 w H0 d0 a0 0 false));replace HB:=bs_ HB hb;clear hb hbox hg)|((with_reducible refine gc_ 86 rfl ?_);refine gm_ 15 Tryz.func86 (impl_reader_byte.calls d0 a0 0 false t0 g0 h0 m0 w _ ?side1 ?side2 A3.out) ?_;(case side1=>exact IsS123.ii_ b0);(case side2=>exact bwi_ HB (IsS123.ge b0.out));rintro L0 ⟨hi,hb,hk⟩;replace HB:=mk_ (hb);replace b0:=mk_ (hi);(try clear hb);(try clear hk);(try clear hi))|((with_reducible refine gc_ 87 rfl ?_);refine gm_ 17 Tryz.func87 (impl_reader_num.calls k d0 g0 h0 m0 v0 n0 o0 p0 w _ ?side1 ?side2 A4.out) ?_;(case side1=>exact IsS123.ii_ b0);(case side2=>exact bwi_ HB (IsS123.ge b0.out));rintro M0 ⟨hi,hb,hk⟩;replace HB:=mk_ (hb);replace b0:=mk_ (hi);(try clear hb);(try clear hk);(try clear hi))|((with_reducible refine gc_ 87 rfl ?_);refine gm_ 19 Tryz.func87 (impl_reader_num.calls k d0 n0 o0 p0 x0 q0 r0 s0 w _ ?side1 ?side2 A5.out) ?_;(case side1=>exact IsS123.ii_ b0);(case side2=>exact bwi_ HB (IsS123.ge b0.out));rintro N0 ⟨hi,hb,hk⟩;replace HB:=mk_ (hb);replace b0:=mk_ (hi);(try clear hb);(try clear hk);(try clear hi))|((with_reducible refine gc_ 88 rfl ?_);refine gm_ 23 Tryz.func88 (impl_reader_done.calls d0 q0 r0 s0 false y0 A0 B0 w _ ?side1 ?side2 A6.out) ?_;(case side1=>exact IsS123.ii_ b0);(case side2=>exact bwi_ HB (IsS123.ge b0.out));rintro O0 ⟨hi,hb,hk⟩;replace HB:=mk_ (hb);replace b0:=mk_ (hi);(try clear hb);(try clear hk);(try clear hi)))
 go_ret3
 exact⟨er_,bwi_ HB (IsS123.ge b0.out)⟩
def impl_ConfOk.l0:Nat→List Int→List Int→Int→Int→Option (Bool)
 |0,_,_,_,_=>none
 |k+1,x0,x5,x6,x7=>if x7<x6 then(if 0≤x7 then(if x7<(x5.length:Int) then((impl_within.f (rd x5 x7) 1 4).bind fun a0=>(if a0=true then(if x7>0 then(if 0≤(wrap64 (x7 - 1)) then(if(wrap64 (x7 - 1))<(x0.length:Int) then(if(rd x0 (wrap64 (x7 - 1)))≥(rd x5 x7) then(some false) else(impl_ConfOk.l0 k x0 x5 x6 (wrap64 (x7+1)))) else(none)) else(none)) else(impl_ConfOk.l0 k x0 x5 x6 (wrap64 (x7+1)))) else(some false))) else(none)) else(none)) else((impl_within.f (x0.length:Int) 1 4).bind fun b0=>(some b0))
def impl_ConfOk.f (k:Nat) (l0:List Int):Option (Bool):=impl_ConfOk.l0 k l0 l0 (l0.length:Int) 0
theorem impl_ConfOk.calls (k:Nat) (A0:Option Addr) (c0:Nat) (l0:List Int) (r:Bool) (w:World) (F0:Kd.C (Kd.int .i64) w A0 l0.length l0) (G0:l0.length≤c0) (h:impl_ConfOk.f k l0=some r):
  Calls Tryz.prog 126 #[.slice A0 l0.length c0] w fun e w'=>e= .returned (.bool r)∧Drawn0 w w':=by
 have t0:=Aside0.mk F0
 have P0:=Aside0.mk G0
 clear F0 G0
 have H:=h
 unfold impl_ConfOk.f at H
 clear h
 have H':=Aside0.mk H
 clear H
 go_enter Tryz.func126,Tryz.ntmps126
 go_wp2
 go_loopg [7] k (fun kq v7 w'=>∃(a0:Int),v7= .int .i64 a0∧Aside0 (impl_ConfOk.l0 kq l0 l0 (l0.length:Int) a0=some r)∧Aside0 (kq≤k)∧Drawn0 w w')
 case atStart=>exact⟨(0),rl_,H',⟨Nat.le_refl _⟩,by repeat(first|exact Drawn0.refl _|apply Drawn0.step)⟩
 case round=>
  clear H'
  obtain⟨a0,rfl,HA,y0,⟨m1,rfl⟩⟩:=hrel
  cases gk with
  |zero=>exact absurd HA.out (by simp [impl_ConfOk.l0])
  |succ k1=>
   have H:=HA.out
   clear HA
   simp only [impl_ConfOk.l0] at H
   refine ic_ H ?_ ?_ <;> clear H <;> intro J0 H
   ·obtain⟨B0,K0,H⟩:=ob_ H
    try dsimp only at H
    obtain rfl:=Option.some.inj H
    go_wp2_with (first|((with_reducible refine gc_ 53 rfl ?_);refine gm_ 31 Tryz.func53 (impl_within.calls (l0.length:Int) 1 4 B0 _ K0.out) ?_;rintro w' ⟨nd,rfl⟩))
    go_ret
    exact⟨by first|rfl|(simp;done)|(simp [*];done)|(simp [bne];done),by repeat(first|exact Drawn0.refl _|apply Drawn0.step)⟩
   obtain⟨c3,H⟩:=gd_ H
   have L0:=decide_eq_true c3
   clear c3
   obtain⟨c4,H⟩:=gd_ H
   have M0:=decide_eq_true c4
   clear c4
   obtain⟨C0,A5,H⟩:=ob_ H
   try dsimp only at H
   by_cases c6:C0=true
   rotate_left
   ·replace c6:=Bool.eq_false_iff.mpr c6
    subst c6
    rw [if_neg (show ¬(false=true) by decide)] at H
    obtain rfl:=Option.some.inj H
    have b0:0≤(a0:Int):=od_
    have d0:a0<(l0.length:Int):=od_
    obtain⟨g0,h0,e0⟩:=Kd.at_int t0.out a0 b0 d0
    cases h0
    replace b0:=eq_true b0
    replace d0:=eq_true d0
    go_wp2_with (first|((with_reducible refine gc_ 53 rfl ?_);refine gm_ 13 Tryz.func53 (impl_within.calls (rd l0 a0) 1 4 false _ A5.out) ?_;rintro w' ⟨nd,rfl⟩))
    go_ret
    exact⟨by first|rfl|(simp;done)|(simp [*];done)|(simp [bne];done),by repeat(first|exact Drawn0.refl _|apply Drawn0.step)⟩
   subst c6
   rw [if_pos rfl] at H
   refine ig_ H ?_ ?_ <;> clear H <;> intro N0 H
   ·have H':=Aside0.mk H
    clear H
    have b0:0≤(a0:Int):=od_
    have d0:a0<(l0.length:Int):=od_
    obtain⟨g0,h0,e0⟩:=Kd.at_int t0.out a0 b0 d0
    cases h0
    replace b0:=eq_true b0
    replace d0:=eq_true d0
    go_wp2_with (first|((with_reducible refine gc_ 53 rfl ?_);refine gm_ 13 Tryz.func53 (impl_within.calls (rd l0 a0) 1 4 true _ A5.out) ?_;rintro w' ⟨nd,rfl⟩))
    go_roundg k1
    case measure=>have:=y0.out;omega
    case rel=>exact⟨(wrap64 (a0+1)),rl_,H',⟨by have:=y0.out;omega⟩,by repeat(first|exact Drawn0.refl _|apply Drawn0.step)⟩
   obtain⟨r0,o0⟩:∃j_:Int,(wrap64 (a0 - 1))=j_:=⟨_,rfl⟩
   (first|rw [o0] at H|simp only [o0] at H)
   (try rw [o0] at A5)
   have H0:(IntKind.i64.wrap (a0 - 1))=r0:=(i64_w _).trans o0
   obtain⟨c9,H⟩:=gd_ H
   have O0:=decide_eq_true c9
   clear c9
   obtain⟨c10,H⟩:=gd_ H
   have I0:=decide_eq_true c10
   clear c10
   by_cases v0:(rd l0 (r0))≥(rd l0 a0)
   ·rw [if_pos v0] at H
    have x0:=decide_eq_true v0
    clear v0
    obtain rfl:=Option.some.inj H
    have b0:0≤(a0:Int):=od_
    have d0:a0<(l0.length:Int):=od_
    obtain⟨g0,h0,e0⟩:=Kd.at_int t0.out a0 b0 d0
    cases h0
    replace b0:=eq_true b0
    replace d0:=eq_true d0
    go_wp2_with (first|((with_reducible refine gc_ 53 rfl ?_);refine gm_ 13 Tryz.func53 (impl_within.calls (rd l0 a0) 1 4 true _ A5.out) ?_;rintro w' ⟨nd,rfl⟩;have m0:0≤((r0):Int):=od_;have n0:(r0)<(l0.length:Int):=od_;obtain⟨p0,s0,q0⟩:=Kd.at_int t0.out (r0) m0 n0;obtain rfl:g0=p0:=(by injection s0);replace m0:=eq_true m0;replace n0:=eq_true n0))
    go_ret
    exact⟨by first|rfl|(simp;done)|(simp only [←o0] <;> (first|rfl|simp))|(simp [*];done),by repeat(first|exact Drawn0.refl _|apply Drawn0.step)⟩
   rw [if_neg v0] at H
   have x0:=decide_eq_false v0
   clear v0
   have H':=Aside0.mk H
   clear H
   have b0:0≤(a0:Int):=od_
   have d0:a0<(l0.length:Int):=od_
   obtain⟨g0,h0,e0⟩:=Kd.at_int t0.out a0 b0 d0
   cases h0
   replace b0:=eq_true b0
   replace d0:=eq_true d0
   go_wp2_with (first|((with_reducible refine gc_ 53 rfl ?_);refine gm_ 13 Tryz.func53 (impl_within.calls (rd l0 a0) 1 4 true _ A5.out) ?_;rintro w' ⟨nd,rfl⟩;have m0:0≤((r0):Int):=od_;have n0:(r0)<(l0.length:Int):=od_;obtain⟨p0,s0,q0⟩:=Kd.at_int t0.out (r0) m0 n0;obtain rfl:g0=p0:=(by injection s0);replace m0:=eq_true m0;replace n0:=eq_true n0))
   go_roundg k1
   case measure=>have:=y0.out;omega
   case rel=>exact⟨(wrap64 (a0+1)),rl_,H',⟨by have:=y0.out;omega⟩,by repeat(first|exact Drawn0.refl _|apply Drawn0.step)⟩
end Go.Proofs.YtolakamimfhcjaaGreatDoor.QFnExactOpenJournal
