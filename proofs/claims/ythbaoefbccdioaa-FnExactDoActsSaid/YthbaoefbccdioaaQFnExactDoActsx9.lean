/- Written by this session's own program (wip/tpl/pp.py): what the law's functions come to, and that the machine's calls do just that. -/
import Derived.Test.YthbaoefbccdioaaQFnExactDoActsx0
namespace Go.Proofs.Ythbaoefbccdioaa.QFnExactDoActs
open Go.RowKit Go.Proofs.YthbaoefbccdioaaW.PrintWords Go.Proofs.YthbaoefbccdioaaW.PrintLast Go.Proofs.YthbaoefbccdioaaW.PrintMore
attribute [local go_sem] Go.Proofs.Ythbaoefbccdioaa.Sem.string_geq Go.Proofs.Ythbaoefbccdioaa.Sem.string_leq Go.Proofs.Ythbaoefbccdioaa.Sem.string_gtr
attribute [local go_sem] max2_int min2_int max_two min_two max_three min_three max_four min_four   -- for this text's walks alone
set_option linter.unusedVariables false
set_option linter.unusedSimpArgs false

/-! ### laws_toAct: function 12 -/
def laws_toAct.f (a0_0 : Int) (a0_1 : ByteArray) (a0_2 : ByteArray) (a0_3 : ByteArray) : Option (Int × ByteArray × ByteArray × ByteArray) := some (a0_0, a0_1, a0_2, a0_3)
set_option maxHeartbeats 8000000 in
set_option maxRecDepth 100000 in
theorem laws_toAct.calls (a0_0 : Int) (a0_1 : ByteArray) (a0_2 : ByteArray) (a0_3 : ByteArray) (r1 : Int) (r2 : ByteArray) (r3 : ByteArray) (r4 : ByteArray) (w : World) (h : laws_toAct.f a0_0 a0_1 a0_2 a0_3 = some (r1, r2, r3, r4)) :
  Calls Try.prog 12 #[.agg #[.int .i64 a0_0, .string a0_1, .string a0_2, .string a0_3]] w fun e w' => e = .returned (.agg #[.int .i64 r1, .string r2, .string r3, .string r4]) ∧ Below w.heap.size w w' := by
 have hu26 := Try.underlying26
 have hu35 := Try.underlying35
 have HB := mk_ (Below.refl w.heap.size w)
 have H : (some (a0_0, a0_1, a0_2, a0_3)) = some (r1, r2, r3, r4) := h
 clear h
 simp only [Option.some.injEq, Prod.mk.injEq] at H
 obtain ⟨rfl, rfl, rfl, rfl⟩ := H
 go_enter Try.func12, Try.ntmps12
 go_wp2_with (first | ((with_reducible refine gate_dst (N := 1) rfl ?_); refine bx_ (N := 1) (cs := #[.int .i64 a0_0, .string a0_1, .string a0_2, .string a0_3]) (t := 26) ?_; intro gb230 hg w2 hbox hb; have BK230 := mk_ (hbox); have GW230 : Aside0 (w.heap.size ≤ gb230) := bz_ hg; have GE230 := GW230; replace HB := bs_ HB hb; clear hb hbox hg) | ((with_reducible refine gate_dst (N := 2) rfl ?_); refine bx_ (N := 2) (cs := #[.int .i64 0, .string (⟨#[]⟩ : ByteArray), .string (⟨#[]⟩ : ByteArray), .string (⟨#[]⟩ : ByteArray)]) (t := 35) ?_; intro gb231 hg w3 hbox hb; have BK231 := mk_ (hbox); have GW231 : Aside0 (w.heap.size ≤ gb231) := bz_ hg; have GE231 := GW231; have NB230_231 := bl_ BK230 hg; have NB231_230 := bg_ BK230 hg; replace BK230 := bb_ BK230 hb; replace HB := bs_ HB hb; clear hb hbox hg) | ((with_reducible refine gate_dst (N := 3) rfl ?_); refine bx_ (N := 3) (cs := #[.int .i64 0, .string (⟨#[]⟩ : ByteArray), .string (⟨#[]⟩ : ByteArray), .string (⟨#[]⟩ : ByteArray)]) (t := 35) ?_; intro gb232 hg w4 hbox hb; have BK232 := mk_ (hbox); have GW232 : Aside0 (w.heap.size ≤ gb232) := bz_ hg; have GE232 := GW232; have NB230_232 := bl_ BK230 hg; have NB232_230 := bg_ BK230 hg; have NB231_232 := bl_ BK231 hg; have NB232_231 := bg_ BK231 hg; replace BK230 := bb_ BK230 hb; replace BK231 := bb_ BK231 hb; replace HB := bs_ HB hb; clear hb hbox hg; have hnb5 := NB230_231.out; have hnc5 := NB231_230.out; have hnb6 := NB230_232.out; have hnc6 := NB232_230.out; obtain ⟨hcz7_0, hcz7_1, hcz7_2, hcz7_3, hfz7_0, hfz7_1, hfz7_2, hfz7_3⟩ := b4_ BK230; have hnb8 := NB232_231.out; have hnc8 := NB231_232.out; obtain ⟨hcz9_0, hcz9_1, hcz9_2, hcz9_3, hfz9_0, hfz9_1, hfz9_2, hfz9_3⟩ := b4_ BK232; obtain ⟨hcz10_0, hcz10_1, hcz10_2, hcz10_3, hfz10_0, hfz10_1, hfz10_2, hfz10_3⟩ := b4_ BK231))
 refine bodyPost_ret (results_cell_row rfl _ _ gb231 35 #[.int .i64 a0_0, .string a0_1, .string a0_2, .string a0_3] (0, 0) _ rfl bu_ Try.underlying35 rfl (by kernel_rfl)) rfl ?_
 exact ⟨er_, bw_ HB⟩

/-! ### laws_toActS: function 19 -/
def laws_toActS.l0 : Nat → List (S26) → List (S35) → Int → Option ((List (S35)))
 | 0, _, _, _ => none
 | k + 1, x0, x3, x4 => if x4 < (x0.length : Int) then (if 0 ≤ x4 then ((laws_toAct.f ((rd_T26 x0 x4).f0) ((rd_T26 x0 x4).f1) ((rd_T26 x0 x4).f2) ((rd_T26 x0 x4).f3)).bind fun bt237 => (if x4 < (x3.length : Int) then (laws_toActS.l0 k x0 (x3.set (x4 : Int).toNat (⟨bt237.1, bt237.2.1, bt237.2.2.1, bt237.2.2.2⟩ : S35)) (wrap64 (x4 + 1))) else (none))) else (none)) else (some x3)
def laws_toActS.f (k : Nat) (l0 : List (S26)) : Option ((List (S35))) := if 0 ≤ (l0.length : Int) then (if ((l0.length : Int) : Int).toNat ≤ 5026338869833 then (laws_toActS.l0 k l0 (List.replicate ((l0.length : Int) : Int).toNat z35) 0) else (none)) else (none)
theorem laws_toActS.mono_l : ∀ k, (∀ y0 y1 y2, LeO (laws_toActS.l0 k y0 y1 y2) (laws_toActS.l0 (k + 1) y0 y1 y2))
 | 0 => fun _ _ _ r h => by simp [laws_toActS.l0] at h
 | k + 1 => by
  have ih0 := laws_toActS.mono_l k
  ·intro y0 y1 y2
   unfold laws_toActS.l0
   repeat' first
   | (with_reducible exact ih0 _ _ _)
   | (with_reducible exact LeO.refl _)
   | (with_reducible exact LeO.none _)
   | (with_reducible refine LeO.ite ?_ ?_)
   | (with_reducible refine LeO.bind ?_ (fun _ => ?_))
   | exact ih0 _ _ _
   | exact LeO.none _
   | refine LeO.ite ?_ ?_
   | refine LeO.bind ?_ (fun _ => ?_)
theorem laws_toActS.mono : ∀ a0 k, LeO (laws_toActS.f k a0) (laws_toActS.f (k + 1) a0) := by
 intro a0 k
 have ih0 := laws_toActS.mono_l k
 unfold laws_toActS.f
 repeat' first
   | (with_reducible exact ih0 _ _ _)
   | (with_reducible exact LeO.refl _)
   | (with_reducible exact LeO.none _)
   | (with_reducible refine LeO.ite ?_ ?_)
   | (with_reducible refine LeO.bind ?_ (fun _ => ?_))
   | exact ih0 _ _ _
   | exact LeO.none _
   | refine LeO.ite ?_ ?_
   | refine LeO.bind ?_ (fun _ => ?_)
set_option maxHeartbeats 8000000 in
set_option maxRecDepth 100000 in
theorem laws_toActS.calls (k : Nat) (A0 : Option Addr) (c0 : Nat) (l0 : List (S26)) (r : List (S35)) (w : World) (hr0 : Kd.C k26 w A0 l0.length l0) (hc0 : l0.length ≤ c0) (h : laws_toActS.f k l0 = some r) :
  Calls Try.prog 19 #[.slice A0 l0.length c0] w fun e w' => ∃ v0_ : Value, e = .returned (v0_) ∧ Kd.R k35 35 w' w.heap.size (fun _ => True) v0_ r ∧ Below w.heap.size w w' := by
 have hu26 := Try.underlying26
 have hu35 := Try.underlying35
 have HR0 := Aside0.mk hr0
 have HC0 := Aside0.mk hc0
 clear hr0 hc0
 have HB := mk_ (Below.refl w.heap.size w)
 have H : (if 0 ≤ (l0.length : Int) then (if ((l0.length : Int) : Int).toNat ≤ 5026338869833 then (laws_toActS.l0 k l0 (List.replicate ((l0.length : Int) : Int).toNat z35) 0) else (none)) else (none)) = some r := h
 clear h
 by_cases c2 : 0 ≤ (l0.length : Int)
 ·rw [if_pos c2] at H
  have c2b0 := eq_true c2
  have c2b1 : decide (0 ≤ (l0.length : Int)) = true := decide_eq_true c2
  clear c2
  by_cases c3 : ((l0.length : Int) : Int).toNat ≤ 5026338869833
  ·rw [if_pos c3] at H
   have c3b0 := eq_true c3
   have c3b1 : decide (((l0.length : Int) : Int).toNat ≤ 5026338869833) = true := decide_eq_true c3
   clear c3
   obtain ⟨y233, hy233⟩ : ∃ y_ : List (S35), y_ = (List.replicate ((l0.length : Int) : Int).toNat z35) := ⟨_, rfl⟩
   replace H : (laws_toActS.l0 k l0 y233 0) = some r := by first | (rw [hy233]; with_reducible exact H) | (have H2_ := (Option.bind_some _ _).symm.trans H; rw [hy233]; with_reducible exact H2_) | (have H2_ := (Option.bind_some _ _).symm.trans H; with_reducible exact H2_) | with_reducible exact H | (rw [hy233]; exact H) | exact H
   have Ny233 := Aside0.mk hy233
   clear hy233
   have H' := Aside0.mk H
   clear H
   go_enter Try.func19, Try.ntmps19
   go_wp2_with (first | ((with_reducible refine gate_dst (N := 7) rfl ?_); refine Kd.R_make k35 _ 35 rfl (N := 7) rfl 44 _ _ rfl (l0.length : Int) rfl rfl Try.underlying44 (.agg #[(.int .i64 0), (.string ⟨#[]⟩), (.string ⟨#[]⟩), (.string ⟨#[]⟩)]) 56 info35 rfl (by decide) (by omega) z35 (ok := fun _ => True) (okp := fun _ => True) (k35_mkM _ _ _ z35 ) (fun _ hk => hk) trivial (od_) (Nat.le_trans (Nat.mul_le_mul_right _ (od_ : (l0.length : Int).toNat ≤ 5026338869833)) (by omega)) (Below.refl _ _) (Nat.le_refl _) ?_; intro v234 w4 ho5 hb hg_ hnew_; clear hg_ hnew_; (first | rw [← Ny233.out] at ho5 | (simp only [Int.reduceToNat] at ho5; rw [← Ny233.out] at ho5)); have HO235 := mk_ (Kd.R_lower ho5 (below_size (bw_ HB))); replace HB := bs_ HB hb; clear hb ho5))
   go_loopg [4] k (fun kq v4 w' => ∃ (x3_1 : List (S35)) (x4_1 : Int), v4 = .int .i64 x4_1 ∧ Aside0 (laws_toActS.l0 kq l0 x3_1 x4_1 = some r) ∧ Aside0 (kq ≤ k) ∧ Aside0 (Kd.R k35 35 w' w.heap.size (fun _ => True) v234 x3_1) ∧ Aside0 (Below w.heap.size w w'))
   case atStart => exact ⟨(y233), (0), (by first | rfl | (simp; done) | (simp [*]; done)), H', ⟨Nat.le_refl _⟩, ⟨by (with_reducible repeat (first | apply Kd.R_alloc | apply Kd.R_drewN | apply Kd.R_drew)); exact HO235.out⟩, ⟨bw_ HB⟩⟩
   case round =>
    clear H'
    try clear c1
    try clear c2
    try clear c2b0
    try clear c2b1
    try clear p2
    try clear c3
    try clear c3b0
    try clear c3b1
    obtain ⟨x3_1, x4_1, rfl, HA, HK1, HO_3, HB⟩ := hrel
    cases gk with
    | zero => exact absurd HA.out (by simp [laws_toActS.l0])
    | succ k1 =>
     have H := HA.out
     clear HA
     simp only [laws_toActS.l0] at H
     by_cases c6 : x4_1 < (l0.length : Int)
     ·rw [if_pos c6] at H
      have c6b0 : decide (x4_1 < (l0.length : Int)) = true := decide_eq_true c6
      clear c6
      by_cases c7 : 0 ≤ x4_1
      ·rw [if_pos c7] at H
       have c7b0 : decide (0 ≤ x4_1) = true := decide_eq_true c7
       clear c7
       replace H := Option.bind_eq_some_iff.mp H
       obtain ⟨⟨t237, t238, t239, t240⟩, A80, H⟩ := H
       replace H : (if x4_1 < (x3_1.length : Int) then (laws_toActS.l0 k1 l0 (x3_1.set (x4_1 : Int).toNat (⟨t237, t238, t239, t240⟩ : S35)) (wrap64 (x4_1 + 1))) else (none)) = some r := H
       have A8 := Aside0.mk A80
       clear A80
       by_cases c9 : x4_1 < (x3_1.length : Int)
       ·rw [if_pos c9] at H
        have c9b0 : decide (x4_1 < (x3_1.length : Int)) = true := decide_eq_true c9
        clear c9
        obtain ⟨y241, hy241⟩ : ∃ y_ : List (S35), y_ = (x3_1.set (x4_1 : Int).toNat (⟨t237, t238, t239, t240⟩ : S35)) := ⟨_, rfl⟩
        replace H : (laws_toActS.l0 k1 l0 y241 (wrap64 (x4_1 + 1))) = some r := by first | (rw [hy241]; with_reducible exact H) | (have H2_ := (Option.bind_some _ _).symm.trans H; rw [hy241]; with_reducible exact H2_) | (have H2_ := (Option.bind_some _ _).symm.trans H; with_reducible exact H2_) | with_reducible exact H | (rw [hy241]; exact H) | exact H
        have Ny241 := Aside0.mk hy241
        clear hy241
        have H' := Aside0.mk H
        clear H
        have p236 : 0 ≤ (x4_1 : Int) := od_
        have q236 : x4_1 < (l0.length : Int) := od_
        obtain ⟨ad236, e236, hx236_0, hx236_1, hx236_2, hx236_3⟩ := at_T26 HR0.out x4_1 p236 q236
        cases e236
        replace hx236_0 := hc_ HB hx236_0
        replace hx236_1 := hc_ HB hx236_1
        replace hx236_2 := hc_ HB hx236_2
        replace hx236_3 := hc_ HB hx236_3
        replace p236 := eq_true p236
        replace q236 := eq_true q236
        go_wp2_with (first | ((with_reducible refine gate_callee (f := 12) rfl ?_); refine goesL_ (some 20) rfl rfl Try.func12 (by kernel_rfl) rfl #[.agg #[.int .i64 ((rd_T26 l0 x4_1).f0), .string ((rd_T26 l0 x4_1).f1), .string ((rd_T26 l0 x4_1).f2), .string ((rd_T26 l0 x4_1).f3)]] rfl ga_ ?_; (with_reducible refine (laws_toAct.calls ((rd_T26 l0 x4_1).f0) ((rd_T26 l0 x4_1).f1) ((rd_T26 l0 x4_1).f2) ((rd_T26 l0 x4_1).f3) t237 t238 t239 t240 _ A8.out).mono ?_); rintro e w11 ⟨rfl, hb⟩; refine ⟨_, rfl, ?_⟩; replace HO_3 := rb_ HO_3 hb; replace HB := bs_ HB hb; (try clear hb); (try clear hk); have p10 : 0 ≤ (x4_1 : Int) := od_; have q10 : (x4_1 : Int) < ((x3_1.length : Int) : Int) := od_; obtain ⟨go10, co10, eo10, gb10, gl10, cl10, HG10⟩ := Kd.R_form HO_3.out (by omega); (first | cases eo10 | (injection eo10 with ea_ en_ ec_; (first | subst ea_ | (injection ea_ with ea_; subst ea_)); subst ec_; clear en_)); have GB10 := Aside0.mk gb10; have GG10 := Aside0.mk HG10; clear gb10 gl10 HG10; obtain ⟨ce10, hcl10, hM10, hcc10, hfr10⟩ := Kd.R_elem HO_3.out z35 (x4_1 : Int) p10 q10; obtain rfl := k35_openM hM10; have hx10_0 : w11.cell? ⟨go10, (x4_1 : Int).toNat * 4, none⟩ = some (.int .i64 ((rd_T35 x3_1 x4_1).f0)) := hcc10 0 _ rfl; have hx10_1 : w11.cell? ⟨go10, (x4_1 : Int).toNat * 4 + 1, none⟩ = some (.string ((rd_T35 x3_1 x4_1).f1)) := hcc10 1 _ rfl; have hx10_2 : w11.cell? ⟨go10, (x4_1 : Int).toNat * 4 + 2, none⟩ = some (.string ((rd_T35 x3_1 x4_1).f2)) := hcc10 2 _ rfl; have hx10_3 : w11.cell? ⟨go10, (x4_1 : Int).toNat * 4 + 3, none⟩ = some (.string ((rd_T35 x3_1 x4_1).f3)) := hcc10 3 _ rfl; have hf10_0 : w11.frozen? ⟨go10, (x4_1 : Int).toNat * 4, none⟩ = false := hfr10 0; have hf10_1 : w11.frozen? ⟨go10, (x4_1 : Int).toNat * 4 + 1, none⟩ = false := hfr10 1; have hf10_2 : w11.frozen? ⟨go10, (x4_1 : Int).toNat * 4 + 2, none⟩ = false := hfr10 2; have hf10_3 : w11.frozen? ⟨go10, (x4_1 : Int).toNat * 4 + 3, none⟩ = false := hfr10 3; clear hcl10 hcc10 hfr10 hM10; replace p10 := eq_true p10; replace q10 := eq_true q10; have HX12 := mk_ (show Kd.R k35 35 w11 w.heap.size (fun _ => True) (.slice (some ⟨go10, 0, none⟩) x3_1.length co10) x3_1 from (rp_ HO_3)); obtain ⟨ce12, hcl12, hM12, hcc12, hfr12⟩ := Kd.R_elem HX12.out z35 (x4_1 : Int) (od_) (by have h_ : (x4_1 : Int) < ((x3_1.length : Int) : Int) := od_; first | exact h_ | (have e_ := (Kd.R_reads' HO_3.out).1; omega) | simpa using h_); obtain rfl := k35_openM hM12; have HP12 := Kd.R_seg HX12.out (x4_1 : Int) (od_) (by have h_ : (x4_1 : Int) < ((x3_1.length : Int) : Int) := od_; first | exact h_ | (have e_ := (Kd.R_reads' HO_3.out).1; omega) | simpa using h_) (seg := [.int .i64 t237, .string t238, .string t239, .string t240]) (j := 0) hcl12 hcc12 (show 4 ≤ 4 from by decide) (x' := (⟨t237, t238, t239, t240⟩ : S35)) (k35_mkM _ _ _ (⟨t237, t238, t239, t240⟩ : S35) ) (fun _ hk => hk); have hx12_0 := hcc12 0 _ rfl; (try simp only [show (k35).sz = 4 from rfl, Nat.mul_one, Nat.add_zero] at hx12_0); have hf12_0 := hfr12 0; (try simp only [show (k35).sz = 4 from rfl, Nat.mul_one, Nat.add_zero] at hf12_0); have hx12_1 := hcc12 1 _ rfl; (try simp only [show (k35).sz = 4 from rfl, Nat.mul_one, Nat.add_zero] at hx12_1); have hf12_1 := hfr12 1; (try simp only [show (k35).sz = 4 from rfl, Nat.mul_one, Nat.add_zero] at hf12_1); have hx12_2 := hcc12 2 _ rfl; (try simp only [show (k35).sz = 4 from rfl, Nat.mul_one, Nat.add_zero] at hx12_2); have hf12_2 := hfr12 2; (try simp only [show (k35).sz = 4 from rfl, Nat.mul_one, Nat.add_zero] at hf12_2); have hx12_3 := hcc12 3 _ rfl; (try simp only [show (k35).sz = 4 from rfl, Nat.mul_one, Nat.add_zero] at hx12_3); have hf12_3 := hfr12 3; (try simp only [show (k35).sz = 4 from rfl, Nat.mul_one, Nat.add_zero] at hf12_3); clear hcl12 hcc12 hfr12 hM12) | ((with_reducible refine gate_store (t := 35) (p := 21) rfl ?_); refine store_event (t := 35) (p := 21) (v := ?vo_w13) (w1 := ((((w11.setCell ⟨go10, (x4_1 : Int).toNat * 4, none⟩ (.int .i64 t237)).setCell ⟨go10, (x4_1 : Int).toNat * 4 + 1, none⟩ (.string t238)).setCell ⟨go10, (x4_1 : Int).toNat * 4 + 2, none⟩ (.string t239)).setCell ⟨go10, (x4_1 : Int).toNat * 4 + 3, none⟩ (.string t240))) ?hg ?ho ?hn ?hr ?_; (case ho => rfl); (case hg => rfl); (case hn => rfl); (case hr => first | (go_simp; done) | (go_simp; rfl)); intro w13 hw; have hg : w11.grownBy w13 (some go10) := (by rw [hw]; exact HP12.2); have hp_ : Kd.R k35 35 w13 w.heap.size (fun _ => True) (.slice (some ⟨go10, 0, none⟩) x3_1.length co10) y241 := (by rw [hw, Ny241.out]; exact HP12.1); clear HP12; replace HO_3 := mk_ (hp_); replace HB := mk_ ((by rw [hw]; exact below_set (below_set (below_set (below_set (HB.out) GB10.out) GB10.out) GB10.out) GB10.out : Below w.heap.size w w13)); clear hg hw hp_))
        go_roundg k1
        case measure => have := HK1.out; omega
        case rel => exact ⟨(y241), (wrap64 (x4_1 + 1)), (by first | rfl | (simp; done) | (simp [*]; done)), H', ⟨by have := HK1.out; omega⟩, ⟨by (with_reducible repeat (first | apply Kd.R_alloc | apply Kd.R_drewN | apply Kd.R_drew)); exact HO_3.out⟩, ⟨bw_ HB⟩⟩
       ·rw [if_neg c9] at H
        exact absurd H (by simp)
      ·rw [if_neg c7] at H
       exact absurd H (by simp)
     ·rw [if_neg c6] at H
      have c6b0 : decide (x4_1 < (l0.length : Int)) = false := decide_eq_false c6
      clear c6
      obtain rfl := Option.some.inj H
      go_wp2
      go_ret
      exact ⟨_, er_, by (with_reducible repeat (first | apply Kd.R_alloc | apply Kd.R_drewN | apply Kd.R_drew)); exact HO_3.out, bw_ HB⟩
  ·rw [if_neg c3] at H
   exact absurd H (by simp)
 ·rw [if_neg c2] at H
  exact absurd H (by simp)

/-! ### impl_File_78: function 78 -/
set_option maxHeartbeats 4000000 in
set_option maxRecDepth 100000 in
/-- slices.IndexFunc over files, with whatever function value answers 'p' and leaves what was as it was. -/
theorem fileIndexFunc (p : S76 → Bool) (g : Nat) (lb : Array Value) (eg : ∀ args w, (callFunc g args).run Try.prog w = .ok (.enter g args) w) (A0 : Option Addr) (c0 : Nat) (l0 : List S76) (w : World)
  (hr0 : Kd.C k76 w A0 l0.length l0) (hc0 : l0.length ≤ c0)
  (hp : ∀ (W : World) (x : S76), Below w.heap.size w W → Calls Try.prog g (#[.agg #[.string x.f0, .string x.f1, .int .i64 x.f2]] ++ lb) W fun e w' => e = .returned (.bool (p x)) ∧ Below W.heap.size W w') :
  Calls Try.prog 78 #[.slice A0 l0.length c0, .func (.func g) #[] lb] w fun e w' => e = .returned (.int .i64 (M.idxP p l0 0)) ∧ Below w.heap.size w w' := by
 have hu := Try.underlying76
 have HR0 := Aside0.mk hr0
 have hlen := hr0.2.1
 have HP := Aside0.mk hp
 have HC0 := Aside0.mk hc0
 clear hr0 hc0 hp
 generalize hn : l0.length = n at *
 have HN := Aside0.mk hn
 clear hn
 go_enter Try.func78, Try.ntmps78
 go_wp2
 go_loopg [5, 8] n (fun gg _ s8 wr => ∃ kk : Nat, kk ≤ n ∧ n - kk ≤ gg ∧ s8 = .int .i64 kk ∧ Aside0 (Below w.heap.size w wr) ∧ Aside0 (M.idxP p l0 0 = M.idxP p (l0.drop kk) kk))
 case atStart => exact ⟨0, Nat.zero_le _, by omega, rfl, ⟨Below.refl _ w⟩, ⟨rfl⟩⟩
 case round =>
  obtain ⟨kk, hkk, hg, rfl, HB, HA⟩ := hrel
  by_cases hlt : kk < n
  ·have hltz : (kk : Int) < (n : Int) := by omega
   have hl0 : kk < l0.length := by rw [HN.out]; exact hlt
   obtain ⟨ad, e0, hx0, hx1, hx2⟩ := at_T76 HR0.out (kk : Int) (by omega) (by omega)
   cases e0
   simp only [Int.toNat_natCast] at hx0 hx1 hx2
   replace hx0 := hc_ HB hx0
   replace hx1 := hc_ HB hx1
   replace hx2 := hc_ HB hx2
   have hdrop : M.idxP p (l0.drop kk) kk = if p (rd_T76 l0 (kk : Int)) = true then (kk : Int) else M.idxP p (l0.drop (kk + 1)) ((kk + 1 : Nat) : Int) := by
    rw [List.drop_eq_getElem_cons hl0]
    have : rd_T76 l0 (kk : Int) = l0[kk] := by simp [rd_T76, List.getD_eq_getElem?_getD, List.getElem?_eq_getElem hl0]
    rw [this]; rfl
   have HD := Aside0.mk hdrop
   clear hdrop hl0
   generalize rd_T76 l0 (kk : Int) = x at *
   have hcall := HP.out wr x HB.out
   cases hq : p x with
   | true =>
    rw [hq] at hcall
    have HQ := Aside0.mk hq
    clear hq
    go_wp2_with (go_at_fn g; refine hcall.mono ?_; rintro e w' ⟨rfl, hb'⟩)
    go_ret
    refine ⟨?_, below_then HB.out HB.out.size hb'⟩
    rw [HA.out, HD.out, if_pos HQ.out]
    rfl
   | false =>
    rw [hq] at hcall
    have HQ := Aside0.mk hq
    clear hq
    go_wp2_with (go_at_fn g; refine hcall.mono ?_; rintro e w' ⟨rfl, hb'⟩)
    go_roundg (n - (kk + 1))
    case measure => omega
    case rel =>
     refine ⟨kk + 1, by omega, by omega, by go_num, ⟨below_then HB.out HB.out.size hb'⟩, ⟨?_⟩⟩
     rw [HA.out, HD.out, if_neg (by rw [HQ.out]; simp)]
  ·have hltz : ¬ (kk : Int) < (n : Int) := by omega
   go_wp2
   go_ret
   refine ⟨?_, HB.out⟩
   rw [HA.out, List.drop_of_length_le (by rw [HN.out]; omega)]
   rfl

/-! ### impl_fileAt: function 44 -/
def impl_fileAt.f (l0_0 : List S76) (a1 : ByteArray) : Option Int := some (M.idxP (fun x : S76 => x.f0.toList == a1.toList) l0_0 0)
set_option maxHeartbeats 4000000 in
set_option maxRecDepth 100000 in
theorem impl_fileAt.one (x0 x1 : ByteArray) (x2 : Int) (B : Nat) (s : ByteArray) (w : World) (hB : B < w.heap.size) (hc : w.cell? ⟨B, 0, none⟩ = some (.string s)) :
  Calls Try.prog 79 #[.agg #[.string x0, .string x1, .int .i64 x2], .pointer (some ⟨B, 0, none⟩)] w fun e w' => e = .returned (.bool (x0.toList == s.toList)) ∧ Below w.heap.size w w' := by
 have hu := Try.underlying76
 go_enter Try.func79, Try.ntmps79
 go_wp2
 repeat (go_quiet (fail); try go_wp2)
 go_ret
 exact ⟨rfl, by repeat (first | exact Below.refl _ _ | apply below_alloc | apply pw_below_drewN | apply below_drew1)⟩
set_option maxHeartbeats 4000000 in
set_option maxRecDepth 100000 in
theorem impl_fileAt.calls (A0_0 : Option Addr) (c0_0 : Nat) (l0_0 : List S76) (a1 : ByteArray) (r : Int) (w : World) (hr0_0 : Kd.C k76 w A0_0 l0_0.length l0_0) (hc0_0 : l0_0.length ≤ c0_0) (h : impl_fileAt.f l0_0 a1 = some r) :
  Calls Try.prog 44 #[.agg #[.slice A0_0 l0_0.length c0_0], .string a1] w fun e w' => e = .returned (.int .i64 r) ∧ Below w.heap.size w w' := by
 obtain rfl := Option.some.inj h
 clear h
 have hu := Try.underlying31
 have HR := Aside0.mk hr0_0
 have HC := Aside0.mk hc0_0
 clear hr0_0 hc0_0
 have eg : ∀ args w, (callFunc 79 args).run Try.prog w = .ok (.enter 79 args) w := enters_of Try.func79 (by kernel_rfl) rfl
 have hB2 : Below w.heap.size w ((w.alloc (.cells #[.slice A0_0 l0_0.length c0_0] 31)).alloc (.cells #[.string a1] 9)) := below_alloc (below_alloc (Below.refl _ _) _) _
 have hone : ∀ (W : World) (x : S76), Below ((w.alloc (.cells #[.slice A0_0 l0_0.length c0_0] 31)).alloc (.cells #[.string a1] 9)).heap.size ((w.alloc (.cells #[.slice A0_0 l0_0.length c0_0] 31)).alloc (.cells #[.string a1] 9)) W →
   Calls Try.prog 79 (#[.agg #[.string x.f0, .string x.f1, .int .i64 x.f2]] ++ #[.pointer (some ⟨w.heap.size + 1, 0, none⟩)]) W fun e w' => e = .returned (.bool (x.f0.toList == a1.toList)) ∧ Below W.heap.size W w' := by
  intro W x hB
  have hb : ((w.alloc (.cells #[.slice A0_0 l0_0.length c0_0] 31)).alloc (.cells #[.string a1] 9)).heap[w.heap.size + 1]? = some (.cells #[.string a1] 9 (0, 0)) := by
   simpa using heap_alloc_new (w.alloc (.cells #[.slice A0_0 l0_0.length c0_0] 31)) (.cells #[.string a1] 9)
  have hlt : w.heap.size + 1 < ((w.alloc (.cells #[.slice A0_0 l0_0.length c0_0] 31)).alloc (.cells #[.string a1] 9)).heap.size := blk_lt hb
  exact impl_fileAt.one x.f0 x.f1 x.f2 (w.heap.size + 1) a1 W (Nat.lt_of_lt_of_le hlt hB.size) ((hB.cell (p := ⟨w.heap.size + 1, 0, none⟩) hlt).trans ((blk_cell hb 0).trans rfl))
 have HX := mk_ (fileIndexFunc (fun x : S76 => x.f0.toList == a1.toList) 79 #[.pointer (some ⟨w.heap.size + 1, 0, none⟩)] eg A0_0 c0_0 l0_0 _ (Kd.C_alloc (Kd.C_alloc HR.out _) _) HC.out hone)
 clear hone eg
 have HB2 := Aside0.mk hB2
 clear hB2
 go_enter Try.func44, Try.ntmps44
 go_wp2_with (go_at_call 78; refine HX.out.mono ?_; rintro e w' ⟨rfl, hb'⟩)
 go_ret
 exact ⟨rfl, below_then HB2.out HB2.out.size hb'⟩

/-! ### impl_within: function 59 -/
def impl_within.f (a0 : Int) (a1 : Int) (a2 : Int) : Option (Bool) := if a0 ≥ a1 then (some (decide (a0 ≤ a2))) else (some false)
set_option maxHeartbeats 8000000 in
set_option maxRecDepth 100000 in
theorem impl_within.calls (a0 : Int) (a1 : Int) (a2 : Int) (r : Bool) (w : World) (h : impl_within.f a0 a1 a2 = some r) :
  Calls Try.prog 59 #[.int .i64 a0, .int .i64 a1, .int .i64 a2] w fun e w' => e = .returned (.bool r) ∧ Drawn0 w w' := by
 have H : (if a0 ≥ a1 then (some (decide (a0 ≤ a2))) else (some false)) = some r := h
 clear h
 by_cases c4 : a0 ≥ a1
 ·rw [if_pos c4] at H
  have c4b0 : decide (a1 ≤ a0) = true := decide_eq_true c4
  clear c4
  obtain rfl := Option.some.inj H
  go_enter Try.func59, Try.ntmps59
  go_wp2
  go_ret
  exact ⟨by first | rfl | (simp; done) | (simp [*]; done), by repeat (first | exact Drawn0.refl _ | apply Drawn0.step)⟩
 ·rw [if_neg c4] at H
  have c4b0 : decide (a1 ≤ a0) = false := decide_eq_false c4
  clear c4
  obtain rfl := Option.some.inj H
  go_enter Try.func59, Try.ntmps59
  go_wp2
  go_ret
  exact ⟨by first | rfl | (simp; done) | (simp [*]; done), by repeat (first | exact Drawn0.refl _ | apply Drawn0.step)⟩

/-! ### impl_DiskOk: function 45 -/
def impl_DiskOk.l0 : Nat → List (S76) → Int → Int → List (S76) → Option (Bool)
 | 0, _, _, _, _ => none
 | k + 1, x6, x7, x8, x243000 => if x8 < x7 then (if 0 ≤ x8 then (if x8 < (x6.length : Int) then ((impl_within.f (((rd_T76 x6 x8).f0).size : Int) 1 8).bind fun t245 => (if t245 = true then (if (((rd_T76 x6 x8).f1).size : Int) > 20000 then (some false) else ((impl_within.f ((rd_T76 x6 x8).f2) 0 (((rd_T76 x6 x8).f1).size : Int)).bind fun t246 => (if t246 = true then (if x8 > 0 then (if 0 ≤ (wrap64 (x8 - 1)) then (if (wrap64 (x8 - 1)) < (x243000.length : Int) then (if ((Op.bytesLess (((rd_T76 x243000 (wrap64 (x8 - 1))).f0).toList) (((rd_T76 x6 x8).f0).toList)) = true) then (impl_DiskOk.l0 k x6 x7 (wrap64 (x8 + 1)) x243000) else (some false)) else (none)) else (none)) else (impl_DiskOk.l0 k x6 x7 (wrap64 (x8 + 1)) x243000)) else (some false)))) else (some false))) else (none)) else (none)) else (some (decide ((x243000.length : Int) ≤ 30)))
def impl_DiskOk.f (k : Nat) (l0_0 : List (S76)) : Option (Bool) := impl_DiskOk.l0 k l0_0 (l0_0.length : Int) 0 l0_0
theorem impl_DiskOk.mono_l : ∀ k, (∀ y0 y1 y2 y3, LeO (impl_DiskOk.l0 k y0 y1 y2 y3) (impl_DiskOk.l0 (k + 1) y0 y1 y2 y3))
 | 0 => fun _ _ _ _ r h => by simp [impl_DiskOk.l0] at h
 | k + 1 => by
  have ih0 := impl_DiskOk.mono_l k
  ·intro y0 y1 y2 y3
   unfold impl_DiskOk.l0
   repeat' first
   | (with_reducible exact ih0 _ _ _ _)
   | (with_reducible exact LeO.refl _)
   | (with_reducible exact LeO.none _)
   | (with_reducible refine LeO.ite ?_ ?_)
   | (with_reducible refine LeO.bind ?_ (fun _ => ?_))
   | exact ih0 _ _ _ _
   | exact LeO.none _
   | refine LeO.ite ?_ ?_
   | refine LeO.bind ?_ (fun _ => ?_)
theorem impl_DiskOk.mono : ∀ a0 k, LeO (impl_DiskOk.f k a0) (impl_DiskOk.f (k + 1) a0) := by
 intro a0 k
 have ih0 := impl_DiskOk.mono_l k
 unfold impl_DiskOk.f
 repeat' first
   | (with_reducible exact ih0 _ _ _ _)
   | (with_reducible exact LeO.refl _)
   | (with_reducible exact LeO.none _)
   | (with_reducible refine LeO.ite ?_ ?_)
   | (with_reducible refine LeO.bind ?_ (fun _ => ?_))
   | exact ih0 _ _ _ _
   | exact LeO.none _
   | refine LeO.ite ?_ ?_
   | refine LeO.bind ?_ (fun _ => ?_)
set_option maxHeartbeats 8000000 in
set_option maxRecDepth 100000 in
theorem impl_DiskOk.calls (k : Nat) (A0_0 : Option Addr) (c0_0 : Nat) (l0_0 : List (S76)) (r : Bool) (w : World) (hr0_0 : Kd.C k76 w A0_0 l0_0.length l0_0) (hc0_0 : l0_0.length ≤ c0_0) (h : impl_DiskOk.f k l0_0 = some r) :
  Calls Try.prog 45 #[.agg #[.slice A0_0 l0_0.length c0_0]] w fun e w' => e = .returned (.bool r) ∧ Below w.heap.size w w' := by
 have hu31 := Try.underlying31
 have hu76 := Try.underlying76
 have HR0_0 := Aside0.mk hr0_0
 have HC0_0 := Aside0.mk hc0_0
 clear hr0_0 hc0_0
 have HB := mk_ (Below.refl w.heap.size w)
 have H : (impl_DiskOk.l0 k l0_0 (l0_0.length : Int) 0 l0_0) = some r := h
 clear h
 have H' := Aside0.mk H
 clear H
 go_enter Try.func45, Try.ntmps45
 go_wp2_with (first | ((with_reducible refine gate_dst (N := 1) rfl ?_); (try (refine gate_guard (by rfl) ?_; dsimp only)); refine bx_ (N := 1) (cs := #[.slice A0_0 l0_0.length c0_0]) (t := 31) ?_; intro gb242 hg w2 hbox hb; have BK242 := mk_ (hbox); have GW242 : Aside0 (w.heap.size ≤ gb242) := bz_ hg; have GE242 := GW242; replace HB := bs_ HB hb; clear hb hbox hg; obtain ⟨hcz3_0, hfz3_0⟩ := b1_ BK242))
 repeat (go_quiet (first | ((with_reducible refine gate_dst (N := 1) rfl ?_); (try (refine gate_guard (by rfl) ?_; dsimp only)); refine bx_ (N := 1) (cs := #[.slice A0_0 l0_0.length c0_0]) (t := 31) ?_; intro gb242 hg w2 hbox hb; have BK242 := mk_ (hbox); have GW242 : Aside0 (w.heap.size ≤ gb242) := bz_ hg; have GE242 := GW242; replace HB := bs_ HB hb; clear hb hbox hg; obtain ⟨hcz3_0, hfz3_0⟩ := b1_ BK242)); try go_wp2_with (first | ((with_reducible refine gate_dst (N := 1) rfl ?_); (try (refine gate_guard (by rfl) ?_; dsimp only)); refine bx_ (N := 1) (cs := #[.slice A0_0 l0_0.length c0_0]) (t := 31) ?_; intro gb242 hg w2 hbox hb; have BK242 := mk_ (hbox); have GW242 : Aside0 (w.heap.size ≤ gb242) := bz_ hg; have GE242 := GW242; replace HB := bs_ HB hb; clear hb hbox hg; obtain ⟨hcz3_0, hfz3_0⟩ := b1_ BK242)))
 go_loopg [8] k (fun kq v8 w' => ∃ (x8_1 : Int), v8 = .int .i64 x8_1 ∧ Aside0 (impl_DiskOk.l0 kq l0_0 (l0_0.length : Int) x8_1 l0_0 = some r) ∧ Aside0 (kq ≤ k) ∧ Aside0 (w'.heap[gb242]? = some (.cells #[(.slice A0_0 l0_0.length c0_0)] 31 (0, 0))) ∧ Aside0 (Below w.heap.size w w'))
 case atStart => exact ⟨(0), (by first | rfl | (simp; done) | (simp [*]; done)), H', ⟨Nat.le_refl _⟩, ⟨bf_⟩, ⟨bw_ HB⟩⟩
 case round =>
  clear H'
  try clear p2
  try clear hcz3_0
  try clear hfz3_0
  obtain ⟨x8_1, rfl, HA, HK1, BK242, HB⟩ := hrel
  cases gk with
  | zero => exact absurd HA.out (by simp [impl_DiskOk.l0])
  | succ k1 =>
   have H := HA.out
   clear HA
   simp only [impl_DiskOk.l0] at H
   by_cases c4 : x8_1 < (l0_0.length : Int)
   ·rw [if_pos c4] at H
    have c4b0 : decide (x8_1 < (l0_0.length : Int)) = true := decide_eq_true c4
    clear c4
    by_cases c5 : 0 ≤ x8_1
    ·rw [if_pos c5] at H
     have c5b0 : decide (0 ≤ x8_1) = true := decide_eq_true c5
     clear c5
     by_cases c6 : x8_1 < (l0_0.length : Int)
     ·rw [if_pos c6] at H
      have c6b0 : decide (x8_1 < (l0_0.length : Int)) = true := decide_eq_true c6
      clear c6
      replace H := Option.bind_eq_some_iff.mp H
      obtain ⟨t245, A70, H⟩ := H
      replace H : (if t245 = true then (if (((rd_T76 l0_0 x8_1).f1).size : Int) > 20000 then (some false) else ((impl_within.f ((rd_T76 l0_0 x8_1).f2) 0 (((rd_T76 l0_0 x8_1).f1).size : Int)).bind fun t246 => (if t246 = true then (if x8_1 > 0 then (if 0 ≤ (wrap64 (x8_1 - 1)) then (if (wrap64 (x8_1 - 1)) < (l0_0.length : Int) then (if ((Op.bytesLess (((rd_T76 l0_0 (wrap64 (x8_1 - 1))).f0).toList) (((rd_T76 l0_0 x8_1).f0).toList)) = true) then (impl_DiskOk.l0 k1 l0_0 (l0_0.length : Int) (wrap64 (x8_1 + 1)) l0_0) else (some false)) else (none)) else (none)) else (impl_DiskOk.l0 k1 l0_0 (l0_0.length : Int) (wrap64 (x8_1 + 1)) l0_0)) else (some false)))) else (some false)) = some r := H
      have A7 := Aside0.mk A70
      clear A70
      by_cases c8 : t245 = true
      ·subst c8
       have H1 : (if (((rd_T76 l0_0 x8_1).f1).size : Int) > 20000 then (some false) else ((impl_within.f ((rd_T76 l0_0 x8_1).f2) 0 (((rd_T76 l0_0 x8_1).f1).size : Int)).bind fun t246 => (if t246 = true then (if x8_1 > 0 then (if 0 ≤ (wrap64 (x8_1 - 1)) then (if (wrap64 (x8_1 - 1)) < (l0_0.length : Int) then (if ((Op.bytesLess (((rd_T76 l0_0 (wrap64 (x8_1 - 1))).f0).toList) (((rd_T76 l0_0 x8_1).f0).toList)) = true) then (impl_DiskOk.l0 k1 l0_0 (l0_0.length : Int) (wrap64 (x8_1 + 1)) l0_0) else (some false)) else (none)) else (none)) else (impl_DiskOk.l0 k1 l0_0 (l0_0.length : Int) (wrap64 (x8_1 + 1)) l0_0)) else (some false)))) = some r := by rw [if_pos rfl] at H; exact H
       clear H
       have H := H1
       clear H1
       by_cases c9 : (((rd_T76 l0_0 x8_1).f1).size : Int) > 20000
       ·rw [if_pos c9] at H
        have c9b0 : decide (20000 < (((rd_T76 l0_0 x8_1).f1).size : Int)) = true := decide_eq_true c9
        have c9b1 : decide (20000 < ((rd_T76 l0_0 x8_1).f1).size) = true := decide_eq_true (by omega)
        clear c9
        obtain rfl := Option.some.inj H
        have p243 : 0 ≤ (x8_1 : Int) := od_
        have q243 : x8_1 < (l0_0.length : Int) := od_
        obtain ⟨ad243, e243, hx243_0, hx243_1, hx243_2⟩ := at_T76 HR0_0.out x8_1 p243 q243
        cases e243
        replace hx243_0 := hc_ HB hx243_0
        replace hx243_1 := hc_ HB hx243_1
        replace hx243_2 := hc_ HB hx243_2
        replace p243 := eq_true p243
        replace q243 := eq_true q243
        go_wp2_with (first | ((with_reducible refine gate_dst (N := 4) rfl ?_); (try (refine gate_guard (by rfl) ?_; dsimp only)); refine bx_ (N := 4) (cs := #[.string (⟨#[]⟩ : ByteArray), .string (⟨#[]⟩ : ByteArray), .int .i64 0]) (t := 76) ?_; intro gb244 hg w10 hbox hb; have BK244 := mk_ (hbox); have GW244 : Aside0 (w.heap.size ≤ gb244) := bz_ hg; have GE244 := GW244; have NB242_244 := bl_ BK242 hg; have NB244_242 := bg_ BK242 hg; replace BK242 := bb_ BK242 hb; replace HB := bs_ HB hb; clear hb hbox hg; have hnb11 := NB244_242.out; have hnc11 := NB242_244.out; obtain ⟨hcz12_0, hcz12_1, hcz12_2, hfz12_0, hfz12_1, hfz12_2⟩ := b3_ BK244) | (go_at_call 59; (with_reducible refine (impl_within.calls (((rd_T76 l0_0 x8_1).f0).size : Int) 1 8 true _ A7.out).mono ?_); rintro e w' ⟨rfl, ⟨nd, rfl⟩⟩; (try first | exact ⟨rfl, _, World.drewN_drewN _ _ _⟩ | exact ⟨rfl, _, Eq.trans (World.drewN_drewN _ _ _) (congrArg (World.drewN _) (Nat.add_assoc _ _ _))⟩)))
        repeat (go_quiet (first | ((with_reducible refine gate_dst (N := 4) rfl ?_); (try (refine gate_guard (by rfl) ?_; dsimp only)); refine bx_ (N := 4) (cs := #[.string (⟨#[]⟩ : ByteArray), .string (⟨#[]⟩ : ByteArray), .int .i64 0]) (t := 76) ?_; intro gb244 hg w10 hbox hb; have BK244 := mk_ (hbox); have GW244 : Aside0 (w.heap.size ≤ gb244) := bz_ hg; have GE244 := GW244; have NB242_244 := bl_ BK242 hg; have NB244_242 := bg_ BK242 hg; replace BK242 := bb_ BK242 hb; replace HB := bs_ HB hb; clear hb hbox hg; have hnb11 := NB244_242.out; have hnc11 := NB242_244.out; obtain ⟨hcz12_0, hcz12_1, hcz12_2, hfz12_0, hfz12_1, hfz12_2⟩ := b3_ BK244) | (go_at_call 59; (with_reducible refine (impl_within.calls (((rd_T76 l0_0 x8_1).f0).size : Int) 1 8 true _ A7.out).mono ?_); rintro e w' ⟨rfl, ⟨nd, rfl⟩⟩; (try first | exact ⟨rfl, _, World.drewN_drewN _ _ _⟩ | exact ⟨rfl, _, Eq.trans (World.drewN_drewN _ _ _) (congrArg (World.drewN _) (Nat.add_assoc _ _ _))⟩))); try go_wp2_with (first | ((with_reducible refine gate_dst (N := 4) rfl ?_); (try (refine gate_guard (by rfl) ?_; dsimp only)); refine bx_ (N := 4) (cs := #[.string (⟨#[]⟩ : ByteArray), .string (⟨#[]⟩ : ByteArray), .int .i64 0]) (t := 76) ?_; intro gb244 hg w10 hbox hb; have BK244 := mk_ (hbox); have GW244 : Aside0 (w.heap.size ≤ gb244) := bz_ hg; have GE244 := GW244; have NB242_244 := bl_ BK242 hg; have NB244_242 := bg_ BK242 hg; replace BK242 := bb_ BK242 hb; replace HB := bs_ HB hb; clear hb hbox hg; have hnb11 := NB244_242.out; have hnc11 := NB242_244.out; obtain ⟨hcz12_0, hcz12_1, hcz12_2, hfz12_0, hfz12_1, hfz12_2⟩ := b3_ BK244) | (go_at_call 59; (with_reducible refine (impl_within.calls (((rd_T76 l0_0 x8_1).f0).size : Int) 1 8 true _ A7.out).mono ?_); rintro e w' ⟨rfl, ⟨nd, rfl⟩⟩; (try first | exact ⟨rfl, _, World.drewN_drewN _ _ _⟩ | exact ⟨rfl, _, Eq.trans (World.drewN_drewN _ _ _) (congrArg (World.drewN _) (Nat.add_assoc _ _ _))⟩))))
        go_ret
        exact ⟨er_, bw_ HB⟩
       ·rw [if_neg c9] at H
        have c9b0 : decide (20000 < (((rd_T76 l0_0 x8_1).f1).size : Int)) = false := decide_eq_false c9
        have c9b1 : decide (20000 < ((rd_T76 l0_0 x8_1).f1).size) = false := decide_eq_false (by omega)
        clear c9
        replace H := Option.bind_eq_some_iff.mp H
        obtain ⟨t246, A130, H⟩ := H
        replace H : (if t246 = true then (if x8_1 > 0 then (if 0 ≤ (wrap64 (x8_1 - 1)) then (if (wrap64 (x8_1 - 1)) < (l0_0.length : Int) then (if ((Op.bytesLess (((rd_T76 l0_0 (wrap64 (x8_1 - 1))).f0).toList) (((rd_T76 l0_0 x8_1).f0).toList)) = true) then (impl_DiskOk.l0 k1 l0_0 (l0_0.length : Int) (wrap64 (x8_1 + 1)) l0_0) else (some false)) else (none)) else (none)) else (impl_DiskOk.l0 k1 l0_0 (l0_0.length : Int) (wrap64 (x8_1 + 1)) l0_0)) else (some false)) = some r := H
        have A13 := Aside0.mk A130
        clear A130
        by_cases c14 : t246 = true
        ·subst c14
         have H1 : (if x8_1 > 0 then (if 0 ≤ (wrap64 (x8_1 - 1)) then (if (wrap64 (x8_1 - 1)) < (l0_0.length : Int) then (if ((Op.bytesLess (((rd_T76 l0_0 (wrap64 (x8_1 - 1))).f0).toList) (((rd_T76 l0_0 x8_1).f0).toList)) = true) then (impl_DiskOk.l0 k1 l0_0 (l0_0.length : Int) (wrap64 (x8_1 + 1)) l0_0) else (some false)) else (none)) else (none)) else (impl_DiskOk.l0 k1 l0_0 (l0_0.length : Int) (wrap64 (x8_1 + 1)) l0_0)) = some r := by rw [if_pos rfl] at H; exact H
         clear H
         have H := H1
         clear H1
         by_cases c15 : x8_1 > 0
         ·rw [if_pos c15] at H
          have c15b0 : decide (0 < x8_1) = true := decide_eq_true c15
          clear c15
          obtain ⟨ji16, hji16⟩ : ∃ j_ : Int, (wrap64 (x8_1 - 1)) = j_ := ⟨_, rfl⟩
          replace H : (if 0 ≤ (ji16) then (if (ji16) < (l0_0.length : Int) then (if ((Op.bytesLess (((rd_T76 l0_0 (ji16)).f0).toList) (((rd_T76 l0_0 x8_1).f0).toList)) = true) then (impl_DiskOk.l0 k1 l0_0 (l0_0.length : Int) (wrap64 (x8_1 + 1)) l0_0) else (some false)) else (none)) else (none)) = some r := by first | (rw [hji16] at H; exact H) | (simp only [hji16] at H ⊢; exact H)
          (try rw [hji16] at A7)
          (try rw [hji16] at A13)
          have hji16w : (IntKind.i64.wrap (x8_1 - 1)) = ji16 := (i64_w _).trans hji16
          by_cases c17 : 0 ≤ (ji16)
          ·rw [if_pos c17] at H
           have c17b0 : decide (0 ≤ (ji16)) = true := decide_eq_true c17
           clear c17
           by_cases c18 : (ji16) < (l0_0.length : Int)
           ·rw [if_pos c18] at H
            have c18b0 : decide ((ji16) < (l0_0.length : Int)) = true := decide_eq_true c18
            clear c18
            by_cases c19 : ((Op.bytesLess (((rd_T76 l0_0 (ji16)).f0).toList) (((rd_T76 l0_0 x8_1).f0).toList)) = true)
            ·rw [if_pos c19] at H
             have c19b0 : (Op.bytesLess (((rd_T76 l0_0 (ji16)).f0).toList) (((rd_T76 l0_0 x8_1).f0).toList)) = true := c19
             have c19g0 : Op.bytesLess (((rd_T76 l0_0 x8_1).f0).toList) (((rd_T76 l0_0 (ji16)).f0).toList) = false := Go.Proofs.Ythbaoefbccdioaa.Sem.less_no c19b0
             have c19g1 : ((((rd_T76 l0_0 x8_1).f0).toList) == (((rd_T76 l0_0 (ji16)).f0).toList)) = false := Go.Proofs.Ythbaoefbccdioaa.Sem.less_ne c19b0
             clear c19
             have H' := Aside0.mk H
             clear H
             have p243 : 0 ≤ (x8_1 : Int) := od_
             have q243 : x8_1 < (l0_0.length : Int) := od_
             obtain ⟨ad243, e243, hx243_0, hx243_1, hx243_2⟩ := at_T76 HR0_0.out x8_1 p243 q243
             cases e243
             replace hx243_0 := hc_ HB hx243_0
             replace hx243_1 := hc_ HB hx243_1
             replace hx243_2 := hc_ HB hx243_2
             replace p243 := eq_true p243
             replace q243 := eq_true q243
             go_wp2_with (first | ((with_reducible refine gate_dst (N := 4) rfl ?_); (try (refine gate_guard (by rfl) ?_; dsimp only)); refine bx_ (N := 4) (cs := #[.string (⟨#[]⟩ : ByteArray), .string (⟨#[]⟩ : ByteArray), .int .i64 0]) (t := 76) ?_; intro gb244 hg w20 hbox hb; have BK244 := mk_ (hbox); have GW244 : Aside0 (w.heap.size ≤ gb244) := bz_ hg; have GE244 := GW244; have NB242_244 := bl_ BK242 hg; have NB244_242 := bg_ BK242 hg; replace BK242 := bb_ BK242 hb; replace HB := bs_ HB hb; clear hb hbox hg; have hnb21 := NB244_242.out; have hnc21 := NB242_244.out; obtain ⟨hcz22_0, hcz22_1, hcz22_2, hfz22_0, hfz22_1, hfz22_2⟩ := b3_ BK244) | (go_at_call 59; (with_reducible refine (impl_within.calls (((rd_T76 l0_0 x8_1).f0).size : Int) 1 8 true _ A7.out).mono ?_); rintro e w' ⟨rfl, ⟨nd, rfl⟩⟩; (try first | exact ⟨rfl, _, World.drewN_drewN _ _ _⟩ | exact ⟨rfl, _, Eq.trans (World.drewN_drewN _ _ _) (congrArg (World.drewN _) (Nat.add_assoc _ _ _))⟩)) | (go_at_call 59; (with_reducible refine (impl_within.calls ((rd_T76 l0_0 x8_1).f2) 0 (((rd_T76 l0_0 x8_1).f1).size : Int) true _ A13.out).mono ?_); rintro e w' ⟨rfl, ⟨nd, rfl⟩⟩; (try first | exact ⟨rfl, _, World.drewN_drewN _ _ _⟩ | exact ⟨rfl, _, Eq.trans (World.drewN_drewN _ _ _) (congrArg (World.drewN _) (Nat.add_assoc _ _ _))⟩); obtain ⟨hcz23_0, hfz23_0⟩ := b1_ BK242; have p247 : 0 ≤ ((ji16) : Int) := od_; have q247 : (ji16) < (l0_0.length : Int) := od_; obtain ⟨ad247, e247, hx247_0, hx247_1, hx247_2⟩ := at_T76 HR0_0.out (ji16) p247 q247; obtain rfl : ad243 = ad247 := (by injection e247); have hn247_0 : ad243.block ≠ gb244 := Nat.ne_of_lt (Nat.lt_of_lt_of_le (by have := World.block_lt_of_cell? _ _ hx247_0; first | rwa [add_block] at this | exact this) GW244.out); have hn247_1 : ad243.block ≠ gb244 := Nat.ne_of_lt (Nat.lt_of_lt_of_le (by have := World.block_lt_of_cell? _ _ hx247_0; first | rwa [add_block] at this | exact this) GW244.out); have hn247_2 : ad243.block ≠ gb244 := Nat.ne_of_lt (Nat.lt_of_lt_of_le (by have := World.block_lt_of_cell? _ _ hx247_0; first | rwa [add_block] at this | exact this) GW244.out); replace hx247_0 := hc_ HB hx247_0; replace hx247_1 := hc_ HB hx247_1; replace hx247_2 := hc_ HB hx247_2; replace hx247_0 := (cell_far (p := ⟨gb244, 0, none⟩) ab_ (.string ((rd_T76 l0_0 x8_1).f0))).trans hx247_0; replace hx247_1 := (cell_far (p := ⟨gb244, 0, none⟩) ab_ (.string ((rd_T76 l0_0 x8_1).f0))).trans hx247_1; replace hx247_2 := (cell_far (p := ⟨gb244, 0, none⟩) ab_ (.string ((rd_T76 l0_0 x8_1).f0))).trans hx247_2; replace hx247_0 := (cell_far (p := ⟨gb244, 1, none⟩) ab_ (.string ((rd_T76 l0_0 x8_1).f1))).trans hx247_0; replace hx247_1 := (cell_far (p := ⟨gb244, 1, none⟩) ab_ (.string ((rd_T76 l0_0 x8_1).f1))).trans hx247_1; replace hx247_2 := (cell_far (p := ⟨gb244, 1, none⟩) ab_ (.string ((rd_T76 l0_0 x8_1).f1))).trans hx247_2; replace hx247_0 := (cell_far (p := ⟨gb244, 2, none⟩) ab_ (.int .i64 ((rd_T76 l0_0 x8_1).f2))).trans hx247_0; replace hx247_1 := (cell_far (p := ⟨gb244, 2, none⟩) ab_ (.int .i64 ((rd_T76 l0_0 x8_1).f2))).trans hx247_1; replace hx247_2 := (cell_far (p := ⟨gb244, 2, none⟩) ab_ (.int .i64 ((rd_T76 l0_0 x8_1).f2))).trans hx247_2; (try have hy247_0 := fun (n_ : Nat) => (show (((((w20.drewN n_).setCell ⟨gb244, 0, none⟩ (.string ((rd_T76 l0_0 x8_1).f0))).setCell ⟨gb244, 1, none⟩ (.string ((rd_T76 l0_0 x8_1).f1))).setCell ⟨gb244, 2, none⟩ (.int .i64 ((rd_T76 l0_0 x8_1).f2)))).cell? _ = some _ from hx247_0)); (try have hy247_1 := fun (n_ : Nat) => (show (((((w20.drewN n_).setCell ⟨gb244, 0, none⟩ (.string ((rd_T76 l0_0 x8_1).f0))).setCell ⟨gb244, 1, none⟩ (.string ((rd_T76 l0_0 x8_1).f1))).setCell ⟨gb244, 2, none⟩ (.int .i64 ((rd_T76 l0_0 x8_1).f2)))).cell? _ = some _ from hx247_1)); (try have hy247_2 := fun (n_ : Nat) => (show (((((w20.drewN n_).setCell ⟨gb244, 0, none⟩ (.string ((rd_T76 l0_0 x8_1).f0))).setCell ⟨gb244, 1, none⟩ (.string ((rd_T76 l0_0 x8_1).f1))).setCell ⟨gb244, 2, none⟩ (.int .i64 ((rd_T76 l0_0 x8_1).f2)))).cell? _ = some _ from hx247_2)); clear hn247_0; clear hn247_1; clear hn247_2; replace p247 := eq_true p247; replace q247 := eq_true q247))
             repeat (go_quiet (first | ((with_reducible refine gate_dst (N := 4) rfl ?_); (try (refine gate_guard (by rfl) ?_; dsimp only)); refine bx_ (N := 4) (cs := #[.string (⟨#[]⟩ : ByteArray), .string (⟨#[]⟩ : ByteArray), .int .i64 0]) (t := 76) ?_; intro gb244 hg w20 hbox hb; have BK244 := mk_ (hbox); have GW244 : Aside0 (w.heap.size ≤ gb244) := bz_ hg; have GE244 := GW244; have NB242_244 := bl_ BK242 hg; have NB244_242 := bg_ BK242 hg; replace BK242 := bb_ BK242 hb; replace HB := bs_ HB hb; clear hb hbox hg; have hnb21 := NB244_242.out; have hnc21 := NB242_244.out; obtain ⟨hcz22_0, hcz22_1, hcz22_2, hfz22_0, hfz22_1, hfz22_2⟩ := b3_ BK244) | (go_at_call 59; (with_reducible refine (impl_within.calls (((rd_T76 l0_0 x8_1).f0).size : Int) 1 8 true _ A7.out).mono ?_); rintro e w' ⟨rfl, ⟨nd, rfl⟩⟩; (try first | exact ⟨rfl, _, World.drewN_drewN _ _ _⟩ | exact ⟨rfl, _, Eq.trans (World.drewN_drewN _ _ _) (congrArg (World.drewN _) (Nat.add_assoc _ _ _))⟩)) | (go_at_call 59; (with_reducible refine (impl_within.calls ((rd_T76 l0_0 x8_1).f2) 0 (((rd_T76 l0_0 x8_1).f1).size : Int) true _ A13.out).mono ?_); rintro e w' ⟨rfl, ⟨nd, rfl⟩⟩; (try first | exact ⟨rfl, _, World.drewN_drewN _ _ _⟩ | exact ⟨rfl, _, Eq.trans (World.drewN_drewN _ _ _) (congrArg (World.drewN _) (Nat.add_assoc _ _ _))⟩); obtain ⟨hcz23_0, hfz23_0⟩ := b1_ BK242; have p247 : 0 ≤ ((ji16) : Int) := od_; have q247 : (ji16) < (l0_0.length : Int) := od_; obtain ⟨ad247, e247, hx247_0, hx247_1, hx247_2⟩ := at_T76 HR0_0.out (ji16) p247 q247; obtain rfl : ad243 = ad247 := (by injection e247); have hn247_0 : ad243.block ≠ gb244 := Nat.ne_of_lt (Nat.lt_of_lt_of_le (by have := World.block_lt_of_cell? _ _ hx247_0; first | rwa [add_block] at this | exact this) GW244.out); have hn247_1 : ad243.block ≠ gb244 := Nat.ne_of_lt (Nat.lt_of_lt_of_le (by have := World.block_lt_of_cell? _ _ hx247_0; first | rwa [add_block] at this | exact this) GW244.out); have hn247_2 : ad243.block ≠ gb244 := Nat.ne_of_lt (Nat.lt_of_lt_of_le (by have := World.block_lt_of_cell? _ _ hx247_0; first | rwa [add_block] at this | exact this) GW244.out); replace hx247_0 := hc_ HB hx247_0; replace hx247_1 := hc_ HB hx247_1; replace hx247_2 := hc_ HB hx247_2; replace hx247_0 := (cell_far (p := ⟨gb244, 0, none⟩) ab_ (.string ((rd_T76 l0_0 x8_1).f0))).trans hx247_0; replace hx247_1 := (cell_far (p := ⟨gb244, 0, none⟩) ab_ (.string ((rd_T76 l0_0 x8_1).f0))).trans hx247_1; replace hx247_2 := (cell_far (p := ⟨gb244, 0, none⟩) ab_ (.string ((rd_T76 l0_0 x8_1).f0))).trans hx247_2; replace hx247_0 := (cell_far (p := ⟨gb244, 1, none⟩) ab_ (.string ((rd_T76 l0_0 x8_1).f1))).trans hx247_0; replace hx247_1 := (cell_far (p := ⟨gb244, 1, none⟩) ab_ (.string ((rd_T76 l0_0 x8_1).f1))).trans hx247_1; replace hx247_2 := (cell_far (p := ⟨gb244, 1, none⟩) ab_ (.string ((rd_T76 l0_0 x8_1).f1))).trans hx247_2; replace hx247_0 := (cell_far (p := ⟨gb244, 2, none⟩) ab_ (.int .i64 ((rd_T76 l0_0 x8_1).f2))).trans hx247_0; replace hx247_1 := (cell_far (p := ⟨gb244, 2, none⟩) ab_ (.int .i64 ((rd_T76 l0_0 x8_1).f2))).trans hx247_1; replace hx247_2 := (cell_far (p := ⟨gb244, 2, none⟩) ab_ (.int .i64 ((rd_T76 l0_0 x8_1).f2))).trans hx247_2; (try have hy247_0 := fun (n_ : Nat) => (show (((((w20.drewN n_).setCell ⟨gb244, 0, none⟩ (.string ((rd_T76 l0_0 x8_1).f0))).setCell ⟨gb244, 1, none⟩ (.string ((rd_T76 l0_0 x8_1).f1))).setCell ⟨gb244, 2, none⟩ (.int .i64 ((rd_T76 l0_0 x8_1).f2)))).cell? _ = some _ from hx247_0)); (try have hy247_1 := fun (n_ : Nat) => (show (((((w20.drewN n_).setCell ⟨gb244, 0, none⟩ (.string ((rd_T76 l0_0 x8_1).f0))).setCell ⟨gb244, 1, none⟩ (.string ((rd_T76 l0_0 x8_1).f1))).setCell ⟨gb244, 2, none⟩ (.int .i64 ((rd_T76 l0_0 x8_1).f2)))).cell? _ = some _ from hx247_1)); (try have hy247_2 := fun (n_ : Nat) => (show (((((w20.drewN n_).setCell ⟨gb244, 0, none⟩ (.string ((rd_T76 l0_0 x8_1).f0))).setCell ⟨gb244, 1, none⟩ (.string ((rd_T76 l0_0 x8_1).f1))).setCell ⟨gb244, 2, none⟩ (.int .i64 ((rd_T76 l0_0 x8_1).f2)))).cell? _ = some _ from hx247_2)); clear hn247_0; clear hn247_1; clear hn247_2; replace p247 := eq_true p247; replace q247 := eq_true q247)); try go_wp2_with (first | ((with_reducible refine gate_dst (N := 4) rfl ?_); (try (refine gate_guard (by rfl) ?_; dsimp only)); refine bx_ (N := 4) (cs := #[.string (⟨#[]⟩ : ByteArray), .string (⟨#[]⟩ : ByteArray), .int .i64 0]) (t := 76) ?_; intro gb244 hg w20 hbox hb; have BK244 := mk_ (hbox); have GW244 : Aside0 (w.heap.size ≤ gb244) := bz_ hg; have GE244 := GW244; have NB242_244 := bl_ BK242 hg; have NB244_242 := bg_ BK242 hg; replace BK242 := bb_ BK242 hb; replace HB := bs_ HB hb; clear hb hbox hg; have hnb21 := NB244_242.out; have hnc21 := NB242_244.out; obtain ⟨hcz22_0, hcz22_1, hcz22_2, hfz22_0, hfz22_1, hfz22_2⟩ := b3_ BK244) | (go_at_call 59; (with_reducible refine (impl_within.calls (((rd_T76 l0_0 x8_1).f0).size : Int) 1 8 true _ A7.out).mono ?_); rintro e w' ⟨rfl, ⟨nd, rfl⟩⟩; (try first | exact ⟨rfl, _, World.drewN_drewN _ _ _⟩ | exact ⟨rfl, _, Eq.trans (World.drewN_drewN _ _ _) (congrArg (World.drewN _) (Nat.add_assoc _ _ _))⟩)) | (go_at_call 59; (with_reducible refine (impl_within.calls ((rd_T76 l0_0 x8_1).f2) 0 (((rd_T76 l0_0 x8_1).f1).size : Int) true _ A13.out).mono ?_); rintro e w' ⟨rfl, ⟨nd, rfl⟩⟩; (try first | exact ⟨rfl, _, World.drewN_drewN _ _ _⟩ | exact ⟨rfl, _, Eq.trans (World.drewN_drewN _ _ _) (congrArg (World.drewN _) (Nat.add_assoc _ _ _))⟩); obtain ⟨hcz23_0, hfz23_0⟩ := b1_ BK242; have p247 : 0 ≤ ((ji16) : Int) := od_; have q247 : (ji16) < (l0_0.length : Int) := od_; obtain ⟨ad247, e247, hx247_0, hx247_1, hx247_2⟩ := at_T76 HR0_0.out (ji16) p247 q247; obtain rfl : ad243 = ad247 := (by injection e247); have hn247_0 : ad243.block ≠ gb244 := Nat.ne_of_lt (Nat.lt_of_lt_of_le (by have := World.block_lt_of_cell? _ _ hx247_0; first | rwa [add_block] at this | exact this) GW244.out); have hn247_1 : ad243.block ≠ gb244 := Nat.ne_of_lt (Nat.lt_of_lt_of_le (by have := World.block_lt_of_cell? _ _ hx247_0; first | rwa [add_block] at this | exact this) GW244.out); have hn247_2 : ad243.block ≠ gb244 := Nat.ne_of_lt (Nat.lt_of_lt_of_le (by have := World.block_lt_of_cell? _ _ hx247_0; first | rwa [add_block] at this | exact this) GW244.out); replace hx247_0 := hc_ HB hx247_0; replace hx247_1 := hc_ HB hx247_1; replace hx247_2 := hc_ HB hx247_2; replace hx247_0 := (cell_far (p := ⟨gb244, 0, none⟩) ab_ (.string ((rd_T76 l0_0 x8_1).f0))).trans hx247_0; replace hx247_1 := (cell_far (p := ⟨gb244, 0, none⟩) ab_ (.string ((rd_T76 l0_0 x8_1).f0))).trans hx247_1; replace hx247_2 := (cell_far (p := ⟨gb244, 0, none⟩) ab_ (.string ((rd_T76 l0_0 x8_1).f0))).trans hx247_2; replace hx247_0 := (cell_far (p := ⟨gb244, 1, none⟩) ab_ (.string ((rd_T76 l0_0 x8_1).f1))).trans hx247_0; replace hx247_1 := (cell_far (p := ⟨gb244, 1, none⟩) ab_ (.string ((rd_T76 l0_0 x8_1).f1))).trans hx247_1; replace hx247_2 := (cell_far (p := ⟨gb244, 1, none⟩) ab_ (.string ((rd_T76 l0_0 x8_1).f1))).trans hx247_2; replace hx247_0 := (cell_far (p := ⟨gb244, 2, none⟩) ab_ (.int .i64 ((rd_T76 l0_0 x8_1).f2))).trans hx247_0; replace hx247_1 := (cell_far (p := ⟨gb244, 2, none⟩) ab_ (.int .i64 ((rd_T76 l0_0 x8_1).f2))).trans hx247_1; replace hx247_2 := (cell_far (p := ⟨gb244, 2, none⟩) ab_ (.int .i64 ((rd_T76 l0_0 x8_1).f2))).trans hx247_2; (try have hy247_0 := fun (n_ : Nat) => (show (((((w20.drewN n_).setCell ⟨gb244, 0, none⟩ (.string ((rd_T76 l0_0 x8_1).f0))).setCell ⟨gb244, 1, none⟩ (.string ((rd_T76 l0_0 x8_1).f1))).setCell ⟨gb244, 2, none⟩ (.int .i64 ((rd_T76 l0_0 x8_1).f2)))).cell? _ = some _ from hx247_0)); (try have hy247_1 := fun (n_ : Nat) => (show (((((w20.drewN n_).setCell ⟨gb244, 0, none⟩ (.string ((rd_T76 l0_0 x8_1).f0))).setCell ⟨gb244, 1, none⟩ (.string ((rd_T76 l0_0 x8_1).f1))).setCell ⟨gb244, 2, none⟩ (.int .i64 ((rd_T76 l0_0 x8_1).f2)))).cell? _ = some _ from hx247_1)); (try have hy247_2 := fun (n_ : Nat) => (show (((((w20.drewN n_).setCell ⟨gb244, 0, none⟩ (.string ((rd_T76 l0_0 x8_1).f0))).setCell ⟨gb244, 1, none⟩ (.string ((rd_T76 l0_0 x8_1).f1))).setCell ⟨gb244, 2, none⟩ (.int .i64 ((rd_T76 l0_0 x8_1).f2)))).cell? _ = some _ from hx247_2)); clear hn247_0; clear hn247_1; clear hn247_2; replace p247 := eq_true p247; replace q247 := eq_true q247)))
             go_roundg k1
             case measure => have := HK1.out; omega
             case rel => exact ⟨(wrap64 (x8_1 + 1)), (by first | rfl | (simp; done) | (simp [*]; done)), H', ⟨by have := HK1.out; omega⟩, ⟨bf_⟩, ⟨bw_ HB⟩⟩
            ·rw [if_neg c19] at H
             have c19b0 : (Op.bytesLess (((rd_T76 l0_0 (ji16)).f0).toList) (((rd_T76 l0_0 x8_1).f0).toList)) = false := by simpa using c19
             have c19g0 : (Op.bytesLess (((rd_T76 l0_0 x8_1).f0).toList) (((rd_T76 l0_0 (ji16)).f0).toList) || (((rd_T76 l0_0 x8_1).f0).toList) == (((rd_T76 l0_0 (ji16)).f0).toList)) = true := Go.Proofs.Ythbaoefbccdioaa.Sem.less_or c19b0
             have c19g1 : (!Op.bytesLess (((rd_T76 l0_0 x8_1).f0).toList) (((rd_T76 l0_0 (ji16)).f0).toList) && !((((rd_T76 l0_0 x8_1).f0).toList) == (((rd_T76 l0_0 (ji16)).f0).toList))) = false := Go.Proofs.Ythbaoefbccdioaa.Sem.less_and c19b0
             clear c19
             obtain rfl := Option.some.inj H
             have p243 : 0 ≤ (x8_1 : Int) := od_
             have q243 : x8_1 < (l0_0.length : Int) := od_
             obtain ⟨ad243, e243, hx243_0, hx243_1, hx243_2⟩ := at_T76 HR0_0.out x8_1 p243 q243
             cases e243
             replace hx243_0 := hc_ HB hx243_0
             replace hx243_1 := hc_ HB hx243_1
             replace hx243_2 := hc_ HB hx243_2
             replace p243 := eq_true p243
             replace q243 := eq_true q243
             go_wp2_with (first | ((with_reducible refine gate_dst (N := 4) rfl ?_); (try (refine gate_guard (by rfl) ?_; dsimp only)); refine bx_ (N := 4) (cs := #[.string (⟨#[]⟩ : ByteArray), .string (⟨#[]⟩ : ByteArray), .int .i64 0]) (t := 76) ?_; intro gb244 hg w24 hbox hb; have BK244 := mk_ (hbox); have GW244 : Aside0 (w.heap.size ≤ gb244) := bz_ hg; have GE244 := GW244; have NB242_244 := bl_ BK242 hg; have NB244_242 := bg_ BK242 hg; replace BK242 := bb_ BK242 hb; replace HB := bs_ HB hb; clear hb hbox hg; have hnb25 := NB244_242.out; have hnc25 := NB242_244.out; obtain ⟨hcz26_0, hcz26_1, hcz26_2, hfz26_0, hfz26_1, hfz26_2⟩ := b3_ BK244) | (go_at_call 59; (with_reducible refine (impl_within.calls (((rd_T76 l0_0 x8_1).f0).size : Int) 1 8 true _ A7.out).mono ?_); rintro e w' ⟨rfl, ⟨nd, rfl⟩⟩; (try first | exact ⟨rfl, _, World.drewN_drewN _ _ _⟩ | exact ⟨rfl, _, Eq.trans (World.drewN_drewN _ _ _) (congrArg (World.drewN _) (Nat.add_assoc _ _ _))⟩)) | (go_at_call 59; (with_reducible refine (impl_within.calls ((rd_T76 l0_0 x8_1).f2) 0 (((rd_T76 l0_0 x8_1).f1).size : Int) true _ A13.out).mono ?_); rintro e w' ⟨rfl, ⟨nd, rfl⟩⟩; (try first | exact ⟨rfl, _, World.drewN_drewN _ _ _⟩ | exact ⟨rfl, _, Eq.trans (World.drewN_drewN _ _ _) (congrArg (World.drewN _) (Nat.add_assoc _ _ _))⟩); obtain ⟨hcz27_0, hfz27_0⟩ := b1_ BK242; have p247 : 0 ≤ ((ji16) : Int) := od_; have q247 : (ji16) < (l0_0.length : Int) := od_; obtain ⟨ad247, e247, hx247_0, hx247_1, hx247_2⟩ := at_T76 HR0_0.out (ji16) p247 q247; obtain rfl : ad243 = ad247 := (by injection e247); have hn247_0 : ad243.block ≠ gb244 := Nat.ne_of_lt (Nat.lt_of_lt_of_le (by have := World.block_lt_of_cell? _ _ hx247_0; first | rwa [add_block] at this | exact this) GW244.out); have hn247_1 : ad243.block ≠ gb244 := Nat.ne_of_lt (Nat.lt_of_lt_of_le (by have := World.block_lt_of_cell? _ _ hx247_0; first | rwa [add_block] at this | exact this) GW244.out); have hn247_2 : ad243.block ≠ gb244 := Nat.ne_of_lt (Nat.lt_of_lt_of_le (by have := World.block_lt_of_cell? _ _ hx247_0; first | rwa [add_block] at this | exact this) GW244.out); replace hx247_0 := hc_ HB hx247_0; replace hx247_1 := hc_ HB hx247_1; replace hx247_2 := hc_ HB hx247_2; replace hx247_0 := (cell_far (p := ⟨gb244, 0, none⟩) ab_ (.string ((rd_T76 l0_0 x8_1).f0))).trans hx247_0; replace hx247_1 := (cell_far (p := ⟨gb244, 0, none⟩) ab_ (.string ((rd_T76 l0_0 x8_1).f0))).trans hx247_1; replace hx247_2 := (cell_far (p := ⟨gb244, 0, none⟩) ab_ (.string ((rd_T76 l0_0 x8_1).f0))).trans hx247_2; replace hx247_0 := (cell_far (p := ⟨gb244, 1, none⟩) ab_ (.string ((rd_T76 l0_0 x8_1).f1))).trans hx247_0; replace hx247_1 := (cell_far (p := ⟨gb244, 1, none⟩) ab_ (.string ((rd_T76 l0_0 x8_1).f1))).trans hx247_1; replace hx247_2 := (cell_far (p := ⟨gb244, 1, none⟩) ab_ (.string ((rd_T76 l0_0 x8_1).f1))).trans hx247_2; replace hx247_0 := (cell_far (p := ⟨gb244, 2, none⟩) ab_ (.int .i64 ((rd_T76 l0_0 x8_1).f2))).trans hx247_0; replace hx247_1 := (cell_far (p := ⟨gb244, 2, none⟩) ab_ (.int .i64 ((rd_T76 l0_0 x8_1).f2))).trans hx247_1; replace hx247_2 := (cell_far (p := ⟨gb244, 2, none⟩) ab_ (.int .i64 ((rd_T76 l0_0 x8_1).f2))).trans hx247_2; (try have hy247_0 := fun (n_ : Nat) => (show (((((w24.drewN n_).setCell ⟨gb244, 0, none⟩ (.string ((rd_T76 l0_0 x8_1).f0))).setCell ⟨gb244, 1, none⟩ (.string ((rd_T76 l0_0 x8_1).f1))).setCell ⟨gb244, 2, none⟩ (.int .i64 ((rd_T76 l0_0 x8_1).f2)))).cell? _ = some _ from hx247_0)); (try have hy247_1 := fun (n_ : Nat) => (show (((((w24.drewN n_).setCell ⟨gb244, 0, none⟩ (.string ((rd_T76 l0_0 x8_1).f0))).setCell ⟨gb244, 1, none⟩ (.string ((rd_T76 l0_0 x8_1).f1))).setCell ⟨gb244, 2, none⟩ (.int .i64 ((rd_T76 l0_0 x8_1).f2)))).cell? _ = some _ from hx247_1)); (try have hy247_2 := fun (n_ : Nat) => (show (((((w24.drewN n_).setCell ⟨gb244, 0, none⟩ (.string ((rd_T76 l0_0 x8_1).f0))).setCell ⟨gb244, 1, none⟩ (.string ((rd_T76 l0_0 x8_1).f1))).setCell ⟨gb244, 2, none⟩ (.int .i64 ((rd_T76 l0_0 x8_1).f2)))).cell? _ = some _ from hx247_2)); clear hn247_0; clear hn247_1; clear hn247_2; replace p247 := eq_true p247; replace q247 := eq_true q247))
             repeat (go_quiet (first | ((with_reducible refine gate_dst (N := 4) rfl ?_); (try (refine gate_guard (by rfl) ?_; dsimp only)); refine bx_ (N := 4) (cs := #[.string (⟨#[]⟩ : ByteArray), .string (⟨#[]⟩ : ByteArray), .int .i64 0]) (t := 76) ?_; intro gb244 hg w24 hbox hb; have BK244 := mk_ (hbox); have GW244 : Aside0 (w.heap.size ≤ gb244) := bz_ hg; have GE244 := GW244; have NB242_244 := bl_ BK242 hg; have NB244_242 := bg_ BK242 hg; replace BK242 := bb_ BK242 hb; replace HB := bs_ HB hb; clear hb hbox hg; have hnb25 := NB244_242.out; have hnc25 := NB242_244.out; obtain ⟨hcz26_0, hcz26_1, hcz26_2, hfz26_0, hfz26_1, hfz26_2⟩ := b3_ BK244) | (go_at_call 59; (with_reducible refine (impl_within.calls (((rd_T76 l0_0 x8_1).f0).size : Int) 1 8 true _ A7.out).mono ?_); rintro e w' ⟨rfl, ⟨nd, rfl⟩⟩; (try first | exact ⟨rfl, _, World.drewN_drewN _ _ _⟩ | exact ⟨rfl, _, Eq.trans (World.drewN_drewN _ _ _) (congrArg (World.drewN _) (Nat.add_assoc _ _ _))⟩)) | (go_at_call 59; (with_reducible refine (impl_within.calls ((rd_T76 l0_0 x8_1).f2) 0 (((rd_T76 l0_0 x8_1).f1).size : Int) true _ A13.out).mono ?_); rintro e w' ⟨rfl, ⟨nd, rfl⟩⟩; (try first | exact ⟨rfl, _, World.drewN_drewN _ _ _⟩ | exact ⟨rfl, _, Eq.trans (World.drewN_drewN _ _ _) (congrArg (World.drewN _) (Nat.add_assoc _ _ _))⟩); obtain ⟨hcz27_0, hfz27_0⟩ := b1_ BK242; have p247 : 0 ≤ ((ji16) : Int) := od_; have q247 : (ji16) < (l0_0.length : Int) := od_; obtain ⟨ad247, e247, hx247_0, hx247_1, hx247_2⟩ := at_T76 HR0_0.out (ji16) p247 q247; obtain rfl : ad243 = ad247 := (by injection e247); have hn247_0 : ad243.block ≠ gb244 := Nat.ne_of_lt (Nat.lt_of_lt_of_le (by have := World.block_lt_of_cell? _ _ hx247_0; first | rwa [add_block] at this | exact this) GW244.out); have hn247_1 : ad243.block ≠ gb244 := Nat.ne_of_lt (Nat.lt_of_lt_of_le (by have := World.block_lt_of_cell? _ _ hx247_0; first | rwa [add_block] at this | exact this) GW244.out); have hn247_2 : ad243.block ≠ gb244 := Nat.ne_of_lt (Nat.lt_of_lt_of_le (by have := World.block_lt_of_cell? _ _ hx247_0; first | rwa [add_block] at this | exact this) GW244.out); replace hx247_0 := hc_ HB hx247_0; replace hx247_1 := hc_ HB hx247_1; replace hx247_2 := hc_ HB hx247_2; replace hx247_0 := (cell_far (p := ⟨gb244, 0, none⟩) ab_ (.string ((rd_T76 l0_0 x8_1).f0))).trans hx247_0; replace hx247_1 := (cell_far (p := ⟨gb244, 0, none⟩) ab_ (.string ((rd_T76 l0_0 x8_1).f0))).trans hx247_1; replace hx247_2 := (cell_far (p := ⟨gb244, 0, none⟩) ab_ (.string ((rd_T76 l0_0 x8_1).f0))).trans hx247_2; replace hx247_0 := (cell_far (p := ⟨gb244, 1, none⟩) ab_ (.string ((rd_T76 l0_0 x8_1).f1))).trans hx247_0; replace hx247_1 := (cell_far (p := ⟨gb244, 1, none⟩) ab_ (.string ((rd_T76 l0_0 x8_1).f1))).trans hx247_1; replace hx247_2 := (cell_far (p := ⟨gb244, 1, none⟩) ab_ (.string ((rd_T76 l0_0 x8_1).f1))).trans hx247_2; replace hx247_0 := (cell_far (p := ⟨gb244, 2, none⟩) ab_ (.int .i64 ((rd_T76 l0_0 x8_1).f2))).trans hx247_0; replace hx247_1 := (cell_far (p := ⟨gb244, 2, none⟩) ab_ (.int .i64 ((rd_T76 l0_0 x8_1).f2))).trans hx247_1; replace hx247_2 := (cell_far (p := ⟨gb244, 2, none⟩) ab_ (.int .i64 ((rd_T76 l0_0 x8_1).f2))).trans hx247_2; (try have hy247_0 := fun (n_ : Nat) => (show (((((w24.drewN n_).setCell ⟨gb244, 0, none⟩ (.string ((rd_T76 l0_0 x8_1).f0))).setCell ⟨gb244, 1, none⟩ (.string ((rd_T76 l0_0 x8_1).f1))).setCell ⟨gb244, 2, none⟩ (.int .i64 ((rd_T76 l0_0 x8_1).f2)))).cell? _ = some _ from hx247_0)); (try have hy247_1 := fun (n_ : Nat) => (show (((((w24.drewN n_).setCell ⟨gb244, 0, none⟩ (.string ((rd_T76 l0_0 x8_1).f0))).setCell ⟨gb244, 1, none⟩ (.string ((rd_T76 l0_0 x8_1).f1))).setCell ⟨gb244, 2, none⟩ (.int .i64 ((rd_T76 l0_0 x8_1).f2)))).cell? _ = some _ from hx247_1)); (try have hy247_2 := fun (n_ : Nat) => (show (((((w24.drewN n_).setCell ⟨gb244, 0, none⟩ (.string ((rd_T76 l0_0 x8_1).f0))).setCell ⟨gb244, 1, none⟩ (.string ((rd_T76 l0_0 x8_1).f1))).setCell ⟨gb244, 2, none⟩ (.int .i64 ((rd_T76 l0_0 x8_1).f2)))).cell? _ = some _ from hx247_2)); clear hn247_0; clear hn247_1; clear hn247_2; replace p247 := eq_true p247; replace q247 := eq_true q247)); try go_wp2_with (first | ((with_reducible refine gate_dst (N := 4) rfl ?_); (try (refine gate_guard (by rfl) ?_; dsimp only)); refine bx_ (N := 4) (cs := #[.string (⟨#[]⟩ : ByteArray), .string (⟨#[]⟩ : ByteArray), .int .i64 0]) (t := 76) ?_; intro gb244 hg w24 hbox hb; have BK244 := mk_ (hbox); have GW244 : Aside0 (w.heap.size ≤ gb244) := bz_ hg; have GE244 := GW244; have NB242_244 := bl_ BK242 hg; have NB244_242 := bg_ BK242 hg; replace BK242 := bb_ BK242 hb; replace HB := bs_ HB hb; clear hb hbox hg; have hnb25 := NB244_242.out; have hnc25 := NB242_244.out; obtain ⟨hcz26_0, hcz26_1, hcz26_2, hfz26_0, hfz26_1, hfz26_2⟩ := b3_ BK244) | (go_at_call 59; (with_reducible refine (impl_within.calls (((rd_T76 l0_0 x8_1).f0).size : Int) 1 8 true _ A7.out).mono ?_); rintro e w' ⟨rfl, ⟨nd, rfl⟩⟩; (try first | exact ⟨rfl, _, World.drewN_drewN _ _ _⟩ | exact ⟨rfl, _, Eq.trans (World.drewN_drewN _ _ _) (congrArg (World.drewN _) (Nat.add_assoc _ _ _))⟩)) | (go_at_call 59; (with_reducible refine (impl_within.calls ((rd_T76 l0_0 x8_1).f2) 0 (((rd_T76 l0_0 x8_1).f1).size : Int) true _ A13.out).mono ?_); rintro e w' ⟨rfl, ⟨nd, rfl⟩⟩; (try first | exact ⟨rfl, _, World.drewN_drewN _ _ _⟩ | exact ⟨rfl, _, Eq.trans (World.drewN_drewN _ _ _) (congrArg (World.drewN _) (Nat.add_assoc _ _ _))⟩); obtain ⟨hcz27_0, hfz27_0⟩ := b1_ BK242; have p247 : 0 ≤ ((ji16) : Int) := od_; have q247 : (ji16) < (l0_0.length : Int) := od_; obtain ⟨ad247, e247, hx247_0, hx247_1, hx247_2⟩ := at_T76 HR0_0.out (ji16) p247 q247; obtain rfl : ad243 = ad247 := (by injection e247); have hn247_0 : ad243.block ≠ gb244 := Nat.ne_of_lt (Nat.lt_of_lt_of_le (by have := World.block_lt_of_cell? _ _ hx247_0; first | rwa [add_block] at this | exact this) GW244.out); have hn247_1 : ad243.block ≠ gb244 := Nat.ne_of_lt (Nat.lt_of_lt_of_le (by have := World.block_lt_of_cell? _ _ hx247_0; first | rwa [add_block] at this | exact this) GW244.out); have hn247_2 : ad243.block ≠ gb244 := Nat.ne_of_lt (Nat.lt_of_lt_of_le (by have := World.block_lt_of_cell? _ _ hx247_0; first | rwa [add_block] at this | exact this) GW244.out); replace hx247_0 := hc_ HB hx247_0; replace hx247_1 := hc_ HB hx247_1; replace hx247_2 := hc_ HB hx247_2; replace hx247_0 := (cell_far (p := ⟨gb244, 0, none⟩) ab_ (.string ((rd_T76 l0_0 x8_1).f0))).trans hx247_0; replace hx247_1 := (cell_far (p := ⟨gb244, 0, none⟩) ab_ (.string ((rd_T76 l0_0 x8_1).f0))).trans hx247_1; replace hx247_2 := (cell_far (p := ⟨gb244, 0, none⟩) ab_ (.string ((rd_T76 l0_0 x8_1).f0))).trans hx247_2; replace hx247_0 := (cell_far (p := ⟨gb244, 1, none⟩) ab_ (.string ((rd_T76 l0_0 x8_1).f1))).trans hx247_0; replace hx247_1 := (cell_far (p := ⟨gb244, 1, none⟩) ab_ (.string ((rd_T76 l0_0 x8_1).f1))).trans hx247_1; replace hx247_2 := (cell_far (p := ⟨gb244, 1, none⟩) ab_ (.string ((rd_T76 l0_0 x8_1).f1))).trans hx247_2; replace hx247_0 := (cell_far (p := ⟨gb244, 2, none⟩) ab_ (.int .i64 ((rd_T76 l0_0 x8_1).f2))).trans hx247_0; replace hx247_1 := (cell_far (p := ⟨gb244, 2, none⟩) ab_ (.int .i64 ((rd_T76 l0_0 x8_1).f2))).trans hx247_1; replace hx247_2 := (cell_far (p := ⟨gb244, 2, none⟩) ab_ (.int .i64 ((rd_T76 l0_0 x8_1).f2))).trans hx247_2; (try have hy247_0 := fun (n_ : Nat) => (show (((((w24.drewN n_).setCell ⟨gb244, 0, none⟩ (.string ((rd_T76 l0_0 x8_1).f0))).setCell ⟨gb244, 1, none⟩ (.string ((rd_T76 l0_0 x8_1).f1))).setCell ⟨gb244, 2, none⟩ (.int .i64 ((rd_T76 l0_0 x8_1).f2)))).cell? _ = some _ from hx247_0)); (try have hy247_1 := fun (n_ : Nat) => (show (((((w24.drewN n_).setCell ⟨gb244, 0, none⟩ (.string ((rd_T76 l0_0 x8_1).f0))).setCell ⟨gb244, 1, none⟩ (.string ((rd_T76 l0_0 x8_1).f1))).setCell ⟨gb244, 2, none⟩ (.int .i64 ((rd_T76 l0_0 x8_1).f2)))).cell? _ = some _ from hx247_1)); (try have hy247_2 := fun (n_ : Nat) => (show (((((w24.drewN n_).setCell ⟨gb244, 0, none⟩ (.string ((rd_T76 l0_0 x8_1).f0))).setCell ⟨gb244, 1, none⟩ (.string ((rd_T76 l0_0 x8_1).f1))).setCell ⟨gb244, 2, none⟩ (.int .i64 ((rd_T76 l0_0 x8_1).f2)))).cell? _ = some _ from hx247_2)); clear hn247_0; clear hn247_1; clear hn247_2; replace p247 := eq_true p247; replace q247 := eq_true q247)))
             go_ret
             exact ⟨by first | rfl | (simp [errW_none, errW_some] <;> rfl) | (simp only [← hji16]; first | rfl | (simp [errW_none, errW_some] <;> rfl)) | (simp [*, errW_none, errW_some] <;> rfl), bw_ HB⟩
           ·rw [if_neg c18] at H
            exact absurd H (by simp)
          ·rw [if_neg c17] at H
           exact absurd H (by simp)
         ·rw [if_neg c15] at H
          have c15b0 : decide (0 < x8_1) = false := decide_eq_false c15
          clear c15
          have H' := Aside0.mk H
          clear H
          have p243 : 0 ≤ (x8_1 : Int) := od_
          have q243 : x8_1 < (l0_0.length : Int) := od_
          obtain ⟨ad243, e243, hx243_0, hx243_1, hx243_2⟩ := at_T76 HR0_0.out x8_1 p243 q243
          cases e243
          replace hx243_0 := hc_ HB hx243_0
          replace hx243_1 := hc_ HB hx243_1
          replace hx243_2 := hc_ HB hx243_2
          replace p243 := eq_true p243
          replace q243 := eq_true q243
          go_wp2_with (first | ((with_reducible refine gate_dst (N := 4) rfl ?_); (try (refine gate_guard (by rfl) ?_; dsimp only)); refine bx_ (N := 4) (cs := #[.string (⟨#[]⟩ : ByteArray), .string (⟨#[]⟩ : ByteArray), .int .i64 0]) (t := 76) ?_; intro gb244 hg w28 hbox hb; have BK244 := mk_ (hbox); have GW244 : Aside0 (w.heap.size ≤ gb244) := bz_ hg; have GE244 := GW244; have NB242_244 := bl_ BK242 hg; have NB244_242 := bg_ BK242 hg; replace BK242 := bb_ BK242 hb; replace HB := bs_ HB hb; clear hb hbox hg; have hnb29 := NB244_242.out; have hnc29 := NB242_244.out; obtain ⟨hcz30_0, hcz30_1, hcz30_2, hfz30_0, hfz30_1, hfz30_2⟩ := b3_ BK244) | (go_at_call 59; (with_reducible refine (impl_within.calls (((rd_T76 l0_0 x8_1).f0).size : Int) 1 8 true _ A7.out).mono ?_); rintro e w' ⟨rfl, ⟨nd, rfl⟩⟩; (try first | exact ⟨rfl, _, World.drewN_drewN _ _ _⟩ | exact ⟨rfl, _, Eq.trans (World.drewN_drewN _ _ _) (congrArg (World.drewN _) (Nat.add_assoc _ _ _))⟩)) | (go_at_call 59; (with_reducible refine (impl_within.calls ((rd_T76 l0_0 x8_1).f2) 0 (((rd_T76 l0_0 x8_1).f1).size : Int) true _ A13.out).mono ?_); rintro e w' ⟨rfl, ⟨nd, rfl⟩⟩; (try first | exact ⟨rfl, _, World.drewN_drewN _ _ _⟩ | exact ⟨rfl, _, Eq.trans (World.drewN_drewN _ _ _) (congrArg (World.drewN _) (Nat.add_assoc _ _ _))⟩)))
          repeat (go_quiet (first | ((with_reducible refine gate_dst (N := 4) rfl ?_); (try (refine gate_guard (by rfl) ?_; dsimp only)); refine bx_ (N := 4) (cs := #[.string (⟨#[]⟩ : ByteArray), .string (⟨#[]⟩ : ByteArray), .int .i64 0]) (t := 76) ?_; intro gb244 hg w28 hbox hb; have BK244 := mk_ (hbox); have GW244 : Aside0 (w.heap.size ≤ gb244) := bz_ hg; have GE244 := GW244; have NB242_244 := bl_ BK242 hg; have NB244_242 := bg_ BK242 hg; replace BK242 := bb_ BK242 hb; replace HB := bs_ HB hb; clear hb hbox hg; have hnb29 := NB244_242.out; have hnc29 := NB242_244.out; obtain ⟨hcz30_0, hcz30_1, hcz30_2, hfz30_0, hfz30_1, hfz30_2⟩ := b3_ BK244) | (go_at_call 59; (with_reducible refine (impl_within.calls (((rd_T76 l0_0 x8_1).f0).size : Int) 1 8 true _ A7.out).mono ?_); rintro e w' ⟨rfl, ⟨nd, rfl⟩⟩; (try first | exact ⟨rfl, _, World.drewN_drewN _ _ _⟩ | exact ⟨rfl, _, Eq.trans (World.drewN_drewN _ _ _) (congrArg (World.drewN _) (Nat.add_assoc _ _ _))⟩)) | (go_at_call 59; (with_reducible refine (impl_within.calls ((rd_T76 l0_0 x8_1).f2) 0 (((rd_T76 l0_0 x8_1).f1).size : Int) true _ A13.out).mono ?_); rintro e w' ⟨rfl, ⟨nd, rfl⟩⟩; (try first | exact ⟨rfl, _, World.drewN_drewN _ _ _⟩ | exact ⟨rfl, _, Eq.trans (World.drewN_drewN _ _ _) (congrArg (World.drewN _) (Nat.add_assoc _ _ _))⟩))); try go_wp2_with (first | ((with_reducible refine gate_dst (N := 4) rfl ?_); (try (refine gate_guard (by rfl) ?_; dsimp only)); refine bx_ (N := 4) (cs := #[.string (⟨#[]⟩ : ByteArray), .string (⟨#[]⟩ : ByteArray), .int .i64 0]) (t := 76) ?_; intro gb244 hg w28 hbox hb; have BK244 := mk_ (hbox); have GW244 : Aside0 (w.heap.size ≤ gb244) := bz_ hg; have GE244 := GW244; have NB242_244 := bl_ BK242 hg; have NB244_242 := bg_ BK242 hg; replace BK242 := bb_ BK242 hb; replace HB := bs_ HB hb; clear hb hbox hg; have hnb29 := NB244_242.out; have hnc29 := NB242_244.out; obtain ⟨hcz30_0, hcz30_1, hcz30_2, hfz30_0, hfz30_1, hfz30_2⟩ := b3_ BK244) | (go_at_call 59; (with_reducible refine (impl_within.calls (((rd_T76 l0_0 x8_1).f0).size : Int) 1 8 true _ A7.out).mono ?_); rintro e w' ⟨rfl, ⟨nd, rfl⟩⟩; (try first | exact ⟨rfl, _, World.drewN_drewN _ _ _⟩ | exact ⟨rfl, _, Eq.trans (World.drewN_drewN _ _ _) (congrArg (World.drewN _) (Nat.add_assoc _ _ _))⟩)) | (go_at_call 59; (with_reducible refine (impl_within.calls ((rd_T76 l0_0 x8_1).f2) 0 (((rd_T76 l0_0 x8_1).f1).size : Int) true _ A13.out).mono ?_); rintro e w' ⟨rfl, ⟨nd, rfl⟩⟩; (try first | exact ⟨rfl, _, World.drewN_drewN _ _ _⟩ | exact ⟨rfl, _, Eq.trans (World.drewN_drewN _ _ _) (congrArg (World.drewN _) (Nat.add_assoc _ _ _))⟩))))
          go_roundg k1
          case measure => have := HK1.out; omega
          case rel => exact ⟨(wrap64 (x8_1 + 1)), (by first | rfl | (simp; done) | (simp [*]; done)), H', ⟨by have := HK1.out; omega⟩, ⟨bf_⟩, ⟨bw_ HB⟩⟩
        ·replace c14 := Bool.eq_false_iff.mpr c14
         subst c14
         have H1 : (some false) = some r := by rw [if_neg (show ¬ (false = true) by decide)] at H; exact H
         clear H
         have H := H1
         clear H1
         obtain rfl := Option.some.inj H
         have p243 : 0 ≤ (x8_1 : Int) := od_
         have q243 : x8_1 < (l0_0.length : Int) := od_
         obtain ⟨ad243, e243, hx243_0, hx243_1, hx243_2⟩ := at_T76 HR0_0.out x8_1 p243 q243
         cases e243
         replace hx243_0 := hc_ HB hx243_0
         replace hx243_1 := hc_ HB hx243_1
         replace hx243_2 := hc_ HB hx243_2
         replace p243 := eq_true p243
         replace q243 := eq_true q243
         go_wp2_with (first | ((with_reducible refine gate_dst (N := 4) rfl ?_); (try (refine gate_guard (by rfl) ?_; dsimp only)); refine bx_ (N := 4) (cs := #[.string (⟨#[]⟩ : ByteArray), .string (⟨#[]⟩ : ByteArray), .int .i64 0]) (t := 76) ?_; intro gb244 hg w31 hbox hb; have BK244 := mk_ (hbox); have GW244 : Aside0 (w.heap.size ≤ gb244) := bz_ hg; have GE244 := GW244; have NB242_244 := bl_ BK242 hg; have NB244_242 := bg_ BK242 hg; replace BK242 := bb_ BK242 hb; replace HB := bs_ HB hb; clear hb hbox hg; have hnb32 := NB244_242.out; have hnc32 := NB242_244.out; obtain ⟨hcz33_0, hcz33_1, hcz33_2, hfz33_0, hfz33_1, hfz33_2⟩ := b3_ BK244) | (go_at_call 59; (with_reducible refine (impl_within.calls (((rd_T76 l0_0 x8_1).f0).size : Int) 1 8 true _ A7.out).mono ?_); rintro e w' ⟨rfl, ⟨nd, rfl⟩⟩; (try first | exact ⟨rfl, _, World.drewN_drewN _ _ _⟩ | exact ⟨rfl, _, Eq.trans (World.drewN_drewN _ _ _) (congrArg (World.drewN _) (Nat.add_assoc _ _ _))⟩)) | (go_at_call 59; (with_reducible refine (impl_within.calls ((rd_T76 l0_0 x8_1).f2) 0 (((rd_T76 l0_0 x8_1).f1).size : Int) false _ A13.out).mono ?_); rintro e w' ⟨rfl, ⟨nd, rfl⟩⟩; (try first | exact ⟨rfl, _, World.drewN_drewN _ _ _⟩ | exact ⟨rfl, _, Eq.trans (World.drewN_drewN _ _ _) (congrArg (World.drewN _) (Nat.add_assoc _ _ _))⟩)))
         repeat (go_quiet (first | ((with_reducible refine gate_dst (N := 4) rfl ?_); (try (refine gate_guard (by rfl) ?_; dsimp only)); refine bx_ (N := 4) (cs := #[.string (⟨#[]⟩ : ByteArray), .string (⟨#[]⟩ : ByteArray), .int .i64 0]) (t := 76) ?_; intro gb244 hg w31 hbox hb; have BK244 := mk_ (hbox); have GW244 : Aside0 (w.heap.size ≤ gb244) := bz_ hg; have GE244 := GW244; have NB242_244 := bl_ BK242 hg; have NB244_242 := bg_ BK242 hg; replace BK242 := bb_ BK242 hb; replace HB := bs_ HB hb; clear hb hbox hg; have hnb32 := NB244_242.out; have hnc32 := NB242_244.out; obtain ⟨hcz33_0, hcz33_1, hcz33_2, hfz33_0, hfz33_1, hfz33_2⟩ := b3_ BK244) | (go_at_call 59; (with_reducible refine (impl_within.calls (((rd_T76 l0_0 x8_1).f0).size : Int) 1 8 true _ A7.out).mono ?_); rintro e w' ⟨rfl, ⟨nd, rfl⟩⟩; (try first | exact ⟨rfl, _, World.drewN_drewN _ _ _⟩ | exact ⟨rfl, _, Eq.trans (World.drewN_drewN _ _ _) (congrArg (World.drewN _) (Nat.add_assoc _ _ _))⟩)) | (go_at_call 59; (with_reducible refine (impl_within.calls ((rd_T76 l0_0 x8_1).f2) 0 (((rd_T76 l0_0 x8_1).f1).size : Int) false _ A13.out).mono ?_); rintro e w' ⟨rfl, ⟨nd, rfl⟩⟩; (try first | exact ⟨rfl, _, World.drewN_drewN _ _ _⟩ | exact ⟨rfl, _, Eq.trans (World.drewN_drewN _ _ _) (congrArg (World.drewN _) (Nat.add_assoc _ _ _))⟩))); try go_wp2_with (first | ((with_reducible refine gate_dst (N := 4) rfl ?_); (try (refine gate_guard (by rfl) ?_; dsimp only)); refine bx_ (N := 4) (cs := #[.string (⟨#[]⟩ : ByteArray), .string (⟨#[]⟩ : ByteArray), .int .i64 0]) (t := 76) ?_; intro gb244 hg w31 hbox hb; have BK244 := mk_ (hbox); have GW244 : Aside0 (w.heap.size ≤ gb244) := bz_ hg; have GE244 := GW244; have NB242_244 := bl_ BK242 hg; have NB244_242 := bg_ BK242 hg; replace BK242 := bb_ BK242 hb; replace HB := bs_ HB hb; clear hb hbox hg; have hnb32 := NB244_242.out; have hnc32 := NB242_244.out; obtain ⟨hcz33_0, hcz33_1, hcz33_2, hfz33_0, hfz33_1, hfz33_2⟩ := b3_ BK244) | (go_at_call 59; (with_reducible refine (impl_within.calls (((rd_T76 l0_0 x8_1).f0).size : Int) 1 8 true _ A7.out).mono ?_); rintro e w' ⟨rfl, ⟨nd, rfl⟩⟩; (try first | exact ⟨rfl, _, World.drewN_drewN _ _ _⟩ | exact ⟨rfl, _, Eq.trans (World.drewN_drewN _ _ _) (congrArg (World.drewN _) (Nat.add_assoc _ _ _))⟩)) | (go_at_call 59; (with_reducible refine (impl_within.calls ((rd_T76 l0_0 x8_1).f2) 0 (((rd_T76 l0_0 x8_1).f1).size : Int) false _ A13.out).mono ?_); rintro e w' ⟨rfl, ⟨nd, rfl⟩⟩; (try first | exact ⟨rfl, _, World.drewN_drewN _ _ _⟩ | exact ⟨rfl, _, Eq.trans (World.drewN_drewN _ _ _) (congrArg (World.drewN _) (Nat.add_assoc _ _ _))⟩))))
         go_ret
         exact ⟨er_, bw_ HB⟩
      ·replace c8 := Bool.eq_false_iff.mpr c8
       subst c8
       have H1 : (some false) = some r := by rw [if_neg (show ¬ (false = true) by decide)] at H; exact H
       clear H
       have H := H1
       clear H1
       obtain rfl := Option.some.inj H
       have p243 : 0 ≤ (x8_1 : Int) := od_
       have q243 : x8_1 < (l0_0.length : Int) := od_
       obtain ⟨ad243, e243, hx243_0, hx243_1, hx243_2⟩ := at_T76 HR0_0.out x8_1 p243 q243
       cases e243
       replace hx243_0 := hc_ HB hx243_0
       replace hx243_1 := hc_ HB hx243_1
       replace hx243_2 := hc_ HB hx243_2
       replace p243 := eq_true p243
       replace q243 := eq_true q243
       go_wp2_with (first | ((with_reducible refine gate_dst (N := 4) rfl ?_); (try (refine gate_guard (by rfl) ?_; dsimp only)); refine bx_ (N := 4) (cs := #[.string (⟨#[]⟩ : ByteArray), .string (⟨#[]⟩ : ByteArray), .int .i64 0]) (t := 76) ?_; intro gb244 hg w34 hbox hb; have BK244 := mk_ (hbox); have GW244 : Aside0 (w.heap.size ≤ gb244) := bz_ hg; have GE244 := GW244; have NB242_244 := bl_ BK242 hg; have NB244_242 := bg_ BK242 hg; replace BK242 := bb_ BK242 hb; replace HB := bs_ HB hb; clear hb hbox hg; have hnb35 := NB244_242.out; have hnc35 := NB242_244.out; obtain ⟨hcz36_0, hcz36_1, hcz36_2, hfz36_0, hfz36_1, hfz36_2⟩ := b3_ BK244) | (go_at_call 59; (with_reducible refine (impl_within.calls (((rd_T76 l0_0 x8_1).f0).size : Int) 1 8 false _ A7.out).mono ?_); rintro e w' ⟨rfl, ⟨nd, rfl⟩⟩; (try first | exact ⟨rfl, _, World.drewN_drewN _ _ _⟩ | exact ⟨rfl, _, Eq.trans (World.drewN_drewN _ _ _) (congrArg (World.drewN _) (Nat.add_assoc _ _ _))⟩)))
       repeat (go_quiet (first | ((with_reducible refine gate_dst (N := 4) rfl ?_); (try (refine gate_guard (by rfl) ?_; dsimp only)); refine bx_ (N := 4) (cs := #[.string (⟨#[]⟩ : ByteArray), .string (⟨#[]⟩ : ByteArray), .int .i64 0]) (t := 76) ?_; intro gb244 hg w34 hbox hb; have BK244 := mk_ (hbox); have GW244 : Aside0 (w.heap.size ≤ gb244) := bz_ hg; have GE244 := GW244; have NB242_244 := bl_ BK242 hg; have NB244_242 := bg_ BK242 hg; replace BK242 := bb_ BK242 hb; replace HB := bs_ HB hb; clear hb hbox hg; have hnb35 := NB244_242.out; have hnc35 := NB242_244.out; obtain ⟨hcz36_0, hcz36_1, hcz36_2, hfz36_0, hfz36_1, hfz36_2⟩ := b3_ BK244) | (go_at_call 59; (with_reducible refine (impl_within.calls (((rd_T76 l0_0 x8_1).f0).size : Int) 1 8 false _ A7.out).mono ?_); rintro e w' ⟨rfl, ⟨nd, rfl⟩⟩; (try first | exact ⟨rfl, _, World.drewN_drewN _ _ _⟩ | exact ⟨rfl, _, Eq.trans (World.drewN_drewN _ _ _) (congrArg (World.drewN _) (Nat.add_assoc _ _ _))⟩))); try go_wp2_with (first | ((with_reducible refine gate_dst (N := 4) rfl ?_); (try (refine gate_guard (by rfl) ?_; dsimp only)); refine bx_ (N := 4) (cs := #[.string (⟨#[]⟩ : ByteArray), .string (⟨#[]⟩ : ByteArray), .int .i64 0]) (t := 76) ?_; intro gb244 hg w34 hbox hb; have BK244 := mk_ (hbox); have GW244 : Aside0 (w.heap.size ≤ gb244) := bz_ hg; have GE244 := GW244; have NB242_244 := bl_ BK242 hg; have NB244_242 := bg_ BK242 hg; replace BK242 := bb_ BK242 hb; replace HB := bs_ HB hb; clear hb hbox hg; have hnb35 := NB244_242.out; have hnc35 := NB242_244.out; obtain ⟨hcz36_0, hcz36_1, hcz36_2, hfz36_0, hfz36_1, hfz36_2⟩ := b3_ BK244) | (go_at_call 59; (with_reducible refine (impl_within.calls (((rd_T76 l0_0 x8_1).f0).size : Int) 1 8 false _ A7.out).mono ?_); rintro e w' ⟨rfl, ⟨nd, rfl⟩⟩; (try first | exact ⟨rfl, _, World.drewN_drewN _ _ _⟩ | exact ⟨rfl, _, Eq.trans (World.drewN_drewN _ _ _) (congrArg (World.drewN _) (Nat.add_assoc _ _ _))⟩))))
       go_ret
       exact ⟨er_, bw_ HB⟩
     ·rw [if_neg c6] at H
      exact absurd H (by simp)
    ·rw [if_neg c5] at H
     exact absurd H (by simp)
   ·rw [if_neg c4] at H
    have c4b0 : decide (x8_1 < (l0_0.length : Int)) = false := decide_eq_false c4
    clear c4
    obtain rfl := Option.some.inj H
    have hcz37_0 : wr.cell? ⟨gb242, 0, none⟩ = some (.slice A0_0 l0_0.length c0_0) := bc_ BK242 0
    have hfz37_0 := blk_frozen BK242.out 0
    go_wp2
    repeat (go_quiet (fail); try go_wp2)
    go_ret
    exact ⟨er_, bw_ HB⟩

/-! ### impl_copyDisk: function 46 -/
def impl_copyDisk.f (l0_0 : List (S76)) : Option ((List (S76))) := if ([] : List (S76)).length + l0_0.length < 3518437208883 then (some (([] : List (S76)) ++ l0_0)) else (none)
set_option maxHeartbeats 8000000 in
set_option maxRecDepth 100000 in
theorem impl_copyDisk.calls (A0_0 : Option Addr) (c0_0 : Nat) (l0_0 : List (S76)) (r : List (S76)) (w : World) (hr0_0 : Kd.C k76 w A0_0 l0_0.length l0_0) (hc0_0 : l0_0.length ≤ c0_0) (h : impl_copyDisk.f l0_0 = some r) :
  Calls Try.prog 46 #[.agg #[.slice A0_0 l0_0.length c0_0]] w fun e w' => ∃ v0_ : Value, e = .returned (.agg #[v0_]) ∧ Kd.R k76 76 w' w.heap.size (fun _ => True) v0_ r ∧ Below w.heap.size w w' := by
 have hu31 := Try.underlying31
 have HR0_0 := Aside0.mk hr0_0
 have HC0_0 := Aside0.mk hc0_0
 clear hr0_0 hc0_0
 have HB := mk_ (Below.refl w.heap.size w)
 have H : (if ([] : List (S76)).length + l0_0.length < 3518437208883 then (some (([] : List (S76)) ++ l0_0)) else (none)) = some r := h
 clear h
 by_cases c2 : ([] : List (S76)).length + l0_0.length < 3518437208883
 ·rw [if_pos c2] at H
  have LMc2 := Aside0.mk c2
  clear c2
  obtain ⟨y250, hy250⟩ : ∃ y_ : List (S76), y_ = (([] : List (S76)) ++ l0_0) := ⟨_, rfl⟩
  replace H : (some y250) = some r := by first | (rw [hy250]; with_reducible exact H) | (have H2_ := (Option.bind_some _ _).symm.trans H; rw [hy250]; with_reducible exact H2_) | (have H2_ := (Option.bind_some _ _).symm.trans H; with_reducible exact H2_) | with_reducible exact H | (rw [hy250]; exact H) | exact H
  have Ny250 := Aside0.mk hy250
  clear hy250
  obtain rfl := Option.some.inj H
  go_enter Try.func46, Try.ntmps46
  go_wp2_with (first | ((with_reducible refine gate_dst (N := 1) rfl ?_); refine bx_ (N := 1) (cs := #[.slice A0_0 l0_0.length c0_0]) (t := 31) ?_; intro gb248 hg w3 hbox hb; have BK248 := mk_ (hbox); have GW248 : Aside0 (w.heap.size ≤ gb248) := bz_ hg; have GE248 := GW248; replace HB := bs_ HB hb; clear hb hbox hg) | ((with_reducible refine gate_dst (N := 2) rfl ?_); refine bx_ (N := 2) (cs := #[.slice none 0 0]) (t := 31) ?_; intro gb249 hg w4 hbox hb; have BK249 := mk_ (hbox); have GW249 : Aside0 (w.heap.size ≤ gb249) := bz_ hg; have GE249 := GW249; have NB248_249 := bl_ BK248 hg; have NB249_248 := bg_ BK248 hg; replace BK248 := bb_ BK248 hb; replace HB := bs_ HB hb; clear hb hbox hg; have hnb5 := NB248_249.out; have hnc5 := NB249_248.out; obtain ⟨hcz6_0, hfz6_0⟩ := b1_ BK248) | ((with_reducible refine gate_builtin (b := .append) (xs := #[.const (.slice none 0 0), .tmp 4]) rfl ?_); at_builtin; refine Kd.R_append_rows k76 (w0 := w) w.heap.size rfl (.const (.slice none 0 0)) (.tmp 4) 29 76 (.agg #[(.string ⟨#[]⟩), (.string ⟨#[]⟩), (.int .i64 0)]) 40 rfl Try.underlying29 info76 rfl (by decide) (by omega) (.slice none 0 0) ([] : List (S76)) l0_0 _ _ _ (fun _ => True) (fun _ => False) rfl rfl ?aO ?aR (fun _ _ h => h) (fun _ h => h.elim) ?aF ?aB ?aS ?aL ?_; (case aR => repeat (first | exact (Kd.C_below HR0_0.out HB.out) | (with_reducible refine Kd.C_alloc ?_ _) | (with_reducible refine Kd.C_drewN ?_ _) | (with_reducible refine Kd.C_drew ?_))); (case aB => exact (bw_ HB)); (case aF => exact (fun _ _ => trivial)); (case aO => exact ((Kd.R_nil _ _ _ _ (fun _ => True)))); (case aS => exact (below_size (bw_ HB))); (case aL => have := LMc2.out; omega); intro v251 w7 ho hb hg hat; rw [← Ny250.out] at ho; have HO252 := mk_ (ho); replace BK248 := mk_ (blk_grown (g := gb248) (o := .cells #[.slice A0_0 l0_0.length c0_0] 31 (0, 0)) (bp_ BK248) hg (by simp [Value.ownBlock])); replace BK249 := mk_ (blk_grown (g := gb249) (o := .cells #[.slice none 0 0] 31 (0, 0)) (bp_ BK249) hg (by simp [Value.ownBlock])); replace HB := mk_ (hb); clear ho hb hg hat; obtain ⟨Ao8, co8, eo8⟩ := Kd.R_slice HO252.out; subst eo8; obtain ⟨hcz9_0, hfz9_0⟩ := b1_ BK249))
  refine bodyPost_ret (results_cell_row rfl _ _ gb249 31 #[.slice Ao8 y250.length co8] (0, 0) _ rfl bu_ Try.underlying31 rfl (by kernel_rfl)) rfl ?_
  exact ⟨_, er_, by (with_reducible repeat (first | apply Kd.R_alloc | apply Kd.R_drewN | apply Kd.R_drew)); exact Kd.R_mono (Kd.R_far (p := ⟨gb249, 0, none⟩) (Kd.R_types HO252.out BK249.out (by decide)) (fun _ hk => hk.2) (.slice Ao8 y250.length co8)) (fun _ hk => trivial), bw_ HB⟩
 ·rw [if_neg c2] at H
  exact absurd H (by simp)

/-! ### impl_File_48: function 48 -/
def enc76 (x : S76) : List Value := [.string x.f0, .string x.f1, .int .i64 x.f2]
theorem own76 {w : World} {base : Nat} {ok : Nat → Prop} {v : Value} {l : List S76} (h : k76.R 76 w base ok v l) : w.ownsRow base 76 3 v l.length (l.flatMap enc76) := Ins.own_of_Rk (fun h => k76_openM h) h
theorem R76 {w : World} {base : Nat} {ok : Nat → Prop} {v : Value} {l : List S76} (hok : ∀ k, v.ownBlock = some k → ok k) (h : w.ownsRow base 76 3 v l.length (l.flatMap enc76)) : k76.R 76 w base ok v l := Ins.Rk_of_own (fun w base ok x => k76_mkM w base ok x) (fun _ => rfl) hok h
theorem one76 (l : List S76) : ∀ u ∈ l.flatMap enc76, u.oneCell' = true := by
 intro u hu
 obtain ⟨x, _, hx⟩ := List.mem_flatMap.1 hu
 simp only [enc76, List.mem_cons, List.not_mem_nil, or_false] at hx
 rcases hx with rfl | rfl | rfl <;> rfl
theorem len76 (l : List S76) : (l.flatMap enc76).length = l.length * 3 := Ins.fl_len (enc := enc76) (fun _ => rfl) l
set_option maxHeartbeats 4000000 in
set_option maxRecDepth 100000 in
theorem fileDelete (base g cap i : Nat) (l : List S76) (w : World) (hi : i < l.length) (hl : l.length < 3518437208883)
  (h : w.ownsRow base 76 3 (.slice (some ⟨g, 0, none⟩) l.length cap) l.length (l.flatMap enc76)) :
  Calls Try.prog 48 #[.slice (some ⟨g, 0, none⟩) l.length cap, .int .i64 i, .int .i64 ((i : Int) + 1)] w fun e w' =>
   e = .returned (.slice (some ⟨g, 0, none⟩) (l.length - 1) cap) ∧ w'.ownsRow base 76 3 (.slice (some ⟨g, 0, none⟩) (l.length - 1) cap) (l.length - 1) ((l.take i ++ l.drop (i + 1)).flatMap enc76) ∧ w.grownBy w' (some g) := by
 have hu29 := Try.underlying29
 have hu76 := Try.underlying76
 obtain ⟨t1, t2, t3, hnc, hcm, hb, hgl⟩ := Ins.own_there h
 have hcut := Ins.own_cut (w := w.drew) (enc := enc76) (fun _ => rfl) hi h
 obtain ⟨m, hm⟩ : ∃ m, l.length = i + 1 + m := ⟨l.length - (i + 1), by omega⟩
 obtain ⟨news, hnews⟩ : ∃ news, news = (l.drop (i + 1)).flatMap enc76 := ⟨_, rfl⟩
 have hlen : news.length = m * 3 := by rw [hnews, len76, List.length_drop, hm]; congr 1; omega
 have hget : ∀ t u, news[t]? = some u → w.cell? ⟨g, (i + 1) * 3 + t, none⟩ = some u := fun t u hu => by
  refine t3 _ _ ?_
  rw [hnews, ← Ins.fl_drop (enc := enc76) (sz := 3) (fun _ => rfl), List.getElem?_drop] at hu
  exact hu
 obtain ⟨A, hA, hsrc⟩ : ∃ A : Addr, (if cap = i + 1 then some (⟨g, 0, none⟩ : Addr) else some ⟨g, (i + 1) * 3, none⟩) = some A ∧ Aside0 (∀ t u, news[t]? = some u → w.drew.cell? (A.add t) = some u) := by
  by_cases hc : cap = i + 1
  ·refine ⟨⟨g, 0, none⟩, by simp [hc], ⟨fun t u hu => ?_⟩⟩
   have h0 : news.length = 0 := by rw [hlen]; omega
   rw [List.length_eq_zero_iff.1 h0] at hu
   simp at hu
  ·exact ⟨⟨g, (i + 1) * 3, none⟩, by simp [hc], ⟨fun t u hu => by rw [Addr.add_lit]; exact hget t u hu⟩⟩
 have s1 := Aside0.mk hlen
 have s2 : Aside0 (∀ u ∈ news, u.oneCell' = true) := ⟨by rw [hnews]; exact one76 _⟩
 have s3 : Aside0 (∀ t, t < news.length → (w.drew.cell? ⟨g, 0 + i * 3 + t, none⟩).isSome = true ∧ w.drew.frozen? ⟨g, 0 + i * 3 + t, none⟩ = false) := ⟨fun t ht => by
  rw [hlen] at ht
  refine ⟨t1 _ ?_, t2 _⟩
  have : (i + 1 + m) * 3 ≤ cap * 3 := Nat.mul_le_mul_right _ (by omega)
  omega⟩
 obtain ⟨i0, hi0, hz0, hz1, hz2⟩ := info_parts info76
 obtain ⟨W1, hW1⟩ : ∃ W1, W1 = w.drew.setCells g (0 + i * 3) news := ⟨_, rfl⟩
 have hcap0 : (cap : Int) ≤ 9223372036854775807 := by unfold maxLen at hcm; omega
 rw [Nat.zero_add] at hW1
 rw [← hnews, ← hW1] at hcut
 obtain ⟨u1, u2, _⟩ := Ins.own_there hcut.1
 obtain ⟨zs, hzs⟩ : ∃ zs : List Value, zs = [.string ⟨#[]⟩, .string ⟨#[]⟩, .int .i64 0] := ⟨_, rfl⟩
 have hzl : zs.length = 3 := by rw [hzs]; rfl
 have hfit : (i + m) * 3 + zs.length ≤ cap * 3 := by
  have : (i + 1 + m) * 3 ≤ cap * 3 := Nat.mul_le_mul_right _ (by omega)
  rw [hzl]; omega
 have hcl : ∀ ty, (Builtin.clear_ #[29] ty #[.slice (some ⟨g, (i + m) * 3, none⟩) (i + 1 + m - (i + m)) (cap - (i + m))]).run Try.prog (w.drew.setCells g (i * 3) news) = .ok (.tuple #[]) ((w.drew.setCells g (i * 3) news).setCells g ((i + m) * 3) zs) := fun ty => by
  rw [← hW1]
  refine Ins.run_clear_sz W1 29 76 ty (.agg #[.string ⟨#[]⟩, .string ⟨#[]⟩, .int .i64 0]) hu29 (fun w => by simp [zeroValue, typeInfo, hi0, hz0]) g ((i + m) * 3) _ _ zs (by omega) ?_ (fun j hj => u1 _ (by omega)) (fun j hj => u2 _) (by rw [hzs]; decide)
  rw [hzs, show i + 1 + m - (i + m) = 1 from by omega]
  exact (Ins.zero_fl (enc := enc76) (sz := 3) (z0 := z76) (fun _ => rfl) (by decide) rfl 1).trans rfl
 have hl1 : l.length - 1 = i + m := by omega
 rw [hl1] at hcut
 have hbe := Ins.own_behind hcut.1 zs hfit
 have HC := Aside0.mk hcut
 have HE := Aside0.mk hbe
 have X := Aside0.mk hW1
 have HM := Aside0.mk hm
 have HG := Aside0.mk h
 have hq1 : (i : Int) + 1 + (m : Int) ≤ (cap : Int) := by omega
 have hq2 : 0 ≤ (i : Int) + 1 + (m : Int) := by omega
 have hq3 : i ≤ cap := by omega
 have hq4 : i + 1 ≤ cap := by omega
 have hq5 : (0 : Int) ≤ (i : Int) + 1 := by omega
 have hq6 : (i : Int) + 1 ≤ (i : Int) + 1 + (m : Int) := by omega
 have hq7 : (i : Int) + (m : Int) ≤ (i : Int) + 1 + (m : Int) := by omega
 have hq8 : (0 : Int) ≤ (i : Int) + (m : Int) := by omega
 have hq9 : ¬ (cap = i + m) := by omega
 clear hcut hget h t1 t2 t3 hlen hnews hW1 hm hnc hl hi hbe hfit hzl hzs u1 u2 hl1
 rw [HM.out] at *
 go_enter Try.func48, Try.ntmps48
 go_wp2_with fail
 go_region_law (refine step_append_room rfl (.tmp 22) (.tmp 25) 29 rfl 76 i0 3 hu29 hi0 hz1 g 0 i cap (by simp [Act.eval, Act.put]) A m (cap - (i + 1)) news (by simp [Act.eval, Act.put]) s1.out hsrc.out s2.out (by omega) s3.out ?_)
 go_wp2
 go_ret
 refine ⟨by rw [show i + 1 + m - 1 = i + m from by omega]; rfl, ?_⟩
 rw [show i + 1 + m - 1 = i + m from by omega]
 have h1 := HC.out
 have h2 := HE.out
 rw [X.out] at h1 h2
 exact ⟨h2.1, ⟨h2.2.os.trans h1.2.os, h2.2.tape.trans h1.2.tape, h2.2.output.trans h1.2.output, Nat.le_trans h1.2.size h2.2.size, fun k hk hne => (h2.2.block k (Nat.lt_of_lt_of_le hk h1.2.size) hne).trans (h1.2.block k hk hne)⟩⟩

end Go.Proofs.Ythbaoefbccdioaa.QFnExactDoActs
