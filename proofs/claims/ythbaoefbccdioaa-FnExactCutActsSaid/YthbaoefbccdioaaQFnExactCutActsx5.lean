/- Written by this session's own program (wip/tpl/pp.py): what the law's functions come to, and that the machine's calls do just that. -/
import Derived.Test.YthbaoefbccdioaaQFnExactCutActsx0
import Derived.Test.YthbaoefbccdioaaQFnExactCutActsx2
namespace Go.Proofs.Ythbaoefbccdioaa.QFnExactCutActs
open Go.RowKit Go.Proofs.YthbaoefbccdioaaW.PrintWords Go.Proofs.YthbaoefbccdioaaW.PrintLast Go.Proofs.YthbaoefbccdioaaW.PrintMore
attribute [local go_sem] Go.Proofs.Ythbaoefbccdioaa.Sem.string_geq Go.Proofs.Ythbaoefbccdioaa.Sem.string_leq Go.Proofs.Ythbaoefbccdioaa.Sem.string_gtr
attribute [local go_sem] max2_int min2_int max_two min_two max_three min_three max_four min_four   -- for this text's walks alone
set_option linter.unusedVariables false
set_option linter.unusedSimpArgs false

/-! ### laws_markActS: function 22 -/
def laws_markActS.l0 : Nat → List (S35) → Int → Int → Option (Int × (List (S35)))
 | 0, _, _, _ => none
 | k + 1, x0, x1, x5 => if x5 < (x0.length : Int) then (if 0 ≤ x5 then ((some (x0.set (x5 : Int).toNat (⟨x1, (rd_T35 x0 x5).f1, (rd_T35 x0 x5).f2, (rd_T35 x0 x5).f3⟩ : S35) : List (S35))).bind fun y169 => ((laws_markText.f k (wrap64 (x1 + 1))).bind fun t170 => ((some (y169.set (x5 : Int).toNat (⟨(rd_T35 y169 x5).f0, t170, (rd_T35 y169 x5).f2, (rd_T35 y169 x5).f3⟩ : S35) : List (S35))).bind fun y171 => ((laws_markText.f k (wrap64 ((wrap64 (x1 + 1)) + 1))).bind fun t172 => ((some (y171.set (x5 : Int).toNat (⟨(rd_T35 y171 x5).f0, (rd_T35 y171 x5).f1, t172, (rd_T35 y171 x5).f3⟩ : S35) : List (S35))).bind fun y173 => ((laws_markText.f k (wrap64 ((wrap64 ((wrap64 (x1 + 1)) + 1)) + 1))).bind fun t174 => (laws_markActS.l0 k (y173.set (x5 : Int).toNat (⟨(rd_T35 y173 x5).f0, (rd_T35 y173 x5).f1, (rd_T35 y173 x5).f2, t174⟩ : S35)) (wrap64 ((wrap64 ((wrap64 ((wrap64 (x1 + 1)) + 1)) + 1)) + 1)) (wrap64 (x5 + 1))))))))) else (none)) else (some (x1, x0))
def laws_markActS.f (k : Nat) (l0 : List (S35)) (a1 : Int) : Option (Int × (List (S35))) := laws_markActS.l0 k l0 a1 0
theorem laws_markActS.mono_l : ∀ k, (∀ y0 y1 y2, LeO (laws_markActS.l0 k y0 y1 y2) (laws_markActS.l0 (k + 1) y0 y1 y2))
 | 0 => fun _ _ _ r h => by simp [laws_markActS.l0] at h
 | k + 1 => by
  have ih0 := laws_markActS.mono_l k
  ·intro y0 y1 y2
   unfold laws_markActS.l0
   repeat' first
   | (with_reducible exact ih0 _ _ _)
   | (with_reducible exact laws_markText.mono _ _)
   | (with_reducible exact LeO.refl _)
   | (with_reducible refine LeO.ite ?_ ?_)
   | (with_reducible refine LeO.bind ?_ (fun _ => ?_))
theorem laws_markActS.mono : ∀ a0 a1 k, LeO (laws_markActS.f k a0 a1) (laws_markActS.f (k + 1) a0 a1) := by
 intro a0 a1 k
 have ih0 := laws_markActS.mono_l k
 unfold laws_markActS.f
 repeat' first
   | (with_reducible exact ih0 _ _ _)
set_option maxHeartbeats 8000000 in
set_option maxRecDepth 100000 in
theorem laws_markActS.calls (k : Nat) (P0_ : Nat → Prop) (u9000_ : Value) (l0 : List (S35)) (a1 : Int) (r1 : Int) (r2 : List (S35)) (w0 w : World) (hB : Below w0.heap.size w0 w) (ho0 : Kd.R k35 35 w w0.heap.size P0_ u9000_ l0) (h : laws_markActS.f k l0 a1 = some (r1, r2)) :
  Calls Try.prog 22 #[u9000_, .int .i64 a1] w fun e w' => e = .returned (.int .i64 r1) ∧ Kd.R k35 35 w' w0.heap.size (fun k_ => (P0_ k_ ∨ w.heap.size ≤ k_)) u9000_ r2 ∧ Below w0.heap.size w0 w' ∧ Kept w w' (fun k_ => P0_ k_) := by
 have HO0 := mk_ (show Kd.R k35 35 w w0.heap.size (fun k_ => (P0_ k_ ∨ w.heap.size ≤ k_)) u9000_ l0 from Kd.R_mono ho0 (fun k_ hk => (.inl hk)))
 have HK := mk_ (Kept.refl w (fun k_ => P0_ k_))
 have HW0 := Aside0.mk hB.size
 have HB := Aside0.mk hB
 clear hB
 have H : (laws_markActS.l0 k l0 a1 0) = some (r1, r2) := h
 clear h
 have H' := Aside0.mk H
 clear H
 go_enter Try.func22, Try.ntmps22
 go_wp2
 go_loopg [1, 5] k (fun kq v1 v5 w' => ∃ (x0_1 : List (S35)) (x1_1 : Int) (x5_1 : Int), v1 = .int .i64 x1_1 ∧ v5 = .int .i64 x5_1 ∧ Aside0 (laws_markActS.l0 kq x0_1 x1_1 x5_1 = some (r1, r2)) ∧ Aside0 (kq ≤ k) ∧ Aside0 (Kd.R k35 35 w' w0.heap.size (fun k_ => (P0_ k_ ∨ w.heap.size ≤ k_)) u9000_ x0_1) ∧ Aside0 (Kept w w' (fun k_ => P0_ k_)) ∧ Aside0 (Below w0.heap.size w0 w'))
 case atStart => exact ⟨(l0), (a1), (0), (by first | rfl | (simp; done) | (simp [*]; done) | (simp [bne]; done)), (by first | rfl | (simp; done) | (simp [*]; done) | (simp [bne]; done)), H', ⟨Nat.le_refl _⟩, ⟨by (with_reducible repeat (first | apply Kd.R_alloc | apply Kd.R_drewN | apply Kd.R_drew)); exact HO0.out⟩, ⟨by repeat (first | (with_reducible first | exact HK.out | apply Kept.alloc | apply Kept.drewN | apply Kept.drew) | exact HK.out)⟩, ⟨bw_ HB⟩⟩
 case round =>
  clear H'
  try clear c2
  try clear p2
  obtain ⟨x0_1, x1_1, x5_1, rfl, rfl, HA, HK1, HO_0, HK, HB⟩ := hrel
  cases gk with
  | zero => exact absurd HA.out (by simp [laws_markActS.l0])
  | succ k1 =>
   have H := HA.out
   clear HA
   simp only [laws_markActS.l0] at H
   by_cases c3 : x5_1 < (x0_1.length : Int)
   ·rw [if_pos c3] at H
    have c3b0 : decide (x5_1 < (x0_1.length : Int)) = true := decide_eq_true c3
    clear c3
    by_cases c4 : 0 ≤ x5_1
    ·rw [if_pos c4] at H
     have c4b0 : decide (0 ≤ x5_1) = true := decide_eq_true c4
     clear c4
     obtain ⟨y169, hy169⟩ : ∃ y_ : List (S35), y_ = (x0_1.set (x5_1 : Int).toNat (⟨x1_1, (rd_T35 x0_1 x5_1).f1, (rd_T35 x0_1 x5_1).f2, (rd_T35 x0_1 x5_1).f3⟩ : S35)) := ⟨_, rfl⟩
     replace H : ((laws_markText.f k1 (wrap64 (x1_1 + 1))).bind fun t170 => ((some (y169.set (x5_1 : Int).toNat (⟨(rd_T35 y169 x5_1).f0, t170, (rd_T35 y169 x5_1).f2, (rd_T35 y169 x5_1).f3⟩ : S35) : List (S35))).bind fun y171 => ((laws_markText.f k1 (wrap64 ((wrap64 (x1_1 + 1)) + 1))).bind fun t172 => ((some (y171.set (x5_1 : Int).toNat (⟨(rd_T35 y171 x5_1).f0, (rd_T35 y171 x5_1).f1, t172, (rd_T35 y171 x5_1).f3⟩ : S35) : List (S35))).bind fun y173 => ((laws_markText.f k1 (wrap64 ((wrap64 ((wrap64 (x1_1 + 1)) + 1)) + 1))).bind fun t174 => (laws_markActS.l0 k1 (y173.set (x5_1 : Int).toNat (⟨(rd_T35 y173 x5_1).f0, (rd_T35 y173 x5_1).f1, (rd_T35 y173 x5_1).f2, t174⟩ : S35)) (wrap64 ((wrap64 ((wrap64 ((wrap64 (x1_1 + 1)) + 1)) + 1)) + 1)) (wrap64 (x5_1 + 1)))))))) = some (r1, r2) := by first | (rw [hy169]; with_reducible exact H) | (have H2_ := (Option.bind_some _ _).symm.trans H; rw [hy169]; with_reducible exact H2_) | (have H2_ := (Option.bind_some _ _).symm.trans H; with_reducible exact H2_) | with_reducible exact H | (rw [hy169]; exact H) | exact H
     have Ny169 := Aside0.mk hy169
     clear hy169
     replace H := Option.bind_eq_some_iff.mp H
     obtain ⟨t170, A60, H⟩ := H
     replace H : ((some (y169.set (x5_1 : Int).toNat (⟨(rd_T35 y169 x5_1).f0, t170, (rd_T35 y169 x5_1).f2, (rd_T35 y169 x5_1).f3⟩ : S35) : List (S35))).bind fun y171 => ((laws_markText.f k1 (wrap64 ((wrap64 (x1_1 + 1)) + 1))).bind fun t172 => ((some (y171.set (x5_1 : Int).toNat (⟨(rd_T35 y171 x5_1).f0, (rd_T35 y171 x5_1).f1, t172, (rd_T35 y171 x5_1).f3⟩ : S35) : List (S35))).bind fun y173 => ((laws_markText.f k1 (wrap64 ((wrap64 ((wrap64 (x1_1 + 1)) + 1)) + 1))).bind fun t174 => (laws_markActS.l0 k1 (y173.set (x5_1 : Int).toNat (⟨(rd_T35 y173 x5_1).f0, (rd_T35 y173 x5_1).f1, (rd_T35 y173 x5_1).f2, t174⟩ : S35)) (wrap64 ((wrap64 ((wrap64 ((wrap64 (x1_1 + 1)) + 1)) + 1)) + 1)) (wrap64 (x5_1 + 1))))))) = some (r1, r2) := H
     have A6 := Aside0.mk A60
     clear A60
     obtain ⟨y171, hy171⟩ : ∃ y_ : List (S35), y_ = (y169.set (x5_1 : Int).toNat (⟨(rd_T35 y169 x5_1).f0, t170, (rd_T35 y169 x5_1).f2, (rd_T35 y169 x5_1).f3⟩ : S35)) := ⟨_, rfl⟩
     replace H : ((laws_markText.f k1 (wrap64 ((wrap64 (x1_1 + 1)) + 1))).bind fun t172 => ((some (y171.set (x5_1 : Int).toNat (⟨(rd_T35 y171 x5_1).f0, (rd_T35 y171 x5_1).f1, t172, (rd_T35 y171 x5_1).f3⟩ : S35) : List (S35))).bind fun y173 => ((laws_markText.f k1 (wrap64 ((wrap64 ((wrap64 (x1_1 + 1)) + 1)) + 1))).bind fun t174 => (laws_markActS.l0 k1 (y173.set (x5_1 : Int).toNat (⟨(rd_T35 y173 x5_1).f0, (rd_T35 y173 x5_1).f1, (rd_T35 y173 x5_1).f2, t174⟩ : S35)) (wrap64 ((wrap64 ((wrap64 ((wrap64 (x1_1 + 1)) + 1)) + 1)) + 1)) (wrap64 (x5_1 + 1)))))) = some (r1, r2) := by first | (rw [hy171]; with_reducible exact H) | (have H2_ := (Option.bind_some _ _).symm.trans H; rw [hy171]; with_reducible exact H2_) | (have H2_ := (Option.bind_some _ _).symm.trans H; with_reducible exact H2_) | with_reducible exact H | (rw [hy171]; exact H) | exact H
     have Ny171 := Aside0.mk hy171
     clear hy171
     replace H := Option.bind_eq_some_iff.mp H
     obtain ⟨t172, A80, H⟩ := H
     replace H : ((some (y171.set (x5_1 : Int).toNat (⟨(rd_T35 y171 x5_1).f0, (rd_T35 y171 x5_1).f1, t172, (rd_T35 y171 x5_1).f3⟩ : S35) : List (S35))).bind fun y173 => ((laws_markText.f k1 (wrap64 ((wrap64 ((wrap64 (x1_1 + 1)) + 1)) + 1))).bind fun t174 => (laws_markActS.l0 k1 (y173.set (x5_1 : Int).toNat (⟨(rd_T35 y173 x5_1).f0, (rd_T35 y173 x5_1).f1, (rd_T35 y173 x5_1).f2, t174⟩ : S35)) (wrap64 ((wrap64 ((wrap64 ((wrap64 (x1_1 + 1)) + 1)) + 1)) + 1)) (wrap64 (x5_1 + 1))))) = some (r1, r2) := H
     have A8 := Aside0.mk A80
     clear A80
     obtain ⟨y173, hy173⟩ : ∃ y_ : List (S35), y_ = (y171.set (x5_1 : Int).toNat (⟨(rd_T35 y171 x5_1).f0, (rd_T35 y171 x5_1).f1, t172, (rd_T35 y171 x5_1).f3⟩ : S35)) := ⟨_, rfl⟩
     replace H : ((laws_markText.f k1 (wrap64 ((wrap64 ((wrap64 (x1_1 + 1)) + 1)) + 1))).bind fun t174 => (laws_markActS.l0 k1 (y173.set (x5_1 : Int).toNat (⟨(rd_T35 y173 x5_1).f0, (rd_T35 y173 x5_1).f1, (rd_T35 y173 x5_1).f2, t174⟩ : S35)) (wrap64 ((wrap64 ((wrap64 ((wrap64 (x1_1 + 1)) + 1)) + 1)) + 1)) (wrap64 (x5_1 + 1)))) = some (r1, r2) := by first | (rw [hy173]; with_reducible exact H) | (have H2_ := (Option.bind_some _ _).symm.trans H; rw [hy173]; with_reducible exact H2_) | (have H2_ := (Option.bind_some _ _).symm.trans H; with_reducible exact H2_) | with_reducible exact H | (rw [hy173]; exact H) | exact H
     have Ny173 := Aside0.mk hy173
     clear hy173
     replace H := Option.bind_eq_some_iff.mp H
     obtain ⟨t174, A100, H⟩ := H
     replace H : (laws_markActS.l0 k1 (y173.set (x5_1 : Int).toNat (⟨(rd_T35 y173 x5_1).f0, (rd_T35 y173 x5_1).f1, (rd_T35 y173 x5_1).f2, t174⟩ : S35)) (wrap64 ((wrap64 ((wrap64 ((wrap64 (x1_1 + 1)) + 1)) + 1)) + 1)) (wrap64 (x5_1 + 1))) = some (r1, r2) := H
     have A10 := Aside0.mk A100
     clear A100
     obtain ⟨y175, hy175⟩ : ∃ y_ : List (S35), y_ = (y173.set (x5_1 : Int).toNat (⟨(rd_T35 y173 x5_1).f0, (rd_T35 y173 x5_1).f1, (rd_T35 y173 x5_1).f2, t174⟩ : S35)) := ⟨_, rfl⟩
     replace H : (laws_markActS.l0 k1 y175 (wrap64 ((wrap64 ((wrap64 ((wrap64 (x1_1 + 1)) + 1)) + 1)) + 1)) (wrap64 (x5_1 + 1))) = some (r1, r2) := by first | (rw [hy175]; with_reducible exact H) | (have H2_ := (Option.bind_some _ _).symm.trans H; rw [hy175]; with_reducible exact H2_) | (have H2_ := (Option.bind_some _ _).symm.trans H; with_reducible exact H2_) | with_reducible exact H | (rw [hy175]; exact H) | exact H
     have Ny175 := Aside0.mk hy175
     clear hy175
     have H' := Aside0.mk H
     clear H
     obtain ⟨Ao12, co12, eo12⟩ := Kd.R_slice HO_0.out
     subst eo12
     have p5 : 0 ≤ (x5_1 : Int) := od_
     have q5 : (x5_1 : Int) < ((x0_1.length : Int) : Int) := od_
     obtain ⟨go5, co5, eo5, gb5, gl5, cl5, HG5⟩ := Kd.R_form HO_0.out (by omega)
     (first | cases eo5 | (injection eo5 with ea_ en_ ec_; (first | subst ea_ | (injection ea_ with ea_; subst ea_)); subst ec_; clear en_))
     have GB5 := Aside0.mk gb5
     have GG5 := Aside0.mk HG5
     clear gb5 gl5 HG5
     have HMgo5 := mk_ (show (P0_ go5 ∨ w.heap.size ≤ go5) from (HO_0.out.1 _ rfl))
     obtain ⟨ce5, hcl5, hM5, hcc5, hfr5⟩ := Kd.R_elem HO_0.out z35 (x5_1 : Int) p5 q5
     obtain rfl := k35_openM hM5
     have hx5_0 : wr.cell? ⟨go5, (x5_1 : Int).toNat * 4, none⟩ = some (.int .i64 ((rd_T35 x0_1 x5_1).f0)) := hcc5 0 _ rfl
     have hx5_1 : wr.cell? ⟨go5, (x5_1 : Int).toNat * 4 + 1, none⟩ = some (.string ((rd_T35 x0_1 x5_1).f1)) := hcc5 1 _ rfl
     have hx5_2 : wr.cell? ⟨go5, (x5_1 : Int).toNat * 4 + 2, none⟩ = some (.string ((rd_T35 x0_1 x5_1).f2)) := hcc5 2 _ rfl
     have hx5_3 : wr.cell? ⟨go5, (x5_1 : Int).toNat * 4 + 3, none⟩ = some (.string ((rd_T35 x0_1 x5_1).f3)) := hcc5 3 _ rfl
     have hf5_0 : wr.frozen? ⟨go5, (x5_1 : Int).toNat * 4, none⟩ = false := hfr5 0
     have hf5_1 : wr.frozen? ⟨go5, (x5_1 : Int).toNat * 4 + 1, none⟩ = false := hfr5 1
     have hf5_2 : wr.frozen? ⟨go5, (x5_1 : Int).toNat * 4 + 2, none⟩ = false := hfr5 2
     have hf5_3 : wr.frozen? ⟨go5, (x5_1 : Int).toNat * 4 + 3, none⟩ = false := hfr5 3
     clear hcl5 hcc5 hfr5 hM5
     replace p5 := eq_true p5
     replace q5 := eq_true q5
     have HX13 := mk_ (show Kd.R k35 35 wr w0.heap.size (fun k_ => (P0_ k_ ∨ w.heap.size ≤ k_)) (.slice (some ⟨go5, 0, none⟩) x0_1.length co12) x0_1 from (rp_ HO_0))
     obtain ⟨ce13, hcl13, hM13, hcc13, hfr13⟩ := Kd.R_elem HX13.out z35 (x5_1 : Int) (od_) (by have h_ : (x5_1 : Int) < ((x0_1.length : Int) : Int) := od_; first | exact h_ | (have e_ := (Kd.R_reads' HO_0.out).1; omega) | simpa using h_)
     obtain rfl := k35_openM hM13
     have HP13 := Kd.R_seg HX13.out (x5_1 : Int) (od_) (by have h_ : (x5_1 : Int) < ((x0_1.length : Int) : Int) := od_; first | exact h_ | (have e_ := (Kd.R_reads' HO_0.out).1; omega) | simpa using h_) (seg := [.int .i64 x1_1]) (j := 0) hcl13 hcc13 (show 1 ≤ 4 from by decide) (x' := (⟨x1_1, (rd_T35 x0_1 x5_1).f1, (rd_T35 x0_1 x5_1).f2, (rd_T35 x0_1 x5_1).f3⟩ : S35)) (k35_mkM _ _ _ (⟨x1_1, (rd_T35 x0_1 x5_1).f1, (rd_T35 x0_1 x5_1).f2, (rd_T35 x0_1 x5_1).f3⟩ : S35) ) (fun _ hk => hk)
     have hx13_0 := hcc13 0 _ rfl
     (try simp only [show (k35).sz = 4 from rfl, Nat.mul_one, Nat.add_zero] at hx13_0)
     have hf13_0 := hfr13 0
     (try simp only [show (k35).sz = 4 from rfl, Nat.mul_one, Nat.add_zero] at hf13_0)
     clear hcl13 hcc13 hfr13 hM13
     go_wp2_with (first | ((with_reducible refine gate_store (t := 3) (p := 16) rfl ?_); refine store_event (t := 3) (p := 16) (v := ?vo_w14) (w1 := (wr.setCell ⟨go5, (x5_1 : Int).toNat * 4, none⟩ (.int .i64 x1_1))) ?hg ?ho ?hn ?hr ?_; (case ho => rfl); (case hg => rfl); (case hn => rfl); (case hr => first | (go_simp; done) | (go_simp; rfl)); intro w14 hw; have hg : wr.grownBy w14 (some go5) := (by rw [hw]; exact HP13.2); have hp_ : Kd.R k35 35 w14 w0.heap.size (fun k_ => (P0_ k_ ∨ w.heap.size ≤ k_)) (.slice (some ⟨go5, 0, none⟩) x0_1.length co12) y169 := (by rw [hw, Ny169.out]; exact HP13.1); clear HP13; have n0_ := mk_ (hp_); have n1_ := mk_ ((by rw [hw]; exact below_set (HB.out) GB5.out : Below w0.heap.size w0 w14)); have n2_ := mk_ (Kept.of_grown (S := (fun k_ => P0_ k_)) hg (by repeat (first | (with_reducible first | exact HK.out | apply Kept.alloc | apply Kept.drewN | apply Kept.drew) | exact HK.out)) (fun k_ e_ => (HO_0.out.1 k_ e_))); clear HO_0; clear HB; clear HK; have HO_0 := n0_; have HB := n1_; have HK := n2_; clear n0_ n1_ n2_; clear hg hw hp_) | ((with_reducible refine gate_callee (f := 53) rfl ?_); refine goesL_ (some 22) rfl rfl Try.func53 (by kernel_rfl) rfl #[.int .i64 (wrap64 (x1_1 + 1))] rfl ga_ ?_; (with_reducible refine (laws_markText.calls k1 (wrap64 (x1_1 + 1)) t170 _ A6.out).mono ?_); rintro e w15 ⟨rfl, hb⟩; refine ⟨_, rfl, ?_⟩; replace HO_0 := rb_ HO_0 hb; replace HK := mk_ (Kept.below (S := (fun k_ => P0_ k_)) (by repeat (first | (with_reducible first | exact HK.out | apply Kept.alloc | apply Kept.drewN | apply Kept.drew) | exact HK.out)) hb); replace HB := bs_ HB hb; (try clear hb); (try clear hk); have p7 : 0 ≤ (x5_1 : Int) := od_; have q7 : (x5_1 : Int) < ((x0_1.length : Int) : Int) := od_; obtain ⟨ce7, hcl7, hM7, hcc7, hfr7⟩ := Kd.R_elem HO_0.out z35 (x5_1 : Int) p7 q7; obtain rfl := k35_openM hM7; have hx7_0 : w15.cell? ⟨go5, (x5_1 : Int).toNat * 4, none⟩ = some (.int .i64 ((rd_T35 y169 x5_1).f0)) := hcc7 0 _ rfl; have hx7_1 : w15.cell? ⟨go5, (x5_1 : Int).toNat * 4 + 1, none⟩ = some (.string ((rd_T35 y169 x5_1).f1)) := hcc7 1 _ rfl; have hx7_2 : w15.cell? ⟨go5, (x5_1 : Int).toNat * 4 + 2, none⟩ = some (.string ((rd_T35 y169 x5_1).f2)) := hcc7 2 _ rfl; have hx7_3 : w15.cell? ⟨go5, (x5_1 : Int).toNat * 4 + 3, none⟩ = some (.string ((rd_T35 y169 x5_1).f3)) := hcc7 3 _ rfl; have hf7_0 : w15.frozen? ⟨go5, (x5_1 : Int).toNat * 4, none⟩ = false := hfr7 0; have hf7_1 : w15.frozen? ⟨go5, (x5_1 : Int).toNat * 4 + 1, none⟩ = false := hfr7 1; have hf7_2 : w15.frozen? ⟨go5, (x5_1 : Int).toNat * 4 + 2, none⟩ = false := hfr7 2; have hf7_3 : w15.frozen? ⟨go5, (x5_1 : Int).toNat * 4 + 3, none⟩ = false := hfr7 3; clear hcl7 hcc7 hfr7 hM7; replace p7 := eq_true p7; replace q7 := eq_true q7; have HX16 := mk_ (show Kd.R k35 35 w15 w0.heap.size (fun k_ => (P0_ k_ ∨ w.heap.size ≤ k_)) (.slice (some ⟨go5, 0, none⟩) x0_1.length co12) y169 from (rp_ HO_0)); obtain ⟨ce16, hcl16, hM16, hcc16, hfr16⟩ := Kd.R_elem HX16.out z35 (x5_1 : Int) (od_) (by have h_ : (x5_1 : Int) < ((x0_1.length : Int) : Int) := od_; first | exact h_ | (have e_ := (Kd.R_reads' HO_0.out).1; omega) | simpa using h_); obtain rfl := k35_openM hM16; have HP16 := Kd.R_seg HX16.out (x5_1 : Int) (od_) (by have h_ : (x5_1 : Int) < ((x0_1.length : Int) : Int) := od_; first | exact h_ | (have e_ := (Kd.R_reads' HO_0.out).1; omega) | simpa using h_) (seg := [.string t170]) (j := 1) hcl16 hcc16 (show 2 ≤ 4 from by decide) (x' := (⟨(rd_T35 y169 x5_1).f0, t170, (rd_T35 y169 x5_1).f2, (rd_T35 y169 x5_1).f3⟩ : S35)) (k35_mkM _ _ _ (⟨(rd_T35 y169 x5_1).f0, t170, (rd_T35 y169 x5_1).f2, (rd_T35 y169 x5_1).f3⟩ : S35) ) (fun _ hk => hk); have hx16_1 := hcc16 1 _ rfl; (try simp only [show (k35).sz = 4 from rfl, Nat.mul_one, Nat.add_zero] at hx16_1); have hf16_1 := hfr16 1; (try simp only [show (k35).sz = 4 from rfl, Nat.mul_one, Nat.add_zero] at hf16_1); clear hcl16 hcc16 hfr16 hM16) | ((with_reducible refine gate_store (t := 9) (p := 24) rfl ?_); refine store_event (t := 9) (p := 24) (v := ?vo_w17) (w1 := (w15.setCell ⟨go5, (x5_1 : Int).toNat * 4 + 1, none⟩ (.string t170))) ?hg ?ho ?hn ?hr ?_; (case ho => rfl); (case hg => rfl); (case hn => rfl); (case hr => first | (go_simp; done) | (go_simp; rfl)); intro w17 hw; have hg : w15.grownBy w17 (some go5) := (by rw [hw]; exact HP16.2); have hp_ : Kd.R k35 35 w17 w0.heap.size (fun k_ => (P0_ k_ ∨ w.heap.size ≤ k_)) (.slice (some ⟨go5, 0, none⟩) x0_1.length co12) y171 := (by rw [hw, Ny171.out]; exact HP16.1); clear HP16; have n0_ := mk_ (hp_); have n1_ := mk_ ((by rw [hw]; exact below_set (HB.out) GB5.out : Below w0.heap.size w0 w17)); have n2_ := mk_ (Kept.of_grown (S := (fun k_ => P0_ k_)) hg (by repeat (first | (with_reducible first | exact HK.out | apply Kept.alloc | apply Kept.drewN | apply Kept.drew) | exact HK.out)) (fun k_ e_ => (HO_0.out.1 k_ e_))); clear HO_0; clear HB; clear HK; have HO_0 := n0_; have HB := n1_; have HK := n2_; clear n0_ n1_ n2_; clear hg hw hp_) | ((with_reducible refine gate_callee (f := 53) rfl ?_); refine goesL_ (some 30) rfl rfl Try.func53 (by kernel_rfl) rfl #[.int .i64 (wrap64 ((wrap64 (x1_1 + 1)) + 1))] rfl ga_ ?_; (with_reducible refine (laws_markText.calls k1 (wrap64 ((wrap64 (x1_1 + 1)) + 1)) t172 _ A8.out).mono ?_); rintro e w18 ⟨rfl, hb⟩; refine ⟨_, rfl, ?_⟩; replace HO_0 := rb_ HO_0 hb; replace HK := mk_ (Kept.below (S := (fun k_ => P0_ k_)) (by repeat (first | (with_reducible first | exact HK.out | apply Kept.alloc | apply Kept.drewN | apply Kept.drew) | exact HK.out)) hb); replace HB := bs_ HB hb; (try clear hb); (try clear hk); have p9 : 0 ≤ (x5_1 : Int) := od_; have q9 : (x5_1 : Int) < ((x0_1.length : Int) : Int) := od_; obtain ⟨ce9, hcl9, hM9, hcc9, hfr9⟩ := Kd.R_elem HO_0.out z35 (x5_1 : Int) p9 q9; obtain rfl := k35_openM hM9; have hx9_0 : w18.cell? ⟨go5, (x5_1 : Int).toNat * 4, none⟩ = some (.int .i64 ((rd_T35 y171 x5_1).f0)) := hcc9 0 _ rfl; have hx9_1 : w18.cell? ⟨go5, (x5_1 : Int).toNat * 4 + 1, none⟩ = some (.string ((rd_T35 y171 x5_1).f1)) := hcc9 1 _ rfl; have hx9_2 : w18.cell? ⟨go5, (x5_1 : Int).toNat * 4 + 2, none⟩ = some (.string ((rd_T35 y171 x5_1).f2)) := hcc9 2 _ rfl; have hx9_3 : w18.cell? ⟨go5, (x5_1 : Int).toNat * 4 + 3, none⟩ = some (.string ((rd_T35 y171 x5_1).f3)) := hcc9 3 _ rfl; have hf9_0 : w18.frozen? ⟨go5, (x5_1 : Int).toNat * 4, none⟩ = false := hfr9 0; have hf9_1 : w18.frozen? ⟨go5, (x5_1 : Int).toNat * 4 + 1, none⟩ = false := hfr9 1; have hf9_2 : w18.frozen? ⟨go5, (x5_1 : Int).toNat * 4 + 2, none⟩ = false := hfr9 2; have hf9_3 : w18.frozen? ⟨go5, (x5_1 : Int).toNat * 4 + 3, none⟩ = false := hfr9 3; clear hcl9 hcc9 hfr9 hM9; replace p9 := eq_true p9; replace q9 := eq_true q9; have HX19 := mk_ (show Kd.R k35 35 w18 w0.heap.size (fun k_ => (P0_ k_ ∨ w.heap.size ≤ k_)) (.slice (some ⟨go5, 0, none⟩) x0_1.length co12) y171 from (rp_ HO_0)); obtain ⟨ce19, hcl19, hM19, hcc19, hfr19⟩ := Kd.R_elem HX19.out z35 (x5_1 : Int) (od_) (by have h_ : (x5_1 : Int) < ((x0_1.length : Int) : Int) := od_; first | exact h_ | (have e_ := (Kd.R_reads' HO_0.out).1; omega) | simpa using h_); obtain rfl := k35_openM hM19; have HP19 := Kd.R_seg HX19.out (x5_1 : Int) (od_) (by have h_ : (x5_1 : Int) < ((x0_1.length : Int) : Int) := od_; first | exact h_ | (have e_ := (Kd.R_reads' HO_0.out).1; omega) | simpa using h_) (seg := [.string t172]) (j := 2) hcl19 hcc19 (show 3 ≤ 4 from by decide) (x' := (⟨(rd_T35 y171 x5_1).f0, (rd_T35 y171 x5_1).f1, t172, (rd_T35 y171 x5_1).f3⟩ : S35)) (k35_mkM _ _ _ (⟨(rd_T35 y171 x5_1).f0, (rd_T35 y171 x5_1).f1, t172, (rd_T35 y171 x5_1).f3⟩ : S35) ) (fun _ hk => hk); have hx19_2 := hcc19 2 _ rfl; (try simp only [show (k35).sz = 4 from rfl, Nat.mul_one, Nat.add_zero] at hx19_2); have hf19_2 := hfr19 2; (try simp only [show (k35).sz = 4 from rfl, Nat.mul_one, Nat.add_zero] at hf19_2); clear hcl19 hcc19 hfr19 hM19) | ((with_reducible refine gate_store (t := 9) (p := 32) rfl ?_); refine store_event (t := 9) (p := 32) (v := ?vo_w20) (w1 := (w18.setCell ⟨go5, (x5_1 : Int).toNat * 4 + 2, none⟩ (.string t172))) ?hg ?ho ?hn ?hr ?_; (case ho => rfl); (case hg => rfl); (case hn => rfl); (case hr => first | (go_simp; done) | (go_simp; rfl)); intro w20 hw; have hg : w18.grownBy w20 (some go5) := (by rw [hw]; exact HP19.2); have hp_ : Kd.R k35 35 w20 w0.heap.size (fun k_ => (P0_ k_ ∨ w.heap.size ≤ k_)) (.slice (some ⟨go5, 0, none⟩) x0_1.length co12) y173 := (by rw [hw, Ny173.out]; exact HP19.1); clear HP19; have n0_ := mk_ (hp_); have n1_ := mk_ ((by rw [hw]; exact below_set (HB.out) GB5.out : Below w0.heap.size w0 w20)); have n2_ := mk_ (Kept.of_grown (S := (fun k_ => P0_ k_)) hg (by repeat (first | (with_reducible first | exact HK.out | apply Kept.alloc | apply Kept.drewN | apply Kept.drew) | exact HK.out)) (fun k_ e_ => (HO_0.out.1 k_ e_))); clear HO_0; clear HB; clear HK; have HO_0 := n0_; have HB := n1_; have HK := n2_; clear n0_ n1_ n2_; clear hg hw hp_) | ((with_reducible refine gate_callee (f := 53) rfl ?_); refine goesL_ (some 38) rfl rfl Try.func53 (by kernel_rfl) rfl #[.int .i64 (wrap64 ((wrap64 ((wrap64 (x1_1 + 1)) + 1)) + 1))] rfl ga_ ?_; (with_reducible refine (laws_markText.calls k1 (wrap64 ((wrap64 ((wrap64 (x1_1 + 1)) + 1)) + 1)) t174 _ A10.out).mono ?_); rintro e w21 ⟨rfl, hb⟩; refine ⟨_, rfl, ?_⟩; replace HO_0 := rb_ HO_0 hb; replace HK := mk_ (Kept.below (S := (fun k_ => P0_ k_)) (by repeat (first | (with_reducible first | exact HK.out | apply Kept.alloc | apply Kept.drewN | apply Kept.drew) | exact HK.out)) hb); replace HB := bs_ HB hb; (try clear hb); (try clear hk); have p11 : 0 ≤ (x5_1 : Int) := od_; have q11 : (x5_1 : Int) < ((x0_1.length : Int) : Int) := od_; obtain ⟨ce11, hcl11, hM11, hcc11, hfr11⟩ := Kd.R_elem HO_0.out z35 (x5_1 : Int) p11 q11; obtain rfl := k35_openM hM11; have hx11_0 : w21.cell? ⟨go5, (x5_1 : Int).toNat * 4, none⟩ = some (.int .i64 ((rd_T35 y173 x5_1).f0)) := hcc11 0 _ rfl; have hx11_1 : w21.cell? ⟨go5, (x5_1 : Int).toNat * 4 + 1, none⟩ = some (.string ((rd_T35 y173 x5_1).f1)) := hcc11 1 _ rfl; have hx11_2 : w21.cell? ⟨go5, (x5_1 : Int).toNat * 4 + 2, none⟩ = some (.string ((rd_T35 y173 x5_1).f2)) := hcc11 2 _ rfl; have hx11_3 : w21.cell? ⟨go5, (x5_1 : Int).toNat * 4 + 3, none⟩ = some (.string ((rd_T35 y173 x5_1).f3)) := hcc11 3 _ rfl; have hf11_0 : w21.frozen? ⟨go5, (x5_1 : Int).toNat * 4, none⟩ = false := hfr11 0; have hf11_1 : w21.frozen? ⟨go5, (x5_1 : Int).toNat * 4 + 1, none⟩ = false := hfr11 1; have hf11_2 : w21.frozen? ⟨go5, (x5_1 : Int).toNat * 4 + 2, none⟩ = false := hfr11 2; have hf11_3 : w21.frozen? ⟨go5, (x5_1 : Int).toNat * 4 + 3, none⟩ = false := hfr11 3; clear hcl11 hcc11 hfr11 hM11; replace p11 := eq_true p11; replace q11 := eq_true q11; have HX22 := mk_ (show Kd.R k35 35 w21 w0.heap.size (fun k_ => (P0_ k_ ∨ w.heap.size ≤ k_)) (.slice (some ⟨go5, 0, none⟩) x0_1.length co12) y173 from (rp_ HO_0)); obtain ⟨ce22, hcl22, hM22, hcc22, hfr22⟩ := Kd.R_elem HX22.out z35 (x5_1 : Int) (od_) (by have h_ : (x5_1 : Int) < ((x0_1.length : Int) : Int) := od_; first | exact h_ | (have e_ := (Kd.R_reads' HO_0.out).1; omega) | simpa using h_); obtain rfl := k35_openM hM22; have HP22 := Kd.R_seg HX22.out (x5_1 : Int) (od_) (by have h_ : (x5_1 : Int) < ((x0_1.length : Int) : Int) := od_; first | exact h_ | (have e_ := (Kd.R_reads' HO_0.out).1; omega) | simpa using h_) (seg := [.string t174]) (j := 3) hcl22 hcc22 (show 4 ≤ 4 from by decide) (x' := (⟨(rd_T35 y173 x5_1).f0, (rd_T35 y173 x5_1).f1, (rd_T35 y173 x5_1).f2, t174⟩ : S35)) (k35_mkM _ _ _ (⟨(rd_T35 y173 x5_1).f0, (rd_T35 y173 x5_1).f1, (rd_T35 y173 x5_1).f2, t174⟩ : S35) ) (fun _ hk => hk); have hx22_3 := hcc22 3 _ rfl; (try simp only [show (k35).sz = 4 from rfl, Nat.mul_one, Nat.add_zero] at hx22_3); have hf22_3 := hfr22 3; (try simp only [show (k35).sz = 4 from rfl, Nat.mul_one, Nat.add_zero] at hf22_3); clear hcl22 hcc22 hfr22 hM22) | ((with_reducible refine gate_store (t := 9) (p := 40) rfl ?_); refine store_event (t := 9) (p := 40) (v := ?vo_w23) (w1 := (w21.setCell ⟨go5, (x5_1 : Int).toNat * 4 + 3, none⟩ (.string t174))) ?hg ?ho ?hn ?hr ?_; (case ho => rfl); (case hg => rfl); (case hn => rfl); (case hr => first | (go_simp; done) | (go_simp; rfl)); intro w23 hw; have hg : w21.grownBy w23 (some go5) := (by rw [hw]; exact HP22.2); have hp_ : Kd.R k35 35 w23 w0.heap.size (fun k_ => (P0_ k_ ∨ w.heap.size ≤ k_)) (.slice (some ⟨go5, 0, none⟩) x0_1.length co12) y175 := (by rw [hw, Ny175.out]; exact HP22.1); clear HP22; have n0_ := mk_ (hp_); have n1_ := mk_ ((by rw [hw]; exact below_set (HB.out) GB5.out : Below w0.heap.size w0 w23)); have n2_ := mk_ (Kept.of_grown (S := (fun k_ => P0_ k_)) hg (by repeat (first | (with_reducible first | exact HK.out | apply Kept.alloc | apply Kept.drewN | apply Kept.drew) | exact HK.out)) (fun k_ e_ => (HO_0.out.1 k_ e_))); clear HO_0; clear HB; clear HK; have HO_0 := n0_; have HB := n1_; have HK := n2_; clear n0_ n1_ n2_; clear hg hw hp_))
     go_roundg k1
     case measure => have := HK1.out; omega
     case rel => exact ⟨(y175), (wrap64 ((wrap64 ((wrap64 ((wrap64 (x1_1 + 1)) + 1)) + 1)) + 1)), (wrap64 (x5_1 + 1)), (by first | rfl | (simp; done) | (simp [*]; done) | (simp [bne]; done)), (by first | rfl | (simp; done) | (simp [*]; done) | (simp [bne]; done)), H', ⟨by have := HK1.out; omega⟩, ⟨by (with_reducible repeat (first | apply Kd.R_alloc | apply Kd.R_drewN | apply Kd.R_drew)); exact HO_0.out⟩, ⟨by repeat (first | (with_reducible first | exact HK.out | apply Kept.alloc | apply Kept.drewN | apply Kept.drew) | exact HK.out)⟩, ⟨bw_ HB⟩⟩
    ·rw [if_neg c4] at H
     exact absurd H (by simp)
   ·rw [if_neg c3] at H
    have c3b0 : decide (x5_1 < (x0_1.length : Int)) = false := decide_eq_false c3
    clear c3
    simp only [Option.some.injEq, Prod.mk.injEq] at H
    obtain ⟨rfl, rfl⟩ := H
    obtain ⟨Ao24, co24, eo24⟩ := Kd.R_slice HO_0.out
    subst eo24
    go_wp2
    go_ret
    exact ⟨er_, by (with_reducible repeat (first | apply Kd.R_alloc | apply Kd.R_drewN | apply Kd.R_drew)); exact HO_0.out, bw_ HB, by repeat (first | (with_reducible first | exact HK.out | apply Kept.alloc | apply Kept.drewN | apply Kept.drew) | exact HK.out)⟩

/-! ### impl_File_78: function 78 -/
set_option maxHeartbeats 4000000 in
set_option maxRecDepth 100000 in
/-- slices.IndexFunc over files, with whatever function value answers 'p' and leaves what was as it was. -/
theorem fileIndexFunc (p : S76 → Bool) (g : Nat) (lb : Array Value) (eg : ∀ args w, (callFunc g args).run Try.prog w = .ok (.enter g args) w) (A0 : Option Addr) (c0 : Nat) (l0 : List S76) (w : World)
  (hr0 : Kd.C k76 w A0 l0.length l0) (hc0 : l0.length ≤ c0)
  (hp : ∀ (W : World) (x : S76), Below w.heap.size w W → Calls Try.prog g (#[.agg #[.string x.f0, .string x.f1, .int .i64 x.f2]] ++ lb) W fun e w' => e = .returned (.bool (p x)) ∧ Below W.heap.size W w') :
  Calls Try.prog 78 #[.slice A0 l0.length c0, .func (.func g) #[] lb] w fun e w' => e = .returned (.int .i64 (M.idxP p l0 0)) ∧ Below w.heap.size w w' := by
 have hu := Try.underlying76
 have HR0 := Aside0.mk hr0
 have hlen := hr0.2.1
 have HP := Aside0.mk hp
 have HC0 := Aside0.mk hc0
 clear hr0 hc0 hp
 generalize hn : l0.length = n at *
 have HN := Aside0.mk hn
 clear hn
 go_enter Try.func78, Try.ntmps78
 go_wp2
 go_loopg [5, 8] n (fun gg _ s8 wr => ∃ kk : Nat, kk ≤ n ∧ n - kk ≤ gg ∧ s8 = .int .i64 kk ∧ Aside0 (Below w.heap.size w wr) ∧ Aside0 (M.idxP p l0 0 = M.idxP p (l0.drop kk) kk))
 case atStart => exact ⟨0, Nat.zero_le _, by omega, rfl, ⟨Below.refl _ w⟩, ⟨rfl⟩⟩
 case round =>
  obtain ⟨kk, hkk, hg, rfl, HB, HA⟩ := hrel
  by_cases hlt : kk < n
  ·have hltz : (kk : Int) < (n : Int) := by omega
   have hl0 : kk < l0.length := by rw [HN.out]; exact hlt
   obtain ⟨ad, e0, hx0, hx1, hx2⟩ := at_T76 HR0.out (kk : Int) (by omega) (by omega)
   cases e0
   simp only [Int.toNat_natCast] at hx0 hx1 hx2
   replace hx0 := hc_ HB hx0
   replace hx1 := hc_ HB hx1
   replace hx2 := hc_ HB hx2
   have hdrop : M.idxP p (l0.drop kk) kk = if p (rd_T76 l0 (kk : Int)) = true then (kk : Int) else M.idxP p (l0.drop (kk + 1)) ((kk + 1 : Nat) : Int) := by
    rw [List.drop_eq_getElem_cons hl0]
    have : rd_T76 l0 (kk : Int) = l0[kk] := by simp [rd_T76, List.getD_eq_getElem?_getD, List.getElem?_eq_getElem hl0]
    rw [this]; rfl
   have HD := Aside0.mk hdrop
   clear hdrop hl0
   generalize rd_T76 l0 (kk : Int) = x at *
   have hcall := HP.out wr x HB.out
   cases hq : p x with
   | true =>
    rw [hq] at hcall
    have HQ := Aside0.mk hq
    clear hq
    go_wp2_with (go_at_fn g; refine hcall.mono ?_; rintro e w' ⟨rfl, hb'⟩)
    go_ret
    refine ⟨?_, below_then HB.out HB.out.size hb'⟩
    rw [HA.out, HD.out, if_pos HQ.out]
    rfl
   | false =>
    rw [hq] at hcall
    have HQ := Aside0.mk hq
    clear hq
    go_wp2_with (go_at_fn g; refine hcall.mono ?_; rintro e w' ⟨rfl, hb'⟩)
    go_roundg (n - (kk + 1))
    case measure => omega
    case rel =>
     refine ⟨kk + 1, by omega, by omega, by go_num, ⟨below_then HB.out HB.out.size hb'⟩, ⟨?_⟩⟩
     rw [HA.out, HD.out, if_neg (by rw [HQ.out]; simp)]
  ·have hltz : ¬ (kk : Int) < (n : Int) := by omega
   go_wp2
   go_ret
   refine ⟨?_, HB.out⟩
   rw [HA.out, List.drop_of_length_le (by rw [HN.out]; omega)]
   rfl

/-! ### impl_fileAt: function 44 -/
def impl_fileAt.f (l0_0 : List S76) (a1 : ByteArray) : Option Int := some (M.idxP (fun x : S76 => x.f0.toList == a1.toList) l0_0 0)
set_option maxHeartbeats 4000000 in
set_option maxRecDepth 100000 in
theorem impl_fileAt.one (x0 x1 : ByteArray) (x2 : Int) (B : Nat) (s : ByteArray) (w : World) (hB : B < w.heap.size) (hc : w.cell? ⟨B, 0, none⟩ = some (.string s)) :
  Calls Try.prog 79 #[.agg #[.string x0, .string x1, .int .i64 x2], .pointer (some ⟨B, 0, none⟩)] w fun e w' => e = .returned (.bool (x0.toList == s.toList)) ∧ Below w.heap.size w w' := by
 have hu := Try.underlying76
 go_enter Try.func79, Try.ntmps79
 go_wp2
 go_ret
 exact ⟨rfl, by repeat (first | exact Below.refl _ _ | apply below_alloc | apply pw_below_drewN | apply below_drew1)⟩
set_option maxHeartbeats 4000000 in
set_option maxRecDepth 100000 in
theorem impl_fileAt.calls (A0_0 : Option Addr) (c0_0 : Nat) (l0_0 : List S76) (a1 : ByteArray) (r : Int) (w : World) (hr0_0 : Kd.C k76 w A0_0 l0_0.length l0_0) (hc0_0 : l0_0.length ≤ c0_0) (h : impl_fileAt.f l0_0 a1 = some r) :
  Calls Try.prog 44 #[.agg #[.slice A0_0 l0_0.length c0_0], .string a1] w fun e w' => e = .returned (.int .i64 r) ∧ Below w.heap.size w w' := by
 obtain rfl := Option.some.inj h
 clear h
 have hu := Try.underlying31
 have HR := Aside0.mk hr0_0
 have HC := Aside0.mk hc0_0
 clear hr0_0 hc0_0
 have eg : ∀ args w, (callFunc 79 args).run Try.prog w = .ok (.enter 79 args) w := enters_of Try.func79 (by kernel_rfl) rfl
 have hB2 : Below w.heap.size w ((w.alloc (.cells #[.slice A0_0 l0_0.length c0_0] 31)).alloc (.cells #[.string a1] 9)) := below_alloc (below_alloc (Below.refl _ _) _) _
 have hone : ∀ (W : World) (x : S76), Below ((w.alloc (.cells #[.slice A0_0 l0_0.length c0_0] 31)).alloc (.cells #[.string a1] 9)).heap.size ((w.alloc (.cells #[.slice A0_0 l0_0.length c0_0] 31)).alloc (.cells #[.string a1] 9)) W →
   Calls Try.prog 79 (#[.agg #[.string x.f0, .string x.f1, .int .i64 x.f2]] ++ #[.pointer (some ⟨w.heap.size + 1, 0, none⟩)]) W fun e w' => e = .returned (.bool (x.f0.toList == a1.toList)) ∧ Below W.heap.size W w' := by
  intro W x hB
  have hb : ((w.alloc (.cells #[.slice A0_0 l0_0.length c0_0] 31)).alloc (.cells #[.string a1] 9)).heap[w.heap.size + 1]? = some (.cells #[.string a1] 9 (0, 0)) := by
   simpa using heap_alloc_new (w.alloc (.cells #[.slice A0_0 l0_0.length c0_0] 31)) (.cells #[.string a1] 9)
  have hlt : w.heap.size + 1 < ((w.alloc (.cells #[.slice A0_0 l0_0.length c0_0] 31)).alloc (.cells #[.string a1] 9)).heap.size := blk_lt hb
  exact impl_fileAt.one x.f0 x.f1 x.f2 (w.heap.size + 1) a1 W (Nat.lt_of_lt_of_le hlt hB.size) ((hB.cell (p := ⟨w.heap.size + 1, 0, none⟩) hlt).trans ((blk_cell hb 0).trans rfl))
 have HX := mk_ (fileIndexFunc (fun x : S76 => x.f0.toList == a1.toList) 79 #[.pointer (some ⟨w.heap.size + 1, 0, none⟩)] eg A0_0 c0_0 l0_0 _ (Kd.C_alloc (Kd.C_alloc HR.out _) _) HC.out hone)
 clear hone eg
 have HB2 := Aside0.mk hB2
 clear hB2
 go_enter Try.func44, Try.ntmps44
 go_wp2_with (go_at_call 78; refine HX.out.mono ?_; rintro e w' ⟨rfl, hb'⟩)
 go_ret
 exact ⟨rfl, below_then HB2.out HB2.out.size hb'⟩

/-! ### impl_within: function 59 -/
def impl_within.f (a0 : Int) (a1 : Int) (a2 : Int) : Option (Bool) := if a0 ≥ a1 then (some (decide (a0 ≤ a2))) else (some false)
set_option maxHeartbeats 8000000 in
set_option maxRecDepth 100000 in
theorem impl_within.calls (a0 : Int) (a1 : Int) (a2 : Int) (r : Bool) (w : World) (h : impl_within.f a0 a1 a2 = some r) :
  Calls Try.prog 59 #[.int .i64 a0, .int .i64 a1, .int .i64 a2] w fun e w' => e = .returned (.bool r) ∧ Drawn0 w w' := by
 have H : (if a0 ≥ a1 then (some (decide (a0 ≤ a2))) else (some false)) = some r := h
 clear h
 by_cases c4 : a0 ≥ a1
 ·rw [if_pos c4] at H
  have c4b0 : decide (a1 ≤ a0) = true := decide_eq_true c4
  clear c4
  obtain rfl := Option.some.inj H
  go_enter Try.func59, Try.ntmps59
  go_wp2
  go_ret
  exact ⟨by first | rfl | (simp; done) | (simp [*]; done) | (simp [bne]; done), by repeat (first | exact Drawn0.refl _ | apply Drawn0.step)⟩
 ·rw [if_neg c4] at H
  have c4b0 : decide (a1 ≤ a0) = false := decide_eq_false c4
  clear c4
  obtain rfl := Option.some.inj H
  go_enter Try.func59, Try.ntmps59
  go_wp2
  go_ret
  exact ⟨by first | rfl | (simp; done) | (simp [*]; done) | (simp [bne]; done), by repeat (first | exact Drawn0.refl _ | apply Drawn0.step)⟩

/-! ### impl_DiskOk: function 45 -/
def impl_DiskOk.l0 : Nat → List (S76) → Int → Int → List (S76) → Option (Bool)
 | 0, _, _, _, _ => none
 | k + 1, x6, x7, x8, x177000 => if x8 < x7 then (if 0 ≤ x8 then (if x8 < (x6.length : Int) then ((impl_within.f (((rd_T76 x6 x8).f0).size : Int) 1 8).bind fun t179 => (if t179 = true then (if (((rd_T76 x6 x8).f1).size : Int) > 20000 then (some false) else ((impl_within.f ((rd_T76 x6 x8).f2) 0 (((rd_T76 x6 x8).f1).size : Int)).bind fun t180 => (if t180 = true then (if x8 > 0 then (if 0 ≤ (wrap64 (x8 - 1)) then (if (wrap64 (x8 - 1)) < (x177000.length : Int) then (if ((Op.bytesLess (((rd_T76 x177000 (wrap64 (x8 - 1))).f0).toList) (((rd_T76 x6 x8).f0).toList)) = true) then (impl_DiskOk.l0 k x6 x7 (wrap64 (x8 + 1)) x177000) else (some false)) else (none)) else (none)) else (impl_DiskOk.l0 k x6 x7 (wrap64 (x8 + 1)) x177000)) else (some false)))) else (some false))) else (none)) else (none)) else (some (decide ((x177000.length : Int) ≤ 30)))
def impl_DiskOk.f (k : Nat) (l0_0 : List (S76)) : Option (Bool) := impl_DiskOk.l0 k l0_0 (l0_0.length : Int) 0 l0_0
theorem impl_DiskOk.mono_l : ∀ k, (∀ y0 y1 y2 y3, LeO (impl_DiskOk.l0 k y0 y1 y2 y3) (impl_DiskOk.l0 (k + 1) y0 y1 y2 y3))
 | 0 => fun _ _ _ _ r h => by simp [impl_DiskOk.l0] at h
 | k + 1 => by
  have ih0 := impl_DiskOk.mono_l k
  ·intro y0 y1 y2 y3
   unfold impl_DiskOk.l0
   repeat' first
   | (with_reducible exact ih0 _ _ _ _)
   | (with_reducible exact LeO.refl _)
   | (with_reducible refine LeO.ite ?_ ?_)
   | (with_reducible refine LeO.bind ?_ (fun _ => ?_))
theorem impl_DiskOk.mono : ∀ a0 k, LeO (impl_DiskOk.f k a0) (impl_DiskOk.f (k + 1) a0) := by
 intro a0 k
 have ih0 := impl_DiskOk.mono_l k
 unfold impl_DiskOk.f
 repeat' first
   | (with_reducible exact ih0 _ _ _ _)
set_option maxHeartbeats 8000000 in
set_option maxRecDepth 100000 in
theorem impl_DiskOk.calls (k : Nat) (A0_0 : Option Addr) (c0_0 : Nat) (l0_0 : List (S76)) (r : Bool) (w : World) (hr0_0 : Kd.C k76 w A0_0 l0_0.length l0_0) (hc0_0 : l0_0.length ≤ c0_0) (h : impl_DiskOk.f k l0_0 = some r) :
  Calls Try.prog 45 #[.agg #[.slice A0_0 l0_0.length c0_0]] w fun e w' => e = .returned (.bool r) ∧ Below w.heap.size w w' := by
 have hu31 := Try.underlying31
 have hu76 := Try.underlying76
 have HR0_0 := Aside0.mk hr0_0
 have HC0_0 := Aside0.mk hc0_0
 clear hr0_0 hc0_0
 have HB := mk_ (Below.refl w.heap.size w)
 have H : (impl_DiskOk.l0 k l0_0 (l0_0.length : Int) 0 l0_0) = some r := h
 clear h
 have H' := Aside0.mk H
 clear H
 go_enter Try.func45, Try.ntmps45
 go_wp2_with (first | ((with_reducible refine gate_dst (N := 1) rfl ?_); (try (refine gate_guard (by rfl) ?_; dsimp only)); refine bx_ (N := 1) (cs := #[.slice A0_0 l0_0.length c0_0]) (t := 31) ?_; intro gb176 hg w2 hbox hb; have BK176 := mk_ (hbox); have GW176 : Aside0 (w.heap.size ≤ gb176) := bz_ hg; have GE176 := GW176; replace HB := bs_ HB hb; clear hb hbox hg; obtain ⟨hcz3_0, hfz3_0⟩ := b1_ BK176))
 go_loopg [8] k (fun kq v8 w' => ∃ (x8_1 : Int), v8 = .int .i64 x8_1 ∧ Aside0 (impl_DiskOk.l0 kq l0_0 (l0_0.length : Int) x8_1 l0_0 = some r) ∧ Aside0 (kq ≤ k) ∧ Aside0 (w'.heap[gb176]? = some (.cells #[(.slice A0_0 l0_0.length c0_0)] 31 (0, 0))) ∧ Aside0 (Below w.heap.size w w'))
 case atStart => exact ⟨(0), (by first | rfl | (simp; done) | (simp [*]; done) | (simp [bne]; done)), H', ⟨Nat.le_refl _⟩, ⟨bf_⟩, ⟨bw_ HB⟩⟩
 case round =>
  clear H'
  try clear p2
  try clear hcz3_0
  try clear hfz3_0
  obtain ⟨x8_1, rfl, HA, HK1, BK176, HB⟩ := hrel
  cases gk with
  | zero => exact absurd HA.out (by simp [impl_DiskOk.l0])
  | succ k1 =>
   have H := HA.out
   clear HA
   simp only [impl_DiskOk.l0] at H
   by_cases c4 : x8_1 < (l0_0.length : Int)
   ·rw [if_pos c4] at H
    have c4b0 : decide (x8_1 < (l0_0.length : Int)) = true := decide_eq_true c4
    clear c4
    by_cases c5 : 0 ≤ x8_1
    ·rw [if_pos c5] at H
     have c5b0 : decide (0 ≤ x8_1) = true := decide_eq_true c5
     clear c5
     by_cases c6 : x8_1 < (l0_0.length : Int)
     ·rw [if_pos c6] at H
      have c6b0 : decide (x8_1 < (l0_0.length : Int)) = true := decide_eq_true c6
      clear c6
      replace H := Option.bind_eq_some_iff.mp H
      obtain ⟨t179, A70, H⟩ := H
      replace H : (if t179 = true then (if (((rd_T76 l0_0 x8_1).f1).size : Int) > 20000 then (some false) else ((impl_within.f ((rd_T76 l0_0 x8_1).f2) 0 (((rd_T76 l0_0 x8_1).f1).size : Int)).bind fun t180 => (if t180 = true then (if x8_1 > 0 then (if 0 ≤ (wrap64 (x8_1 - 1)) then (if (wrap64 (x8_1 - 1)) < (l0_0.length : Int) then (if ((Op.bytesLess (((rd_T76 l0_0 (wrap64 (x8_1 - 1))).f0).toList) (((rd_T76 l0_0 x8_1).f0).toList)) = true) then (impl_DiskOk.l0 k1 l0_0 (l0_0.length : Int) (wrap64 (x8_1 + 1)) l0_0) else (some false)) else (none)) else (none)) else (impl_DiskOk.l0 k1 l0_0 (l0_0.length : Int) (wrap64 (x8_1 + 1)) l0_0)) else (some false)))) else (some false)) = some r := H
      have A7 := Aside0.mk A70
      clear A70
      by_cases c8 : t179 = true
      ·subst c8
       have H1 : (if (((rd_T76 l0_0 x8_1).f1).size : Int) > 20000 then (some false) else ((impl_within.f ((rd_T76 l0_0 x8_1).f2) 0 (((rd_T76 l0_0 x8_1).f1).size : Int)).bind fun t180 => (if t180 = true then (if x8_1 > 0 then (if 0 ≤ (wrap64 (x8_1 - 1)) then (if (wrap64 (x8_1 - 1)) < (l0_0.length : Int) then (if ((Op.bytesLess (((rd_T76 l0_0 (wrap64 (x8_1 - 1))).f0).toList) (((rd_T76 l0_0 x8_1).f0).toList)) = true) then (impl_DiskOk.l0 k1 l0_0 (l0_0.length : Int) (wrap64 (x8_1 + 1)) l0_0) else (some false)) else (none)) else (none)) else (impl_DiskOk.l0 k1 l0_0 (l0_0.length : Int) (wrap64 (x8_1 + 1)) l0_0)) else (some false)))) = some r := by rw [if_pos rfl] at H; exact H
       clear H
       have H := H1
       clear H1
       by_cases c9 : (((rd_T76 l0_0 x8_1).f1).size : Int) > 20000
       ·rw [if_pos c9] at H
        have c9b0 : decide (20000 < (((rd_T76 l0_0 x8_1).f1).size : Int)) = true := decide_eq_true c9
        have c9b1 : decide (20000 < ((rd_T76 l0_0 x8_1).f1).size) = true := decide_eq_true (by omega)
        clear c9
        obtain rfl := Option.some.inj H
        have p177 : 0 ≤ (x8_1 : Int) := od_
        have q177 : x8_1 < (l0_0.length : Int) := od_
        obtain ⟨ad177, e177, hx177_0, hx177_1, hx177_2⟩ := at_T76 HR0_0.out x8_1 p177 q177
        cases e177
        replace hx177_0 := hc_ HB hx177_0
        replace hx177_1 := hc_ HB hx177_1
        replace hx177_2 := hc_ HB hx177_2
        replace p177 := eq_true p177
        replace q177 := eq_true q177
        go_wp2_with (first | ((with_reducible refine gate_dst (N := 4) rfl ?_); (try (refine gate_guard (by rfl) ?_; dsimp only)); refine bx_ (N := 4) (cs := #[.string (⟨#[]⟩ : ByteArray), .string (⟨#[]⟩ : ByteArray), .int .i64 0]) (t := 76) ?_; intro gb178 hg w10 hbox hb; have BK178 := mk_ (hbox); have GW178 : Aside0 (w.heap.size ≤ gb178) := bz_ hg; have GE178 := GW178; have NB176_178 := bl_ BK176 hg; have NB178_176 := bg_ BK176 hg; replace BK176 := bb_ BK176 hb; replace HB := bs_ HB hb; clear hb hbox hg; have hnb11 := NB178_176.out; have hnc11 := NB176_178.out; obtain ⟨hcz12_0, hcz12_1, hcz12_2, hfz12_0, hfz12_1, hfz12_2⟩ := b3_ BK178))
        repeat (go_quiet (first | (go_at_call 59; (with_reducible refine (impl_within.calls (((rd_T76 l0_0 x8_1).f0).size : Int) 1 8 true _ A7.out).mono ?_); rintro e w' ⟨rfl, ⟨nd, rfl⟩⟩; (try first | exact ⟨rfl, _, World.drewN_drewN _ _ _⟩ | exact ⟨rfl, _, Eq.trans (World.drewN_drewN _ _ _) (congrArg (World.drewN _) (Nat.add_assoc _ _ _))⟩))); try go_wp2_with fail)
        go_ret
        exact ⟨er_, bw_ HB⟩
       ·rw [if_neg c9] at H
        have c9b0 : decide (20000 < (((rd_T76 l0_0 x8_1).f1).size : Int)) = false := decide_eq_false c9
        have c9b1 : decide (20000 < ((rd_T76 l0_0 x8_1).f1).size) = false := decide_eq_false (by omega)
        clear c9
        replace H := Option.bind_eq_some_iff.mp H
        obtain ⟨t180, A130, H⟩ := H
        replace H : (if t180 = true then (if x8_1 > 0 then (if 0 ≤ (wrap64 (x8_1 - 1)) then (if (wrap64 (x8_1 - 1)) < (l0_0.length : Int) then (if ((Op.bytesLess (((rd_T76 l0_0 (wrap64 (x8_1 - 1))).f0).toList) (((rd_T76 l0_0 x8_1).f0).toList)) = true) then (impl_DiskOk.l0 k1 l0_0 (l0_0.length : Int) (wrap64 (x8_1 + 1)) l0_0) else (some false)) else (none)) else (none)) else (impl_DiskOk.l0 k1 l0_0 (l0_0.length : Int) (wrap64 (x8_1 + 1)) l0_0)) else (some false)) = some r := H
        have A13 := Aside0.mk A130
        clear A130
        by_cases c14 : t180 = true
        ·subst c14
         have H1 : (if x8_1 > 0 then (if 0 ≤ (wrap64 (x8_1 - 1)) then (if (wrap64 (x8_1 - 1)) < (l0_0.length : Int) then (if ((Op.bytesLess (((rd_T76 l0_0 (wrap64 (x8_1 - 1))).f0).toList) (((rd_T76 l0_0 x8_1).f0).toList)) = true) then (impl_DiskOk.l0 k1 l0_0 (l0_0.length : Int) (wrap64 (x8_1 + 1)) l0_0) else (some false)) else (none)) else (none)) else (impl_DiskOk.l0 k1 l0_0 (l0_0.length : Int) (wrap64 (x8_1 + 1)) l0_0)) = some r := by rw [if_pos rfl] at H; exact H
         clear H
         have H := H1
         clear H1
         by_cases c15 : x8_1 > 0
         ·rw [if_pos c15] at H
          have c15b0 : decide (0 < x8_1) = true := decide_eq_true c15
          clear c15
          obtain ⟨ji16, hji16⟩ : ∃ j_ : Int, (wrap64 (x8_1 - 1)) = j_ := ⟨_, rfl⟩
          replace H : (if 0 ≤ (ji16) then (if (ji16) < (l0_0.length : Int) then (if ((Op.bytesLess (((rd_T76 l0_0 (ji16)).f0).toList) (((rd_T76 l0_0 x8_1).f0).toList)) = true) then (impl_DiskOk.l0 k1 l0_0 (l0_0.length : Int) (wrap64 (x8_1 + 1)) l0_0) else (some false)) else (none)) else (none)) = some r := by first | (rw [hji16] at H; exact H) | (simp only [hji16] at H ⊢; exact H)
          (try rw [hji16] at A7)
          (try rw [hji16] at A13)
          have hji16w : (IntKind.i64.wrap (x8_1 - 1)) = ji16 := (i64_w _).trans hji16
          by_cases c17 : 0 ≤ (ji16)
          ·rw [if_pos c17] at H
           have c17b0 : decide (0 ≤ (ji16)) = true := decide_eq_true c17
           clear c17
           by_cases c18 : (ji16) < (l0_0.length : Int)
           ·rw [if_pos c18] at H
            have c18b0 : decide ((ji16) < (l0_0.length : Int)) = true := decide_eq_true c18
            clear c18
            by_cases c19 : ((Op.bytesLess (((rd_T76 l0_0 (ji16)).f0).toList) (((rd_T76 l0_0 x8_1).f0).toList)) = true)
            ·rw [if_pos c19] at H
             have c19b0 : (Op.bytesLess (((rd_T76 l0_0 (ji16)).f0).toList) (((rd_T76 l0_0 x8_1).f0).toList)) = true := c19
             have c19g0 : Op.bytesLess (((rd_T76 l0_0 x8_1).f0).toList) (((rd_T76 l0_0 (ji16)).f0).toList) = false := Go.Proofs.Ythbaoefbccdioaa.Sem.less_no c19b0
             have c19g1 : ((((rd_T76 l0_0 x8_1).f0).toList) == (((rd_T76 l0_0 (ji16)).f0).toList)) = false := Go.Proofs.Ythbaoefbccdioaa.Sem.less_ne c19b0
             clear c19
             have H' := Aside0.mk H
             clear H
             have p177 : 0 ≤ (x8_1 : Int) := od_
             have q177 : x8_1 < (l0_0.length : Int) := od_
             obtain ⟨ad177, e177, hx177_0, hx177_1, hx177_2⟩ := at_T76 HR0_0.out x8_1 p177 q177
             cases e177
             replace hx177_0 := hc_ HB hx177_0
             replace hx177_1 := hc_ HB hx177_1
             replace hx177_2 := hc_ HB hx177_2
             replace p177 := eq_true p177
             replace q177 := eq_true q177
             go_wp2_with (first | ((with_reducible refine gate_dst (N := 4) rfl ?_); (try (refine gate_guard (by rfl) ?_; dsimp only)); refine bx_ (N := 4) (cs := #[.string (⟨#[]⟩ : ByteArray), .string (⟨#[]⟩ : ByteArray), .int .i64 0]) (t := 76) ?_; intro gb178 hg w20 hbox hb; have BK178 := mk_ (hbox); have GW178 : Aside0 (w.heap.size ≤ gb178) := bz_ hg; have GE178 := GW178; have NB176_178 := bl_ BK176 hg; have NB178_176 := bg_ BK176 hg; replace BK176 := bb_ BK176 hb; replace HB := bs_ HB hb; clear hb hbox hg; have hnb21 := NB178_176.out; have hnc21 := NB176_178.out; obtain ⟨hcz22_0, hcz22_1, hcz22_2, hfz22_0, hfz22_1, hfz22_2⟩ := b3_ BK178))
             repeat (go_quiet (first | (go_at_call 59; (with_reducible refine (impl_within.calls (((rd_T76 l0_0 x8_1).f0).size : Int) 1 8 true _ A7.out).mono ?_); rintro e w' ⟨rfl, ⟨nd, rfl⟩⟩; (try first | exact ⟨rfl, _, World.drewN_drewN _ _ _⟩ | exact ⟨rfl, _, Eq.trans (World.drewN_drewN _ _ _) (congrArg (World.drewN _) (Nat.add_assoc _ _ _))⟩)) | (go_at_call 59; (with_reducible refine (impl_within.calls ((rd_T76 l0_0 x8_1).f2) 0 (((rd_T76 l0_0 x8_1).f1).size : Int) true _ A13.out).mono ?_); rintro e w' ⟨rfl, ⟨nd, rfl⟩⟩; (try first | exact ⟨rfl, _, World.drewN_drewN _ _ _⟩ | exact ⟨rfl, _, Eq.trans (World.drewN_drewN _ _ _) (congrArg (World.drewN _) (Nat.add_assoc _ _ _))⟩); obtain ⟨hcz23_0, hfz23_0⟩ := b1_ BK176; have p181 : 0 ≤ ((ji16) : Int) := od_; have q181 : (ji16) < (l0_0.length : Int) := od_; obtain ⟨ad181, e181, hx181_0, hx181_1, hx181_2⟩ := at_T76 HR0_0.out (ji16) p181 q181; obtain rfl : ad177 = ad181 := (by injection e181); have hn181_0 : ad177.block ≠ gb178 := Nat.ne_of_lt (Nat.lt_of_lt_of_le (by have := World.block_lt_of_cell? _ _ hx181_0; first | rwa [add_block] at this | exact this) GW178.out); have hn181_1 : ad177.block ≠ gb178 := Nat.ne_of_lt (Nat.lt_of_lt_of_le (by have := World.block_lt_of_cell? _ _ hx181_0; first | rwa [add_block] at this | exact this) GW178.out); have hn181_2 : ad177.block ≠ gb178 := Nat.ne_of_lt (Nat.lt_of_lt_of_le (by have := World.block_lt_of_cell? _ _ hx181_0; first | rwa [add_block] at this | exact this) GW178.out); replace hx181_0 := hc_ HB hx181_0; replace hx181_1 := hc_ HB hx181_1; replace hx181_2 := hc_ HB hx181_2; replace hx181_0 := (cell_far (p := ⟨gb178, 0, none⟩) ab_ (.string ((rd_T76 l0_0 x8_1).f0))).trans hx181_0; replace hx181_1 := (cell_far (p := ⟨gb178, 0, none⟩) ab_ (.string ((rd_T76 l0_0 x8_1).f0))).trans hx181_1; replace hx181_2 := (cell_far (p := ⟨gb178, 0, none⟩) ab_ (.string ((rd_T76 l0_0 x8_1).f0))).trans hx181_2; replace hx181_0 := (cell_far (p := ⟨gb178, 1, none⟩) ab_ (.string ((rd_T76 l0_0 x8_1).f1))).trans hx181_0; replace hx181_1 := (cell_far (p := ⟨gb178, 1, none⟩) ab_ (.string ((rd_T76 l0_0 x8_1).f1))).trans hx181_1; replace hx181_2 := (cell_far (p := ⟨gb178, 1, none⟩) ab_ (.string ((rd_T76 l0_0 x8_1).f1))).trans hx181_2; replace hx181_0 := (cell_far (p := ⟨gb178, 2, none⟩) ab_ (.int .i64 ((rd_T76 l0_0 x8_1).f2))).trans hx181_0; replace hx181_1 := (cell_far (p := ⟨gb178, 2, none⟩) ab_ (.int .i64 ((rd_T76 l0_0 x8_1).f2))).trans hx181_1; replace hx181_2 := (cell_far (p := ⟨gb178, 2, none⟩) ab_ (.int .i64 ((rd_T76 l0_0 x8_1).f2))).trans hx181_2; (try have hy181_0 := fun (n_ : Nat) => (show (((((w20.drewN n_).setCell ⟨gb178, 0, none⟩ (.string ((rd_T76 l0_0 x8_1).f0))).setCell ⟨gb178, 1, none⟩ (.string ((rd_T76 l0_0 x8_1).f1))).setCell ⟨gb178, 2, none⟩ (.int .i64 ((rd_T76 l0_0 x8_1).f2)))).cell? _ = some _ from hx181_0)); (try have hy181_1 := fun (n_ : Nat) => (show (((((w20.drewN n_).setCell ⟨gb178, 0, none⟩ (.string ((rd_T76 l0_0 x8_1).f0))).setCell ⟨gb178, 1, none⟩ (.string ((rd_T76 l0_0 x8_1).f1))).setCell ⟨gb178, 2, none⟩ (.int .i64 ((rd_T76 l0_0 x8_1).f2)))).cell? _ = some _ from hx181_1)); (try have hy181_2 := fun (n_ : Nat) => (show (((((w20.drewN n_).setCell ⟨gb178, 0, none⟩ (.string ((rd_T76 l0_0 x8_1).f0))).setCell ⟨gb178, 1, none⟩ (.string ((rd_T76 l0_0 x8_1).f1))).setCell ⟨gb178, 2, none⟩ (.int .i64 ((rd_T76 l0_0 x8_1).f2)))).cell? _ = some _ from hx181_2)); clear hn181_0; clear hn181_1; clear hn181_2; replace p181 := eq_true p181; replace q181 := eq_true q181)); try go_wp2_with fail)
             go_roundg k1
             case measure => have := HK1.out; omega
             case rel => exact ⟨(wrap64 (x8_1 + 1)), (by first | rfl | (simp; done) | (simp [*]; done) | (simp [bne]; done)), H', ⟨by have := HK1.out; omega⟩, ⟨bf_⟩, ⟨bw_ HB⟩⟩
            ·rw [if_neg c19] at H
             have c19b0 : (Op.bytesLess (((rd_T76 l0_0 (ji16)).f0).toList) (((rd_T76 l0_0 x8_1).f0).toList)) = false := by simpa using c19
             have c19g0 : (Op.bytesLess (((rd_T76 l0_0 x8_1).f0).toList) (((rd_T76 l0_0 (ji16)).f0).toList) || (((rd_T76 l0_0 x8_1).f0).toList) == (((rd_T76 l0_0 (ji16)).f0).toList)) = true := Go.Proofs.Ythbaoefbccdioaa.Sem.less_or c19b0
             have c19g1 : (!Op.bytesLess (((rd_T76 l0_0 x8_1).f0).toList) (((rd_T76 l0_0 (ji16)).f0).toList) && !((((rd_T76 l0_0 x8_1).f0).toList) == (((rd_T76 l0_0 (ji16)).f0).toList))) = false := Go.Proofs.Ythbaoefbccdioaa.Sem.less_and c19b0
             clear c19
             obtain rfl := Option.some.inj H
             have p177 : 0 ≤ (x8_1 : Int) := od_
             have q177 : x8_1 < (l0_0.length : Int) := od_
             obtain ⟨ad177, e177, hx177_0, hx177_1, hx177_2⟩ := at_T76 HR0_0.out x8_1 p177 q177
             cases e177
             replace hx177_0 := hc_ HB hx177_0
             replace hx177_1 := hc_ HB hx177_1
             replace hx177_2 := hc_ HB hx177_2
             replace p177 := eq_true p177
             replace q177 := eq_true q177
             go_wp2_with (first | ((with_reducible refine gate_dst (N := 4) rfl ?_); (try (refine gate_guard (by rfl) ?_; dsimp only)); refine bx_ (N := 4) (cs := #[.string (⟨#[]⟩ : ByteArray), .string (⟨#[]⟩ : ByteArray), .int .i64 0]) (t := 76) ?_; intro gb178 hg w24 hbox hb; have BK178 := mk_ (hbox); have GW178 : Aside0 (w.heap.size ≤ gb178) := bz_ hg; have GE178 := GW178; have NB176_178 := bl_ BK176 hg; have NB178_176 := bg_ BK176 hg; replace BK176 := bb_ BK176 hb; replace HB := bs_ HB hb; clear hb hbox hg; have hnb25 := NB178_176.out; have hnc25 := NB176_178.out; obtain ⟨hcz26_0, hcz26_1, hcz26_2, hfz26_0, hfz26_1, hfz26_2⟩ := b3_ BK178))
             repeat (go_quiet (first | (go_at_call 59; (with_reducible refine (impl_within.calls (((rd_T76 l0_0 x8_1).f0).size : Int) 1 8 true _ A7.out).mono ?_); rintro e w' ⟨rfl, ⟨nd, rfl⟩⟩; (try first | exact ⟨rfl, _, World.drewN_drewN _ _ _⟩ | exact ⟨rfl, _, Eq.trans (World.drewN_drewN _ _ _) (congrArg (World.drewN _) (Nat.add_assoc _ _ _))⟩)) | (go_at_call 59; (with_reducible refine (impl_within.calls ((rd_T76 l0_0 x8_1).f2) 0 (((rd_T76 l0_0 x8_1).f1).size : Int) true _ A13.out).mono ?_); rintro e w' ⟨rfl, ⟨nd, rfl⟩⟩; (try first | exact ⟨rfl, _, World.drewN_drewN _ _ _⟩ | exact ⟨rfl, _, Eq.trans (World.drewN_drewN _ _ _) (congrArg (World.drewN _) (Nat.add_assoc _ _ _))⟩); obtain ⟨hcz27_0, hfz27_0⟩ := b1_ BK176; have p181 : 0 ≤ ((ji16) : Int) := od_; have q181 : (ji16) < (l0_0.length : Int) := od_; obtain ⟨ad181, e181, hx181_0, hx181_1, hx181_2⟩ := at_T76 HR0_0.out (ji16) p181 q181; obtain rfl : ad177 = ad181 := (by injection e181); have hn181_0 : ad177.block ≠ gb178 := Nat.ne_of_lt (Nat.lt_of_lt_of_le (by have := World.block_lt_of_cell? _ _ hx181_0; first | rwa [add_block] at this | exact this) GW178.out); have hn181_1 : ad177.block ≠ gb178 := Nat.ne_of_lt (Nat.lt_of_lt_of_le (by have := World.block_lt_of_cell? _ _ hx181_0; first | rwa [add_block] at this | exact this) GW178.out); have hn181_2 : ad177.block ≠ gb178 := Nat.ne_of_lt (Nat.lt_of_lt_of_le (by have := World.block_lt_of_cell? _ _ hx181_0; first | rwa [add_block] at this | exact this) GW178.out); replace hx181_0 := hc_ HB hx181_0; replace hx181_1 := hc_ HB hx181_1; replace hx181_2 := hc_ HB hx181_2; replace hx181_0 := (cell_far (p := ⟨gb178, 0, none⟩) ab_ (.string ((rd_T76 l0_0 x8_1).f0))).trans hx181_0; replace hx181_1 := (cell_far (p := ⟨gb178, 0, none⟩) ab_ (.string ((rd_T76 l0_0 x8_1).f0))).trans hx181_1; replace hx181_2 := (cell_far (p := ⟨gb178, 0, none⟩) ab_ (.string ((rd_T76 l0_0 x8_1).f0))).trans hx181_2; replace hx181_0 := (cell_far (p := ⟨gb178, 1, none⟩) ab_ (.string ((rd_T76 l0_0 x8_1).f1))).trans hx181_0; replace hx181_1 := (cell_far (p := ⟨gb178, 1, none⟩) ab_ (.string ((rd_T76 l0_0 x8_1).f1))).trans hx181_1; replace hx181_2 := (cell_far (p := ⟨gb178, 1, none⟩) ab_ (.string ((rd_T76 l0_0 x8_1).f1))).trans hx181_2; replace hx181_0 := (cell_far (p := ⟨gb178, 2, none⟩) ab_ (.int .i64 ((rd_T76 l0_0 x8_1).f2))).trans hx181_0; replace hx181_1 := (cell_far (p := ⟨gb178, 2, none⟩) ab_ (.int .i64 ((rd_T76 l0_0 x8_1).f2))).trans hx181_1; replace hx181_2 := (cell_far (p := ⟨gb178, 2, none⟩) ab_ (.int .i64 ((rd_T76 l0_0 x8_1).f2))).trans hx181_2; (try have hy181_0 := fun (n_ : Nat) => (show (((((w24.drewN n_).setCell ⟨gb178, 0, none⟩ (.string ((rd_T76 l0_0 x8_1).f0))).setCell ⟨gb178, 1, none⟩ (.string ((rd_T76 l0_0 x8_1).f1))).setCell ⟨gb178, 2, none⟩ (.int .i64 ((rd_T76 l0_0 x8_1).f2)))).cell? _ = some _ from hx181_0)); (try have hy181_1 := fun (n_ : Nat) => (show (((((w24.drewN n_).setCell ⟨gb178, 0, none⟩ (.string ((rd_T76 l0_0 x8_1).f0))).setCell ⟨gb178, 1, none⟩ (.string ((rd_T76 l0_0 x8_1).f1))).setCell ⟨gb178, 2, none⟩ (.int .i64 ((rd_T76 l0_0 x8_1).f2)))).cell? _ = some _ from hx181_1)); (try have hy181_2 := fun (n_ : Nat) => (show (((((w24.drewN n_).setCell ⟨gb178, 0, none⟩ (.string ((rd_T76 l0_0 x8_1).f0))).setCell ⟨gb178, 1, none⟩ (.string ((rd_T76 l0_0 x8_1).f1))).setCell ⟨gb178, 2, none⟩ (.int .i64 ((rd_T76 l0_0 x8_1).f2)))).cell? _ = some _ from hx181_2)); clear hn181_0; clear hn181_1; clear hn181_2; replace p181 := eq_true p181; replace q181 := eq_true q181)); try go_wp2_with fail)
             go_ret
             exact ⟨by first | rfl | (simp [errW_none, errW_some] <;> rfl) | (simp only [← hji16]; first | rfl | (simp [errW_none, errW_some] <;> rfl)) | (simp [*, errW_none, errW_some] <;> rfl), bw_ HB⟩
           ·rw [if_neg c18] at H
            exact absurd H (by simp)
          ·rw [if_neg c17] at H
           exact absurd H (by simp)
         ·rw [if_neg c15] at H
          have c15b0 : decide (0 < x8_1) = false := decide_eq_false c15
          clear c15
          have H' := Aside0.mk H
          clear H
          have p177 : 0 ≤ (x8_1 : Int) := od_
          have q177 : x8_1 < (l0_0.length : Int) := od_
          obtain ⟨ad177, e177, hx177_0, hx177_1, hx177_2⟩ := at_T76 HR0_0.out x8_1 p177 q177
          cases e177
          replace hx177_0 := hc_ HB hx177_0
          replace hx177_1 := hc_ HB hx177_1
          replace hx177_2 := hc_ HB hx177_2
          replace p177 := eq_true p177
          replace q177 := eq_true q177
          go_wp2_with (first | ((with_reducible refine gate_dst (N := 4) rfl ?_); (try (refine gate_guard (by rfl) ?_; dsimp only)); refine bx_ (N := 4) (cs := #[.string (⟨#[]⟩ : ByteArray), .string (⟨#[]⟩ : ByteArray), .int .i64 0]) (t := 76) ?_; intro gb178 hg w28 hbox hb; have BK178 := mk_ (hbox); have GW178 : Aside0 (w.heap.size ≤ gb178) := bz_ hg; have GE178 := GW178; have NB176_178 := bl_ BK176 hg; have NB178_176 := bg_ BK176 hg; replace BK176 := bb_ BK176 hb; replace HB := bs_ HB hb; clear hb hbox hg; have hnb29 := NB178_176.out; have hnc29 := NB176_178.out; obtain ⟨hcz30_0, hcz30_1, hcz30_2, hfz30_0, hfz30_1, hfz30_2⟩ := b3_ BK178))
          repeat (go_quiet (first | (go_at_call 59; (with_reducible refine (impl_within.calls (((rd_T76 l0_0 x8_1).f0).size : Int) 1 8 true _ A7.out).mono ?_); rintro e w' ⟨rfl, ⟨nd, rfl⟩⟩; (try first | exact ⟨rfl, _, World.drewN_drewN _ _ _⟩ | exact ⟨rfl, _, Eq.trans (World.drewN_drewN _ _ _) (congrArg (World.drewN _) (Nat.add_assoc _ _ _))⟩)) | (go_at_call 59; (with_reducible refine (impl_within.calls ((rd_T76 l0_0 x8_1).f2) 0 (((rd_T76 l0_0 x8_1).f1).size : Int) true _ A13.out).mono ?_); rintro e w' ⟨rfl, ⟨nd, rfl⟩⟩; (try first | exact ⟨rfl, _, World.drewN_drewN _ _ _⟩ | exact ⟨rfl, _, Eq.trans (World.drewN_drewN _ _ _) (congrArg (World.drewN _) (Nat.add_assoc _ _ _))⟩))); try go_wp2_with fail)
          go_roundg k1
          case measure => have := HK1.out; omega
          case rel => exact ⟨(wrap64 (x8_1 + 1)), (by first | rfl | (simp; done) | (simp [*]; done) | (simp [bne]; done)), H', ⟨by have := HK1.out; omega⟩, ⟨bf_⟩, ⟨bw_ HB⟩⟩
        ·replace c14 := Bool.eq_false_iff.mpr c14
         subst c14
         have H1 : (some false) = some r := by rw [if_neg (show ¬ (false = true) by decide)] at H; exact H
         clear H
         have H := H1
         clear H1
         obtain rfl := Option.some.inj H
         have p177 : 0 ≤ (x8_1 : Int) := od_
         have q177 : x8_1 < (l0_0.length : Int) := od_
         obtain ⟨ad177, e177, hx177_0, hx177_1, hx177_2⟩ := at_T76 HR0_0.out x8_1 p177 q177
         cases e177
         replace hx177_0 := hc_ HB hx177_0
         replace hx177_1 := hc_ HB hx177_1
         replace hx177_2 := hc_ HB hx177_2
         replace p177 := eq_true p177
         replace q177 := eq_true q177
         go_wp2_with (first | ((with_reducible refine gate_dst (N := 4) rfl ?_); (try (refine gate_guard (by rfl) ?_; dsimp only)); refine bx_ (N := 4) (cs := #[.string (⟨#[]⟩ : ByteArray), .string (⟨#[]⟩ : ByteArray), .int .i64 0]) (t := 76) ?_; intro gb178 hg w31 hbox hb; have BK178 := mk_ (hbox); have GW178 : Aside0 (w.heap.size ≤ gb178) := bz_ hg; have GE178 := GW178; have NB176_178 := bl_ BK176 hg; have NB178_176 := bg_ BK176 hg; replace BK176 := bb_ BK176 hb; replace HB := bs_ HB hb; clear hb hbox hg; have hnb32 := NB178_176.out; have hnc32 := NB176_178.out; obtain ⟨hcz33_0, hcz33_1, hcz33_2, hfz33_0, hfz33_1, hfz33_2⟩ := b3_ BK178))
         repeat (go_quiet (first | (go_at_call 59; (with_reducible refine (impl_within.calls (((rd_T76 l0_0 x8_1).f0).size : Int) 1 8 true _ A7.out).mono ?_); rintro e w' ⟨rfl, ⟨nd, rfl⟩⟩; (try first | exact ⟨rfl, _, World.drewN_drewN _ _ _⟩ | exact ⟨rfl, _, Eq.trans (World.drewN_drewN _ _ _) (congrArg (World.drewN _) (Nat.add_assoc _ _ _))⟩)) | (go_at_call 59; (with_reducible refine (impl_within.calls ((rd_T76 l0_0 x8_1).f2) 0 (((rd_T76 l0_0 x8_1).f1).size : Int) false _ A13.out).mono ?_); rintro e w' ⟨rfl, ⟨nd, rfl⟩⟩; (try first | exact ⟨rfl, _, World.drewN_drewN _ _ _⟩ | exact ⟨rfl, _, Eq.trans (World.drewN_drewN _ _ _) (congrArg (World.drewN _) (Nat.add_assoc _ _ _))⟩))); try go_wp2_with fail)
         go_ret
         exact ⟨er_, bw_ HB⟩
      ·replace c8 := Bool.eq_false_iff.mpr c8
       subst c8
       have H1 : (some false) = some r := by rw [if_neg (show ¬ (false = true) by decide)] at H; exact H
       clear H
       have H := H1
       clear H1
       obtain rfl := Option.some.inj H
       have p177 : 0 ≤ (x8_1 : Int) := od_
       have q177 : x8_1 < (l0_0.length : Int) := od_
       obtain ⟨ad177, e177, hx177_0, hx177_1, hx177_2⟩ := at_T76 HR0_0.out x8_1 p177 q177
       cases e177
       replace hx177_0 := hc_ HB hx177_0
       replace hx177_1 := hc_ HB hx177_1
       replace hx177_2 := hc_ HB hx177_2
       replace p177 := eq_true p177
       replace q177 := eq_true q177
       go_wp2_with (first | ((with_reducible refine gate_dst (N := 4) rfl ?_); (try (refine gate_guard (by rfl) ?_; dsimp only)); refine bx_ (N := 4) (cs := #[.string (⟨#[]⟩ : ByteArray), .string (⟨#[]⟩ : ByteArray), .int .i64 0]) (t := 76) ?_; intro gb178 hg w34 hbox hb; have BK178 := mk_ (hbox); have GW178 : Aside0 (w.heap.size ≤ gb178) := bz_ hg; have GE178 := GW178; have NB176_178 := bl_ BK176 hg; have NB178_176 := bg_ BK176 hg; replace BK176 := bb_ BK176 hb; replace HB := bs_ HB hb; clear hb hbox hg; have hnb35 := NB178_176.out; have hnc35 := NB176_178.out; obtain ⟨hcz36_0, hcz36_1, hcz36_2, hfz36_0, hfz36_1, hfz36_2⟩ := b3_ BK178))
       repeat (go_quiet (first | (go_at_call 59; (with_reducible refine (impl_within.calls (((rd_T76 l0_0 x8_1).f0).size : Int) 1 8 false _ A7.out).mono ?_); rintro e w' ⟨rfl, ⟨nd, rfl⟩⟩; (try first | exact ⟨rfl, _, World.drewN_drewN _ _ _⟩ | exact ⟨rfl, _, Eq.trans (World.drewN_drewN _ _ _) (congrArg (World.drewN _) (Nat.add_assoc _ _ _))⟩))); try go_wp2_with fail)
       go_ret
       exact ⟨er_, bw_ HB⟩
     ·rw [if_neg c6] at H
      exact absurd H (by simp)
    ·rw [if_neg c5] at H
     exact absurd H (by simp)
   ·rw [if_neg c4] at H
    have c4b0 : decide (x8_1 < (l0_0.length : Int)) = false := decide_eq_false c4
    clear c4
    obtain rfl := Option.some.inj H
    have hcz37_0 : wr.cell? ⟨gb176, 0, none⟩ = some (.slice A0_0 l0_0.length c0_0) := bc_ BK176 0
    have hfz37_0 := blk_frozen BK176.out 0
    go_wp2
    go_ret
    exact ⟨er_, bw_ HB⟩

/-! ### impl_copyDisk: function 46 -/
def impl_copyDisk.f (l0_0 : List (S76)) : Option ((List (S76))) := if ([] : List (S76)).length + l0_0.length < 3518437208883 then (some (([] : List (S76)) ++ l0_0)) else (none)
set_option maxHeartbeats 8000000 in
set_option maxRecDepth 100000 in
theorem impl_copyDisk.calls (A0_0 : Option Addr) (c0_0 : Nat) (l0_0 : List (S76)) (r : List (S76)) (w : World) (hr0_0 : Kd.C k76 w A0_0 l0_0.length l0_0) (hc0_0 : l0_0.length ≤ c0_0) (h : impl_copyDisk.f l0_0 = some r) :
  Calls Try.prog 46 #[.agg #[.slice A0_0 l0_0.length c0_0]] w fun e w' => ∃ v0_ : Value, e = .returned (.agg #[v0_]) ∧ Kd.R k76 76 w' w.heap.size (fun _ => True) v0_ r ∧ Below w.heap.size w w' := by
 have hu31 := Try.underlying31
 have HR0_0 := Aside0.mk hr0_0
 have HC0_0 := Aside0.mk hc0_0
 clear hr0_0 hc0_0
 have HB := mk_ (Below.refl w.heap.size w)
 have H : (if ([] : List (S76)).length + l0_0.length < 3518437208883 then (some (([] : List (S76)) ++ l0_0)) else (none)) = some r := h
 clear h
 by_cases c2 : ([] : List (S76)).length + l0_0.length < 3518437208883
 ·rw [if_pos c2] at H
  have LMc2 := Aside0.mk c2
  clear c2
  obtain ⟨y184, hy184⟩ : ∃ y_ : List (S76), y_ = (([] : List (S76)) ++ l0_0) := ⟨_, rfl⟩
  replace H : (some y184) = some r := by first | (rw [hy184]; with_reducible exact H) | (have H2_ := (Option.bind_some _ _).symm.trans H; rw [hy184]; with_reducible exact H2_) | (have H2_ := (Option.bind_some _ _).symm.trans H; with_reducible exact H2_) | with_reducible exact H | (rw [hy184]; exact H) | exact H
  have Ny184 := Aside0.mk hy184
  clear hy184
  obtain rfl := Option.some.inj H
  go_enter Try.func46, Try.ntmps46
  go_wp2_with (first | ((with_reducible refine gate_dst (N := 1) rfl ?_); refine bx_ (N := 1) (cs := #[.slice A0_0 l0_0.length c0_0]) (t := 31) ?_; intro gb182 hg w3 hbox hb; have BK182 := mk_ (hbox); have GW182 : Aside0 (w.heap.size ≤ gb182) := bz_ hg; have GE182 := GW182; replace HB := bs_ HB hb; clear hb hbox hg) | ((with_reducible refine gate_dst (N := 2) rfl ?_); refine bx_ (N := 2) (cs := #[.slice none 0 0]) (t := 31) ?_; intro gb183 hg w4 hbox hb; have BK183 := mk_ (hbox); have GW183 : Aside0 (w.heap.size ≤ gb183) := bz_ hg; have GE183 := GW183; have NB182_183 := bl_ BK182 hg; have NB183_182 := bg_ BK182 hg; replace BK182 := bb_ BK182 hb; replace HB := bs_ HB hb; clear hb hbox hg; have hnb5 := NB182_183.out; have hnc5 := NB183_182.out; obtain ⟨hcz6_0, hfz6_0⟩ := b1_ BK182) | ((with_reducible refine gate_builtin (b := .append) (xs := #[.const (.slice none 0 0), .tmp 4]) rfl ?_); at_builtin; refine Kd.R_append_rows k76 (w0 := w) w.heap.size rfl (.const (.slice none 0 0)) (.tmp 4) 29 76 (.agg #[(.string ⟨#[]⟩), (.string ⟨#[]⟩), (.int .i64 0)]) 40 rfl Try.underlying29 info76 rfl (by decide) (by omega) (.slice none 0 0) ([] : List (S76)) l0_0 _ _ _ (fun _ => True) (fun _ => False) rfl rfl ?aO ?aR (fun _ _ h => h) (fun _ h => h.elim) ?aF ?aB ?aS ?aL ?_; (case aR => repeat (first | exact (Kd.C_below HR0_0.out HB.out) | (with_reducible refine Kd.C_alloc ?_ _) | (with_reducible refine Kd.C_drewN ?_ _) | (with_reducible refine Kd.C_drew ?_))); (case aB => exact (bw_ HB)); (case aF => exact (fun _ _ => trivial)); (case aO => exact ((Kd.R_nil _ _ _ _ (fun _ => True)))); (case aS => exact (below_size (bw_ HB))); (case aL => have := LMc2.out; omega); intro v185 w7 ho hb hg hat; rw [← Ny184.out] at ho; have HO186 := mk_ (ho); replace BK182 := mk_ (blk_grown (g := gb182) (o := .cells #[.slice A0_0 l0_0.length c0_0] 31 (0, 0)) (bp_ BK182) hg (by simp [Value.ownBlock])); replace BK183 := mk_ (blk_grown (g := gb183) (o := .cells #[.slice none 0 0] 31 (0, 0)) (bp_ BK183) hg (by simp [Value.ownBlock])); replace HB := mk_ (hb); clear ho hb hg hat; obtain ⟨Ao8, co8, eo8⟩ := Kd.R_slice HO186.out; subst eo8; obtain ⟨hcz9_0, hfz9_0⟩ := b1_ BK183))
  refine bodyPost_ret (results_cell_row rfl _ _ gb183 31 #[.slice Ao8 y184.length co8] (0, 0) _ rfl bu_ Try.underlying31 rfl (by kernel_rfl)) rfl ?_
  exact ⟨_, er_, by (with_reducible repeat (first | apply Kd.R_alloc | apply Kd.R_drewN | apply Kd.R_drew)); exact Kd.R_mono (Kd.R_far (p := ⟨gb183, 0, none⟩) (Kd.R_types HO186.out BK183.out (by decide)) (fun _ hk => hk.2) (.slice Ao8 y184.length co8)) (fun _ hk => trivial), bw_ HB⟩
 ·rw [if_neg c2] at H
  exact absurd H (by simp)

/-! ### impl_File_48: function 48 -/
def enc76 (x : S76) : List Value := [.string x.f0, .string x.f1, .int .i64 x.f2]
theorem own76 {w : World} {base : Nat} {ok : Nat → Prop} {v : Value} {l : List S76} (h : k76.R 76 w base ok v l) : w.ownsRow base 76 3 v l.length (l.flatMap enc76) := Ins.own_of_Rk (fun h => k76_openM h) h
theorem R76 {w : World} {base : Nat} {ok : Nat → Prop} {v : Value} {l : List S76} (hok : ∀ k, v.ownBlock = some k → ok k) (h : w.ownsRow base 76 3 v l.length (l.flatMap enc76)) : k76.R 76 w base ok v l := Ins.Rk_of_own (fun w base ok x => k76_mkM w base ok x) (fun _ => rfl) hok h
theorem one76 (l : List S76) : ∀ u ∈ l.flatMap enc76, u.oneCell' = true := by
 intro u hu
 obtain ⟨x, _, hx⟩ := List.mem_flatMap.1 hu
 simp only [enc76, List.mem_cons, List.not_mem_nil, or_false] at hx
 rcases hx with rfl | rfl | rfl <;> rfl
theorem len76 (l : List S76) : (l.flatMap enc76).length = l.length * 3 := Ins.fl_len (enc := enc76) (fun _ => rfl) l
set_option maxHeartbeats 4000000 in
set_option maxRecDepth 100000 in
theorem fileDelete (base g cap i : Nat) (l : List S76) (w : World) (hi : i < l.length) (hl : l.length < 3518437208883)
  (h : w.ownsRow base 76 3 (.slice (some ⟨g, 0, none⟩) l.length cap) l.length (l.flatMap enc76)) :
  Calls Try.prog 48 #[.slice (some ⟨g, 0, none⟩) l.length cap, .int .i64 i, .int .i64 ((i : Int) + 1)] w fun e w' =>
   e = .returned (.slice (some ⟨g, 0, none⟩) (l.length - 1) cap) ∧ w'.ownsRow base 76 3 (.slice (some ⟨g, 0, none⟩) (l.length - 1) cap) (l.length - 1) ((l.take i ++ l.drop (i + 1)).flatMap enc76) ∧ w.grownBy w' (some g) := by
 have hu29 := Try.underlying29
 have hu76 := Try.underlying76
 obtain ⟨t1, t2, t3, hnc, hcm, hb, hgl⟩ := Ins.own_there h
 have hcut := Ins.own_cut (w := w.drew) (enc := enc76) (fun _ => rfl) hi h
 obtain ⟨m, hm⟩ : ∃ m, l.length = i + 1 + m := ⟨l.length - (i + 1), by omega⟩
 obtain ⟨news, hnews⟩ : ∃ news, news = (l.drop (i + 1)).flatMap enc76 := ⟨_, rfl⟩
 have hlen : news.length = m * 3 := by rw [hnews, len76, List.length_drop, hm]; congr 1; omega
 have hget : ∀ t u, news[t]? = some u → w.cell? ⟨g, (i + 1) * 3 + t, none⟩ = some u := fun t u hu => by
  refine t3 _ _ ?_
  rw [hnews, ← Ins.fl_drop (enc := enc76) (sz := 3) (fun _ => rfl), List.getElem?_drop] at hu
  exact hu
 obtain ⟨A, hA, hsrc⟩ : ∃ A : Addr, (if cap = i + 1 then some (⟨g, 0, none⟩ : Addr) else some ⟨g, (i + 1) * 3, none⟩) = some A ∧ Aside0 (∀ t u, news[t]? = some u → w.drew.cell? (A.add t) = some u) := by
  by_cases hc : cap = i + 1
  ·refine ⟨⟨g, 0, none⟩, by simp [hc], ⟨fun t u hu => ?_⟩⟩
   have h0 : news.length = 0 := by rw [hlen]; omega
   rw [List.length_eq_zero_iff.1 h0] at hu
   simp at hu
  ·exact ⟨⟨g, (i + 1) * 3, none⟩, by simp [hc], ⟨fun t u hu => by rw [Addr.add_lit]; exact hget t u hu⟩⟩
 have s1 := Aside0.mk hlen
 have s2 : Aside0 (∀ u ∈ news, u.oneCell' = true) := ⟨by rw [hnews]; exact one76 _⟩
 have s3 : Aside0 (∀ t, t < news.length → (w.drew.cell? ⟨g, 0 + i * 3 + t, none⟩).isSome = true ∧ w.drew.frozen? ⟨g, 0 + i * 3 + t, none⟩ = false) := ⟨fun t ht => by
  rw [hlen] at ht
  refine ⟨t1 _ ?_, t2 _⟩
  have : (i + 1 + m) * 3 ≤ cap * 3 := Nat.mul_le_mul_right _ (by omega)
  omega⟩
 obtain ⟨i0, hi0, hz0, hz1, hz2⟩ := info_parts info76
 obtain ⟨W1, hW1⟩ : ∃ W1, W1 = w.drew.setCells g (0 + i * 3) news := ⟨_, rfl⟩
 have hcap0 : (cap : Int) ≤ 9223372036854775807 := by unfold maxLen at hcm; omega
 rw [Nat.zero_add] at hW1
 rw [← hnews, ← hW1] at hcut
 obtain ⟨u1, u2, _⟩ := Ins.own_there hcut.1
 obtain ⟨zs, hzs⟩ : ∃ zs : List Value, zs = [.string ⟨#[]⟩, .string ⟨#[]⟩, .int .i64 0] := ⟨_, rfl⟩
 have hzl : zs.length = 3 := by rw [hzs]; rfl
 have hfit : (i + m) * 3 + zs.length ≤ cap * 3 := by
  have : (i + 1 + m) * 3 ≤ cap * 3 := Nat.mul_le_mul_right _ (by omega)
  rw [hzl]; omega
 have hcl : ∀ ty, (Builtin.clear_ #[29] ty #[.slice (some ⟨g, (i + m) * 3, none⟩) (i + 1 + m - (i + m)) (cap - (i + m))]).run Try.prog (w.drew.setCells g (i * 3) news) = .ok (.tuple #[]) ((w.drew.setCells g (i * 3) news).setCells g ((i + m) * 3) zs) := fun ty => by
  rw [← hW1]
  refine Ins.run_clear_sz W1 29 76 ty (.agg #[.string ⟨#[]⟩, .string ⟨#[]⟩, .int .i64 0]) hu29 (fun w => by simp [zeroValue, typeInfo, hi0, hz0]) g ((i + m) * 3) _ _ zs (by omega) ?_ (fun j hj => u1 _ (by omega)) (fun j hj => u2 _) (by rw [hzs]; decide)
  rw [hzs, show i + 1 + m - (i + m) = 1 from by omega]
  exact (Ins.zero_fl (enc := enc76) (sz := 3) (z0 := z76) (fun _ => rfl) (by decide) rfl 1).trans rfl
 have hl1 : l.length - 1 = i + m := by omega
 rw [hl1] at hcut
 have hbe := Ins.own_behind hcut.1 zs hfit
 have HC := Aside0.mk hcut
 have HE := Aside0.mk hbe
 have X := Aside0.mk hW1
 have HM := Aside0.mk hm
 have HG := Aside0.mk h
 have hq1 : (i : Int) + 1 + (m : Int) ≤ (cap : Int) := by omega
 have hq2 : 0 ≤ (i : Int) + 1 + (m : Int) := by omega
 have hq3 : i ≤ cap := by omega
 have hq4 : i + 1 ≤ cap := by omega
 have hq5 : (0 : Int) ≤ (i : Int) + 1 := by omega
 have hq6 : (i : Int) + 1 ≤ (i : Int) + 1 + (m : Int) := by omega
 have hq7 : (i : Int) + (m : Int) ≤ (i : Int) + 1 + (m : Int) := by omega
 have hq8 : (0 : Int) ≤ (i : Int) + (m : Int) := by omega
 have hq9 : ¬ (cap = i + m) := by omega
 clear hcut hget h t1 t2 t3 hlen hnews hW1 hm hnc hl hi hbe hfit hzl hzs u1 u2 hl1
 rw [HM.out] at *
 go_enter Try.func48, Try.ntmps48
 go_wp2_with fail
 go_region_law (refine step_append_room rfl (.tmp 22) (.tmp 25) 29 rfl 76 i0 3 hu29 hi0 hz1 g 0 i cap (by simp [Act.eval, Act.put]) A m (cap - (i + 1)) news (by simp [Act.eval, Act.put]) s1.out hsrc.out s2.out (by omega) s3.out ?_)
 go_wp2
 go_ret
 refine ⟨by rw [show i + 1 + m - 1 = i + m from by omega]; rfl, ?_⟩
 rw [show i + 1 + m - 1 = i + m from by omega]
 have h1 := HC.out
 have h2 := HE.out
 rw [X.out] at h1 h2
 exact ⟨h2.1, ⟨h2.2.os.trans h1.2.os, h2.2.tape.trans h1.2.tape, h2.2.output.trans h1.2.output, Nat.le_trans h1.2.size h2.2.size, fun k hk hne => (h2.2.block k (Nat.lt_of_lt_of_le hk h1.2.size) hne).trans (h1.2.block k hk hne)⟩⟩

end Go.Proofs.Ythbaoefbccdioaa.QFnExactCutActs
