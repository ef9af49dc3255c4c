/- The law FnExactShortText answers true at every input; no condition. -/
import Derived.Test.YtgkgoijepkmjbaaPFnExactShortTextx1
import Derived.Test.YtgkgoijepkmjbaaMath
namespace Go.Proofs.Ytgkgoijepkmjbaa.Pure
open Go.RowKit Go.Proofs.Ytgkgoijepkmjbaa.PFnExactShortText Go.Proofs.YtgkgoijepkmjbaaW.PrintWords Go.Proofs.YtgkgoijepkmjbaaW.PrintLast Go.Proofs.Ytgkgoijepkmjbaa.M
set_option linter.unusedVariables false
set_option linter.unusedSimpArgs false
set_option maxRecDepth 4000

theorem spec_l01Var_l0 : ∀ (n : Nat) (acc : List Int), acc.length + n < 140737488355328 → Ev (fun k => spec_l01Var.l0 k (n : Int) acc) (strOfNums (acc ++ varL n)) := by
  intro n
  induction n using Nat.strongRecOn with
  | _ n ih =>
    intro acc ha
    by_cases h : 127 < n
    · refine Ev.step (f := fun k => spec_l01Var.l0 k ((n / 128 : Nat) : Int) (acc ++ [((n % 128 + 128 : Nat) : Int)])) (fun k => ?_) ?_
      · simp only [spec_l01Var.l0]
        rw [if_pos (by omega), if_pos (by omega), td (by omega), tm (by omega)]
        rw [w64 (x := (n : Int) / 128) (by omega) (by omega), w64 (x := (n : Int) % 128 + 128) (by omega) (by omega)]
        congr 3
        omega
      · refine (ih (n / 128) (by omega) _ (by simp; omega)).eq ?_
        rw [varL_big h, List.append_assoc]; rfl
    · refine Ev.step (f := fun k => some (strOfNums (acc ++ varL n))) (fun k => ?_) (Ev.now _)
      simp only [spec_l01Var.l0]
      rw [if_neg (by omega), if_pos (by omega), varL_small h]
      congr 4
      omega
theorem spec_l01Var_ev (n : Nat) (h : n < 140737488355328) : Ev (fun k => spec_l01Var.f k (n : Int)) (vt n) := by
  have := spec_l01Var_l0 n [] (by simpa using h)
  exact this
theorem spec_l01Var_evi (n : Int) (h0 : 0 ≤ n) (h : n < 140737488355328) : Ev (fun k => spec_l01Var.f k n) (vt n.toNat) := by
  have := spec_l01Var_ev n.toNat (by omega)
  rwa [Int.toNat_of_nonneg h0] at this
theorem spec_ShortText_ev (s : ByteArray) : Ev (fun k => spec_ShortText.f k s) (shortText s) := by
  unfold spec_ShortText.f shortText
  by_cases h : s.size ≤ 20000
  · rw [if_pos h]
    refine Ev.neg (by omega) (Ev.bind (spec_l01Var_ev s.size (by omega)) (Ev.is ?_))
    have := vt_size5 s.size (by omega)
    rw [if_pos (by omega)]
  · rw [if_neg h]; exact Ev.pos (by omega) (Ev.now _)
theorem impl_within_is (a b c : Int) : impl_within.f a b c = some (inR a b c) := by
  unfold impl_within.f inR
  by_cases h : a ≥ b
  · rw [if_pos h]; congr 1; simp; omega
  · rw [if_neg h]; congr 1; simp; omega
theorem impl_VarText_l0 : ∀ (n : Nat) (acc : List Int), acc.length + n < 140737488355328 → Ev (fun k => impl_VarText.l0 k (n : Int) acc) (strOfNums (acc ++ varL n), true) := by
  intro n
  induction n using Nat.strongRecOn with
  | _ n ih =>
    intro acc ha
    by_cases h : 127 < n
    · refine Ev.step (f := fun k => impl_VarText.l0 k ((n / 128 : Nat) : Int) (acc ++ [((n % 128 + 128 : Nat) : Int)])) (fun k => ?_) ?_
      · simp only [impl_VarText.l0]
        rw [if_pos (by omega), if_pos (by omega), td (by omega), tm (by omega)]
        rw [w64 (x := (n : Int) / 128) (by omega) (by omega), w64 (x := (n : Int) % 128 + 128) (by omega) (by omega)]
        congr 3
        omega
      · refine (ih (n / 128) (by omega) _ (by simp; omega)).eq ?_
        rw [varL_big h, List.append_assoc]; rfl
    · refine Ev.step (f := fun k => some (strOfNums (acc ++ varL n), true)) (fun k => ?_) (Ev.now _)
      simp only [impl_VarText.l0]
      rw [if_neg (by omega), if_pos (by omega), varL_small h]
      congr 5
      omega
theorem impl_VarText_ev (n : Int) : Ev (fun k => impl_VarText.f k n) (varText n) := by
  unfold impl_VarText.f
  refine Ev.bind0 (impl_within_is _ _ _) ?_
  by_cases h : 0 ≤ n ∧ n ≤ 1000000000
  · refine Ev.pos (inR_iff.2 h) ?_
    have := impl_VarText_l0 n.toNat [] (by simp; omega)
    rw [Int.toNat_of_nonneg h.1] at this
    refine this.eq ?_
    rw [varText, if_pos h]; rfl
  · refine Ev.neg (fun e => h (inR_iff.1 e)) (Ev.is ?_)
    rw [varText, if_neg h]
theorem impl_ShortText_ev (s : ByteArray) : Ev (fun k => impl_ShortText.f k s) (shortText s) := by
  unfold impl_ShortText.f shortText
  by_cases h : s.size ≤ 20000
  · rw [if_pos h]
    refine Ev.neg (by omega) (Ev.bind (impl_VarText_ev (s.size : Int)) (Ev.is ?_))
    have := vt_size5 s.size (by omega)
    rw [varText_ok (by omega) (by omega), Int.toNat_natCast]
    simp only
    rw [if_pos (by omega)]
  · rw [if_neg h]; exact Ev.pos (by omega) (Ev.now _)
theorem FnExactShortText : laws_FnExactShortText.Pure := by
  intro s hs
  apply Ev.rounds
  unfold laws_FnExactShortText.f
  by_cases h : (s.size : Int) > 1048576
  · exact Ev.pos h (Ev.now _)
  · exact Ev.neg h (Ev.bind (spec_ShortText_ev s) (Ev.bind (impl_ShortText_ev s) (Ev.pos rfl (Ev.neg (by simp) (Ev.now _)))))

end Go.Proofs.Ytgkgoijepkmjbaa.Pure
