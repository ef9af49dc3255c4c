/- The law FnExactSnapName answers true at every input; no condition. -/
import Derived.Test.YtgnmlgoadkhceaaDoorQFnExactSnapNamex1
import Derived.Test.YtgnmlgoadkhceaaDoorMath
namespace Go.Proofs.YtgnmlgoadkhceaaDoor.QFnExactSnapName
open Go.RowKit
/-- What is left to be shown of the law: over numbers, texts and lists alone. -/
def laws_FnExactSnapName.Pure : Prop := ∀ (a0 : Int), (Lit.int .i64 a0).wf = true → ∃ k, laws_FnExactSnapName.f k a0 = some true
end Go.Proofs.YtgnmlgoadkhceaaDoor.QFnExactSnapName
namespace Go.Proofs.YtgnmlgoadkhceaaDoor.Pure
open Go.RowKit Go.Proofs.YtgnmlgoadkhceaaDoor.QFnExactSnapName Go.Proofs.YtgnmlgoadkhceaaDoorW.PrintWords Go.Proofs.YtgnmlgoadkhceaaDoorW.PrintLast Go.Proofs.YtgnmlgoadkhceaaDoorW.PrintMore Go.Proofs.YtgnmlgoadkhceaaDoor.M
set_option linter.unusedVariables false
set_option linter.unusedSimpArgs false
set_option maxRecDepth 4000

theorem spec_l01Figure_is (x : Int) (h0 : 0 ≤ x) (h1 : x < 16) : spec_l01Figure.f x = some (fig x) := by
  unfold spec_l01Figure.f fig
  by_cases h : x < 10
  · rw [if_pos h, if_pos h, w64 (x := 48 + x) (by omega) (by omega)]; congr 1; omega
  · rw [if_neg h, if_neg h, w64 (x := 97 + x) (by omega) (by omega), w64 (x := 97 + x - 10) (by omega) (by omega)]; congr 1; omega
def decB (u : Nat) : ByteArray := ⟨(Lib.decDigits u).toArray⟩
theorem decB_small {u : Nat} (h : u < 10) : decB u = strOfNums [48 + (u : Int)] := by
  unfold decB; rw [Lib.decDigits_one h]
  apply ByteArray.ext
  simp only [strOfNums, List.map_cons, List.map_nil]
  congr 3
theorem decB_big {u : Nat} (h : ¬ u < 10) : decB u = decB (u / 10) ++ strOfNums [48 + ((u % 10 : Nat) : Int)] := by
  unfold decB; rw [Lib.decDigits, dif_neg h]
  apply ByteArray.ext
  simp only [ByteArray.data_append, strOfNums, List.map_cons, List.map_nil]
  rw [List.append_toArray]
  congr 4
/-- The decimal figures of a number ahead of a text; nothing for 0. -/
def decG (m : Nat) (acc : ByteArray) : ByteArray := if m = 0 then acc else decB m ++ acc
theorem decG_zero (acc : ByteArray) : decG 0 acc = acc := if_pos rfl
theorem decG_step {m : Nat} (h : m ≠ 0) (acc : ByteArray) : decG (m / 10) (strOfNums [48 + ((m % 10 : Nat) : Int)] ++ acc) = decG m acc := by
  unfold decG
  rw [if_neg h]
  by_cases h1 : m < 10
  · rw [if_pos (by omega), decB_small h1, Nat.mod_eq_of_lt h1]
  · rw [if_neg (by omega), decB_big h1, M.append_assoc]
def signB (neg : Bool) (s : ByteArray) : ByteArray := if neg = true then (⟨#[45]⟩ : ByteArray) ++ s else s
def decS (n : Int) : ByteArray := ⟨(Lib.itoa n).toArray⟩
theorem decS_neg {n : Int} (h : n < 0) : decS n = (⟨#[45]⟩ : ByteArray) ++ decB n.natAbs := by
  unfold decS decB Lib.itoa; rw [if_pos h]
  apply ByteArray.ext
  rw [ByteArray.data_append]
  apply Array.toList_inj.1
  rw [Array.toList_append]
  simp
theorem decS_pos {n : Int} (h : ¬ n < 0) : decS n = decB n.natAbs := by
  unfold decS decB Lib.itoa; rw [if_neg h]
  have : n.toNat = n.natAbs := by omega
  rw [this]
theorem decB_size (u : Nat) (d : Nat) (h : u < 10 ^ d) : (decB u).size ≤ d + 1 := by
  induction d generalizing u with
  | zero => rw [decB_small (by omega), str_size]; simp
  | succ d ih =>
    by_cases h1 : u < 10
    · rw [decB_small h1, str_size]; simp
    · rw [decB_big h1, size_append, str_size]
      have := ih (u / 10) (by rw [Nat.pow_succ] at h; omega)
      simp only [List.length_cons, List.length_nil]; omega
theorem decS_size (n : Int) (h0 : -9223372036854775808 ≤ n) (h1 : n ≤ 9223372036854775807) : (decS n).size ≤ 21 := by
  have := decB_size n.natAbs 19 (by omega)
  by_cases h : n < 0
  · rw [decS_neg h, size_append]
    have e : (⟨#[45]⟩ : ByteArray).size = 1 := rfl
    omega
  · rw [decS_pos h]; omega
theorem spec_Decimal_l0 (neg : Bool) : ∀ (d : Nat) (x : Int) (acc : ByteArray), x.natAbs < 10 ^ d → x.natAbs ≤ 9223372036854775808 → acc.size + d ≤ 60 →
    Ev (fun k => spec_Decimal.l0 k x neg acc) (signB neg (decG x.natAbs acc))
  | 0, x, acc, h, hb, ha => by
    obtain rfl : x = 0 := by simp at h; omega
    refine Ev.step (f := fun k => some (signB neg acc)) (fun k => ?_) ((Ev.now _).eq (by rfl))
    simp only [spec_Decimal.l0]; rw [if_pos trivial]
    unfold signB
    cases neg
    · rfl
    · rw [if_pos rfl, if_pos (by omega), if_pos rfl]
  | d + 1, x, acc, h, hb, ha => by
    by_cases hx : x = 0
    · subst hx
      refine Ev.step (f := fun k => some (signB neg acc)) (fun k => ?_) ((Ev.now _).eq (by rfl))
      simp only [spec_Decimal.l0]; rw [if_pos trivial]
      unfold signB
      cases neg
      · rfl
      · rw [if_pos rfl, if_pos (by omega), if_pos rfl]
    · have e1 : (Int.tmod x 10).natAbs = x.natAbs % 10 := Int.natAbs_tmod x 10
      have e2 : (Int.tdiv x 10).natAbs = x.natAbs / 10 := Int.natAbs_tdiv x 10
      have hs : (strOfNums [48 + ((x.natAbs % 10 : Nat) : Int)]).size = 1 := by rw [str_size]; rfl
      have hf : fig ((x.natAbs % 10 : Nat) : Int) = 48 + ((x.natAbs % 10 : Nat) : Int) := by unfold fig; rw [if_pos (by omega)]
      have hw : wrap64 (Int.tdiv x 10) = Int.tdiv x 10 := w64 (by omega) (by omega)
      have hp : x.natAbs / 10 < 10 ^ d := by rw [Nat.pow_succ] at h; omega
      have ih := spec_Decimal_l0 neg d (Int.tdiv x 10) (strOfNums [48 + ((x.natAbs % 10 : Nat) : Int)] ++ acc) (by rw [e2]; exact hp) (by omega) (by rw [size_append, hs]; omega)
      rw [e2, decG_step (by omega)] at ih
      refine Ev.step (f := fun k => spec_Decimal.l0 k (Int.tdiv x 10) neg (strOfNums [48 + ((x.natAbs % 10 : Nat) : Int)] ++ acc)) (fun k => ?_) ih
      simp only [spec_Decimal.l0]; rw [if_neg hx]
      by_cases ht : Int.tmod x 10 < 0
      · have e3 : wrap64 (-(Int.tmod x 10)) = ((x.natAbs % 10 : Nat) : Int) := by rw [w64 (by omega) (by omega)]; omega
        rw [if_pos ht, e3, spec_l01Figure_is _ (by omega) (by omega)]
        simp only [Option.bind_some, hf]
        rw [if_pos (by rw [hs]; omega), hw]
      · have e3 : Int.tmod x 10 = ((x.natAbs % 10 : Nat) : Int) := by omega
        rw [if_neg ht, e3, spec_l01Figure_is _ (by omega) (by omega)]
        simp only [Option.bind_some, hf]
        rw [if_pos (by rw [hs]; omega), hw]
theorem spec_Decimal_ev (n : Int) (h0 : -9223372036854775808 ≤ n) (h1 : n ≤ 9223372036854775807) : Ev (fun k => spec_Decimal.f k n) (decS n) := by
  unfold spec_Decimal.f
  by_cases h : n = 0
  · subst h; exact Ev.pos rfl ((Ev.now _).eq (by rw [decS_pos (by decide)]; exact (decB_small (u := 0) (by decide)).symm ▸ rfl))
  · refine Ev.neg h ((spec_Decimal_l0 _ 20 n _ (by omega) (by omega) (by simp [ByteArray.size])).eq ?_)
    have e : decG n.natAbs (⟨#[]⟩ : ByteArray) = decB n.natAbs := by unfold decG; rw [if_neg (by omega), M.append_nil]
    rw [e]; unfold signB
    by_cases hn : n < 0
    · rw [decide_eq_true hn, if_pos rfl, decS_neg hn]
    · rw [decide_eq_false hn, if_neg (by decide), decS_pos hn]
theorem spec_l01In_is (a b c : Int) : spec_l01In.f a b c = some (inR a b c) := by
  unfold spec_l01In.f inR
  by_cases h : a ≥ b
  · rw [if_pos h]; congr 1; simp; omega
  · rw [if_neg h]; congr 1; simp; omega
theorem spec_SnapName_ev (n : Int) : Ev (fun k => spec_SnapName.f k n) (if inR n 0 1000000 = true then (⟨#[115]⟩ : ByteArray) ++ decS n else ⟨#[]⟩) := by
  unfold spec_SnapName.f
  refine Ev.bind0 (spec_l01In_is _ _ _) ?_
  by_cases h : inR n 0 1000000 = true
  · have hr := inR_iff.1 h
    rw [if_pos h]
    refine Ev.pos h (Ev.bind (spec_Decimal_ev n (by omega) (by omega)) (Ev.pos ?_ (Ev.now _)))
    have := decS_size n (by omega) (by omega); omega
  · rw [if_neg h]; exact Ev.neg h (Ev.now _)
theorem impl_Decimal_is (n : Int) (h0 : -9223372036854775808 ≤ n) (h1 : n ≤ 9223372036854775807) : impl_Decimal.f n = some (decS n) := by
  unfold impl_Decimal.f; rw [if_pos ⟨h0, h1⟩]; rfl
theorem impl_within_is (a b c : Int) : impl_within.f a b c = some (inR a b c) := by
  unfold impl_within.f inR
  by_cases h : a ≥ b
  · rw [if_pos h]; congr 1; simp; omega
  · rw [if_neg h]; congr 1; simp; omega
theorem impl_SnapName_is (n : Int) : impl_SnapName.f n = some (if inR n 0 1000000 = true then (⟨#[115]⟩ : ByteArray) ++ decS n else ⟨#[]⟩) := by
  unfold impl_SnapName.f
  rw [impl_within_is]; simp only [Option.bind_some]
  by_cases h : inR n 0 1000000 = true
  · have hr := inR_iff.1 h
    have := decS_size n (by omega) (by omega)
    rw [if_pos h, if_pos h, impl_Decimal_is n (by omega) (by omega)]; simp only [Option.bind_some]
    rw [if_pos (by omega)]
  · rw [if_neg h, if_neg h]
theorem FnExactSnapName : laws_FnExactSnapName.Pure := by
  intro n hn
  apply Ev.rounds
  unfold laws_FnExactSnapName.f
  exact Ev.bind (spec_SnapName_ev n) (Ev.bind0 (impl_SnapName_is n) (Ev.pos rfl (Ev.now _)))

end Go.Proofs.YtgnmlgoadkhceaaDoor.Pure
