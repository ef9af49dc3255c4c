/- The law FnExactUnsealed answers true at every input; no condition. -/
import Derived.Test.YtgkgoijepkmjbaaPFnExactUnsealedx2
import Derived.Test.YtgkgoijepkmjbaaMath
namespace Go.Proofs.Ytgkgoijepkmjbaa.Pure
open Go.RowKit Go.Proofs.Ytgkgoijepkmjbaa.PFnExactUnsealed Go.Proofs.YtgkgoijepkmjbaaW.PrintWords Go.Proofs.YtgkgoijepkmjbaaW.PrintLast Go.Proofs.Ytgkgoijepkmjbaa.M
set_option linter.unusedVariables false
set_option linter.unusedSimpArgs false
set_option maxRecDepth 4000

theorem spec_SumMore_l1 {s : ByteArray} {i r : Int} : ∀ (d : Nat) (j x0 : Int), 0 ≤ j → j + d = 8 → Ev (fun k => spec_SumMore.l0 k (halves d x0) s (wrap64 (i + 1))) r → Ev (fun k => spec_SumMore.l1 k x0 s i j) r
  | 0, j, x0, h0, h, hk => by
    refine Ev.step (f := fun k => spec_SumMore.l0 k x0 s (wrap64 (i + 1))) (fun k => ?_) hk
    simp only [spec_SumMore.l1]; rw [if_neg (by omega)]
  | d + 1, j, x0, h0, h, hk => by
    refine Ev.step (f := fun k => spec_SumMore.l1 k (half x0) s i (j + 1)) (fun k => ?_) (spec_SumMore_l1 d (j + 1) (half x0) (by omega) (by omega) hk)
    simp only [spec_SumMore.l1]; rw [if_pos (by omega), w64 (x := j + 1) (by omega) (by omega)]
    unfold half
    split <;> rfl
theorem spec_SumMore_l0 (s : ByteArray) (hs : s.size ≤ 140737488351232) : ∀ (d i : Nat) (x0 : Int), i + d = s.size → Ev (fun k => spec_SumMore.l0 k x0 s i) (sumL x0 ((bytesOf s).drop i))
  | 0, i, x0, h => by
    refine Ev.step (f := fun k => some x0) (fun k => ?_) ((Ev.now _).eq ?_)
    · simp only [spec_SumMore.l0]; rw [if_neg (by omega)]
    · rw [List.drop_of_length_le (by rw [bytesOf_length]; omega)]; rfl
  | d + 1, i, x0, h => by
    refine Ev.step (f := fun k => spec_SumMore.l1 k (Go.bits .xor .u32 x0 (bt s i % 4294967296)) s i 0) (fun k => ?_) (spec_SumMore_l1 8 0 _ (by omega) (by omega) ?_)
    · simp only [spec_SumMore.l0]; rw [if_pos (by omega), if_pos (by omega)]
    · rw [w64 (x := (i : Int) + 1) (by omega) (by omega)]
      have := spec_SumMore_l0 s hs d (i + 1) (halves 8 (Go.bits .xor .u32 x0 (bt s i % 4294967296))) (by omega)
      rw [bytes_drop (by omega)]
      exact this
theorem spec_SumMore_ev (x : Int) (s : ByteArray) (hs : s.size ≤ 140737488351232) : Ev (fun k => spec_SumMore.f k x s) (sumL x (bytesOf s)) := by
  have := spec_SumMore_l0 s hs s.size 0 x (by omega)
  exact this
theorem spec_SumOf_ev (s : ByteArray) (hs : s.size ≤ 140737488351232) : Ev (fun k => spec_SumOf.f k s) (sumOf s) := by
  unfold spec_SumOf.f
  exact Ev.bind (spec_SumMore_ev _ s hs) (Ev.now _)
theorem spec_l02Four_is (x : Int) : spec_l02Four.f x = some (four x) := rfl
theorem spec_Unsealed_ev (s : ByteArray) (hs : s.size ≤ 140737488351232) : Ev (fun k => spec_Unsealed.f k s) (unsealed s) := by
  unfold spec_Unsealed.f
  rw [w64 (x := (s.size : Int) - 4) (by omega) (by omega)]
  by_cases h1 : 4 ≤ s.size
  · refine Ev.neg (by omega) ?_
    by_cases h2 : s.size ≤ 20004
    · refine Ev.neg (by omega) (Ev.pos (by omega) (Ev.pos (by omega) ?_))
      have e : ((s.size : Int) - 4).toNat = s.size - 4 := by omega
      rw [e]
      have hz := size_extract s 0 (s.size - 4) (by omega) (by omega)
      refine Ev.bind (spec_SumOf_ev _ (by omega)) (Ev.bind0 (spec_l02Four_is _) (Ev.is ?_))
      unfold unsealed
      by_cases h3 : s.extract (s.size - 4) s.size = four (sumOf (s.extract 0 (s.size - 4)))
      · rw [if_pos ((toList_iff _ _).2 h3), if_pos ⟨h1, h2, h3⟩]
      · rw [if_neg (fun e => h3 ((toList_iff _ _).1 e)), if_neg (fun e => h3 e.2.2)]
    · refine Ev.pos (by omega) (Ev.is ?_)
      rw [unsealed, if_neg (by omega)]
  · refine Ev.pos (by omega) (Ev.is ?_)
    rw [unsealed, if_neg (by omega)]
theorem impl_SumMore_l1 {s : ByteArray} {i r : Int} : ∀ (d : Nat) (j x0 : Int), 0 ≤ j → j + d = 8 → Ev (fun k => impl_SumMore.l0 k (halves d x0) s (wrap64 (i + 1))) r → Ev (fun k => impl_SumMore.l1 k x0 s i j) r
  | 0, j, x0, h0, h, hk => by
    refine Ev.step (f := fun k => impl_SumMore.l0 k x0 s (wrap64 (i + 1))) (fun k => ?_) hk
    simp only [impl_SumMore.l1]; rw [if_neg (by omega)]
  | d + 1, j, x0, h0, h, hk => by
    refine Ev.step (f := fun k => impl_SumMore.l1 k (half x0) s i (j + 1)) (fun k => ?_) (impl_SumMore_l1 d (j + 1) (half x0) (by omega) (by omega) hk)
    simp only [impl_SumMore.l1]; rw [if_pos (by omega), w64 (x := j + 1) (by omega) (by omega)]
    unfold half
    split <;> rfl
theorem impl_SumMore_l0 (s : ByteArray) (hs : s.size ≤ 140737488351232) : ∀ (d i : Nat) (x0 : Int), i + d = s.size → Ev (fun k => impl_SumMore.l0 k x0 s i) (sumL x0 ((bytesOf s).drop i))
  | 0, i, x0, h => by
    refine Ev.step (f := fun k => some x0) (fun k => ?_) ((Ev.now _).eq ?_)
    · simp only [impl_SumMore.l0]; rw [if_neg (by omega)]
    · rw [List.drop_of_length_le (by rw [bytesOf_length]; omega)]; rfl
  | d + 1, i, x0, h => by
    refine Ev.step (f := fun k => impl_SumMore.l1 k (Go.bits .xor .u32 x0 (bt s i % 4294967296)) s i 0) (fun k => ?_) (impl_SumMore_l1 8 0 _ (by omega) (by omega) ?_)
    · simp only [impl_SumMore.l0]; rw [if_pos (by omega), if_pos (by omega)]
    · rw [w64 (x := (i : Int) + 1) (by omega) (by omega)]
      have := impl_SumMore_l0 s hs d (i + 1) (halves 8 (Go.bits .xor .u32 x0 (bt s i % 4294967296))) (by omega)
      rw [bytes_drop (by omega)]
      exact this
theorem impl_SumMore_ev (x : Int) (s : ByteArray) (hs : s.size ≤ 140737488351232) : Ev (fun k => impl_SumMore.f k x s) (sumL x (bytesOf s)) := by
  have := impl_SumMore_l0 s hs s.size 0 x (by omega)
  exact this
theorem impl_SumOf_ev (s : ByteArray) (hs : s.size ≤ 140737488351232) : Ev (fun k => impl_SumOf.f k s) (sumOf s) := by
  unfold impl_SumOf.f
  exact Ev.bind (impl_SumMore_ev _ s hs) (Ev.now _)
theorem impl_Sealed_ev (s : ByteArray) : Ev (fun k => impl_Sealed.f k s) (sealed s) := by
  unfold impl_Sealed.f sealed
  by_cases h : s.size ≤ 20000
  · rw [if_pos h]
    refine Ev.neg (by omega) (Ev.bind (impl_SumOf_ev s (by omega)) (Ev.bind0 (a := fourL (sumOf s)) rfl (Ev.is ?_)))
    show (if s.size + (four (sumOf s)).size ≤ _ then some (s ++ four (sumOf s), true) else none) = _
    rw [if_pos (by rw [four_size]; omega)]
  · rw [if_neg h]; exact Ev.pos (by omega) (Ev.now _)
theorem impl_Unsealed_ev (s : ByteArray) (hs : s.size ≤ 140737488351232) : Ev (fun k => impl_Unsealed.f k s) (unsealed s) := by
  unfold impl_Unsealed.f
  rw [w64 (x := (s.size : Int) - 4) (by omega) (by omega)]
  by_cases h1 : 4 ≤ s.size
  · refine Ev.neg (by omega) (Ev.pos (by omega) (Ev.pos (by omega) ?_))
    have e : ((s.size : Int) - 4).toNat = s.size - 4 := by omega
    rw [e]
    have hz := size_extract s 0 (s.size - 4) (by omega) (by omega)
    refine Ev.bind (impl_Sealed_ev _) (Ev.is ?_)
    unfold unsealed
    by_cases h2 : s.size ≤ 20004
    · rw [sealed_ok (by omega)]
      simp only [if_true]
      have hc := cut_at s (s.size - 4) (by omega)
      by_cases h3 : s.extract (s.size - 4) s.size = four (sumOf (s.extract 0 (s.size - 4)))
      · rw [if_pos, if_pos ⟨h1, h2, h3⟩]
        rw [toList_iff, ← h3, hc]
      · rw [if_neg, if_neg (fun e => h3 e.2.2)]
        intro e
        rw [toList_iff] at e
        exact h3 (append_left_inj (hc.trans e.symm))
    · rw [sealed_no (by omega), if_neg (c := _ ∧ _) (fun e => h2 e.2.1)]; simp
  · refine Ev.pos (by omega) (Ev.is ?_)
    rw [unsealed, if_neg (by omega)]
theorem FnExactUnsealed : laws_FnExactUnsealed.Pure := by
  intro s hs
  apply Ev.rounds
  unfold laws_FnExactUnsealed.f
  by_cases h : (s.size : Int) > 1048576
  · exact Ev.pos h (Ev.now _)
  · exact Ev.neg h (Ev.bind (spec_Unsealed_ev s hs) (Ev.bind (impl_Unsealed_ev s hs) (Ev.pos rfl (Ev.neg (by simp) (Ev.now _)))))

end Go.Proofs.Ytgkgoijepkmjbaa.Pure
