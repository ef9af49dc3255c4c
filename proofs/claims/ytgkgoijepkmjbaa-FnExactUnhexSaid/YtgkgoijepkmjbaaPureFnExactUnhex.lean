/- The law FnExactUnhex answers true at every input; no condition. -/
import Derived.Test.YtgkgoijepkmjbaaQFnExactUnhexx1
import Derived.Test.YtgkgoijepkmjbaaMath
namespace Go.Proofs.Ytgkgoijepkmjbaa.Pure
open Go.RowKit Go.Proofs.Ytgkgoijepkmjbaa.QFnExactUnhex Go.Proofs.YtgkgoijepkmjbaaW.PrintWords Go.Proofs.YtgkgoijepkmjbaaW.PrintLast Go.Proofs.YtgkgoijepkmjbaaW.PrintMore Go.Proofs.Ytgkgoijepkmjbaa.M
set_option linter.unusedVariables false
set_option linter.unusedSimpArgs false
set_option maxRecDepth 4000

theorem spec_l01Value_two (x : Int) (h0 : 0 ≤ x) (h1 : x ≤ 255) (h : ¬ (48 ≤ x ∧ x ≤ 57)) : Ev (fun k => spec_l01Value.j0 k x false) (if 97 ≤ x ∧ x ≤ 102 then x - 87 else -1) := by
  refine Ev.step (f := fun k => some (if 97 ≤ x ∧ x ≤ 102 then x - 87 else -1)) (fun k => ?_) (Ev.now _)
  simp only [spec_l01Value.j0]
  rw [if_neg (by simp)]
  by_cases a : x ≥ 97
  · rw [if_pos a]
    by_cases b : x ≤ 102
    · rw [if_pos b, if_pos ⟨a, b⟩, w64 (x := x) (by omega) (by omega), w64 (x := x - 97) (by omega) (by omega), w64 (by omega) (by omega)]; congr 1; omega
    · rw [if_neg b, if_neg (fun e => b e.2)]
  · rw [if_neg a, if_neg (fun e => a e.1)]
theorem spec_l01Value_ev (x : Int) (h0 : 0 ≤ x) (h1 : x ≤ 255) : Ev (fun k => spec_l01Value.f k x) (figV x) := by
  unfold spec_l01Value.f figV
  by_cases h2 : 48 ≤ x
  · refine Ev.pos h2 ?_
    by_cases h3 : x ≤ 57
    · rw [decide_eq_true h3, if_pos ⟨h2, h3⟩]
      refine Ev.step (f := fun k => some (wrap64 (wrap64 x - 48))) (fun k => by simp only [spec_l01Value.j0, if_true]) ((Ev.now _).eq ?_)
      rw [w64 (x := x) (by omega) (by omega), w64 (by omega) (by omega)]
    · rw [decide_eq_false h3, if_neg (fun e => h3 e.2)]
      exact spec_l01Value_two x h0 h1 (by omega)
  · refine Ev.neg (by omega) ?_
    rw [if_neg (fun e => h2 e.1)]
    exact spec_l01Value_two x h0 h1 (by omega)
theorem spec_Unhex_l0 (s : ByteArray) (hs : s.size ≤ 40000) (he : s.size % 2 = 0) : ∀ (d i : Nat) (acc : List Int), 2 * i + 2 * d = s.size → acc.length ≤ i →
    Ev (fun k => spec_Unhex.l0 k s acc ((2 * i : Nat) : Int)) (unhexF acc ((bytesOf s).drop (2 * i)))
  | 0, i, acc, h, ha => by
    refine Ev.step (f := fun k => some (strOfNums acc, true)) (fun k => ?_) ((Ev.now _).eq ?_)
    · simp only [spec_Unhex.l0]; rw [if_neg (by omega)]
    · rw [List.drop_of_length_le (by rw [bytesOf_length]; omega)]; simp [unhexF]
  | d + 1, i, acc, h, ha => by
    have hr := bt_range s ((2 * i : Nat) : Int)
    have hr1 := bt_range s ((2 * i + 1 : Nat) : Int)
    have ew : wrap64 (((2 * i : Nat) : Int) + 1) = ((2 * i + 1 : Nat) : Int) := by rw [w64 (by omega) (by omega)]; omega
    have ew2 : wrap64 (((2 * i : Nat) : Int) + 2) = ((2 * (i + 1) : Nat) : Int) := by rw [w64 (by omega) (by omega)]; omega
    rw [bytes_drop (s := s) (i := 2 * i) (by omega), bytes_drop (s := s) (i := 2 * i + 1) (by omega)]
    refine Ev.step (f := fun k => (spec_l01Value.f k (bt s ((2 * i : Nat) : Int))).bind fun t104 => (spec_l01Value.f k (bt s ((2 * i + 1 : Nat) : Int))).bind fun t105 => if t104 < 0 then some ((⟨#[]⟩ : ByteArray), false) else if t105 < 0 then some ((⟨#[]⟩ : ByteArray), false) else if acc.length < 140737488355328 then spec_Unhex.l0 k s (acc ++ [(wrap64 ((wrap64 (16 * t104)) + t105)) % 256]) ((2 * (i + 1) : Nat) : Int) else none) (fun k => ?_) ?_
    · simp only [spec_Unhex.l0]
      rw [if_pos (by omega), if_pos (by omega), ew, ew2]
      simp only [if_pos (show (0 : Int) ≤ ((2 * i + 1 : Nat) : Int) by omega), if_pos (show ((2 * i + 1 : Nat) : Int) < (s.size : Int) by omega)]
    · have v0 := figV_range (bt s ((2 * i : Nat) : Int))
      have v1 := figV_range (bt s ((2 * i + 1 : Nat) : Int))
      refine Ev.bind (spec_l01Value_ev _ hr.1 (by omega)) (Ev.bind (spec_l01Value_ev _ hr1.1 (by omega)) ?_)
      simp only [unhexF]
      by_cases h0 : figV (bt s ((2 * i : Nat) : Int)) < 0
      · exact Ev.pos h0 ((Ev.now _).eq (by rw [if_neg (by omega)]))
      · refine Ev.neg h0 ?_
        by_cases h1 : figV (bt s ((2 * i + 1 : Nat) : Int)) < 0
        · exact Ev.pos h1 ((Ev.now _).eq (by rw [if_neg (by omega)]))
        · refine Ev.neg h1 (Ev.pos (by omega) ?_)
          rw [if_pos ⟨by omega, by omega⟩, w64 (x := 16 * _) (by omega) (by omega), w64 (by omega) (by omega), Int.emod_eq_of_lt (by omega) (by omega)]
          exact spec_Unhex_l0 s hs he d (i + 1) _ (by omega) (by simp; omega)
theorem spec_Unhex_ev (s : ByteArray) : Ev (fun k => spec_Unhex.f k s) (unhexT s) := by
  unfold spec_Unhex.f unhexT
  by_cases h : s.size ≤ 40000
  · refine Ev.neg (by omega) ?_
    by_cases he : s.size % 2 = 0
    · rw [if_pos ⟨h, he⟩, show (((s.size : Int) % 2) != 0) = false from by simp; omega]
      refine Ev.step (f := fun k => spec_Unhex.l0 k s [] 0) (fun k => by simp only [spec_Unhex.j0]; rfl) ?_
      have := spec_Unhex_l0 s h he (s.size / 2) 0 [] (by omega) (by simp)
      simpa using this
    · rw [if_neg (fun e => he e.2), show (((s.size : Int) % 2) != 0) = true from by simp; omega]
      exact Ev.step (fun k => rfl) (Ev.now _)
  · rw [if_neg (fun e => h e.1)]
    exact Ev.pos (by omega) (Ev.step (fun k => rfl) (Ev.now _))



theorem impl_Unhex_l0 (s : ByteArray) (hs : s.size ≤ 40000) (he : s.size % 2 = 0) : ∀ (d i : Nat) (acc : List Int) (half : Int), 2 * i + 2 * d = s.size → acc.length ≤ i →
    Ev (fun k => impl_Unhex.l0 k s acc half ((2 * i : Nat) : Int)) (unhexF acc ((bytesOf s).drop (2 * i)))
  | 0, i, acc, half, h, ha => by
    refine Ev.step (f := fun k => some (strOfNums acc, true)) (fun k => ?_) ((Ev.now _).eq ?_)
    · simp only [impl_Unhex.l0]; rw [if_neg (by omega)]
    · rw [List.drop_of_length_le (by rw [bytesOf_length]; omega)]; simp [unhexF]
  | d + 1, i, acc, half, h, ha => by
    have hr := bt_range s ((2 * i : Nat) : Int)
    have hr1 := bt_range s ((2 * i + 1 : Nat) : Int)
    have v0 := figV_range (bt s ((2 * i : Nat) : Int))
    have v1 := figV_range (bt s ((2 * i + 1 : Nat) : Int))
    have ew : wrap64 (((2 * i : Nat) : Int) + 1) = ((2 * i + 1 : Nat) : Int) := by rw [w64 (by omega) (by omega)]; omega
    have ew2 : wrap64 (((2 * i + 1 : Nat) : Int) + 1) = ((2 * (i + 1) : Nat) : Int) := by rw [w64 (by omega) (by omega)]; omega
    rw [bytes_drop (s := s) (i := 2 * i) (by omega), bytes_drop (s := s) (i := 2 * i + 1) (by omega)]
    simp only [unhexF]
    by_cases h0 : figV (bt s ((2 * i : Nat) : Int)) < 0
    · refine Ev.step (f := fun k => some ((⟨#[]⟩ : ByteArray), false)) (fun k => ?_) ((Ev.now _).eq (by rw [if_neg (by omega)]))
      simp only [impl_Unhex.l0, strings_IndexByte.f]
      rw [if_pos (by omega), if_pos (by omega), figs_index _ hr.1 (by omega)]
      simp only [Option.bind_some, if_pos h0]
    · refine Ev.step (f := fun k => impl_Unhex.l0 k s acc (figV (bt s ((2 * i : Nat) : Int))) ((2 * i + 1 : Nat) : Int)) (fun k => ?_) ?_
      · simp only [impl_Unhex.l0, strings_IndexByte.f]
        rw [if_pos (by omega), if_pos (by omega), figs_index _ hr.1 (by omega)]
        simp only [Option.bind_some, if_neg h0]
        rw [if_neg (by rw [tm (by omega)]; omega), ew]
      · by_cases h1 : figV (bt s ((2 * i + 1 : Nat) : Int)) < 0
        · refine Ev.step (f := fun k => some ((⟨#[]⟩ : ByteArray), false)) (fun k => ?_) ((Ev.now _).eq (by rw [if_neg (by omega)]))
          simp only [impl_Unhex.l0, strings_IndexByte.f]
          rw [if_pos (by omega), if_pos (by omega), figs_index _ hr1.1 (by omega)]
          simp only [Option.bind_some, if_pos h1]
        · rw [if_pos ⟨by omega, by omega⟩]
          refine Ev.step (f := fun k => impl_Unhex.l0 k s (acc ++ [16 * figV (bt s ((2 * i : Nat) : Int)) + figV (bt s ((2 * i + 1 : Nat) : Int))]) (figV (bt s ((2 * i + 1 : Nat) : Int))) ((2 * (i + 1) : Nat) : Int)) (fun k => ?_) (impl_Unhex_l0 s hs he d (i + 1) _ _ (by omega) (by simp; omega))
          simp only [impl_Unhex.l0, strings_IndexByte.f]
          rw [if_pos (by omega), if_pos (by omega), figs_index _ hr1.1 (by omega)]
          simp only [Option.bind_some, if_neg h1]
          rw [if_pos (by rw [tm (by omega)]; omega), if_pos (by omega), ew2, w64 (x := 16 * _) (by omega) (by omega), w64 (by omega) (by omega), Int.emod_eq_of_lt (by omega) (by omega)]
theorem impl_Unhex_ev (s : ByteArray) : Ev (fun k => impl_Unhex.f k s) (unhexT s) := by
  unfold impl_Unhex.f unhexT
  by_cases he : s.size % 2 = 0
  · refine Ev.neg (by omega) ?_
    by_cases h : s.size ≤ 40000
    · rw [if_pos ⟨h, he⟩, show decide ((s.size : Int) > 40000) = false from by simp; omega]
      refine Ev.step (f := fun k => impl_Unhex.l0 k s [] 0 0) (fun k => by simp only [impl_Unhex.j0]; rfl) ?_
      have := impl_Unhex_l0 s h he (s.size / 2) 0 [] 0 (by omega) (by simp)
      simpa using this
    · rw [if_neg (fun e => h e.1), show decide ((s.size : Int) > 40000) = true from by simp; omega]
      exact Ev.step (fun k => rfl) (Ev.now _)
  · rw [if_neg (fun e => he e.2)]
    exact Ev.pos (by omega) (Ev.step (fun k => rfl) (Ev.now _))
theorem FnExactUnhex : laws_FnExactUnhex.Pure := by
  intro s hs
  apply Ev.rounds
  unfold laws_FnExactUnhex.f
  by_cases h : (s.size : Int) > 1048576
  · exact Ev.pos h (Ev.now _)
  · exact Ev.neg h (Ev.bind (spec_Unhex_ev s) (Ev.bind (impl_Unhex_ev s) (Ev.pos rfl (Ev.neg (by simp) (Ev.now _)))))

end Go.Proofs.Ytgkgoijepkmjbaa.Pure
