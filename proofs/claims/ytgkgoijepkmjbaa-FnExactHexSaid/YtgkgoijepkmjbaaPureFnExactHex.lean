/- The law FnExactHex answers true at every input; no condition. -/
import Derived.Test.YtgkgoijepkmjbaaQFnExactHexx1
import Derived.Test.YtgkgoijepkmjbaaMath
namespace Go.Proofs.Ytgkgoijepkmjbaa.Pure
open Go.RowKit Go.Proofs.Ytgkgoijepkmjbaa.QFnExactHex Go.Proofs.YtgkgoijepkmjbaaW.PrintWords Go.Proofs.YtgkgoijepkmjbaaW.PrintLast Go.Proofs.YtgkgoijepkmjbaaW.PrintMore Go.Proofs.Ytgkgoijepkmjbaa.M
set_option linter.unusedVariables false
set_option linter.unusedSimpArgs false
set_option maxRecDepth 4000

theorem spec_l01Figure_is (x : Int) (h0 : 0 ≤ x) (h1 : x < 16) : spec_l01Figure.f x = some (fig x) := by
  unfold spec_l01Figure.f fig
  by_cases h : x < 10
  · rw [if_pos h, if_pos h, w64 (x := 48 + x) (by omega) (by omega)]; congr 1; omega
  · rw [if_neg h, if_neg h, w64 (x := 97 + x) (by omega) (by omega), w64 (x := 97 + x - 10) (by omega) (by omega)]; congr 1; omega
theorem spec_Hex_l0 (s : ByteArray) (hs : s.size ≤ 20000) : ∀ (d i : Nat) (acc : List Int), i + d = s.size → acc.length ≤ 2 * i →
    Ev (fun k => spec_Hex.l0 k s acc (i : Int)) (strOfNums (acc ++ hexL ((bytesOf s).drop i)), true)
  | 0, i, acc, h, ha => by
    refine Ev.step (f := fun k => some (strOfNums acc, true)) (fun k => ?_) ((Ev.now _).eq ?_)
    · simp only [spec_Hex.l0]; rw [if_neg (by omega)]
    · rw [List.drop_of_length_le (by rw [bytesOf_length]; omega)]; simp [hexL]
  | d + 1, i, acc, h, ha => by
    have hr := bt_range s (i : Int)
    refine Ev.step (f := fun k => spec_Hex.l0 k s (acc ++ [fig (bt s i / 16), fig (bt s i % 16)]) ((i + 1 : Nat) : Int)) (fun k => ?_) ((spec_Hex_l0 s hs d (i + 1) _ (by omega) (by simp; omega)).eq ?_)
    · simp only [spec_Hex.l0]
      rw [if_pos (by omega), if_pos (by omega), w64 (x := bt s i) (by omega) (by omega), td (by omega), tm (by omega), w64 (x := bt s i / 16) (by omega) (by omega)]
      rw [spec_l01Figure_is _ (by omega) (by omega), spec_l01Figure_is _ (by omega) (by omega)]
      simp only [Option.bind_some]
      rw [if_pos (by simp; omega), w64 (x := (i : Int) + 1) (by omega) (by omega)]
      rfl
    · rw [bytes_drop (s := s) (i := i) (by omega)]; simp [hexL]
theorem spec_Hex_ev (s : ByteArray) : Ev (fun k => spec_Hex.f k s) (hexT s) := by
  unfold spec_Hex.f hexT
  by_cases h : s.size ≤ 20000
  · rw [if_pos h]
    refine Ev.neg (by omega) ?_
    exact spec_Hex_l0 s h s.size 0 [] (by omega) (by simp)
  · rw [if_neg h]; exact Ev.pos (by omega) (Ev.now _)
theorem impl_Hex_l0 (s : ByteArray) (hs : s.size ≤ 20000) : ∀ (d i : Nat) (acc : List Int), i + d = s.size → acc.length ≤ 2 * i →
    Ev (fun k => impl_Hex.l0 k s acc (i : Int)) (strOfNums (acc ++ hexL ((bytesOf s).drop i)), true)
  | 0, i, acc, h, ha => by
    refine Ev.step (f := fun k => some (strOfNums acc, true)) (fun k => ?_) ((Ev.now _).eq ?_)
    · simp only [impl_Hex.l0]; rw [if_neg (by omega)]
    · rw [List.drop_of_length_le (by rw [bytesOf_length]; omega)]; simp [hexL]
  | d + 1, i, acc, h, ha => by
    have hr := bt_range s (i : Int)
    refine Ev.step (f := fun k => impl_Hex.l0 k s (acc ++ [fig (bt s i / 16), fig (bt s i % 16)]) ((i + 1 : Nat) : Int)) (fun k => ?_) ((impl_Hex_l0 s hs d (i + 1) _ (by omega) (by simp; omega)).eq ?_)
    · simp only [impl_Hex.l0]
      rw [if_pos (by omega), if_pos (by omega), td (by omega), tm (by omega), show bt s i / 16 % 256 = bt s i / 16 from by omega]
      rw [if_pos (by omega), if_pos (by omega), if_pos (by omega), if_pos (by omega), figs_at _ (by omega) (by omega), figs_at _ (by omega) (by omega)]
      simp only [Option.bind_some]
      rw [if_pos (by simp; omega), w64 (x := (i : Int) + 1) (by omega) (by omega)]
      rfl
    · rw [bytes_drop (s := s) (i := i) (by omega)]; simp [hexL]
theorem impl_Hex_ev (s : ByteArray) : Ev (fun k => impl_Hex.f k s) (hexT s) := by
  unfold impl_Hex.f hexT
  by_cases h : s.size ≤ 20000
  · rw [if_pos h]
    refine Ev.neg (by omega) ?_
    exact impl_Hex_l0 s h s.size 0 [] (by omega) (by simp)
  · rw [if_neg h]; exact Ev.pos (by omega) (Ev.now _)
theorem FnExactHex : laws_FnExactHex.Pure := by
  intro s hs
  apply Ev.rounds
  unfold laws_FnExactHex.f
  by_cases h : (s.size : Int) > 1048576
  · exact Ev.pos h (Ev.now _)
  · exact Ev.neg h (Ev.bind (spec_Hex_ev s) (Ev.bind (impl_Hex_ev s) (Ev.pos rfl (Ev.neg (by simp) (Ev.now _)))))

end Go.Proofs.Ytgkgoijepkmjbaa.Pure
