/- The law FnExactKeyOf answers true at every input; no condition. -/
import Derived.Test.YthddngmncmhkoaaPFnExactKeyOfx2
import Derived.Test.YthddngmncmhkoaaMath
namespace Go.Proofs.Ythddngmncmhkoaa.PFnExactKeyOf
open Go.RowKit
/-- What is left to be shown of the law: over numbers, texts and lists alone. -/
def laws_FnExactKeyOf.Pure : Prop := ∀ (a0_0 : Int) (a0_1 : Int) (a0_2 : Int) (a0_3 : Int) (a0_4 : Int) (l0_5 : List (Int)) (a0_6 : ByteArray) (l0_7 : List (Int)) (a0_8 : Int), ((Lit.int .i64 a0_0).wf = true ∧ (Lit.int .i64 a0_1).wf = true ∧ (Lit.int .i64 a0_2).wf = true ∧ (Lit.int .i64 a0_3).wf = true ∧ (Lit.int .i64 a0_4).wf = true ∧ (l0_5.length ≤ maxLen ∧ ∀ x ∈ l0_5, (Lit.int .i64 x).wf = true) ∧ a0_6.size ≤ maxLen ∧ (l0_7.length ≤ maxLen ∧ ∀ x ∈ l0_7, (Lit.int .i64 x).wf = true) ∧ (Lit.int .i64 a0_8).wf = true) → ∃ k, laws_FnExactKeyOf.f k a0_0 a0_1 a0_2 a0_3 a0_4 l0_5 a0_6 l0_7 a0_8 = some true
end Go.Proofs.Ythddngmncmhkoaa.PFnExactKeyOf
namespace Go.Proofs.Ythddngmncmhkoaa.Pure
open Go.RowKit Go.Proofs.Ythddngmncmhkoaa.PFnExactKeyOf Go.Proofs.YthddngmncmhkoaaW.PrintWords Go.Proofs.YthddngmncmhkoaaW.PrintLast Go.Proofs.YthddngmncmhkoaaW.PrintMore Go.Proofs.Ythddngmncmhkoaa.M
set_option linter.unusedVariables false
set_option linter.unusedSimpArgs false
set_option maxRecDepth 4000

theorem laws_szIntS_is (l : List Int) (left : Int) (h0 : 0 ≤ left) (h1 : left ≤ 1048576) (hl : l.length ≤ maxLen) :
    ∃ r, laws_szIntS.f l left = some r ∧ (r < 0 ∨ 0 ≤ r ∧ r ≤ left ∧ (l.length : Int) ≤ left) := by
  unfold laws_szIntS.f
  simp only [maxLen] at hl
  rw [w64 (x := left - (l.length : Int)) (by omega) (by omega)]
  by_cases h : left - (l.length : Int) < 0
  · exact ⟨-1, by rw [if_pos h], .inl (by omega)⟩
  · exact ⟨_, by rw [if_neg h], .inr (by omega)⟩
theorem laws_szEvent_is (a b c d e : Int) (l : List Int) (s : ByteArray) (m : List Int) (f : Int) (hl : l.length ≤ maxLen) (hs : s.size ≤ maxLen) (hm : m.length ≤ maxLen) :
    ∃ r, laws_szEvent.f a b c d e l s m f 1048576 = some r ∧ (r < 0 ∨ 0 ≤ r ∧ l.length ≤ 1048576 ∧ s.size ≤ 1048576 ∧ m.length ≤ 1048576) := by
  unfold laws_szEvent.f
  obtain ⟨r, hr, hx⟩ := laws_szIntS_is l 1048576 (by omega) (by omega) hl
  rw [hr, Option.bind_some]
  simp only [maxLen] at hs
  rcases hx with hx | ⟨hx0, hx1, hx2⟩
  · exact ⟨-1, by rw [if_pos hx], .inl (by omega)⟩
  · rw [if_neg (by omega), w64 (x := r - (s.size : Int)) (by omega) (by omega)]
    by_cases h : r - (s.size : Int) < 0
    · exact ⟨-1, by rw [if_pos h], .inl (by omega)⟩
    · rw [if_neg h]
      obtain ⟨r', hr', hy⟩ := laws_szIntS_is m (r - (s.size : Int)) (by omega) (by omega) hm
      rw [hr', Option.bind_some]
      rcases hy with hy | ⟨hy0, hy1, hy2⟩
      · exact ⟨-1, by rw [if_pos hy], .inl (by omega)⟩
      · exact ⟨r', by rw [if_neg (by omega)], .inr (by omega)⟩
theorem spec_l01In_is (a b c : Int) : spec_l01In.f a b c = some (inR a b c) := by
  unfold spec_l01In.f inR
  by_cases h : a ≥ b
  · rw [if_pos h]; congr 1; simp; omega
  · rw [if_neg h]; congr 1; simp; omega
def keyOf (b d : Int) : Int := if b = 1 then 1 else if b = 3 then 2 else if b = 4 then 3 else if b = 2 then (if 1 ≤ d ∧ d ≤ 5 then 10 + d else 0) else 0
theorem spec_KeyOf_is (a b c d e : Int) (l : List Int) (s : ByteArray) (m : List Int) (f : Int) : spec_KeyOf.f a b c d e l s m f = some (keyOf b d) := by
  unfold spec_KeyOf.f keyOf
  split
  · rfl
  · split
    · rfl
    · split
      · rfl
      · split
        · rw [spec_l01In_is, Option.bind_some]
          by_cases h : 1 ≤ d ∧ d ≤ 5
          · rw [if_pos (inR_iff.2 h), if_pos h, w64 (by omega) (by omega)]
          · rw [if_neg (fun e => h (inR_iff.1 e)), if_neg h]
        · rfl
theorem laws_toIntS_l0 (l : List Int) (hl : l.length ≤ 35184372088832) : ∀ (d i : Nat), i + d = l.length →
    Ev (fun k => laws_toIntS.l0 k l (l.take i ++ List.replicate (l.length - i) 0) (i : Int)) l
  | 0, i, h => by
    refine Ev.step (f := fun k => some (l.take i ++ List.replicate (l.length - i) 0)) (fun k => ?_) ((Ev.now _).eq ?_)
    · simp only [laws_toIntS.l0]; rw [if_neg (by omega)]
    · obtain rfl : i = l.length := by omega
      simp
  | d + 1, i, h => by
    refine Ev.step (f := fun k => laws_toIntS.l0 k l (l.take (i + 1) ++ List.replicate (l.length - (i + 1)) 0) ((i + 1 : Nat) : Int)) (fun k => ?_) (laws_toIntS_l0 l hl d (i + 1) (by omega))
    simp only [laws_toIntS.l0]
    rw [if_pos (by omega), if_pos (by omega), if_pos (by simp [List.length_take]; omega), w64 (x := (i : Int) + 1) (by omega) (by omega)]
    rw [Int.toNat_natCast, rd_nat l i (by omega), fill_step l 0 i l.length (by omega) rfl]
    rfl
theorem laws_toIntS_ev (l : List Int) (hl : l.length ≤ 35184372088832) : Ev (fun k => laws_toIntS.f k l) l := by
  unfold laws_toIntS.f
  refine Ev.pos (by omega) (Ev.pos (by omega) ?_)
  have := laws_toIntS_l0 l hl l.length 0 (by omega)
  simpa using this
theorem laws_toEvent_ev (a b c d e : Int) (l : List Int) (s : ByteArray) (m : List Int) (f : Int) (hl : l.length ≤ 1048576) (hm : m.length ≤ 1048576) :
    Ev (fun k => laws_toEvent.f k a b c d e l s m f) (a, b, c, d, e, l, s, m, f) := by
  unfold laws_toEvent.f
  exact Ev.bind (laws_toIntS_ev l (by omega)) (Ev.bind (laws_toIntS_ev m (by omega)) (Ev.now _))
theorem impl_within_is (a b c : Int) : impl_within.f a b c = some (inR a b c) := by
  unfold impl_within.f inR
  by_cases h : a ≥ b
  · rw [if_pos h]; congr 1; simp; omega
  · rw [if_neg h]; congr 1; simp; omega
theorem impl_KeyOf_is (a b c d e : Int) (l : List Int) (s : ByteArray) (m : List Int) (f : Int) : impl_KeyOf.f a b c d e l s m f = some (keyOf b d) := by
  unfold impl_KeyOf.f keyOf
  split
  · rfl
  · split
    · rfl
    · split
      · rfl
      · split
        · rw [impl_within_is, Option.bind_some]
          by_cases h : 1 ≤ d ∧ d ≤ 5
          · rw [if_pos (inR_iff.2 h), if_pos h, w64 (by omega) (by omega)]
          · rw [if_neg (fun e => h (inR_iff.1 e)), if_neg h]
        · rfl
theorem laws_eqIntS_l0 (l m : List Int) (hl : l.length ≤ 35184372088832) (hm : l.length = m.length) : ∀ (d i : Nat), i + d = l.length →
    Ev (fun k => laws_eqIntS.l0 k l m (i : Int)) (decide (l.drop i = m.drop i))
  | 0, i, h => by
    refine Ev.step (f := fun k => some true) (fun k => ?_) ((Ev.now _).eq ?_)
    · simp only [laws_eqIntS.l0]; rw [if_neg (by omega)]
    · rw [List.drop_of_length_le (by omega), List.drop_of_length_le (by omega)]; rfl
  | d + 1, i, h => by
    rw [rd_drop (l := l) (by omega), rd_drop (l := m) (by omega)]
    by_cases e : rd l (i : Int) = rd m (i : Int)
    · refine Ev.step (f := fun k => laws_eqIntS.l0 k l m ((i + 1 : Nat) : Int)) (fun k => ?_) ((laws_eqIntS_l0 l m hl hm d (i + 1) (by omega)).eq ?_)
      · simp only [laws_eqIntS.l0]
        rw [if_pos (by omega), if_pos (by omega), if_pos (by omega), if_pos e, w64 (x := (i : Int) + 1) (by omega) (by omega)]
        rfl
      · simp [e]
    · refine Ev.step (f := fun k => some false) (fun k => ?_) ((Ev.now _).eq ?_)
      · simp only [laws_eqIntS.l0]
        rw [if_pos (by omega), if_pos (by omega), if_pos (by omega), if_neg e]
      · simp [e]
theorem laws_eqIntS_ev (l m : List Int) (hl : l.length ≤ 35184372088832) : Ev (fun k => laws_eqIntS.f k l m) (decide (l = m)) := by
  unfold laws_eqIntS.f
  by_cases h : l.length = m.length
  · refine Ev.pos (by omega) ((laws_eqIntS_l0 l m hl h l.length 0 (by omega)).eq (by simp))
  · refine Ev.neg (by omega) ((Ev.now _).eq ?_)
    rw [eq_comm, decide_eq_false_iff_not]
    intro e; exact h (by rw [e])
theorem laws_eqEvent_ev (a b c d e : Int) (l : List Int) (s : ByteArray) (m : List Int) (f : Int) (hl : l.length ≤ 1048576) (hm : m.length ≤ 1048576) :
    Ev (fun k => laws_eqEvent.f k a b c d e l s m f a b c d e l s m f) true := by
  unfold laws_eqEvent.f
  exact Ev.pos rfl (Ev.pos rfl (Ev.pos rfl (Ev.pos rfl (Ev.pos rfl (Ev.bind (laws_eqIntS_ev l l (by omega)) (Ev.pos (by simp) (Ev.pos rfl (Ev.bind (laws_eqIntS_ev m m (by omega)) (Ev.pos (by simp) (Ev.pos rfl (Ev.now _)))))))))))
theorem FnExactKeyOf : laws_FnExactKeyOf.Pure := by
  intro a b c d e l s m f hg
  obtain ⟨_, _, _, _, _, hl, hs, hm, _⟩ := hg
  apply Ev.rounds
  unfold laws_FnExactKeyOf.f
  obtain ⟨r, hr, hx⟩ := laws_szEvent_is a b c d e l s m f hl.1 hs hm.1
  refine Ev.bind0 hr ?_
  rcases hx with hx | ⟨hx0, hx1, hx2, hx3⟩
  · exact Ev.pos hx (Ev.now _)
  · exact Ev.neg (by omega) (Ev.bind (laws_toEvent_ev a b c d e l s m f hx1 hx3) (Ev.bind0 (spec_KeyOf_is _ _ _ _ _ _ _ _ _) (Ev.bind (laws_toEvent_ev a b c d e l s m f hx1 hx3) (Ev.bind0 (impl_KeyOf_is _ _ _ _ _ _ _ _ _) (Ev.pos rfl
      (Ev.bind (laws_toEvent_ev a b c d e l s m f hx1 hx3) (Ev.bind (laws_eqEvent_ev a b c d e l s m f hx1 hx3) (Ev.pos rfl (Ev.now _)))))))))

end Go.Proofs.Ythddngmncmhkoaa.Pure
