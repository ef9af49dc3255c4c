/- The law FnExactMost answers true at every input; no condition. -/
import Derived.Test.YtbdjdobockghhaaPFnExactMostx2
import Derived.Test.YtbdjdobockghhaaMath
namespace Go.Proofs.Ytbdjdobockghhaa.Pure
open Go.RowKit Go.Proofs.Ytbdjdobockghhaa.PFnExactMost Go.Proofs.YtbdjdobockghhaaW.PrintWords Go.Proofs.YtbdjdobockghhaaW.PrintLast Go.Proofs.Ytbdjdobockghhaa.M
set_option linter.unusedVariables false
set_option linter.unusedSimpArgs false
set_option maxRecDepth 4000

theorem laws_toIntS_l0 (l : List Int) (hl : l.length ≤ 35184372088832) : ∀ (d i : Nat), i + d = l.length →
    Ev (fun k => laws_toIntS.l0 k l (l.take i ++ List.replicate (l.length - i) 0) (i : Int)) l
  | 0, i, h => by
    refine Ev.step (f := fun k => some (l.take i ++ List.replicate (l.length - i) 0)) (fun k => ?_) ((Ev.now _).eq ?_)
    · simp only [laws_toIntS.l0]; rw [if_neg (by omega)]
    · obtain rfl : i = l.length := by omega
      simp
  | d + 1, i, h => by
    refine Ev.step (f := fun k => laws_toIntS.l0 k l (l.take (i + 1) ++ List.replicate (l.length - (i + 1)) 0) ((i + 1 : Nat) : Int)) (fun k => ?_) (laws_toIntS_l0 l hl d (i + 1) (by omega))
    simp only [laws_toIntS.l0]
    rw [if_pos (by omega), if_pos (by omega), if_pos (by simp [List.length_take]; omega), w64 (x := (i : Int) + 1) (by omega) (by omega)]
    rw [Int.toNat_natCast, rd_nat l i (by omega), fill_step l 0 i l.length (by omega) rfl]
    rfl
theorem laws_toIntS_ev (l : List Int) (hl : l.length ≤ 35184372088832) : Ev (fun k => laws_toIntS.f k l) l := by
  unfold laws_toIntS.f
  refine Ev.pos (by omega) (Ev.pos (by omega) ?_)
  have := laws_toIntS_l0 l hl l.length 0 (by omega)
  simpa using this
theorem laws_eqIntS_l0 (l m : List Int) (hl : l.length ≤ 35184372088832) (hm : l.length = m.length) : ∀ (d i : Nat), i + d = l.length →
    Ev (fun k => laws_eqIntS.l0 k l m (i : Int)) (decide (l.drop i = m.drop i))
  | 0, i, h => by
    refine Ev.step (f := fun k => some true) (fun k => ?_) ((Ev.now _).eq ?_)
    · simp only [laws_eqIntS.l0]; rw [if_neg (by omega)]
    · rw [List.drop_of_length_le (by omega), List.drop_of_length_le (by omega)]; rfl
  | d + 1, i, h => by
    rw [rd_drop (l := l) (by omega), rd_drop (l := m) (by omega)]
    by_cases e : rd l (i : Int) = rd m (i : Int)
    · refine Ev.step (f := fun k => laws_eqIntS.l0 k l m ((i + 1 : Nat) : Int)) (fun k => ?_) ((laws_eqIntS_l0 l m hl hm d (i + 1) (by omega)).eq ?_)
      · simp only [laws_eqIntS.l0]
        rw [if_pos (by omega), if_pos (by omega), if_pos (by omega), if_pos e, w64 (x := (i : Int) + 1) (by omega) (by omega)]
        rfl
      · simp [e]
    · refine Ev.step (f := fun k => some false) (fun k => ?_) ((Ev.now _).eq ?_)
      · simp only [laws_eqIntS.l0]
        rw [if_pos (by omega), if_pos (by omega), if_pos (by omega), if_neg e]
      · simp [e]
theorem laws_eqIntS_ev (l m : List Int) (hl : l.length ≤ 35184372088832) : Ev (fun k => laws_eqIntS.f k l m) (decide (l = m)) := by
  unfold laws_eqIntS.f
  by_cases h : l.length = m.length
  · refine Ev.pos (by omega) ((laws_eqIntS_l0 l m hl h l.length 0 (by omega)).eq (by simp))
  · refine Ev.neg (by omega) ((Ev.now _).eq ?_)
    rw [eq_comm, decide_eq_false_iff_not]
    intro e; exact h (by rw [e])
theorem spec_l01In_is (a b c : Int) : spec_l01In.f a b c = some (inR a b c) := by
  unfold spec_l01In.f inR
  by_cases h : a ≥ b
  · rw [if_pos h]; congr 1; simp; omega
  · rw [if_neg h]; congr 1; simp; omega
theorem spec_l05Rise_l0 (l : List Int) (hl : l.length ≤ 35184372088832) : ∀ (d i : Nat) (p : Int), i + d = l.length → (i = 0 → p = 0) → (0 < i → p = rd l ((i - 1 : Nat) : Int)) →
    Ev (fun k => spec_l05Rise.l0 k l 1 4 (i : Int)) (riseF p (l.drop i))
  | 0, i, p, h, h0, h1 => by
    refine Ev.step (f := fun k => some true) (fun k => ?_) ((Ev.now _).eq ?_)
    · simp only [spec_l05Rise.l0]; rw [if_neg (by omega)]
    · rw [List.drop_of_length_le (by omega)]; rfl
  | d + 1, i, p, h, h0, h1 => by
    rw [rd_drop (l := l) (by omega)]
    have ih := spec_l05Rise_l0 l hl d (i + 1) (rd l (i : Int)) (by omega) (by omega) (fun _ => by simp)
    by_cases hin : 1 ≤ rd l (i : Int) ∧ rd l (i : Int) ≤ 4
    · by_cases hi : 0 < i
      · have hp := h1 hi
        have ei : wrap64 ((i : Int) - 1) = ((i - 1 : Nat) : Int) := by rw [w64 (by omega) (by omega)]; omega
        by_cases hlt : p < rd l (i : Int)
        · refine Ev.step (f := fun k => spec_l05Rise.l0 k l 1 4 ((i + 1 : Nat) : Int)) (fun k => ?_) (ih.eq ?_)
          · simp only [spec_l05Rise.l0]
            rw [if_pos (by omega), if_pos (by omega), spec_l01In_is, Option.bind_some, if_pos (inR_iff.2 hin), if_pos (by omega), ei, if_pos (by omega), if_pos (by omega), if_neg (by omega)]
            rw [w64 (x := (i : Int) + 1) (by omega) (by omega)]; rfl
          · simp only [riseF]; rw [decide_eq_true ⟨hin.1, hin.2, hlt⟩, Bool.true_and]
        · refine Ev.step (f := fun k => some false) (fun k => ?_) ((Ev.now _).eq ?_)
          · simp only [spec_l05Rise.l0]
            rw [if_pos (by omega), if_pos (by omega), spec_l01In_is, Option.bind_some, if_pos (inR_iff.2 hin), if_pos (by omega), ei, if_pos (by omega), if_pos (by omega), if_pos (by omega)]
          · simp only [riseF]; rw [decide_eq_false (fun e => hlt e.2.2), Bool.false_and]
      · have hp := h0 (by omega)
        refine Ev.step (f := fun k => spec_l05Rise.l0 k l 1 4 ((i + 1 : Nat) : Int)) (fun k => ?_) (ih.eq ?_)
        · simp only [spec_l05Rise.l0]
          rw [if_pos (by omega), if_pos (by omega), spec_l01In_is, Option.bind_some, if_pos (inR_iff.2 hin), if_neg (by omega)]
          rw [w64 (x := (i : Int) + 1) (by omega) (by omega)]; rfl
        · simp only [riseF]; rw [decide_eq_true ⟨hin.1, hin.2, by omega⟩, Bool.true_and]
    · refine Ev.step (f := fun k => some false) (fun k => ?_) ((Ev.now _).eq ?_)
      · simp only [spec_l05Rise.l0]
        rw [if_pos (by omega), if_pos (by omega), spec_l01In_is, Option.bind_some, if_neg (fun e => hin (inR_iff.1 e))]
      · simp only [riseF]; rw [decide_eq_false (fun e => hin ⟨e.1, e.2.1⟩), Bool.false_and]
theorem spec_l05Rise_ev (l : List Int) (hl : l.length ≤ 35184372088832) : Ev (fun k => spec_l05Rise.f k l 1 4) (riseF 0 l) := by
  have := spec_l05Rise_l0 l hl l.length 0 0 (by omega) (fun _ => rfl) (fun h => absurd h (by omega))
  exact this
theorem spec_ConfOk_ev (l : List Int) (hl : l.length ≤ 35184372088832) : Ev (fun k => spec_ConfOk.f k l) (confOk l) := by
  unfold spec_ConfOk.f confOk
  refine Ev.bind0 (spec_l01In_is _ _ _) ?_
  by_cases h : 1 ≤ l.length ∧ l.length ≤ 4
  · rw [decide_eq_true h, Bool.true_and]
    exact Ev.pos (inR_iff.2 (by omega)) (Ev.bind (spec_l05Rise_ev l hl) (Ev.now _))
  · rw [decide_eq_false h, Bool.false_and]
    exact Ev.neg (fun e => h (by have := inR_iff.1 e; omega)) (Ev.now _)
theorem spec_l05In_l0 (l : List Int) (hl : l.length ≤ 35184372088832) (x : Int) : ∀ (d i : Nat), i + d = l.length → Ev (fun k => spec_l05In.l0 k l x (i : Int)) (decide (x ∈ l.drop i))
  | 0, i, h => by
    refine Ev.step (f := fun k => some false) (fun k => ?_) ((Ev.now _).eq ?_)
    · simp only [spec_l05In.l0]; rw [if_neg (by omega)]
    · rw [List.drop_of_length_le (by omega)]; simp
  | d + 1, i, h => by
    rw [rd_drop (l := l) (by omega)]
    by_cases e : rd l (i : Int) = x
    · refine Ev.step (f := fun k => some true) (fun k => ?_) ((Ev.now _).eq ?_)
      · simp only [spec_l05In.l0]; rw [if_pos (by omega), if_pos (by omega), if_pos e]
      · rw [e]; simp
    · refine Ev.step (f := fun k => spec_l05In.l0 k l x ((i + 1 : Nat) : Int)) (fun k => ?_) ((spec_l05In_l0 l hl x d (i + 1) (by omega)).eq ?_)
      · simp only [spec_l05In.l0]
        rw [if_pos (by omega), if_pos (by omega), if_neg e, w64 (x := (i : Int) + 1) (by omega) (by omega)]; rfl
      · have e' : ¬ x = rd l (i : Int) := fun z => e z.symm
        simp [e']
theorem spec_l05In_ev (l : List Int) (hl : l.length ≤ 35184372088832) (x : Int) : Ev (fun k => spec_l05In.f k l x) (decide (x ∈ l)) := by
  have := spec_l05In_l0 l hl x l.length 0 (by omega)
  exact this
theorem spec_Most_l0 (l m : List Int) (hl : l.length ≤ 1048576) (hm : m.length ≤ 1048576) : ∀ (d i n : Nat), i + d = l.length → n ≤ i →
    Ev (fun k => spec_Most.l0 k l m (n : Int) (i : Int)) (confOk l && decide (2 * (n + inCount (l.drop i) m) > l.length))
  | 0, i, n, h, hn => by
    refine Ev.step (f := fun k => (spec_ConfOk.f k l).bind fun t => if t = true then some (decide (wrap64 (2 * (n : Int)) > (l.length : Int))) else some false) (fun k => ?_) (Ev.bind (spec_ConfOk_ev l (by omega)) (Ev.is ?_))
    · simp only [spec_Most.l0]; rw [if_neg (by omega)]
    · rw [List.drop_of_length_le (by omega), w64 (x := 2 * (n : Int)) (by omega) (by omega)]
      cases confOk l
      · rfl
      · simp [inCount]; omega
  | d + 1, i, n, h, hn => by
    rw [rd_drop (l := l) (by omega)]
    refine Ev.step (f := fun k => (spec_l05In.f k m (rd l i)).bind fun t => if t = true then spec_Most.l0 k l m ((n + 1 : Nat) : Int) ((i + 1 : Nat) : Int) else spec_Most.l0 k l m (n : Int) ((i + 1 : Nat) : Int)) (fun k => ?_) (Ev.bind (spec_l05In_ev m (by omega) _) ?_)
    · simp only [spec_Most.l0]
      rw [if_pos (by omega), if_pos (by omega), w64 (x := (i : Int) + 1) (by omega) (by omega), w64 (x := (n : Int) + 1) (by omega) (by omega)]; rfl
    · by_cases e : rd l (i : Int) ∈ m
      · refine Ev.pos (by simpa using e) ((spec_Most_l0 l m hl hm d (i + 1) (n + 1) (by omega) (by omega)).eq ?_)
        have : n + 1 + inCount (l.drop (i + 1)) m = n + inCount (rd l (i : Int) :: l.drop (i + 1)) m := by simp [inCount, List.countP_cons, e]; omega
        rw [this]
      · refine Ev.neg (by simpa using e) ((spec_Most_l0 l m hl hm d (i + 1) n (by omega) (by omega)).eq ?_)
        have : n + inCount (l.drop (i + 1)) m = n + inCount (rd l (i : Int) :: l.drop (i + 1)) m := by simp [inCount, List.countP_cons, e]
        rw [this]
theorem spec_Most_ev (l m : List Int) (hl : l.length ≤ 1048576) (hm : m.length ≤ 1048576) : Ev (fun k => spec_Most.f k l m) (most l m) := by
  refine (spec_Most_l0 l m hl hm l.length 0 0 (by omega) (by omega)).eq ?_
  unfold most; simp
theorem impl_within_is (a b c : Int) : impl_within.f a b c = some (inR a b c) := by
  unfold impl_within.f inR
  by_cases h : a ≥ b
  · rw [if_pos h]; congr 1; simp; omega
  · rw [if_neg h]; congr 1; simp; omega
theorem impl_ConfOk_l0 (l : List Int) (hl : l.length ≤ 35184372088832) : ∀ (d i : Nat) (p : Int), i + d = l.length → (i = 0 → p = 0) → (0 < i → p = rd l ((i - 1 : Nat) : Int)) →
    Ev (fun k => impl_ConfOk.l0 k l l (l.length : Int) (i : Int)) (decide (1 ≤ l.length ∧ l.length ≤ 4) && riseF p (l.drop i))
  | 0, i, p, h, h0, h1 => by
    refine Ev.step (f := fun k => some (decide (1 ≤ l.length ∧ l.length ≤ 4))) (fun k => ?_) ((Ev.now _).eq ?_)
    · simp only [impl_ConfOk.l0]; rw [if_neg (by omega), impl_within_is, Option.bind_some]
      congr 1
      unfold inR
      congr 1
      simp only [eq_iff_iff]
      omega
    · rw [List.drop_of_length_le (by omega)]; simp [riseF]
  | d + 1, i, p, h, h0, h1 => by
    rw [rd_drop (l := l) (by omega)]
    have ih := impl_ConfOk_l0 l hl d (i + 1) (rd l (i : Int)) (by omega) (by omega) (fun _ => by simp)
    by_cases hin : 1 ≤ rd l (i : Int) ∧ rd l (i : Int) ≤ 4
    · by_cases hi : 0 < i
      · have hp := h1 hi
        have ei : wrap64 ((i : Int) - 1) = ((i - 1 : Nat) : Int) := by rw [w64 (by omega) (by omega)]; omega
        by_cases hlt : p < rd l (i : Int)
        · refine Ev.step (f := fun k => impl_ConfOk.l0 k l l (l.length : Int) ((i + 1 : Nat) : Int)) (fun k => ?_) (ih.eq ?_)
          · simp only [impl_ConfOk.l0]
            rw [if_pos (by omega), if_pos (by omega), if_pos (by omega), impl_within_is, Option.bind_some, if_pos (inR_iff.2 hin), if_pos (by omega), ei, if_pos (by omega), if_pos (by omega), if_neg (by omega)]
            rw [w64 (x := (i : Int) + 1) (by omega) (by omega)]; rfl
          · simp only [riseF]; rw [decide_eq_true (p := _ ∧ _ ∧ _) ⟨hin.1, hin.2, hlt⟩, Bool.true_and]
        · refine Ev.step (f := fun k => some false) (fun k => ?_) ((Ev.now _).eq ?_)
          · simp only [impl_ConfOk.l0]
            rw [if_pos (by omega), if_pos (by omega), if_pos (by omega), impl_within_is, Option.bind_some, if_pos (inR_iff.2 hin), if_pos (by omega), ei, if_pos (by omega), if_pos (by omega), if_pos (by omega)]
          · simp only [riseF]; rw [decide_eq_false (p := _ ∧ _ ∧ _) (fun e => hlt e.2.2), Bool.false_and, Bool.and_false]
      · have hp := h0 (by omega)
        refine Ev.step (f := fun k => impl_ConfOk.l0 k l l (l.length : Int) ((i + 1 : Nat) : Int)) (fun k => ?_) (ih.eq ?_)
        · simp only [impl_ConfOk.l0]
          rw [if_pos (by omega), if_pos (by omega), if_pos (by omega), impl_within_is, Option.bind_some, if_pos (inR_iff.2 hin), if_neg (by omega)]
          rw [w64 (x := (i : Int) + 1) (by omega) (by omega)]; rfl
        · simp only [riseF]; rw [decide_eq_true (p := _ ∧ _ ∧ _) ⟨hin.1, hin.2, by omega⟩, Bool.true_and]
    · refine Ev.step (f := fun k => some false) (fun k => ?_) ((Ev.now _).eq ?_)
      · simp only [impl_ConfOk.l0]
        rw [if_pos (by omega), if_pos (by omega), if_pos (by omega), impl_within_is, Option.bind_some, if_neg (fun e => hin (inR_iff.1 e))]
      · simp only [riseF]; rw [decide_eq_false (p := _ ∧ _ ∧ _) (fun e => hin ⟨e.1, e.2.1⟩), Bool.false_and, Bool.and_false]
theorem impl_ConfOk_ev (l : List Int) (hl : l.length ≤ 35184372088832) : Ev (fun k => impl_ConfOk.f k l) (confOk l) := by
  have := impl_ConfOk_l0 l hl l.length 0 0 (by omega) (fun _ => rfl) (fun h => absurd h (by omega))
  exact this
theorem slices_Index_int_int_l0 (l : List Int) (hl : l.length ≤ 35184372088832) (x : Int) : ∀ (d i : Nat), i + d = l.length →
    ∃ r, Ev (fun k => slices_Index_int_int.l0 k l x (l.length : Int) (i : Int)) r ∧ decide (r ≥ 0) = decide (x ∈ l.drop i)
  | 0, i, h => by
    refine ⟨-1, Ev.step (f := fun k => some (-1)) (fun k => ?_) (Ev.now _), ?_⟩
    · simp only [slices_Index_int_int.l0]; rw [if_neg (by omega)]
    · rw [List.drop_of_length_le (by omega)]; simp
  | d + 1, i, h => by
    rw [rd_drop (l := l) (by omega)]
    by_cases e : x = rd l (i : Int)
    · refine ⟨i, Ev.step (f := fun k => some (i : Int)) (fun k => ?_) (Ev.now _), ?_⟩
      · simp only [slices_Index_int_int.l0]; rw [if_pos (by omega), if_pos (by omega), if_pos (by omega), if_pos e]
      · rw [← e]; simp
    · obtain ⟨r, hr, hd⟩ := slices_Index_int_int_l0 l hl x d (i + 1) (by omega)
      refine ⟨r, Ev.step (f := fun k => slices_Index_int_int.l0 k l x (l.length : Int) ((i + 1 : Nat) : Int)) (fun k => ?_) hr, ?_⟩
      · simp only [slices_Index_int_int.l0]
        rw [if_pos (by omega), if_pos (by omega), if_pos (by omega), if_neg e, w64 (x := (i : Int) + 1) (by omega) (by omega)]; rfl
      · rw [hd]; simp [e]
theorem slices_Contains_int_int_ev (l : List Int) (hl : l.length ≤ 35184372088832) (x : Int) : Ev (fun k => slices_Contains_int_int.f k l x) (decide (x ∈ l)) := by
  obtain ⟨r, hr, hd⟩ := slices_Index_int_int_l0 l hl x l.length 0 (by omega)
  unfold slices_Contains_int_int.f
  refine Ev.bind (a := r) hr (Ev.is ?_)
  rw [hd]; rfl
theorem impl_Most_l0 (l m : List Int) (hl : l.length ≤ 1048576) (hm : m.length ≤ 1048576) : ∀ (d i n : Nat), i + d = l.length → n ≤ i →
    Ev (fun k => impl_Most.l0 k l m (n : Int) l (l.length : Int) (i : Int)) (confOk l && decide (2 * (n + inCount (l.drop i) m) > l.length))
  | 0, i, n, h, hn => by
    refine Ev.step (f := fun k => (impl_ConfOk.f k l).bind fun t => if t = true then some (decide (wrap64 (2 * (n : Int)) > (l.length : Int))) else some false) (fun k => ?_) (Ev.bind (impl_ConfOk_ev l (by omega)) (Ev.is ?_))
    · simp only [impl_Most.l0]; rw [if_neg (by omega)]
    · rw [List.drop_of_length_le (by omega), w64 (x := 2 * (n : Int)) (by omega) (by omega)]
      cases confOk l
      · rfl
      · simp [inCount]; omega
  | d + 1, i, n, h, hn => by
    rw [rd_drop (l := l) (by omega)]
    refine Ev.step (f := fun k => (slices_Contains_int_int.f k m (rd l i)).bind fun t => if t = true then impl_Most.l0 k l m ((n + 1 : Nat) : Int) l (l.length : Int) ((i + 1 : Nat) : Int) else impl_Most.l0 k l m (n : Int) l (l.length : Int) ((i + 1 : Nat) : Int)) (fun k => ?_) (Ev.bind (slices_Contains_int_int_ev m (by omega) _) ?_)
    · simp only [impl_Most.l0]
      rw [if_pos (by omega), if_pos (by omega), if_pos (by omega), w64 (x := (i : Int) + 1) (by omega) (by omega), w64 (x := (n : Int) + 1) (by omega) (by omega)]; rfl
    · by_cases e : rd l (i : Int) ∈ m
      · refine Ev.pos (by simpa using e) ((impl_Most_l0 l m hl hm d (i + 1) (n + 1) (by omega) (by omega)).eq ?_)
        have : n + 1 + inCount (l.drop (i + 1)) m = n + inCount (rd l (i : Int) :: l.drop (i + 1)) m := by simp [inCount, List.countP_cons, e]; omega
        rw [this]
      · refine Ev.neg (by simpa using e) ((impl_Most_l0 l m hl hm d (i + 1) n (by omega) (by omega)).eq ?_)
        have : n + inCount (l.drop (i + 1)) m = n + inCount (rd l (i : Int) :: l.drop (i + 1)) m := by simp [inCount, List.countP_cons, e]
        rw [this]
theorem impl_Most_ev (l m : List Int) (hl : l.length ≤ 1048576) (hm : m.length ≤ 1048576) : Ev (fun k => impl_Most.f k l m) (most l m) := by
  refine (impl_Most_l0 l m hl hm l.length 0 0 (by omega) (by omega)).eq ?_
  unfold most; simp
theorem FnExactMost : laws_FnExactMost.Pure := by
  intro l m hl hb hw hl2 hb2 hw2
  apply Ev.rounds
  unfold laws_FnExactMost.f
  by_cases h : (l.length : Int) > 1048576
  · exact Ev.pos h (Ev.now _)
  · refine Ev.neg h ?_
    by_cases h2 : (m.length : Int) > 1048576
    · exact Ev.pos h2 (Ev.now _)
    · have hl' : l.length ≤ 35184372088832 := by omega
      have hm' : m.length ≤ 35184372088832 := by omega
      exact Ev.neg h2 (Ev.bind (laws_toIntS_ev l hl') (Ev.bind (laws_toIntS_ev m hm') (Ev.bind (spec_Most_ev l m (by omega) (by omega)) (Ev.bind (laws_toIntS_ev l hl') (Ev.bind (laws_toIntS_ev m hm') (Ev.bind (impl_Most_ev l m (by omega) (by omega)) (Ev.neg (by simp)
        (Ev.bind (laws_toIntS_ev l hl') (Ev.bind (laws_eqIntS_ev l l hl') (Ev.pos (by simp) (Ev.bind (laws_toIntS_ev m hm') (Ev.bind (laws_eqIntS_ev m m hm') (Ev.pos (by simp) (Ev.now _))))))))))))))

end Go.Proofs.Ytbdjdobockghhaa.Pure
