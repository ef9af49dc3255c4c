/- The law FnExactEntryOk answers true at every input; no condition. -/
import Derived.Test.YtbdjdobockghhaaPFnExactEntryOkx2
import Derived.Test.YtbdjdobockghhaaMath
namespace Go.Proofs.Ytbdjdobockghhaa.PFnExactEntryOk
open Go.RowKit
/-- What is left to be shown of the law: over numbers, texts and lists alone. -/
def laws_FnExactEntryOk.Pure : Prop := ∀ (a0_0 : Int) (a0_1 : Int) (a0_2 : ByteArray), ((Lit.int .i64 a0_0).wf = true ∧ (Lit.int .i64 a0_1).wf = true ∧ a0_2.size ≤ maxLen) → ∃ k, laws_FnExactEntryOk.f k a0_0 a0_1 a0_2 = some true
end Go.Proofs.Ytbdjdobockghhaa.PFnExactEntryOk
namespace Go.Proofs.Ytbdjdobockghhaa.Pure
open Go.RowKit Go.Proofs.Ytbdjdobockghhaa.PFnExactEntryOk Go.Proofs.YtbdjdobockghhaaW.PrintWords Go.Proofs.YtbdjdobockghhaaW.PrintLast Go.Proofs.YtbdjdobockghhaaW.PrintMore Go.Proofs.Ytbdjdobockghhaa.M
set_option linter.unusedVariables false
set_option linter.unusedSimpArgs false
set_option maxRecDepth 4000

theorem laws_szEntry_is (a b : Int) (c : ByteArray) (left : Int) (h0 : 0 ≤ left) (h1 : left ≤ 1048576) (hc : c.size ≤ maxLen) :
    ∃ r, laws_szEntry.f a b c left = some r ∧ (r < 0 ∨ 0 ≤ r ∧ r ≤ left ∧ (c.size : Int) ≤ left) := by
  unfold laws_szEntry.f
  simp only [maxLen] at hc
  rw [w64 (x := left - (c.size : Int)) (by omega) (by omega)]
  by_cases h : left - (c.size : Int) < 0
  · exact ⟨-1, by rw [if_pos h], .inl (by omega)⟩
  · exact ⟨_, by rw [if_neg h], .inr (by omega)⟩
theorem spec_l01In_is (a b c : Int) : spec_l01In.f a b c = some (inR a b c) := by
  unfold spec_l01In.f inR
  by_cases h : a ≥ b
  · rw [if_pos h]; congr 1; simp; omega
  · rw [if_neg h]; congr 1; simp; omega
theorem spec_l05Rise_l0 (l : List Int) (hl : l.length ≤ 35184372088832) : ∀ (d i : Nat) (p : Int), i + d = l.length → (i = 0 → p = 0) → (0 < i → p = rd l ((i - 1 : Nat) : Int)) →
    Ev (fun k => spec_l05Rise.l0 k l 1 4 (i : Int)) (riseF p (l.drop i))
  | 0, i, p, h, h0, h1 => by
    refine Ev.step (f := fun k => some true) (fun k => ?_) ((Ev.now _).eq ?_)
    · simp only [spec_l05Rise.l0]; rw [if_neg (by omega)]
    · rw [List.drop_of_length_le (by omega)]; rfl
  | d + 1, i, p, h, h0, h1 => by
    rw [rd_drop (l := l) (by omega)]
    have ih := spec_l05Rise_l0 l hl d (i + 1) (rd l (i : Int)) (by omega) (by omega) (fun _ => by simp)
    by_cases hin : 1 ≤ rd l (i : Int) ∧ rd l (i : Int) ≤ 4
    · by_cases hi : 0 < i
      · have hp := h1 hi
        have ei : wrap64 ((i : Int) - 1) = ((i - 1 : Nat) : Int) := by rw [w64 (by omega) (by omega)]; omega
        by_cases hlt : p < rd l (i : Int)
        · refine Ev.step (f := fun k => spec_l05Rise.l0 k l 1 4 ((i + 1 : Nat) : Int)) (fun k => ?_) (ih.eq ?_)
          · simp only [spec_l05Rise.l0]
            rw [if_pos (by omega), if_pos (by omega), spec_l01In_is, Option.bind_some, if_pos (inR_iff.2 hin), if_pos (by omega), ei, if_pos (by omega), if_pos (by omega), if_neg (by omega)]
            rw [w64 (x := (i : Int) + 1) (by omega) (by omega)]; rfl
          · simp only [riseF]; rw [decide_eq_true ⟨hin.1, hin.2, hlt⟩, Bool.true_and]
        · refine Ev.step (f := fun k => some false) (fun k => ?_) ((Ev.now _).eq ?_)
          · simp only [spec_l05Rise.l0]
            rw [if_pos (by omega), if_pos (by omega), spec_l01In_is, Option.bind_some, if_pos (inR_iff.2 hin), if_pos (by omega), ei, if_pos (by omega), if_pos (by omega), if_pos (by omega)]
          · simp only [riseF]; rw [decide_eq_false (fun e => hlt e.2.2), Bool.false_and]
      · have hp := h0 (by omega)
        refine Ev.step (f := fun k => spec_l05Rise.l0 k l 1 4 ((i + 1 : Nat) : Int)) (fun k => ?_) (ih.eq ?_)
        · simp only [spec_l05Rise.l0]
          rw [if_pos (by omega), if_pos (by omega), spec_l01In_is, Option.bind_some, if_pos (inR_iff.2 hin), if_neg (by omega)]
          rw [w64 (x := (i : Int) + 1) (by omega) (by omega)]; rfl
        · simp only [riseF]; rw [decide_eq_true ⟨hin.1, hin.2, by omega⟩, Bool.true_and]
    · refine Ev.step (f := fun k => some false) (fun k => ?_) ((Ev.now _).eq ?_)
      · simp only [spec_l05Rise.l0]
        rw [if_pos (by omega), if_pos (by omega), spec_l01In_is, Option.bind_some, if_neg (fun e => hin (inR_iff.1 e))]
      · simp only [riseF]; rw [decide_eq_false (fun e => hin ⟨e.1, e.2.1⟩), Bool.false_and]
theorem spec_l05Rise_ev (l : List Int) (hl : l.length ≤ 35184372088832) : Ev (fun k => spec_l05Rise.f k l 1 4) (riseF 0 l) := by
  have := spec_l05Rise_l0 l hl l.length 0 0 (by omega) (fun _ => rfl) (fun h => absurd h (by omega))
  exact this
theorem spec_ConfOk_ev (l : List Int) (hl : l.length ≤ 35184372088832) : Ev (fun k => spec_ConfOk.f k l) (confOk l) := by
  unfold spec_ConfOk.f confOk
  refine Ev.bind0 (spec_l01In_is _ _ _) ?_
  by_cases h : 1 ≤ l.length ∧ l.length ≤ 4
  · rw [decide_eq_true h, Bool.true_and]
    exact Ev.pos (inR_iff.2 (by omega)) (Ev.bind (spec_l05Rise_ev l hl) (Ev.now _))
  · rw [decide_eq_false h, Bool.false_and]
    exact Ev.neg (fun e => h (by have := inR_iff.1 e; omega)) (Ev.now _)
theorem spec_ReadConf_end (s : ByteArray) (acc : List Int) (n : Nat) (hn : n ≤ 5) (hs : s.size ≤ 140737488351232) (ha : acc = (bytesOf s).take n) (hx : n = s.size ∨ n = 5) :
    Ev (fun k => if (acc.length : Int) = (s.size : Int) then ((spec_ConfOk.f k acc).bind fun t => if t = true then some (acc, true) else some ([], false)) else some ([], false)) (readConf s) := by
  have hl : acc.length = min n s.size := by rw [ha, List.length_take, bytesOf_length]
  by_cases e : acc.length = s.size
  · have : acc = bytesOf s := by rw [ha]; exact List.take_of_length_le (by rw [bytesOf_length]; omega)
    subst this
    refine Ev.pos (by omega) (Ev.bind (spec_ConfOk_ev _ (by omega)) (Ev.is ?_))
    unfold readConf
    by_cases h : confOk (bytesOf s) = true
    · rw [if_pos h, if_pos h]
    · rw [if_neg h, if_neg h]
  · refine Ev.neg (by omega) (Ev.is ?_)
    unfold readConf
    rw [if_neg]
    intro h
    have := confOk_len h
    rw [bytesOf_length] at this
    omega
theorem spec_ReadConf_l0 (s : ByteArray) (hs : s.size ≤ 140737488351232) : ∀ (d i : Nat), i + d = 5 → i ≤ s.size →
    Ev (fun k => spec_ReadConf.l0 k s ((bytesOf s).take i) (i : Int)) (readConf s)
  | d, i, h, hi => by
    have hl : ((bytesOf s).take i).length = i := by rw [List.length_take, bytesOf_length]; omega
    by_cases hlt : i < s.size
    · cases d with
      | zero =>
        refine Ev.step (fun k => ?_) (spec_ReadConf_end s ((bytesOf s).take i) i (by omega) hs rfl (by omega))
        simp only [spec_ReadConf.l0]
        rw [if_pos (by omega), if_neg (by omega)]
      | succ d =>
        have hr := bt_range s (i : Int)
        refine Ev.step (f := fun k => spec_ReadConf.l0 k s ((bytesOf s).take (i + 1)) ((i + 1 : Nat) : Int)) (fun k => ?_) (spec_ReadConf_l0 s hs d (i + 1) (by omega) (by omega))
        simp only [spec_ReadConf.l0]
        rw [if_pos (by omega), if_pos (by omega), if_pos (by omega), if_pos (by omega), w64 (x := (i : Int) + 1) (by omega) (by omega), w64 (x := bt s i) (by omega) (by omega)]
        have e := Led.take_succ (s := s) (a := 0) (i := i) (by omega)
        rw [List.drop_zero, Nat.zero_add] at e
        rw [e]; rfl
    · refine Ev.step (fun k => ?_) (spec_ReadConf_end s ((bytesOf s).take i) i (by omega) hs rfl (by omega))
      simp only [spec_ReadConf.l0]
      rw [if_neg (by omega)]
theorem spec_ReadConf_ev (s : ByteArray) (hs : s.size ≤ 140737488351232) : Ev (fun k => spec_ReadConf.f k s) (readConf s) := by
  have := spec_ReadConf_l0 s hs 5 0 (by omega) (by omega)
  rw [List.take_zero] at this
  exact this
def entryOk (a b : Int) (c : ByteArray) : Bool :=
  decide (0 ≤ a ∧ a ≤ 100000) && (if b = 1 then (c.toList == ([] : List UInt8)) else if b = 2 then (readConf c).2 else if b = 3 then decide ((c.size : Int) ≤ 120) else false)
theorem spec_EntryOk_ev (a b : Int) (c : ByteArray) (hc : c.size ≤ 17592186044416) : Ev (fun k => spec_EntryOk.f k a b c) (entryOk a b c) := by
  unfold spec_EntryOk.f entryOk
  refine Ev.bind0 (spec_l01In_is _ _ _) ?_
  by_cases h : 0 ≤ a ∧ a ≤ 100000
  · refine Ev.pos (inR_iff.2 h) ?_
    rw [decide_eq_true h, Bool.true_and]
    by_cases h1 : b = 1
    · refine Ev.pos h1 (Ev.is ?_); rw [if_pos h1]
    · refine Ev.neg h1 ?_
      rw [if_neg h1]
      by_cases h2 : b = 2
      · refine Ev.pos h2 (Ev.bind (spec_ReadConf_ev c (by omega)) (Ev.is ?_)); rw [if_pos h2]
      · refine Ev.neg h2 ?_
        rw [if_neg h2]
        by_cases h3 : b = 3
        · refine Ev.pos h3 (Ev.is ?_); rw [if_pos h3]
        · refine Ev.neg h3 (Ev.is ?_); rw [if_neg h3]
  · refine Ev.neg (fun e => h (inR_iff.1 e)) (Ev.is ?_)
    rw [decide_eq_false h, Bool.false_and]
theorem laws_toEntry_is (a b : Int) (c : ByteArray) : laws_toEntry.f a b c = some (a, b, c) := rfl
theorem impl_within_is (a b c : Int) : impl_within.f a b c = some (inR a b c) := by
  unfold impl_within.f inR
  by_cases h : a ≥ b
  · rw [if_pos h]; congr 1; simp; omega
  · rw [if_neg h]; congr 1; simp; omega
theorem impl_ConfOk_l0 (l : List Int) (hl : l.length ≤ 35184372088832) : ∀ (d i : Nat) (p : Int), i + d = l.length → (i = 0 → p = 0) → (0 < i → p = rd l ((i - 1 : Nat) : Int)) →
    Ev (fun k => impl_ConfOk.l0 k l l (l.length : Int) (i : Int)) (decide (1 ≤ l.length ∧ l.length ≤ 4) && riseF p (l.drop i))
  | 0, i, p, h, h0, h1 => by
    refine Ev.step (f := fun k => some (decide (1 ≤ l.length ∧ l.length ≤ 4))) (fun k => ?_) ((Ev.now _).eq ?_)
    · simp only [impl_ConfOk.l0]; rw [if_neg (by omega), impl_within_is, Option.bind_some]
      congr 1
      unfold inR
      congr 1
      simp only [eq_iff_iff]
      omega
    · rw [List.drop_of_length_le (by omega)]; simp [riseF]
  | d + 1, i, p, h, h0, h1 => by
    rw [rd_drop (l := l) (by omega)]
    have ih := impl_ConfOk_l0 l hl d (i + 1) (rd l (i : Int)) (by omega) (by omega) (fun _ => by simp)
    by_cases hin : 1 ≤ rd l (i : Int) ∧ rd l (i : Int) ≤ 4
    · by_cases hi : 0 < i
      · have hp := h1 hi
        have ei : wrap64 ((i : Int) - 1) = ((i - 1 : Nat) : Int) := by rw [w64 (by omega) (by omega)]; omega
        by_cases hlt : p < rd l (i : Int)
        · refine Ev.step (f := fun k => impl_ConfOk.l0 k l l (l.length : Int) ((i + 1 : Nat) : Int)) (fun k => ?_) (ih.eq ?_)
          · simp only [impl_ConfOk.l0]
            rw [if_pos (by omega), if_pos (by omega), if_pos (by omega), impl_within_is, Option.bind_some, if_pos (inR_iff.2 hin), if_pos (by omega), ei, if_pos (by omega), if_pos (by omega), if_neg (by omega)]
            rw [w64 (x := (i : Int) + 1) (by omega) (by omega)]; rfl
          · simp only [riseF]; rw [decide_eq_true (p := _ ∧ _ ∧ _) ⟨hin.1, hin.2, hlt⟩, Bool.true_and]
        · refine Ev.step (f := fun k => some false) (fun k => ?_) ((Ev.now _).eq ?_)
          · simp only [impl_ConfOk.l0]
            rw [if_pos (by omega), if_pos (by omega), if_pos (by omega), impl_within_is, Option.bind_some, if_pos (inR_iff.2 hin), if_pos (by omega), ei, if_pos (by omega), if_pos (by omega), if_pos (by omega)]
          · simp only [riseF]; rw [decide_eq_false (p := _ ∧ _ ∧ _) (fun e => hlt e.2.2), Bool.false_and, Bool.and_false]
      · have hp := h0 (by omega)
        refine Ev.step (f := fun k => impl_ConfOk.l0 k l l (l.length : Int) ((i + 1 : Nat) : Int)) (fun k => ?_) (ih.eq ?_)
        · simp only [impl_ConfOk.l0]
          rw [if_pos (by omega), if_pos (by omega), if_pos (by omega), impl_within_is, Option.bind_some, if_pos (inR_iff.2 hin), if_neg (by omega)]
          rw [w64 (x := (i : Int) + 1) (by omega) (by omega)]; rfl
        · simp only [riseF]; rw [decide_eq_true (p := _ ∧ _ ∧ _) ⟨hin.1, hin.2, by omega⟩, Bool.true_and]
    · refine Ev.step (f := fun k => some false) (fun k => ?_) ((Ev.now _).eq ?_)
      · simp only [impl_ConfOk.l0]
        rw [if_pos (by omega), if_pos (by omega), if_pos (by omega), impl_within_is, Option.bind_some, if_neg (fun e => hin (inR_iff.1 e))]
      · simp only [riseF]; rw [decide_eq_false (p := _ ∧ _ ∧ _) (fun e => hin ⟨e.1, e.2.1⟩), Bool.false_and, Bool.and_false]
theorem impl_ConfOk_ev (l : List Int) (hl : l.length ≤ 35184372088832) : Ev (fun k => impl_ConfOk.f k l) (confOk l) := by
  have := impl_ConfOk_l0 l hl l.length 0 0 (by omega) (fun _ => rfl) (fun h => absurd h (by omega))
  exact this
theorem impl_ReadConf_l0 (s : ByteArray) (hs : s.size ≤ 17592186044416) : ∀ (d i : Nat), i + d = s.size →
    Ev (fun k => impl_ReadConf.l0 k s ((bytesOf s).take i) (i : Int)) (readConf s)
  | 0, i, h => by
    have e : (bytesOf s).take i = bytesOf s := List.take_of_length_le (by rw [bytesOf_length]; omega)
    rw [e]
    refine Ev.step (f := fun k => (impl_ConfOk.f k (bytesOf s)).bind fun t => if t = true then some (bytesOf s, true) else some ([], false)) (fun k => ?_) (Ev.bind (impl_ConfOk_ev _ (by rw [bytesOf_length]; omega)) (Ev.is ?_))
    · simp only [impl_ReadConf.l0]; rw [if_neg (by omega)]
    · unfold readConf
      by_cases h : confOk (bytesOf s) = true
      · rw [if_pos h, if_pos h]
      · rw [if_neg h, if_neg h]
  | d + 1, i, h => by
    have hr := bt_range s (i : Int)
    have hl : ((bytesOf s).take i).length = i := by rw [List.length_take, bytesOf_length]; omega
    refine Ev.step (f := fun k => impl_ReadConf.l0 k s ((bytesOf s).take (i + 1)) ((i + 1 : Nat) : Int)) (fun k => ?_) (impl_ReadConf_l0 s hs d (i + 1) (by omega))
    simp only [impl_ReadConf.l0]
    rw [if_pos (by omega), if_pos (by omega), if_pos (by omega), w64 (x := (i : Int) + 1) (by omega) (by omega), w64 (x := bt s i) (by omega) (by omega)]
    have e := Led.take_succ (s := s) (a := 0) (i := i) (by omega)
    rw [List.drop_zero, Nat.zero_add] at e
    rw [e]; rfl
theorem impl_ReadConf_ev (s : ByteArray) (hs : s.size ≤ 17592186044416) : Ev (fun k => impl_ReadConf.f k s) (readConf s) := by
  have := impl_ReadConf_l0 s hs s.size 0 (by omega)
  rw [List.take_zero] at this
  exact this
theorem impl_EntryOk_ev (a b : Int) (c : ByteArray) (hc : c.size ≤ 17592186044416) : Ev (fun k => impl_EntryOk.f k a b c) (entryOk a b c) := by
  unfold impl_EntryOk.f entryOk
  refine Ev.bind0 (impl_within_is _ _ _) ?_
  by_cases h : 0 ≤ a ∧ a ≤ 100000
  · refine Ev.pos (inR_iff.2 h) ?_
    rw [decide_eq_true h, Bool.true_and]
    by_cases h1 : b = 1
    · refine Ev.pos h1 (Ev.is ?_); rw [if_pos h1]
    · refine Ev.neg h1 ?_
      rw [if_neg h1]
      by_cases h2 : b = 2
      · refine Ev.pos h2 (Ev.bind (impl_ReadConf_ev c (by omega)) (Ev.is ?_)); rw [if_pos h2]
      · refine Ev.neg h2 ?_
        rw [if_neg h2]
        by_cases h3 : b = 3
        · refine Ev.pos h3 (Ev.is ?_); rw [if_pos h3]
        · refine Ev.neg h3 (Ev.is ?_); rw [if_neg h3]
  · refine Ev.neg (fun e => h (inR_iff.1 e)) (Ev.is ?_)
    rw [decide_eq_false h, Bool.false_and]
theorem FnExactEntryOk : laws_FnExactEntryOk.Pure := by
  intro a b c hg
  obtain ⟨ha, hb, hc⟩ := hg
  apply Ev.rounds
  unfold laws_FnExactEntryOk.f
  obtain ⟨r, hr, hx⟩ := laws_szEntry_is a b c 1048576 (by omega) (by omega) hc
  refine Ev.bind0 hr ?_
  rcases hx with hx | ⟨_, _, hx⟩
  · exact Ev.pos hx (Ev.now _)
  · exact Ev.neg (by omega) (Ev.bind0 (laws_toEntry_is _ _ _) (Ev.bind (spec_EntryOk_ev a b c (by omega)) (Ev.bind0 (laws_toEntry_is _ _ _) (Ev.bind (impl_EntryOk_ev a b c (by omega)) (Ev.neg (by simp) (Ev.now _))))))

end Go.Proofs.Ytbdjdobockghhaa.Pure
