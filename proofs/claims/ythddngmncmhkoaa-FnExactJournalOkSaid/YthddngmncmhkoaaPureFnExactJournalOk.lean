/- The law FnExactJournalOk answers true at every input; no condition. -/
import Derived.Test.YthddngmncmhkoaaPFnExactJournalOkx5
import Derived.Test.YthddngmncmhkoaaMath
namespace Go.Proofs.Ythddngmncmhkoaa.PFnExactJournalOk
open Go.RowKit
/-- What is left to be shown of the law: over numbers, texts and lists alone. -/
def laws_FnExactJournalOk.Pure : Prop := ∀ (a0_0 : Int) (a0_1 : Int) (a0_2 : Int) (a0_3 : Int) (a0_4 : Int) (l0_5 : List (S43)), ((Lit.int .i64 a0_0).wf = true ∧ (Lit.int .i64 a0_1).wf = true ∧ (Lit.int .i64 a0_2).wf = true ∧ ((Lit.int .i64 a0_3).wf = true ∧ (Lit.int .i64 a0_4).wf = true ∧ (l0_5.length ≤ maxLen ∧ ∀ x ∈ l0_5, ((Lit.int .i64 x.f0).wf = true ∧ (Lit.int .i64 x.f1).wf = true ∧ x.f2.size ≤ maxLen)))) → ∃ k, laws_FnExactJournalOk.f k a0_0 a0_1 a0_2 a0_3 a0_4 l0_5 = some true
end Go.Proofs.Ythddngmncmhkoaa.PFnExactJournalOk
namespace Go.Proofs.Ythddngmncmhkoaa.Pure
open Go.RowKit Go.Proofs.Ythddngmncmhkoaa.PFnExactJournalOk Go.Proofs.YthddngmncmhkoaaW.PrintWords Go.Proofs.YthddngmncmhkoaaW.PrintLast Go.Proofs.YthddngmncmhkoaaW.PrintMore Go.Proofs.Ythddngmncmhkoaa.M
set_option linter.unusedVariables false
set_option linter.unusedSimpArgs false
set_option maxRecDepth 4000

theorem laws_szEntry_is (a b : Int) (c : ByteArray) (left : Int) (h0 : 0 ≤ left) (h1 : left ≤ 1048576) (hc : c.size ≤ maxLen) :
    ∃ r, laws_szEntry.f a b c left = some r ∧ (r < 0 ∨ 0 ≤ r ∧ r ≤ left ∧ (c.size : Int) ≤ left) := by
  unfold laws_szEntry.f
  simp only [maxLen] at hc
  rw [w64 (x := left - (c.size : Int)) (by omega) (by omega)]
  by_cases h : left - (c.size : Int) < 0
  · exact ⟨-1, by rw [if_pos h], .inl (by omega)⟩
  · exact ⟨_, by rw [if_neg h], .inr (by omega)⟩
abbrev LEn := S43
abbrev IEn := S47
def toEn (x : LEn) : IEn := ⟨x.f0, x.f1, x.f2⟩
theorem rd_LEn {l : List LEn} {i : Nat} (h : i < l.length) : rd_T43 l (i : Int) = l[i] := by
  simp [rd_T43, List.getD_eq_getElem?_getD, List.getElem?_eq_getElem h]
theorem rd_IEn {l : List IEn} {i : Nat} (h : i < l.length) : rd_T47 l (i : Int) = l[i] := by
  simp [rd_T47, List.getD_eq_getElem?_getD, List.getElem?_eq_getElem h]
theorem laws_szEntryS_l0 (l : List LEn) (hl : l.length ≤ 1048576) (hg : ∀ x ∈ l, x.f2.size ≤ maxLen) : ∀ (d i : Nat) (left : Int), i + d = l.length → 0 ≤ left → left ≤ 1048576 →
    ∃ r, Ev (fun k => laws_szEntryS.l0 k l left (i : Int)) r ∧ (r < 0 ∨ 0 ≤ r ∧ r ≤ left ∧ ∀ x ∈ l.drop i, (x.f2.size : Int) ≤ left)
  | 0, i, left, h, h0, h1 => by
    refine ⟨left, Ev.step (f := fun k => some left) (fun k => ?_) (Ev.now _), .inr ⟨h0, by omega, ?_⟩⟩
    · simp only [laws_szEntryS.l0]; rw [if_neg (by omega)]
    · rw [List.drop_of_length_le (by omega)]; simp
  | d + 1, i, left, h, h0, h1 => by
    have hi : i < l.length := by omega
    obtain ⟨r, hr, hx⟩ := laws_szEntry_is l[i].f0 l[i].f1 l[i].f2 left h0 h1 (hg _ (List.getElem_mem hi))
    rcases hx with hx | ⟨hx0, hx1, hx2⟩
    · refine ⟨-1, Ev.step (f := fun k => some (-1)) (fun k => ?_) (Ev.now _), .inl (by omega)⟩
      simp only [laws_szEntryS.l0]
      rw [if_pos (by omega), if_pos (by omega), rd_LEn hi, hr, Option.bind_some, if_pos hx]
    · obtain ⟨r', hr', hy⟩ := laws_szEntryS_l0 l hl hg d (i + 1) r (by omega) (by omega) (by omega)
      refine ⟨r', Ev.step (f := fun k => laws_szEntryS.l0 k l r ((i + 1 : Nat) : Int)) (fun k => ?_) hr', ?_⟩
      · simp only [laws_szEntryS.l0]
        rw [if_pos (by omega), if_pos (by omega), rd_LEn hi, hr, Option.bind_some, if_neg (by omega), w64 (x := (i : Int) + 1) (by omega) (by omega)]; rfl
      · rcases hy with hy | ⟨hy0, hy1, hy2⟩
        · exact .inl hy
        · refine .inr ⟨hy0, by omega, ?_⟩
          rw [List.drop_eq_getElem_cons hi]
          intro x hx
          rcases List.mem_cons.1 hx with rfl | hx
          · exact hx2
          · have := hy2 x hx; omega
theorem laws_szEntryS_ev (l : List LEn) (left : Int) (hl : l.length ≤ maxLen) (hg : ∀ x ∈ l, x.f2.size ≤ maxLen) (h0 : 0 ≤ left) (h1 : left ≤ 1048576) :
    ∃ r, Ev (fun k => laws_szEntryS.f k l left) r ∧ (r < 0 ∨ 0 ≤ r ∧ r ≤ left ∧ l.length ≤ 1048576 ∧ ∀ x ∈ l, (x.f2.size : Int) ≤ left) := by
  simp only [maxLen] at hl
  have e : wrap64 (left - (l.length : Int)) = left - l.length := w64 (by omega) (by omega)
  by_cases h : left - (l.length : Int) < 0
  · exact ⟨-1, by unfold laws_szEntryS.f; rw [e]; exact Ev.pos h (Ev.now _), .inl (by omega)⟩
  · obtain ⟨r, hr, hx⟩ := laws_szEntryS_l0 l (by omega) hg l.length 0 (left - l.length) (by omega) (by omega) (by omega)
    refine ⟨r, by unfold laws_szEntryS.f; rw [e]; exact Ev.neg h hr, ?_⟩
    rcases hx with hx | ⟨hx0, hx1, hx2⟩
    · exact .inl hx
    · exact .inr ⟨hx0, by omega, by omega, fun x hx => by have := hx2 x (by simpa using hx); omega⟩
theorem laws_szLog_ev (a b : Int) (l : List LEn) (left : Int) (hl : l.length ≤ maxLen) (hg : ∀ x ∈ l, x.f2.size ≤ maxLen) (h0 : 0 ≤ left) (h1 : left ≤ 1048576) :
    ∃ r, Ev (fun k => laws_szLog.f k a b l left) r ∧ (r < 0 ∨ 0 ≤ r ∧ r ≤ left ∧ l.length ≤ 1048576 ∧ ∀ x ∈ l, (x.f2.size : Int) ≤ left) := by
  obtain ⟨r, hr, hx⟩ := laws_szEntryS_ev l left hl hg h0 h1
  by_cases h : r < 0
  · exact ⟨-1, by unfold laws_szLog.f; exact Ev.bind hr (Ev.pos h (Ev.now _)), .inl (by omega)⟩
  · refine ⟨r, by unfold laws_szLog.f; exact Ev.bind hr (Ev.neg h (Ev.now _)), ?_⟩
    rcases hx with hx | hx
    · exact absurd hx h
    · exact .inr hx
theorem laws_szJournal_ev (p q s a b : Int) (l : List LEn) (left : Int) (hl : l.length ≤ maxLen) (hg : ∀ x ∈ l, x.f2.size ≤ maxLen) (h0 : 0 ≤ left) (h1 : left ≤ 1048576) :
    ∃ r, Ev (fun k => laws_szJournal.f k p q s a b l left) r ∧ (r < 0 ∨ 0 ≤ r ∧ r ≤ left ∧ l.length ≤ 1048576 ∧ ∀ x ∈ l, (x.f2.size : Int) ≤ left) := by
  obtain ⟨r, hr, hx⟩ := laws_szLog_ev a b l left hl hg h0 h1
  by_cases h : r < 0
  · exact ⟨-1, by unfold laws_szJournal.f; exact Ev.bind hr (Ev.pos h (Ev.now _)), .inl (by omega)⟩
  · refine ⟨r, by unfold laws_szJournal.f; exact Ev.bind hr (Ev.neg h (Ev.now _)), ?_⟩
    rcases hx with hx | hx
    · exact absurd hx h
    · exact .inr hx
theorem spec_l01In_is (a b c : Int) : spec_l01In.f a b c = some (inR a b c) := by
  unfold spec_l01In.f inR
  by_cases h : a ≥ b
  · rw [if_pos h]; congr 1; simp; omega
  · rw [if_neg h]; congr 1; simp; omega
theorem spec_l05Rise_l0 (l : List Int) (hl : l.length ≤ 35184372088832) : ∀ (d i : Nat) (p : Int), i + d = l.length → (i = 0 → p = 0) → (0 < i → p = rd l ((i - 1 : Nat) : Int)) →
    Ev (fun k => spec_l05Rise.l0 k l 1 4 (i : Int)) (riseF p (l.drop i))
  | 0, i, p, h, h0, h1 => by
    refine Ev.step (f := fun k => some true) (fun k => ?_) ((Ev.now _).eq ?_)
    · simp only [spec_l05Rise.l0]; rw [if_neg (by omega)]
    · rw [List.drop_of_length_le (by omega)]; rfl
  | d + 1, i, p, h, h0, h1 => by
    rw [rd_drop (l := l) (by omega)]
    have ih := spec_l05Rise_l0 l hl d (i + 1) (rd l (i : Int)) (by omega) (by omega) (fun _ => by simp)
    by_cases hin : 1 ≤ rd l (i : Int) ∧ rd l (i : Int) ≤ 4
    · by_cases hi : 0 < i
      · have hp := h1 hi
        have ei : wrap64 ((i : Int) - 1) = ((i - 1 : Nat) : Int) := by rw [w64 (by omega) (by omega)]; omega
        by_cases hlt : p < rd l (i : Int)
        · refine Ev.step (f := fun k => spec_l05Rise.l0 k l 1 4 ((i + 1 : Nat) : Int)) (fun k => ?_) (ih.eq ?_)
          · simp only [spec_l05Rise.l0]
            rw [if_pos (by omega), if_pos (by omega), spec_l01In_is, Option.bind_some, if_pos (inR_iff.2 hin), if_pos (by omega), ei, if_pos (by omega), if_pos (by omega), if_neg (by omega)]
            rw [w64 (x := (i : Int) + 1) (by omega) (by omega)]; rfl
          · simp only [riseF]; rw [decide_eq_true ⟨hin.1, hin.2, hlt⟩, Bool.true_and]
        · refine Ev.step (f := fun k => some false) (fun k => ?_) ((Ev.now _).eq ?_)
          · simp only [spec_l05Rise.l0]
            rw [if_pos (by omega), if_pos (by omega), spec_l01In_is, Option.bind_some, if_pos (inR_iff.2 hin), if_pos (by omega), ei, if_pos (by omega), if_pos (by omega), if_pos (by omega)]
          · simp only [riseF]; rw [decide_eq_false (fun e => hlt e.2.2), Bool.false_and]
      · have hp := h0 (by omega)
        refine Ev.step (f := fun k => spec_l05Rise.l0 k l 1 4 ((i + 1 : Nat) : Int)) (fun k => ?_) (ih.eq ?_)
        · simp only [spec_l05Rise.l0]
          rw [if_pos (by omega), if_pos (by omega), spec_l01In_is, Option.bind_some, if_pos (inR_iff.2 hin), if_neg (by omega)]
          rw [w64 (x := (i : Int) + 1) (by omega) (by omega)]; rfl
        · simp only [riseF]; rw [decide_eq_true ⟨hin.1, hin.2, by omega⟩, Bool.true_and]
    · refine Ev.step (f := fun k => some false) (fun k => ?_) ((Ev.now _).eq ?_)
      · simp only [spec_l05Rise.l0]
        rw [if_pos (by omega), if_pos (by omega), spec_l01In_is, Option.bind_some, if_neg (fun e => hin (inR_iff.1 e))]
      · simp only [riseF]; rw [decide_eq_false (fun e => hin ⟨e.1, e.2.1⟩), Bool.false_and]
theorem spec_l05Rise_ev (l : List Int) (hl : l.length ≤ 35184372088832) : Ev (fun k => spec_l05Rise.f k l 1 4) (riseF 0 l) := by
  have := spec_l05Rise_l0 l hl l.length 0 0 (by omega) (fun _ => rfl) (fun h => absurd h (by omega))
  exact this
theorem spec_ConfOk_ev (l : List Int) (hl : l.length ≤ 35184372088832) : Ev (fun k => spec_ConfOk.f k l) (confOk l) := by
  unfold spec_ConfOk.f confOk
  refine Ev.bind0 (spec_l01In_is _ _ _) ?_
  by_cases h : 1 ≤ l.length ∧ l.length ≤ 4
  · rw [decide_eq_true h, Bool.true_and]
    exact Ev.pos (inR_iff.2 (by omega)) (Ev.bind (spec_l05Rise_ev l hl) (Ev.now _))
  · rw [decide_eq_false h, Bool.false_and]
    exact Ev.neg (fun e => h (by have := inR_iff.1 e; omega)) (Ev.now _)
theorem spec_ReadConf_end (s : ByteArray) (acc : List Int) (n : Nat) (hn : n ≤ 5) (hs : s.size ≤ 140737488351232) (ha : acc = (bytesOf s).take n) (hx : n = s.size ∨ n = 5) :
    Ev (fun k => if (acc.length : Int) = (s.size : Int) then ((spec_ConfOk.f k acc).bind fun t => if t = true then some (acc, true) else some ([], false)) else some ([], false)) (readConf s) := by
  have hl : acc.length = min n s.size := by rw [ha, List.length_take, bytesOf_length]
  by_cases e : acc.length = s.size
  · have : acc = bytesOf s := by rw [ha]; exact List.take_of_length_le (by rw [bytesOf_length]; omega)
    subst this
    refine Ev.pos (by omega) (Ev.bind (spec_ConfOk_ev _ (by omega)) (Ev.is ?_))
    unfold readConf
    by_cases h : confOk (bytesOf s) = true
    · rw [if_pos h, if_pos h]
    · rw [if_neg h, if_neg h]
  · refine Ev.neg (by omega) (Ev.is ?_)
    unfold readConf
    rw [if_neg]
    intro h
    have := confOk_len h
    rw [bytesOf_length] at this
    omega
theorem spec_ReadConf_l0 (s : ByteArray) (hs : s.size ≤ 140737488351232) : ∀ (d i : Nat), i + d = 5 → i ≤ s.size →
    Ev (fun k => spec_ReadConf.l0 k s ((bytesOf s).take i) (i : Int)) (readConf s)
  | d, i, h, hi => by
    have hl : ((bytesOf s).take i).length = i := by rw [List.length_take, bytesOf_length]; omega
    by_cases hlt : i < s.size
    · cases d with
      | zero =>
        refine Ev.step (fun k => ?_) (spec_ReadConf_end s ((bytesOf s).take i) i (by omega) hs rfl (by omega))
        simp only [spec_ReadConf.l0]
        rw [if_pos (by omega), if_neg (by omega)]
      | succ d =>
        have hr := bt_range s (i : Int)
        refine Ev.step (f := fun k => spec_ReadConf.l0 k s ((bytesOf s).take (i + 1)) ((i + 1 : Nat) : Int)) (fun k => ?_) (spec_ReadConf_l0 s hs d (i + 1) (by omega) (by omega))
        simp only [spec_ReadConf.l0]
        rw [if_pos (by omega), if_pos (by omega), if_pos (by omega), if_pos (by omega), w64 (x := (i : Int) + 1) (by omega) (by omega), w64 (x := bt s i) (by omega) (by omega)]
        have e := Led.take_succ (s := s) (a := 0) (i := i) (by omega)
        rw [List.drop_zero, Nat.zero_add] at e
        rw [e]; rfl
    · refine Ev.step (fun k => ?_) (spec_ReadConf_end s ((bytesOf s).take i) i (by omega) hs rfl (by omega))
      simp only [spec_ReadConf.l0]
      rw [if_neg (by omega)]
theorem spec_ReadConf_ev (s : ByteArray) (hs : s.size ≤ 140737488351232) : Ev (fun k => spec_ReadConf.f k s) (readConf s) := by
  have := spec_ReadConf_l0 s hs 5 0 (by omega) (by omega)
  rw [List.take_zero] at this
  exact this
def entryOk (a b : Int) (c : ByteArray) : Bool :=
  decide (0 ≤ a ∧ a ≤ 100000) && (if b = 1 then (c.toList == ([] : List UInt8)) else if b = 2 then (readConf c).2 else if b = 3 then decide ((c.size : Int) ≤ 120) else false)
theorem spec_EntryOk_ev (a b : Int) (c : ByteArray) (hc : c.size ≤ 17592186044416) : Ev (fun k => spec_EntryOk.f k a b c) (entryOk a b c) := by
  unfold spec_EntryOk.f entryOk
  refine Ev.bind0 (spec_l01In_is _ _ _) ?_
  by_cases h : 0 ≤ a ∧ a ≤ 100000
  · refine Ev.pos (inR_iff.2 h) ?_
    rw [decide_eq_true h, Bool.true_and]
    by_cases h1 : b = 1
    · refine Ev.pos h1 (Ev.is ?_); rw [if_pos h1]
    · refine Ev.neg h1 ?_
      rw [if_neg h1]
      by_cases h2 : b = 2
      · refine Ev.pos h2 (Ev.bind (spec_ReadConf_ev c (by omega)) (Ev.is ?_)); rw [if_pos h2]
      · refine Ev.neg h2 ?_
        rw [if_neg h2]
        by_cases h3 : b = 3
        · refine Ev.pos h3 (Ev.is ?_); rw [if_pos h3]
        · refine Ev.neg h3 (Ev.is ?_); rw [if_neg h3]
  · refine Ev.neg (fun e => h (inR_iff.1 e)) (Ev.is ?_)
    rw [decide_eq_false h, Bool.false_and]
def entriesOk : Int → List IEn → Bool
  | _, [] => true
  | t, x :: l => entryOk x.f0 x.f1 x.f2 && decide (t ≤ x.f0) && entriesOk x.f0 l
def logOk (a b : Int) (l : List IEn) : Bool :=
  decide (0 ≤ a ∧ a ≤ 1000000) && (decide (0 ≤ b ∧ b ≤ 100000) && (decide (l.length ≤ 60 ∧ a + l.length ≤ 1000000) && entriesOk b l))
theorem rd_IEn_drop {l : List IEn} {i : Nat} (h : i < l.length) : l.drop i = rd_T47 l (i : Int) :: l.drop (i + 1) := by
  rw [List.drop_eq_getElem_cons h, rd_IEn h]
theorem logOk_iff {a b : Int} {l : List IEn} : logOk a b l = true ↔ (0 ≤ a ∧ a ≤ 1000000) ∧ (0 ≤ b ∧ b ≤ 100000) ∧ (l.length ≤ 60 ∧ a + l.length ≤ 1000000) ∧ entriesOk b l = true := by
  simp [logOk]
theorem spec_LogOk_l0 (a b : Int) (l : List IEn) (hl : l.length ≤ 1048577) (hs : ∀ x ∈ l, x.f2.size ≤ 17592186044416) : ∀ (d i : Nat) (t : Int), i + d = l.length →
    Ev (fun k => spec_LogOk.l0 k t (i : Int) a b l) (entriesOk t (l.drop i))
  | 0, i, t, h => by
    refine Ev.step (f := fun k => some true) (fun k => ?_) ((Ev.now _).eq ?_)
    · simp only [spec_LogOk.l0]; rw [if_neg (by omega)]
    · rw [List.drop_of_length_le (by omega)]; rfl
  | d + 1, i, t, h => by
    have hx := hs (rd_T47 l (i : Int)) (by rw [rd_IEn (by omega)]; exact List.getElem_mem _)
    rw [rd_IEn_drop (l := l) (i := i) (by omega)]
    have ih := spec_LogOk_l0 a b l hl hs d (i + 1) (rd_T47 l (i : Int)).f0 (by omega)
    refine Ev.step (f := fun k => (spec_EntryOk.f k (rd_T47 l (i : Int)).f0 (rd_T47 l (i : Int)).f1 (rd_T47 l (i : Int)).f2).bind fun t142 => (if t142 = true then (if (rd_T47 l (i : Int)).f0 < t then some false else spec_LogOk.l0 k (rd_T47 l (i : Int)).f0 ((i + 1 : Nat) : Int) a b l) else some false)) (fun k => ?_) (Ev.bind (spec_EntryOk_ev _ _ _ hx) ?_)
    · simp only [spec_LogOk.l0]
      rw [if_pos (by omega), if_pos (by omega), w64 (x := (i : Int) + 1) (by omega) (by omega)]; rfl
    · generalize rd_T47 l (i : Int) = x at *
      simp only [entriesOk]
      by_cases h1 : entryOk x.f0 x.f1 x.f2 = true
      · refine Ev.pos h1 ?_
        by_cases h2 : x.f0 < t
        · refine Ev.pos h2 ((Ev.now _).eq ?_)
          rw [decide_eq_false (p := t ≤ x.f0) (by omega)]; simp
        · refine Ev.neg h2 (ih.eq ?_)
          rw [h1, decide_eq_true (p := t ≤ x.f0) (by omega)]; simp
      · refine Ev.neg h1 ((Ev.now _).eq ?_)
        rw [Bool.not_eq_true _ |>.mp h1]; simp
theorem spec_LogOk_ev (a b : Int) (l : List IEn) (hl : l.length ≤ 1048577) (hs : ∀ x ∈ l, x.f2.size ≤ 17592186044416) : Ev (fun k => spec_LogOk.f k a b l) (logOk a b l) := by
  have no : ∀ x, logOk a b l = false → x = true → Ev (fun k => spec_LogOk.j0 k x a b l) (logOk a b l) := by
    intro x h hx
    rw [h, hx]
    exact Ev.step (fun k => rfl) (Ev.now _)
  have nf : ¬ logOk a b l = true → logOk a b l = false := fun h => Bool.not_eq_true _ |>.mp h
  unfold spec_LogOk.f
  refine Ev.bind0 (spec_l01In_is _ _ _) ?_
  by_cases h1 : 0 ≤ a ∧ a ≤ 1000000
  · refine Ev.pos (inR_iff.2 h1) (Ev.bind0 (spec_l01In_is _ _ _) ?_)
    by_cases h2 : 0 ≤ b ∧ b ≤ 100000
    · refine Ev.pos (inR_iff.2 h2) ?_
      by_cases h3 : l.length ≤ 60
      · refine Ev.neg (by omega) ?_
        rw [w64 (x := a + (l.length : Int)) (by omega) (by omega)]
        by_cases h4 : a + (l.length : Int) ≤ 1000000
        · rw [decide_eq_false (p := a + (l.length : Int) > 1000000) (by omega)]
          refine Ev.step (fun k => rfl) ?_
          refine (spec_LogOk_l0 a b l hl hs l.length 0 b (by omega)).eq ?_
          unfold logOk
          rw [decide_eq_true h1, decide_eq_true h2, decide_eq_true (p := l.length ≤ 60 ∧ a + (l.length : Int) ≤ 1000000) ⟨h3, h4⟩]; simp
        · exact no _ (nf fun e => h4 (logOk_iff.1 e).2.2.1.2) (decide_eq_true (by omega))
      · exact Ev.pos (by omega) (no _ (nf fun e => h3 (logOk_iff.1 e).2.2.1.1) rfl)
    · exact Ev.neg (fun e => h2 (inR_iff.1 e)) (no _ (nf fun e => h2 (logOk_iff.1 e).2.1) rfl)
  · exact Ev.neg (fun e => h1 (inR_iff.1 e)) (no _ (nf fun e => h1 (logOk_iff.1 e).1) rfl)
def journalOk (p q s a b : Int) (l : List IEn) : Bool := decide (0 ≤ p ∧ p ≤ 999) && (decide (0 ≤ q ∧ q ≤ 100000) && (decide (0 ≤ s ∧ s ≤ 4) && logOk a b l))
theorem spec_JournalOk_ev (p q s a b : Int) (l : List IEn) (hl : l.length ≤ 1048577) (hs : ∀ x ∈ l, x.f2.size ≤ 17592186044416) : Ev (fun k => spec_JournalOk.f k p q s a b l) (journalOk p q s a b l) := by
  unfold spec_JournalOk.f journalOk
  refine Ev.bind0 (spec_l01In_is _ _ _) ?_
  by_cases h1 : 0 ≤ p ∧ p ≤ 999
  · rw [decide_eq_true h1, Bool.true_and]
    refine Ev.pos (inR_iff.2 h1) (Ev.bind0 (spec_l01In_is _ _ _) ?_)
    by_cases h2 : 0 ≤ q ∧ q ≤ 100000
    · rw [decide_eq_true h2, Bool.true_and]
      refine Ev.pos (inR_iff.2 h2) (Ev.bind0 (spec_l01In_is _ _ _) ?_)
      by_cases h3 : 0 ≤ s ∧ s ≤ 4
      · rw [decide_eq_true h3, Bool.true_and]
        exact Ev.pos (inR_iff.2 h3) (Ev.bind (spec_LogOk_ev a b l hl hs) (Ev.now _))
      · rw [decide_eq_false h3, Bool.false_and]; exact Ev.neg (fun e => h3 (inR_iff.1 e)) (Ev.now _)
    · rw [decide_eq_false h2, Bool.false_and]; exact Ev.neg (fun e => h2 (inR_iff.1 e)) (Ev.now _)
  · rw [decide_eq_false h1, Bool.false_and]; exact Ev.neg (fun e => h1 (inR_iff.1 e)) (Ev.now _)
theorem laws_toEntry_is (a b : Int) (c : ByteArray) : laws_toEntry.f a b c = some (a, b, c) := rfl
theorem laws_toEntryS_l0 (l : List LEn) (hl : l.length ≤ 1048576) : ∀ (d i : Nat), i + d = l.length →
    Ev (fun k => laws_toEntryS.l0 k l ((l.map toEn).take i ++ List.replicate (l.length - i) z47) (i : Int)) (l.map toEn)
  | 0, i, h => by
    refine Ev.step (f := fun k => some ((l.map toEn).take i ++ List.replicate (l.length - i) z47)) (fun k => ?_) ((Ev.now _).eq ?_)
    · simp only [laws_toEntryS.l0]; rw [if_neg (by omega)]
    · obtain rfl : i = l.length := by omega
      rw [List.take_of_length_le (by simp)]; simp
  | d + 1, i, h => by
    have hi : i < l.length := by omega
    refine Ev.step (f := fun k => laws_toEntryS.l0 k l ((l.map toEn).take (i + 1) ++ List.replicate (l.length - (i + 1)) z47) ((i + 1 : Nat) : Int)) (fun k => ?_) (laws_toEntryS_l0 l hl d (i + 1) (by omega))
    simp only [laws_toEntryS.l0]
    rw [if_pos (by omega), if_pos (by omega), rd_LEn hi, laws_toEntry_is, Option.bind_some, if_pos (by simp [List.length_take]; omega), w64 (x := (i : Int) + 1) (by omega) (by omega)]
    rw [Int.toNat_natCast]
    have e := fill_step (l.map toEn) z47 i l.length (by simpa using hi) (by simp)
    rw [← e, List.getElem_map]; rfl
theorem laws_toEntryS_ev (l : List LEn) (hl : l.length ≤ 1048576) : Ev (fun k => laws_toEntryS.f k l) (l.map toEn) := by
  unfold laws_toEntryS.f
  refine Ev.pos (by omega) (Ev.pos (by omega) ?_)
  have := laws_toEntryS_l0 l hl l.length 0 (by omega)
  simpa using this
theorem laws_toLog_ev (a b : Int) (l : List LEn) (hl : l.length ≤ 1048576) : Ev (fun k => laws_toLog.f k a b l) (a, b, l.map toEn) := by
  unfold laws_toLog.f
  exact Ev.bind (laws_toEntryS_ev l hl) (Ev.now _)
theorem laws_toJournal_ev (p q s a b : Int) (l : List LEn) (hl : l.length ≤ 1048576) : Ev (fun k => laws_toJournal.f k p q s a b l) (p, q, s, a, b, l.map toEn) := by
  unfold laws_toJournal.f
  exact Ev.bind (laws_toLog_ev a b l hl) (Ev.now _)
theorem impl_within_is (a b c : Int) : impl_within.f a b c = some (inR a b c) := by
  unfold impl_within.f inR
  by_cases h : a ≥ b
  · rw [if_pos h]; congr 1; simp; omega
  · rw [if_neg h]; congr 1; simp; omega
theorem impl_ConfOk_l0 (l : List Int) (hl : l.length ≤ 35184372088832) : ∀ (d i : Nat) (p : Int), i + d = l.length → (i = 0 → p = 0) → (0 < i → p = rd l ((i - 1 : Nat) : Int)) →
    Ev (fun k => impl_ConfOk.l0 k l l (l.length : Int) (i : Int)) (decide (1 ≤ l.length ∧ l.length ≤ 4) && riseF p (l.drop i))
  | 0, i, p, h, h0, h1 => by
    refine Ev.step (f := fun k => some (decide (1 ≤ l.length ∧ l.length ≤ 4))) (fun k => ?_) ((Ev.now _).eq ?_)
    · simp only [impl_ConfOk.l0]; rw [if_neg (by omega), impl_within_is, Option.bind_some]
      congr 1
      unfold inR
      congr 1
      simp only [eq_iff_iff]
      omega
    · rw [List.drop_of_length_le (by omega)]; simp [riseF]
  | d + 1, i, p, h, h0, h1 => by
    rw [rd_drop (l := l) (by omega)]
    have ih := impl_ConfOk_l0 l hl d (i + 1) (rd l (i : Int)) (by omega) (by omega) (fun _ => by simp)
    by_cases hin : 1 ≤ rd l (i : Int) ∧ rd l (i : Int) ≤ 4
    · by_cases hi : 0 < i
      · have hp := h1 hi
        have ei : wrap64 ((i : Int) - 1) = ((i - 1 : Nat) : Int) := by rw [w64 (by omega) (by omega)]; omega
        by_cases hlt : p < rd l (i : Int)
        · refine Ev.step (f := fun k => impl_ConfOk.l0 k l l (l.length : Int) ((i + 1 : Nat) : Int)) (fun k => ?_) (ih.eq ?_)
          · simp only [impl_ConfOk.l0]
            rw [if_pos (by omega), if_pos (by omega), if_pos (by omega), impl_within_is, Option.bind_some, if_pos (inR_iff.2 hin), if_pos (by omega), ei, if_pos (by omega), if_pos (by omega), if_neg (by omega)]
            rw [w64 (x := (i : Int) + 1) (by omega) (by omega)]; rfl
          · simp only [riseF]; rw [decide_eq_true (p := _ ∧ _ ∧ _) ⟨hin.1, hin.2, hlt⟩, Bool.true_and]
        · refine Ev.step (f := fun k => some false) (fun k => ?_) ((Ev.now _).eq ?_)
          · simp only [impl_ConfOk.l0]
            rw [if_pos (by omega), if_pos (by omega), if_pos (by omega), impl_within_is, Option.bind_some, if_pos (inR_iff.2 hin), if_pos (by omega), ei, if_pos (by omega), if_pos (by omega), if_pos (by omega)]
          · simp only [riseF]; rw [decide_eq_false (p := _ ∧ _ ∧ _) (fun e => hlt e.2.2), Bool.false_and, Bool.and_false]
      · have hp := h0 (by omega)
        refine Ev.step (f := fun k => impl_ConfOk.l0 k l l (l.length : Int) ((i + 1 : Nat) : Int)) (fun k => ?_) (ih.eq ?_)
        · simp only [impl_ConfOk.l0]
          rw [if_pos (by omega), if_pos (by omega), if_pos (by omega), impl_within_is, Option.bind_some, if_pos (inR_iff.2 hin), if_neg (by omega)]
          rw [w64 (x := (i : Int) + 1) (by omega) (by omega)]; rfl
        · simp only [riseF]; rw [decide_eq_true (p := _ ∧ _ ∧ _) ⟨hin.1, hin.2, by omega⟩, Bool.true_and]
    · refine Ev.step (f := fun k => some false) (fun k => ?_) ((Ev.now _).eq ?_)
      · simp only [impl_ConfOk.l0]
        rw [if_pos (by omega), if_pos (by omega), if_pos (by omega), impl_within_is, Option.bind_some, if_neg (fun e => hin (inR_iff.1 e))]
      · simp only [riseF]; rw [decide_eq_false (p := _ ∧ _ ∧ _) (fun e => hin ⟨e.1, e.2.1⟩), Bool.false_and, Bool.and_false]
theorem impl_ConfOk_ev (l : List Int) (hl : l.length ≤ 35184372088832) : Ev (fun k => impl_ConfOk.f k l) (confOk l) := by
  have := impl_ConfOk_l0 l hl l.length 0 0 (by omega) (fun _ => rfl) (fun h => absurd h (by omega))
  exact this
theorem impl_ReadConf_l0 (s : ByteArray) (hs : s.size ≤ 17592186044416) : ∀ (d i : Nat), i + d = s.size →
    Ev (fun k => impl_ReadConf.l0 k s ((bytesOf s).take i) (i : Int)) (readConf s)
  | 0, i, h => by
    have e : (bytesOf s).take i = bytesOf s := List.take_of_length_le (by rw [bytesOf_length]; omega)
    rw [e]
    refine Ev.step (f := fun k => (impl_ConfOk.f k (bytesOf s)).bind fun t => if t = true then some (bytesOf s, true) else some ([], false)) (fun k => ?_) (Ev.bind (impl_ConfOk_ev _ (by rw [bytesOf_length]; omega)) (Ev.is ?_))
    · simp only [impl_ReadConf.l0]; rw [if_neg (by omega)]
    · unfold readConf
      by_cases h : confOk (bytesOf s) = true
      · rw [if_pos h, if_pos h]
      · rw [if_neg h, if_neg h]
  | d + 1, i, h => by
    have hr := bt_range s (i : Int)
    have hl : ((bytesOf s).take i).length = i := by rw [List.length_take, bytesOf_length]; omega
    refine Ev.step (f := fun k => impl_ReadConf.l0 k s ((bytesOf s).take (i + 1)) ((i + 1 : Nat) : Int)) (fun k => ?_) (impl_ReadConf_l0 s hs d (i + 1) (by omega))
    simp only [impl_ReadConf.l0]
    rw [if_pos (by omega), if_pos (by omega), if_pos (by omega), w64 (x := (i : Int) + 1) (by omega) (by omega), w64 (x := bt s i) (by omega) (by omega)]
    have e := Led.take_succ (s := s) (a := 0) (i := i) (by omega)
    rw [List.drop_zero, Nat.zero_add] at e
    rw [e]; rfl
theorem impl_ReadConf_ev (s : ByteArray) (hs : s.size ≤ 17592186044416) : Ev (fun k => impl_ReadConf.f k s) (readConf s) := by
  have := impl_ReadConf_l0 s hs s.size 0 (by omega)
  rw [List.take_zero] at this
  exact this
theorem impl_EntryOk_ev (a b : Int) (c : ByteArray) (hc : c.size ≤ 17592186044416) : Ev (fun k => impl_EntryOk.f k a b c) (entryOk a b c) := by
  unfold impl_EntryOk.f entryOk
  refine Ev.bind0 (impl_within_is _ _ _) ?_
  by_cases h : 0 ≤ a ∧ a ≤ 100000
  · refine Ev.pos (inR_iff.2 h) ?_
    rw [decide_eq_true h, Bool.true_and]
    by_cases h1 : b = 1
    · refine Ev.pos h1 (Ev.is ?_); rw [if_pos h1]
    · refine Ev.neg h1 ?_
      rw [if_neg h1]
      by_cases h2 : b = 2
      · refine Ev.pos h2 (Ev.bind (impl_ReadConf_ev c (by omega)) (Ev.is ?_)); rw [if_pos h2]
      · refine Ev.neg h2 ?_
        rw [if_neg h2]
        by_cases h3 : b = 3
        · refine Ev.pos h3 (Ev.is ?_); rw [if_pos h3]
        · refine Ev.neg h3 (Ev.is ?_); rw [if_neg h3]
  · refine Ev.neg (fun e => h (inR_iff.1 e)) (Ev.is ?_)
    rw [decide_eq_false h, Bool.false_and]
theorem impl_LogOk_l0 (l : List IEn) (hl : l.length ≤ 1048577) (hs : ∀ x ∈ l, x.f2.size ≤ 17592186044416) : ∀ (d i : Nat) (t : Int), i + d = l.length →
    Ev (fun k => impl_LogOk.l0 k t l (l.length : Int) (i : Int)) (entriesOk t (l.drop i))
  | 0, i, t, h => by
    refine Ev.step (f := fun k => some true) (fun k => ?_) ((Ev.now _).eq ?_)
    · simp only [impl_LogOk.l0]; rw [if_neg (by omega)]
    · rw [List.drop_of_length_le (by omega)]; rfl
  | d + 1, i, t, h => by
    have hx := hs (rd_T47 l (i : Int)) (by rw [rd_IEn (by omega)]; exact List.getElem_mem _)
    rw [rd_IEn_drop (l := l) (i := i) (by omega)]
    have ih := impl_LogOk_l0 l hl hs d (i + 1) (rd_T47 l (i : Int)).f0 (by omega)
    refine Ev.step (f := fun k => (impl_EntryOk.f k (rd_T47 l (i : Int)).f0 (rd_T47 l (i : Int)).f1 (rd_T47 l (i : Int)).f2).bind fun t142 => (if t142 = true then (if (rd_T47 l (i : Int)).f0 < t then some false else impl_LogOk.l0 k (rd_T47 l (i : Int)).f0 l (l.length : Int) ((i + 1 : Nat) : Int)) else some false)) (fun k => ?_) (Ev.bind (impl_EntryOk_ev _ _ _ hx) ?_)
    · simp only [impl_LogOk.l0]
      rw [if_pos (by omega), if_pos (by omega), if_pos (by omega), w64 (x := (i : Int) + 1) (by omega) (by omega)]; rfl
    · generalize rd_T47 l (i : Int) = x at *
      simp only [entriesOk]
      by_cases h1 : entryOk x.f0 x.f1 x.f2 = true
      · refine Ev.pos h1 ?_
        by_cases h2 : x.f0 < t
        · refine Ev.pos h2 ((Ev.now _).eq ?_)
          rw [decide_eq_false (p := t ≤ x.f0) (by omega)]; simp
        · refine Ev.neg h2 (ih.eq ?_)
          rw [h1, decide_eq_true (p := t ≤ x.f0) (by omega)]; simp
      · refine Ev.neg h1 ((Ev.now _).eq ?_)
        rw [Bool.not_eq_true _ |>.mp h1]; simp
theorem impl_LogOk_ev (a b : Int) (l : List IEn) (hl : l.length ≤ 1048577) (hs : ∀ x ∈ l, x.f2.size ≤ 17592186044416) : Ev (fun k => impl_LogOk.f k a b l) (logOk a b l) := by
  have no : ∀ x, logOk a b l = false → x = true → Ev (fun k => impl_LogOk.j0 k x a b l) (logOk a b l) := by
    intro x h hx
    rw [h, hx]
    exact Ev.step (fun k => rfl) (Ev.now _)
  have nf : ¬ logOk a b l = true → logOk a b l = false := fun h => Bool.not_eq_true _ |>.mp h
  unfold impl_LogOk.f
  refine Ev.bind0 (impl_within_is _ _ _) ?_
  by_cases h1 : 0 ≤ a ∧ a ≤ 1000000
  · refine Ev.pos (inR_iff.2 h1) (Ev.bind0 (impl_within_is _ _ _) ?_)
    by_cases h2 : 0 ≤ b ∧ b ≤ 100000
    · refine Ev.pos (inR_iff.2 h2) ?_
      by_cases h3 : l.length ≤ 60
      · refine Ev.neg (by omega) ?_
        rw [w64 (x := a + (l.length : Int)) (by omega) (by omega)]
        by_cases h4 : a + (l.length : Int) ≤ 1000000
        · rw [decide_eq_false (p := a + (l.length : Int) > 1000000) (by omega)]
          refine Ev.step (fun k => rfl) ?_
          refine (impl_LogOk_l0 l hl hs l.length 0 b (by omega)).eq ?_
          unfold logOk
          rw [decide_eq_true h1, decide_eq_true h2, decide_eq_true (p := l.length ≤ 60 ∧ a + (l.length : Int) ≤ 1000000) ⟨h3, h4⟩]; simp
        · exact no _ (nf fun e => h4 (logOk_iff.1 e).2.2.1.2) (decide_eq_true (by omega))
      · exact Ev.pos (by omega) (no _ (nf fun e => h3 (logOk_iff.1 e).2.2.1.1) rfl)
    · exact Ev.neg (fun e => h2 (inR_iff.1 e)) (no _ (nf fun e => h2 (logOk_iff.1 e).2.1) rfl)
  · exact Ev.neg (fun e => h1 (inR_iff.1 e)) (no _ (nf fun e => h1 (logOk_iff.1 e).1) rfl)
theorem impl_JournalOk_ev (p q s a b : Int) (l : List IEn) (hl : l.length ≤ 1048577) (hs : ∀ x ∈ l, x.f2.size ≤ 17592186044416) : Ev (fun k => impl_JournalOk.f k p q s a b l) (journalOk p q s a b l) := by
  unfold impl_JournalOk.f journalOk
  refine Ev.bind0 (impl_within_is _ _ _) ?_
  by_cases h1 : 0 ≤ p ∧ p ≤ 999
  · rw [decide_eq_true h1, Bool.true_and]
    refine Ev.pos (inR_iff.2 h1) (Ev.bind0 (impl_within_is _ _ _) ?_)
    by_cases h2 : 0 ≤ q ∧ q ≤ 100000
    · rw [decide_eq_true h2, Bool.true_and]
      refine Ev.pos (inR_iff.2 h2) (Ev.bind0 (impl_within_is _ _ _) ?_)
      by_cases h3 : 0 ≤ s ∧ s ≤ 4
      · rw [decide_eq_true h3, Bool.true_and]
        exact Ev.pos (inR_iff.2 h3) (Ev.bind (impl_LogOk_ev a b l hl hs) (Ev.now _))
      · rw [decide_eq_false h3, Bool.false_and]; exact Ev.neg (fun e => h3 (inR_iff.1 e)) (Ev.now _)
    · rw [decide_eq_false h2, Bool.false_and]; exact Ev.neg (fun e => h2 (inR_iff.1 e)) (Ev.now _)
  · rw [decide_eq_false h1, Bool.false_and]; exact Ev.neg (fun e => h1 (inR_iff.1 e)) (Ev.now _)
theorem laws_eqEntry_is (a b : Int) (c : ByteArray) : laws_eqEntry.f a b c a b c = some true := by
  unfold laws_eqEntry.f; simp
theorem laws_eqEntryS_l0 (l : List IEn) (hl : l.length ≤ 1048577) : ∀ (d i : Nat), i + d = l.length → Ev (fun k => laws_eqEntryS.l0 k l l (i : Int)) true
  | 0, i, h => by
    refine Ev.step (f := fun k => some true) (fun k => ?_) (Ev.now _)
    simp only [laws_eqEntryS.l0]; rw [if_neg (by omega)]
  | d + 1, i, h => by
    refine Ev.step (f := fun k => laws_eqEntryS.l0 k l l ((i + 1 : Nat) : Int)) (fun k => ?_) (laws_eqEntryS_l0 l hl d (i + 1) (by omega))
    simp only [laws_eqEntryS.l0]
    rw [if_pos (by omega), if_pos (by omega), if_pos (by omega), laws_eqEntry_is, Option.bind_some, if_pos rfl, w64 (x := (i : Int) + 1) (by omega) (by omega)]; rfl
theorem laws_eqEntryS_ev (l : List IEn) (hl : l.length ≤ 1048577) : Ev (fun k => laws_eqEntryS.f k l l) true := by
  unfold laws_eqEntryS.f
  exact Ev.pos rfl (laws_eqEntryS_l0 l hl l.length 0 (by omega))
theorem laws_eqLog_ev (a b : Int) (l : List IEn) (hl : l.length ≤ 1048577) : Ev (fun k => laws_eqLog.f k a b l a b l) true := by
  unfold laws_eqLog.f
  exact Ev.pos rfl (Ev.pos rfl (Ev.bind (laws_eqEntryS_ev l hl) (Ev.pos rfl (Ev.now _))))
theorem laws_eqJournal_ev (p q s a b : Int) (l : List IEn) (hl : l.length ≤ 1048577) : Ev (fun k => laws_eqJournal.f k p q s a b l p q s a b l) true := by
  unfold laws_eqJournal.f
  exact Ev.pos rfl (Ev.pos rfl (Ev.pos rfl (Ev.bind (laws_eqLog_ev a b l hl) (Ev.pos rfl (Ev.now _)))))
theorem toEn_small {l : List LEn} {n : Nat} (h : ∀ x ∈ l, (x.f2.size : Int) ≤ n) : ∀ x ∈ l.map toEn, x.f2.size ≤ n := by
  intro x hx
  obtain ⟨y, hy, rfl⟩ := List.mem_map.1 hx
  have := h y hy
  simp only [toEn]; omega
theorem FnExactJournalOk : laws_FnExactJournalOk.Pure := by
  intro p q s a b l hg
  obtain ⟨hp, hq, hs0, ha, hb, hl, hx⟩ := hg
  apply Ev.rounds
  unfold laws_FnExactJournalOk.f
  obtain ⟨r, hr, hz⟩ := laws_szJournal_ev p q s a b l 1048576 hl (fun x h => (hx x h).2.2) (by omega) (by omega)
  refine Ev.bind hr ?_
  rcases hz with hz | ⟨h0, h1, h2, h3⟩
  · exact Ev.pos hz (Ev.now _)
  · have hm : (l.map toEn).length ≤ 1048576 := by simpa using h2
    have hs : ∀ x ∈ l.map toEn, x.f2.size ≤ 17592186044416 := fun x h => Nat.le_trans (toEn_small (n := 1048576) h3 x h) (by omega)
    exact Ev.neg (by omega) (Ev.bind (laws_toJournal_ev p q s a b l h2) (Ev.bind (spec_JournalOk_ev p q s a b (l.map toEn) (by omega) hs) (Ev.bind (laws_toJournal_ev p q s a b l h2) (Ev.bind (impl_JournalOk_ev p q s a b (l.map toEn) (by omega) hs) (Ev.neg (by simp)
      (Ev.bind (laws_toJournal_ev p q s a b l h2) (Ev.bind (laws_eqJournal_ev p q s a b (l.map toEn) (by omega)) (Ev.pos rfl (Ev.now _)))))))))

end Go.Proofs.Ythddngmncmhkoaa.Pure
