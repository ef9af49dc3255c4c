/- The law FnExactJournalText answers true at every input; no condition. -/
import Derived.Test.YtknbkjajfiediaaQFnExactJournalTextx11
import Derived.Test.YtknbkjajfiediaaTM
namespace Go.Proofs.Ytknbkjajfiediaa.QFnExactJournalText
open Go.RowKit
/-- What is left to be shown of the law: over numbers, texts and lists alone. -/
def laws_FnExactJournalText.Pure : Prop := ∀ (a0_0 : Int) (a0_1 : Int) (a0_2 : Int) (a0_3 : Int) (a0_4 : Int) (l0_5 : List (S26)), ((Lit.int .i64 a0_0).wf = true ∧ (Lit.int .i64 a0_1).wf = true ∧ (Lit.int .i64 a0_2).wf = true ∧ ((Lit.int .i64 a0_3).wf = true ∧ (Lit.int .i64 a0_4).wf = true ∧ (l0_5.length ≤ maxLen ∧ ∀ x ∈ l0_5, ((Lit.int .i64 x.f0).wf = true ∧ (Lit.int .i64 x.f1).wf = true ∧ x.f2.size ≤ maxLen)))) → ∃ k, laws_FnExactJournalText.f k a0_0 a0_1 a0_2 a0_3 a0_4 l0_5 = some true
end Go.Proofs.Ytknbkjajfiediaa.QFnExactJournalText
namespace Go.Proofs.Ytknbkjajfiediaa.Pure
open Go.RowKit Go.Proofs.Ytknbkjajfiediaa.QFnExactJournalText Go.Proofs.YtknbkjajfiediaaW.PrintWords Go.Proofs.YtknbkjajfiediaaW.PrintLast Go.Proofs.YtknbkjajfiediaaW.PrintMore Go.Proofs.Ytknbkjajfiediaa.M
set_option linter.unusedVariables false
set_option linter.unusedSimpArgs false
set_option maxRecDepth 4000

theorem laws_szEntry_is (a b : Int) (c : ByteArray) (left : Int) (h0 : 0 ≤ left) (h1 : left ≤ 1048576) (hc : c.size ≤ maxLen) :
    ∃ r, laws_szEntry.f a b c left = some r ∧ (r < 0 ∨ 0 ≤ r ∧ r ≤ left ∧ (c.size : Int) ≤ left) := by
  unfold laws_szEntry.f
  simp only [maxLen] at hc
  rw [w64 (x := left - (c.size : Int)) (by omega) (by omega)]
  by_cases h : left - (c.size : Int) < 0
  · exact ⟨-1, by rw [if_pos h], .inl (by omega)⟩
  · exact ⟨_, by rw [if_neg h], .inr (by omega)⟩
abbrev LEn := S26
abbrev IEn := S35
def toEn (x : LEn) : IEn := ⟨x.f0, x.f1, x.f2⟩
theorem rd_LEn {l : List LEn} {i : Nat} (h : i < l.length) : rd_T26 l (i : Int) = l[i] := by
  simp [rd_T26, List.getD_eq_getElem?_getD, List.getElem?_eq_getElem h]
theorem rd_IEn {l : List IEn} {i : Nat} (h : i < l.length) : rd_T35 l (i : Int) = l[i] := by
  simp [rd_T35, List.getD_eq_getElem?_getD, List.getElem?_eq_getElem h]
theorem laws_szEntryS_l0 (l : List LEn) (hl : l.length ≤ 1048576) (hg : ∀ x ∈ l, x.f2.size ≤ maxLen) : ∀ (d i : Nat) (left : Int), i + d = l.length → 0 ≤ left → left ≤ 1048576 →
    ∃ r, Ev (fun k => laws_szEntryS.l0 k l left (i : Int)) r ∧ (r < 0 ∨ 0 ≤ r ∧ r ≤ left ∧ ∀ x ∈ l.drop i, (x.f2.size : Int) ≤ left)
  | 0, i, left, h, h0, h1 => by
    refine ⟨left, Ev.step (f := fun k => some left) (fun k => ?_) (Ev.now _), .inr ⟨h0, by omega, ?_⟩⟩
    · simp only [laws_szEntryS.l0]; rw [if_neg (by omega)]
    · rw [List.drop_of_length_le (by omega)]; simp
  | d + 1, i, left, h, h0, h1 => by
    have hi : i < l.length := by omega
    obtain ⟨r, hr, hx⟩ := laws_szEntry_is l[i].f0 l[i].f1 l[i].f2 left h0 h1 (hg _ (List.getElem_mem hi))
    rcases hx with hx | ⟨hx0, hx1, hx2⟩
    · refine ⟨-1, Ev.step (f := fun k => some (-1)) (fun k => ?_) (Ev.now _), .inl (by omega)⟩
      simp only [laws_szEntryS.l0]
      rw [if_pos (by omega), if_pos (by omega), rd_LEn hi, hr, Option.bind_some, if_pos hx]
    · obtain ⟨r', hr', hy⟩ := laws_szEntryS_l0 l hl hg d (i + 1) r (by omega) (by omega) (by omega)
      refine ⟨r', Ev.step (f := fun k => laws_szEntryS.l0 k l r ((i + 1 : Nat) : Int)) (fun k => ?_) hr', ?_⟩
      · simp only [laws_szEntryS.l0]
        rw [if_pos (by omega), if_pos (by omega), rd_LEn hi, hr, Option.bind_some, if_neg (by omega), w64 (x := (i : Int) + 1) (by omega) (by omega)]; rfl
      · rcases hy with hy | ⟨hy0, hy1, hy2⟩
        · exact .inl hy
        · refine .inr ⟨hy0, by omega, ?_⟩
          rw [List.drop_eq_getElem_cons hi]
          intro x hx
          rcases List.mem_cons.1 hx with rfl | hx
          · exact hx2
          · have := hy2 x hx; omega
theorem laws_szEntryS_ev (l : List LEn) (left : Int) (hl : l.length ≤ maxLen) (hg : ∀ x ∈ l, x.f2.size ≤ maxLen) (h0 : 0 ≤ left) (h1 : left ≤ 1048576) :
    ∃ r, Ev (fun k => laws_szEntryS.f k l left) r ∧ (r < 0 ∨ 0 ≤ r ∧ r ≤ left ∧ l.length ≤ 1048576 ∧ ∀ x ∈ l, (x.f2.size : Int) ≤ left) := by
  simp only [maxLen] at hl
  have e : wrap64 (left - (l.length : Int)) = left - l.length := w64 (by omega) (by omega)
  by_cases h : left - (l.length : Int) < 0
  · exact ⟨-1, by unfold laws_szEntryS.f; rw [e]; exact Ev.pos h (Ev.now _), .inl (by omega)⟩
  · obtain ⟨r, hr, hx⟩ := laws_szEntryS_l0 l (by omega) hg l.length 0 (left - l.length) (by omega) (by omega) (by omega)
    refine ⟨r, by unfold laws_szEntryS.f; rw [e]; exact Ev.neg h hr, ?_⟩
    rcases hx with hx | ⟨hx0, hx1, hx2⟩
    · exact .inl hx
    · exact .inr ⟨hx0, by omega, by omega, fun x hx => by have := hx2 x (by simpa using hx); omega⟩
theorem laws_szLog_ev (a b : Int) (l : List LEn) (left : Int) (hl : l.length ≤ maxLen) (hg : ∀ x ∈ l, x.f2.size ≤ maxLen) (h0 : 0 ≤ left) (h1 : left ≤ 1048576) :
    ∃ r, Ev (fun k => laws_szLog.f k a b l left) r ∧ (r < 0 ∨ 0 ≤ r ∧ r ≤ left ∧ l.length ≤ 1048576 ∧ ∀ x ∈ l, (x.f2.size : Int) ≤ left) := by
  obtain ⟨r, hr, hx⟩ := laws_szEntryS_ev l left hl hg h0 h1
  by_cases h : r < 0
  · exact ⟨-1, by unfold laws_szLog.f; exact Ev.bind hr (Ev.pos h (Ev.now _)), .inl (by omega)⟩
  · refine ⟨r, by unfold laws_szLog.f; exact Ev.bind hr (Ev.neg h (Ev.now _)), ?_⟩
    rcases hx with hx | hx
    · exact absurd hx h
    · exact .inr hx
theorem laws_szJournal_ev (p q s a b : Int) (l : List LEn) (left : Int) (hl : l.length ≤ maxLen) (hg : ∀ x ∈ l, x.f2.size ≤ maxLen) (h0 : 0 ≤ left) (h1 : left ≤ 1048576) :
    ∃ r, Ev (fun k => laws_szJournal.f k p q s a b l left) r ∧ (r < 0 ∨ 0 ≤ r ∧ r ≤ left ∧ l.length ≤ 1048576 ∧ ∀ x ∈ l, (x.f2.size : Int) ≤ left) := by
  obtain ⟨r, hr, hx⟩ := laws_szLog_ev a b l left hl hg h0 h1
  by_cases h : r < 0
  · exact ⟨-1, by unfold laws_szJournal.f; exact Ev.bind hr (Ev.pos h (Ev.now _)), .inl (by omega)⟩
  · refine ⟨r, by unfold laws_szJournal.f; exact Ev.bind hr (Ev.neg h (Ev.now _)), ?_⟩
    rcases hx with hx | hx
    · exact absurd hx h
    · exact .inr hx
theorem spec_l01In_is (a b c : Int) : spec_l01In.f a b c = some (inR a b c) := by
  unfold spec_l01In.f inR
  by_cases h : a ≥ b
  · rw [if_pos h]; congr 1; simp; omega
  · rw [if_neg h]; congr 1; simp; omega
theorem spec_l05Rise_l0 (l : List Int) (hl : l.length ≤ 35184372088832) : ∀ (d i : Nat) (p : Int), i + d = l.length → (i = 0 → p = 0) → (0 < i → p = rd l ((i - 1 : Nat) : Int)) →
    Ev (fun k => spec_l05Rise.l0 k l 1 4 (i : Int)) (riseF p (l.drop i))
  | 0, i, p, h, h0, h1 => by
    refine Ev.step (f := fun k => some true) (fun k => ?_) ((Ev.now _).eq ?_)
    · simp only [spec_l05Rise.l0]; rw [if_neg (by omega)]
    · rw [List.drop_of_length_le (by omega)]; rfl
  | d + 1, i, p, h, h0, h1 => by
    rw [rd_drop (l := l) (by omega)]
    have ih := spec_l05Rise_l0 l hl d (i + 1) (rd l (i : Int)) (by omega) (by omega) (fun _ => by simp)
    by_cases hin : 1 ≤ rd l (i : Int) ∧ rd l (i : Int) ≤ 4
    · by_cases hi : 0 < i
      · have hp := h1 hi
        have ei : wrap64 ((i : Int) - 1) = ((i - 1 : Nat) : Int) := by rw [w64 (by omega) (by omega)]; omega
        by_cases hlt : p < rd l (i : Int)
        · refine Ev.step (f := fun k => spec_l05Rise.l0 k l 1 4 ((i + 1 : Nat) : Int)) (fun k => ?_) (ih.eq ?_)
          · simp only [spec_l05Rise.l0]
            rw [if_pos (by omega), if_pos (by omega), spec_l01In_is, Option.bind_some, if_pos (inR_iff.2 hin), if_pos (by omega), ei, if_pos (by omega), if_pos (by omega), if_neg (by omega)]
            rw [w64 (x := (i : Int) + 1) (by omega) (by omega)]; rfl
          · simp only [riseF]; rw [decide_eq_true ⟨hin.1, hin.2, hlt⟩, Bool.true_and]
        · refine Ev.step (f := fun k => some false) (fun k => ?_) ((Ev.now _).eq ?_)
          · simp only [spec_l05Rise.l0]
            rw [if_pos (by omega), if_pos (by omega), spec_l01In_is, Option.bind_some, if_pos (inR_iff.2 hin), if_pos (by omega), ei, if_pos (by omega), if_pos (by omega), if_pos (by omega)]
          · simp only [riseF]; rw [decide_eq_false (fun e => hlt e.2.2), Bool.false_and]
      · have hp := h0 (by omega)
        refine Ev.step (f := fun k => spec_l05Rise.l0 k l 1 4 ((i + 1 : Nat) : Int)) (fun k => ?_) (ih.eq ?_)
        · simp only [spec_l05Rise.l0]
          rw [if_pos (by omega), if_pos (by omega), spec_l01In_is, Option.bind_some, if_pos (inR_iff.2 hin), if_neg (by omega)]
          rw [w64 (x := (i : Int) + 1) (by omega) (by omega)]; rfl
        · simp only [riseF]; rw [decide_eq_true ⟨hin.1, hin.2, by omega⟩, Bool.true_and]
    · refine Ev.step (f := fun k => some false) (fun k => ?_) ((Ev.now _).eq ?_)
      · simp only [spec_l05Rise.l0]
        rw [if_pos (by omega), if_pos (by omega), spec_l01In_is, Option.bind_some, if_neg (fun e => hin (inR_iff.1 e))]
      · simp only [riseF]; rw [decide_eq_false (fun e => hin ⟨e.1, e.2.1⟩), Bool.false_and]
theorem spec_l05Rise_ev (l : List Int) (hl : l.length ≤ 35184372088832) : Ev (fun k => spec_l05Rise.f k l 1 4) (riseF 0 l) := by
  have := spec_l05Rise_l0 l hl l.length 0 0 (by omega) (fun _ => rfl) (fun h => absurd h (by omega))
  exact this
theorem spec_ConfOk_ev (l : List Int) (hl : l.length ≤ 35184372088832) : Ev (fun k => spec_ConfOk.f k l) (confOk l) := by
  unfold spec_ConfOk.f confOk
  refine Ev.bind0 (spec_l01In_is _ _ _) ?_
  by_cases h : 1 ≤ l.length ∧ l.length ≤ 4
  · rw [decide_eq_true h, Bool.true_and]
    exact Ev.pos (inR_iff.2 (by omega)) (Ev.bind (spec_l05Rise_ev l hl) (Ev.now _))
  · rw [decide_eq_false h, Bool.false_and]
    exact Ev.neg (fun e => h (by have := inR_iff.1 e; omega)) (Ev.now _)
theorem spec_ReadConf_end (s : ByteArray) (acc : List Int) (n : Nat) (hn : n ≤ 5) (hs : s.size ≤ 140737488351232) (ha : acc = (bytesOf s).take n) (hx : n = s.size ∨ n = 5) :
    Ev (fun k => if (acc.length : Int) = (s.size : Int) then ((spec_ConfOk.f k acc).bind fun t => if t = true then some (acc, true) else some ([], false)) else some ([], false)) (readConf s) := by
  have hl : acc.length = min n s.size := by rw [ha, List.length_take, bytesOf_length]
  by_cases e : acc.length = s.size
  · have : acc = bytesOf s := by rw [ha]; exact List.take_of_length_le (by rw [bytesOf_length]; omega)
    subst this
    refine Ev.pos (by omega) (Ev.bind (spec_ConfOk_ev _ (by omega)) (Ev.is ?_))
    unfold readConf
    by_cases h : confOk (bytesOf s) = true
    · rw [if_pos h, if_pos h]
    · rw [if_neg h, if_neg h]
  · refine Ev.neg (by omega) (Ev.is ?_)
    unfold readConf
    rw [if_neg]
    intro h
    have := confOk_len h
    rw [bytesOf_length] at this
    omega
theorem spec_ReadConf_l0 (s : ByteArray) (hs : s.size ≤ 140737488351232) : ∀ (d i : Nat), i + d = 5 → i ≤ s.size →
    Ev (fun k => spec_ReadConf.l0 k s ((bytesOf s).take i) (i : Int)) (readConf s)
  | d, i, h, hi => by
    have hl : ((bytesOf s).take i).length = i := by rw [List.length_take, bytesOf_length]; omega
    by_cases hlt : i < s.size
    · cases d with
      | zero =>
        refine Ev.step (fun k => ?_) (spec_ReadConf_end s ((bytesOf s).take i) i (by omega) hs rfl (by omega))
        simp only [spec_ReadConf.l0]
        rw [if_pos (by omega), if_neg (by omega)]
      | succ d =>
        have hr := bt_range s (i : Int)
        refine Ev.step (f := fun k => spec_ReadConf.l0 k s ((bytesOf s).take (i + 1)) ((i + 1 : Nat) : Int)) (fun k => ?_) (spec_ReadConf_l0 s hs d (i + 1) (by omega) (by omega))
        simp only [spec_ReadConf.l0]
        rw [if_pos (by omega), if_pos (by omega), if_pos (by omega), if_pos (by omega), w64 (x := (i : Int) + 1) (by omega) (by omega), w64 (x := bt s i) (by omega) (by omega)]
        have e := Led.take_succ (s := s) (a := 0) (i := i) (by omega)
        rw [List.drop_zero, Nat.zero_add] at e
        rw [e]; rfl
    · refine Ev.step (fun k => ?_) (spec_ReadConf_end s ((bytesOf s).take i) i (by omega) hs rfl (by omega))
      simp only [spec_ReadConf.l0]
      rw [if_neg (by omega)]
theorem spec_ReadConf_ev (s : ByteArray) (hs : s.size ≤ 140737488351232) : Ev (fun k => spec_ReadConf.f k s) (readConf s) := by
  have := spec_ReadConf_l0 s hs 5 0 (by omega) (by omega)
  rw [List.take_zero] at this
  exact this
def entryOk (a b : Int) (c : ByteArray) : Bool :=
  decide (0 ≤ a ∧ a ≤ 100000) && (if b = 1 then (c.toList == ([] : List UInt8)) else if b = 2 then (readConf c).2 else if b = 3 then decide ((c.size : Int) ≤ 120) else false)
theorem entryOk_term {t k : Int} {d : ByteArray} (h : entryOk t k d = true) : 0 ≤ t ∧ t ≤ 100000 := by
  simp [entryOk] at h; omega
theorem spec_EntryOk_ev (a b : Int) (c : ByteArray) (hc : c.size ≤ 17592186044416) : Ev (fun k => spec_EntryOk.f k a b c) (entryOk a b c) := by
  unfold spec_EntryOk.f entryOk
  refine Ev.bind0 (spec_l01In_is _ _ _) ?_
  by_cases h : 0 ≤ a ∧ a ≤ 100000
  · refine Ev.pos (inR_iff.2 h) ?_
    rw [decide_eq_true h, Bool.true_and]
    by_cases h1 : b = 1
    · refine Ev.pos h1 (Ev.is ?_); rw [if_pos h1]
    · refine Ev.neg h1 ?_
      rw [if_neg h1]
      by_cases h2 : b = 2
      · refine Ev.pos h2 (Ev.bind (spec_ReadConf_ev c (by omega)) (Ev.is ?_)); rw [if_pos h2]
      · refine Ev.neg h2 ?_
        rw [if_neg h2]
        by_cases h3 : b = 3
        · refine Ev.pos h3 (Ev.is ?_); rw [if_pos h3]
        · refine Ev.neg h3 (Ev.is ?_); rw [if_neg h3]
  · refine Ev.neg (fun e => h (inR_iff.1 e)) (Ev.is ?_)
    rw [decide_eq_false h, Bool.false_and]
def entriesOk : Int → List IEn → Bool
  | _, [] => true
  | t, x :: l => entryOk x.f0 x.f1 x.f2 && decide (t ≤ x.f0) && entriesOk x.f0 l
def logOk (a b : Int) (l : List IEn) : Bool :=
  decide (0 ≤ a ∧ a ≤ 1000000) && (decide (0 ≤ b ∧ b ≤ 100000) && (decide (l.length ≤ 60 ∧ a + l.length ≤ 1000000) && entriesOk b l))
theorem rd_IEn_drop {l : List IEn} {i : Nat} (h : i < l.length) : l.drop i = rd_T35 l (i : Int) :: l.drop (i + 1) := by
  rw [List.drop_eq_getElem_cons h, rd_IEn h]
theorem logOk_iff {a b : Int} {l : List IEn} : logOk a b l = true ↔ (0 ≤ a ∧ a ≤ 1000000) ∧ (0 ≤ b ∧ b ≤ 100000) ∧ (l.length ≤ 60 ∧ a + l.length ≤ 1000000) ∧ entriesOk b l = true := by
  simp [logOk]
theorem spec_LogOk_l0 (a b : Int) (l : List IEn) (hl : l.length ≤ 1048577) (hs : ∀ x ∈ l, x.f2.size ≤ 17592186044416) : ∀ (d i : Nat) (t : Int), i + d = l.length →
    Ev (fun k => spec_LogOk.l0 k t (i : Int) a b l) (entriesOk t (l.drop i))
  | 0, i, t, h => by
    refine Ev.step (f := fun k => some true) (fun k => ?_) ((Ev.now _).eq ?_)
    · simp only [spec_LogOk.l0]; rw [if_neg (by omega)]
    · rw [List.drop_of_length_le (by omega)]; rfl
  | d + 1, i, t, h => by
    have hx := hs (rd_T35 l (i : Int)) (by rw [rd_IEn (by omega)]; exact List.getElem_mem _)
    rw [rd_IEn_drop (l := l) (i := i) (by omega)]
    have ih := spec_LogOk_l0 a b l hl hs d (i + 1) (rd_T35 l (i : Int)).f0 (by omega)
    refine Ev.step (f := fun k => (spec_EntryOk.f k (rd_T35 l (i : Int)).f0 (rd_T35 l (i : Int)).f1 (rd_T35 l (i : Int)).f2).bind fun t142 => (if t142 = true then (if (rd_T35 l (i : Int)).f0 < t then some false else spec_LogOk.l0 k (rd_T35 l (i : Int)).f0 ((i + 1 : Nat) : Int) a b l) else some false)) (fun k => ?_) (Ev.bind (spec_EntryOk_ev _ _ _ hx) ?_)
    · simp only [spec_LogOk.l0]
      rw [if_pos (by omega), if_pos (by omega), w64 (x := (i : Int) + 1) (by omega) (by omega)]; rfl
    · generalize rd_T35 l (i : Int) = x at *
      simp only [entriesOk]
      by_cases h1 : entryOk x.f0 x.f1 x.f2 = true
      · refine Ev.pos h1 ?_
        by_cases h2 : x.f0 < t
        · refine Ev.pos h2 ((Ev.now _).eq ?_)
          rw [decide_eq_false (p := t ≤ x.f0) (by omega)]; simp
        · refine Ev.neg h2 (ih.eq ?_)
          rw [h1, decide_eq_true (p := t ≤ x.f0) (by omega)]; simp
      · refine Ev.neg h1 ((Ev.now _).eq ?_)
        rw [Bool.not_eq_true _ |>.mp h1]; simp
theorem spec_LogOk_ev (a b : Int) (l : List IEn) (hl : l.length ≤ 1048577) (hs : ∀ x ∈ l, x.f2.size ≤ 17592186044416) : Ev (fun k => spec_LogOk.f k a b l) (logOk a b l) := by
  have no : ∀ x, logOk a b l = false → x = true → Ev (fun k => spec_LogOk.j0 k x a b l) (logOk a b l) := by
    intro x h hx
    rw [h, hx]
    exact Ev.step (fun k => rfl) (Ev.now _)
  have nf : ¬ logOk a b l = true → logOk a b l = false := fun h => Bool.not_eq_true _ |>.mp h
  unfold spec_LogOk.f
  refine Ev.bind0 (spec_l01In_is _ _ _) ?_
  by_cases h1 : 0 ≤ a ∧ a ≤ 1000000
  · refine Ev.pos (inR_iff.2 h1) (Ev.bind0 (spec_l01In_is _ _ _) ?_)
    by_cases h2 : 0 ≤ b ∧ b ≤ 100000
    · refine Ev.pos (inR_iff.2 h2) ?_
      by_cases h3 : l.length ≤ 60
      · refine Ev.neg (by omega) ?_
        rw [w64 (x := a + (l.length : Int)) (by omega) (by omega)]
        by_cases h4 : a + (l.length : Int) ≤ 1000000
        · rw [decide_eq_false (p := a + (l.length : Int) > 1000000) (by omega)]
          refine Ev.step (fun k => rfl) ?_
          refine (spec_LogOk_l0 a b l hl hs l.length 0 b (by omega)).eq ?_
          unfold logOk
          rw [decide_eq_true h1, decide_eq_true h2, decide_eq_true (p := l.length ≤ 60 ∧ a + (l.length : Int) ≤ 1000000) ⟨h3, h4⟩]; simp
        · exact no _ (nf fun e => h4 (logOk_iff.1 e).2.2.1.2) (decide_eq_true (by omega))
      · exact Ev.pos (by omega) (no _ (nf fun e => h3 (logOk_iff.1 e).2.2.1.1) rfl)
    · exact Ev.neg (fun e => h2 (inR_iff.1 e)) (no _ (nf fun e => h2 (logOk_iff.1 e).2.1) rfl)
  · exact Ev.neg (fun e => h1 (inR_iff.1 e)) (no _ (nf fun e => h1 (logOk_iff.1 e).1) rfl)
def journalOk (p q s a b : Int) (l : List IEn) : Bool := decide (0 ≤ p ∧ p ≤ 999) && (decide (0 ≤ q ∧ q ≤ 100000) && (decide (0 ≤ s ∧ s ≤ 4) && logOk a b l))
theorem spec_JournalOk_ev (p q s a b : Int) (l : List IEn) (hl : l.length ≤ 1048577) (hs : ∀ x ∈ l, x.f2.size ≤ 17592186044416) : Ev (fun k => spec_JournalOk.f k p q s a b l) (journalOk p q s a b l) := by
  unfold spec_JournalOk.f journalOk
  refine Ev.bind0 (spec_l01In_is _ _ _) ?_
  by_cases h1 : 0 ≤ p ∧ p ≤ 999
  · rw [decide_eq_true h1, Bool.true_and]
    refine Ev.pos (inR_iff.2 h1) (Ev.bind0 (spec_l01In_is _ _ _) ?_)
    by_cases h2 : 0 ≤ q ∧ q ≤ 100000
    · rw [decide_eq_true h2, Bool.true_and]
      refine Ev.pos (inR_iff.2 h2) (Ev.bind0 (spec_l01In_is _ _ _) ?_)
      by_cases h3 : 0 ≤ s ∧ s ≤ 4
      · rw [decide_eq_true h3, Bool.true_and]
        exact Ev.pos (inR_iff.2 h3) (Ev.bind (spec_LogOk_ev a b l hl hs) (Ev.now _))
      · rw [decide_eq_false h3, Bool.false_and]; exact Ev.neg (fun e => h3 (inR_iff.1 e)) (Ev.now _)
    · rw [decide_eq_false h2, Bool.false_and]; exact Ev.neg (fun e => h2 (inR_iff.1 e)) (Ev.now _)
  · rw [decide_eq_false h1, Bool.false_and]; exact Ev.neg (fun e => h1 (inR_iff.1 e)) (Ev.now _)
theorem spec_l01Var_l0 : ∀ (n : Nat) (acc : List Int), acc.length + n < 140737488355328 → Ev (fun k => spec_l01Var.l0 k (n : Int) acc) (strOfNums (acc ++ varL n)) := by
  intro n
  induction n using Nat.strongRecOn with
  | _ n ih =>
    intro acc ha
    by_cases h : 127 < n
    · refine Ev.step (f := fun k => spec_l01Var.l0 k ((n / 128 : Nat) : Int) (acc ++ [((n % 128 + 128 : Nat) : Int)])) (fun k => ?_) ?_
      · simp only [spec_l01Var.l0]
        rw [if_pos (by omega), if_pos (by omega), td (by omega), tm (by omega)]
        rw [w64 (x := (n : Int) / 128) (by omega) (by omega), w64 (x := (n : Int) % 128 + 128) (by omega) (by omega)]
        congr 3
        omega
      · refine (ih (n / 128) (by omega) _ (by simp; omega)).eq ?_
        rw [varL_big h, List.append_assoc]; rfl
    · refine Ev.step (f := fun k => some (strOfNums (acc ++ varL n))) (fun k => ?_) (Ev.now _)
      simp only [spec_l01Var.l0]
      rw [if_neg (by omega), if_pos (by omega), varL_small h]
      congr 4
      omega
theorem spec_l01Var_ev (n : Nat) (h : n < 140737488355328) : Ev (fun k => spec_l01Var.f k (n : Int)) (vt n) := by
  have := spec_l01Var_l0 n [] (by simpa using h)
  exact this
theorem spec_l01Var_evi (n : Int) (h0 : 0 ≤ n) (h : n < 140737488355328) : Ev (fun k => spec_l01Var.f k n) (vt n.toNat) := by
  have := spec_l01Var_ev n.toNat (by omega)
  rwa [Int.toNat_of_nonneg h0] at this
theorem spec_l02Four_is (x : Int) : spec_l02Four.f x = some (four x) := rfl
theorem spec_SumMore_l1 {s : ByteArray} {i r : Int} : ∀ (d : Nat) (j x0 : Int), 0 ≤ j → j + d = 8 → Ev (fun k => spec_SumMore.l0 k (halves d x0) s (wrap64 (i + 1))) r → Ev (fun k => spec_SumMore.l1 k x0 s i j) r
  | 0, j, x0, h0, h, hk => by
    refine Ev.step (f := fun k => spec_SumMore.l0 k x0 s (wrap64 (i + 1))) (fun k => ?_) hk
    simp only [spec_SumMore.l1]; rw [if_neg (by omega)]
  | d + 1, j, x0, h0, h, hk => by
    refine Ev.step (f := fun k => spec_SumMore.l1 k (half x0) s i (j + 1)) (fun k => ?_) (spec_SumMore_l1 d (j + 1) (half x0) (by omega) (by omega) hk)
    simp only [spec_SumMore.l1]; rw [if_pos (by omega), w64 (x := j + 1) (by omega) (by omega)]
    unfold half
    split <;> rfl
theorem spec_SumMore_l0 (s : ByteArray) (hs : s.size ≤ 140737488351232) : ∀ (d i : Nat) (x0 : Int), i + d = s.size → Ev (fun k => spec_SumMore.l0 k x0 s i) (sumL x0 ((bytesOf s).drop i))
  | 0, i, x0, h => by
    refine Ev.step (f := fun k => some x0) (fun k => ?_) ((Ev.now _).eq ?_)
    · simp only [spec_SumMore.l0]; rw [if_neg (by omega)]
    · rw [List.drop_of_length_le (by rw [bytesOf_length]; omega)]; rfl
  | d + 1, i, x0, h => by
    refine Ev.step (f := fun k => spec_SumMore.l1 k (Go.bits .xor .u32 x0 (bt s i % 4294967296)) s i 0) (fun k => ?_) (spec_SumMore_l1 8 0 _ (by omega) (by omega) ?_)
    · simp only [spec_SumMore.l0]; rw [if_pos (by omega), if_pos (by omega)]
    · rw [w64 (x := (i : Int) + 1) (by omega) (by omega)]
      have := spec_SumMore_l0 s hs d (i + 1) (halves 8 (Go.bits .xor .u32 x0 (bt s i % 4294967296))) (by omega)
      rw [bytes_drop (by omega)]
      exact this
theorem spec_SumMore_ev (x : Int) (s : ByteArray) (hs : s.size ≤ 140737488351232) : Ev (fun k => spec_SumMore.f k x s) (sumL x (bytesOf s)) := by
  have := spec_SumMore_l0 s hs s.size 0 x (by omega)
  exact this
theorem spec_SumOf_ev (s : ByteArray) (hs : s.size ≤ 140737488351232) : Ev (fun k => spec_SumOf.f k s) (sumOf s) := by
  unfold spec_SumOf.f
  exact Ev.bind (spec_SumMore_ev _ s hs) (Ev.now _)
theorem spec_Frame_ev (s : ByteArray) (hs : s.size ≤ 140737488351232) : Ev (fun k => spec_Frame.f k s) (frame s) := by
  unfold spec_Frame.f frame
  refine Ev.bind0 (spec_l01In_is _ _ _) ?_
  by_cases h : 1 ≤ s.size ∧ s.size ≤ 9000
  · rw [if_pos h]
    refine Ev.pos (inR_iff.2 (by omega)) (Ev.bind (spec_l01Var_ev s.size (by omega)) (Ev.bind (spec_SumOf_ev s hs) (Ev.bind0 (spec_l02Four_is _) (Ev.is ?_))))
    have := vt_size5 s.size (by omega)
    rw [if_pos (by rw [four_size]; omega), if_pos (by rw [size_append, four_size]; omega)]
  · rw [if_neg h]
    exact Ev.neg (fun e => h (by have := inR_iff.1 e; omega)) (Ev.now _)
def entryText (i t k : Int) (d : ByteArray) : ByteArray × Bool :=
  if entryOk t k d = true ∧ 1 ≤ i ∧ i ≤ 1000000 then ((⟨#[69]⟩ : ByteArray) ++ vt i.toNat ++ vt t.toNat ++ strOfNums [k % 256] ++ d, true) else (⟨#[]⟩, false)
theorem size_e : (⟨#[69]⟩ : ByteArray).size = 1 := rfl
theorem frame_size (s : ByteArray) : (frame s).1.size ≤ 9009 := by
  unfold frame
  split
  · rename_i h
    have := vt_size5 s.size (by omega)
    simp only; rw [size_append, size_append, four_size]; omega
  · exact Nat.zero_le _
theorem vt_size10 (n : Nat) (h : n ≤ 1000000000) : (vt n).size ≤ 5 := vt_size5 n (by omega)
theorem entryText_size (i t k : Int) (d : ByteArray) : (entryText i t k d).1.size ≤ d.size + 12 := by
  unfold entryText
  split
  · rename_i h
    have h1 := vt_size5 i.toNat (by omega)
    have ht := entryOk_term h.1
    have h2 := vt_size5 t.toNat (by omega)
    simp only; rw [size_append, size_append, size_append, size_append, size_e, str_size]; simp only [List.length_cons, List.length_nil]; omega
  · exact Nat.zero_le _
def frameE (i : Int) (x : IEn) : ByteArray := (frame (entryText i x.f0 x.f1 x.f2).1).1
def framesL (i : Int) : List IEn → List Int
  | [] => []
  | x :: l => bytesOf (frameE i x) ++ framesL (i + 1) l
theorem framesL_len : ∀ (l : List IEn) (i : Int), (framesL i l).length ≤ 9009 * l.length
  | [], _ => by simp [framesL]
  | x :: l, i => by
    have := frame_size (entryText i x.f0 x.f1 x.f2).1
    have h2 := framesL_len l (i + 1)
    simp only [framesL, List.length_append, bytesOf_length, List.length_cons, frameE]; omega
def headF (c : ByteArray) (a b : Int) : ByteArray := (frame (c ++ vt a.toNat ++ vt b.toNat)).1
def journalT (q s a b : Int) (l : List IEn) : ByteArray := headF (⟨#[66]⟩ : ByteArray) a b ++ headF (⟨#[72]⟩ : ByteArray) q s ++ strOfNums (framesL (a + 1) l)
def journalText (p q s a b : Int) (l : List IEn) : ByteArray × Bool :=
  if journalOk p q s a b l = true then (if (journalT q s a b l).size ≤ 20000 then (journalT q s a b l, true) else (⟨#[]⟩, false)) else (⟨#[]⟩, false)
theorem journalOk_range {p q s a b : Int} {l : List IEn} (h : journalOk p q s a b l = true) : (0 ≤ q ∧ q ≤ 100000) ∧ (0 ≤ s ∧ s ≤ 4) ∧ (0 ≤ a ∧ a ≤ 1000000) ∧ (0 ≤ b ∧ b ≤ 100000) ∧ l.length ≤ 60 := by
  unfold journalOk logOk at h
  simp only [Bool.and_eq_true, decide_eq_true_eq] at h
  exact ⟨h.2.1, h.2.2.1, h.2.2.2.1, h.2.2.2.2.1, h.2.2.2.2.2.1.1⟩
theorem headF_size (c : ByteArray) (a b : Int) : (headF c a b).size ≤ 9009 := frame_size _
theorem journalT_size (q s a b : Int) (l : List IEn) (hl : l.length ≤ 60) : (journalT q s a b l).size ≤ 600000 ∧ (headF (⟨#[66]⟩ : ByteArray) a b ++ headF (⟨#[72]⟩ : ByteArray) q s).size ≤ 20000 ∧ (strOfNums (framesL (a + 1) l)).size ≤ 541000 := by
  have h1 := headF_size (⟨#[66]⟩ : ByteArray) a b
  have h2 := headF_size (⟨#[72]⟩ : ByteArray) q s
  have h3 := framesL_len l (a + 1)
  unfold journalT
  rw [size_append, size_append, str_size]; omega
theorem spec_l07Hard_ev {a b : Int} (ha : 0 ≤ a ∧ a ≤ 1000000000) (hb : 0 ≤ b ∧ b ≤ 1000000000) : Ev (fun k => spec_l07Hard.f k a b) (headF (⟨#[72]⟩ : ByteArray) a b) := by
  unfold spec_l07Hard.f
  have h1 := vt_size5 a.toNat (by omega)
  have h2 := vt_size5 b.toNat (by omega)
  have e1 : (⟨#[72]⟩ : ByteArray).size = 1 := rfl
  refine Ev.bind (spec_l01Var_evi a ha.1 (by omega)) (Ev.pos (by omega) (Ev.bind (spec_l01Var_evi b hb.1 (by omega)) (Ev.pos (by rw [size_append]; omega) (Ev.bind (spec_Frame_ev _ (by rw [size_append, size_append]; omega)) (Ev.now _)))))
theorem spec_EntryText_ev (i t k : Int) (d : ByteArray) (hd : d.size ≤ 17592186044416) : Ev (fun n => spec_EntryText.f n i t k d) (entryText i t k d) := by
  unfold spec_EntryText.f
  refine Ev.bind (spec_EntryOk_ev t k d hd) ?_
  by_cases h : entryOk t k d = true
  · refine Ev.pos h (Ev.bind0 (spec_l01In_is _ _ _) ?_)
    have ht := entryOk_term h
    by_cases hi : 1 ≤ i ∧ i ≤ 1000000
    · have e : (!inR i 1 1000000) = false := by rw [inR_iff.2 hi]; rfl
      rw [e]
      refine Ev.step (fun n => rfl) (Ev.bind (spec_l01Var_evi i (by omega) (by omega)) ?_)
      have h5 := vt_size5 i.toNat (by omega)
      have h6 := vt_size5 t.toNat (by omega)
      refine Ev.pos (by omega) (Ev.bind (spec_l01Var_evi t (by omega) (by omega)) (Ev.pos (by rw [size_append, size_e]; omega) (Ev.bind0 rfl (Ev.is ?_))))
      rw [if_pos (by rw [size_append, size_append, size_e, str_size]; simp; omega), if_pos (by rw [size_append, size_append, size_append, size_e, str_size]; simp; omega)]
      rw [entryText, if_pos ⟨h, hi.1, hi.2⟩]
    · have e : (!inR i 1 1000000) = true := by
        cases e : inR i 1 1000000 with
        | true => exact absurd (inR_iff.1 e) hi
        | false => rfl
      rw [e]
      refine Ev.step (fun n => rfl) ((Ev.now _).eq ?_)
      rw [entryText, if_neg (fun e => hi e.2)]
  · refine Ev.neg h (Ev.step (fun n => rfl) ((Ev.now _).eq ?_))
    rw [entryText, if_neg (fun e => h e.1)]
theorem spec_l07Frames_l0 (a b : Int) (l : List IEn) (ha : 0 ≤ a ∧ a ≤ 1000000) (hl : l.length ≤ 60) (hs : ∀ x ∈ l, x.f2.size ≤ 17592186044416) : ∀ (d i : Nat) (acc : List Int), i + d = l.length → acc.length ≤ 9009 * i →
    Ev (fun k => spec_l07Frames.l0 k acc (i : Int) a b l) (strOfNums (acc ++ framesL (a + 1 + i) (l.drop i)))
  | 0, i, acc, h, hc => by
    refine Ev.step (f := fun k => some (strOfNums acc)) (fun k => ?_) ((Ev.now _).eq ?_)
    · simp only [spec_l07Frames.l0]; rw [if_neg (by omega)]
    · rw [List.drop_of_length_le (by omega)]; simp [framesL]
  | d + 1, i, acc, h, hc => by
    have hx := hs (rd_T35 l (i : Int)) (by rw [rd_IEn (by omega)]; exact List.getElem_mem _)
    rw [rd_IEn_drop (by omega : i < l.length)]
    generalize hX : rd_T35 l (i : Int) = x at hx
    have w1 : wrap64 ((wrap64 (a + 1)) + (i : Int)) = a + 1 + i := by rw [w64 (x := a + 1) (by omega) (by omega), w64 (by omega) (by omega)]
    have w4 : wrap64 ((i : Int) + 1) = ((i + 1 : Nat) : Int) := by rw [w64 (by omega) (by omega)]; omega
    have hz := frame_size (entryText (a + 1 + i) x.f0 x.f1 x.f2).1
    have he := entryText_size (a + 1 + i) x.f0 x.f1 x.f2
    have ih := spec_l07Frames_l0 a b l ha hl hs d (i + 1) (acc ++ bytesOf (frameE (a + 1 + i) x)) (by omega) (by rw [List.length_append, bytesOf_length, frameE]; omega)
    refine Ev.step (f := fun k => (spec_EntryText.f k (a + 1 + i) x.f0 x.f1 x.f2).bind fun bt186 => (spec_Frame.f k bt186.1).bind fun bt188 => if acc.length + bt188.1.size < 140737488355328 then spec_l07Frames.l0 k (acc ++ bytesOf bt188.1) ((i + 1 : Nat) : Int) a b l else none) (fun k => ?_) (Ev.bind (spec_EntryText_ev _ _ _ _ hx) (Ev.bind (spec_Frame_ev _ (by omega)) (Ev.pos (by omega) (ih.eq ?_))))
    · simp only [spec_l07Frames.l0, hX, w1, w4]
      rw [if_pos (by omega), if_pos (by omega)]
    · simp only [framesL]
      rw [List.append_assoc, show a + 1 + ((i + 1 : Nat) : Int) = a + 1 + (i : Int) + 1 by omega]
theorem spec_l07Frames_ev (a b : Int) (l : List IEn) (ha : 0 ≤ a ∧ a ≤ 1000000) (hl : l.length ≤ 60) (hs : ∀ x ∈ l, x.f2.size ≤ 17592186044416) : Ev (fun k => spec_l07Frames.f k a b l 0) (strOfNums (framesL (a + 1) l)) := by
  have := spec_l07Frames_l0 a b l ha hl hs l.length 0 [] (by omega) (by simp)
  unfold spec_l07Frames.f
  simpa using this
theorem spec_JournalText_ev (p q s a b : Int) (l : List IEn) (hl : l.length ≤ 1048577) (hs : ∀ x ∈ l, x.f2.size ≤ 17592186044416) : Ev (fun k => spec_JournalText.f k p q s a b l) (journalText p q s a b l) := by
  unfold spec_JournalText.f journalText
  refine Ev.bind (spec_JournalOk_ev p q s a b l hl hs) ?_
  by_cases h : journalOk p q s a b l = true
  · rw [if_pos h]
    obtain ⟨hq, hss, ha, hb, h60⟩ := journalOk_range h
    have z := journalT_size q s a b l h60
    have h1 := vt_size5 a.toNat (by omega)
    have h2 := vt_size5 b.toNat (by omega)
    have e1 : (⟨#[66]⟩ : ByteArray).size = 1 := rfl
    have hf : Ev (fun k => spec_Frame.f k (((⟨#[66]⟩ : ByteArray) ++ vt a.toNat) ++ vt b.toNat)) (frame (((⟨#[66]⟩ : ByteArray) ++ vt a.toNat) ++ vt b.toNat)) := spec_Frame_ev _ (by rw [size_append, size_append]; omega)
    have y1 := headF_size (⟨#[66]⟩ : ByteArray) a b
    have y2 := headF_size (⟨#[72]⟩ : ByteArray) q s
    refine Ev.pos h (Ev.bind (spec_l01Var_evi a ha.1 (by omega)) (Ev.pos (by omega) (Ev.bind (spec_l01Var_evi b hb.1 (by omega)) (Ev.pos (by rw [size_append]; omega) (Ev.bind hf (Ev.bind (spec_l07Hard_ev (by omega) (by omega)) (Ev.pos (by unfold headF at y1; omega) (Ev.bind (spec_l07Frames_ev a b l ha h60 hs) (Ev.pos ?_ ?_)))))))))
    · have := z.2.1; have := z.2.2; unfold headF at *; omega
    · by_cases h3 : (journalT q s a b l).size ≤ 20000
      · rw [if_pos h3]; exact Ev.neg (by show ¬ ((20000 : Int) < ((journalT q s a b l).size : Int)); omega) (Ev.now _)
      · rw [if_neg h3]; exact Ev.pos (by show (20000 : Int) < ((journalT q s a b l).size : Int); omega) (Ev.now _)
  · rw [if_neg h]; exact Ev.neg h (Ev.now _)
theorem laws_toEntry_is (a b : Int) (c : ByteArray) : laws_toEntry.f a b c = some (a, b, c) := rfl
theorem laws_toEntryS_l0 (l : List LEn) (hl : l.length ≤ 1048576) : ∀ (d i : Nat), i + d = l.length →
    Ev (fun k => laws_toEntryS.l0 k l ((l.map toEn).take i ++ List.replicate (l.length - i) z35) (i : Int)) (l.map toEn)
  | 0, i, h => by
    refine Ev.step (f := fun k => some ((l.map toEn).take i ++ List.replicate (l.length - i) z35)) (fun k => ?_) ((Ev.now _).eq ?_)
    · simp only [laws_toEntryS.l0]; rw [if_neg (by omega)]
    · obtain rfl : i = l.length := by omega
      rw [List.take_of_length_le (by simp)]; simp
  | d + 1, i, h => by
    have hi : i < l.length := by omega
    refine Ev.step (f := fun k => laws_toEntryS.l0 k l ((l.map toEn).take (i + 1) ++ List.replicate (l.length - (i + 1)) z35) ((i + 1 : Nat) : Int)) (fun k => ?_) (laws_toEntryS_l0 l hl d (i + 1) (by omega))
    simp only [laws_toEntryS.l0]
    rw [if_pos (by omega), if_pos (by omega), rd_LEn hi, laws_toEntry_is, Option.bind_some, if_pos (by simp [List.length_take]; omega), w64 (x := (i : Int) + 1) (by omega) (by omega)]
    rw [Int.toNat_natCast]
    have e := fill_step (l.map toEn) z35 i l.length (by simpa using hi) (by simp)
    rw [← e, List.getElem_map]; rfl
theorem laws_toEntryS_ev (l : List LEn) (hl : l.length ≤ 1048576) : Ev (fun k => laws_toEntryS.f k l) (l.map toEn) := by
  unfold laws_toEntryS.f
  refine Ev.pos (by omega) (Ev.pos (by omega) ?_)
  have := laws_toEntryS_l0 l hl l.length 0 (by omega)
  simpa using this
theorem laws_toLog_ev (a b : Int) (l : List LEn) (hl : l.length ≤ 1048576) : Ev (fun k => laws_toLog.f k a b l) (a, b, l.map toEn) := by
  unfold laws_toLog.f
  exact Ev.bind (laws_toEntryS_ev l hl) (Ev.now _)
theorem laws_toJournal_ev (p q s a b : Int) (l : List LEn) (hl : l.length ≤ 1048576) : Ev (fun k => laws_toJournal.f k p q s a b l) (p, q, s, a, b, l.map toEn) := by
  unfold laws_toJournal.f
  exact Ev.bind (laws_toLog_ev a b l hl) (Ev.now _)
theorem impl_within_is (a b c : Int) : impl_within.f a b c = some (inR a b c) := by
  unfold impl_within.f inR
  by_cases h : a ≥ b
  · rw [if_pos h]; congr 1; simp; omega
  · rw [if_neg h]; congr 1; simp; omega
theorem impl_ConfOk_l0 (l : List Int) (hl : l.length ≤ 35184372088832) : ∀ (d i : Nat) (p : Int), i + d = l.length → (i = 0 → p = 0) → (0 < i → p = rd l ((i - 1 : Nat) : Int)) →
    Ev (fun k => impl_ConfOk.l0 k l l (l.length : Int) (i : Int)) (decide (1 ≤ l.length ∧ l.length ≤ 4) && riseF p (l.drop i))
  | 0, i, p, h, h0, h1 => by
    refine Ev.step (f := fun k => some (decide (1 ≤ l.length ∧ l.length ≤ 4))) (fun k => ?_) ((Ev.now _).eq ?_)
    · simp only [impl_ConfOk.l0]; rw [if_neg (by omega), impl_within_is, Option.bind_some]
      congr 1
      unfold inR
      congr 1
      simp only [eq_iff_iff]
      omega
    · rw [List.drop_of_length_le (by omega)]; simp [riseF]
  | d + 1, i, p, h, h0, h1 => by
    rw [rd_drop (l := l) (by omega)]
    have ih := impl_ConfOk_l0 l hl d (i + 1) (rd l (i : Int)) (by omega) (by omega) (fun _ => by simp)
    by_cases hin : 1 ≤ rd l (i : Int) ∧ rd l (i : Int) ≤ 4
    · by_cases hi : 0 < i
      · have hp := h1 hi
        have ei : wrap64 ((i : Int) - 1) = ((i - 1 : Nat) : Int) := by rw [w64 (by omega) (by omega)]; omega
        by_cases hlt : p < rd l (i : Int)
        · refine Ev.step (f := fun k => impl_ConfOk.l0 k l l (l.length : Int) ((i + 1 : Nat) : Int)) (fun k => ?_) (ih.eq ?_)
          · simp only [impl_ConfOk.l0]
            rw [if_pos (by omega), if_pos (by omega), if_pos (by omega), impl_within_is, Option.bind_some, if_pos (inR_iff.2 hin), if_pos (by omega), ei, if_pos (by omega), if_pos (by omega), if_neg (by omega)]
            rw [w64 (x := (i : Int) + 1) (by omega) (by omega)]; rfl
          · simp only [riseF]; rw [decide_eq_true (p := _ ∧ _ ∧ _) ⟨hin.1, hin.2, hlt⟩, Bool.true_and]
        · refine Ev.step (f := fun k => some false) (fun k => ?_) ((Ev.now _).eq ?_)
          · simp only [impl_ConfOk.l0]
            rw [if_pos (by omega), if_pos (by omega), if_pos (by omega), impl_within_is, Option.bind_some, if_pos (inR_iff.2 hin), if_pos (by omega), ei, if_pos (by omega), if_pos (by omega), if_pos (by omega)]
          · simp only [riseF]; rw [decide_eq_false (p := _ ∧ _ ∧ _) (fun e => hlt e.2.2), Bool.false_and, Bool.and_false]
      · have hp := h0 (by omega)
        refine Ev.step (f := fun k => impl_ConfOk.l0 k l l (l.length : Int) ((i + 1 : Nat) : Int)) (fun k => ?_) (ih.eq ?_)
        · simp only [impl_ConfOk.l0]
          rw [if_pos (by omega), if_pos (by omega), if_pos (by omega), impl_within_is, Option.bind_some, if_pos (inR_iff.2 hin), if_neg (by omega)]
          rw [w64 (x := (i : Int) + 1) (by omega) (by omega)]; rfl
        · simp only [riseF]; rw [decide_eq_true (p := _ ∧ _ ∧ _) ⟨hin.1, hin.2, by omega⟩, Bool.true_and]
    · refine Ev.step (f := fun k => some false) (fun k => ?_) ((Ev.now _).eq ?_)
      · simp only [impl_ConfOk.l0]
        rw [if_pos (by omega), if_pos (by omega), if_pos (by omega), impl_within_is, Option.bind_some, if_neg (fun e => hin (inR_iff.1 e))]
      · simp only [riseF]; rw [decide_eq_false (p := _ ∧ _ ∧ _) (fun e => hin ⟨e.1, e.2.1⟩), Bool.false_and, Bool.and_false]
theorem impl_ConfOk_ev (l : List Int) (hl : l.length ≤ 35184372088832) : Ev (fun k => impl_ConfOk.f k l) (confOk l) := by
  have := impl_ConfOk_l0 l hl l.length 0 0 (by omega) (fun _ => rfl) (fun h => absurd h (by omega))
  exact this
theorem impl_ReadConf_l0 (s : ByteArray) (hs : s.size ≤ 17592186044416) : ∀ (d i : Nat), i + d = s.size →
    Ev (fun k => impl_ReadConf.l0 k s ((bytesOf s).take i) (i : Int)) (readConf s)
  | 0, i, h => by
    have e : (bytesOf s).take i = bytesOf s := List.take_of_length_le (by rw [bytesOf_length]; omega)
    rw [e]
    refine Ev.step (f := fun k => (impl_ConfOk.f k (bytesOf s)).bind fun t => if t = true then some (bytesOf s, true) else some ([], false)) (fun k => ?_) (Ev.bind (impl_ConfOk_ev _ (by rw [bytesOf_length]; omega)) (Ev.is ?_))
    · simp only [impl_ReadConf.l0]; rw [if_neg (by omega)]
    · unfold readConf
      by_cases h : confOk (bytesOf s) = true
      · rw [if_pos h, if_pos h]
      · rw [if_neg h, if_neg h]
  | d + 1, i, h => by
    have hr := bt_range s (i : Int)
    have hl : ((bytesOf s).take i).length = i := by rw [List.length_take, bytesOf_length]; omega
    refine Ev.step (f := fun k => impl_ReadConf.l0 k s ((bytesOf s).take (i + 1)) ((i + 1 : Nat) : Int)) (fun k => ?_) (impl_ReadConf_l0 s hs d (i + 1) (by omega))
    simp only [impl_ReadConf.l0]
    rw [if_pos (by omega), if_pos (by omega), if_pos (by omega), w64 (x := (i : Int) + 1) (by omega) (by omega), w64 (x := bt s i) (by omega) (by omega)]
    have e := Led.take_succ (s := s) (a := 0) (i := i) (by omega)
    rw [List.drop_zero, Nat.zero_add] at e
    rw [e]; rfl
theorem impl_ReadConf_ev (s : ByteArray) (hs : s.size ≤ 17592186044416) : Ev (fun k => impl_ReadConf.f k s) (readConf s) := by
  have := impl_ReadConf_l0 s hs s.size 0 (by omega)
  rw [List.take_zero] at this
  exact this
theorem impl_EntryOk_ev (a b : Int) (c : ByteArray) (hc : c.size ≤ 17592186044416) : Ev (fun k => impl_EntryOk.f k a b c) (entryOk a b c) := by
  unfold impl_EntryOk.f entryOk
  refine Ev.bind0 (impl_within_is _ _ _) ?_
  by_cases h : 0 ≤ a ∧ a ≤ 100000
  · refine Ev.pos (inR_iff.2 h) ?_
    rw [decide_eq_true h, Bool.true_and]
    by_cases h1 : b = 1
    · refine Ev.pos h1 (Ev.is ?_); rw [if_pos h1]
    · refine Ev.neg h1 ?_
      rw [if_neg h1]
      by_cases h2 : b = 2
      · refine Ev.pos h2 (Ev.bind (impl_ReadConf_ev c (by omega)) (Ev.is ?_)); rw [if_pos h2]
      · refine Ev.neg h2 ?_
        rw [if_neg h2]
        by_cases h3 : b = 3
        · refine Ev.pos h3 (Ev.is ?_); rw [if_pos h3]
        · refine Ev.neg h3 (Ev.is ?_); rw [if_neg h3]
  · refine Ev.neg (fun e => h (inR_iff.1 e)) (Ev.is ?_)
    rw [decide_eq_false h, Bool.false_and]
theorem impl_LogOk_l0 (l : List IEn) (hl : l.length ≤ 1048577) (hs : ∀ x ∈ l, x.f2.size ≤ 17592186044416) : ∀ (d i : Nat) (t : Int), i + d = l.length →
    Ev (fun k => impl_LogOk.l0 k t l (l.length : Int) (i : Int)) (entriesOk t (l.drop i))
  | 0, i, t, h => by
    refine Ev.step (f := fun k => some true) (fun k => ?_) ((Ev.now _).eq ?_)
    · simp only [impl_LogOk.l0]; rw [if_neg (by omega)]
    · rw [List.drop_of_length_le (by omega)]; rfl
  | d + 1, i, t, h => by
    have hx := hs (rd_T35 l (i : Int)) (by rw [rd_IEn (by omega)]; exact List.getElem_mem _)
    rw [rd_IEn_drop (l := l) (i := i) (by omega)]
    have ih := impl_LogOk_l0 l hl hs d (i + 1) (rd_T35 l (i : Int)).f0 (by omega)
    refine Ev.step (f := fun k => (impl_EntryOk.f k (rd_T35 l (i : Int)).f0 (rd_T35 l (i : Int)).f1 (rd_T35 l (i : Int)).f2).bind fun t142 => (if t142 = true then (if (rd_T35 l (i : Int)).f0 < t then some false else impl_LogOk.l0 k (rd_T35 l (i : Int)).f0 l (l.length : Int) ((i + 1 : Nat) : Int)) else some false)) (fun k => ?_) (Ev.bind (impl_EntryOk_ev _ _ _ hx) ?_)
    · simp only [impl_LogOk.l0]
      rw [if_pos (by omega), if_pos (by omega), if_pos (by omega), w64 (x := (i : Int) + 1) (by omega) (by omega)]; rfl
    · generalize rd_T35 l (i : Int) = x at *
      simp only [entriesOk]
      by_cases h1 : entryOk x.f0 x.f1 x.f2 = true
      · refine Ev.pos h1 ?_
        by_cases h2 : x.f0 < t
        · refine Ev.pos h2 ((Ev.now _).eq ?_)
          rw [decide_eq_false (p := t ≤ x.f0) (by omega)]; simp
        · refine Ev.neg h2 (ih.eq ?_)
          rw [h1, decide_eq_true (p := t ≤ x.f0) (by omega)]; simp
      · refine Ev.neg h1 ((Ev.now _).eq ?_)
        rw [Bool.not_eq_true _ |>.mp h1]; simp
theorem impl_LogOk_ev (a b : Int) (l : List IEn) (hl : l.length ≤ 1048577) (hs : ∀ x ∈ l, x.f2.size ≤ 17592186044416) : Ev (fun k => impl_LogOk.f k a b l) (logOk a b l) := by
  have no : ∀ x, logOk a b l = false → x = true → Ev (fun k => impl_LogOk.j0 k x a b l) (logOk a b l) := by
    intro x h hx
    rw [h, hx]
    exact Ev.step (fun k => rfl) (Ev.now _)
  have nf : ¬ logOk a b l = true → logOk a b l = false := fun h => Bool.not_eq_true _ |>.mp h
  unfold impl_LogOk.f
  refine Ev.bind0 (impl_within_is _ _ _) ?_
  by_cases h1 : 0 ≤ a ∧ a ≤ 1000000
  · refine Ev.pos (inR_iff.2 h1) (Ev.bind0 (impl_within_is _ _ _) ?_)
    by_cases h2 : 0 ≤ b ∧ b ≤ 100000
    · refine Ev.pos (inR_iff.2 h2) ?_
      by_cases h3 : l.length ≤ 60
      · refine Ev.neg (by omega) ?_
        rw [w64 (x := a + (l.length : Int)) (by omega) (by omega)]
        by_cases h4 : a + (l.length : Int) ≤ 1000000
        · rw [decide_eq_false (p := a + (l.length : Int) > 1000000) (by omega)]
          refine Ev.step (fun k => rfl) ?_
          refine (impl_LogOk_l0 l hl hs l.length 0 b (by omega)).eq ?_
          unfold logOk
          rw [decide_eq_true h1, decide_eq_true h2, decide_eq_true (p := l.length ≤ 60 ∧ a + (l.length : Int) ≤ 1000000) ⟨h3, h4⟩]; simp
        · exact no _ (nf fun e => h4 (logOk_iff.1 e).2.2.1.2) (decide_eq_true (by omega))
      · exact Ev.pos (by omega) (no _ (nf fun e => h3 (logOk_iff.1 e).2.2.1.1) rfl)
    · exact Ev.neg (fun e => h2 (inR_iff.1 e)) (no _ (nf fun e => h2 (logOk_iff.1 e).2.1) rfl)
  · exact Ev.neg (fun e => h1 (inR_iff.1 e)) (no _ (nf fun e => h1 (logOk_iff.1 e).1) rfl)
theorem impl_JournalOk_ev (p q s a b : Int) (l : List IEn) (hl : l.length ≤ 1048577) (hs : ∀ x ∈ l, x.f2.size ≤ 17592186044416) : Ev (fun k => impl_JournalOk.f k p q s a b l) (journalOk p q s a b l) := by
  unfold impl_JournalOk.f journalOk
  refine Ev.bind0 (impl_within_is _ _ _) ?_
  by_cases h1 : 0 ≤ p ∧ p ≤ 999
  · rw [decide_eq_true h1, Bool.true_and]
    refine Ev.pos (inR_iff.2 h1) (Ev.bind0 (impl_within_is _ _ _) ?_)
    by_cases h2 : 0 ≤ q ∧ q ≤ 100000
    · rw [decide_eq_true h2, Bool.true_and]
      refine Ev.pos (inR_iff.2 h2) (Ev.bind0 (impl_within_is _ _ _) ?_)
      by_cases h3 : 0 ≤ s ∧ s ≤ 4
      · rw [decide_eq_true h3, Bool.true_and]
        exact Ev.pos (inR_iff.2 h3) (Ev.bind (impl_LogOk_ev a b l hl hs) (Ev.now _))
      · rw [decide_eq_false h3, Bool.false_and]; exact Ev.neg (fun e => h3 (inR_iff.1 e)) (Ev.now _)
    · rw [decide_eq_false h2, Bool.false_and]; exact Ev.neg (fun e => h2 (inR_iff.1 e)) (Ev.now _)
  · rw [decide_eq_false h1, Bool.false_and]; exact Ev.neg (fun e => h1 (inR_iff.1 e)) (Ev.now _)
theorem impl_SumMore_l1 {s : ByteArray} {i r : Int} : ∀ (d : Nat) (j x0 : Int), 0 ≤ j → j + d = 8 → Ev (fun k => impl_SumMore.l0 k (halves d x0) s (wrap64 (i + 1))) r → Ev (fun k => impl_SumMore.l1 k x0 s i j) r
  | 0, j, x0, h0, h, hk => by
    refine Ev.step (f := fun k => impl_SumMore.l0 k x0 s (wrap64 (i + 1))) (fun k => ?_) hk
    simp only [impl_SumMore.l1]; rw [if_neg (by omega)]
  | d + 1, j, x0, h0, h, hk => by
    refine Ev.step (f := fun k => impl_SumMore.l1 k (half x0) s i (j + 1)) (fun k => ?_) (impl_SumMore_l1 d (j + 1) (half x0) (by omega) (by omega) hk)
    simp only [impl_SumMore.l1]; rw [if_pos (by omega), w64 (x := j + 1) (by omega) (by omega)]
    unfold half
    split <;> rfl
theorem impl_SumMore_l0 (s : ByteArray) (hs : s.size ≤ 140737488351232) : ∀ (d i : Nat) (x0 : Int), i + d = s.size → Ev (fun k => impl_SumMore.l0 k x0 s i) (sumL x0 ((bytesOf s).drop i))
  | 0, i, x0, h => by
    refine Ev.step (f := fun k => some x0) (fun k => ?_) ((Ev.now _).eq ?_)
    · simp only [impl_SumMore.l0]; rw [if_neg (by omega)]
    · rw [List.drop_of_length_le (by rw [bytesOf_length]; omega)]; rfl
  | d + 1, i, x0, h => by
    refine Ev.step (f := fun k => impl_SumMore.l1 k (Go.bits .xor .u32 x0 (bt s i % 4294967296)) s i 0) (fun k => ?_) (impl_SumMore_l1 8 0 _ (by omega) (by omega) ?_)
    · simp only [impl_SumMore.l0]; rw [if_pos (by omega), if_pos (by omega)]
    · rw [w64 (x := (i : Int) + 1) (by omega) (by omega)]
      have := impl_SumMore_l0 s hs d (i + 1) (halves 8 (Go.bits .xor .u32 x0 (bt s i % 4294967296))) (by omega)
      rw [bytes_drop (by omega)]
      exact this
theorem impl_SumMore_ev (x : Int) (s : ByteArray) (hs : s.size ≤ 140737488351232) : Ev (fun k => impl_SumMore.f k x s) (sumL x (bytesOf s)) := by
  have := impl_SumMore_l0 s hs s.size 0 x (by omega)
  exact this
theorem impl_SumOf_ev (s : ByteArray) (hs : s.size ≤ 140737488351232) : Ev (fun k => impl_SumOf.f k s) (sumOf s) := by
  unfold impl_SumOf.f
  exact Ev.bind (impl_SumMore_ev _ s hs) (Ev.now _)
theorem impl_VarText_l0 : ∀ (n : Nat) (acc : List Int), acc.length + n < 140737488355328 → Ev (fun k => impl_VarText.l0 k (n : Int) acc) (strOfNums (acc ++ varL n), true) := by
  intro n
  induction n using Nat.strongRecOn with
  | _ n ih =>
    intro acc ha
    by_cases h : 127 < n
    · refine Ev.step (f := fun k => impl_VarText.l0 k ((n / 128 : Nat) : Int) (acc ++ [((n % 128 + 128 : Nat) : Int)])) (fun k => ?_) ?_
      · simp only [impl_VarText.l0]
        rw [if_pos (by omega), if_pos (by omega), td (by omega), tm (by omega)]
        rw [w64 (x := (n : Int) / 128) (by omega) (by omega), w64 (x := (n : Int) % 128 + 128) (by omega) (by omega)]
        congr 3
        omega
      · refine (ih (n / 128) (by omega) _ (by simp; omega)).eq ?_
        rw [varL_big h, List.append_assoc]; rfl
    · refine Ev.step (f := fun k => some (strOfNums (acc ++ varL n), true)) (fun k => ?_) (Ev.now _)
      simp only [impl_VarText.l0]
      rw [if_neg (by omega), if_pos (by omega), varL_small h]
      congr 5
      omega
theorem impl_VarText_ev (n : Int) : Ev (fun k => impl_VarText.f k n) (varText n) := by
  unfold impl_VarText.f
  refine Ev.bind0 (impl_within_is _ _ _) ?_
  by_cases h : 0 ≤ n ∧ n ≤ 1000000000
  · refine Ev.pos (inR_iff.2 h) ?_
    have := impl_VarText_l0 n.toNat [] (by simp; omega)
    rw [Int.toNat_of_nonneg h.1] at this
    refine this.eq ?_
    rw [varText, if_pos h]; rfl
  · refine Ev.neg (fun e => h (inR_iff.1 e)) (Ev.is ?_)
    rw [varText, if_neg h]
theorem impl_Frame_ev (s : ByteArray) (hs : s.size ≤ 140737488351232) : Ev (fun k => impl_Frame.f k s) (frame s) := by
  unfold impl_Frame.f frame
  refine Ev.bind0 (impl_within_is _ _ _) ?_
  by_cases h : 1 ≤ s.size ∧ s.size ≤ 9000
  · rw [if_pos h]
    refine Ev.pos (inR_iff.2 (by omega)) (Ev.bind (impl_VarText_ev (s.size : Int)) (Ev.bind (impl_SumOf_ev s hs) (Ev.bind0 (a := fourL (sumOf s)) rfl (Ev.is ?_))))
    have := vt_size5 s.size (by omega)
    rw [varText_ok (by omega) (by omega), Int.toNat_natCast]
    simp only
    show (if (vt s.size).size + (four (sumOf s)).size ≤ _ then (if (vt s.size ++ four (sumOf s)).size + s.size ≤ _ then some (vt s.size ++ four (sumOf s) ++ s, true) else none) else none) = _
    rw [if_pos (by rw [four_size]; omega), if_pos (by rw [size_append, four_size]; omega)]
  · rw [if_neg h]
    exact Ev.neg (fun e => h (by have := inR_iff.1 e; omega)) (Ev.now _)
theorem impl_vars_l0 (l : List Int) (hl : l.length ≤ 1048576) : ∀ (d i : Nat) (acc : List Int), i + d = l.length → acc.length ≤ 5 * i →
    Ev (fun k => impl_vars.l0 k acc l (l.length : Int) (i : Int)) (match varsL (l.drop i) with | some m => (strOfNums (acc ++ m), true) | none => (⟨#[]⟩, false))
  | 0, i, acc, h, ha => by
    refine Ev.step (f := fun k => some (strOfNums acc, true)) (fun k => ?_) ((Ev.now _).eq ?_)
    · simp only [impl_vars.l0]; rw [if_neg (by omega)]
    · rw [List.drop_of_length_le (by omega)]; simp [varsL]
  | d + 1, i, acc, h, ha => by
    rw [rd_drop (l := l) (i := i) (by omega)]
    generalize hx : rd l (i : Int) = x
    refine Ev.step (f := fun k => (impl_VarText.f k x).bind fun bt => (if bt.2 = true then (if acc.length + bt.1.size < 140737488355328 then (impl_vars.l0 k (acc ++ bytesOf bt.1) l (l.length : Int) ((i + 1 : Nat) : Int)) else none) else some (⟨#[]⟩, false))) (fun k => ?_) (Ev.bind (impl_VarText_ev x) ?_)
    · simp only [impl_vars.l0]
      rw [if_pos (by omega), if_pos (by omega), if_pos (by omega), hx, w64 (x := (i : Int) + 1) (by omega) (by omega)]; rfl
    · by_cases hr : 0 ≤ x ∧ x ≤ 1000000000
      · have h5 := vt_size5 x.toNat (by omega)
        have hv : (varL x.toNat).length ≤ 5 := by rw [← vt_size]; exact h5
        rw [varText_ok hr.1 hr.2]
        refine Ev.pos rfl (Ev.pos (by show acc.length + (vt x.toNat).size < _; omega) ((impl_vars_l0 l hl d (i + 1) (acc ++ bytesOf (vt x.toNat)) (by omega) (by rw [List.length_append, bytes_vt]; omega)).eq ?_))
        simp only [varsL, if_pos hr]
        cases varsL (l.drop (i + 1)) with
        | none => rfl
        | some m => simp [bytes_vt]
      · rw [varText_no hr]
        refine Ev.neg (by simp) ((Ev.now _).eq ?_)
        simp only [varsL, if_neg hr]
theorem impl_vars_two {a b : Int} (ha : 0 ≤ a ∧ a ≤ 1000000000) (hb : 0 ≤ b ∧ b ≤ 1000000000) : Ev (fun k => impl_vars.f k ([a, b] : List Int)) (vt a.toNat ++ vt b.toNat, true) := by
  have := impl_vars_l0 [a, b] (by simp) 2 0 [] (by simp) (by simp)
  rw [List.drop_zero, varsL_two ha hb] at this
  simp only [List.nil_append, str_append] at this
  exact this
theorem impl_headFrame_ev (c : ByteArray) (hc : c.size = 1) {a b : Int} (ha : 0 ≤ a ∧ a ≤ 1000000000) (hb : 0 ≤ b ∧ b ≤ 1000000000) : Ev (fun k => impl_headFrame.f k c a b) (headF c a b) := by
  unfold impl_headFrame.f headF
  have h1 := vt_size5 a.toNat (by omega)
  have h2 := vt_size5 b.toNat (by omega)
  have e : c ++ vt a.toNat ++ vt b.toNat = c ++ (vt a.toNat ++ vt b.toNat) := M.append_assoc _ _ _
  rw [e]
  refine Ev.bind (impl_vars_two ha hb) (Ev.pos (by simp only [size_append]; omega) (Ev.bind (impl_Frame_ev _ (by rw [size_append, size_append]; omega)) (Ev.now _)))
theorem impl_EntryText_ev (i t k : Int) (d : ByteArray) (hd : d.size ≤ 17592186044416) : Ev (fun n => impl_EntryText.f n i t k d) (entryText i t k d) := by
  unfold impl_EntryText.f
  refine Ev.bind (impl_EntryOk_ev t k d hd) ?_
  by_cases h : entryOk t k d = true
  · refine Ev.pos h (Ev.bind0 (impl_within_is _ _ _) ?_)
    have ht := entryOk_term h
    by_cases hi : 1 ≤ i ∧ i ≤ 1000000
    · have h5 := vt_size5 i.toNat (by omega)
      have h6 := vt_size5 t.toNat (by omega)
      refine Ev.pos (inR_iff.2 hi) (Ev.bind (impl_vars_two (by omega) (by omega)) (Ev.pos (by simp only [size_append]; omega) (Ev.bind0 rfl (Ev.is ?_))))
      simp only
      rw [if_pos (by rw [size_append, size_append, size_e, str_size]; simp; omega), if_pos (by rw [size_append, size_append, size_append, size_e, str_size]; simp; omega)]
      rw [entryText, if_pos ⟨h, hi.1, hi.2⟩, append_assoc _ (vt i.toNat) (vt t.toNat)]
    · refine Ev.neg (fun e => hi (inR_iff.1 e)) (Ev.is ?_)
      rw [entryText, if_neg (fun e => hi e.2)]
  · refine Ev.neg h (Ev.is ?_)
    rw [entryText, if_neg (fun e => h e.1)]
theorem impl_entryFrames_l0 (a b : Int) (l : List IEn) (ha : 0 ≤ a ∧ a ≤ 1000000) (hl : l.length ≤ 60) (hs : ∀ x ∈ l, x.f2.size ≤ 17592186044416) : ∀ (d i : Nat) (acc : List Int), i + d = l.length → acc.length ≤ 9009 * i →
    Ev (fun k => impl_entryFrames.l0 k acc (i : Int) a b l) (strOfNums (acc ++ framesL (a + 1 + i) (l.drop i)))
  | 0, i, acc, h, hc => by
    refine Ev.step (f := fun k => some (strOfNums acc)) (fun k => ?_) ((Ev.now _).eq ?_)
    · simp only [impl_entryFrames.l0]; rw [if_neg (by omega)]
    · rw [List.drop_of_length_le (by omega)]; simp [framesL]
  | d + 1, i, acc, h, hc => by
    have hx := hs (rd_T35 l (i : Int)) (by rw [rd_IEn (by omega)]; exact List.getElem_mem _)
    rw [rd_IEn_drop (by omega : i < l.length)]
    generalize hX : rd_T35 l (i : Int) = x at hx
    have w1 : wrap64 ((wrap64 (a + (i : Int))) + 1) = a + 1 + i := by rw [w64 (x := a + (i : Int)) (by omega) (by omega), w64 (by omega) (by omega)]; omega
    have w4 : wrap64 ((i : Int) + 1) = ((i + 1 : Nat) : Int) := by rw [w64 (by omega) (by omega)]; omega
    have hz := frame_size (entryText (a + 1 + i) x.f0 x.f1 x.f2).1
    have he := entryText_size (a + 1 + i) x.f0 x.f1 x.f2
    have ih := impl_entryFrames_l0 a b l ha hl hs d (i + 1) (acc ++ bytesOf (frameE (a + 1 + i) x)) (by omega) (by rw [List.length_append, bytesOf_length, frameE]; omega)
    refine Ev.step (f := fun k => (impl_EntryText.f k (a + 1 + i) x.f0 x.f1 x.f2).bind fun bt186 => (impl_Frame.f k bt186.1).bind fun bt188 => if acc.length + bt188.1.size < 140737488355328 then impl_entryFrames.l0 k (acc ++ bytesOf bt188.1) ((i + 1 : Nat) : Int) a b l else none) (fun k => ?_) (Ev.bind (impl_EntryText_ev _ _ _ _ hx) (Ev.bind (impl_Frame_ev _ (by omega)) (Ev.pos (by omega) (ih.eq ?_))))
    · simp only [impl_entryFrames.l0, hX, w1, w4]
      rw [if_pos (by omega), if_pos (by omega)]
    · simp only [framesL]
      rw [List.append_assoc, show a + 1 + ((i + 1 : Nat) : Int) = a + 1 + (i : Int) + 1 by omega]
theorem impl_entryFrames_ev (a b : Int) (l : List IEn) (ha : 0 ≤ a ∧ a ≤ 1000000) (hl : l.length ≤ 60) (hs : ∀ x ∈ l, x.f2.size ≤ 17592186044416) : Ev (fun k => impl_entryFrames.f k a b l 0) (strOfNums (framesL (a + 1) l)) := by
  have := impl_entryFrames_l0 a b l ha hl hs l.length 0 [] (by omega) (by simp)
  unfold impl_entryFrames.f
  simpa using this
theorem impl_JournalText_ev (p q s a b : Int) (l : List IEn) (hl : l.length ≤ 1048577) (hs : ∀ x ∈ l, x.f2.size ≤ 17592186044416) : Ev (fun k => impl_JournalText.f k p q s a b l) (journalText p q s a b l) := by
  unfold impl_JournalText.f journalText
  refine Ev.bind (impl_JournalOk_ev p q s a b l hl hs) ?_
  by_cases h : journalOk p q s a b l = true
  · rw [if_pos h]
    obtain ⟨hq, hss, ha, hb, h60⟩ := journalOk_range h
    have z := journalT_size q s a b l h60
    have y1 := headF_size (⟨#[66]⟩ : ByteArray) a b
    have y2 := headF_size (⟨#[72]⟩ : ByteArray) q s
    refine Ev.pos h (Ev.bind (impl_headFrame_ev _ rfl (by omega) (by omega)) (Ev.bind (impl_headFrame_ev _ rfl (by omega) (by omega)) (Ev.pos (by omega) (Ev.bind (impl_entryFrames_ev a b l ha h60 hs) (Ev.pos (by omega) ?_)))))
    by_cases h3 : (journalT q s a b l).size ≤ 20000
    · rw [if_pos h3]; exact Ev.neg (by unfold journalT at h3; omega) (Ev.now _)
    · rw [if_neg h3]; exact Ev.pos (by unfold journalT at h3; omega) (Ev.now _)
  · rw [if_neg h]; exact Ev.neg h (Ev.now _)
theorem laws_eqEntry_is (a b : Int) (c : ByteArray) : laws_eqEntry.f a b c a b c = some true := by
  unfold laws_eqEntry.f; simp
theorem laws_eqEntryS_l0 (l : List IEn) (hl : l.length ≤ 1048577) : ∀ (d i : Nat), i + d = l.length → Ev (fun k => laws_eqEntryS.l0 k l l (i : Int)) true
  | 0, i, h => by
    refine Ev.step (f := fun k => some true) (fun k => ?_) (Ev.now _)
    simp only [laws_eqEntryS.l0]; rw [if_neg (by omega)]
  | d + 1, i, h => by
    refine Ev.step (f := fun k => laws_eqEntryS.l0 k l l ((i + 1 : Nat) : Int)) (fun k => ?_) (laws_eqEntryS_l0 l hl d (i + 1) (by omega))
    simp only [laws_eqEntryS.l0]
    rw [if_pos (by omega), if_pos (by omega), if_pos (by omega), laws_eqEntry_is, Option.bind_some, if_pos rfl, w64 (x := (i : Int) + 1) (by omega) (by omega)]; rfl
theorem laws_eqEntryS_ev (l : List IEn) (hl : l.length ≤ 1048577) : Ev (fun k => laws_eqEntryS.f k l l) true := by
  unfold laws_eqEntryS.f
  exact Ev.pos rfl (laws_eqEntryS_l0 l hl l.length 0 (by omega))
theorem laws_eqLog_ev (a b : Int) (l : List IEn) (hl : l.length ≤ 1048577) : Ev (fun k => laws_eqLog.f k a b l a b l) true := by
  unfold laws_eqLog.f
  exact Ev.pos rfl (Ev.pos rfl (Ev.bind (laws_eqEntryS_ev l hl) (Ev.pos rfl (Ev.now _))))
theorem laws_eqJournal_ev (p q s a b : Int) (l : List IEn) (hl : l.length ≤ 1048577) : Ev (fun k => laws_eqJournal.f k p q s a b l p q s a b l) true := by
  unfold laws_eqJournal.f
  exact Ev.pos rfl (Ev.pos rfl (Ev.pos rfl (Ev.bind (laws_eqLog_ev a b l hl) (Ev.pos rfl (Ev.now _)))))
theorem toEn_small {l : List LEn} {n : Nat} (h : ∀ x ∈ l, (x.f2.size : Int) ≤ n) : ∀ x ∈ l.map toEn, x.f2.size ≤ n := by
  intro x hx
  obtain ⟨y, hy, rfl⟩ := List.mem_map.1 hx
  have := h y hy
  simp only [toEn]; omega
theorem FnExactJournalText : laws_FnExactJournalText.Pure := by
  intro p q s a b l hg
  obtain ⟨hp, hq, hs0, ha, hb, hl, hx⟩ := hg
  apply Ev.rounds
  unfold laws_FnExactJournalText.f
  obtain ⟨r, hr, hz⟩ := laws_szJournal_ev p q s a b l 1048576 hl (fun x h => (hx x h).2.2) (by omega) (by omega)
  refine Ev.bind hr ?_
  rcases hz with hz | ⟨h0, h1, h2, h3⟩
  · exact Ev.pos hz (Ev.now _)
  · have hm : (l.map toEn).length ≤ 1048576 := by simpa using h2
    have hs : ∀ x ∈ l.map toEn, x.f2.size ≤ 17592186044416 := fun x h => Nat.le_trans (toEn_small (n := 1048576) h3 x h) (by omega)
    refine Ev.neg (by omega) (Ev.bind (laws_toJournal_ev p q s a b l h2) (Ev.bind (spec_JournalText_ev p q s a b (l.map toEn) (by omega) hs) (Ev.bind (laws_toJournal_ev p q s a b l h2) (Ev.bind (impl_JournalText_ev p q s a b (l.map toEn) (by omega) hs) (Ev.pos rfl ?_)))))
    simp only [bne_self_eq_false]
    exact Ev.step (fun k => rfl) (Ev.bind (laws_toJournal_ev p q s a b l h2) (Ev.bind (laws_eqJournal_ev p q s a b (l.map toEn) (by omega)) (Ev.pos rfl (Ev.now _))))

end Go.Proofs.Ytknbkjajfiediaa.Pure
