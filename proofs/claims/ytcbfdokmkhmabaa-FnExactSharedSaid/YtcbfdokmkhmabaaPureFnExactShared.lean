/- The law FnExactShared answers true at every input; no condition. -/
import Derived.Test.YtcbfdokmkhmabaaQFnExactSharedx9
import Derived.Test.YtcbfdokmkhmabaaTM
namespace Go.Proofs.Ytcbfdokmkhmabaa.QFnExactShared
open Go.RowKit
/-- What is left to be shown of the law: over numbers, texts and lists alone. -/
def laws_FnExactShared.Pure : Prop := ∀ (a0_0 : Int) (a0_1 : Int) (l0_2 : List (S34)) (a1_0 : Int) (a1_1 : Int) (l1_2 : List (S34)), ((Lit.int .i64 a0_0).wf = true ∧ (Lit.int .i64 a0_1).wf = true ∧ (l0_2.length ≤ maxLen ∧ ∀ x ∈ l0_2, ((Lit.int .i64 x.f0).wf = true ∧ (Lit.int .i64 x.f1).wf = true ∧ x.f2.size ≤ maxLen))) → ((Lit.int .i64 a1_0).wf = true ∧ (Lit.int .i64 a1_1).wf = true ∧ (l1_2.length ≤ maxLen ∧ ∀ x ∈ l1_2, ((Lit.int .i64 x.f0).wf = true ∧ (Lit.int .i64 x.f1).wf = true ∧ x.f2.size ≤ maxLen))) → ∃ k, laws_FnExactShared.f k a0_0 a0_1 l0_2 a1_0 a1_1 l1_2 = some true
end Go.Proofs.Ytcbfdokmkhmabaa.QFnExactShared
namespace Go.Proofs.Ytcbfdokmkhmabaa.Pure
open Go.RowKit Go.Proofs.Ytcbfdokmkhmabaa.QFnExactShared Go.Proofs.YtcbfdokmkhmabaaW.PrintWords Go.Proofs.YtcbfdokmkhmabaaW.PrintLast Go.Proofs.YtcbfdokmkhmabaaW.PrintMore Go.Proofs.Ytcbfdokmkhmabaa.M
set_option linter.unusedVariables false
set_option linter.unusedSimpArgs false
set_option maxRecDepth 4000

theorem laws_szEntry_is (a b : Int) (c : ByteArray) (left : Int) (h0 : 0 ≤ left) (h1 : left ≤ 1048576) (hc : c.size ≤ maxLen) :
    ∃ r, laws_szEntry.f a b c left = some r ∧ (r < 0 ∨ 0 ≤ r ∧ r ≤ left ∧ (c.size : Int) ≤ left) := by
  unfold laws_szEntry.f
  simp only [maxLen] at hc
  rw [w64 (x := left - (c.size : Int)) (by omega) (by omega)]
  by_cases h : left - (c.size : Int) < 0
  · exact ⟨-1, by rw [if_pos h], .inl (by omega)⟩
  · exact ⟨_, by rw [if_neg h], .inr (by omega)⟩
abbrev LEn := S34
abbrev IEn := S38
def toEn (x : LEn) : IEn := ⟨x.f0, x.f1, x.f2⟩
theorem rd_LEn {l : List LEn} {i : Nat} (h : i < l.length) : rd_T34 l (i : Int) = l[i] := by
  simp [rd_T34, List.getD_eq_getElem?_getD, List.getElem?_eq_getElem h]
theorem rd_IEn {l : List IEn} {i : Nat} (h : i < l.length) : rd_T38 l (i : Int) = l[i] := by
  simp [rd_T38, List.getD_eq_getElem?_getD, List.getElem?_eq_getElem h]
theorem laws_szEntryS_l0 (l : List LEn) (hl : l.length ≤ 1048576) (hg : ∀ x ∈ l, x.f2.size ≤ maxLen) : ∀ (d i : Nat) (left : Int), i + d = l.length → 0 ≤ left → left ≤ 1048576 →
    ∃ r, Ev (fun k => laws_szEntryS.l0 k l left (i : Int)) r ∧ (r < 0 ∨ 0 ≤ r ∧ r ≤ left ∧ ∀ x ∈ l.drop i, (x.f2.size : Int) ≤ left)
  | 0, i, left, h, h0, h1 => by
    refine ⟨left, Ev.step (f := fun k => some left) (fun k => ?_) (Ev.now _), .inr ⟨h0, by omega, ?_⟩⟩
    · simp only [laws_szEntryS.l0]; rw [if_neg (by omega)]
    · rw [List.drop_of_length_le (by omega)]; simp
  | d + 1, i, left, h, h0, h1 => by
    have hi : i < l.length := by omega
    obtain ⟨r, hr, hx⟩ := laws_szEntry_is l[i].f0 l[i].f1 l[i].f2 left h0 h1 (hg _ (List.getElem_mem hi))
    rcases hx with hx | ⟨hx0, hx1, hx2⟩
    · refine ⟨-1, Ev.step (f := fun k => some (-1)) (fun k => ?_) (Ev.now _), .inl (by omega)⟩
      simp only [laws_szEntryS.l0]
      rw [if_pos (by omega), if_pos (by omega), rd_LEn hi, hr, Option.bind_some, if_pos hx]
    · obtain ⟨r', hr', hy⟩ := laws_szEntryS_l0 l hl hg d (i + 1) r (by omega) (by omega) (by omega)
      refine ⟨r', Ev.step (f := fun k => laws_szEntryS.l0 k l r ((i + 1 : Nat) : Int)) (fun k => ?_) hr', ?_⟩
      · simp only [laws_szEntryS.l0]
        rw [if_pos (by omega), if_pos (by omega), rd_LEn hi, hr, Option.bind_some, if_neg (by omega), w64 (x := (i : Int) + 1) (by omega) (by omega)]; rfl
      · rcases hy with hy | ⟨hy0, hy1, hy2⟩
        · exact .inl hy
        · refine .inr ⟨hy0, by omega, ?_⟩
          rw [List.drop_eq_getElem_cons hi]
          intro x hx
          rcases List.mem_cons.1 hx with rfl | hx
          · exact hx2
          · have := hy2 x hx; omega
theorem laws_szEntryS_ev (l : List LEn) (left : Int) (hl : l.length ≤ maxLen) (hg : ∀ x ∈ l, x.f2.size ≤ maxLen) (h0 : 0 ≤ left) (h1 : left ≤ 1048576) :
    ∃ r, Ev (fun k => laws_szEntryS.f k l left) r ∧ (r < 0 ∨ 0 ≤ r ∧ r ≤ left ∧ l.length ≤ 1048576 ∧ ∀ x ∈ l, (x.f2.size : Int) ≤ left) := by
  simp only [maxLen] at hl
  have e : wrap64 (left - (l.length : Int)) = left - l.length := w64 (by omega) (by omega)
  by_cases h : left - (l.length : Int) < 0
  · exact ⟨-1, by unfold laws_szEntryS.f; rw [e]; exact Ev.pos h (Ev.now _), .inl (by omega)⟩
  · obtain ⟨r, hr, hx⟩ := laws_szEntryS_l0 l (by omega) hg l.length 0 (left - l.length) (by omega) (by omega) (by omega)
    refine ⟨r, by unfold laws_szEntryS.f; rw [e]; exact Ev.neg h hr, ?_⟩
    rcases hx with hx | ⟨hx0, hx1, hx2⟩
    · exact .inl hx
    · exact .inr ⟨hx0, by omega, by omega, fun x hx => by have := hx2 x (by simpa using hx); omega⟩
theorem laws_szLog_ev (a b : Int) (l : List LEn) (left : Int) (hl : l.length ≤ maxLen) (hg : ∀ x ∈ l, x.f2.size ≤ maxLen) (h0 : 0 ≤ left) (h1 : left ≤ 1048576) :
    ∃ r, Ev (fun k => laws_szLog.f k a b l left) r ∧ (r < 0 ∨ 0 ≤ r ∧ r ≤ left ∧ l.length ≤ 1048576 ∧ ∀ x ∈ l, (x.f2.size : Int) ≤ left) := by
  obtain ⟨r, hr, hx⟩ := laws_szEntryS_ev l left hl hg h0 h1
  by_cases h : r < 0
  · exact ⟨-1, by unfold laws_szLog.f; exact Ev.bind hr (Ev.pos h (Ev.now _)), .inl (by omega)⟩
  · refine ⟨r, by unfold laws_szLog.f; exact Ev.bind hr (Ev.neg h (Ev.now _)), ?_⟩
    rcases hx with hx | hx
    · exact absurd hx h
    · exact .inr hx
theorem spec_l01In_is (a b c : Int) : spec_l01In.f a b c = some (inR a b c) := by
  unfold spec_l01In.f inR
  by_cases h : a ≥ b
  · rw [if_pos h]; congr 1; simp; omega
  · rw [if_neg h]; congr 1; simp; omega
theorem spec_l05Rise_l0 (l : List Int) (hl : l.length ≤ 35184372088832) : ∀ (d i : Nat) (p : Int), i + d = l.length → (i = 0 → p = 0) → (0 < i → p = rd l ((i - 1 : Nat) : Int)) →
    Ev (fun k => spec_l05Rise.l0 k l 1 4 (i : Int)) (riseF p (l.drop i))
  | 0, i, p, h, h0, h1 => by
    refine Ev.step (f := fun k => some true) (fun k => ?_) ((Ev.now _).eq ?_)
    · simp only [spec_l05Rise.l0]; rw [if_neg (by omega)]
    · rw [List.drop_of_length_le (by omega)]; rfl
  | d + 1, i, p, h, h0, h1 => by
    rw [rd_drop (l := l) (by omega)]
    have ih := spec_l05Rise_l0 l hl d (i + 1) (rd l (i : Int)) (by omega) (by omega) (fun _ => by simp)
    by_cases hin : 1 ≤ rd l (i : Int) ∧ rd l (i : Int) ≤ 4
    · by_cases hi : 0 < i
      · have hp := h1 hi
        have ei : wrap64 ((i : Int) - 1) = ((i - 1 : Nat) : Int) := by rw [w64 (by omega) (by omega)]; omega
        by_cases hlt : p < rd l (i : Int)
        · refine Ev.step (f := fun k => spec_l05Rise.l0 k l 1 4 ((i + 1 : Nat) : Int)) (fun k => ?_) (ih.eq ?_)
          · simp only [spec_l05Rise.l0]
            rw [if_pos (by omega), if_pos (by omega), spec_l01In_is, Option.bind_some, if_pos (inR_iff.2 hin), if_pos (by omega), ei, if_pos (by omega), if_pos (by omega), if_neg (by omega)]
            rw [w64 (x := (i : Int) + 1) (by omega) (by omega)]; rfl
          · simp only [riseF]; rw [decide_eq_true ⟨hin.1, hin.2, hlt⟩, Bool.true_and]
        · refine Ev.step (f := fun k => some false) (fun k => ?_) ((Ev.now _).eq ?_)
          · simp only [spec_l05Rise.l0]
            rw [if_pos (by omega), if_pos (by omega), spec_l01In_is, Option.bind_some, if_pos (inR_iff.2 hin), if_pos (by omega), ei, if_pos (by omega), if_pos (by omega), if_pos (by omega)]
          · simp only [riseF]; rw [decide_eq_false (fun e => hlt e.2.2), Bool.false_and]
      · have hp := h0 (by omega)
        refine Ev.step (f := fun k => spec_l05Rise.l0 k l 1 4 ((i + 1 : Nat) : Int)) (fun k => ?_) (ih.eq ?_)
        · simp only [spec_l05Rise.l0]
          rw [if_pos (by omega), if_pos (by omega), spec_l01In_is, Option.bind_some, if_pos (inR_iff.2 hin), if_neg (by omega)]
          rw [w64 (x := (i : Int) + 1) (by omega) (by omega)]; rfl
        · simp only [riseF]; rw [decide_eq_true ⟨hin.1, hin.2, by omega⟩, Bool.true_and]
    · refine Ev.step (f := fun k => some false) (fun k => ?_) ((Ev.now _).eq ?_)
      · simp only [spec_l05Rise.l0]
        rw [if_pos (by omega), if_pos (by omega), spec_l01In_is, Option.bind_some, if_neg (fun e => hin (inR_iff.1 e))]
      · simp only [riseF]; rw [decide_eq_false (fun e => hin ⟨e.1, e.2.1⟩), Bool.false_and]
theorem spec_l05Rise_ev (l : List Int) (hl : l.length ≤ 35184372088832) : Ev (fun k => spec_l05Rise.f k l 1 4) (riseF 0 l) := by
  have := spec_l05Rise_l0 l hl l.length 0 0 (by omega) (fun _ => rfl) (fun h => absurd h (by omega))
  exact this
theorem spec_ConfOk_ev (l : List Int) (hl : l.length ≤ 35184372088832) : Ev (fun k => spec_ConfOk.f k l) (confOk l) := by
  unfold spec_ConfOk.f confOk
  refine Ev.bind0 (spec_l01In_is _ _ _) ?_
  by_cases h : 1 ≤ l.length ∧ l.length ≤ 4
  · rw [decide_eq_true h, Bool.true_and]
    exact Ev.pos (inR_iff.2 (by omega)) (Ev.bind (spec_l05Rise_ev l hl) (Ev.now _))
  · rw [decide_eq_false h, Bool.false_and]
    exact Ev.neg (fun e => h (by have := inR_iff.1 e; omega)) (Ev.now _)
theorem spec_ReadConf_end (s : ByteArray) (acc : List Int) (n : Nat) (hn : n ≤ 5) (hs : s.size ≤ 140737488351232) (ha : acc = (bytesOf s).take n) (hx : n = s.size ∨ n = 5) :
    Ev (fun k => if (acc.length : Int) = (s.size : Int) then ((spec_ConfOk.f k acc).bind fun t => if t = true then some (acc, true) else some ([], false)) else some ([], false)) (readConf s) := by
  have hl : acc.length = min n s.size := by rw [ha, List.length_take, bytesOf_length]
  by_cases e : acc.length = s.size
  · have : acc = bytesOf s := by rw [ha]; exact List.take_of_length_le (by rw [bytesOf_length]; omega)
    subst this
    refine Ev.pos (by omega) (Ev.bind (spec_ConfOk_ev _ (by omega)) (Ev.is ?_))
    unfold readConf
    by_cases h : confOk (bytesOf s) = true
    · rw [if_pos h, if_pos h]
    · rw [if_neg h, if_neg h]
  · refine Ev.neg (by omega) (Ev.is ?_)
    unfold readConf
    rw [if_neg]
    intro h
    have := confOk_len h
    rw [bytesOf_length] at this
    omega
theorem spec_ReadConf_l0 (s : ByteArray) (hs : s.size ≤ 140737488351232) : ∀ (d i : Nat), i + d = 5 → i ≤ s.size →
    Ev (fun k => spec_ReadConf.l0 k s ((bytesOf s).take i) (i : Int)) (readConf s)
  | d, i, h, hi => by
    have hl : ((bytesOf s).take i).length = i := by rw [List.length_take, bytesOf_length]; omega
    by_cases hlt : i < s.size
    · cases d with
      | zero =>
        refine Ev.step (fun k => ?_) (spec_ReadConf_end s ((bytesOf s).take i) i (by omega) hs rfl (by omega))
        simp only [spec_ReadConf.l0]
        rw [if_pos (by omega), if_neg (by omega)]
      | succ d =>
        have hr := bt_range s (i : Int)
        refine Ev.step (f := fun k => spec_ReadConf.l0 k s ((bytesOf s).take (i + 1)) ((i + 1 : Nat) : Int)) (fun k => ?_) (spec_ReadConf_l0 s hs d (i + 1) (by omega) (by omega))
        simp only [spec_ReadConf.l0]
        rw [if_pos (by omega), if_pos (by omega), if_pos (by omega), if_pos (by omega), w64 (x := (i : Int) + 1) (by omega) (by omega), w64 (x := bt s i) (by omega) (by omega)]
        have e := Led.take_succ (s := s) (a := 0) (i := i) (by omega)
        rw [List.drop_zero, Nat.zero_add] at e
        rw [e]; rfl
    · refine Ev.step (fun k => ?_) (spec_ReadConf_end s ((bytesOf s).take i) i (by omega) hs rfl (by omega))
      simp only [spec_ReadConf.l0]
      rw [if_neg (by omega)]
theorem spec_ReadConf_ev (s : ByteArray) (hs : s.size ≤ 140737488351232) : Ev (fun k => spec_ReadConf.f k s) (readConf s) := by
  have := spec_ReadConf_l0 s hs 5 0 (by omega) (by omega)
  rw [List.take_zero] at this
  exact this
def entryOk (a b : Int) (c : ByteArray) : Bool :=
  decide (0 ≤ a ∧ a ≤ 100000) && (if b = 1 then (c.toList == ([] : List UInt8)) else if b = 2 then (readConf c).2 else if b = 3 then decide ((c.size : Int) ≤ 120) else false)
theorem entryOk_term {t k : Int} {d : ByteArray} (h : entryOk t k d = true) : 0 ≤ t ∧ t ≤ 100000 := by
  simp [entryOk] at h; omega
theorem spec_EntryOk_ev (a b : Int) (c : ByteArray) (hc : c.size ≤ 17592186044416) : Ev (fun k => spec_EntryOk.f k a b c) (entryOk a b c) := by
  unfold spec_EntryOk.f entryOk
  refine Ev.bind0 (spec_l01In_is _ _ _) ?_
  by_cases h : 0 ≤ a ∧ a ≤ 100000
  · refine Ev.pos (inR_iff.2 h) ?_
    rw [decide_eq_true h, Bool.true_and]
    by_cases h1 : b = 1
    · refine Ev.pos h1 (Ev.is ?_); rw [if_pos h1]
    · refine Ev.neg h1 ?_
      rw [if_neg h1]
      by_cases h2 : b = 2
      · refine Ev.pos h2 (Ev.bind (spec_ReadConf_ev c (by omega)) (Ev.is ?_)); rw [if_pos h2]
      · refine Ev.neg h2 ?_
        rw [if_neg h2]
        by_cases h3 : b = 3
        · refine Ev.pos h3 (Ev.is ?_); rw [if_pos h3]
        · refine Ev.neg h3 (Ev.is ?_); rw [if_neg h3]
  · refine Ev.neg (fun e => h (inR_iff.1 e)) (Ev.is ?_)
    rw [decide_eq_false h, Bool.false_and]
def entriesOk : Int → List IEn → Bool
  | _, [] => true
  | t, x :: l => entryOk x.f0 x.f1 x.f2 && decide (t ≤ x.f0) && entriesOk x.f0 l
def logOk (a b : Int) (l : List IEn) : Bool :=
  decide (0 ≤ a ∧ a ≤ 1000000) && (decide (0 ≤ b ∧ b ≤ 100000) && (decide (l.length ≤ 60 ∧ a + l.length ≤ 1000000) && entriesOk b l))
theorem rd_IEn_drop {l : List IEn} {i : Nat} (h : i < l.length) : l.drop i = rd_T38 l (i : Int) :: l.drop (i + 1) := by
  rw [List.drop_eq_getElem_cons h, rd_IEn h]
theorem logOk_iff {a b : Int} {l : List IEn} : logOk a b l = true ↔ (0 ≤ a ∧ a ≤ 1000000) ∧ (0 ≤ b ∧ b ≤ 100000) ∧ (l.length ≤ 60 ∧ a + l.length ≤ 1000000) ∧ entriesOk b l = true := by
  simp [logOk]
theorem spec_LogOk_l0 (a b : Int) (l : List IEn) (hl : l.length ≤ 1048577) (hs : ∀ x ∈ l, x.f2.size ≤ 17592186044416) : ∀ (d i : Nat) (t : Int), i + d = l.length →
    Ev (fun k => spec_LogOk.l0 k t (i : Int) a b l) (entriesOk t (l.drop i))
  | 0, i, t, h => by
    refine Ev.step (f := fun k => some true) (fun k => ?_) ((Ev.now _).eq ?_)
    · simp only [spec_LogOk.l0]; rw [if_neg (by omega)]
    · rw [List.drop_of_length_le (by omega)]; rfl
  | d + 1, i, t, h => by
    have hx := hs (rd_T38 l (i : Int)) (by rw [rd_IEn (by omega)]; exact List.getElem_mem _)
    rw [rd_IEn_drop (l := l) (i := i) (by omega)]
    have ih := spec_LogOk_l0 a b l hl hs d (i + 1) (rd_T38 l (i : Int)).f0 (by omega)
    refine Ev.step (f := fun k => (spec_EntryOk.f k (rd_T38 l (i : Int)).f0 (rd_T38 l (i : Int)).f1 (rd_T38 l (i : Int)).f2).bind fun t142 => (if t142 = true then (if (rd_T38 l (i : Int)).f0 < t then some false else spec_LogOk.l0 k (rd_T38 l (i : Int)).f0 ((i + 1 : Nat) : Int) a b l) else some false)) (fun k => ?_) (Ev.bind (spec_EntryOk_ev _ _ _ hx) ?_)
    · simp only [spec_LogOk.l0]
      rw [if_pos (by omega), if_pos (by omega), w64 (x := (i : Int) + 1) (by omega) (by omega)]; rfl
    · generalize rd_T38 l (i : Int) = x at *
      simp only [entriesOk]
      by_cases h1 : entryOk x.f0 x.f1 x.f2 = true
      · refine Ev.pos h1 ?_
        by_cases h2 : x.f0 < t
        · refine Ev.pos h2 ((Ev.now _).eq ?_)
          rw [decide_eq_false (p := t ≤ x.f0) (by omega)]; simp
        · refine Ev.neg h2 (ih.eq ?_)
          rw [h1, decide_eq_true (p := t ≤ x.f0) (by omega)]; simp
      · refine Ev.neg h1 ((Ev.now _).eq ?_)
        rw [Bool.not_eq_true _ |>.mp h1]; simp
theorem spec_LogOk_ev (a b : Int) (l : List IEn) (hl : l.length ≤ 1048577) (hs : ∀ x ∈ l, x.f2.size ≤ 17592186044416) : Ev (fun k => spec_LogOk.f k a b l) (logOk a b l) := by
  have no : ∀ x, logOk a b l = false → x = true → Ev (fun k => spec_LogOk.j0 k x a b l) (logOk a b l) := by
    intro x h hx
    rw [h, hx]
    exact Ev.step (fun k => rfl) (Ev.now _)
  have nf : ¬ logOk a b l = true → logOk a b l = false := fun h => Bool.not_eq_true _ |>.mp h
  unfold spec_LogOk.f
  refine Ev.bind0 (spec_l01In_is _ _ _) ?_
  by_cases h1 : 0 ≤ a ∧ a ≤ 1000000
  · refine Ev.pos (inR_iff.2 h1) (Ev.bind0 (spec_l01In_is _ _ _) ?_)
    by_cases h2 : 0 ≤ b ∧ b ≤ 100000
    · refine Ev.pos (inR_iff.2 h2) ?_
      by_cases h3 : l.length ≤ 60
      · refine Ev.neg (by omega) ?_
        rw [w64 (x := a + (l.length : Int)) (by omega) (by omega)]
        by_cases h4 : a + (l.length : Int) ≤ 1000000
        · rw [decide_eq_false (p := a + (l.length : Int) > 1000000) (by omega)]
          refine Ev.step (fun k => rfl) ?_
          refine (spec_LogOk_l0 a b l hl hs l.length 0 b (by omega)).eq ?_
          unfold logOk
          rw [decide_eq_true h1, decide_eq_true h2, decide_eq_true (p := l.length ≤ 60 ∧ a + (l.length : Int) ≤ 1000000) ⟨h3, h4⟩]; simp
        · exact no _ (nf fun e => h4 (logOk_iff.1 e).2.2.1.2) (decide_eq_true (by omega))
      · exact Ev.pos (by omega) (no _ (nf fun e => h3 (logOk_iff.1 e).2.2.1.1) rfl)
    · exact Ev.neg (fun e => h2 (inR_iff.1 e)) (no _ (nf fun e => h2 (logOk_iff.1 e).2.1) rfl)
  · exact Ev.neg (fun e => h1 (inR_iff.1 e)) (no _ (nf fun e => h1 (logOk_iff.1 e).1) rfl)
theorem spec_l06Last_is (a b : Int) (l : List IEn) (h : 0 ≤ a ∧ a ≤ 1000000) (hl : l.length ≤ 60) : spec_l06Last.f a b l = some (a + (l.length : Int)) := by
  unfold spec_l06Last.f; rw [w64 (by omega) (by omega)]
def logTermF (a b : Int) (l : List IEn) (i : Int) : Int := if i = a then b else if a < i ∧ i ≤ a + (l.length : Int) then (rd_T38 l (i - a - 1)).f0 else -1
theorem entriesOk_terms : ∀ (l : List IEn) (t : Int), entriesOk t l = true → ∀ x ∈ l, 0 ≤ x.f0
  | [], _, _ => by simp
  | y :: l, t, h => by
    simp only [entriesOk, Bool.and_eq_true] at h
    intro x hx
    rcases List.mem_cons.1 hx with rfl | hx
    · exact (entryOk_term h.1.1).1
    · exact entriesOk_terms l _ h.2 x hx
theorem logTermF_low {a b : Int} {l : List IEn} (h : logOk a b l = true) (i : Int) : logTermF a b l i = -1 ∨ 0 ≤ logTermF a b l i := by
  have hk := logOk_iff.1 h
  unfold logTermF
  split
  · omega
  · split
    · rename_i h1
      right
      have hi : (i - a - 1) = (((i - a - 1).toNat : Nat) : Int) := by omega
      rw [hi, rd_IEn (by omega)]
      exact entriesOk_terms l _ hk.2.2.2 _ (List.getElem_mem _)
    · left; rfl
theorem spec_LogTerm_is (a b : Int) (l : List IEn) (i : Int) (h : 0 ≤ a ∧ a ≤ 1000000) (hl : l.length ≤ 60) (hi : -1000000000000000 ≤ i ∧ i ≤ 1000000000000000) : spec_LogTerm.f a b l i = some (logTermF a b l i) := by
  unfold spec_LogTerm.f logTermF
  by_cases h1 : i = a
  · rw [if_pos h1, if_pos h1]
  · rw [if_neg h1, if_neg h1]
    by_cases h2 : i < a
    · rw [if_pos h2, if_neg (by omega)]
    · rw [if_neg h2, spec_l06Last_is a b l h hl, Option.bind_some]
      by_cases h3 : i > a + (l.length : Int)
      · rw [if_pos h3, if_neg (by omega)]
      · rw [if_neg h3, w64 (x := i - a) (by omega) (by omega), w64 (x := i - a - 1) (by omega) (by omega), if_pos (by omega), if_pos (by omega), if_pos (by omega)]
def eqEn (x y : IEn) : Bool := x.f0 == y.f0 && (x.f1 == y.f1 && (x.f2.toList == y.f2.toList))
def cpN : List IEn → List IEn → Nat
  | x :: l, y :: m => if eqEn x y = true then cpN l m + 1 else 0
  | _, _ => 0
theorem cpN_le : ∀ l m, cpN l m ≤ l.length
  | [], _ => by simp [cpN]
  | x :: l, [] => by simp [cpN]
  | x :: l, y :: m => by
    simp only [cpN]
    have := cpN_le l m
    split <;> simp only [List.length_cons] <;> omega
theorem cpN_nil_left {l m : List IEn} {i : Nat} (h : l.length ≤ i) : cpN (l.drop i) m = 0 := by
  rw [List.drop_of_length_le h]; simp [cpN]
theorem cpN_nil_right {l m : List IEn} {i : Nat} (h : m.length ≤ i) : cpN l (m.drop i) = 0 := by
  rw [List.drop_of_length_le h]; cases l <;> simp [cpN]
def sharedF (a b : Int) (l : List IEn) (c d : Int) (m : List IEn) : Int :=
  if logOk a b l = true ∧ logOk c d m = true then
    (if logTermF a b l (max a c) = -1 ∨ logTermF a b l (max a c) ≠ logTermF c d m (max a c) then -1 else max a c + (cpN (l.drop (max a c - a).toNat) (m.drop (max a c - c).toNat) : Nat))
  else -1
theorem rd_IEn_at {l : List IEn} {i : Int} (h0 : 0 ≤ i) (h : i < l.length) : l.drop i.toNat = rd_T38 l i :: l.drop (i.toNat + 1) := by
  have := rd_IEn_drop (l := l) (i := i.toNat) (by omega)
  rwa [Int.toNat_of_nonneg h0] at this
theorem spec_Shared_l0 (a b : Int) (l : List IEn) (c d : Int) (m : List IEn) (ha : 0 ≤ a ∧ a ≤ 1000000) (hl : l.length ≤ 60) (hc : 0 ≤ c ∧ c ≤ 1000000) (hm : m.length ≤ 60) : ∀ (f : Nat) (x : Int), a ≤ x → c ≤ x → a + l.length ≤ x + f → x ≤ 2000000 →
    Ev (fun k => spec_Shared.l0 k x a b l c d m) (x + (cpN (l.drop (x - a).toNat) (m.drop (x - c).toNat) : Nat))
  | f, x, h0, h1, h2, h3 => by
    by_cases e1 : x < a + l.length
    · by_cases e2 : x < c + m.length
      · have w1 : wrap64 (x - a) = x - a := w64 (by omega) (by omega)
        have w2 : wrap64 (x - c) = x - c := w64 (by omega) (by omega)
        rw [rd_IEn_at (l := l) (i := x - a) (by omega) (by omega), rd_IEn_at (l := m) (i := x - c) (by omega) (by omega)]
        by_cases e3 : eqEn (rd_T38 l (x - a)) (rd_T38 m (x - c)) = true
        · cases f with
          | zero => omega
          | succ f =>
            refine Ev.step (f := fun k => spec_Shared.l0 k (x + 1) a b l c d m) (fun k => ?_) ((spec_Shared_l0 a b l c d m ha hl hc hm f (x + 1) (by omega) (by omega) (by omega) (by omega)).eq ?_)
            · simp only [spec_Shared.l0]
              rw [spec_l06Last_is a b l ha hl, Option.bind_some, if_pos e1, spec_l06Last_is c d m hc hm, Option.bind_some, if_pos e2, w1, w2, if_pos (by omega), if_pos (by omega), if_pos (by omega), if_pos (by omega)]
              refine (if_pos e3).trans ?_
              rw [w64 (x := x + 1) (by omega) (by omega)]
            · simp only [cpN]
              rw [if_pos e3]
              have t1 : (x + 1 - a).toNat = (x - a).toNat + 1 := by omega
              have t2 : (x + 1 - c).toNat = (x - c).toNat + 1 := by omega
              rw [t1, t2]; omega
        · refine Ev.step (f := fun k => some x) (fun k => ?_) ((Ev.now _).eq ?_)
          · simp only [spec_Shared.l0]
            rw [spec_l06Last_is a b l ha hl, Option.bind_some, if_pos e1, spec_l06Last_is c d m hc hm, Option.bind_some, if_pos e2, w1, w2, if_pos (by omega), if_pos (by omega), if_pos (by omega), if_pos (by omega)]
            exact if_neg e3
          · simp only [cpN]; rw [if_neg e3]; simp
      · refine Ev.step (f := fun k => some x) (fun k => ?_) ((Ev.now _).eq ?_)
        · simp only [spec_Shared.l0]
          rw [spec_l06Last_is a b l ha hl, Option.bind_some, if_pos e1, spec_l06Last_is c d m hc hm, Option.bind_some, if_neg e2]
        · rw [cpN_nil_right (by omega)]; simp
    · refine Ev.step (f := fun k => some x) (fun k => ?_) ((Ev.now _).eq ?_)
      · simp only [spec_Shared.l0]
        rw [spec_l06Last_is a b l ha hl, Option.bind_some, if_neg e1]
      · rw [cpN_nil_left (by omega)]; simp
theorem spec_Shared_ev (a b : Int) (l : List IEn) (c d : Int) (m : List IEn) (hl : l.length ≤ 1048577) (hs : ∀ x ∈ l, x.f2.size ≤ 17592186044416) (hm : m.length ≤ 1048577) (ht : ∀ x ∈ m, x.f2.size ≤ 17592186044416) :
    Ev (fun k => spec_Shared.f k a b l c d m) (sharedF a b l c d m) := by
  unfold spec_Shared.f sharedF
  refine Ev.bind (spec_LogOk_ev a b l hl hs) ?_
  by_cases h1 : logOk a b l = true
  · refine Ev.pos h1 (Ev.bind (spec_LogOk_ev c d m hm ht) ?_)
    by_cases h2 : logOk c d m = true
    · rw [h2, if_pos ⟨h1, rfl⟩]
      have k1 := logOk_iff.1 h1
      have k2 := logOk_iff.1 h2
      have go : Ev (fun k => spec_Shared.j1 k (max a c) a b l c d m) (if logTermF a b l (max a c) = -1 ∨ logTermF a b l (max a c) ≠ logTermF c d m (max a c) then -1 else max a c + (cpN (l.drop (max a c - a).toNat) (m.drop (max a c - c).toNat) : Nat)) := by
        have hx : a ≤ max a c ∧ c ≤ max a c ∧ max a c ≤ 1000000 := by omega
        generalize max a c = x at hx ⊢
        have low := logTermF_low h1 x
        refine Ev.step (f := fun k => if logTermF a b l x < 0 then spec_Shared.j2 k x true a b l c d m else spec_Shared.j2 k x (logTermF a b l x != logTermF c d m x) a b l c d m) (fun k => ?_) ?_
        · simp only [spec_Shared.j1]
          rw [spec_LogTerm_is a b l x k1.1 k1.2.2.1.1 (by omega), spec_LogTerm_is c d m x k2.1 k2.2.2.1.1 (by omega)]
          simp only [Option.bind_some]
        · by_cases h3 : logTermF a b l x < 0
          · refine Ev.pos h3 (Ev.step (f := fun k => some (-1)) (fun k => by simp only [spec_Shared.j2, if_true]) ((Ev.now _).eq ?_))
            rw [if_pos (.inl (by omega))]
          · refine Ev.neg h3 ?_
            by_cases h4 : logTermF a b l x = logTermF c d m x
            · rw [show (logTermF a b l x != logTermF c d m x) = false from by simp [h4], if_neg (by omega)]
              refine Ev.step (f := fun k => spec_Shared.l0 k x a b l c d m) (fun k => by simp only [spec_Shared.j2]; rfl) ?_
              exact spec_Shared_l0 a b l c d m k1.1 k1.2.2.1.1 k2.1 k2.2.2.1.1 l.length x (by omega) (by omega) (by omega) (by omega)
            · rw [show (logTermF a b l x != logTermF c d m x) = true from by simp [h4], if_pos (.inr h4)]
              exact Ev.step (f := fun k => some (-1)) (fun k => by simp only [spec_Shared.j2, if_true]) (Ev.now _)
      by_cases h5 : c > a
      · rw [show max a c = c from by omega] at go ⊢
        exact Ev.step (f := fun k => spec_Shared.j1 k c a b l c d m) (fun k => by simp only [spec_Shared.j0]; rw [if_pos h5]; rfl) go
      · rw [show max a c = a from by omega] at go ⊢
        exact Ev.step (f := fun k => spec_Shared.j1 k a a b l c d m) (fun k => by simp only [spec_Shared.j0]; rw [if_neg h5]; rfl) go
    · rw [Bool.not_eq_true _ |>.mp h2, if_neg (by simp)]
      exact Ev.step (f := fun k => some (-1)) (fun k => by simp only [spec_Shared.j0]; rfl) (Ev.now _)
  · rw [if_neg (fun e => h1 e.1)]
    exact Ev.neg h1 (Ev.step (f := fun k => some (-1)) (fun k => by simp only [spec_Shared.j0, if_true]) (Ev.now _))
theorem laws_toEntry_is (a b : Int) (c : ByteArray) : laws_toEntry.f a b c = some (a, b, c) := rfl
theorem laws_toEntryS_l0 (l : List LEn) (hl : l.length ≤ 1048576) : ∀ (d i : Nat), i + d = l.length →
    Ev (fun k => laws_toEntryS.l0 k l ((l.map toEn).take i ++ List.replicate (l.length - i) z38) (i : Int)) (l.map toEn)
  | 0, i, h => by
    refine Ev.step (f := fun k => some ((l.map toEn).take i ++ List.replicate (l.length - i) z38)) (fun k => ?_) ((Ev.now _).eq ?_)
    · simp only [laws_toEntryS.l0]; rw [if_neg (by omega)]
    · obtain rfl : i = l.length := by omega
      rw [List.take_of_length_le (by simp)]; simp
  | d + 1, i, h => by
    have hi : i < l.length := by omega
    refine Ev.step (f := fun k => laws_toEntryS.l0 k l ((l.map toEn).take (i + 1) ++ List.replicate (l.length - (i + 1)) z38) ((i + 1 : Nat) : Int)) (fun k => ?_) (laws_toEntryS_l0 l hl d (i + 1) (by omega))
    simp only [laws_toEntryS.l0]
    rw [if_pos (by omega), if_pos (by omega), rd_LEn hi, laws_toEntry_is, Option.bind_some, if_pos (by simp [List.length_take]; omega), w64 (x := (i : Int) + 1) (by omega) (by omega)]
    rw [Int.toNat_natCast]
    have e := fill_step (l.map toEn) z38 i l.length (by simpa using hi) (by simp)
    rw [← e, List.getElem_map]; rfl
theorem laws_toEntryS_ev (l : List LEn) (hl : l.length ≤ 1048576) : Ev (fun k => laws_toEntryS.f k l) (l.map toEn) := by
  unfold laws_toEntryS.f
  refine Ev.pos (by omega) (Ev.pos (by omega) ?_)
  have := laws_toEntryS_l0 l hl l.length 0 (by omega)
  simpa using this
theorem laws_toLog_ev (a b : Int) (l : List LEn) (hl : l.length ≤ 1048576) : Ev (fun k => laws_toLog.f k a b l) (a, b, l.map toEn) := by
  unfold laws_toLog.f
  exact Ev.bind (laws_toEntryS_ev l hl) (Ev.now _)
theorem impl_within_is (a b c : Int) : impl_within.f a b c = some (inR a b c) := by
  unfold impl_within.f inR
  by_cases h : a ≥ b
  · rw [if_pos h]; congr 1; simp; omega
  · rw [if_neg h]; congr 1; simp; omega
theorem impl_ConfOk_l0 (l : List Int) (hl : l.length ≤ 35184372088832) : ∀ (d i : Nat) (p : Int), i + d = l.length → (i = 0 → p = 0) → (0 < i → p = rd l ((i - 1 : Nat) : Int)) →
    Ev (fun k => impl_ConfOk.l0 k l l (l.length : Int) (i : Int)) (decide (1 ≤ l.length ∧ l.length ≤ 4) && riseF p (l.drop i))
  | 0, i, p, h, h0, h1 => by
    refine Ev.step (f := fun k => some (decide (1 ≤ l.length ∧ l.length ≤ 4))) (fun k => ?_) ((Ev.now _).eq ?_)
    · simp only [impl_ConfOk.l0]; rw [if_neg (by omega), impl_within_is, Option.bind_some]
      congr 1
      unfold inR
      congr 1
      simp only [eq_iff_iff]
      omega
    · rw [List.drop_of_length_le (by omega)]; simp [riseF]
  | d + 1, i, p, h, h0, h1 => by
    rw [rd_drop (l := l) (by omega)]
    have ih := impl_ConfOk_l0 l hl d (i + 1) (rd l (i : Int)) (by omega) (by omega) (fun _ => by simp)
    by_cases hin : 1 ≤ rd l (i : Int) ∧ rd l (i : Int) ≤ 4
    · by_cases hi : 0 < i
      · have hp := h1 hi
        have ei : wrap64 ((i : Int) - 1) = ((i - 1 : Nat) : Int) := by rw [w64 (by omega) (by omega)]; omega
        by_cases hlt : p < rd l (i : Int)
        · refine Ev.step (f := fun k => impl_ConfOk.l0 k l l (l.length : Int) ((i + 1 : Nat) : Int)) (fun k => ?_) (ih.eq ?_)
          · simp only [impl_ConfOk.l0]
            rw [if_pos (by omega), if_pos (by omega), if_pos (by omega), impl_within_is, Option.bind_some, if_pos (inR_iff.2 hin), if_pos (by omega), ei, if_pos (by omega), if_pos (by omega), if_neg (by omega)]
            rw [w64 (x := (i : Int) + 1) (by omega) (by omega)]; rfl
          · simp only [riseF]; rw [decide_eq_true (p := _ ∧ _ ∧ _) ⟨hin.1, hin.2, hlt⟩, Bool.true_and]
        · refine Ev.step (f := fun k => some false) (fun k => ?_) ((Ev.now _).eq ?_)
          · simp only [impl_ConfOk.l0]
            rw [if_pos (by omega), if_pos (by omega), if_pos (by omega), impl_within_is, Option.bind_some, if_pos (inR_iff.2 hin), if_pos (by omega), ei, if_pos (by omega), if_pos (by omega), if_pos (by omega)]
          · simp only [riseF]; rw [decide_eq_false (p := _ ∧ _ ∧ _) (fun e => hlt e.2.2), Bool.false_and, Bool.and_false]
      · have hp := h0 (by omega)
        refine Ev.step (f := fun k => impl_ConfOk.l0 k l l (l.length : Int) ((i + 1 : Nat) : Int)) (fun k => ?_) (ih.eq ?_)
        · simp only [impl_ConfOk.l0]
          rw [if_pos (by omega), if_pos (by omega), if_pos (by omega), impl_within_is, Option.bind_some, if_pos (inR_iff.2 hin), if_neg (by omega)]
          rw [w64 (x := (i : Int) + 1) (by omega) (by omega)]; rfl
        · simp only [riseF]; rw [decide_eq_true (p := _ ∧ _ ∧ _) ⟨hin.1, hin.2, by omega⟩, Bool.true_and]
    · refine Ev.step (f := fun k => some false) (fun k => ?_) ((Ev.now _).eq ?_)
      · simp only [impl_ConfOk.l0]
        rw [if_pos (by omega), if_pos (by omega), if_pos (by omega), impl_within_is, Option.bind_some, if_neg (fun e => hin (inR_iff.1 e))]
      · simp only [riseF]; rw [decide_eq_false (p := _ ∧ _ ∧ _) (fun e => hin ⟨e.1, e.2.1⟩), Bool.false_and, Bool.and_false]
theorem impl_ConfOk_ev (l : List Int) (hl : l.length ≤ 35184372088832) : Ev (fun k => impl_ConfOk.f k l) (confOk l) := by
  have := impl_ConfOk_l0 l hl l.length 0 0 (by omega) (fun _ => rfl) (fun h => absurd h (by omega))
  exact this
theorem impl_ReadConf_l0 (s : ByteArray) (hs : s.size ≤ 17592186044416) : ∀ (d i : Nat), i + d = s.size →
    Ev (fun k => impl_ReadConf.l0 k s ((bytesOf s).take i) (i : Int)) (readConf s)
  | 0, i, h => by
    have e : (bytesOf s).take i = bytesOf s := List.take_of_length_le (by rw [bytesOf_length]; omega)
    rw [e]
    refine Ev.step (f := fun k => (impl_ConfOk.f k (bytesOf s)).bind fun t => if t = true then some (bytesOf s, true) else some ([], false)) (fun k => ?_) (Ev.bind (impl_ConfOk_ev _ (by rw [bytesOf_length]; omega)) (Ev.is ?_))
    · simp only [impl_ReadConf.l0]; rw [if_neg (by omega)]
    · unfold readConf
      by_cases h : confOk (bytesOf s) = true
      · rw [if_pos h, if_pos h]
      · rw [if_neg h, if_neg h]
  | d + 1, i, h => by
    have hr := bt_range s (i : Int)
    have hl : ((bytesOf s).take i).length = i := by rw [List.length_take, bytesOf_length]; omega
    refine Ev.step (f := fun k => impl_ReadConf.l0 k s ((bytesOf s).take (i + 1)) ((i + 1 : Nat) : Int)) (fun k => ?_) (impl_ReadConf_l0 s hs d (i + 1) (by omega))
    simp only [impl_ReadConf.l0]
    rw [if_pos (by omega), if_pos (by omega), if_pos (by omega), w64 (x := (i : Int) + 1) (by omega) (by omega), w64 (x := bt s i) (by omega) (by omega)]
    have e := Led.take_succ (s := s) (a := 0) (i := i) (by omega)
    rw [List.drop_zero, Nat.zero_add] at e
    rw [e]; rfl
theorem impl_ReadConf_ev (s : ByteArray) (hs : s.size ≤ 17592186044416) : Ev (fun k => impl_ReadConf.f k s) (readConf s) := by
  have := impl_ReadConf_l0 s hs s.size 0 (by omega)
  rw [List.take_zero] at this
  exact this
theorem impl_EntryOk_ev (a b : Int) (c : ByteArray) (hc : c.size ≤ 17592186044416) : Ev (fun k => impl_EntryOk.f k a b c) (entryOk a b c) := by
  unfold impl_EntryOk.f entryOk
  refine Ev.bind0 (impl_within_is _ _ _) ?_
  by_cases h : 0 ≤ a ∧ a ≤ 100000
  · refine Ev.pos (inR_iff.2 h) ?_
    rw [decide_eq_true h, Bool.true_and]
    by_cases h1 : b = 1
    · refine Ev.pos h1 (Ev.is ?_); rw [if_pos h1]
    · refine Ev.neg h1 ?_
      rw [if_neg h1]
      by_cases h2 : b = 2
      · refine Ev.pos h2 (Ev.bind (impl_ReadConf_ev c (by omega)) (Ev.is ?_)); rw [if_pos h2]
      · refine Ev.neg h2 ?_
        rw [if_neg h2]
        by_cases h3 : b = 3
        · refine Ev.pos h3 (Ev.is ?_); rw [if_pos h3]
        · refine Ev.neg h3 (Ev.is ?_); rw [if_neg h3]
  · refine Ev.neg (fun e => h (inR_iff.1 e)) (Ev.is ?_)
    rw [decide_eq_false h, Bool.false_and]
theorem impl_LogOk_l0 (l : List IEn) (hl : l.length ≤ 1048577) (hs : ∀ x ∈ l, x.f2.size ≤ 17592186044416) : ∀ (d i : Nat) (t : Int), i + d = l.length →
    Ev (fun k => impl_LogOk.l0 k t l (l.length : Int) (i : Int)) (entriesOk t (l.drop i))
  | 0, i, t, h => by
    refine Ev.step (f := fun k => some true) (fun k => ?_) ((Ev.now _).eq ?_)
    · simp only [impl_LogOk.l0]; rw [if_neg (by omega)]
    · rw [List.drop_of_length_le (by omega)]; rfl
  | d + 1, i, t, h => by
    have hx := hs (rd_T38 l (i : Int)) (by rw [rd_IEn (by omega)]; exact List.getElem_mem _)
    rw [rd_IEn_drop (l := l) (i := i) (by omega)]
    have ih := impl_LogOk_l0 l hl hs d (i + 1) (rd_T38 l (i : Int)).f0 (by omega)
    refine Ev.step (f := fun k => (impl_EntryOk.f k (rd_T38 l (i : Int)).f0 (rd_T38 l (i : Int)).f1 (rd_T38 l (i : Int)).f2).bind fun t142 => (if t142 = true then (if (rd_T38 l (i : Int)).f0 < t then some false else impl_LogOk.l0 k (rd_T38 l (i : Int)).f0 l (l.length : Int) ((i + 1 : Nat) : Int)) else some false)) (fun k => ?_) (Ev.bind (impl_EntryOk_ev _ _ _ hx) ?_)
    · simp only [impl_LogOk.l0]
      rw [if_pos (by omega), if_pos (by omega), if_pos (by omega), w64 (x := (i : Int) + 1) (by omega) (by omega)]; rfl
    · generalize rd_T38 l (i : Int) = x at *
      simp only [entriesOk]
      by_cases h1 : entryOk x.f0 x.f1 x.f2 = true
      · refine Ev.pos h1 ?_
        by_cases h2 : x.f0 < t
        · refine Ev.pos h2 ((Ev.now _).eq ?_)
          rw [decide_eq_false (p := t ≤ x.f0) (by omega)]; simp
        · refine Ev.neg h2 (ih.eq ?_)
          rw [h1, decide_eq_true (p := t ≤ x.f0) (by omega)]; simp
      · refine Ev.neg h1 ((Ev.now _).eq ?_)
        rw [Bool.not_eq_true _ |>.mp h1]; simp
theorem impl_LogOk_ev (a b : Int) (l : List IEn) (hl : l.length ≤ 1048577) (hs : ∀ x ∈ l, x.f2.size ≤ 17592186044416) : Ev (fun k => impl_LogOk.f k a b l) (logOk a b l) := by
  have no : ∀ x, logOk a b l = false → x = true → Ev (fun k => impl_LogOk.j0 k x a b l) (logOk a b l) := by
    intro x h hx
    rw [h, hx]
    exact Ev.step (fun k => rfl) (Ev.now _)
  have nf : ¬ logOk a b l = true → logOk a b l = false := fun h => Bool.not_eq_true _ |>.mp h
  unfold impl_LogOk.f
  refine Ev.bind0 (impl_within_is _ _ _) ?_
  by_cases h1 : 0 ≤ a ∧ a ≤ 1000000
  · refine Ev.pos (inR_iff.2 h1) (Ev.bind0 (impl_within_is _ _ _) ?_)
    by_cases h2 : 0 ≤ b ∧ b ≤ 100000
    · refine Ev.pos (inR_iff.2 h2) ?_
      by_cases h3 : l.length ≤ 60
      · refine Ev.neg (by omega) ?_
        rw [w64 (x := a + (l.length : Int)) (by omega) (by omega)]
        by_cases h4 : a + (l.length : Int) ≤ 1000000
        · rw [decide_eq_false (p := a + (l.length : Int) > 1000000) (by omega)]
          refine Ev.step (fun k => rfl) ?_
          refine (impl_LogOk_l0 l hl hs l.length 0 b (by omega)).eq ?_
          unfold logOk
          rw [decide_eq_true h1, decide_eq_true h2, decide_eq_true (p := l.length ≤ 60 ∧ a + (l.length : Int) ≤ 1000000) ⟨h3, h4⟩]; simp
        · exact no _ (nf fun e => h4 (logOk_iff.1 e).2.2.1.2) (decide_eq_true (by omega))
      · exact Ev.pos (by omega) (no _ (nf fun e => h3 (logOk_iff.1 e).2.2.1.1) rfl)
    · exact Ev.neg (fun e => h2 (inR_iff.1 e)) (no _ (nf fun e => h2 (logOk_iff.1 e).2.1) rfl)
  · exact Ev.neg (fun e => h1 (inR_iff.1 e)) (no _ (nf fun e => h1 (logOk_iff.1 e).1) rfl)
theorem impl_hasEntry_is (a b : Int) (l : List IEn) (i : Int) (h : 0 ≤ a ∧ a ≤ 1000000) (hl : l.length ≤ 60) (hi : -1000000000000000 ≤ i ∧ i ≤ 1000000000000000) : impl_hasEntry.f a b l i = some (decide (a < i ∧ i ≤ a + (l.length : Int))) := by
  unfold impl_hasEntry.f
  by_cases h1 : i > a
  · rw [if_pos h1, w64 (by omega) (by omega), impl_within_is, Option.bind_some]
    unfold inR
    by_cases h2 : i ≤ a + (l.length : Int)
    · rw [decide_eq_true (by omega), decide_eq_true (by omega)]
    · rw [decide_eq_false (by omega), decide_eq_false (by omega)]
  · rw [if_neg h1, decide_eq_false (by omega)]
theorem impl_LogTerm_is (a b : Int) (l : List IEn) (i : Int) (h : 0 ≤ a ∧ a ≤ 1000000) (hl : l.length ≤ 60) (hi : -1000000000000000 ≤ i ∧ i ≤ 1000000000000000) : impl_LogTerm.f a b l i = some (logTermF a b l i) := by
  unfold impl_LogTerm.f logTermF
  by_cases h1 : i = a
  · rw [if_pos h1, if_pos h1]
  · rw [if_neg h1, if_neg h1, impl_hasEntry_is a b l i h hl hi, Option.bind_some]
    by_cases h2 : a < i ∧ i ≤ a + (l.length : Int)
    · rw [if_pos (decide_eq_true h2), if_pos h2, w64 (x := i - a) (by omega) (by omega), w64 (x := i - a - 1) (by omega) (by omega), if_pos (by omega), if_pos (by omega)]
    · rw [if_neg (by simpa using h2), if_neg h2]
theorem impl_Shared_l0 (a b : Int) (l : List IEn) (c d : Int) (m : List IEn) (ha : 0 ≤ a ∧ a ≤ 1000000) (hl : l.length ≤ 60) (hc : 0 ≤ c ∧ c ≤ 1000000) (hm : m.length ≤ 60) (s : Int) (h0 : a ≤ s) (h1 : c ≤ s) (h3 : s ≤ 1000000) : ∀ (f : Nat) (n : Int), 0 ≤ n → n ≤ 1000000 → a + l.length ≤ s + n + f →
    Ev (fun k => impl_Shared.l0 k s n a b l c d m) (s + n + (cpN (l.drop (s + n - a).toNat) (m.drop (s + n - c).toNat) : Nat))
  | f, n, hn, hn1, h2 => by
    have w0 : wrap64 (s + n) = s + n := w64 (by omega) (by omega)
    have w3 : wrap64 (s + n + 1) = s + n + 1 := w64 (by omega) (by omega)
    by_cases e1 : s + n < a + l.length
    · by_cases e2 : s + n < c + m.length
      · have w1 : wrap64 (s + n - a) = s + n - a := w64 (by omega) (by omega)
        have w2 : wrap64 (s + n - c) = s + n - c := w64 (by omega) (by omega)
        rw [rd_IEn_at (l := l) (i := s + n - a) (by omega) (by omega), rd_IEn_at (l := m) (i := s + n - c) (by omega) (by omega)]
        by_cases e3 : eqEn (rd_T38 l (s + n - a)) (rd_T38 m (s + n - c)) = true
        · cases f with
          | zero => omega
          | succ f =>
            refine Ev.step (f := fun k => impl_Shared.l0 k s (n + 1) a b l c d m) (fun k => ?_) ((impl_Shared_l0 a b l c d m ha hl hc hm s h0 h1 h3 f (n + 1) (by omega) (by omega) (by omega)).eq ?_)
            · simp only [impl_Shared.l0]
              rw [w0, w3, impl_hasEntry_is a b l _ ha hl (by omega), Option.bind_some, if_pos (decide_eq_true (by omega)), impl_hasEntry_is c d m _ hc hm (by omega), Option.bind_some, if_pos (decide_eq_true (by omega)), w1, w2, if_pos (by omega), if_pos (by omega), if_pos (by omega), if_pos (by omega)]
              refine (if_pos e3).trans ?_
              rw [w64 (x := n + 1) (by omega) (by omega)]
            · simp only [cpN]
              rw [if_pos e3]
              have t1 : (s + (n + 1) - a).toNat = (s + n - a).toNat + 1 := by omega
              have t2 : (s + (n + 1) - c).toNat = (s + n - c).toNat + 1 := by omega
              rw [t1, t2]; omega
        · refine Ev.step (f := fun k => some (s + n)) (fun k => ?_) ((Ev.now _).eq ?_)
          · simp only [impl_Shared.l0]
            rw [w0, w3, impl_hasEntry_is a b l _ ha hl (by omega), Option.bind_some, if_pos (decide_eq_true (by omega)), impl_hasEntry_is c d m _ hc hm (by omega), Option.bind_some, if_pos (decide_eq_true (by omega)), w1, w2, if_pos (by omega), if_pos (by omega), if_pos (by omega), if_pos (by omega)]
            exact if_neg e3
          · simp only [cpN]; rw [if_neg e3]; simp
      · refine Ev.step (f := fun k => some (s + n)) (fun k => ?_) ((Ev.now _).eq ?_)
        · simp only [impl_Shared.l0]
          rw [w0, w3, impl_hasEntry_is a b l _ ha hl (by omega), Option.bind_some, if_pos (decide_eq_true (by omega)), impl_hasEntry_is c d m _ hc hm (by omega), Option.bind_some, if_neg (by simp; omega)]
        · rw [cpN_nil_right (by omega)]; simp
    · refine Ev.step (f := fun k => some (s + n)) (fun k => ?_) ((Ev.now _).eq ?_)
      · simp only [impl_Shared.l0]
        rw [w0, w3, impl_hasEntry_is a b l _ ha hl (by omega), Option.bind_some, if_neg (by simp; omega)]
      · rw [cpN_nil_left (by omega)]; simp
theorem mx_max (a c : Int) : mx a c = max a c := by unfold mx; omega
theorem impl_Shared_ev (a b : Int) (l : List IEn) (c d : Int) (m : List IEn) (hl : l.length ≤ 1048577) (hs : ∀ x ∈ l, x.f2.size ≤ 17592186044416) (hm : m.length ≤ 1048577) (ht : ∀ x ∈ m, x.f2.size ≤ 17592186044416) :
    Ev (fun k => impl_Shared.f k a b l c d m) (sharedF a b l c d m) := by
  unfold impl_Shared.f sharedF
  simp only [mx_max]
  have no : Ev (fun k => impl_Shared.j0 k (max a c) true a b l c d m) (-1) := Ev.step (f := fun k => some (-1)) (fun k => by simp only [impl_Shared.j0, if_true]) (Ev.now _)
  refine Ev.bind (impl_LogOk_ev a b l hl hs) ?_
  by_cases h1 : logOk a b l = true
  · refine Ev.pos h1 (Ev.bind (impl_LogOk_ev c d m hm ht) ?_)
    by_cases h2 : logOk c d m = true
    · rw [if_pos ⟨h1, h2⟩]
      refine Ev.pos h2 ?_
      have k1 := logOk_iff.1 h1
      have k2 := logOk_iff.1 h2
      have hx : a ≤ max a c ∧ c ≤ max a c ∧ max a c ≤ 1000000 := by omega
      generalize max a c = x at hx no ⊢
      have low := logTermF_low h1 x
      refine Ev.bind0 (impl_LogTerm_is a b l x k1.1 k1.2.2.1.1 (by omega)) ?_
      by_cases h3 : logTermF a b l x = -1
      · rw [if_pos (.inl h3)]
        exact Ev.pos h3 no
      · refine Ev.neg h3 (Ev.bind0 (impl_LogTerm_is a b l x k1.1 k1.2.2.1.1 (by omega)) (Ev.bind0 (impl_LogTerm_is c d m x k2.1 k2.2.2.1.1 (by omega)) ?_))
        by_cases h4 : logTermF a b l x = logTermF c d m x
        · rw [show (logTermF a b l x != logTermF c d m x) = false from by simp [h4], if_neg (by omega)]
          refine Ev.step (f := fun k => impl_Shared.l0 k x 0 a b l c d m) (fun k => by simp only [impl_Shared.j0]; rfl) ?_
          have := impl_Shared_l0 a b l c d m k1.1 k1.2.2.1.1 k2.1 k2.2.2.1.1 x (by omega) (by omega) (by omega) l.length 0 (by omega) (by omega) (by omega)
          simpa using this
        · rw [show (logTermF a b l x != logTermF c d m x) = true from by simp [h4], if_pos (.inr h4)]
          exact no
    · rw [if_neg (fun e => h2 e.2)]
      exact Ev.neg h2 no
  · rw [if_neg (fun e => h1 e.1)]
    exact Ev.neg h1 no
theorem laws_eqEntry_is (a b : Int) (c : ByteArray) : laws_eqEntry.f a b c a b c = some true := by
  unfold laws_eqEntry.f; simp
theorem laws_eqEntryS_l0 (l : List IEn) (hl : l.length ≤ 1048577) : ∀ (d i : Nat), i + d = l.length → Ev (fun k => laws_eqEntryS.l0 k l l (i : Int)) true
  | 0, i, h => by
    refine Ev.step (f := fun k => some true) (fun k => ?_) (Ev.now _)
    simp only [laws_eqEntryS.l0]; rw [if_neg (by omega)]
  | d + 1, i, h => by
    refine Ev.step (f := fun k => laws_eqEntryS.l0 k l l ((i + 1 : Nat) : Int)) (fun k => ?_) (laws_eqEntryS_l0 l hl d (i + 1) (by omega))
    simp only [laws_eqEntryS.l0]
    rw [if_pos (by omega), if_pos (by omega), if_pos (by omega), laws_eqEntry_is, Option.bind_some, if_pos rfl, w64 (x := (i : Int) + 1) (by omega) (by omega)]; rfl
theorem laws_eqEntryS_ev (l : List IEn) (hl : l.length ≤ 1048577) : Ev (fun k => laws_eqEntryS.f k l l) true := by
  unfold laws_eqEntryS.f
  exact Ev.pos rfl (laws_eqEntryS_l0 l hl l.length 0 (by omega))
theorem laws_eqLog_ev (a b : Int) (l : List IEn) (hl : l.length ≤ 1048577) : Ev (fun k => laws_eqLog.f k a b l a b l) true := by
  unfold laws_eqLog.f
  exact Ev.pos rfl (Ev.pos rfl (Ev.bind (laws_eqEntryS_ev l hl) (Ev.pos rfl (Ev.now _))))
theorem toEn_small {l : List LEn} {n : Nat} (h : ∀ x ∈ l, (x.f2.size : Int) ≤ n) : ∀ x ∈ l.map toEn, x.f2.size ≤ n := by
  intro x hx
  obtain ⟨y, hy, rfl⟩ := List.mem_map.1 hx
  have := h y hy
  simp only [toEn]; omega
theorem FnExactShared : laws_FnExactShared.Pure := by
  intro a b l c d m hg hg2
  obtain ⟨ha, hb, hl, hx⟩ := hg
  obtain ⟨hc, hd, hl', hx'⟩ := hg2
  apply Ev.rounds
  unfold laws_FnExactShared.f
  obtain ⟨r, hr, hz⟩ := laws_szLog_ev a b l 1048576 hl (fun x h => (hx x h).2.2) (by omega) (by omega)
  refine Ev.bind hr ?_
  rcases hz with hz | ⟨h0, h1, h2, h3⟩
  · exact Ev.pos hz (Ev.now _)
  · refine Ev.neg (by omega) ?_
    obtain ⟨r', hr', hz'⟩ := laws_szLog_ev c d m r hl' (fun x h => (hx' x h).2.2) (by omega) (by omega)
    refine Ev.bind hr' ?_
    rcases hz' with hz' | ⟨g0, g1, g2, g3⟩
    · exact Ev.pos hz' (Ev.now _)
    · have hm : (l.map toEn).length ≤ 1048576 := by simpa using h2
      have hs : ∀ x ∈ l.map toEn, x.f2.size ≤ 17592186044416 := fun x h => Nat.le_trans (toEn_small (n := 1048576) h3 x h) (by omega)
      have hm' : (m.map toEn).length ≤ 1048576 := by simpa using g2
      have hs' : ∀ x ∈ m.map toEn, x.f2.size ≤ 17592186044416 := fun x h => Nat.le_trans (toEn_small (n := 1048576) (fun y hy => by have := g3 y hy; omega) x h) (by omega)
      refine Ev.neg (by omega) (Ev.bind (laws_toLog_ev a b l h2) (Ev.bind (laws_toLog_ev c d m g2) (Ev.bind (spec_Shared_ev a b (l.map toEn) c d (m.map toEn) (by omega) hs (by omega) hs') (Ev.bind (laws_toLog_ev a b l h2) (Ev.bind (laws_toLog_ev c d m g2) (Ev.bind (impl_Shared_ev a b (l.map toEn) c d (m.map toEn) (by omega) hs (by omega) hs') ?_))))))
      exact Ev.pos rfl (Ev.bind (laws_toLog_ev a b l h2) (Ev.bind (laws_eqLog_ev a b (l.map toEn) (by omega)) (Ev.pos rfl (Ev.bind (laws_toLog_ev c d m g2) (Ev.bind (laws_eqLog_ev c d (m.map toEn) (by omega)) (Ev.pos rfl (Ev.now _)))))))

end Go.Proofs.Ytcbfdokmkhmabaa.Pure
