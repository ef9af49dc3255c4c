/- The law FnExactLogPut answers true at every input; no condition. -/
import Derived.Test.YtknbkjajfiediaaQFnExactLogPutx9
import Derived.Test.YtknbkjajfiediaaTM
namespace Go.Proofs.Ytknbkjajfiediaa.QFnExactLogPut
open Go.RowKit
/-- What is left to be shown of the law: over numbers, texts and lists alone. -/
def laws_FnExactLogPut.Pure : Prop := ∀ (a0_0 : Int) (a0_1 : Int) (l0_2 : List (S26)) (a1 : Int) (a2_0 : Int) (a2_1 : Int) (a2_2 : ByteArray), ((Lit.int .i64 a0_0).wf = true ∧ (Lit.int .i64 a0_1).wf = true ∧ (l0_2.length ≤ maxLen ∧ ∀ x ∈ l0_2, ((Lit.int .i64 x.f0).wf = true ∧ (Lit.int .i64 x.f1).wf = true ∧ x.f2.size ≤ maxLen))) → (Lit.int .i64 a1).wf = true → ((Lit.int .i64 a2_0).wf = true ∧ (Lit.int .i64 a2_1).wf = true ∧ a2_2.size ≤ maxLen) → ∃ k, laws_FnExactLogPut.f k a0_0 a0_1 l0_2 a1 a2_0 a2_1 a2_2 = some true
end Go.Proofs.Ytknbkjajfiediaa.QFnExactLogPut
namespace Go.Proofs.Ytknbkjajfiediaa.Pure
open Go.RowKit Go.Proofs.Ytknbkjajfiediaa.QFnExactLogPut Go.Proofs.YtknbkjajfiediaaW.PrintWords Go.Proofs.YtknbkjajfiediaaW.PrintLast Go.Proofs.YtknbkjajfiediaaW.PrintMore Go.Proofs.Ytknbkjajfiediaa.M
set_option linter.unusedVariables false
set_option linter.unusedSimpArgs false
set_option maxRecDepth 4000

theorem laws_szEntry_is (a b : Int) (c : ByteArray) (left : Int) (h0 : 0 ≤ left) (h1 : left ≤ 1048576) (hc : c.size ≤ maxLen) :
    ∃ r, laws_szEntry.f a b c left = some r ∧ (r < 0 ∨ 0 ≤ r ∧ r ≤ left ∧ (c.size : Int) ≤ left) := by
  unfold laws_szEntry.f
  simp only [maxLen] at hc
  rw [w64 (x := left - (c.size : Int)) (by omega) (by omega)]
  by_cases h : left - (c.size : Int) < 0
  · exact ⟨-1, by rw [if_pos h], .inl (by omega)⟩
  · exact ⟨_, by rw [if_neg h], .inr (by omega)⟩
abbrev LEn := S26
abbrev IEn := S35
def toEn (x : LEn) : IEn := ⟨x.f0, x.f1, x.f2⟩
theorem rd_LEn {l : List LEn} {i : Nat} (h : i < l.length) : rd_T26 l (i : Int) = l[i] := by
  simp [rd_T26, List.getD_eq_getElem?_getD, List.getElem?_eq_getElem h]
theorem rd_IEn {l : List IEn} {i : Nat} (h : i < l.length) : rd_T35 l (i : Int) = l[i] := by
  simp [rd_T35, List.getD_eq_getElem?_getD, List.getElem?_eq_getElem h]
theorem laws_szEntryS_l0 (l : List LEn) (hl : l.length ≤ 1048576) (hg : ∀ x ∈ l, x.f2.size ≤ maxLen) : ∀ (d i : Nat) (left : Int), i + d = l.length → 0 ≤ left → left ≤ 1048576 →
    ∃ r, Ev (fun k => laws_szEntryS.l0 k l left (i : Int)) r ∧ (r < 0 ∨ 0 ≤ r ∧ r ≤ left ∧ ∀ x ∈ l.drop i, (x.f2.size : Int) ≤ left)
  | 0, i, left, h, h0, h1 => by
    refine ⟨left, Ev.step (f := fun k => some left) (fun k => ?_) (Ev.now _), .inr ⟨h0, by omega, ?_⟩⟩
    · simp only [laws_szEntryS.l0]; rw [if_neg (by omega)]
    · rw [List.drop_of_length_le (by omega)]; simp
  | d + 1, i, left, h, h0, h1 => by
    have hi : i < l.length := by omega
    obtain ⟨r, hr, hx⟩ := laws_szEntry_is l[i].f0 l[i].f1 l[i].f2 left h0 h1 (hg _ (List.getElem_mem hi))
    rcases hx with hx | ⟨hx0, hx1, hx2⟩
    · refine ⟨-1, Ev.step (f := fun k => some (-1)) (fun k => ?_) (Ev.now _), .inl (by omega)⟩
      simp only [laws_szEntryS.l0]
      rw [if_pos (by omega), if_pos (by omega), rd_LEn hi, hr, Option.bind_some, if_pos hx]
    · obtain ⟨r', hr', hy⟩ := laws_szEntryS_l0 l hl hg d (i + 1) r (by omega) (by omega) (by omega)
      refine ⟨r', Ev.step (f := fun k => laws_szEntryS.l0 k l r ((i + 1 : Nat) : Int)) (fun k => ?_) hr', ?_⟩
      · simp only [laws_szEntryS.l0]
        rw [if_pos (by omega), if_pos (by omega), rd_LEn hi, hr, Option.bind_some, if_neg (by omega), w64 (x := (i : Int) + 1) (by omega) (by omega)]; rfl
      · rcases hy with hy | ⟨hy0, hy1, hy2⟩
        · exact .inl hy
        · refine .inr ⟨hy0, by omega, ?_⟩
          rw [List.drop_eq_getElem_cons hi]
          intro x hx
          rcases List.mem_cons.1 hx with rfl | hx
          · exact hx2
          · have := hy2 x hx; omega
theorem laws_szEntryS_ev (l : List LEn) (left : Int) (hl : l.length ≤ maxLen) (hg : ∀ x ∈ l, x.f2.size ≤ maxLen) (h0 : 0 ≤ left) (h1 : left ≤ 1048576) :
    ∃ r, Ev (fun k => laws_szEntryS.f k l left) r ∧ (r < 0 ∨ 0 ≤ r ∧ r ≤ left ∧ l.length ≤ 1048576 ∧ ∀ x ∈ l, (x.f2.size : Int) ≤ left) := by
  simp only [maxLen] at hl
  have e : wrap64 (left - (l.length : Int)) = left - l.length := w64 (by omega) (by omega)
  by_cases h : left - (l.length : Int) < 0
  · exact ⟨-1, by unfold laws_szEntryS.f; rw [e]; exact Ev.pos h (Ev.now _), .inl (by omega)⟩
  · obtain ⟨r, hr, hx⟩ := laws_szEntryS_l0 l (by omega) hg l.length 0 (left - l.length) (by omega) (by omega) (by omega)
    refine ⟨r, by unfold laws_szEntryS.f; rw [e]; exact Ev.neg h hr, ?_⟩
    rcases hx with hx | ⟨hx0, hx1, hx2⟩
    · exact .inl hx
    · exact .inr ⟨hx0, by omega, by omega, fun x hx => by have := hx2 x (by simpa using hx); omega⟩
theorem laws_szLog_ev (a b : Int) (l : List LEn) (left : Int) (hl : l.length ≤ maxLen) (hg : ∀ x ∈ l, x.f2.size ≤ maxLen) (h0 : 0 ≤ left) (h1 : left ≤ 1048576) :
    ∃ r, Ev (fun k => laws_szLog.f k a b l left) r ∧ (r < 0 ∨ 0 ≤ r ∧ r ≤ left ∧ l.length ≤ 1048576 ∧ ∀ x ∈ l, (x.f2.size : Int) ≤ left) := by
  obtain ⟨r, hr, hx⟩ := laws_szEntryS_ev l left hl hg h0 h1
  by_cases h : r < 0
  · exact ⟨-1, by unfold laws_szLog.f; exact Ev.bind hr (Ev.pos h (Ev.now _)), .inl (by omega)⟩
  · refine ⟨r, by unfold laws_szLog.f; exact Ev.bind hr (Ev.neg h (Ev.now _)), ?_⟩
    rcases hx with hx | hx
    · exact absurd hx h
    · exact .inr hx
theorem spec_l01In_is (a b c : Int) : spec_l01In.f a b c = some (inR a b c) := by
  unfold spec_l01In.f inR
  by_cases h : a ≥ b
  · rw [if_pos h]; congr 1; simp; omega
  · rw [if_neg h]; congr 1; simp; omega
theorem spec_l05Rise_l0 (l : List Int) (hl : l.length ≤ 35184372088832) : ∀ (d i : Nat) (p : Int), i + d = l.length → (i = 0 → p = 0) → (0 < i → p = rd l ((i - 1 : Nat) : Int)) →
    Ev (fun k => spec_l05Rise.l0 k l 1 4 (i : Int)) (riseF p (l.drop i))
  | 0, i, p, h, h0, h1 => by
    refine Ev.step (f := fun k => some true) (fun k => ?_) ((Ev.now _).eq ?_)
    · simp only [spec_l05Rise.l0]; rw [if_neg (by omega)]
    · rw [List.drop_of_length_le (by omega)]; rfl
  | d + 1, i, p, h, h0, h1 => by
    rw [rd_drop (l := l) (by omega)]
    have ih := spec_l05Rise_l0 l hl d (i + 1) (rd l (i : Int)) (by omega) (by omega) (fun _ => by simp)
    by_cases hin : 1 ≤ rd l (i : Int) ∧ rd l (i : Int) ≤ 4
    · by_cases hi : 0 < i
      · have hp := h1 hi
        have ei : wrap64 ((i : Int) - 1) = ((i - 1 : Nat) : Int) := by rw [w64 (by omega) (by omega)]; omega
        by_cases hlt : p < rd l (i : Int)
        · refine Ev.step (f := fun k => spec_l05Rise.l0 k l 1 4 ((i + 1 : Nat) : Int)) (fun k => ?_) (ih.eq ?_)
          · simp only [spec_l05Rise.l0]
            rw [if_pos (by omega), if_pos (by omega), spec_l01In_is, Option.bind_some, if_pos (inR_iff.2 hin), if_pos (by omega), ei, if_pos (by omega), if_pos (by omega), if_neg (by omega)]
            rw [w64 (x := (i : Int) + 1) (by omega) (by omega)]; rfl
          · simp only [riseF]; rw [decide_eq_true ⟨hin.1, hin.2, hlt⟩, Bool.true_and]
        · refine Ev.step (f := fun k => some false) (fun k => ?_) ((Ev.now _).eq ?_)
          · simp only [spec_l05Rise.l0]
            rw [if_pos (by omega), if_pos (by omega), spec_l01In_is, Option.bind_some, if_pos (inR_iff.2 hin), if_pos (by omega), ei, if_pos (by omega), if_pos (by omega), if_pos (by omega)]
          · simp only [riseF]; rw [decide_eq_false (fun e => hlt e.2.2), Bool.false_and]
      · have hp := h0 (by omega)
        refine Ev.step (f := fun k => spec_l05Rise.l0 k l 1 4 ((i + 1 : Nat) : Int)) (fun k => ?_) (ih.eq ?_)
        · simp only [spec_l05Rise.l0]
          rw [if_pos (by omega), if_pos (by omega), spec_l01In_is, Option.bind_some, if_pos (inR_iff.2 hin), if_neg (by omega)]
          rw [w64 (x := (i : Int) + 1) (by omega) (by omega)]; rfl
        · simp only [riseF]; rw [decide_eq_true ⟨hin.1, hin.2, by omega⟩, Bool.true_and]
    · refine Ev.step (f := fun k => some false) (fun k => ?_) ((Ev.now _).eq ?_)
      · simp only [spec_l05Rise.l0]
        rw [if_pos (by omega), if_pos (by omega), spec_l01In_is, Option.bind_some, if_neg (fun e => hin (inR_iff.1 e))]
      · simp only [riseF]; rw [decide_eq_false (fun e => hin ⟨e.1, e.2.1⟩), Bool.false_and]
theorem spec_l05Rise_ev (l : List Int) (hl : l.length ≤ 35184372088832) : Ev (fun k => spec_l05Rise.f k l 1 4) (riseF 0 l) := by
  have := spec_l05Rise_l0 l hl l.length 0 0 (by omega) (fun _ => rfl) (fun h => absurd h (by omega))
  exact this
theorem spec_ConfOk_ev (l : List Int) (hl : l.length ≤ 35184372088832) : Ev (fun k => spec_ConfOk.f k l) (confOk l) := by
  unfold spec_ConfOk.f confOk
  refine Ev.bind0 (spec_l01In_is _ _ _) ?_
  by_cases h : 1 ≤ l.length ∧ l.length ≤ 4
  · rw [decide_eq_true h, Bool.true_and]
    exact Ev.pos (inR_iff.2 (by omega)) (Ev.bind (spec_l05Rise_ev l hl) (Ev.now _))
  · rw [decide_eq_false h, Bool.false_and]
    exact Ev.neg (fun e => h (by have := inR_iff.1 e; omega)) (Ev.now _)
theorem spec_ReadConf_end (s : ByteArray) (acc : List Int) (n : Nat) (hn : n ≤ 5) (hs : s.size ≤ 140737488351232) (ha : acc = (bytesOf s).take n) (hx : n = s.size ∨ n = 5) :
    Ev (fun k => if (acc.length : Int) = (s.size : Int) then ((spec_ConfOk.f k acc).bind fun t => if t = true then some (acc, true) else some ([], false)) else some ([], false)) (readConf s) := by
  have hl : acc.length = min n s.size := by rw [ha, List.length_take, bytesOf_length]
  by_cases e : acc.length = s.size
  · have : acc = bytesOf s := by rw [ha]; exact List.take_of_length_le (by rw [bytesOf_length]; omega)
    subst this
    refine Ev.pos (by omega) (Ev.bind (spec_ConfOk_ev _ (by omega)) (Ev.is ?_))
    unfold readConf
    by_cases h : confOk (bytesOf s) = true
    · rw [if_pos h, if_pos h]
    · rw [if_neg h, if_neg h]
  · refine Ev.neg (by omega) (Ev.is ?_)
    unfold readConf
    rw [if_neg]
    intro h
    have := confOk_len h
    rw [bytesOf_length] at this
    omega
theorem spec_ReadConf_l0 (s : ByteArray) (hs : s.size ≤ 140737488351232) : ∀ (d i : Nat), i + d = 5 → i ≤ s.size →
    Ev (fun k => spec_ReadConf.l0 k s ((bytesOf s).take i) (i : Int)) (readConf s)
  | d, i, h, hi => by
    have hl : ((bytesOf s).take i).length = i := by rw [List.length_take, bytesOf_length]; omega
    by_cases hlt : i < s.size
    · cases d with
      | zero =>
        refine Ev.step (fun k => ?_) (spec_ReadConf_end s ((bytesOf s).take i) i (by omega) hs rfl (by omega))
        simp only [spec_ReadConf.l0]
        rw [if_pos (by omega), if_neg (by omega)]
      | succ d =>
        have hr := bt_range s (i : Int)
        refine Ev.step (f := fun k => spec_ReadConf.l0 k s ((bytesOf s).take (i + 1)) ((i + 1 : Nat) : Int)) (fun k => ?_) (spec_ReadConf_l0 s hs d (i + 1) (by omega) (by omega))
        simp only [spec_ReadConf.l0]
        rw [if_pos (by omega), if_pos (by omega), if_pos (by omega), if_pos (by omega), w64 (x := (i : Int) + 1) (by omega) (by omega), w64 (x := bt s i) (by omega) (by omega)]
        have e := Led.take_succ (s := s) (a := 0) (i := i) (by omega)
        rw [List.drop_zero, Nat.zero_add] at e
        rw [e]; rfl
    · refine Ev.step (fun k => ?_) (spec_ReadConf_end s ((bytesOf s).take i) i (by omega) hs rfl (by omega))
      simp only [spec_ReadConf.l0]
      rw [if_neg (by omega)]
theorem spec_ReadConf_ev (s : ByteArray) (hs : s.size ≤ 140737488351232) : Ev (fun k => spec_ReadConf.f k s) (readConf s) := by
  have := spec_ReadConf_l0 s hs 5 0 (by omega) (by omega)
  rw [List.take_zero] at this
  exact this
def entryOk (a b : Int) (c : ByteArray) : Bool :=
  decide (0 ≤ a ∧ a ≤ 100000) && (if b = 1 then (c.toList == ([] : List UInt8)) else if b = 2 then (readConf c).2 else if b = 3 then decide ((c.size : Int) ≤ 120) else false)
theorem entryOk_term {t k : Int} {d : ByteArray} (h : entryOk t k d = true) : 0 ≤ t ∧ t ≤ 100000 := by
  simp [entryOk] at h; omega
theorem spec_EntryOk_ev (a b : Int) (c : ByteArray) (hc : c.size ≤ 17592186044416) : Ev (fun k => spec_EntryOk.f k a b c) (entryOk a b c) := by
  unfold spec_EntryOk.f entryOk
  refine Ev.bind0 (spec_l01In_is _ _ _) ?_
  by_cases h : 0 ≤ a ∧ a ≤ 100000
  · refine Ev.pos (inR_iff.2 h) ?_
    rw [decide_eq_true h, Bool.true_and]
    by_cases h1 : b = 1
    · refine Ev.pos h1 (Ev.is ?_); rw [if_pos h1]
    · refine Ev.neg h1 ?_
      rw [if_neg h1]
      by_cases h2 : b = 2
      · refine Ev.pos h2 (Ev.bind (spec_ReadConf_ev c (by omega)) (Ev.is ?_)); rw [if_pos h2]
      · refine Ev.neg h2 ?_
        rw [if_neg h2]
        by_cases h3 : b = 3
        · refine Ev.pos h3 (Ev.is ?_); rw [if_pos h3]
        · refine Ev.neg h3 (Ev.is ?_); rw [if_neg h3]
  · refine Ev.neg (fun e => h (inR_iff.1 e)) (Ev.is ?_)
    rw [decide_eq_false h, Bool.false_and]
def entriesOk : Int → List IEn → Bool
  | _, [] => true
  | t, x :: l => entryOk x.f0 x.f1 x.f2 && decide (t ≤ x.f0) && entriesOk x.f0 l
def logOk (a b : Int) (l : List IEn) : Bool :=
  decide (0 ≤ a ∧ a ≤ 1000000) && (decide (0 ≤ b ∧ b ≤ 100000) && (decide (l.length ≤ 60 ∧ a + l.length ≤ 1000000) && entriesOk b l))
theorem rd_IEn_drop {l : List IEn} {i : Nat} (h : i < l.length) : l.drop i = rd_T35 l (i : Int) :: l.drop (i + 1) := by
  rw [List.drop_eq_getElem_cons h, rd_IEn h]
theorem logOk_iff {a b : Int} {l : List IEn} : logOk a b l = true ↔ (0 ≤ a ∧ a ≤ 1000000) ∧ (0 ≤ b ∧ b ≤ 100000) ∧ (l.length ≤ 60 ∧ a + l.length ≤ 1000000) ∧ entriesOk b l = true := by
  simp [logOk]
theorem spec_LogOk_l0 (a b : Int) (l : List IEn) (hl : l.length ≤ 1048577) (hs : ∀ x ∈ l, x.f2.size ≤ 17592186044416) : ∀ (d i : Nat) (t : Int), i + d = l.length →
    Ev (fun k => spec_LogOk.l0 k t (i : Int) a b l) (entriesOk t (l.drop i))
  | 0, i, t, h => by
    refine Ev.step (f := fun k => some true) (fun k => ?_) ((Ev.now _).eq ?_)
    · simp only [spec_LogOk.l0]; rw [if_neg (by omega)]
    · rw [List.drop_of_length_le (by omega)]; rfl
  | d + 1, i, t, h => by
    have hx := hs (rd_T35 l (i : Int)) (by rw [rd_IEn (by omega)]; exact List.getElem_mem _)
    rw [rd_IEn_drop (l := l) (i := i) (by omega)]
    have ih := spec_LogOk_l0 a b l hl hs d (i + 1) (rd_T35 l (i : Int)).f0 (by omega)
    refine Ev.step (f := fun k => (spec_EntryOk.f k (rd_T35 l (i : Int)).f0 (rd_T35 l (i : Int)).f1 (rd_T35 l (i : Int)).f2).bind fun t142 => (if t142 = true then (if (rd_T35 l (i : Int)).f0 < t then some false else spec_LogOk.l0 k (rd_T35 l (i : Int)).f0 ((i + 1 : Nat) : Int) a b l) else some false)) (fun k => ?_) (Ev.bind (spec_EntryOk_ev _ _ _ hx) ?_)
    · simp only [spec_LogOk.l0]
      rw [if_pos (by omega), if_pos (by omega), w64 (x := (i : Int) + 1) (by omega) (by omega)]; rfl
    · generalize rd_T35 l (i : Int) = x at *
      simp only [entriesOk]
      by_cases h1 : entryOk x.f0 x.f1 x.f2 = true
      · refine Ev.pos h1 ?_
        by_cases h2 : x.f0 < t
        · refine Ev.pos h2 ((Ev.now _).eq ?_)
          rw [decide_eq_false (p := t ≤ x.f0) (by omega)]; simp
        · refine Ev.neg h2 (ih.eq ?_)
          rw [h1, decide_eq_true (p := t ≤ x.f0) (by omega)]; simp
      · refine Ev.neg h1 ((Ev.now _).eq ?_)
        rw [Bool.not_eq_true _ |>.mp h1]; simp
theorem spec_LogOk_ev (a b : Int) (l : List IEn) (hl : l.length ≤ 1048577) (hs : ∀ x ∈ l, x.f2.size ≤ 17592186044416) : Ev (fun k => spec_LogOk.f k a b l) (logOk a b l) := by
  have no : ∀ x, logOk a b l = false → x = true → Ev (fun k => spec_LogOk.j0 k x a b l) (logOk a b l) := by
    intro x h hx
    rw [h, hx]
    exact Ev.step (fun k => rfl) (Ev.now _)
  have nf : ¬ logOk a b l = true → logOk a b l = false := fun h => Bool.not_eq_true _ |>.mp h
  unfold spec_LogOk.f
  refine Ev.bind0 (spec_l01In_is _ _ _) ?_
  by_cases h1 : 0 ≤ a ∧ a ≤ 1000000
  · refine Ev.pos (inR_iff.2 h1) (Ev.bind0 (spec_l01In_is _ _ _) ?_)
    by_cases h2 : 0 ≤ b ∧ b ≤ 100000
    · refine Ev.pos (inR_iff.2 h2) ?_
      by_cases h3 : l.length ≤ 60
      · refine Ev.neg (by omega) ?_
        rw [w64 (x := a + (l.length : Int)) (by omega) (by omega)]
        by_cases h4 : a + (l.length : Int) ≤ 1000000
        · rw [decide_eq_false (p := a + (l.length : Int) > 1000000) (by omega)]
          refine Ev.step (fun k => rfl) ?_
          refine (spec_LogOk_l0 a b l hl hs l.length 0 b (by omega)).eq ?_
          unfold logOk
          rw [decide_eq_true h1, decide_eq_true h2, decide_eq_true (p := l.length ≤ 60 ∧ a + (l.length : Int) ≤ 1000000) ⟨h3, h4⟩]; simp
        · exact no _ (nf fun e => h4 (logOk_iff.1 e).2.2.1.2) (decide_eq_true (by omega))
      · exact Ev.pos (by omega) (no _ (nf fun e => h3 (logOk_iff.1 e).2.2.1.1) rfl)
    · exact Ev.neg (fun e => h2 (inR_iff.1 e)) (no _ (nf fun e => h2 (logOk_iff.1 e).2.1) rfl)
  · exact Ev.neg (fun e => h1 (inR_iff.1 e)) (no _ (nf fun e => h1 (logOk_iff.1 e).1) rfl)
theorem spec_l06Last_is (a b : Int) (l : List IEn) (h : 0 ≤ a ∧ a ≤ 1000000) (hl : l.length ≤ 60) : spec_l06Last.f a b l = some (a + (l.length : Int)) := by
  unfold spec_l06Last.f; rw [w64 (by omega) (by omega)]
def putL (a : Int) (l : List IEn) (i : Int) (e : IEn) : List IEn := l.take (i - a - 1).toNat ++ [e]
def putF (a b : Int) (l : List IEn) (i : Int) (e : IEn) : Int × Int × List IEn × Bool :=
  if logOk a b l = true ∧ (a + 1 ≤ i ∧ i ≤ a + (l.length : Int) + 1) ∧ logOk a b (putL a l i e) = true then (a, b, putL a l i e, true) else (0, 0, [], false)
theorem putF_len (a b : Int) (l : List IEn) (i : Int) (e : IEn) : (putF a b l i e).2.2.1.length ≤ 60 := by
  unfold putF
  split
  · rename_i h; exact (logOk_iff.1 h.2.2).2.2.1.1
  · exact Nat.zero_le _
theorem putL_small {a : Int} {l : List IEn} {i : Int} {e : IEn} (hs : ∀ x ∈ l, x.f2.size ≤ 17592186044416) (he : e.f2.size ≤ 17592186044416) : ∀ x ∈ putL a l i e, x.f2.size ≤ 17592186044416 := by
  intro x hx
  rcases List.mem_append.1 hx with hx | hx
  · exact hs x (List.mem_of_mem_take hx)
  · rw [List.mem_singleton.1 hx]; exact he
def logTermF (a b : Int) (l : List IEn) (i : Int) : Int := if i = a then b else if a < i ∧ i ≤ a + (l.length : Int) then (rd_T35 l (i - a - 1)).f0 else -1
theorem entriesOk_terms : ∀ (l : List IEn) (t : Int), entriesOk t l = true → ∀ x ∈ l, 0 ≤ x.f0
  | [], _, _ => by simp
  | y :: l, t, h => by
    simp only [entriesOk, Bool.and_eq_true] at h
    intro x hx
    rcases List.mem_cons.1 hx with rfl | hx
    · exact (entryOk_term h.1.1).1
    · exact entriesOk_terms l _ h.2 x hx
theorem logTermF_low {a b : Int} {l : List IEn} (h : logOk a b l = true) (i : Int) : logTermF a b l i = -1 ∨ 0 ≤ logTermF a b l i := by
  have hk := logOk_iff.1 h
  unfold logTermF
  split
  · omega
  · split
    · rename_i h1
      right
      have hi : (i - a - 1) = (((i - a - 1).toNat : Nat) : Int) := by omega
      rw [hi, rd_IEn (by omega)]
      exact entriesOk_terms l _ hk.2.2.2 _ (List.getElem_mem _)
    · left; rfl
theorem spec_LogPut_ev (a b : Int) (l : List IEn) (hl : l.length ≤ 1048577) (hs : ∀ x ∈ l, x.f2.size ≤ 17592186044416) (i e0 e1 : Int) (e2 : ByteArray) (he : e2.size ≤ 17592186044416) : Ev (fun k => spec_LogPut.f k a b l i e0 e1 e2) (putF a b l i ⟨e0, e1, e2⟩) := by
  have no : ¬ (logOk a b l = true ∧ (a + 1 ≤ i ∧ i ≤ a + (l.length : Int) + 1) ∧ logOk a b (putL a l i ⟨e0, e1, e2⟩) = true) → Ev (fun k => spec_LogPut.j0 k i true a b l e0 e1 e2) (putF a b l i ⟨e0, e1, e2⟩) := by
    intro h
    rw [putF, if_neg h]
    exact Ev.step (f := fun k => some (0, 0, [], false)) (fun k => by simp only [spec_LogPut.j0, if_true]) (Ev.now _)
  unfold spec_LogPut.f
  refine Ev.bind (spec_LogOk_ev a b l hl hs) ?_
  by_cases h1 : logOk a b l = true
  · have k1 := logOk_iff.1 h1
    refine Ev.pos h1 (Ev.bind0 (spec_l06Last_is a b l k1.1 k1.2.2.1.1) (Ev.bind0 (spec_l01In_is _ _ _) ?_))
    rw [w64 (x := a + 1) (by omega) (by omega), w64 (x := a + (l.length : Int) + 1) (by omega) (by omega)]
    by_cases h2 : a + 1 ≤ i ∧ i ≤ a + (l.length : Int) + 1
    · rw [inR_iff.2 h2]
      show Ev (fun k => spec_LogPut.j0 k i false a b l e0 e1 e2) _
      refine Ev.step (f := fun k => (spec_LogOk.f k a b (putL a l i ⟨e0, e1, e2⟩)).bind fun t => if t = true then some (a, b, putL a l i ⟨e0, e1, e2⟩, true) else some (0, 0, [], false)) (fun k => ?_) (Ev.bind (spec_LogOk_ev a b _ (by simp [putL]; omega) (putL_small hs he)) ?_)
      · simp only [spec_LogPut.j0, Bool.false_eq_true, if_false, Option.bind_some, List.nil_append]
        rw [w64 (x := i - a) (by omega) (by omega), w64 (x := i - a - 1) (by omega) (by omega), if_pos (by omega), if_pos (by omega), if_pos (by simp; omega), if_pos (by simp; omega)]
        rfl
      · by_cases h3 : logOk a b (putL a l i ⟨e0, e1, e2⟩) = true
        · exact Ev.pos h3 ((Ev.now _).eq (by rw [putF, if_pos ⟨h1, h2, h3⟩]))
        · exact Ev.neg h3 ((Ev.now _).eq (by rw [putF, if_neg (fun e => h3 e.2.2)]))
    · have e : inR i (a + 1) (a + (l.length : Int) + 1) = false := by
        cases e : inR i (a + 1) (a + (l.length : Int) + 1) with
        | true => exact absurd (inR_iff.1 e) h2
        | false => rfl
      rw [e]
      exact no (fun e => h2 e.2.1)
  · exact Ev.neg h1 (no (fun e => h1 e.1))
theorem laws_toEntry_is (a b : Int) (c : ByteArray) : laws_toEntry.f a b c = some (a, b, c) := rfl
theorem laws_toEntryS_l0 (l : List LEn) (hl : l.length ≤ 1048576) : ∀ (d i : Nat), i + d = l.length →
    Ev (fun k => laws_toEntryS.l0 k l ((l.map toEn).take i ++ List.replicate (l.length - i) z35) (i : Int)) (l.map toEn)
  | 0, i, h => by
    refine Ev.step (f := fun k => some ((l.map toEn).take i ++ List.replicate (l.length - i) z35)) (fun k => ?_) ((Ev.now _).eq ?_)
    · simp only [laws_toEntryS.l0]; rw [if_neg (by omega)]
    · obtain rfl : i = l.length := by omega
      rw [List.take_of_length_le (by simp)]; simp
  | d + 1, i, h => by
    have hi : i < l.length := by omega
    refine Ev.step (f := fun k => laws_toEntryS.l0 k l ((l.map toEn).take (i + 1) ++ List.replicate (l.length - (i + 1)) z35) ((i + 1 : Nat) : Int)) (fun k => ?_) (laws_toEntryS_l0 l hl d (i + 1) (by omega))
    simp only [laws_toEntryS.l0]
    rw [if_pos (by omega), if_pos (by omega), rd_LEn hi, laws_toEntry_is, Option.bind_some, if_pos (by simp [List.length_take]; omega), w64 (x := (i : Int) + 1) (by omega) (by omega)]
    rw [Int.toNat_natCast]
    have e := fill_step (l.map toEn) z35 i l.length (by simpa using hi) (by simp)
    rw [← e, List.getElem_map]; rfl
theorem laws_toEntryS_ev (l : List LEn) (hl : l.length ≤ 1048576) : Ev (fun k => laws_toEntryS.f k l) (l.map toEn) := by
  unfold laws_toEntryS.f
  refine Ev.pos (by omega) (Ev.pos (by omega) ?_)
  have := laws_toEntryS_l0 l hl l.length 0 (by omega)
  simpa using this
theorem laws_toLog_ev (a b : Int) (l : List LEn) (hl : l.length ≤ 1048576) : Ev (fun k => laws_toLog.f k a b l) (a, b, l.map toEn) := by
  unfold laws_toLog.f
  exact Ev.bind (laws_toEntryS_ev l hl) (Ev.now _)
theorem impl_within_is (a b c : Int) : impl_within.f a b c = some (inR a b c) := by
  unfold impl_within.f inR
  by_cases h : a ≥ b
  · rw [if_pos h]; congr 1; simp; omega
  · rw [if_neg h]; congr 1; simp; omega
theorem impl_ConfOk_l0 (l : List Int) (hl : l.length ≤ 35184372088832) : ∀ (d i : Nat) (p : Int), i + d = l.length → (i = 0 → p = 0) → (0 < i → p = rd l ((i - 1 : Nat) : Int)) →
    Ev (fun k => impl_ConfOk.l0 k l l (l.length : Int) (i : Int)) (decide (1 ≤ l.length ∧ l.length ≤ 4) && riseF p (l.drop i))
  | 0, i, p, h, h0, h1 => by
    refine Ev.step (f := fun k => some (decide (1 ≤ l.length ∧ l.length ≤ 4))) (fun k => ?_) ((Ev.now _).eq ?_)
    · simp only [impl_ConfOk.l0]; rw [if_neg (by omega), impl_within_is, Option.bind_some]
      congr 1
      unfold inR
      congr 1
      simp only [eq_iff_iff]
      omega
    · rw [List.drop_of_length_le (by omega)]; simp [riseF]
  | d + 1, i, p, h, h0, h1 => by
    rw [rd_drop (l := l) (by omega)]
    have ih := impl_ConfOk_l0 l hl d (i + 1) (rd l (i : Int)) (by omega) (by omega) (fun _ => by simp)
    by_cases hin : 1 ≤ rd l (i : Int) ∧ rd l (i : Int) ≤ 4
    · by_cases hi : 0 < i
      · have hp := h1 hi
        have ei : wrap64 ((i : Int) - 1) = ((i - 1 : Nat) : Int) := by rw [w64 (by omega) (by omega)]; omega
        by_cases hlt : p < rd l (i : Int)
        · refine Ev.step (f := fun k => impl_ConfOk.l0 k l l (l.length : Int) ((i + 1 : Nat) : Int)) (fun k => ?_) (ih.eq ?_)
          · simp only [impl_ConfOk.l0]
            rw [if_pos (by omega), if_pos (by omega), if_pos (by omega), impl_within_is, Option.bind_some, if_pos (inR_iff.2 hin), if_pos (by omega), ei, if_pos (by omega), if_pos (by omega), if_neg (by omega)]
            rw [w64 (x := (i : Int) + 1) (by omega) (by omega)]; rfl
          · simp only [riseF]; rw [decide_eq_true (p := _ ∧ _ ∧ _) ⟨hin.1, hin.2, hlt⟩, Bool.true_and]
        · refine Ev.step (f := fun k => some false) (fun k => ?_) ((Ev.now _).eq ?_)
          · simp only [impl_ConfOk.l0]
            rw [if_pos (by omega), if_pos (by omega), if_pos (by omega), impl_within_is, Option.bind_some, if_pos (inR_iff.2 hin), if_pos (by omega), ei, if_pos (by omega), if_pos (by omega), if_pos (by omega)]
          · simp only [riseF]; rw [decide_eq_false (p := _ ∧ _ ∧ _) (fun e => hlt e.2.2), Bool.false_and, Bool.and_false]
      · have hp := h0 (by omega)
        refine Ev.step (f := fun k => impl_ConfOk.l0 k l l (l.length : Int) ((i + 1 : Nat) : Int)) (fun k => ?_) (ih.eq ?_)
        · simp only [impl_ConfOk.l0]
          rw [if_pos (by omega), if_pos (by omega), if_pos (by omega), impl_within_is, Option.bind_some, if_pos (inR_iff.2 hin), if_neg (by omega)]
          rw [w64 (x := (i : Int) + 1) (by omega) (by omega)]; rfl
        · simp only [riseF]; rw [decide_eq_true (p := _ ∧ _ ∧ _) ⟨hin.1, hin.2, by omega⟩, Bool.true_and]
    · refine Ev.step (f := fun k => some false) (fun k => ?_) ((Ev.now _).eq ?_)
      · simp only [impl_ConfOk.l0]
        rw [if_pos (by omega), if_pos (by omega), if_pos (by omega), impl_within_is, Option.bind_some, if_neg (fun e => hin (inR_iff.1 e))]
      · simp only [riseF]; rw [decide_eq_false (p := _ ∧ _ ∧ _) (fun e => hin ⟨e.1, e.2.1⟩), Bool.false_and, Bool.and_false]
theorem impl_ConfOk_ev (l : List Int) (hl : l.length ≤ 35184372088832) : Ev (fun k => impl_ConfOk.f k l) (confOk l) := by
  have := impl_ConfOk_l0 l hl l.length 0 0 (by omega) (fun _ => rfl) (fun h => absurd h (by omega))
  exact this
theorem impl_ReadConf_l0 (s : ByteArray) (hs : s.size ≤ 17592186044416) : ∀ (d i : Nat), i + d = s.size →
    Ev (fun k => impl_ReadConf.l0 k s ((bytesOf s).take i) (i : Int)) (readConf s)
  | 0, i, h => by
    have e : (bytesOf s).take i = bytesOf s := List.take_of_length_le (by rw [bytesOf_length]; omega)
    rw [e]
    refine Ev.step (f := fun k => (impl_ConfOk.f k (bytesOf s)).bind fun t => if t = true then some (bytesOf s, true) else some ([], false)) (fun k => ?_) (Ev.bind (impl_ConfOk_ev _ (by rw [bytesOf_length]; omega)) (Ev.is ?_))
    · simp only [impl_ReadConf.l0]; rw [if_neg (by omega)]
    · unfold readConf
      by_cases h : confOk (bytesOf s) = true
      · rw [if_pos h, if_pos h]
      · rw [if_neg h, if_neg h]
  | d + 1, i, h => by
    have hr := bt_range s (i : Int)
    have hl : ((bytesOf s).take i).length = i := by rw [List.length_take, bytesOf_length]; omega
    refine Ev.step (f := fun k => impl_ReadConf.l0 k s ((bytesOf s).take (i + 1)) ((i + 1 : Nat) : Int)) (fun k => ?_) (impl_ReadConf_l0 s hs d (i + 1) (by omega))
    simp only [impl_ReadConf.l0]
    rw [if_pos (by omega), if_pos (by omega), if_pos (by omega), w64 (x := (i : Int) + 1) (by omega) (by omega), w64 (x := bt s i) (by omega) (by omega)]
    have e := Led.take_succ (s := s) (a := 0) (i := i) (by omega)
    rw [List.drop_zero, Nat.zero_add] at e
    rw [e]; rfl
theorem impl_ReadConf_ev (s : ByteArray) (hs : s.size ≤ 17592186044416) : Ev (fun k => impl_ReadConf.f k s) (readConf s) := by
  have := impl_ReadConf_l0 s hs s.size 0 (by omega)
  rw [List.take_zero] at this
  exact this
theorem impl_EntryOk_ev (a b : Int) (c : ByteArray) (hc : c.size ≤ 17592186044416) : Ev (fun k => impl_EntryOk.f k a b c) (entryOk a b c) := by
  unfold impl_EntryOk.f entryOk
  refine Ev.bind0 (impl_within_is _ _ _) ?_
  by_cases h : 0 ≤ a ∧ a ≤ 100000
  · refine Ev.pos (inR_iff.2 h) ?_
    rw [decide_eq_true h, Bool.true_and]
    by_cases h1 : b = 1
    · refine Ev.pos h1 (Ev.is ?_); rw [if_pos h1]
    · refine Ev.neg h1 ?_
      rw [if_neg h1]
      by_cases h2 : b = 2
      · refine Ev.pos h2 (Ev.bind (impl_ReadConf_ev c (by omega)) (Ev.is ?_)); rw [if_pos h2]
      · refine Ev.neg h2 ?_
        rw [if_neg h2]
        by_cases h3 : b = 3
        · refine Ev.pos h3 (Ev.is ?_); rw [if_pos h3]
        · refine Ev.neg h3 (Ev.is ?_); rw [if_neg h3]
  · refine Ev.neg (fun e => h (inR_iff.1 e)) (Ev.is ?_)
    rw [decide_eq_false h, Bool.false_and]
theorem impl_LogOk_l0 (l : List IEn) (hl : l.length ≤ 1048577) (hs : ∀ x ∈ l, x.f2.size ≤ 17592186044416) : ∀ (d i : Nat) (t : Int), i + d = l.length →
    Ev (fun k => impl_LogOk.l0 k t l (l.length : Int) (i : Int)) (entriesOk t (l.drop i))
  | 0, i, t, h => by
    refine Ev.step (f := fun k => some true) (fun k => ?_) ((Ev.now _).eq ?_)
    · simp only [impl_LogOk.l0]; rw [if_neg (by omega)]
    · rw [List.drop_of_length_le (by omega)]; rfl
  | d + 1, i, t, h => by
    have hx := hs (rd_T35 l (i : Int)) (by rw [rd_IEn (by omega)]; exact List.getElem_mem _)
    rw [rd_IEn_drop (l := l) (i := i) (by omega)]
    have ih := impl_LogOk_l0 l hl hs d (i + 1) (rd_T35 l (i : Int)).f0 (by omega)
    refine Ev.step (f := fun k => (impl_EntryOk.f k (rd_T35 l (i : Int)).f0 (rd_T35 l (i : Int)).f1 (rd_T35 l (i : Int)).f2).bind fun t142 => (if t142 = true then (if (rd_T35 l (i : Int)).f0 < t then some false else impl_LogOk.l0 k (rd_T35 l (i : Int)).f0 l (l.length : Int) ((i + 1 : Nat) : Int)) else some false)) (fun k => ?_) (Ev.bind (impl_EntryOk_ev _ _ _ hx) ?_)
    · simp only [impl_LogOk.l0]
      rw [if_pos (by omega), if_pos (by omega), if_pos (by omega), w64 (x := (i : Int) + 1) (by omega) (by omega)]; rfl
    · generalize rd_T35 l (i : Int) = x at *
      simp only [entriesOk]
      by_cases h1 : entryOk x.f0 x.f1 x.f2 = true
      · refine Ev.pos h1 ?_
        by_cases h2 : x.f0 < t
        · refine Ev.pos h2 ((Ev.now _).eq ?_)
          rw [decide_eq_false (p := t ≤ x.f0) (by omega)]; simp
        · refine Ev.neg h2 (ih.eq ?_)
          rw [h1, decide_eq_true (p := t ≤ x.f0) (by omega)]; simp
      · refine Ev.neg h1 ((Ev.now _).eq ?_)
        rw [Bool.not_eq_true _ |>.mp h1]; simp
theorem impl_LogOk_ev (a b : Int) (l : List IEn) (hl : l.length ≤ 1048577) (hs : ∀ x ∈ l, x.f2.size ≤ 17592186044416) : Ev (fun k => impl_LogOk.f k a b l) (logOk a b l) := by
  have no : ∀ x, logOk a b l = false → x = true → Ev (fun k => impl_LogOk.j0 k x a b l) (logOk a b l) := by
    intro x h hx
    rw [h, hx]
    exact Ev.step (fun k => rfl) (Ev.now _)
  have nf : ¬ logOk a b l = true → logOk a b l = false := fun h => Bool.not_eq_true _ |>.mp h
  unfold impl_LogOk.f
  refine Ev.bind0 (impl_within_is _ _ _) ?_
  by_cases h1 : 0 ≤ a ∧ a ≤ 1000000
  · refine Ev.pos (inR_iff.2 h1) (Ev.bind0 (impl_within_is _ _ _) ?_)
    by_cases h2 : 0 ≤ b ∧ b ≤ 100000
    · refine Ev.pos (inR_iff.2 h2) ?_
      by_cases h3 : l.length ≤ 60
      · refine Ev.neg (by omega) ?_
        rw [w64 (x := a + (l.length : Int)) (by omega) (by omega)]
        by_cases h4 : a + (l.length : Int) ≤ 1000000
        · rw [decide_eq_false (p := a + (l.length : Int) > 1000000) (by omega)]
          refine Ev.step (fun k => rfl) ?_
          refine (impl_LogOk_l0 l hl hs l.length 0 b (by omega)).eq ?_
          unfold logOk
          rw [decide_eq_true h1, decide_eq_true h2, decide_eq_true (p := l.length ≤ 60 ∧ a + (l.length : Int) ≤ 1000000) ⟨h3, h4⟩]; simp
        · exact no _ (nf fun e => h4 (logOk_iff.1 e).2.2.1.2) (decide_eq_true (by omega))
      · exact Ev.pos (by omega) (no _ (nf fun e => h3 (logOk_iff.1 e).2.2.1.1) rfl)
    · exact Ev.neg (fun e => h2 (inR_iff.1 e)) (no _ (nf fun e => h2 (logOk_iff.1 e).2.1) rfl)
  · exact Ev.neg (fun e => h1 (inR_iff.1 e)) (no _ (nf fun e => h1 (logOk_iff.1 e).1) rfl)
theorem impl_last_is (a b : Int) (l : List IEn) (h : 0 ≤ a ∧ a ≤ 1000000) (hl : l.length ≤ 60) : impl_last.f a b l = some (a + (l.length : Int)) := by
  unfold impl_last.f; rw [w64 (by omega) (by omega)]
theorem impl_copyLog_is (a b : Int) (l : List IEn) (hl : l.length ≤ 1048577) : impl_copyLog.f a b l = some (a, b, l) := by
  unfold impl_copyLog.f
  rw [if_pos (by simp; omega), List.nil_append]
theorem impl_LogPut_ev (a b : Int) (l : List IEn) (hl : l.length ≤ 1048577) (hs : ∀ x ∈ l, x.f2.size ≤ 17592186044416) (i e0 e1 : Int) (e2 : ByteArray) (he : e2.size ≤ 17592186044416) : Ev (fun k => impl_LogPut.f k a b l i e0 e1 e2) (putF a b l i ⟨e0, e1, e2⟩) := by
  have no : ¬ (logOk a b l = true ∧ (a + 1 ≤ i ∧ i ≤ a + (l.length : Int) + 1) ∧ logOk a b (putL a l i ⟨e0, e1, e2⟩) = true) → Ev (fun k => impl_LogPut.j0 k i true a b l e0 e1 e2) (putF a b l i ⟨e0, e1, e2⟩) := by
    intro h
    rw [putF, if_neg h]
    exact Ev.step (f := fun k => some (0, 0, [], false)) (fun k => by simp only [impl_LogPut.j0, if_true]) (Ev.now _)
  unfold impl_LogPut.f
  refine Ev.bind (impl_LogOk_ev a b l hl hs) ?_
  by_cases h1 : logOk a b l = true
  · have k1 := logOk_iff.1 h1
    refine Ev.pos h1 (Ev.bind0 (impl_last_is a b l k1.1 k1.2.2.1.1) (Ev.bind0 (impl_within_is _ _ _) ?_))
    rw [w64 (x := a + 1) (by omega) (by omega), w64 (x := a + (l.length : Int) + 1) (by omega) (by omega)]
    by_cases h2 : a + 1 ≤ i ∧ i ≤ a + (l.length : Int) + 1
    · rw [inR_iff.2 h2]
      show Ev (fun k => impl_LogPut.j0 k i false a b l e0 e1 e2) _
      refine Ev.step (f := fun k => (impl_LogOk.f k a b (putL a l i ⟨e0, e1, e2⟩)).bind fun t => if t = true then some (a, b, putL a l i ⟨e0, e1, e2⟩, true) else some (0, 0, [], false)) (fun k => ?_) (Ev.bind (impl_LogOk_ev a b _ (by simp [putL]; omega) (putL_small hs he)) ?_)
      · simp only [impl_LogPut.j0, Bool.false_eq_true, if_false]
        rw [impl_copyLog_is a b l hl]
        simp only [Option.bind_some]
        rw [w64 (x := i - a) (by omega) (by omega), w64 (x := i - a - 1) (by omega) (by omega), if_pos (by omega), if_pos (by omega), if_pos (by simp; omega)]
        rfl
      · by_cases h3 : logOk a b (putL a l i ⟨e0, e1, e2⟩) = true
        · exact Ev.pos h3 ((Ev.now _).eq (by rw [putF, if_pos ⟨h1, h2, h3⟩]))
        · exact Ev.neg h3 ((Ev.now _).eq (by rw [putF, if_neg (fun e => h3 e.2.2)]))
    · have e : inR i (a + 1) (a + (l.length : Int) + 1) = false := by
        cases e : inR i (a + 1) (a + (l.length : Int) + 1) with
        | true => exact absurd (inR_iff.1 e) h2
        | false => rfl
      rw [e]
      exact no (fun e => h2 e.2.1)
  · exact Ev.neg h1 (no (fun e => h1 e.1))
theorem laws_eqEntry_is (a b : Int) (c : ByteArray) : laws_eqEntry.f a b c a b c = some true := by
  unfold laws_eqEntry.f; simp
theorem laws_eqEntryS_l0 (l : List IEn) (hl : l.length ≤ 1048577) : ∀ (d i : Nat), i + d = l.length → Ev (fun k => laws_eqEntryS.l0 k l l (i : Int)) true
  | 0, i, h => by
    refine Ev.step (f := fun k => some true) (fun k => ?_) (Ev.now _)
    simp only [laws_eqEntryS.l0]; rw [if_neg (by omega)]
  | d + 1, i, h => by
    refine Ev.step (f := fun k => laws_eqEntryS.l0 k l l ((i + 1 : Nat) : Int)) (fun k => ?_) (laws_eqEntryS_l0 l hl d (i + 1) (by omega))
    simp only [laws_eqEntryS.l0]
    rw [if_pos (by omega), if_pos (by omega), if_pos (by omega), laws_eqEntry_is, Option.bind_some, if_pos rfl, w64 (x := (i : Int) + 1) (by omega) (by omega)]; rfl
theorem laws_eqEntryS_ev (l : List IEn) (hl : l.length ≤ 1048577) : Ev (fun k => laws_eqEntryS.f k l l) true := by
  unfold laws_eqEntryS.f
  exact Ev.pos rfl (laws_eqEntryS_l0 l hl l.length 0 (by omega))
theorem laws_eqLog_ev (a b : Int) (l : List IEn) (hl : l.length ≤ 1048577) : Ev (fun k => laws_eqLog.f k a b l a b l) true := by
  unfold laws_eqLog.f
  exact Ev.pos rfl (Ev.pos rfl (Ev.bind (laws_eqEntryS_ev l hl) (Ev.pos rfl (Ev.now _))))
theorem laws_markText_l0 : ∀ (n : Nat) (acc : ByteArray), n + acc.size ≤ 1000000000000000 → Ev (fun k => laws_markText.l0 k (n : Int) acc) ((⟨#[109]⟩ : ByteArray) ++ mtD n acc) := by
  intro n
  induction n using Nat.strongRecOn with
  | _ n ih =>
    intro acc ha
    by_cases h : 0 < n
    · have e1 : (wrap64 (48 + Int.tmod (n : Int) 10)) % 256 = ((48 + n % 10 : Nat) : Int) := by
        rw [tm (by omega), w64 (by omega) (by omega)]; omega
      have e2 : wrap64 (Int.tdiv (n : Int) 10) = ((n / 10 : Nat) : Int) := by rw [td (by omega), w64 (by omega) (by omega)]; omega
      have hsz : (strOfNums [((48 + n % 10 : Nat) : Int)]).size = 1 := str_size _
      refine Ev.step (f := fun k => laws_markText.l0 k ((n / 10 : Nat) : Int) (strOfNums [((48 + n % 10 : Nat) : Int)] ++ acc)) (fun k => ?_) ((ih (n / 10) (by omega) _ (by rw [size_append, hsz]; omega)).eq ?_)
      · simp only [laws_markText.l0]
        rw [if_pos (by omega), Option.bind_some, e1, e2, if_pos (by rw [hsz]; omega)]
      · rw [mtD.eq_def n acc, if_pos h]
    · obtain rfl : n = 0 := by omega
      refine Ev.step (f := fun k => some ((⟨#[109]⟩ : ByteArray) ++ acc)) (fun k => ?_) ((Ev.now _).eq ?_)
      · simp only [laws_markText.l0]; rw [if_neg (by omega), if_pos (by omega)]
      · rw [mtD.eq_def 0 acc, if_neg (by omega)]
theorem laws_markText_ev (n : Int) (h : n ≤ 1000000000000000) : Ev (fun k => laws_markText.f k n) (mkT n) := by
  unfold laws_markText.f mkT
  by_cases h0 : n ≤ 0
  · rw [if_pos h0]; exact Ev.pos h0 (Ev.now _)
  · rw [if_neg h0]
    have := laws_markText_l0 n.toNat ⟨#[]⟩ (by show n.toNat + 0 ≤ _; omega)
    rw [Int.toNat_of_nonneg (by omega)] at this
    exact Ev.neg h0 this
def mkEn (m : Int) : IEn := ⟨m, m + 1, mkT (m + 2)⟩
def seq3 (m : Int) : Nat → List IEn
  | 0 => []
  | n + 1 => mkEn m :: seq3 (m + 3) n
theorem seq3_length (m : Int) (n : Nat) : (seq3 m n).length = n := by
  induction n generalizing m with
  | zero => rfl
  | succ n ih => simp [seq3, ih]
theorem seq3_get (m : Int) (n i : Nat) (h : i < (seq3 m n).length) : (seq3 m n)[i] = mkEn (m + 3 * i) := by
  induction n generalizing m i with
  | zero => simp [seq3] at h
  | succ n ih =>
    cases i with
    | zero => simp [seq3]
    | succ i => simp only [seq3, List.getElem_cons_succ]; rw [ih]; congr 1; omega
theorem rd_IEn_set {l : List IEn} {i : Nat} (v : IEn) (h : i < l.length) : rd_T35 (l.set i v) (i : Int) = v := by
  rw [rd_IEn (by simpa using h)]; simp
theorem laws_markEntryS_l0 (l : List IEn) (hl : l.length ≤ 1048577) (m : Int) (h0 : 0 ≤ m) (hm : m ≤ 10000000000000) : ∀ (d i : Nat), i + d = l.length →
    Ev (fun k => laws_markEntryS.l0 k ((seq3 m l.length).take i ++ l.drop i) (m + 3 * i) (i : Int)) (m + 3 * l.length, seq3 m l.length)
  | 0, i, h => by
    obtain rfl : i = l.length := by omega
    have e : (seq3 m l.length).take l.length ++ l.drop l.length = seq3 m l.length := by rw [List.drop_length, List.append_nil, List.take_of_length_le (by rw [seq3_length]; omega)]
    rw [e]
    refine Ev.step (f := fun k => some (m + 3 * (l.length : Int), seq3 m l.length)) (fun k => ?_) (Ev.now _)
    simp only [laws_markEntryS.l0]; rw [if_neg (by rw [seq3_length]; omega)]
  | d + 1, i, h => by
    have hM : (seq3 m l.length).length = l.length := seq3_length _ _
    have hL : ((seq3 m l.length).take i ++ l.drop i).length = l.length := by rw [List.length_append, List.length_take, List.length_drop, hM]; omega
    have em := mark_step (seq3 m l.length) l i (by omega) hM
    rw [seq3_get] at em
    generalize hX : (seq3 m l.length).take i ++ l.drop i = X at hL em ⊢
    have hi : i < X.length := by omega
    refine Ev.step (f := fun k => (laws_markText.f k (m + 3 * i + 2)).bind fun t => laws_markEntryS.l0 k (X.set i ⟨m + 3 * i, m + 3 * i + 1, t⟩) (m + 3 * ((i + 1 : Nat) : Int)) ((i + 1 : Nat) : Int)) (fun k => ?_) (Ev.bind (laws_markText_ev _ (by omega)) ((laws_markEntryS_l0 l hl m h0 hm d (i + 1) (by omega)).congr' ?_))
    · simp only [laws_markEntryS.l0]
      rw [if_pos (by omega), if_pos (by omega)]
      have w1 : wrap64 (m + 3 * (i : Int) + 1) = m + 3 * i + 1 := w64 (by omega) (by omega)
      have w2 : wrap64 (m + 3 * (i : Int) + 1 + 1) = m + 3 * i + 2 := by rw [w64 (by omega) (by omega)]; omega
      have w3 : wrap64 (m + 3 * (i : Int) + 2 + 1) = m + 3 * ((i + 1 : Nat) : Int) := by rw [w64 (by omega) (by omega)]; omega
      have w4 : wrap64 ((i : Int) + 1) = ((i + 1 : Nat) : Int) := by rw [w64 (by omega) (by omega)]; omega
      simp only [Option.bind_some, Int.toNat_natCast, w1, w2, w3, w4]
      have r1 : ∀ v : IEn, rd_T35 (X.set i v) (i : Int) = v := fun v => rd_IEn_set v hi
      have r2 : ∀ v u : IEn, rd_T35 ((X.set i v).set i u) (i : Int) = u := fun v u => rd_IEn_set u (by simpa using hi)
      simp only [r1, r2, List.set_set]
    · intro k
      have e2 : (⟨m + 3 * (i : Int), m + 3 * (i : Int) + 1, mkT (m + 3 * (i : Int) + 2)⟩ : IEn) = mkEn (m + 3 * i) := rfl
      rw [e2, em]
theorem laws_markEntryS_ev (l : List IEn) (hl : l.length ≤ 1048577) (m : Int) (h0 : 0 ≤ m) (hm : m ≤ 10000000000000) : Ev (fun k => laws_markEntryS.f k l m) (m + 3 * l.length, seq3 m l.length) := by
  have := laws_markEntryS_l0 l hl m h0 hm l.length 0 (by omega)
  show Ev (fun k => laws_markEntryS.l0 k l m 0) _
  simpa using this
theorem laws_markLog_ev (a b : Int) (l : List IEn) (hl : l.length ≤ 1048577) : Ev (fun k => laws_markLog.f k a b l 1) (1 + 3 * (l.length : Int), seq3 1 l.length) := by
  unfold laws_markLog.f
  exact Ev.bind (laws_markEntryS_ev l hl 1 (by omega) (by omega)) (Ev.now _)
theorem laws_heldEntryS_l0 (n : Nat) (hl : n ≤ 1048577) (m : Int) (h0 : 0 ≤ m) (hm : m ≤ 10000000000000) : ∀ (d i : Nat), i + d = n →
    Ev (fun k => laws_heldEntryS.l0 k (seq3 m n) (m + 3 * i) (i : Int)) (m + 3 * n)
  | 0, i, h => by
    obtain rfl : i = n := by omega
    refine Ev.step (f := fun k => some (m + 3 * (i : Int))) (fun k => ?_) (Ev.now _)
    simp only [laws_heldEntryS.l0]; rw [if_neg (by rw [seq3_length]; omega)]
  | d + 1, i, h => by
    have er : rd_T35 (seq3 m n) (i : Int) = mkEn (m + 3 * i) := by rw [rd_IEn (by rw [seq3_length]; omega), seq3_get]
    refine Ev.step (f := fun k => (laws_markText.f k (m + 3 * i + 2)).bind fun t => if (mkT (m + 3 * i + 2)).toList = t.toList then laws_heldEntryS.l0 k (seq3 m n) (m + 3 * ((i + 1 : Nat) : Int)) ((i + 1 : Nat) : Int) else some (-1)) (fun k => ?_) (Ev.bind (laws_markText_ev _ (by omega)) (Ev.pos rfl (laws_heldEntryS_l0 n hl m h0 hm d (i + 1) (by omega))))
    simp only [laws_heldEntryS.l0]
    have w1 : wrap64 (m + 3 * (i : Int) + 1) = m + 3 * i + 1 := w64 (by omega) (by omega)
    have w2 : wrap64 (m + 3 * (i : Int) + 1 + 1) = m + 3 * i + 2 := by rw [w64 (by omega) (by omega)]; omega
    have w3 : wrap64 (m + 3 * (i : Int) + 2 + 1) = m + 3 * ((i + 1 : Nat) : Int) := by rw [w64 (by omega) (by omega)]; omega
    have w4 : wrap64 ((i : Int) + 1) = ((i + 1 : Nat) : Int) := by rw [w64 (by omega) (by omega)]; omega
    rw [if_pos (by rw [seq3_length]; omega), if_pos (by omega), er]
    simp only [mkEn, w1, w2, w3, w4, if_true]
theorem laws_heldEntryS_ev (n : Nat) (hl : n ≤ 1048577) (m : Int) (h0 : 0 ≤ m) (hm : m ≤ 10000000000000) : Ev (fun k => laws_heldEntryS.f k (seq3 m n) m) (m + 3 * n) := by
  have := laws_heldEntryS_l0 n hl m h0 hm n 0 (by omega)
  show Ev (fun k => laws_heldEntryS.l0 k (seq3 m n) m 0) _
  simpa using this
theorem laws_heldLog_ev (a b : Int) (n : Nat) (hl : n ≤ 1048577) : Ev (fun k => laws_heldLog.f k a b (seq3 1 n) 1) (1 + 3 * (n : Int)) := by
  unfold laws_heldLog.f
  exact Ev.bind (laws_heldEntryS_ev n hl 1 (by omega) (by omega)) (Ev.neg (by omega) (Ev.now _))
theorem toEn_small {l : List LEn} {n : Nat} (h : ∀ x ∈ l, (x.f2.size : Int) ≤ n) : ∀ x ∈ l.map toEn, x.f2.size ≤ n := by
  intro x hx
  obtain ⟨y, hy, rfl⟩ := List.mem_map.1 hx
  have := h y hy
  simp only [toEn]; omega
theorem FnExactLogPut : laws_FnExactLogPut.Pure := by
  intro a b l i c d s hg hi hg2
  obtain ⟨ha, hb, hl, hx⟩ := hg
  obtain ⟨hc, hd, hsz⟩ := hg2
  apply Ev.rounds
  unfold laws_FnExactLogPut.f
  obtain ⟨r, hr, hz⟩ := laws_szLog_ev a b l 1048576 hl (fun x h => (hx x h).2.2) (by omega) (by omega)
  refine Ev.bind hr ?_
  rcases hz with hz | ⟨h0, h1, h2, h3⟩
  · exact Ev.pos hz (Ev.now _)
  · refine Ev.neg (by omega) ?_
    obtain ⟨r', hr', hz'⟩ := laws_szEntry_is c d s r (by omega) (by omega) hsz
    refine Ev.bind0 hr' ?_
    rcases hz' with hz' | ⟨_, _, hss⟩
    · exact Ev.pos hz' (Ev.now _)
    · have hm : (l.map toEn).length ≤ 1048576 := by simpa using h2
      have hs : ∀ x ∈ l.map toEn, x.f2.size ≤ 17592186044416 := fun x h => Nat.le_trans (toEn_small (n := 1048576) h3 x h) (by omega)
      have es := spec_LogPut_ev a b (l.map toEn) (by omega) hs i c d s (by omega)
      have ei := impl_LogPut_ev a b (l.map toEn) (by omega) hs i c d s (by omega)
      have hn := putF_len a b (l.map toEn) i ⟨c, d, s⟩
      generalize putF a b (l.map toEn) i ⟨c, d, s⟩ = z at es ei hn
      have tl := laws_toLog_ev a b l h2
      have te := laws_toEntry_is c d s
      have eq := laws_eqLog_ev z.1 z.2.1 z.2.2.1 (by omega)
      refine Ev.neg (by omega) (Ev.bind tl (Ev.bind0 te (Ev.bind es (Ev.bind tl (Ev.bind0 te (Ev.bind ei (Ev.bind eq (Ev.pos rfl ?_))))))))
      rw [show (z.2.2.2 != z.2.2.2) = false from by simp]
      refine Ev.step (fun k => rfl) (Ev.bind tl (Ev.bind (laws_eqLog_ev a b (l.map toEn) (by omega)) (Ev.pos rfl (Ev.bind (laws_markLog_ev a b (l.map toEn) (by omega)) (Ev.neg (by simp only; omega) (Ev.bind eq (Ev.pos rfl ?_)))))))
      rw [show (z.2.2.2 != z.2.2.2) = false from by simp]
      have held := laws_heldLog_ev z.1 z.2.1 z.2.2.1.length (by omega)
      refine Ev.step (fun k => rfl) (Ev.bind (laws_markLog_ev z.1 z.2.1 z.2.2.1 (by omega)) (Ev.bind held (Ev.neg (by omega) (Ev.pos rfl (Ev.bind tl (Ev.bind0 te (Ev.bind ei (Ev.bind eq (Ev.pos rfl ?_)))))))))
      rw [show (z.2.2.2 != z.2.2.2) = false from by simp]
      exact Ev.step (fun k => rfl) (Ev.bind held (Ev.neg (by omega) (Ev.pos rfl (Ev.now _))))

end Go.Proofs.Ytknbkjajfiediaa.Pure
