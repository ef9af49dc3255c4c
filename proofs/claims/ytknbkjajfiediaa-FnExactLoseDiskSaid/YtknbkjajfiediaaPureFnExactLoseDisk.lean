/- The law FnExactLoseDisk answers true at every input; no condition. -/
import Derived.Test.YtknbkjajfiediaaQFnExactLoseDiskx7
import Derived.Test.YtknbkjajfiediaaTM
namespace Go.Proofs.Ytknbkjajfiediaa.QFnExactLoseDisk
open Go.RowKit
/-- What is left to be shown of the law: over numbers, texts and lists alone. -/
def laws_FnExactLoseDisk.Pure : Prop := ∀ (l0_0 : List (S160)) (l1 : List (Int)), (l0_0.length ≤ maxLen ∧ ∀ x ∈ l0_0, (x.f0.size ≤ maxLen ∧ x.f1.size ≤ maxLen ∧ (Lit.int .i64 x.f2).wf = true)) → (l1.length ≤ maxLen ∧ ∀ x ∈ l1, (Lit.int .i64 x).wf = true) → ∃ k, laws_FnExactLoseDisk.f k l0_0 l1 = some true
end Go.Proofs.Ytknbkjajfiediaa.QFnExactLoseDisk
namespace Go.Proofs.Ytknbkjajfiediaa.Pure
open Go.RowKit Go.Proofs.Ytknbkjajfiediaa.QFnExactLoseDisk Go.Proofs.YtknbkjajfiediaaW.PrintWords Go.Proofs.YtknbkjajfiediaaW.PrintLast Go.Proofs.YtknbkjajfiediaaW.PrintMore Go.Proofs.Ytknbkjajfiediaa.M
set_option linter.unusedVariables false
set_option linter.unusedSimpArgs false
set_option maxRecDepth 4000

theorem impl_within_is (a b c : Int) : impl_within.f a b c = some (inR a b c) := by
  unfold impl_within.f inR
  by_cases h : a ≥ b
  · rw [if_pos h]; congr 1; simp; omega
  · rw [if_neg h]; congr 1; simp; omega
abbrev IFi := S60
theorem rd_IFi {l : List IFi} {i : Nat} (h : i < l.length) : rd_T60 l (i : Int) = l[i] := by
  simp [rd_T60, List.getD_eq_getElem?_getD, List.getElem?_eq_getElem h]
theorem rd_IFi_drop {l : List IFi} {i : Nat} (h : i < l.length) : l.drop i = rd_T60 l (i : Int) :: l.drop (i + 1) := by
  rw [List.drop_eq_getElem_cons h, rd_IFi h]
def bLess (a b : ByteArray) : Bool := Go.Op.bytesLess a.toList b.toList
def fileOk (x : IFi) : Bool := decide (1 ≤ x.f0.size ∧ x.f0.size ≤ 8) && decide (x.f1.size ≤ 20000) && decide (0 ≤ x.f2 ∧ x.f2 ≤ (x.f1.size : Int))
def above : Option ByteArray → ByteArray → Bool
  | none, _ => true
  | some q, s => bLess q s
def filesOk : Option ByteArray → List IFi → Bool
  | _, [] => true
  | p, x :: l => fileOk x && above p x.f0 && filesOk (some x.f0) l
def diskOk (l : List IFi) : Bool := decide (l.length ≤ 30) && filesOk none l
theorem impl_DiskOk_l0 (l : List IFi) (hl : l.length ≤ 1048577) : ∀ (d i : Nat) (p : Option ByteArray), i + d = l.length → (i = 0 → p = none) → (0 < i → p = some (rd_T60 l ((i - 1 : Nat) : Int)).f0) →
    Ev (fun k => impl_DiskOk.l0 k l (l.length : Int) (i : Int) l) (decide (l.length ≤ 30) && filesOk p (l.drop i))
  | 0, i, p, h, h0, h1 => by
    refine Ev.step (f := fun k => some (decide ((l.length : Int) ≤ 30))) (fun k => ?_) ((Ev.now _).eq ?_)
    · simp only [impl_DiskOk.l0]; rw [if_neg (by omega)]
    · rw [List.drop_of_length_le (by omega)]
      simp only [filesOk, Bool.and_true]
      congr 1
      simp only [eq_iff_iff]; omega
  | d + 1, i, p, h, h0, h1 => by
    rw [rd_IFi_drop (l := l) (i := i) (by omega)]
    have ih := impl_DiskOk_l0 l hl d (i + 1) (some (rd_T60 l (i : Int)).f0) (by omega) (by omega) (fun _ => by simp)
    have a1i : ∀ s : ByteArray, inR (s.size : Int) 1 8 = decide (1 ≤ s.size ∧ s.size ≤ 8) := by
      intro s; unfold inR; congr 1; simp only [eq_iff_iff]; omega
    generalize hx : rd_T60 l (i : Int) = x at *
    simp only [filesOk, fileOk]
    by_cases a1 : 1 ≤ x.f0.size ∧ x.f0.size ≤ 8
    · by_cases a2 : x.f1.size ≤ 20000
      · by_cases a3 : 0 ≤ x.f2 ∧ x.f2 ≤ (x.f1.size : Int)
        · rw [decide_eq_true a1, decide_eq_true a2, decide_eq_true a3, Bool.true_and, Bool.true_and, Bool.true_and]
          by_cases hi : 0 < i
          · rw [h1 hi]
            have ei : wrap64 ((i : Int) - 1) = ((i - 1 : Nat) : Int) := by rw [w64 (by omega) (by omega)]; omega
            by_cases hb : bLess (rd_T60 l ((i - 1 : Nat) : Int)).f0 x.f0 = true
            · refine Ev.step (f := fun k => impl_DiskOk.l0 k l (l.length : Int) ((i + 1 : Nat) : Int) l) (fun k => ?_) (ih.eq ?_)
              · simp only [impl_DiskOk.l0]
                rw [if_pos (by omega), if_pos (by omega), if_pos (by omega), hx, impl_within_is, Option.bind_some, a1i, if_pos (decide_eq_true a1), if_neg (by omega), impl_within_is, Option.bind_some, if_pos (inR_iff.2 a3), if_pos (by omega), ei, if_pos (by omega), if_pos (by omega), if_pos (show Go.Op.bytesLess _ _ = true from hb)]
                rw [w64 (x := (i : Int) + 1) (by omega) (by omega)]; rfl
              · simp only [above]; rw [hb, Bool.true_and]
            · refine Ev.step (f := fun k => some false) (fun k => ?_) ((Ev.now _).eq ?_)
              · simp only [impl_DiskOk.l0]
                rw [if_pos (by omega), if_pos (by omega), if_pos (by omega), hx, impl_within_is, Option.bind_some, a1i, if_pos (decide_eq_true a1), if_neg (by omega), impl_within_is, Option.bind_some, if_pos (inR_iff.2 a3), if_pos (by omega), ei, if_pos (by omega), if_pos (by omega), if_neg (show ¬ Go.Op.bytesLess _ _ = true from hb)]
              · simp only [above]; rw [Bool.not_eq_true _ |>.mp hb, Bool.false_and, Bool.and_false]
          · rw [h0 (by omega)]
            refine Ev.step (f := fun k => impl_DiskOk.l0 k l (l.length : Int) ((i + 1 : Nat) : Int) l) (fun k => ?_) (ih.eq ?_)
            · simp only [impl_DiskOk.l0]
              rw [if_pos (by omega), if_pos (by omega), if_pos (by omega), hx, impl_within_is, Option.bind_some, a1i, if_pos (decide_eq_true a1), if_neg (by omega), impl_within_is, Option.bind_some, if_pos (inR_iff.2 a3), if_neg (by omega)]
              rw [w64 (x := (i : Int) + 1) (by omega) (by omega)]; rfl
            · simp only [above]; rw [Bool.true_and]
        · refine Ev.step (f := fun k => some false) (fun k => ?_) ((Ev.now _).eq ?_)
          · simp only [impl_DiskOk.l0]
            rw [if_pos (by omega), if_pos (by omega), if_pos (by omega), hx, impl_within_is, Option.bind_some, a1i, if_pos (decide_eq_true a1), if_neg (by omega), impl_within_is, Option.bind_some, if_neg (fun e => a3 (inR_iff.1 e))]
          · rw [decide_eq_false a3]; simp
      · refine Ev.step (f := fun k => some false) (fun k => ?_) ((Ev.now _).eq ?_)
        · simp only [impl_DiskOk.l0]
          rw [if_pos (by omega), if_pos (by omega), if_pos (by omega), hx, impl_within_is, Option.bind_some, a1i, if_pos (decide_eq_true a1), if_pos (by omega)]
        · rw [decide_eq_false a2]; simp
    · refine Ev.step (f := fun k => some false) (fun k => ?_) ((Ev.now _).eq ?_)
      · simp only [impl_DiskOk.l0]
        rw [if_pos (by omega), if_pos (by omega), if_pos (by omega), hx, impl_within_is, Option.bind_some, a1i, if_neg (by rw [decide_eq_true_eq]; exact a1)]
      · rw [decide_eq_false a1]; simp
theorem impl_DiskOk_ev (l : List IFi) (hl : l.length ≤ 1048577) : Ev (fun k => impl_DiskOk.f k l) (diskOk l) :=
  impl_DiskOk_l0 l hl l.length 0 none (by omega) (fun _ => rfl) (fun h => absurd h (by omega))
/-- How much of a file is left: what is kept, and of the rest as much as 'left' has at its place. -/
def leftN (x : IFi) (n : Int) : Int := max x.f2 (min n (x.f1.size : Int))
def loseF (x : IFi) (n : Int) : IFi := ⟨x.f0, x.f1.extract 0 (leftN x n).toNat, leftN x n⟩
def loseL : List IFi → List Int → List IFi
  | [], _ => []
  | x :: l, [] => loseF x 0 :: loseL l []
  | x :: l, n :: r => loseF x n :: loseL l r
def loseDisk (l : List IFi) (r : List Int) : List IFi × Bool := if diskOk l = true then (loseL l r, true) else ([], false)
theorem loseL_length : ∀ (l : List IFi) (r : List Int), (loseL l r).length = l.length
  | [], _ => rfl
  | x :: l, [] => by simp [loseL, loseL_length l []]
  | x :: l, n :: r => by simp [loseL, loseL_length l r]
theorem filesOk_range : ∀ (l : List IFi) (p : Option ByteArray), filesOk p l = true → ∀ x ∈ l, 0 ≤ x.f2 ∧ x.f2 ≤ (x.f1.size : Int) ∧ x.f1.size ≤ 20000
  | [], _, _ => by simp
  | y :: l, p, h => by
    simp only [filesOk, Bool.and_eq_true] at h
    intro x hx
    rcases List.mem_cons.1 hx with rfl | hx
    · have := h.1.1
      simp only [fileOk, Bool.and_eq_true, decide_eq_true_eq] at this
      exact ⟨this.2.1, this.2.2, this.1.2⟩
    · exact filesOk_range l _ h.2 x hx
theorem diskOk_range {l : List IFi} (h : diskOk l = true) : l.length ≤ 30 ∧ ∀ x ∈ l, 0 ≤ x.f2 ∧ x.f2 ≤ (x.f1.size : Int) ∧ x.f1.size ≤ 20000 := by
  unfold diskOk at h
  simp only [Bool.and_eq_true, decide_eq_true_eq] at h
  exact ⟨h.1, filesOk_range l _ h.2⟩
theorem impl_LoseDisk_row : ∀ (l : List IFi) (r : List Int), impl_LoseDisk.row l r = loseL l r
  | [], _ => rfl
  | x :: l, [] => by simp only [impl_LoseDisk.row, loseL]; rw [impl_LoseDisk_row l []]; rfl
  | x :: l, n :: r => by simp only [impl_LoseDisk.row, loseL]; rw [impl_LoseDisk_row l r]; rfl
theorem impl_LoseDisk_ev (l : List IFi) (hl : l.length ≤ 1048577) (r : List Int) : Ev (fun k => impl_LoseDisk.f k l r) (loseDisk l r) := by
  by_cases h : diskOk l = true
  · have e : loseDisk l r = (loseL l r, true) := by rw [loseDisk, if_pos h]
    rw [e]
    unfold impl_LoseDisk.f
    simp only [impl_LoseDisk_row]
    have hr := diskOk_range h
    refine Ev.bind (impl_DiskOk_ev l hl) (Ev.pos h (Ev.pos ⟨by have := hr.1; omega, ?_⟩ (Ev.now _)))
    refine List.all_eq_true.2 (fun x hx => decide_eq_true ?_)
    have := hr.2 x hx
    exact ⟨this.1, this.2.1, by omega⟩
  · have e : loseDisk l r = ([], false) := by rw [loseDisk, if_neg h]
    rw [e]
    unfold impl_LoseDisk.f
    exact Ev.bind (impl_DiskOk_ev l hl) (Ev.neg h (Ev.now _))
theorem loseDisk_len (l : List IFi) (r : List Int) : (loseDisk l r).1.length ≤ l.length := by
  unfold loseDisk
  split
  · simp only; rw [loseL_length]; exact Nat.le_refl _
  · exact Nat.zero_le _
theorem laws_szFile_is (a b : ByteArray) (c : Int) (left : Int) (h0 : 0 ≤ left) (h1 : left ≤ 1048576) (ha : a.size ≤ maxLen) (hb : b.size ≤ maxLen) :
    ∃ r, laws_szFile.f a b c left = some r ∧ (r < 0 ∨ 0 ≤ r ∧ r ≤ left ∧ (a.size : Int) ≤ left ∧ (b.size : Int) ≤ left) := by
  unfold laws_szFile.f
  simp only [maxLen] at ha hb
  rw [w64 (x := left - (a.size : Int)) (by omega) (by omega)]
  by_cases h : left - (a.size : Int) < 0
  · exact ⟨-1, by rw [if_pos h], .inl (by omega)⟩
  · rw [if_neg h, w64 (x := left - (a.size : Int) - (b.size : Int)) (by omega) (by omega)]
    by_cases h' : left - (a.size : Int) - (b.size : Int) < 0
    · exact ⟨-1, by rw [if_pos h'], .inl (by omega)⟩
    · exact ⟨_, by rw [if_neg h'], .inr (by omega)⟩
abbrev LFi := S160
def toFi (x : LFi) : IFi := ⟨x.f0, x.f1, x.f2⟩
theorem rd_LFi {l : List LFi} {i : Nat} (h : i < l.length) : rd_T160 l (i : Int) = l[i] := by
  simp [rd_T160, List.getD_eq_getElem?_getD, List.getElem?_eq_getElem h]
theorem laws_szFileS_l0 (l : List LFi) (hl : l.length ≤ 1048576) (hg : ∀ x ∈ l, x.f0.size ≤ maxLen ∧ x.f1.size ≤ maxLen) : ∀ (d i : Nat) (left : Int), i + d = l.length → 0 ≤ left → left ≤ 1048576 →
    ∃ r, Ev (fun k => laws_szFileS.l0 k l left (i : Int)) r ∧ (r < 0 ∨ 0 ≤ r ∧ r ≤ left ∧ ∀ x ∈ l.drop i, (x.f0.size : Int) ≤ left ∧ (x.f1.size : Int) ≤ left)
  | 0, i, left, h, h0, h1 => by
    refine ⟨left, Ev.step (f := fun k => some left) (fun k => ?_) (Ev.now _), .inr ⟨h0, by omega, ?_⟩⟩
    · simp only [laws_szFileS.l0]; rw [if_neg (by omega)]
    · rw [List.drop_of_length_le (by omega)]; simp
  | d + 1, i, left, h, h0, h1 => by
    have hi : i < l.length := by omega
    have hgi := hg _ (List.getElem_mem hi)
    obtain ⟨r, hr, hx⟩ := laws_szFile_is l[i].f0 l[i].f1 l[i].f2 left h0 h1 hgi.1 hgi.2
    rcases hx with hx | ⟨hx0, hx1, hx2⟩
    · refine ⟨-1, Ev.step (f := fun k => some (-1)) (fun k => ?_) (Ev.now _), .inl (by omega)⟩
      simp only [laws_szFileS.l0]
      rw [if_pos (by omega), if_pos (by omega), rd_LFi hi, hr, Option.bind_some, if_pos hx]
    · obtain ⟨r', hr', hy⟩ := laws_szFileS_l0 l hl hg d (i + 1) r (by omega) (by omega) (by omega)
      refine ⟨r', Ev.step (f := fun k => laws_szFileS.l0 k l r ((i + 1 : Nat) : Int)) (fun k => ?_) hr', ?_⟩
      · simp only [laws_szFileS.l0]
        rw [if_pos (by omega), if_pos (by omega), rd_LFi hi, hr, Option.bind_some, if_neg (by omega), w64 (x := (i : Int) + 1) (by omega) (by omega)]; rfl
      · rcases hy with hy | ⟨hy0, hy1, hy2⟩
        · exact .inl hy
        · refine .inr ⟨hy0, by omega, ?_⟩
          rw [List.drop_eq_getElem_cons hi]
          intro x hx
          rcases List.mem_cons.1 hx with rfl | hx
          · exact hx2
          · have := hy2 x hx; omega
theorem laws_szFileS_ev (l : List LFi) (left : Int) (hl : l.length ≤ maxLen) (hg : ∀ x ∈ l, x.f0.size ≤ maxLen ∧ x.f1.size ≤ maxLen) (h0 : 0 ≤ left) (h1 : left ≤ 1048576) :
    ∃ r, Ev (fun k => laws_szFileS.f k l left) r ∧ (r < 0 ∨ 0 ≤ r ∧ r ≤ left ∧ l.length ≤ 1048576 ∧ ∀ x ∈ l, (x.f0.size : Int) ≤ left ∧ (x.f1.size : Int) ≤ left) := by
  simp only [maxLen] at hl
  have e : wrap64 (left - (l.length : Int)) = left - l.length := w64 (by omega) (by omega)
  by_cases h : left - (l.length : Int) < 0
  · exact ⟨-1, by unfold laws_szFileS.f; rw [e]; exact Ev.pos h (Ev.now _), .inl (by omega)⟩
  · obtain ⟨r, hr, hx⟩ := laws_szFileS_l0 l (by omega) hg l.length 0 (left - l.length) (by omega) (by omega) (by omega)
    refine ⟨r, by unfold laws_szFileS.f; rw [e]; exact Ev.neg h hr, ?_⟩
    rcases hx with hx | ⟨hx0, hx1, hx2⟩
    · exact .inl hx
    · exact .inr ⟨hx0, by omega, by omega, fun x hx => by have := hx2 x (by simpa using hx); omega⟩
theorem laws_szDisk_ev (l : List LFi) (left : Int) (hl : l.length ≤ maxLen) (hg : ∀ x ∈ l, x.f0.size ≤ maxLen ∧ x.f1.size ≤ maxLen) (h0 : 0 ≤ left) (h1 : left ≤ 1048576) :
    ∃ r, Ev (fun k => laws_szDisk.f k l left) r ∧ (r < 0 ∨ 0 ≤ r ∧ r ≤ left ∧ l.length ≤ 1048576 ∧ ∀ x ∈ l, (x.f0.size : Int) ≤ left ∧ (x.f1.size : Int) ≤ left) := by
  obtain ⟨r, hr, hx⟩ := laws_szFileS_ev l left hl hg h0 h1
  by_cases h : r < 0
  · exact ⟨-1, by unfold laws_szDisk.f; exact Ev.bind hr (Ev.pos h (Ev.now _)), .inl (by omega)⟩
  · refine ⟨r, by unfold laws_szDisk.f; exact Ev.bind hr (Ev.neg h (Ev.now _)), ?_⟩
    rcases hx with hx | hx
    · exact absurd hx h
    · exact .inr hx
theorem spec_l01In_is (a b c : Int) : spec_l01In.f a b c = some (inR a b c) := by
  unfold spec_l01In.f inR
  by_cases h : a ≥ b
  · rw [if_pos h]; congr 1; simp; omega
  · rw [if_neg h]; congr 1; simp; omega
theorem spec_l03Name_is (s : ByteArray) : spec_l03Name.f s = some (decide (1 ≤ s.size ∧ s.size ≤ 8)) := by
  unfold spec_l03Name.f
  rw [spec_l01In_is, Option.bind_some]
  congr 1
  unfold inR
  congr 1
  simp only [eq_iff_iff]; omega
theorem spec_DiskOk_l0 (l : List IFi) (hl : l.length ≤ 30) : ∀ (d i : Nat) (p : Option ByteArray), i + d = l.length → (i = 0 → p = none) → (0 < i → p = some (rd_T60 l ((i - 1 : Nat) : Int)).f0) →
    Ev (fun k => spec_DiskOk.l0 k (i : Int) l) (filesOk p (l.drop i))
  | 0, i, p, h, h0, h1 => by
    refine Ev.step (f := fun k => some true) (fun k => ?_) ((Ev.now _).eq ?_)
    · simp only [spec_DiskOk.l0]; rw [if_neg (by omega)]
    · rw [List.drop_of_length_le (by omega)]; rfl
  | d + 1, i, p, h, h0, h1 => by
    rw [rd_IFi_drop (l := l) (i := i) (by omega)]
    have ih := spec_DiskOk_l0 l hl d (i + 1) (some (rd_T60 l (i : Int)).f0) (by omega) (by omega) (fun _ => by simp)
    generalize hx : rd_T60 l (i : Int) = x at *
    simp only [filesOk, fileOk]
    by_cases a1 : 1 ≤ x.f0.size ∧ x.f0.size ≤ 8
    · by_cases a2 : x.f1.size ≤ 20000
      · by_cases a3 : 0 ≤ x.f2 ∧ x.f2 ≤ (x.f1.size : Int)
        · rw [decide_eq_true a1, decide_eq_true a2, decide_eq_true a3, Bool.true_and, Bool.true_and, Bool.true_and]
          by_cases hi : 0 < i
          · rw [h1 hi]
            have ei : wrap64 ((i : Int) - 1) = ((i - 1 : Nat) : Int) := by rw [w64 (by omega) (by omega)]; omega
            by_cases hb : bLess (rd_T60 l ((i - 1 : Nat) : Int)).f0 x.f0 = true
            · refine Ev.step (f := fun k => spec_DiskOk.l0 k ((i + 1 : Nat) : Int) l) (fun k => ?_) (ih.eq ?_)
              · simp only [spec_DiskOk.l0]
                rw [if_pos (by omega), if_pos (by omega), hx, spec_l03Name_is, Option.bind_some, if_pos (decide_eq_true a1), if_neg (by omega), spec_l01In_is, Option.bind_some, if_pos (inR_iff.2 a3), if_pos (by omega), ei, if_pos (by omega), if_pos (by omega), if_pos (show Go.Op.bytesLess _ _ = true from hb)]
                rw [w64 (x := (i : Int) + 1) (by omega) (by omega)]; rfl
              · simp only [above]; rw [hb, Bool.true_and]
            · refine Ev.step (f := fun k => some false) (fun k => ?_) ((Ev.now _).eq ?_)
              · simp only [spec_DiskOk.l0]
                rw [if_pos (by omega), if_pos (by omega), hx, spec_l03Name_is, Option.bind_some, if_pos (decide_eq_true a1), if_neg (by omega), spec_l01In_is, Option.bind_some, if_pos (inR_iff.2 a3), if_pos (by omega), ei, if_pos (by omega), if_pos (by omega), if_neg (show ¬ Go.Op.bytesLess _ _ = true from hb)]
              · simp only [above]; rw [Bool.not_eq_true _ |>.mp hb, Bool.false_and]
          · rw [h0 (by omega)]
            refine Ev.step (f := fun k => spec_DiskOk.l0 k ((i + 1 : Nat) : Int) l) (fun k => ?_) (ih.eq ?_)
            · simp only [spec_DiskOk.l0]
              rw [if_pos (by omega), if_pos (by omega), hx, spec_l03Name_is, Option.bind_some, if_pos (decide_eq_true a1), if_neg (by omega), spec_l01In_is, Option.bind_some, if_pos (inR_iff.2 a3), if_neg (by omega)]
              rw [w64 (x := (i : Int) + 1) (by omega) (by omega)]; rfl
            · simp only [above]; rw [Bool.true_and]
        · refine Ev.step (f := fun k => some false) (fun k => ?_) ((Ev.now _).eq ?_)
          · simp only [spec_DiskOk.l0]
            rw [if_pos (by omega), if_pos (by omega), hx, spec_l03Name_is, Option.bind_some, if_pos (decide_eq_true a1), if_neg (by omega), spec_l01In_is, Option.bind_some, if_neg (fun e => a3 (inR_iff.1 e))]
          · rw [decide_eq_false a3]; simp
      · refine Ev.step (f := fun k => some false) (fun k => ?_) ((Ev.now _).eq ?_)
        · simp only [spec_DiskOk.l0]
          rw [if_pos (by omega), if_pos (by omega), hx, spec_l03Name_is, Option.bind_some, if_pos (decide_eq_true a1), if_pos (by omega)]
        · rw [decide_eq_false a2]; simp
    · refine Ev.step (f := fun k => some false) (fun k => ?_) ((Ev.now _).eq ?_)
      · simp only [spec_DiskOk.l0]
        rw [if_pos (by omega), if_pos (by omega), hx, spec_l03Name_is, Option.bind_some, if_neg (by rw [decide_eq_true_eq]; exact a1)]
      · rw [decide_eq_false a1]; simp
theorem spec_DiskOk_ev (l : List IFi) : Ev (fun k => spec_DiskOk.f k l) (diskOk l) := by
  unfold spec_DiskOk.f diskOk
  by_cases h : l.length ≤ 30
  · rw [decide_eq_true h, Bool.true_and]
    exact Ev.neg (by omega) (spec_DiskOk_l0 l h l.length 0 none (by omega) (fun _ => rfl) (fun h => absurd h (by omega)))
  · rw [decide_eq_false h, Bool.false_and]
    exact Ev.pos (by omega) (Ev.now _)
theorem spec_LoseDisk_j1 (l : List IFi) (r : List Int) (acc : List IFi) (i : Nat) (hi : i ≤ 100) (ha : acc.length ≤ 100) (x : IFi) (hx : 0 ≤ x.f2 ∧ x.f2 ≤ (x.f1.size : Int) ∧ x.f1.size ≤ 20000) (n : Int) {z : List IFi × Bool}
    (h : Ev (fun k => spec_LoseDisk.l0 k r ((i + 1 : Nat) : Int) l (acc ++ [loseF x n])) z) : Ev (fun k => spec_LoseDisk.j1 k r (i : Int) n l acc x.f0 x.f1 x.f2) z := by
  refine Ev.step (f := fun k => spec_LoseDisk.l0 k r ((i + 1 : Nat) : Int) l (acc ++ [loseF x n])) (fun k => ?_) h
  have w4 : wrap64 ((i : Int) + 1) = ((i + 1 : Nat) : Int) := by rw [w64 (by omega) (by omega)]; omega
  simp only [spec_LoseDisk.j1, w4]
  by_cases h1 : n > (x.f1.size : Int)
  · rw [if_pos h1, if_neg (by omega), if_pos (by omega), if_pos (Int.le_refl _), if_pos (by omega)]
    have e : leftN x n = (x.f1.size : Int) := by unfold leftN; omega
    unfold loseF; rw [e]
  · rw [if_neg h1]
    by_cases h2 : n < x.f2
    · rw [if_pos h2, if_pos hx.1, if_pos hx.2.1, if_pos (by omega)]
      have e : leftN x n = x.f2 := by unfold leftN; omega
      unfold loseF; rw [e]
    · rw [if_neg h2, if_pos (by omega), if_pos (by omega), if_pos (by omega)]
      have e : leftN x n = n := by unfold leftN; omega
      unfold loseF; rw [e]
theorem spec_LoseDisk_l0 (l : List IFi) (r : List Int) (hl : l.length ≤ 30) (hx : ∀ x ∈ l, 0 ≤ x.f2 ∧ x.f2 ≤ (x.f1.size : Int) ∧ x.f1.size ≤ 20000) : ∀ (d i : Nat) (acc : List IFi), i + d = l.length → acc.length = i →
    Ev (fun k => spec_LoseDisk.l0 k r (i : Int) l acc) (acc ++ loseL (l.drop i) (r.drop i), true)
  | 0, i, acc, h, ha => by
    refine Ev.step (f := fun k => some (acc, true)) (fun k => ?_) ((Ev.now _).eq ?_)
    · simp only [spec_LoseDisk.l0]; rw [if_neg (by omega)]
    · rw [List.drop_of_length_le (by omega)]; simp [loseL]
  | d + 1, i, acc, h, ha => by
    have hxi := hx (rd_T60 l (i : Int)) (by rw [rd_IFi (by omega)]; exact List.getElem_mem _)
    rw [rd_IFi_drop (l := l) (i := i) (by omega)]
    generalize hX : rd_T60 l (i : Int) = x at hxi ⊢
    by_cases e : i < r.length
    · rw [rd_drop (l := r) (i := i) e]
      have ih := spec_LoseDisk_l0 l r hl hx d (i + 1) (acc ++ [loseF x (rd r (i : Int))]) (by omega) (by simp; omega)
      refine Ev.step (f := fun k => spec_LoseDisk.j1 k r (i : Int) (rd r (i : Int)) l acc x.f0 x.f1 x.f2) (fun k => ?_) (spec_LoseDisk_j1 l r acc i (by omega) (by omega) x hxi _ (ih.eq ?_))
      · simp only [spec_LoseDisk.l0]
        rw [if_pos (by omega), if_pos (by omega), if_pos (by omega), hX]
      · simp [loseL]
    · have ih := spec_LoseDisk_l0 l r hl hx d (i + 1) (acc ++ [loseF x 0]) (by omega) (by simp; omega)
      refine Ev.step (f := fun k => spec_LoseDisk.j1 k r (i : Int) 0 l acc x.f0 x.f1 x.f2) (fun k => ?_) (spec_LoseDisk_j1 l r acc i (by omega) (by omega) x hxi _ (ih.eq ?_))
      · simp only [spec_LoseDisk.l0]
        rw [if_pos (by omega), if_pos (by omega), if_neg (by omega), hX]
      · rw [List.drop_of_length_le (l := r) (by omega), List.drop_of_length_le (l := r) (by omega)]
        simp [loseL]
theorem spec_LoseDisk_ev (l : List IFi) (r : List Int) : Ev (fun k => spec_LoseDisk.f k l r) (loseDisk l r) := by
  unfold spec_LoseDisk.f loseDisk
  refine Ev.bind (spec_DiskOk_ev _) ?_
  by_cases h : diskOk l = true
  · rw [if_pos h]
    have hr := diskOk_range h
    refine Ev.pos h ?_
    have := spec_LoseDisk_l0 l r hr.1 hr.2 l.length 0 [] (by omega) rfl
    simpa using this
  · rw [if_neg h]
    exact Ev.neg h (Ev.now _)
theorem laws_toFile_is (a b : ByteArray) (c : Int) : laws_toFile.f a b c = some (a, b, c) := rfl
theorem laws_toFileS_l0 (l : List LFi) (hl : l.length ≤ 1048576) : ∀ (d i : Nat), i + d = l.length →
    Ev (fun k => laws_toFileS.l0 k l ((l.map toFi).take i ++ List.replicate (l.length - i) z60) (i : Int)) (l.map toFi)
  | 0, i, h => by
    refine Ev.step (f := fun k => some ((l.map toFi).take i ++ List.replicate (l.length - i) z60)) (fun k => ?_) ((Ev.now _).eq ?_)
    · simp only [laws_toFileS.l0]; rw [if_neg (by omega)]
    · obtain rfl : i = l.length := by omega
      rw [List.take_of_length_le (by simp)]; simp
  | d + 1, i, h => by
    have hi : i < l.length := by omega
    refine Ev.step (f := fun k => laws_toFileS.l0 k l ((l.map toFi).take (i + 1) ++ List.replicate (l.length - (i + 1)) z60) ((i + 1 : Nat) : Int)) (fun k => ?_) (laws_toFileS_l0 l hl d (i + 1) (by omega))
    simp only [laws_toFileS.l0]
    rw [if_pos (by omega), if_pos (by omega), rd_LFi hi, laws_toFile_is, Option.bind_some, if_pos (by simp [List.length_take]; omega), w64 (x := (i : Int) + 1) (by omega) (by omega)]
    rw [Int.toNat_natCast]
    have e := fill_step (l.map toFi) z60 i l.length (by simpa using hi) (by simp)
    rw [← e, List.getElem_map]; rfl
theorem laws_toFileS_ev (l : List LFi) (hl : l.length ≤ 1048576) : Ev (fun k => laws_toFileS.f k l) (l.map toFi) := by
  unfold laws_toFileS.f
  refine Ev.pos (by omega) (Ev.pos (by omega) ?_)
  have := laws_toFileS_l0 l hl l.length 0 (by omega)
  simpa using this
theorem laws_toDisk_ev (l : List LFi) (hl : l.length ≤ 1048576) : Ev (fun k => laws_toDisk.f k l) (l.map toFi) := by
  unfold laws_toDisk.f
  exact Ev.bind (laws_toFileS_ev l hl) (Ev.now _)
theorem laws_toIntS_l0 (l : List Int) (hl : l.length ≤ 35184372088832) : ∀ (d i : Nat), i + d = l.length →
    Ev (fun k => laws_toIntS.l0 k l (l.take i ++ List.replicate (l.length - i) 0) (i : Int)) l
  | 0, i, h => by
    refine Ev.step (f := fun k => some (l.take i ++ List.replicate (l.length - i) 0)) (fun k => ?_) ((Ev.now _).eq ?_)
    · simp only [laws_toIntS.l0]; rw [if_neg (by omega)]
    · obtain rfl : i = l.length := by omega
      simp
  | d + 1, i, h => by
    refine Ev.step (f := fun k => laws_toIntS.l0 k l (l.take (i + 1) ++ List.replicate (l.length - (i + 1)) 0) ((i + 1 : Nat) : Int)) (fun k => ?_) (laws_toIntS_l0 l hl d (i + 1) (by omega))
    simp only [laws_toIntS.l0]
    rw [if_pos (by omega), if_pos (by omega), if_pos (by simp [List.length_take]; omega), w64 (x := (i : Int) + 1) (by omega) (by omega)]
    rw [Int.toNat_natCast, rd_nat l i (by omega), fill_step l 0 i l.length (by omega) rfl]
    rfl
theorem laws_toIntS_ev (l : List Int) (hl : l.length ≤ 35184372088832) : Ev (fun k => laws_toIntS.f k l) l := by
  unfold laws_toIntS.f
  refine Ev.pos (by omega) (Ev.pos (by omega) ?_)
  have := laws_toIntS_l0 l hl l.length 0 (by omega)
  simpa using this
theorem laws_eqFile_is (a b : ByteArray) (c : Int) : laws_eqFile.f a b c a b c = some true := by
  unfold laws_eqFile.f; simp
theorem laws_eqFileS_l0 (l : List IFi) (hl : l.length ≤ 1048577) : ∀ (d i : Nat), i + d = l.length → Ev (fun k => laws_eqFileS.l0 k l l (i : Int)) true
  | 0, i, h => by
    refine Ev.step (f := fun k => some true) (fun k => ?_) (Ev.now _)
    simp only [laws_eqFileS.l0]; rw [if_neg (by omega)]
  | d + 1, i, h => by
    refine Ev.step (f := fun k => laws_eqFileS.l0 k l l ((i + 1 : Nat) : Int)) (fun k => ?_) (laws_eqFileS_l0 l hl d (i + 1) (by omega))
    simp only [laws_eqFileS.l0]
    rw [if_pos (by omega), if_pos (by omega), if_pos (by omega), laws_eqFile_is, Option.bind_some, if_pos rfl, w64 (x := (i : Int) + 1) (by omega) (by omega)]; rfl
theorem laws_eqFileS_ev (l : List IFi) (hl : l.length ≤ 1048577) : Ev (fun k => laws_eqFileS.f k l l) true := by
  unfold laws_eqFileS.f
  exact Ev.pos rfl (laws_eqFileS_l0 l hl l.length 0 (by omega))
theorem laws_eqDisk_ev (l : List IFi) (hl : l.length ≤ 1048577) : Ev (fun k => laws_eqDisk.f k l l) true := by
  unfold laws_eqDisk.f
  exact Ev.bind (laws_eqFileS_ev l hl) (Ev.pos rfl (Ev.now _))
theorem laws_eqIntS_l0 (l m : List Int) (hl : l.length ≤ 35184372088832) (hm : l.length = m.length) : ∀ (d i : Nat), i + d = l.length →
    Ev (fun k => laws_eqIntS.l0 k l m (i : Int)) (decide (l.drop i = m.drop i))
  | 0, i, h => by
    refine Ev.step (f := fun k => some true) (fun k => ?_) ((Ev.now _).eq ?_)
    · simp only [laws_eqIntS.l0]; rw [if_neg (by omega)]
    · rw [List.drop_of_length_le (by omega), List.drop_of_length_le (by omega)]; rfl
  | d + 1, i, h => by
    rw [rd_drop (l := l) (by omega), rd_drop (l := m) (by omega)]
    by_cases e : rd l (i : Int) = rd m (i : Int)
    · refine Ev.step (f := fun k => laws_eqIntS.l0 k l m ((i + 1 : Nat) : Int)) (fun k => ?_) ((laws_eqIntS_l0 l m hl hm d (i + 1) (by omega)).eq ?_)
      · simp only [laws_eqIntS.l0]
        rw [if_pos (by omega), if_pos (by omega), if_pos (by omega), if_pos e, w64 (x := (i : Int) + 1) (by omega) (by omega)]
        rfl
      · simp [e]
    · refine Ev.step (f := fun k => some false) (fun k => ?_) ((Ev.now _).eq ?_)
      · simp only [laws_eqIntS.l0]
        rw [if_pos (by omega), if_pos (by omega), if_pos (by omega), if_neg e]
      · simp [e]
theorem laws_eqIntS_ev (l m : List Int) (hl : l.length ≤ 35184372088832) : Ev (fun k => laws_eqIntS.f k l m) (decide (l = m)) := by
  unfold laws_eqIntS.f
  by_cases h : l.length = m.length
  · refine Ev.pos (by omega) ((laws_eqIntS_l0 l m hl h l.length 0 (by omega)).eq (by simp))
  · refine Ev.neg (by omega) ((Ev.now _).eq ?_)
    rw [eq_comm, decide_eq_false_iff_not]
    intro e; exact h (by rw [e])
theorem laws_markText_l0 : ∀ (n : Nat) (acc : ByteArray), n + acc.size ≤ 1000000000000000 → Ev (fun k => laws_markText.l0 k (n : Int) acc) ((⟨#[109]⟩ : ByteArray) ++ mtD n acc) := by
  intro n
  induction n using Nat.strongRecOn with
  | _ n ih =>
    intro acc ha
    by_cases h : 0 < n
    · have e1 : (wrap64 (48 + Int.tmod (n : Int) 10)) % 256 = ((48 + n % 10 : Nat) : Int) := by
        rw [tm (by omega), w64 (by omega) (by omega)]; omega
      have e2 : wrap64 (Int.tdiv (n : Int) 10) = ((n / 10 : Nat) : Int) := by rw [td (by omega), w64 (by omega) (by omega)]; omega
      have hsz : (strOfNums [((48 + n % 10 : Nat) : Int)]).size = 1 := str_size _
      refine Ev.step (f := fun k => laws_markText.l0 k ((n / 10 : Nat) : Int) (strOfNums [((48 + n % 10 : Nat) : Int)] ++ acc)) (fun k => ?_) ((ih (n / 10) (by omega) _ (by rw [size_append, hsz]; omega)).eq ?_)
      · simp only [laws_markText.l0]
        rw [if_pos (by omega), Option.bind_some, e1, e2, if_pos (by rw [hsz]; omega)]
      · rw [mtD.eq_def n acc, if_pos h]
    · obtain rfl : n = 0 := by omega
      refine Ev.step (f := fun k => some ((⟨#[109]⟩ : ByteArray) ++ acc)) (fun k => ?_) ((Ev.now _).eq ?_)
      · simp only [laws_markText.l0]; rw [if_neg (by omega), if_pos (by omega)]
      · rw [mtD.eq_def 0 acc, if_neg (by omega)]
theorem laws_markText_ev (n : Int) (h : n ≤ 1000000000000000) : Ev (fun k => laws_markText.f k n) (mkT n) := by
  unfold laws_markText.f mkT
  by_cases h0 : n ≤ 0
  · rw [if_pos h0]; exact Ev.pos h0 (Ev.now _)
  · rw [if_neg h0]
    have := laws_markText_l0 n.toNat ⟨#[]⟩ (by show n.toNat + 0 ≤ _; omega)
    rw [Int.toNat_of_nonneg (by omega)] at this
    exact Ev.neg h0 this
def mkFi (m : Int) : IFi := ⟨mkT m, mkT (m + 1), m + 2⟩
def seqF (m : Int) : Nat → List IFi
  | 0 => []
  | n + 1 => mkFi m :: seqF (m + 3) n
theorem seqF_length (m : Int) (n : Nat) : (seqF m n).length = n := by
  induction n generalizing m with
  | zero => rfl
  | succ n ih => simp [seqF, ih]
theorem seqF_get (m : Int) (n i : Nat) (h : i < (seqF m n).length) : (seqF m n)[i] = mkFi (m + 3 * i) := by
  induction n generalizing m i with
  | zero => simp [seqF] at h
  | succ n ih =>
    cases i with
    | zero => simp [seqF]
    | succ i => simp only [seqF, List.getElem_cons_succ]; rw [ih]; congr 1; omega
theorem rd_IFi_set {l : List IFi} {i : Nat} (v : IFi) (h : i < l.length) : rd_T60 (l.set i v) (i : Int) = v := by
  rw [rd_IFi (by simpa using h)]; simp
theorem laws_markFileS_l0 (l : List IFi) (hl : l.length ≤ 1048577) (m : Int) (h0 : 0 ≤ m) (hm : m ≤ 10000000000000) : ∀ (d i : Nat), i + d = l.length →
    Ev (fun k => laws_markFileS.l0 k ((seqF m l.length).take i ++ l.drop i) (m + 3 * i) (i : Int)) (m + 3 * l.length, seqF m l.length)
  | 0, i, h => by
    obtain rfl : i = l.length := by omega
    have e : (seqF m l.length).take l.length ++ l.drop l.length = seqF m l.length := by rw [List.drop_length, List.append_nil, List.take_of_length_le (by rw [seqF_length]; omega)]
    rw [e]
    refine Ev.step (f := fun k => some (m + 3 * (l.length : Int), seqF m l.length)) (fun k => ?_) (Ev.now _)
    simp only [laws_markFileS.l0]; rw [if_neg (by rw [seqF_length]; omega)]
  | d + 1, i, h => by
    have hM : (seqF m l.length).length = l.length := seqF_length _ _
    have hL : ((seqF m l.length).take i ++ l.drop i).length = l.length := by rw [List.length_append, List.length_take, List.length_drop, hM]; omega
    have em := mark_step (seqF m l.length) l i (by omega) hM
    rw [seqF_get] at em
    generalize hX : (seqF m l.length).take i ++ l.drop i = X at hL em ⊢
    have hi : i < X.length := by omega
    refine Ev.step (f := fun k => (laws_markText.f k (m + 3 * i)).bind fun t => (laws_markText.f k (m + 3 * i + 1)).bind fun u => laws_markFileS.l0 k (X.set i ⟨t, u, m + 3 * i + 2⟩) (m + 3 * ((i + 1 : Nat) : Int)) ((i + 1 : Nat) : Int)) (fun k => ?_) (Ev.bind (laws_markText_ev _ (by omega)) (Ev.bind (laws_markText_ev _ (by omega)) ((laws_markFileS_l0 l hl m h0 hm d (i + 1) (by omega)).congr' ?_)))
    · simp only [laws_markFileS.l0]
      rw [if_pos (by omega)]
      have w1 : wrap64 (m + 3 * (i : Int) + 1) = m + 3 * i + 1 := w64 (by omega) (by omega)
      have w2 : wrap64 (m + 3 * (i : Int) + 1 + 1) = m + 3 * i + 2 := by rw [w64 (by omega) (by omega)]; omega
      have w3 : wrap64 (m + 3 * (i : Int) + 2 + 1) = m + 3 * ((i + 1 : Nat) : Int) := by rw [w64 (by omega) (by omega)]; omega
      have w4 : wrap64 ((i : Int) + 1) = ((i + 1 : Nat) : Int) := by rw [w64 (by omega) (by omega)]; omega
      simp only [Option.bind_some, Int.toNat_natCast, w1, w2, w3, w4, if_pos (show (0 : Int) ≤ (i : Int) from by omega)]
      have r1 : ∀ v : IFi, rd_T60 (X.set i v) (i : Int) = v := fun v => rd_IFi_set v hi
      have r2 : ∀ v u : IFi, rd_T60 ((X.set i v).set i u) (i : Int) = u := fun v u => rd_IFi_set u (by simpa using hi)
      simp only [r1, r2, List.set_set]
    · intro k
      have e2 : (⟨mkT (m + 3 * (i : Int)), mkT (m + 3 * (i : Int) + 1), m + 3 * (i : Int) + 2⟩ : IFi) = mkFi (m + 3 * i) := rfl
      rw [e2, em]
theorem laws_markFileS_ev (l : List IFi) (hl : l.length ≤ 1048577) (m : Int) (h0 : 0 ≤ m) (hm : m ≤ 10000000000000) : Ev (fun k => laws_markFileS.f k l m) (m + 3 * l.length, seqF m l.length) := by
  have := laws_markFileS_l0 l hl m h0 hm l.length 0 (by omega)
  show Ev (fun k => laws_markFileS.l0 k l m 0) _
  simpa using this
theorem laws_markDisk_ev (l : List IFi) (hl : l.length ≤ 1048577) (m : Int) (h0 : 0 ≤ m) (hm : m ≤ 10000000000000) : Ev (fun k => laws_markDisk.f k l m) (m + 3 * (l.length : Int), seqF m l.length) := by
  unfold laws_markDisk.f
  exact Ev.bind (laws_markFileS_ev l hl m h0 hm) (Ev.now _)
theorem laws_markIntS_l0 (l : List Int) (hl : l.length ≤ 35184372088832) (m : Int) (h0 : 0 ≤ m) (hm : m ≤ 1000000000000000) : ∀ (d i : Nat), i + d = l.length →
    Ev (fun k => laws_markIntS.l0 k ((seqI m l.length).take i ++ l.drop i) (m + i) (i : Int)) (m + l.length, seqI m l.length)
  | 0, i, h => by
    obtain rfl : i = l.length := by omega
    have e : (seqI m l.length).take l.length ++ l.drop l.length = seqI m l.length := by rw [List.drop_length, List.append_nil, List.take_of_length_le (by rw [seqI_length]; omega)]
    rw [e]
    refine Ev.step (f := fun k => some (m + (l.length : Int), seqI m l.length)) (fun k => ?_) (Ev.now _)
    simp only [laws_markIntS.l0]; rw [if_neg (by rw [seqI_length]; omega)]
  | d + 1, i, h => by
    have hL : ((seqI m l.length).take i ++ l.drop i).length = l.length := by rw [List.length_append, List.length_take, List.length_drop, seqI_length]; omega
    refine Ev.step (f := fun k => laws_markIntS.l0 k ((seqI m l.length).take (i + 1) ++ l.drop (i + 1)) (m + ((i + 1 : Nat) : Int)) ((i + 1 : Nat) : Int)) (fun k => ?_) (laws_markIntS_l0 l hl m h0 hm d (i + 1) (by omega))
    simp only [laws_markIntS.l0]
    rw [if_pos (by rw [hL]; omega), if_pos (by omega), w64 (x := (i : Int) + 1) (by omega) (by omega), w64 (x := m + (i : Int) + 1) (by omega) (by omega)]
    rw [Int.toNat_natCast, List.set_append_right _ _ (by rw [List.length_take]; omega), List.length_take, seqI_length, show i - min i l.length = 0 from by omega]
    rw [List.drop_eq_getElem_cons (show i < l.length by omega), List.set_cons_zero, seqI_take m l.length i (by omega), List.append_assoc]
    congr 1
    omega
theorem laws_markIntS_ev (l : List Int) (hl : l.length ≤ 35184372088832) (m : Int) (h0 : 0 ≤ m) (hm : m ≤ 1000000000000000) :
    Ev (fun k => laws_markIntS.f k l m) (m + l.length, seqI m l.length) := by
  have := laws_markIntS_l0 l hl m h0 hm l.length 0 (by omega)
  show Ev (fun k => laws_markIntS.l0 k l m 0) _
  simpa using this
theorem laws_heldFileS_l0 (n : Nat) (hl : n ≤ 1048577) (m : Int) (h0 : 0 ≤ m) (hm : m ≤ 10000000000000) : ∀ (d i : Nat), i + d = n →
    Ev (fun k => laws_heldFileS.l0 k (seqF m n) (m + 3 * i) (i : Int)) (m + 3 * n)
  | 0, i, h => by
    obtain rfl : i = n := by omega
    refine Ev.step (f := fun k => some (m + 3 * (i : Int))) (fun k => ?_) (Ev.now _)
    simp only [laws_heldFileS.l0]; rw [if_neg (by rw [seqF_length]; omega)]
  | d + 1, i, h => by
    have er : rd_T60 (seqF m n) (i : Int) = mkFi (m + 3 * i) := by rw [rd_IFi (by rw [seqF_length]; omega), seqF_get]
    refine Ev.step (f := fun k => (laws_markText.f k (m + 3 * i)).bind fun t => if (mkT (m + 3 * i)).toList = t.toList then ((laws_markText.f k (m + 3 * i + 1)).bind fun u => if (mkT (m + 3 * i + 1)).toList = u.toList then laws_heldFileS.l0 k (seqF m n) (m + 3 * ((i + 1 : Nat) : Int)) ((i + 1 : Nat) : Int) else some (-1)) else some (-1)) (fun k => ?_) (Ev.bind (laws_markText_ev _ (by omega)) (Ev.pos rfl (Ev.bind (laws_markText_ev _ (by omega)) (Ev.pos rfl (laws_heldFileS_l0 n hl m h0 hm d (i + 1) (by omega))))))
    simp only [laws_heldFileS.l0]
    have w1 : wrap64 (m + 3 * (i : Int) + 1) = m + 3 * i + 1 := w64 (by omega) (by omega)
    have w2 : wrap64 (m + 3 * (i : Int) + 1 + 1) = m + 3 * i + 2 := by rw [w64 (by omega) (by omega)]; omega
    have w3 : wrap64 (m + 3 * (i : Int) + 2 + 1) = m + 3 * ((i + 1 : Nat) : Int) := by rw [w64 (by omega) (by omega)]; omega
    have w4 : wrap64 ((i : Int) + 1) = ((i + 1 : Nat) : Int) := by rw [w64 (by omega) (by omega)]; omega
    rw [if_pos (by rw [seqF_length]; omega), if_pos (by omega), er]
    simp only [mkFi, w1, w2, w3, w4, if_true]
theorem laws_heldFileS_ev (n : Nat) (hl : n ≤ 1048577) (m : Int) (h0 : 0 ≤ m) (hm : m ≤ 10000000000000) : Ev (fun k => laws_heldFileS.f k (seqF m n) m) (m + 3 * n) := by
  have := laws_heldFileS_l0 n hl m h0 hm n 0 (by omega)
  show Ev (fun k => laws_heldFileS.l0 k (seqF m n) m 0) _
  simpa using this
theorem laws_heldDisk_ev (n : Nat) (hl : n ≤ 1048577) (m : Int) (h0 : 0 ≤ m) (hm : m ≤ 10000000000000) : Ev (fun k => laws_heldDisk.f k (seqF m n) m) (m + 3 * (n : Int)) := by
  unfold laws_heldDisk.f
  exact Ev.bind (laws_heldFileS_ev n hl m h0 hm) (Ev.neg (by omega) (Ev.now _))
theorem FnExactLoseDisk : laws_FnExactLoseDisk.Pure := by
  intro l r hg hr
  obtain ⟨hl, hx⟩ := hg
  obtain ⟨hr1, _⟩ := hr
  simp only [maxLen] at hr1
  apply Ev.rounds
  unfold laws_FnExactLoseDisk.f
  by_cases h : (r.length : Int) > 1048576
  · exact Ev.pos h (Ev.now _)
  · refine Ev.neg h ?_
    obtain ⟨z, hz, hy⟩ := laws_szDisk_ev l 1048576 hl (fun x h => ⟨(hx x h).1, (hx x h).2.1⟩) (by omega) (by omega)
    refine Ev.bind hz ?_
    rcases hy with hy | ⟨h0, h1, h2, h3⟩
    · exact Ev.pos hy (Ev.now _)
    · have hm : (l.map toFi).length ≤ 1048576 := by simpa using h2
      have td := laws_toDisk_ev l h2
      have ti := laws_toIntS_ev r (by omega)
      have es := spec_LoseDisk_ev (l.map toFi) r
      have ei := impl_LoseDisk_ev (l.map toFi) (by omega) r
      have hn := loseDisk_len (l.map toFi) r
      generalize loseDisk (l.map toFi) r = q at es ei hn
      have eq := laws_eqDisk_ev q.1 (by omega)
      refine Ev.neg (by omega) (Ev.bind td (Ev.bind ti (Ev.bind es (Ev.bind td (Ev.bind ti (Ev.bind ei (Ev.bind eq (Ev.pos rfl ?_))))))))
      rw [show (q.2 != q.2) = false from by simp]
      refine Ev.step (fun k => rfl) (Ev.bind td (Ev.bind (laws_eqDisk_ev (l.map toFi) (by omega)) (Ev.pos rfl (Ev.bind ti (Ev.bind (laws_eqIntS_ev r r (by omega)) (Ev.pos (by simp) (Ev.bind (laws_markDisk_ev (l.map toFi) (by omega) 1 (by omega) (by omega)) (Ev.bind (laws_markIntS_ev r (by omega) _ (by simp only; omega) (by simp only; omega)) (Ev.neg (by simp only; omega) (Ev.bind eq (Ev.pos rfl ?_)))))))))))
      rw [show (q.2 != q.2) = false from by simp]
      have held := laws_heldDisk_ev q.1.length (by omega) 1 (by omega) (by omega)
      refine Ev.step (fun k => rfl) (Ev.bind (laws_markDisk_ev q.1 (by omega) 1 (by omega) (by omega)) (Ev.bind held (Ev.neg (by omega) (Ev.pos rfl (Ev.bind td (Ev.bind ti (Ev.bind ei (Ev.bind eq (Ev.pos rfl ?_)))))))))
      rw [show (q.2 != q.2) = false from by simp]
      exact Ev.step (fun k => rfl) (Ev.bind held (Ev.neg (by omega) (Ev.pos rfl (Ev.now _))))

end Go.Proofs.Ytknbkjajfiediaa.Pure
