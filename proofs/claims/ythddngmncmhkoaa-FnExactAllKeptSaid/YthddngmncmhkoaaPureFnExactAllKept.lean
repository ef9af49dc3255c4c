/- The law FnExactAllKept answers true at every input; no condition. -/
import Derived.Test.YthddngmncmhkoaaQFnExactAllKeptx3
import Derived.Test.YthddngmncmhkoaaMath
namespace Go.Proofs.Ythddngmncmhkoaa.QFnExactAllKept
open Go.RowKit
/-- What is left to be shown of the law: over numbers, texts and lists alone. -/
def laws_FnExactAllKept.Pure : Prop := ∀ (l0_0 : List (S144)), (l0_0.length ≤ maxLen ∧ ∀ x ∈ l0_0, (x.f0.size ≤ maxLen ∧ x.f1.size ≤ maxLen ∧ (Lit.int .i64 x.f2).wf = true)) → ∃ k, laws_FnExactAllKept.f k l0_0 = some true
end Go.Proofs.Ythddngmncmhkoaa.QFnExactAllKept
namespace Go.Proofs.Ythddngmncmhkoaa.Pure
open Go.RowKit Go.Proofs.Ythddngmncmhkoaa.QFnExactAllKept Go.Proofs.YthddngmncmhkoaaW.PrintWords Go.Proofs.YthddngmncmhkoaaW.PrintLast Go.Proofs.YthddngmncmhkoaaW.PrintMore Go.Proofs.Ythddngmncmhkoaa.M
set_option linter.unusedVariables false
set_option linter.unusedSimpArgs false
set_option maxRecDepth 4000

theorem laws_szFile_is (a b : ByteArray) (c : Int) (left : Int) (h0 : 0 ≤ left) (h1 : left ≤ 1048576) (ha : a.size ≤ maxLen) (hb : b.size ≤ maxLen) :
    ∃ r, laws_szFile.f a b c left = some r ∧ (r < 0 ∨ 0 ≤ r ∧ r ≤ left ∧ (a.size : Int) ≤ left ∧ (b.size : Int) ≤ left) := by
  unfold laws_szFile.f
  simp only [maxLen] at ha hb
  rw [w64 (x := left - (a.size : Int)) (by omega) (by omega)]
  by_cases h : left - (a.size : Int) < 0
  · exact ⟨-1, by rw [if_pos h], .inl (by omega)⟩
  · rw [if_neg h, w64 (x := left - (a.size : Int) - (b.size : Int)) (by omega) (by omega)]
    by_cases h' : left - (a.size : Int) - (b.size : Int) < 0
    · exact ⟨-1, by rw [if_pos h'], .inl (by omega)⟩
    · exact ⟨_, by rw [if_neg h'], .inr (by omega)⟩
abbrev LFi := S144
abbrev IFi := S58
def toFi (x : LFi) : IFi := ⟨x.f0, x.f1, x.f2⟩
theorem rd_LFi {l : List LFi} {i : Nat} (h : i < l.length) : rd_T144 l (i : Int) = l[i] := by
  simp [rd_T144, List.getD_eq_getElem?_getD, List.getElem?_eq_getElem h]
theorem rd_IFi {l : List IFi} {i : Nat} (h : i < l.length) : rd_T58 l (i : Int) = l[i] := by
  simp [rd_T58, List.getD_eq_getElem?_getD, List.getElem?_eq_getElem h]
theorem rd_IFi_drop {l : List IFi} {i : Nat} (h : i < l.length) : l.drop i = rd_T58 l (i : Int) :: l.drop (i + 1) := by
  rw [List.drop_eq_getElem_cons h, rd_IFi h]
theorem laws_szFileS_l0 (l : List LFi) (hl : l.length ≤ 1048576) (hg : ∀ x ∈ l, x.f0.size ≤ maxLen ∧ x.f1.size ≤ maxLen) : ∀ (d i : Nat) (left : Int), i + d = l.length → 0 ≤ left → left ≤ 1048576 →
    ∃ r, Ev (fun k => laws_szFileS.l0 k l left (i : Int)) r ∧ (r < 0 ∨ 0 ≤ r ∧ r ≤ left ∧ ∀ x ∈ l.drop i, (x.f0.size : Int) ≤ left ∧ (x.f1.size : Int) ≤ left)
  | 0, i, left, h, h0, h1 => by
    refine ⟨left, Ev.step (f := fun k => some left) (fun k => ?_) (Ev.now _), .inr ⟨h0, by omega, ?_⟩⟩
    · simp only [laws_szFileS.l0]; rw [if_neg (by omega)]
    · rw [List.drop_of_length_le (by omega)]; simp
  | d + 1, i, left, h, h0, h1 => by
    have hi : i < l.length := by omega
    have hgi := hg _ (List.getElem_mem hi)
    obtain ⟨r, hr, hx⟩ := laws_szFile_is l[i].f0 l[i].f1 l[i].f2 left h0 h1 hgi.1 hgi.2
    rcases hx with hx | ⟨hx0, hx1, hx2⟩
    · refine ⟨-1, Ev.step (f := fun k => some (-1)) (fun k => ?_) (Ev.now _), .inl (by omega)⟩
      simp only [laws_szFileS.l0]
      rw [if_pos (by omega), if_pos (by omega), rd_LFi hi, hr, Option.bind_some, if_pos hx]
    · obtain ⟨r', hr', hy⟩ := laws_szFileS_l0 l hl hg d (i + 1) r (by omega) (by omega) (by omega)
      refine ⟨r', Ev.step (f := fun k => laws_szFileS.l0 k l r ((i + 1 : Nat) : Int)) (fun k => ?_) hr', ?_⟩
      · simp only [laws_szFileS.l0]
        rw [if_pos (by omega), if_pos (by omega), rd_LFi hi, hr, Option.bind_some, if_neg (by omega), w64 (x := (i : Int) + 1) (by omega) (by omega)]; rfl
      · rcases hy with hy | ⟨hy0, hy1, hy2⟩
        · exact .inl hy
        · refine .inr ⟨hy0, by omega, ?_⟩
          rw [List.drop_eq_getElem_cons hi]
          intro x hx
          rcases List.mem_cons.1 hx with rfl | hx
          · exact hx2
          · have := hy2 x hx; omega
theorem laws_szFileS_ev (l : List LFi) (left : Int) (hl : l.length ≤ maxLen) (hg : ∀ x ∈ l, x.f0.size ≤ maxLen ∧ x.f1.size ≤ maxLen) (h0 : 0 ≤ left) (h1 : left ≤ 1048576) :
    ∃ r, Ev (fun k => laws_szFileS.f k l left) r ∧ (r < 0 ∨ 0 ≤ r ∧ r ≤ left ∧ l.length ≤ 1048576 ∧ ∀ x ∈ l, (x.f0.size : Int) ≤ left ∧ (x.f1.size : Int) ≤ left) := by
  simp only [maxLen] at hl
  have e : wrap64 (left - (l.length : Int)) = left - l.length := w64 (by omega) (by omega)
  by_cases h : left - (l.length : Int) < 0
  · exact ⟨-1, by unfold laws_szFileS.f; rw [e]; exact Ev.pos h (Ev.now _), .inl (by omega)⟩
  · obtain ⟨r, hr, hx⟩ := laws_szFileS_l0 l (by omega) hg l.length 0 (left - l.length) (by omega) (by omega) (by omega)
    refine ⟨r, by unfold laws_szFileS.f; rw [e]; exact Ev.neg h hr, ?_⟩
    rcases hx with hx | ⟨hx0, hx1, hx2⟩
    · exact .inl hx
    · exact .inr ⟨hx0, by omega, by omega, fun x hx => by have := hx2 x (by simpa using hx); omega⟩
theorem laws_szDisk_ev (l : List LFi) (left : Int) (hl : l.length ≤ maxLen) (hg : ∀ x ∈ l, x.f0.size ≤ maxLen ∧ x.f1.size ≤ maxLen) (h0 : 0 ≤ left) (h1 : left ≤ 1048576) :
    ∃ r, Ev (fun k => laws_szDisk.f k l left) r ∧ (r < 0 ∨ 0 ≤ r ∧ r ≤ left ∧ l.length ≤ 1048576 ∧ ∀ x ∈ l, (x.f0.size : Int) ≤ left ∧ (x.f1.size : Int) ≤ left) := by
  obtain ⟨r, hr, hx⟩ := laws_szFileS_ev l left hl hg h0 h1
  by_cases h : r < 0
  · exact ⟨-1, by unfold laws_szDisk.f; exact Ev.bind hr (Ev.pos h (Ev.now _)), .inl (by omega)⟩
  · refine ⟨r, by unfold laws_szDisk.f; exact Ev.bind hr (Ev.neg h (Ev.now _)), ?_⟩
    rcases hx with hx | hx
    · exact absurd hx h
    · exact .inr hx
theorem spec_l01In_is (a b c : Int) : spec_l01In.f a b c = some (inR a b c) := by
  unfold spec_l01In.f inR
  by_cases h : a ≥ b
  · rw [if_pos h]; congr 1; simp; omega
  · rw [if_neg h]; congr 1; simp; omega
theorem spec_l03Name_is (s : ByteArray) : spec_l03Name.f s = some (decide (1 ≤ s.size ∧ s.size ≤ 8)) := by
  unfold spec_l03Name.f
  rw [spec_l01In_is, Option.bind_some]
  congr 1
  unfold inR
  congr 1
  simp only [eq_iff_iff]; omega
def bLess (a b : ByteArray) : Bool := Go.Op.bytesLess a.toList b.toList
def fileOk (x : IFi) : Bool := decide (1 ≤ x.f0.size ∧ x.f0.size ≤ 8) && decide (x.f1.size ≤ 20000) && decide (0 ≤ x.f2 ∧ x.f2 ≤ (x.f1.size : Int))
def above : Option ByteArray → ByteArray → Bool
  | none, _ => true
  | some q, s => bLess q s
def filesOk : Option ByteArray → List IFi → Bool
  | _, [] => true
  | p, x :: l => fileOk x && above p x.f0 && filesOk (some x.f0) l
def diskOk (l : List IFi) : Bool := decide (l.length ≤ 30) && filesOk none l
theorem spec_DiskOk_l0 (l : List IFi) (hl : l.length ≤ 30) : ∀ (d i : Nat) (p : Option ByteArray), i + d = l.length → (i = 0 → p = none) → (0 < i → p = some (rd_T58 l ((i - 1 : Nat) : Int)).f0) →
    Ev (fun k => spec_DiskOk.l0 k (i : Int) l) (filesOk p (l.drop i))
  | 0, i, p, h, h0, h1 => by
    refine Ev.step (f := fun k => some true) (fun k => ?_) ((Ev.now _).eq ?_)
    · simp only [spec_DiskOk.l0]; rw [if_neg (by omega)]
    · rw [List.drop_of_length_le (by omega)]; rfl
  | d + 1, i, p, h, h0, h1 => by
    rw [rd_IFi_drop (l := l) (i := i) (by omega)]
    have ih := spec_DiskOk_l0 l hl d (i + 1) (some (rd_T58 l (i : Int)).f0) (by omega) (by omega) (fun _ => by simp)
    generalize hx : rd_T58 l (i : Int) = x at *
    simp only [filesOk, fileOk]
    by_cases a1 : 1 ≤ x.f0.size ∧ x.f0.size ≤ 8
    · by_cases a2 : x.f1.size ≤ 20000
      · by_cases a3 : 0 ≤ x.f2 ∧ x.f2 ≤ (x.f1.size : Int)
        · rw [decide_eq_true a1, decide_eq_true a2, decide_eq_true a3, Bool.true_and, Bool.true_and, Bool.true_and]
          by_cases hi : 0 < i
          · rw [h1 hi]
            have ei : wrap64 ((i : Int) - 1) = ((i - 1 : Nat) : Int) := by rw [w64 (by omega) (by omega)]; omega
            by_cases hb : bLess (rd_T58 l ((i - 1 : Nat) : Int)).f0 x.f0 = true
            · refine Ev.step (f := fun k => spec_DiskOk.l0 k ((i + 1 : Nat) : Int) l) (fun k => ?_) (ih.eq ?_)
              · simp only [spec_DiskOk.l0]
                rw [if_pos (by omega), if_pos (by omega), hx, spec_l03Name_is, Option.bind_some, if_pos (decide_eq_true a1), if_neg (by omega), spec_l01In_is, Option.bind_some, if_pos (inR_iff.2 a3), if_pos (by omega), ei, if_pos (by omega), if_pos (by omega), if_pos (show Go.Op.bytesLess _ _ = true from hb)]
                rw [w64 (x := (i : Int) + 1) (by omega) (by omega)]; rfl
              · simp only [above]; rw [hb, Bool.true_and]
            · refine Ev.step (f := fun k => some false) (fun k => ?_) ((Ev.now _).eq ?_)
              · simp only [spec_DiskOk.l0]
                rw [if_pos (by omega), if_pos (by omega), hx, spec_l03Name_is, Option.bind_some, if_pos (decide_eq_true a1), if_neg (by omega), spec_l01In_is, Option.bind_some, if_pos (inR_iff.2 a3), if_pos (by omega), ei, if_pos (by omega), if_pos (by omega), if_neg (show ¬ Go.Op.bytesLess _ _ = true from hb)]
              · simp only [above]; rw [Bool.not_eq_true _ |>.mp hb, Bool.false_and]
          · rw [h0 (by omega)]
            refine Ev.step (f := fun k => spec_DiskOk.l0 k ((i + 1 : Nat) : Int) l) (fun k => ?_) (ih.eq ?_)
            · simp only [spec_DiskOk.l0]
              rw [if_pos (by omega), if_pos (by omega), hx, spec_l03Name_is, Option.bind_some, if_pos (decide_eq_true a1), if_neg (by omega), spec_l01In_is, Option.bind_some, if_pos (inR_iff.2 a3), if_neg (by omega)]
              rw [w64 (x := (i : Int) + 1) (by omega) (by omega)]; rfl
            · simp only [above]; rw [Bool.true_and]
        · refine Ev.step (f := fun k => some false) (fun k => ?_) ((Ev.now _).eq ?_)
          · simp only [spec_DiskOk.l0]
            rw [if_pos (by omega), if_pos (by omega), hx, spec_l03Name_is, Option.bind_some, if_pos (decide_eq_true a1), if_neg (by omega), spec_l01In_is, Option.bind_some, if_neg (fun e => a3 (inR_iff.1 e))]
          · rw [decide_eq_false a3]; simp
      · refine Ev.step (f := fun k => some false) (fun k => ?_) ((Ev.now _).eq ?_)
        · simp only [spec_DiskOk.l0]
          rw [if_pos (by omega), if_pos (by omega), hx, spec_l03Name_is, Option.bind_some, if_pos (decide_eq_true a1), if_pos (by omega)]
        · rw [decide_eq_false a2]; simp
    · refine Ev.step (f := fun k => some false) (fun k => ?_) ((Ev.now _).eq ?_)
      · simp only [spec_DiskOk.l0]
        rw [if_pos (by omega), if_pos (by omega), hx, spec_l03Name_is, Option.bind_some, if_neg (by rw [decide_eq_true_eq]; exact a1)]
      · rw [decide_eq_false a1]; simp
theorem spec_DiskOk_ev (l : List IFi) : Ev (fun k => spec_DiskOk.f k l) (diskOk l) := by
  unfold spec_DiskOk.f diskOk
  by_cases h : l.length ≤ 30
  · rw [decide_eq_true h, Bool.true_and]
    exact Ev.neg (by omega) (spec_DiskOk_l0 l h l.length 0 none (by omega) (fun _ => rfl) (fun h => absurd h (by omega)))
  · rw [decide_eq_false h, Bool.false_and]
    exact Ev.pos (by omega) (Ev.now _)
def lessKept (x : IFi) : Bool := x.f2 != (x.f1.size : Int)
def allKept (l : List IFi) : Bool := diskOk l && !decide (0 ≤ M.idxP lessKept l 0)
theorem idxP_drop {p : IFi → Bool} : ∀ (l : List IFi) (i : Int), 0 ≤ i → decide (0 ≤ M.idxP p l i) = l.any p
  | [], _, _ => by simp [M.idxP]
  | x :: l, i, h => by
    by_cases e : p x = true
    · have e1 : M.idxP p (x :: l) i = i := if_pos e
      have h0 : 0 ≤ M.idxP p (x :: l) i := by rw [e1]; exact h
      rw [decide_eq_true h0, List.any_cons, e]; rfl
    · have e1 : M.idxP p (x :: l) i = M.idxP p l (i + 1) := if_neg e
      rw [List.any_cons, Bool.not_eq_true _ |>.mp e, Bool.false_or, ← idxP_drop l (i + 1) (by omega)]
      exact decide_eq_decide.2 (by rw [e1])
theorem spec_AllKept_l0 (l : List IFi) (hl : l.length ≤ 1048577) (hk : ∀ x ∈ l, x.f2 ≤ (x.f1.size : Int)) : ∀ (d i : Nat), i + d = l.length → Ev (fun k => spec_AllKept.l0 k (i : Int) l) (!(l.drop i).any lessKept)
  | 0, i, h => by
    refine Ev.step (f := fun k => some true) (fun k => ?_) ((Ev.now _).eq ?_)
    · simp only [spec_AllKept.l0]; rw [if_neg (by omega)]
    · rw [List.drop_of_length_le (by omega)]; rfl
  | d + 1, i, h => by
    have hx := hk (rd_T58 l (i : Int)) (by rw [rd_IFi (by omega)]; exact List.getElem_mem _)
    rw [rd_IFi_drop (l := l) (i := i) (by omega)]
    by_cases e : (rd_T58 l (i : Int)).f2 < ((rd_T58 l (i : Int)).f1.size : Int)
    · refine Ev.step (f := fun k => some false) (fun k => ?_) ((Ev.now _).eq ?_)
      · simp only [spec_AllKept.l0]
        rw [if_pos (by omega), if_pos (by omega), if_pos e]
      · have : lessKept (rd_T58 l (i : Int)) = true := by simp only [lessKept, bne_iff_ne]; omega
        simp [this]
    · refine Ev.step (f := fun k => spec_AllKept.l0 k ((i + 1 : Nat) : Int) l) (fun k => ?_) ((spec_AllKept_l0 l hl hk d (i + 1) (by omega)).eq ?_)
      · simp only [spec_AllKept.l0]
        rw [if_pos (by omega), if_pos (by omega), if_neg e, w64 (x := (i : Int) + 1) (by omega) (by omega)]; rfl
      · have : lessKept (rd_T58 l (i : Int)) = false := by
          unfold lessKept
          have e2 : (rd_T58 l (i : Int)).f2 = ((rd_T58 l (i : Int)).f1.size : Int) := by omega
          rw [e2]; simp
        simp [this]
theorem filesOk_kept : ∀ (l : List IFi) (p : Option ByteArray), filesOk p l = true → ∀ x ∈ l, x.f2 ≤ (x.f1.size : Int)
  | [], _, _ => by simp
  | y :: l, p, h => by
    simp only [filesOk, Bool.and_eq_true] at h
    intro x hx
    rcases List.mem_cons.1 hx with rfl | hx
    · have := h.1.1
      simp only [fileOk, Bool.and_eq_true, decide_eq_true_eq] at this
      exact this.2.2
    · exact filesOk_kept l _ h.2 x hx
theorem diskOk_kept {l : List IFi} (h : diskOk l = true) : ∀ x ∈ l, x.f2 ≤ (x.f1.size : Int) := by
  unfold diskOk at h
  simp only [Bool.and_eq_true] at h
  exact filesOk_kept l _ h.2
theorem spec_AllKept_ev (l : List IFi) (hl : l.length ≤ 1048577) : Ev (fun k => spec_AllKept.f k l) (allKept l) := by
  unfold spec_AllKept.f allKept
  refine Ev.bind (spec_DiskOk_ev _) ?_
  by_cases h : diskOk l = true
  · refine Ev.pos h ((spec_AllKept_l0 l hl (diskOk_kept h) l.length 0 (by omega)).eq ?_)
    rw [idxP_drop l 0 (by omega), h]; simp
  · refine Ev.neg h ((Ev.now _).eq ?_)
    rw [Bool.not_eq_true _ |>.mp h]; simp
theorem laws_toFile_is (a b : ByteArray) (c : Int) : laws_toFile.f a b c = some (a, b, c) := rfl
theorem laws_toFileS_l0 (l : List LFi) (hl : l.length ≤ 1048576) : ∀ (d i : Nat), i + d = l.length →
    Ev (fun k => laws_toFileS.l0 k l ((l.map toFi).take i ++ List.replicate (l.length - i) z58) (i : Int)) (l.map toFi)
  | 0, i, h => by
    refine Ev.step (f := fun k => some ((l.map toFi).take i ++ List.replicate (l.length - i) z58)) (fun k => ?_) ((Ev.now _).eq ?_)
    · simp only [laws_toFileS.l0]; rw [if_neg (by omega)]
    · obtain rfl : i = l.length := by omega
      rw [List.take_of_length_le (by simp)]; simp
  | d + 1, i, h => by
    have hi : i < l.length := by omega
    refine Ev.step (f := fun k => laws_toFileS.l0 k l ((l.map toFi).take (i + 1) ++ List.replicate (l.length - (i + 1)) z58) ((i + 1 : Nat) : Int)) (fun k => ?_) (laws_toFileS_l0 l hl d (i + 1) (by omega))
    simp only [laws_toFileS.l0]
    rw [if_pos (by omega), if_pos (by omega), rd_LFi hi, laws_toFile_is, Option.bind_some, if_pos (by simp [List.length_take]; omega), w64 (x := (i : Int) + 1) (by omega) (by omega)]
    rw [Int.toNat_natCast]
    have e := fill_step (l.map toFi) z58 i l.length (by simpa using hi) (by simp)
    rw [← e, List.getElem_map]; rfl
theorem laws_toFileS_ev (l : List LFi) (hl : l.length ≤ 1048576) : Ev (fun k => laws_toFileS.f k l) (l.map toFi) := by
  unfold laws_toFileS.f
  refine Ev.pos (by omega) (Ev.pos (by omega) ?_)
  have := laws_toFileS_l0 l hl l.length 0 (by omega)
  simpa using this
theorem laws_toDisk_ev (l : List LFi) (hl : l.length ≤ 1048576) : Ev (fun k => laws_toDisk.f k l) (l.map toFi) := by
  unfold laws_toDisk.f
  exact Ev.bind (laws_toFileS_ev l hl) (Ev.now _)
theorem impl_within_is (a b c : Int) : impl_within.f a b c = some (inR a b c) := by
  unfold impl_within.f inR
  by_cases h : a ≥ b
  · rw [if_pos h]; congr 1; simp; omega
  · rw [if_neg h]; congr 1; simp; omega
theorem impl_DiskOk_l0 (l : List IFi) (hl : l.length ≤ 1048577) : ∀ (d i : Nat) (p : Option ByteArray), i + d = l.length → (i = 0 → p = none) → (0 < i → p = some (rd_T58 l ((i - 1 : Nat) : Int)).f0) →
    Ev (fun k => impl_DiskOk.l0 k l (l.length : Int) (i : Int) l) (decide (l.length ≤ 30) && filesOk p (l.drop i))
  | 0, i, p, h, h0, h1 => by
    refine Ev.step (f := fun k => some (decide ((l.length : Int) ≤ 30))) (fun k => ?_) ((Ev.now _).eq ?_)
    · simp only [impl_DiskOk.l0]; rw [if_neg (by omega)]
    · rw [List.drop_of_length_le (by omega)]
      simp only [filesOk, Bool.and_true]
      congr 1
      simp only [eq_iff_iff]; omega
  | d + 1, i, p, h, h0, h1 => by
    rw [rd_IFi_drop (l := l) (i := i) (by omega)]
    have ih := impl_DiskOk_l0 l hl d (i + 1) (some (rd_T58 l (i : Int)).f0) (by omega) (by omega) (fun _ => by simp)
    have a1i : ∀ s : ByteArray, inR (s.size : Int) 1 8 = decide (1 ≤ s.size ∧ s.size ≤ 8) := by
      intro s; unfold inR; congr 1; simp only [eq_iff_iff]; omega
    generalize hx : rd_T58 l (i : Int) = x at *
    simp only [filesOk, fileOk]
    by_cases a1 : 1 ≤ x.f0.size ∧ x.f0.size ≤ 8
    · by_cases a2 : x.f1.size ≤ 20000
      · by_cases a3 : 0 ≤ x.f2 ∧ x.f2 ≤ (x.f1.size : Int)
        · rw [decide_eq_true a1, decide_eq_true a2, decide_eq_true a3, Bool.true_and, Bool.true_and, Bool.true_and]
          by_cases hi : 0 < i
          · rw [h1 hi]
            have ei : wrap64 ((i : Int) - 1) = ((i - 1 : Nat) : Int) := by rw [w64 (by omega) (by omega)]; omega
            by_cases hb : bLess (rd_T58 l ((i - 1 : Nat) : Int)).f0 x.f0 = true
            · refine Ev.step (f := fun k => impl_DiskOk.l0 k l (l.length : Int) ((i + 1 : Nat) : Int) l) (fun k => ?_) (ih.eq ?_)
              · simp only [impl_DiskOk.l0]
                rw [if_pos (by omega), if_pos (by omega), if_pos (by omega), hx, impl_within_is, Option.bind_some, a1i, if_pos (decide_eq_true a1), if_neg (by omega), impl_within_is, Option.bind_some, if_pos (inR_iff.2 a3), if_pos (by omega), ei, if_pos (by omega), if_pos (by omega), if_pos (show Go.Op.bytesLess _ _ = true from hb)]
                rw [w64 (x := (i : Int) + 1) (by omega) (by omega)]; rfl
              · simp only [above]; rw [hb, Bool.true_and]
            · refine Ev.step (f := fun k => some false) (fun k => ?_) ((Ev.now _).eq ?_)
              · simp only [impl_DiskOk.l0]
                rw [if_pos (by omega), if_pos (by omega), if_pos (by omega), hx, impl_within_is, Option.bind_some, a1i, if_pos (decide_eq_true a1), if_neg (by omega), impl_within_is, Option.bind_some, if_pos (inR_iff.2 a3), if_pos (by omega), ei, if_pos (by omega), if_pos (by omega), if_neg (show ¬ Go.Op.bytesLess _ _ = true from hb)]
              · simp only [above]; rw [Bool.not_eq_true _ |>.mp hb, Bool.false_and, Bool.and_false]
          · rw [h0 (by omega)]
            refine Ev.step (f := fun k => impl_DiskOk.l0 k l (l.length : Int) ((i + 1 : Nat) : Int) l) (fun k => ?_) (ih.eq ?_)
            · simp only [impl_DiskOk.l0]
              rw [if_pos (by omega), if_pos (by omega), if_pos (by omega), hx, impl_within_is, Option.bind_some, a1i, if_pos (decide_eq_true a1), if_neg (by omega), impl_within_is, Option.bind_some, if_pos (inR_iff.2 a3), if_neg (by omega)]
              rw [w64 (x := (i : Int) + 1) (by omega) (by omega)]; rfl
            · simp only [above]; rw [Bool.true_and]
        · refine Ev.step (f := fun k => some false) (fun k => ?_) ((Ev.now _).eq ?_)
          · simp only [impl_DiskOk.l0]
            rw [if_pos (by omega), if_pos (by omega), if_pos (by omega), hx, impl_within_is, Option.bind_some, a1i, if_pos (decide_eq_true a1), if_neg (by omega), impl_within_is, Option.bind_some, if_neg (fun e => a3 (inR_iff.1 e))]
          · rw [decide_eq_false a3]; simp
      · refine Ev.step (f := fun k => some false) (fun k => ?_) ((Ev.now _).eq ?_)
        · simp only [impl_DiskOk.l0]
          rw [if_pos (by omega), if_pos (by omega), if_pos (by omega), hx, impl_within_is, Option.bind_some, a1i, if_pos (decide_eq_true a1), if_pos (by omega)]
        · rw [decide_eq_false a2]; simp
    · refine Ev.step (f := fun k => some false) (fun k => ?_) ((Ev.now _).eq ?_)
      · simp only [impl_DiskOk.l0]
        rw [if_pos (by omega), if_pos (by omega), if_pos (by omega), hx, impl_within_is, Option.bind_some, a1i, if_neg (by rw [decide_eq_true_eq]; exact a1)]
      · rw [decide_eq_false a1]; simp
theorem impl_DiskOk_ev (l : List IFi) (hl : l.length ≤ 1048577) : Ev (fun k => impl_DiskOk.f k l) (diskOk l) :=
  impl_DiskOk_l0 l hl l.length 0 none (by omega) (fun _ => rfl) (fun h => absurd h (by omega))
theorem impl_AllKept_ev (l : List IFi) (hl : l.length ≤ 1048577) : Ev (fun k => impl_AllKept.f k l) (allKept l) := by
  unfold impl_AllKept.f allKept
  refine Ev.bind (impl_DiskOk_ev l hl) ?_
  by_cases h : diskOk l = true
  · refine Ev.pos h ((Ev.now _).eq ?_)
    rw [h]; rfl
  · refine Ev.neg h ((Ev.now _).eq ?_)
    rw [Bool.not_eq_true _ |>.mp h]; simp
theorem laws_eqFile_is (a b : ByteArray) (c : Int) : laws_eqFile.f a b c a b c = some true := by
  unfold laws_eqFile.f; simp
theorem laws_eqFileS_l0 (l : List IFi) (hl : l.length ≤ 1048577) : ∀ (d i : Nat), i + d = l.length → Ev (fun k => laws_eqFileS.l0 k l l (i : Int)) true
  | 0, i, h => by
    refine Ev.step (f := fun k => some true) (fun k => ?_) (Ev.now _)
    simp only [laws_eqFileS.l0]; rw [if_neg (by omega)]
  | d + 1, i, h => by
    refine Ev.step (f := fun k => laws_eqFileS.l0 k l l ((i + 1 : Nat) : Int)) (fun k => ?_) (laws_eqFileS_l0 l hl d (i + 1) (by omega))
    simp only [laws_eqFileS.l0]
    rw [if_pos (by omega), if_pos (by omega), if_pos (by omega), laws_eqFile_is, Option.bind_some, if_pos rfl, w64 (x := (i : Int) + 1) (by omega) (by omega)]; rfl
theorem laws_eqFileS_ev (l : List IFi) (hl : l.length ≤ 1048577) : Ev (fun k => laws_eqFileS.f k l l) true := by
  unfold laws_eqFileS.f
  exact Ev.pos rfl (laws_eqFileS_l0 l hl l.length 0 (by omega))
theorem laws_eqDisk_ev (l : List IFi) (hl : l.length ≤ 1048577) : Ev (fun k => laws_eqDisk.f k l l) true := by
  unfold laws_eqDisk.f
  exact Ev.bind (laws_eqFileS_ev l hl) (Ev.pos rfl (Ev.now _))
theorem FnExactAllKept : laws_FnExactAllKept.Pure := by
  intro l hg
  obtain ⟨hl, hx⟩ := hg
  apply Ev.rounds
  unfold laws_FnExactAllKept.f
  obtain ⟨r, hr, hz⟩ := laws_szDisk_ev l 1048576 hl (fun x h => ⟨(hx x h).1, (hx x h).2.1⟩) (by omega) (by omega)
  refine Ev.bind hr ?_
  rcases hz with hz | ⟨h0, h1, h2, h3⟩
  · exact Ev.pos hz (Ev.now _)
  · have hm : (l.map toFi).length ≤ 1048576 := by simpa using h2
    exact Ev.neg (by omega) (Ev.bind (laws_toDisk_ev l h2) (Ev.bind (spec_AllKept_ev _ (by omega)) (Ev.bind (laws_toDisk_ev l h2) (Ev.bind (impl_AllKept_ev (l.map toFi) (by omega)) (Ev.neg (by simp)
      (Ev.bind (laws_toDisk_ev l h2) (Ev.bind (laws_eqDisk_ev (l.map toFi) (by omega)) (Ev.pos rfl (Ev.now _)))))))))

end Go.Proofs.Ythddngmncmhkoaa.Pure
