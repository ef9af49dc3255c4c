/- The law FnExactFileAt answers true at every input; no condition. -/
import Derived.Test.YtbdjdobockghhaaQFnExactFileAtx2
import Derived.Test.YtbdjdobockghhaaMath
namespace Go.Proofs.Ytbdjdobockghhaa.QFnExactFileAt
open Go.RowKit
/-- What is left to be shown of the law: over numbers, texts and lists alone. -/
def laws_FnExactFileAt.Pure : Prop := ∀ (l0_0 : List (S102)) (a1 : ByteArray), (l0_0.length ≤ maxLen ∧ ∀ x ∈ l0_0, (x.f0.size ≤ maxLen ∧ x.f1.size ≤ maxLen ∧ (Lit.int .i64 x.f2).wf = true)) → a1.size ≤ maxLen → ∃ k, laws_FnExactFileAt.f k l0_0 a1 = some true
end Go.Proofs.Ytbdjdobockghhaa.QFnExactFileAt
namespace Go.Proofs.Ytbdjdobockghhaa.Pure
open Go.RowKit Go.Proofs.Ytbdjdobockghhaa.QFnExactFileAt Go.Proofs.YtbdjdobockghhaaW.PrintWords Go.Proofs.YtbdjdobockghhaaW.PrintLast Go.Proofs.YtbdjdobockghhaaW.PrintMore Go.Proofs.Ytbdjdobockghhaa.M
set_option linter.unusedVariables false
set_option linter.unusedSimpArgs false
set_option maxRecDepth 4000

theorem laws_szFile_is (a b : ByteArray) (c : Int) (left : Int) (h0 : 0 ≤ left) (h1 : left ≤ 1048576) (ha : a.size ≤ maxLen) (hb : b.size ≤ maxLen) :
    ∃ r, laws_szFile.f a b c left = some r ∧ (r < 0 ∨ 0 ≤ r ∧ r ≤ left ∧ (a.size : Int) ≤ left ∧ (b.size : Int) ≤ left) := by
  unfold laws_szFile.f
  simp only [maxLen] at ha hb
  rw [w64 (x := left - (a.size : Int)) (by omega) (by omega)]
  by_cases h : left - (a.size : Int) < 0
  · exact ⟨-1, by rw [if_pos h], .inl (by omega)⟩
  · rw [if_neg h, w64 (x := left - (a.size : Int) - (b.size : Int)) (by omega) (by omega)]
    by_cases h' : left - (a.size : Int) - (b.size : Int) < 0
    · exact ⟨-1, by rw [if_pos h'], .inl (by omega)⟩
    · exact ⟨_, by rw [if_neg h'], .inr (by omega)⟩
abbrev LFi := S102
abbrev IFi := S93
def toFi (x : LFi) : IFi := ⟨x.f0, x.f1, x.f2⟩
theorem rd_LFi {l : List LFi} {i : Nat} (h : i < l.length) : rd_T102 l (i : Int) = l[i] := by
  simp [rd_T102, List.getD_eq_getElem?_getD, List.getElem?_eq_getElem h]
theorem rd_IFi {l : List IFi} {i : Nat} (h : i < l.length) : rd_T93 l (i : Int) = l[i] := by
  simp [rd_T93, List.getD_eq_getElem?_getD, List.getElem?_eq_getElem h]
theorem rd_IFi_drop {l : List IFi} {i : Nat} (h : i < l.length) : l.drop i = rd_T93 l (i : Int) :: l.drop (i + 1) := by
  rw [List.drop_eq_getElem_cons h, rd_IFi h]
theorem laws_szFileS_l0 (l : List LFi) (hl : l.length ≤ 1048576) (hg : ∀ x ∈ l, x.f0.size ≤ maxLen ∧ x.f1.size ≤ maxLen) : ∀ (d i : Nat) (left : Int), i + d = l.length → 0 ≤ left → left ≤ 1048576 →
    ∃ r, Ev (fun k => laws_szFileS.l0 k l left (i : Int)) r ∧ (r < 0 ∨ 0 ≤ r ∧ r ≤ left ∧ ∀ x ∈ l.drop i, (x.f0.size : Int) ≤ left ∧ (x.f1.size : Int) ≤ left)
  | 0, i, left, h, h0, h1 => by
    refine ⟨left, Ev.step (f := fun k => some left) (fun k => ?_) (Ev.now _), .inr ⟨h0, by omega, ?_⟩⟩
    · simp only [laws_szFileS.l0]; rw [if_neg (by omega)]
    · rw [List.drop_of_length_le (by omega)]; simp
  | d + 1, i, left, h, h0, h1 => by
    have hi : i < l.length := by omega
    have hgi := hg _ (List.getElem_mem hi)
    obtain ⟨r, hr, hx⟩ := laws_szFile_is l[i].f0 l[i].f1 l[i].f2 left h0 h1 hgi.1 hgi.2
    rcases hx with hx | ⟨hx0, hx1, hx2⟩
    · refine ⟨-1, Ev.step (f := fun k => some (-1)) (fun k => ?_) (Ev.now _), .inl (by omega)⟩
      simp only [laws_szFileS.l0]
      rw [if_pos (by omega), if_pos (by omega), rd_LFi hi, hr, Option.bind_some, if_pos hx]
    · obtain ⟨r', hr', hy⟩ := laws_szFileS_l0 l hl hg d (i + 1) r (by omega) (by omega) (by omega)
      refine ⟨r', Ev.step (f := fun k => laws_szFileS.l0 k l r ((i + 1 : Nat) : Int)) (fun k => ?_) hr', ?_⟩
      · simp only [laws_szFileS.l0]
        rw [if_pos (by omega), if_pos (by omega), rd_LFi hi, hr, Option.bind_some, if_neg (by omega), w64 (x := (i : Int) + 1) (by omega) (by omega)]; rfl
      · rcases hy with hy | ⟨hy0, hy1, hy2⟩
        · exact .inl hy
        · refine .inr ⟨hy0, by omega, ?_⟩
          rw [List.drop_eq_getElem_cons hi]
          intro x hx
          rcases List.mem_cons.1 hx with rfl | hx
          · exact hx2
          · have := hy2 x hx; omega
theorem laws_szFileS_ev (l : List LFi) (left : Int) (hl : l.length ≤ maxLen) (hg : ∀ x ∈ l, x.f0.size ≤ maxLen ∧ x.f1.size ≤ maxLen) (h0 : 0 ≤ left) (h1 : left ≤ 1048576) :
    ∃ r, Ev (fun k => laws_szFileS.f k l left) r ∧ (r < 0 ∨ 0 ≤ r ∧ r ≤ left ∧ l.length ≤ 1048576 ∧ ∀ x ∈ l, (x.f0.size : Int) ≤ left ∧ (x.f1.size : Int) ≤ left) := by
  simp only [maxLen] at hl
  have e : wrap64 (left - (l.length : Int)) = left - l.length := w64 (by omega) (by omega)
  by_cases h : left - (l.length : Int) < 0
  · exact ⟨-1, by unfold laws_szFileS.f; rw [e]; exact Ev.pos h (Ev.now _), .inl (by omega)⟩
  · obtain ⟨r, hr, hx⟩ := laws_szFileS_l0 l (by omega) hg l.length 0 (left - l.length) (by omega) (by omega) (by omega)
    refine ⟨r, by unfold laws_szFileS.f; rw [e]; exact Ev.neg h hr, ?_⟩
    rcases hx with hx | ⟨hx0, hx1, hx2⟩
    · exact .inl hx
    · exact .inr ⟨hx0, by omega, by omega, fun x hx => by have := hx2 x (by simpa using hx); omega⟩
theorem laws_szDisk_ev (l : List LFi) (left : Int) (hl : l.length ≤ maxLen) (hg : ∀ x ∈ l, x.f0.size ≤ maxLen ∧ x.f1.size ≤ maxLen) (h0 : 0 ≤ left) (h1 : left ≤ 1048576) :
    ∃ r, Ev (fun k => laws_szDisk.f k l left) r ∧ (r < 0 ∨ 0 ≤ r ∧ r ≤ left ∧ l.length ≤ 1048576 ∧ ∀ x ∈ l, (x.f0.size : Int) ≤ left ∧ (x.f1.size : Int) ≤ left) := by
  obtain ⟨r, hr, hx⟩ := laws_szFileS_ev l left hl hg h0 h1
  by_cases h : r < 0
  · exact ⟨-1, by unfold laws_szDisk.f; exact Ev.bind hr (Ev.pos h (Ev.now _)), .inl (by omega)⟩
  · refine ⟨r, by unfold laws_szDisk.f; exact Ev.bind hr (Ev.neg h (Ev.now _)), ?_⟩
    rcases hx with hx | hx
    · exact absurd hx h
    · exact .inr hx
theorem laws_toFile_is (a b : ByteArray) (c : Int) : laws_toFile.f a b c = some (a, b, c) := rfl
theorem laws_toFileS_l0 (l : List LFi) (hl : l.length ≤ 1048576) : ∀ (d i : Nat), i + d = l.length →
    Ev (fun k => laws_toFileS.l0 k l ((l.map toFi).take i ++ List.replicate (l.length - i) z93) (i : Int)) (l.map toFi)
  | 0, i, h => by
    refine Ev.step (f := fun k => some ((l.map toFi).take i ++ List.replicate (l.length - i) z93)) (fun k => ?_) ((Ev.now _).eq ?_)
    · simp only [laws_toFileS.l0]; rw [if_neg (by omega)]
    · obtain rfl : i = l.length := by omega
      rw [List.take_of_length_le (by simp)]; simp
  | d + 1, i, h => by
    have hi : i < l.length := by omega
    refine Ev.step (f := fun k => laws_toFileS.l0 k l ((l.map toFi).take (i + 1) ++ List.replicate (l.length - (i + 1)) z93) ((i + 1 : Nat) : Int)) (fun k => ?_) (laws_toFileS_l0 l hl d (i + 1) (by omega))
    simp only [laws_toFileS.l0]
    rw [if_pos (by omega), if_pos (by omega), rd_LFi hi, laws_toFile_is, Option.bind_some, if_pos (by simp [List.length_take]; omega), w64 (x := (i : Int) + 1) (by omega) (by omega)]
    rw [Int.toNat_natCast]
    have e := fill_step (l.map toFi) z93 i l.length (by simpa using hi) (by simp)
    rw [← e, List.getElem_map]; rfl
theorem laws_toFileS_ev (l : List LFi) (hl : l.length ≤ 1048576) : Ev (fun k => laws_toFileS.f k l) (l.map toFi) := by
  unfold laws_toFileS.f
  refine Ev.pos (by omega) (Ev.pos (by omega) ?_)
  have := laws_toFileS_l0 l hl l.length 0 (by omega)
  simpa using this
theorem laws_toDisk_ev (l : List LFi) (hl : l.length ≤ 1048576) : Ev (fun k => laws_toDisk.f k l) (l.map toFi) := by
  unfold laws_toDisk.f
  exact Ev.bind (laws_toFileS_ev l hl) (Ev.now _)
theorem laws_eqFile_is (a b : ByteArray) (c : Int) : laws_eqFile.f a b c a b c = some true := by
  unfold laws_eqFile.f; simp
theorem laws_eqFileS_l0 (l : List IFi) (hl : l.length ≤ 1048577) : ∀ (d i : Nat), i + d = l.length → Ev (fun k => laws_eqFileS.l0 k l l (i : Int)) true
  | 0, i, h => by
    refine Ev.step (f := fun k => some true) (fun k => ?_) (Ev.now _)
    simp only [laws_eqFileS.l0]; rw [if_neg (by omega)]
  | d + 1, i, h => by
    refine Ev.step (f := fun k => laws_eqFileS.l0 k l l ((i + 1 : Nat) : Int)) (fun k => ?_) (laws_eqFileS_l0 l hl d (i + 1) (by omega))
    simp only [laws_eqFileS.l0]
    rw [if_pos (by omega), if_pos (by omega), if_pos (by omega), laws_eqFile_is, Option.bind_some, if_pos rfl, w64 (x := (i : Int) + 1) (by omega) (by omega)]; rfl
theorem laws_eqFileS_ev (l : List IFi) (hl : l.length ≤ 1048577) : Ev (fun k => laws_eqFileS.f k l l) true := by
  unfold laws_eqFileS.f
  exact Ev.pos rfl (laws_eqFileS_l0 l hl l.length 0 (by omega))
theorem laws_eqDisk_ev (l : List IFi) (hl : l.length ≤ 1048577) : Ev (fun k => laws_eqDisk.f k l l) true := by
  unfold laws_eqDisk.f
  exact Ev.bind (laws_eqFileS_ev l hl) (Ev.pos rfl (Ev.now _))
def fAt (l : List IFi) (s : ByteArray) : Int := M.idxP (fun x : IFi => x.f0.toList == s.toList) l 0
theorem spec_l03At_l0 (l : List IFi) (hl : l.length ≤ 1048577) (s : ByteArray) : ∀ (d i : Nat), i + d = l.length → Ev (fun k => spec_l03At.l0 k s (i : Int) l) (M.idxP (fun x : IFi => x.f0.toList == s.toList) (l.drop i) (i : Int))
  | 0, i, h => by
    refine Ev.step (f := fun k => some (-1)) (fun k => ?_) ((Ev.now _).eq ?_)
    · simp only [spec_l03At.l0]; rw [if_neg (by omega)]
    · rw [List.drop_of_length_le (by omega)]; rfl
  | d + 1, i, h => by
    rw [rd_IFi_drop (l := l) (i := i) (by omega)]
    by_cases e : (rd_T93 l (i : Int)).f0.toList = s.toList
    · refine Ev.step (f := fun k => some (i : Int)) (fun k => ?_) ((Ev.now _).eq ?_)
      · simp only [spec_l03At.l0]
        rw [if_pos (by omega), if_pos (by omega), if_pos e]
      · simp only [M.idxP]; rw [if_pos (by simpa using e)]
    · refine Ev.step (f := fun k => spec_l03At.l0 k s ((i + 1 : Nat) : Int) l) (fun k => ?_) ((spec_l03At_l0 l hl s d (i + 1) (by omega)).eq ?_)
      · simp only [spec_l03At.l0]
        rw [if_pos (by omega), if_pos (by omega), if_neg e, w64 (x := (i : Int) + 1) (by omega) (by omega)]; rfl
      · simp only [M.idxP]; rw [if_neg (by simpa using e)]; rfl
theorem spec_l03At_ev (l : List IFi) (hl : l.length ≤ 1048577) (s : ByteArray) : Ev (fun k => spec_l03At.f k l s) (fAt l s) := by
  unfold spec_l03At.f
  have := spec_l03At_l0 l hl s l.length 0 (by omega)
  rw [List.drop_zero] at this
  exact this
theorem fAt_cases (l : List IFi) (s : ByteArray) : fAt l s = -1 ∨ ∃ (k : Nat) (h : k < l.length), fAt l s = (k : Int) ∧ l[k].f0.toList = s.toList := by
  rcases M.idxP_cases (fun x : IFi => x.f0.toList == s.toList) l 0 with ⟨h, _⟩ | ⟨k, h, e, hk⟩
  · exact .inl h
  · exact .inr ⟨k, h, by unfold fAt; omega, by simpa using hk⟩
def fileAt (l : List IFi) (s : ByteArray) : ByteArray × Bool := if fAt l s < 0 then (⟨#[]⟩, false) else ((rd_T93 l (fAt l s)).f1, true)
theorem spec_FileAt_ev (l : List IFi) (hl : l.length ≤ 1048577) (s : ByteArray) : Ev (fun k => spec_FileAt.f k l s) (fileAt l s) := by
  unfold spec_FileAt.f fileAt
  refine Ev.bind (spec_l03At_ev l hl s) (Ev.is ?_)
  rcases fAt_cases l s with h | ⟨k, h, e, _⟩
  · rw [if_pos (by omega), if_pos (by omega)]
  · rw [if_neg (by omega), if_pos (by omega), if_pos (by omega), if_neg (by omega)]
theorem impl_fileAt_is (l : List IFi) (s : ByteArray) : impl_fileAt.f l s = some (fAt l s) := rfl
theorem impl_FileAt_is (l : List IFi) (s : ByteArray) : impl_FileAt.f l s = some (fileAt l s) := by
  unfold impl_FileAt.f fileAt
  rw [impl_fileAt_is, Option.bind_some]
  rcases fAt_cases l s with h | ⟨k, h, e, _⟩
  · rw [if_pos (by omega), if_pos (by omega)]
  · rw [if_neg (by omega), if_pos (by omega), if_pos (by omega), if_neg (by omega)]
theorem FnExactFileAt : laws_FnExactFileAt.Pure := by
  intro l s hg hs
  obtain ⟨hl, hx⟩ := hg
  apply Ev.rounds
  unfold laws_FnExactFileAt.f
  by_cases h : (s.size : Int) > 1048576
  · exact Ev.pos h (Ev.now _)
  · refine Ev.neg h ?_
    obtain ⟨r, hr, hz⟩ := laws_szDisk_ev l 1048576 hl (fun x h => ⟨(hx x h).1, (hx x h).2.1⟩) (by omega) (by omega)
    refine Ev.bind hr ?_
    rcases hz with hz | ⟨h0, h1, h2, h3⟩
    · exact Ev.pos hz (Ev.now _)
    · have hm : (l.map toFi).length ≤ 1048576 := by simpa using h2
      refine Ev.neg (by omega) (Ev.bind (laws_toDisk_ev l h2) (Ev.bind (spec_FileAt_ev _ (by omega) s) (Ev.bind (laws_toDisk_ev l h2) (Ev.bind0 (impl_FileAt_is (l.map toFi) s) (Ev.pos rfl ?_)))))
      exact Ev.step (fun k => rfl) (Ev.neg (by simp) (Ev.bind (laws_toDisk_ev l h2) (Ev.bind (laws_eqDisk_ev (l.map toFi) (by omega)) (Ev.pos rfl (Ev.now _)))))

end Go.Proofs.Ytbdjdobockghhaa.Pure
