/- The law FnExactCutActs answers true at every input; no condition. -/
import Derived.Test.YthbaoefbccdioaaQFnExactCutActsx17
import Derived.Test.YthbaoefbccdioaaTM
namespace Go.Proofs.Ythbaoefbccdioaa.QFnExactCutActs
open Go.RowKit
/-- What is left to be shown of the law: over numbers, texts and lists alone. -/
def laws_FnExactCutActs.Pure : Prop := ∀ (l0_0 : List (S112)) (l1 : List (S26)) (a2 : Int) (l3 : List (Int)), (l0_0.length ≤ maxLen ∧ ∀ x ∈ l0_0, (x.f0.size ≤ maxLen ∧ x.f1.size ≤ maxLen ∧ (Lit.int .i64 x.f2).wf = true)) → (l1.length ≤ maxLen ∧ ∀ x ∈ l1, ((Lit.int .i64 x.f0).wf = true ∧ x.f1.size ≤ maxLen ∧ x.f2.size ≤ maxLen ∧ x.f3.size ≤ maxLen)) → (Lit.int .i64 a2).wf = true → (l3.length ≤ maxLen ∧ ∀ x ∈ l3, (Lit.int .i64 x).wf = true) → ∃ k, laws_FnExactCutActs.f k l0_0 l1 a2 l3 = some true
end Go.Proofs.Ythbaoefbccdioaa.QFnExactCutActs
namespace Go.Proofs.Ythbaoefbccdioaa.Pure
open Go.RowKit Go.Proofs.Ythbaoefbccdioaa.QFnExactCutActs Go.Proofs.YthbaoefbccdioaaW.PrintWords Go.Proofs.YthbaoefbccdioaaW.PrintLast Go.Proofs.YthbaoefbccdioaaW.PrintMore Go.Proofs.Ythbaoefbccdioaa.M
set_option linter.unusedVariables false
set_option linter.unusedSimpArgs false
set_option maxRecDepth 4000

theorem laws_szFile_is (a b : ByteArray) (c : Int) (left : Int) (h0 : 0 ≤ left) (h1 : left ≤ 1048576) (ha : a.size ≤ maxLen) (hb : b.size ≤ maxLen) :
    ∃ r, laws_szFile.f a b c left = some r ∧ (r < 0 ∨ 0 ≤ r ∧ r ≤ left ∧ (a.size : Int) ≤ left ∧ (b.size : Int) ≤ left) := by
  unfold laws_szFile.f
  simp only [maxLen] at ha hb
  rw [w64 (x := left - (a.size : Int)) (by omega) (by omega)]
  by_cases h : left - (a.size : Int) < 0
  · exact ⟨-1, by rw [if_pos h], .inl (by omega)⟩
  · rw [if_neg h, w64 (x := left - (a.size : Int) - (b.size : Int)) (by omega) (by omega)]
    by_cases h' : left - (a.size : Int) - (b.size : Int) < 0
    · exact ⟨-1, by rw [if_pos h'], .inl (by omega)⟩
    · exact ⟨_, by rw [if_neg h'], .inr (by omega)⟩
abbrev IFi := S76
theorem rd_IFi {l : List IFi} {i : Nat} (h : i < l.length) : rd_T76 l (i : Int) = l[i] := by
  simp [rd_T76, List.getD_eq_getElem?_getD, List.getElem?_eq_getElem h]
theorem rd_IFi_drop {l : List IFi} {i : Nat} (h : i < l.length) : l.drop i = rd_T76 l (i : Int) :: l.drop (i + 1) := by
  rw [List.drop_eq_getElem_cons h, rd_IFi h]
abbrev LFi := S112
def toFi (x : LFi) : IFi := ⟨x.f0, x.f1, x.f2⟩
theorem rd_LFi {l : List LFi} {i : Nat} (h : i < l.length) : rd_T112 l (i : Int) = l[i] := by
  simp [rd_T112, List.getD_eq_getElem?_getD, List.getElem?_eq_getElem h]
theorem laws_szFileS_l0 (l : List LFi) (hl : l.length ≤ 1048576) (hg : ∀ x ∈ l, x.f0.size ≤ maxLen ∧ x.f1.size ≤ maxLen) : ∀ (d i : Nat) (left : Int), i + d = l.length → 0 ≤ left → left ≤ 1048576 →
    ∃ r, Ev (fun k => laws_szFileS.l0 k l left (i : Int)) r ∧ (r < 0 ∨ 0 ≤ r ∧ r ≤ left ∧ ∀ x ∈ l.drop i, (x.f0.size : Int) ≤ left ∧ (x.f1.size : Int) ≤ left)
  | 0, i, left, h, h0, h1 => by
    refine ⟨left, Ev.step (f := fun k => some left) (fun k => ?_) (Ev.now _), .inr ⟨h0, by omega, ?_⟩⟩
    · simp only [laws_szFileS.l0]; rw [if_neg (by omega)]
    · rw [List.drop_of_length_le (by omega)]; simp
  | d + 1, i, left, h, h0, h1 => by
    have hi : i < l.length := by omega
    have hgi := hg _ (List.getElem_mem hi)
    obtain ⟨r, hr, hx⟩ := laws_szFile_is l[i].f0 l[i].f1 l[i].f2 left h0 h1 hgi.1 hgi.2
    rcases hx with hx | ⟨hx0, hx1, hx2⟩
    · refine ⟨-1, Ev.step (f := fun k => some (-1)) (fun k => ?_) (Ev.now _), .inl (by omega)⟩
      simp only [laws_szFileS.l0]
      rw [if_pos (by omega), if_pos (by omega), rd_LFi hi, hr, Option.bind_some, if_pos hx]
    · obtain ⟨r', hr', hy⟩ := laws_szFileS_l0 l hl hg d (i + 1) r (by omega) (by omega) (by omega)
      refine ⟨r', Ev.step (f := fun k => laws_szFileS.l0 k l r ((i + 1 : Nat) : Int)) (fun k => ?_) hr', ?_⟩
      · simp only [laws_szFileS.l0]
        rw [if_pos (by omega), if_pos (by omega), rd_LFi hi, hr, Option.bind_some, if_neg (by omega), w64 (x := (i : Int) + 1) (by omega) (by omega)]; rfl
      · rcases hy with hy | ⟨hy0, hy1, hy2⟩
        · exact .inl hy
        · refine .inr ⟨hy0, by omega, ?_⟩
          rw [List.drop_eq_getElem_cons hi]
          intro x hx
          rcases List.mem_cons.1 hx with rfl | hx
          · exact hx2
          · have := hy2 x hx; omega
theorem laws_szFileS_ev (l : List LFi) (left : Int) (hl : l.length ≤ maxLen) (hg : ∀ x ∈ l, x.f0.size ≤ maxLen ∧ x.f1.size ≤ maxLen) (h0 : 0 ≤ left) (h1 : left ≤ 1048576) :
    ∃ r, Ev (fun k => laws_szFileS.f k l left) r ∧ (r < 0 ∨ 0 ≤ r ∧ r ≤ left ∧ l.length ≤ 1048576 ∧ ∀ x ∈ l, (x.f0.size : Int) ≤ left ∧ (x.f1.size : Int) ≤ left) := by
  simp only [maxLen] at hl
  have e : wrap64 (left - (l.length : Int)) = left - l.length := w64 (by omega) (by omega)
  by_cases h : left - (l.length : Int) < 0
  · exact ⟨-1, by unfold laws_szFileS.f; rw [e]; exact Ev.pos h (Ev.now _), .inl (by omega)⟩
  · obtain ⟨r, hr, hx⟩ := laws_szFileS_l0 l (by omega) hg l.length 0 (left - l.length) (by omega) (by omega) (by omega)
    refine ⟨r, by unfold laws_szFileS.f; rw [e]; exact Ev.neg h hr, ?_⟩
    rcases hx with hx | ⟨hx0, hx1, hx2⟩
    · exact .inl hx
    · exact .inr ⟨hx0, by omega, by omega, fun x hx => by have := hx2 x (by simpa using hx); omega⟩
theorem laws_szDisk_ev (l : List LFi) (left : Int) (hl : l.length ≤ maxLen) (hg : ∀ x ∈ l, x.f0.size ≤ maxLen ∧ x.f1.size ≤ maxLen) (h0 : 0 ≤ left) (h1 : left ≤ 1048576) :
    ∃ r, Ev (fun k => laws_szDisk.f k l left) r ∧ (r < 0 ∨ 0 ≤ r ∧ r ≤ left ∧ l.length ≤ 1048576 ∧ ∀ x ∈ l, (x.f0.size : Int) ≤ left ∧ (x.f1.size : Int) ≤ left) := by
  obtain ⟨r, hr, hx⟩ := laws_szFileS_ev l left hl hg h0 h1
  by_cases h : r < 0
  · exact ⟨-1, by unfold laws_szDisk.f; exact Ev.bind hr (Ev.pos h (Ev.now _)), .inl (by omega)⟩
  · refine ⟨r, by unfold laws_szDisk.f; exact Ev.bind hr (Ev.neg h (Ev.now _)), ?_⟩
    rcases hx with hx | hx
    · exact absurd hx h
    · exact .inr hx
theorem laws_toFile_is (a b : ByteArray) (c : Int) : laws_toFile.f a b c = some (a, b, c) := rfl
theorem laws_toFileS_l0 (l : List LFi) (hl : l.length ≤ 1048576) : ∀ (d i : Nat), i + d = l.length →
    Ev (fun k => laws_toFileS.l0 k l ((l.map toFi).take i ++ List.replicate (l.length - i) z76) (i : Int)) (l.map toFi)
  | 0, i, h => by
    refine Ev.step (f := fun k => some ((l.map toFi).take i ++ List.replicate (l.length - i) z76)) (fun k => ?_) ((Ev.now _).eq ?_)
    · simp only [laws_toFileS.l0]; rw [if_neg (by omega)]
    · obtain rfl : i = l.length := by omega
      rw [List.take_of_length_le (by simp)]; simp
  | d + 1, i, h => by
    have hi : i < l.length := by omega
    refine Ev.step (f := fun k => laws_toFileS.l0 k l ((l.map toFi).take (i + 1) ++ List.replicate (l.length - (i + 1)) z76) ((i + 1 : Nat) : Int)) (fun k => ?_) (laws_toFileS_l0 l hl d (i + 1) (by omega))
    simp only [laws_toFileS.l0]
    rw [if_pos (by omega), if_pos (by omega), rd_LFi hi, laws_toFile_is, Option.bind_some, if_pos (by simp [List.length_take]; omega), w64 (x := (i : Int) + 1) (by omega) (by omega)]
    rw [Int.toNat_natCast]
    have e := fill_step (l.map toFi) z76 i l.length (by simpa using hi) (by simp)
    rw [← e, List.getElem_map]; rfl
theorem laws_toFileS_ev (l : List LFi) (hl : l.length ≤ 1048576) : Ev (fun k => laws_toFileS.f k l) (l.map toFi) := by
  unfold laws_toFileS.f
  refine Ev.pos (by omega) (Ev.pos (by omega) ?_)
  have := laws_toFileS_l0 l hl l.length 0 (by omega)
  simpa using this
theorem laws_toDisk_ev (l : List LFi) (hl : l.length ≤ 1048576) : Ev (fun k => laws_toDisk.f k l) (l.map toFi) := by
  unfold laws_toDisk.f
  exact Ev.bind (laws_toFileS_ev l hl) (Ev.now _)
theorem laws_eqFile_is (a b : ByteArray) (c : Int) : laws_eqFile.f a b c a b c = some true := by
  unfold laws_eqFile.f; simp
theorem laws_eqFileS_l0 (l : List IFi) (hl : l.length ≤ 1048577) : ∀ (d i : Nat), i + d = l.length → Ev (fun k => laws_eqFileS.l0 k l l (i : Int)) true
  | 0, i, h => by
    refine Ev.step (f := fun k => some true) (fun k => ?_) (Ev.now _)
    simp only [laws_eqFileS.l0]; rw [if_neg (by omega)]
  | d + 1, i, h => by
    refine Ev.step (f := fun k => laws_eqFileS.l0 k l l ((i + 1 : Nat) : Int)) (fun k => ?_) (laws_eqFileS_l0 l hl d (i + 1) (by omega))
    simp only [laws_eqFileS.l0]
    rw [if_pos (by omega), if_pos (by omega), if_pos (by omega), laws_eqFile_is, Option.bind_some, if_pos rfl, w64 (x := (i : Int) + 1) (by omega) (by omega)]; rfl
theorem laws_eqFileS_ev (l : List IFi) (hl : l.length ≤ 1048577) : Ev (fun k => laws_eqFileS.f k l l) true := by
  unfold laws_eqFileS.f
  exact Ev.pos rfl (laws_eqFileS_l0 l hl l.length 0 (by omega))
theorem laws_eqDisk_ev (l : List IFi) (hl : l.length ≤ 1048577) : Ev (fun k => laws_eqDisk.f k l l) true := by
  unfold laws_eqDisk.f
  exact Ev.bind (laws_eqFileS_ev l hl) (Ev.pos rfl (Ev.now _))
theorem laws_markText_l0 : ∀ (n : Nat) (acc : ByteArray), n + acc.size ≤ 1000000000000000 → Ev (fun k => laws_markText.l0 k (n : Int) acc) ((⟨#[109]⟩ : ByteArray) ++ mtD n acc) := by
  intro n
  induction n using Nat.strongRecOn with
  | _ n ih =>
    intro acc ha
    by_cases h : 0 < n
    · have e1 : (wrap64 (48 + Int.tmod (n : Int) 10)) % 256 = ((48 + n % 10 : Nat) : Int) := by
        rw [tm (by omega), w64 (by omega) (by omega)]; omega
      have e2 : wrap64 (Int.tdiv (n : Int) 10) = ((n / 10 : Nat) : Int) := by rw [td (by omega), w64 (by omega) (by omega)]; omega
      have hsz : (strOfNums [((48 + n % 10 : Nat) : Int)]).size = 1 := str_size _
      refine Ev.step (f := fun k => laws_markText.l0 k ((n / 10 : Nat) : Int) (strOfNums [((48 + n % 10 : Nat) : Int)] ++ acc)) (fun k => ?_) ((ih (n / 10) (by omega) _ (by rw [size_append, hsz]; omega)).eq ?_)
      · simp only [laws_markText.l0]
        rw [if_pos (by omega), Option.bind_some, e1, e2, if_pos (by rw [hsz]; omega)]
      · rw [mtD.eq_def n acc, if_pos h]
    · obtain rfl : n = 0 := by omega
      refine Ev.step (f := fun k => some ((⟨#[109]⟩ : ByteArray) ++ acc)) (fun k => ?_) ((Ev.now _).eq ?_)
      · simp only [laws_markText.l0]; rw [if_neg (by omega), if_pos (by omega)]
      · rw [mtD.eq_def 0 acc, if_neg (by omega)]
theorem laws_markText_ev (n : Int) (h : n ≤ 1000000000000000) : Ev (fun k => laws_markText.f k n) (mkT n) := by
  unfold laws_markText.f mkT
  by_cases h0 : n ≤ 0
  · rw [if_pos h0]; exact Ev.pos h0 (Ev.now _)
  · rw [if_neg h0]
    have := laws_markText_l0 n.toNat ⟨#[]⟩ (by show n.toNat + 0 ≤ _; omega)
    rw [Int.toNat_of_nonneg (by omega)] at this
    exact Ev.neg h0 this
def mkFi (m : Int) : IFi := ⟨mkT m, mkT (m + 1), m + 2⟩
def seqF (m : Int) : Nat → List IFi
  | 0 => []
  | n + 1 => mkFi m :: seqF (m + 3) n
theorem seqF_length (m : Int) (n : Nat) : (seqF m n).length = n := by
  induction n generalizing m with
  | zero => rfl
  | succ n ih => simp [seqF, ih]
theorem seqF_get (m : Int) (n i : Nat) (h : i < (seqF m n).length) : (seqF m n)[i] = mkFi (m + 3 * i) := by
  induction n generalizing m i with
  | zero => simp [seqF] at h
  | succ n ih =>
    cases i with
    | zero => simp [seqF]
    | succ i => simp only [seqF, List.getElem_cons_succ]; rw [ih]; congr 1; omega
theorem rd_IFi_set {l : List IFi} {i : Nat} (v : IFi) (h : i < l.length) : rd_T76 (l.set i v) (i : Int) = v := by
  rw [rd_IFi (by simpa using h)]; simp
theorem laws_markFileS_l0 (l : List IFi) (hl : l.length ≤ 1048577) (m : Int) (h0 : 0 ≤ m) (hm : m ≤ 10000000000000) : ∀ (d i : Nat), i + d = l.length →
    Ev (fun k => laws_markFileS.l0 k ((seqF m l.length).take i ++ l.drop i) (m + 3 * i) (i : Int)) (m + 3 * l.length, seqF m l.length)
  | 0, i, h => by
    obtain rfl : i = l.length := by omega
    have e : (seqF m l.length).take l.length ++ l.drop l.length = seqF m l.length := by rw [List.drop_length, List.append_nil, List.take_of_length_le (by rw [seqF_length]; omega)]
    rw [e]
    refine Ev.step (f := fun k => some (m + 3 * (l.length : Int), seqF m l.length)) (fun k => ?_) (Ev.now _)
    simp only [laws_markFileS.l0]; rw [if_neg (by rw [seqF_length]; omega)]
  | d + 1, i, h => by
    have hM : (seqF m l.length).length = l.length := seqF_length _ _
    have hL : ((seqF m l.length).take i ++ l.drop i).length = l.length := by rw [List.length_append, List.length_take, List.length_drop, hM]; omega
    have em := mark_step (seqF m l.length) l i (by omega) hM
    rw [seqF_get] at em
    generalize hX : (seqF m l.length).take i ++ l.drop i = X at hL em ⊢
    have hi : i < X.length := by omega
    refine Ev.step (f := fun k => (laws_markText.f k (m + 3 * i)).bind fun t => (laws_markText.f k (m + 3 * i + 1)).bind fun u => laws_markFileS.l0 k (X.set i ⟨t, u, m + 3 * i + 2⟩) (m + 3 * ((i + 1 : Nat) : Int)) ((i + 1 : Nat) : Int)) (fun k => ?_) (Ev.bind (laws_markText_ev _ (by omega)) (Ev.bind (laws_markText_ev _ (by omega)) ((laws_markFileS_l0 l hl m h0 hm d (i + 1) (by omega)).congr' ?_)))
    · simp only [laws_markFileS.l0]
      rw [if_pos (by omega)]
      have w1 : wrap64 (m + 3 * (i : Int) + 1) = m + 3 * i + 1 := w64 (by omega) (by omega)
      have w2 : wrap64 (m + 3 * (i : Int) + 1 + 1) = m + 3 * i + 2 := by rw [w64 (by omega) (by omega)]; omega
      have w3 : wrap64 (m + 3 * (i : Int) + 2 + 1) = m + 3 * ((i + 1 : Nat) : Int) := by rw [w64 (by omega) (by omega)]; omega
      have w4 : wrap64 ((i : Int) + 1) = ((i + 1 : Nat) : Int) := by rw [w64 (by omega) (by omega)]; omega
      simp only [Option.bind_some, Int.toNat_natCast, w1, w2, w3, w4, if_pos (show (0 : Int) ≤ (i : Int) from by omega)]
      have r1 : ∀ v : IFi, rd_T76 (X.set i v) (i : Int) = v := fun v => rd_IFi_set v hi
      have r2 : ∀ v u : IFi, rd_T76 ((X.set i v).set i u) (i : Int) = u := fun v u => rd_IFi_set u (by simpa using hi)
      simp only [r1, r2, List.set_set]
    · intro k
      have e2 : (⟨mkT (m + 3 * (i : Int)), mkT (m + 3 * (i : Int) + 1), m + 3 * (i : Int) + 2⟩ : IFi) = mkFi (m + 3 * i) := rfl
      rw [e2, em]
theorem laws_markFileS_ev (l : List IFi) (hl : l.length ≤ 1048577) (m : Int) (h0 : 0 ≤ m) (hm : m ≤ 10000000000000) : Ev (fun k => laws_markFileS.f k l m) (m + 3 * l.length, seqF m l.length) := by
  have := laws_markFileS_l0 l hl m h0 hm l.length 0 (by omega)
  show Ev (fun k => laws_markFileS.l0 k l m 0) _
  simpa using this
theorem laws_markDisk_ev (l : List IFi) (hl : l.length ≤ 1048577) (m : Int) (h0 : 0 ≤ m) (hm : m ≤ 10000000000000) : Ev (fun k => laws_markDisk.f k l m) (m + 3 * (l.length : Int), seqF m l.length) := by
  unfold laws_markDisk.f
  exact Ev.bind (laws_markFileS_ev l hl m h0 hm) (Ev.now _)
theorem laws_heldFileS_l0 (n : Nat) (hl : n ≤ 1048577) (m : Int) (h0 : 0 ≤ m) (hm : m ≤ 10000000000000) : ∀ (d i : Nat), i + d = n →
    Ev (fun k => laws_heldFileS.l0 k (seqF m n) (m + 3 * i) (i : Int)) (m + 3 * n)
  | 0, i, h => by
    obtain rfl : i = n := by omega
    refine Ev.step (f := fun k => some (m + 3 * (i : Int))) (fun k => ?_) (Ev.now _)
    simp only [laws_heldFileS.l0]; rw [if_neg (by rw [seqF_length]; omega)]
  | d + 1, i, h => by
    have er : rd_T76 (seqF m n) (i : Int) = mkFi (m + 3 * i) := by rw [rd_IFi (by rw [seqF_length]; omega), seqF_get]
    refine Ev.step (f := fun k => (laws_markText.f k (m + 3 * i)).bind fun t => if (mkT (m + 3 * i)).toList = t.toList then ((laws_markText.f k (m + 3 * i + 1)).bind fun u => if (mkT (m + 3 * i + 1)).toList = u.toList then laws_heldFileS.l0 k (seqF m n) (m + 3 * ((i + 1 : Nat) : Int)) ((i + 1 : Nat) : Int) else some (-1)) else some (-1)) (fun k => ?_) (Ev.bind (laws_markText_ev _ (by omega)) (Ev.pos rfl (Ev.bind (laws_markText_ev _ (by omega)) (Ev.pos rfl (laws_heldFileS_l0 n hl m h0 hm d (i + 1) (by omega))))))
    simp only [laws_heldFileS.l0]
    have w1 : wrap64 (m + 3 * (i : Int) + 1) = m + 3 * i + 1 := w64 (by omega) (by omega)
    have w2 : wrap64 (m + 3 * (i : Int) + 1 + 1) = m + 3 * i + 2 := by rw [w64 (by omega) (by omega)]; omega
    have w3 : wrap64 (m + 3 * (i : Int) + 2 + 1) = m + 3 * ((i + 1 : Nat) : Int) := by rw [w64 (by omega) (by omega)]; omega
    have w4 : wrap64 ((i : Int) + 1) = ((i + 1 : Nat) : Int) := by rw [w64 (by omega) (by omega)]; omega
    rw [if_pos (by rw [seqF_length]; omega), if_pos (by omega), er]
    simp only [mkFi, w1, w2, w3, w4, if_true]
theorem laws_heldFileS_ev (n : Nat) (hl : n ≤ 1048577) (m : Int) (h0 : 0 ≤ m) (hm : m ≤ 10000000000000) : Ev (fun k => laws_heldFileS.f k (seqF m n) m) (m + 3 * n) := by
  have := laws_heldFileS_l0 n hl m h0 hm n 0 (by omega)
  show Ev (fun k => laws_heldFileS.l0 k (seqF m n) m 0) _
  simpa using this
theorem laws_heldDisk_ev (n : Nat) (hl : n ≤ 1048577) (m : Int) (h0 : 0 ≤ m) (hm : m ≤ 10000000000000) : Ev (fun k => laws_heldDisk.f k (seqF m n) m) (m + 3 * (n : Int)) := by
  unfold laws_heldDisk.f
  exact Ev.bind (laws_heldFileS_ev n hl m h0 hm) (Ev.neg (by omega) (Ev.now _))
theorem laws_szAct_is (i : Int) (a b c : ByteArray) (left : Int) (h0 : 0 ≤ left) (h1 : left ≤ 1048576) (ha : a.size ≤ maxLen) (hb : b.size ≤ maxLen) (hc : c.size ≤ maxLen) :
    ∃ r, laws_szAct.f i a b c left = some r ∧ (r < 0 ∨ 0 ≤ r ∧ r ≤ left ∧ (a.size : Int) ≤ left ∧ (b.size : Int) ≤ left ∧ (c.size : Int) ≤ left) := by
  unfold laws_szAct.f
  simp only [maxLen] at ha hb hc
  rw [w64 (x := left - (a.size : Int)) (by omega) (by omega)]
  by_cases h : left - (a.size : Int) < 0
  · exact ⟨-1, by rw [if_pos h], .inl (by omega)⟩
  · rw [if_neg h, w64 (x := left - (a.size : Int) - (b.size : Int)) (by omega) (by omega)]
    by_cases h' : left - (a.size : Int) - (b.size : Int) < 0
    · exact ⟨-1, by rw [if_pos h'], .inl (by omega)⟩
    · rw [if_neg h', w64 (x := left - (a.size : Int) - (b.size : Int) - (c.size : Int)) (by omega) (by omega)]
      by_cases h'' : left - (a.size : Int) - (b.size : Int) - (c.size : Int) < 0
      · exact ⟨-1, by rw [if_pos h''], .inl (by omega)⟩
      · exact ⟨_, by rw [if_neg h''], .inr (by omega)⟩
abbrev IAc := S35
theorem rd_IAc {l : List IAc} {i : Nat} (h : i < l.length) : rd_T35 l (i : Int) = l[i] := by
  simp [rd_T35, List.getD_eq_getElem?_getD, List.getElem?_eq_getElem h]
theorem rd_IAc_set {l : List IAc} {i : Nat} (v : IAc) (h : i < l.length) : rd_T35 (l.set i v) (i : Int) = v := by
  rw [rd_IAc (by simpa using h)]; simp
def mkAc (m : Int) : IAc := ⟨m, mkT (m + 1), mkT (m + 2), mkT (m + 3)⟩
def seqA (m : Int) : Nat → List IAc
  | 0 => []
  | n + 1 => mkAc m :: seqA (m + 4) n
theorem seqA_length (m : Int) (n : Nat) : (seqA m n).length = n := by
  induction n generalizing m with
  | zero => rfl
  | succ n ih => simp [seqA, ih]
theorem seqA_get (m : Int) (n i : Nat) (h : i < (seqA m n).length) : (seqA m n)[i] = mkAc (m + 4 * i) := by
  induction n generalizing m i with
  | zero => simp [seqA] at h
  | succ n ih =>
    cases i with
    | zero => simp [seqA]
    | succ i => simp only [seqA, List.getElem_cons_succ]; rw [ih]; congr 1; omega
abbrev LAc := S26
def toAc (x : LAc) : IAc := ⟨x.f0, x.f1, x.f2, x.f3⟩
theorem rd_LAc {l : List LAc} {i : Nat} (h : i < l.length) : rd_T26 l (i : Int) = l[i] := by
  simp [rd_T26, List.getD_eq_getElem?_getD, List.getElem?_eq_getElem h]
theorem laws_szActS_l0 (l : List LAc) (hl : l.length ≤ 1048576) (hg : ∀ x ∈ l, x.f1.size ≤ maxLen ∧ x.f2.size ≤ maxLen ∧ x.f3.size ≤ maxLen) : ∀ (d i : Nat) (left : Int), i + d = l.length → 0 ≤ left → left ≤ 1048576 →
    ∃ r, Ev (fun k => laws_szActS.l0 k l left (i : Int)) r ∧ (r < 0 ∨ 0 ≤ r ∧ r ≤ left ∧ ∀ x ∈ l.drop i, (x.f1.size : Int) ≤ left ∧ (x.f2.size : Int) ≤ left ∧ (x.f3.size : Int) ≤ left)
  | 0, i, left, h, h0, h1 => by
    refine ⟨left, Ev.step (f := fun k => some left) (fun k => ?_) (Ev.now _), .inr ⟨h0, by omega, ?_⟩⟩
    · simp only [laws_szActS.l0]; rw [if_neg (by omega)]
    · rw [List.drop_of_length_le (by omega)]; simp
  | d + 1, i, left, h, h0, h1 => by
    have hi : i < l.length := by omega
    have hgi := hg _ (List.getElem_mem hi)
    obtain ⟨r, hr, hx⟩ := laws_szAct_is l[i].f0 l[i].f1 l[i].f2 l[i].f3 left h0 h1 hgi.1 hgi.2.1 hgi.2.2
    rcases hx with hx | ⟨hx0, hx1, hx2⟩
    · refine ⟨-1, Ev.step (f := fun k => some (-1)) (fun k => ?_) (Ev.now _), .inl (by omega)⟩
      simp only [laws_szActS.l0]
      rw [if_pos (by omega), if_pos (by omega), rd_LAc hi, hr, Option.bind_some, if_pos hx]
    · obtain ⟨r', hr', hy⟩ := laws_szActS_l0 l hl hg d (i + 1) r (by omega) (by omega) (by omega)
      refine ⟨r', Ev.step (f := fun k => laws_szActS.l0 k l r ((i + 1 : Nat) : Int)) (fun k => ?_) hr', ?_⟩
      · simp only [laws_szActS.l0]
        rw [if_pos (by omega), if_pos (by omega), rd_LAc hi, hr, Option.bind_some, if_neg (by omega), w64 (x := (i : Int) + 1) (by omega) (by omega)]; rfl
      · rcases hy with hy | ⟨hy0, hy1, hy2⟩
        · exact .inl hy
        · refine .inr ⟨hy0, by omega, ?_⟩
          rw [List.drop_eq_getElem_cons hi]
          intro x hx
          rcases List.mem_cons.1 hx with rfl | hx
          · exact hx2
          · have := hy2 x hx; omega
theorem laws_szActS_ev (l : List LAc) (left : Int) (hl : l.length ≤ maxLen) (hg : ∀ x ∈ l, x.f1.size ≤ maxLen ∧ x.f2.size ≤ maxLen ∧ x.f3.size ≤ maxLen) (h0 : 0 ≤ left) (h1 : left ≤ 1048576) :
    ∃ r, Ev (fun k => laws_szActS.f k l left) r ∧ (r < 0 ∨ 0 ≤ r ∧ r ≤ left ∧ l.length ≤ 1048576 ∧ ∀ x ∈ l, (x.f1.size : Int) ≤ left ∧ (x.f2.size : Int) ≤ left ∧ (x.f3.size : Int) ≤ left) := by
  simp only [maxLen] at hl
  have e : wrap64 (left - (l.length : Int)) = left - l.length := w64 (by omega) (by omega)
  by_cases h : left - (l.length : Int) < 0
  · exact ⟨-1, by unfold laws_szActS.f; rw [e]; exact Ev.pos h (Ev.now _), .inl (by omega)⟩
  · obtain ⟨r, hr, hx⟩ := laws_szActS_l0 l (by omega) hg l.length 0 (left - l.length) (by omega) (by omega) (by omega)
    refine ⟨r, by unfold laws_szActS.f; rw [e]; exact Ev.neg h hr, ?_⟩
    rcases hx with hx | ⟨hx0, hx1, hx2⟩
    · exact .inl hx
    · exact .inr ⟨hx0, by omega, by omega, fun x hx => by have := hx2 x (by simpa using hx); omega⟩
theorem laws_toAct_is (i : Int) (a b c : ByteArray) : laws_toAct.f i a b c = some (i, a, b, c) := rfl
theorem laws_toActS_l0 (l : List LAc) (hl : l.length ≤ 1048576) : ∀ (d i : Nat), i + d = l.length →
    Ev (fun k => laws_toActS.l0 k l ((l.map toAc).take i ++ List.replicate (l.length - i) z35) (i : Int)) (l.map toAc)
  | 0, i, h => by
    refine Ev.step (f := fun k => some ((l.map toAc).take i ++ List.replicate (l.length - i) z35)) (fun k => ?_) ((Ev.now _).eq ?_)
    · simp only [laws_toActS.l0]; rw [if_neg (by omega)]
    · obtain rfl : i = l.length := by omega
      rw [List.take_of_length_le (by simp)]; simp
  | d + 1, i, h => by
    have hi : i < l.length := by omega
    refine Ev.step (f := fun k => laws_toActS.l0 k l ((l.map toAc).take (i + 1) ++ List.replicate (l.length - (i + 1)) z35) ((i + 1 : Nat) : Int)) (fun k => ?_) (laws_toActS_l0 l hl d (i + 1) (by omega))
    simp only [laws_toActS.l0]
    rw [if_pos (by omega), if_pos (by omega), rd_LAc hi, laws_toAct_is, Option.bind_some, if_pos (by simp [List.length_take]; omega), w64 (x := (i : Int) + 1) (by omega) (by omega)]
    rw [Int.toNat_natCast]
    have e := fill_step (l.map toAc) z35 i l.length (by simpa using hi) (by simp)
    rw [← e, List.getElem_map]; rfl
theorem laws_toActS_ev (l : List LAc) (hl : l.length ≤ 1048576) : Ev (fun k => laws_toActS.f k l) (l.map toAc) := by
  unfold laws_toActS.f
  refine Ev.pos (by omega) (Ev.pos (by omega) ?_)
  have := laws_toActS_l0 l hl l.length 0 (by omega)
  simpa using this
theorem laws_eqAct_is (a : Int) (b c d : ByteArray) : laws_eqAct.f a b c d a b c d = some true := by
  unfold laws_eqAct.f; simp
theorem laws_eqActS_l0 (l : List IAc) (hl : l.length ≤ 1048577) : ∀ (d i : Nat), i + d = l.length → Ev (fun k => laws_eqActS.l0 k l l (i : Int)) true
  | 0, i, h => by
    refine Ev.step (f := fun k => some true) (fun k => ?_) (Ev.now _)
    simp only [laws_eqActS.l0]; rw [if_neg (by omega)]
  | d + 1, i, h => by
    refine Ev.step (f := fun k => laws_eqActS.l0 k l l ((i + 1 : Nat) : Int)) (fun k => ?_) (laws_eqActS_l0 l hl d (i + 1) (by omega))
    simp only [laws_eqActS.l0]
    rw [if_pos (by omega), if_pos (by omega), if_pos (by omega), laws_eqAct_is, Option.bind_some, if_pos rfl, w64 (x := (i : Int) + 1) (by omega) (by omega)]; rfl
theorem laws_eqActS_ev (l : List IAc) (hl : l.length ≤ 1048577) : Ev (fun k => laws_eqActS.f k l l) true := by
  unfold laws_eqActS.f
  exact Ev.pos rfl (laws_eqActS_l0 l hl l.length 0 (by omega))
theorem laws_markActS_l0 (l : List IAc) (hl : l.length ≤ 1048577) (m : Int) (h0 : 0 ≤ m) (hm : m ≤ 10000000000000) : ∀ (d i : Nat), i + d = l.length →
    Ev (fun k => laws_markActS.l0 k ((seqA m l.length).take i ++ l.drop i) (m + 4 * i) (i : Int)) (m + 4 * l.length, seqA m l.length) := by
  intro d
  induction d with
  | zero =>
    intro i h
    obtain rfl : i = l.length := by omega
    have e : (seqA m l.length).take l.length ++ l.drop l.length = seqA m l.length := by rw [List.drop_length, List.append_nil, List.take_of_length_le (by rw [seqA_length]; omega)]
    rw [e]
    refine Ev.step (f := fun k => some (m + 4 * (l.length : Int), seqA m l.length)) (fun k => ?_) (Ev.now _)
    simp only [laws_markActS.l0]; rw [if_neg (by rw [seqA_length]; omega)]
  | succ d ih =>
    intro i h
    have hM : (seqA m l.length).length = l.length := seqA_length _ _
    have hL : ((seqA m l.length).take i ++ l.drop i).length = l.length := by rw [List.length_append, List.length_take, List.length_drop, hM]; omega
    have em := mark_step (seqA m l.length) l i (by omega) hM
    rw [seqA_get] at em
    generalize hX : (seqA m l.length).take i ++ l.drop i = X at hL em ⊢
    have hi : i < X.length := by omega
    refine Ev.step (f := fun k => (laws_markText.f k (m + 4 * i + 1)).bind fun t => (laws_markText.f k (m + 4 * i + 2)).bind fun u => (laws_markText.f k (m + 4 * i + 3)).bind fun v => laws_markActS.l0 k (X.set i ⟨m + 4 * i, t, u, v⟩) (m + 4 * ((i + 1 : Nat) : Int)) ((i + 1 : Nat) : Int)) (fun k => ?_) (Ev.bind (laws_markText_ev _ (by omega)) (Ev.bind (laws_markText_ev _ (by omega)) (Ev.bind (laws_markText_ev _ (by omega)) ((ih (i + 1) (by omega)).congr' ?_))))
    · simp only [laws_markActS.l0]
      rw [if_pos (by omega)]
      have w1 : wrap64 (m + 4 * (i : Int) + 1) = m + 4 * i + 1 := w64 (by omega) (by omega)
      have w2 : wrap64 (m + 4 * (i : Int) + 1 + 1) = m + 4 * i + 2 := by rw [w64 (by omega) (by omega)]; omega
      have w3 : wrap64 (m + 4 * (i : Int) + 2 + 1) = m + 4 * i + 3 := by rw [w64 (by omega) (by omega)]; omega
      have w5 : wrap64 (m + 4 * (i : Int) + 3 + 1) = m + 4 * ((i + 1 : Nat) : Int) := by rw [w64 (by omega) (by omega)]; omega
      have w4 : wrap64 ((i : Int) + 1) = ((i + 1 : Nat) : Int) := by rw [w64 (by omega) (by omega)]; omega
      have r1 : ∀ v : IAc, rd_T35 (X.set i v) (i : Int) = v := fun v => rd_IAc_set v hi
      have r2 : ∀ v u : IAc, rd_T35 ((X.set i v).set i u) (i : Int) = u := fun v u => rd_IAc_set u (by simpa using hi)
      rw [if_pos (show (0 : Int) ≤ (i : Int) from Int.natCast_nonneg i), Option.bind_some, Int.toNat_natCast]
      simp only [r1, r2, List.set_set, w1, w2, w3, w5, w4]
      simp only [Option.bind_some, r1, r2, List.set_set]
    · intro k
      have e2 : (⟨m + 4 * (i : Int), mkT (m + 4 * (i : Int) + 1), mkT (m + 4 * (i : Int) + 2), mkT (m + 4 * (i : Int) + 3)⟩ : IAc) = mkAc (m + 4 * i) := rfl
      rw [e2, em]
theorem laws_markActS_ev (l : List IAc) (hl : l.length ≤ 1048577) (m : Int) (h0 : 0 ≤ m) (hm : m ≤ 10000000000000) : Ev (fun k => laws_markActS.f k l m) (m + 4 * l.length, seqA m l.length) := by
  have := laws_markActS_l0 l hl m h0 hm l.length 0 (by omega)
  show Ev (fun k => laws_markActS.l0 k l m 0) _
  simpa using this
def fAt (l : List IFi) (s : ByteArray) : Int := M.idxP (fun x : IFi => x.f0.toList == s.toList) l 0
theorem spec_l03At_l0 (l : List IFi) (hl : l.length ≤ 1048577) (s : ByteArray) : ∀ (d i : Nat), i + d = l.length → Ev (fun k => spec_l03At.l0 k s (i : Int) l) (M.idxP (fun x : IFi => x.f0.toList == s.toList) (l.drop i) (i : Int))
  | 0, i, h => by
    refine Ev.step (f := fun k => some (-1)) (fun k => ?_) ((Ev.now _).eq ?_)
    · simp only [spec_l03At.l0]; rw [if_neg (by omega)]
    · rw [List.drop_of_length_le (by omega)]; rfl
  | d + 1, i, h => by
    rw [rd_IFi_drop (l := l) (i := i) (by omega)]
    by_cases e : (rd_T76 l (i : Int)).f0.toList = s.toList
    · refine Ev.step (f := fun k => some (i : Int)) (fun k => ?_) ((Ev.now _).eq ?_)
      · simp only [spec_l03At.l0]
        rw [if_pos (by omega), if_pos (by omega), if_pos e]
      · simp only [M.idxP]; rw [if_pos (by simpa using e)]
    · refine Ev.step (f := fun k => spec_l03At.l0 k s ((i + 1 : Nat) : Int) l) (fun k => ?_) ((spec_l03At_l0 l hl s d (i + 1) (by omega)).eq ?_)
      · simp only [spec_l03At.l0]
        rw [if_pos (by omega), if_pos (by omega), if_neg e, w64 (x := (i : Int) + 1) (by omega) (by omega)]; rfl
      · simp only [M.idxP]; rw [if_neg (by simpa using e)]; rfl
theorem spec_l03At_ev (l : List IFi) (hl : l.length ≤ 1048577) (s : ByteArray) : Ev (fun k => spec_l03At.f k l s) (fAt l s) := by
  unfold spec_l03At.f
  have := spec_l03At_l0 l hl s l.length 0 (by omega)
  rw [List.drop_zero] at this
  exact this
theorem fAt_cases (l : List IFi) (s : ByteArray) : fAt l s = -1 ∨ ∃ (k : Nat) (h : k < l.length), fAt l s = (k : Int) ∧ l[k].f0.toList = s.toList := by
  rcases M.idxP_cases (fun x : IFi => x.f0.toList == s.toList) l 0 with ⟨h, _⟩ | ⟨k, h, e, hk⟩
  · exact .inl h
  · exact .inr ⟨k, h, by unfold fAt; omega, by simpa using hk⟩
def fileAt (l : List IFi) (s : ByteArray) : ByteArray × Bool := if fAt l s < 0 then (⟨#[]⟩, false) else ((rd_T76 l (fAt l s)).f1, true)
theorem impl_fileAt_is (l : List IFi) (s : ByteArray) : impl_fileAt.f l s = some (fAt l s) := rfl
theorem impl_within_is (a b c : Int) : impl_within.f a b c = some (inR a b c) := by
  unfold impl_within.f inR
  by_cases h : a ≥ b
  · rw [if_pos h]; congr 1; simp; omega
  · rw [if_neg h]; congr 1; simp; omega
def bLess (a b : ByteArray) : Bool := Go.Op.bytesLess a.toList b.toList
def fileOk (x : IFi) : Bool := decide (1 ≤ x.f0.size ∧ x.f0.size ≤ 8) && decide (x.f1.size ≤ 20000) && decide (0 ≤ x.f2 ∧ x.f2 ≤ (x.f1.size : Int))
def above : Option ByteArray → ByteArray → Bool
  | none, _ => true
  | some q, s => bLess q s
def filesOk : Option ByteArray → List IFi → Bool
  | _, [] => true
  | p, x :: l => fileOk x && above p x.f0 && filesOk (some x.f0) l
def diskOk (l : List IFi) : Bool := decide (l.length ≤ 30) && filesOk none l
theorem impl_DiskOk_l0 (l : List IFi) (hl : l.length ≤ 1048577) : ∀ (d i : Nat) (p : Option ByteArray), i + d = l.length → (i = 0 → p = none) → (0 < i → p = some (rd_T76 l ((i - 1 : Nat) : Int)).f0) →
    Ev (fun k => impl_DiskOk.l0 k l (l.length : Int) (i : Int) l) (decide (l.length ≤ 30) && filesOk p (l.drop i))
  | 0, i, p, h, h0, h1 => by
    refine Ev.step (f := fun k => some (decide ((l.length : Int) ≤ 30))) (fun k => ?_) ((Ev.now _).eq ?_)
    · simp only [impl_DiskOk.l0]; rw [if_neg (by omega)]
    · rw [List.drop_of_length_le (by omega)]
      simp only [filesOk, Bool.and_true]
      congr 1
      simp only [eq_iff_iff]; omega
  | d + 1, i, p, h, h0, h1 => by
    rw [rd_IFi_drop (l := l) (i := i) (by omega)]
    have ih := impl_DiskOk_l0 l hl d (i + 1) (some (rd_T76 l (i : Int)).f0) (by omega) (by omega) (fun _ => by simp)
    have a1i : ∀ s : ByteArray, inR (s.size : Int) 1 8 = decide (1 ≤ s.size ∧ s.size ≤ 8) := by
      intro s; unfold inR; congr 1; simp only [eq_iff_iff]; omega
    generalize hx : rd_T76 l (i : Int) = x at *
    simp only [filesOk, fileOk]
    by_cases a1 : 1 ≤ x.f0.size ∧ x.f0.size ≤ 8
    · by_cases a2 : x.f1.size ≤ 20000
      · by_cases a3 : 0 ≤ x.f2 ∧ x.f2 ≤ (x.f1.size : Int)
        · rw [decide_eq_true a1, decide_eq_true a2, decide_eq_true a3, Bool.true_and, Bool.true_and, Bool.true_and]
          by_cases hi : 0 < i
          · rw [h1 hi]
            have ei : wrap64 ((i : Int) - 1) = ((i - 1 : Nat) : Int) := by rw [w64 (by omega) (by omega)]; omega
            by_cases hb : bLess (rd_T76 l ((i - 1 : Nat) : Int)).f0 x.f0 = true
            · refine Ev.step (f := fun k => impl_DiskOk.l0 k l (l.length : Int) ((i + 1 : Nat) : Int) l) (fun k => ?_) (ih.eq ?_)
              · simp only [impl_DiskOk.l0]
                rw [if_pos (by omega), if_pos (by omega), if_pos (by omega), hx, impl_within_is, Option.bind_some, a1i, if_pos (decide_eq_true a1), if_neg (by omega), impl_within_is, Option.bind_some, if_pos (inR_iff.2 a3), if_pos (by omega), ei, if_pos (by omega), if_pos (by omega), if_pos (show Go.Op.bytesLess _ _ = true from hb)]
                rw [w64 (x := (i : Int) + 1) (by omega) (by omega)]; rfl
              · simp only [above]; rw [hb, Bool.true_and]
            · refine Ev.step (f := fun k => some false) (fun k => ?_) ((Ev.now _).eq ?_)
              · simp only [impl_DiskOk.l0]
                rw [if_pos (by omega), if_pos (by omega), if_pos (by omega), hx, impl_within_is, Option.bind_some, a1i, if_pos (decide_eq_true a1), if_neg (by omega), impl_within_is, Option.bind_some, if_pos (inR_iff.2 a3), if_pos (by omega), ei, if_pos (by omega), if_pos (by omega), if_neg (show ¬ Go.Op.bytesLess _ _ = true from hb)]
              · simp only [above]; rw [Bool.not_eq_true _ |>.mp hb, Bool.false_and, Bool.and_false]
          · rw [h0 (by omega)]
            refine Ev.step (f := fun k => impl_DiskOk.l0 k l (l.length : Int) ((i + 1 : Nat) : Int) l) (fun k => ?_) (ih.eq ?_)
            · simp only [impl_DiskOk.l0]
              rw [if_pos (by omega), if_pos (by omega), if_pos (by omega), hx, impl_within_is, Option.bind_some, a1i, if_pos (decide_eq_true a1), if_neg (by omega), impl_within_is, Option.bind_some, if_pos (inR_iff.2 a3), if_neg (by omega)]
              rw [w64 (x := (i : Int) + 1) (by omega) (by omega)]; rfl
            · simp only [above]; rw [Bool.true_and]
        · refine Ev.step (f := fun k => some false) (fun k => ?_) ((Ev.now _).eq ?_)
          · simp only [impl_DiskOk.l0]
            rw [if_pos (by omega), if_pos (by omega), if_pos (by omega), hx, impl_within_is, Option.bind_some, a1i, if_pos (decide_eq_true a1), if_neg (by omega), impl_within_is, Option.bind_some, if_neg (fun e => a3 (inR_iff.1 e))]
          · rw [decide_eq_false a3]; simp
      · refine Ev.step (f := fun k => some false) (fun k => ?_) ((Ev.now _).eq ?_)
        · simp only [impl_DiskOk.l0]
          rw [if_pos (by omega), if_pos (by omega), if_pos (by omega), hx, impl_within_is, Option.bind_some, a1i, if_pos (decide_eq_true a1), if_pos (by omega)]
        · rw [decide_eq_false a2]; simp
    · refine Ev.step (f := fun k => some false) (fun k => ?_) ((Ev.now _).eq ?_)
      · simp only [impl_DiskOk.l0]
        rw [if_pos (by omega), if_pos (by omega), if_pos (by omega), hx, impl_within_is, Option.bind_some, a1i, if_neg (by rw [decide_eq_true_eq]; exact a1)]
      · rw [decide_eq_false a1]; simp
theorem impl_DiskOk_ev (l : List IFi) (hl : l.length ≤ 1048577) : Ev (fun k => impl_DiskOk.f k l) (diskOk l) :=
  impl_DiskOk_l0 l hl l.length 0 none (by omega) (fun _ => rfl) (fun h => absurd h (by omega))
theorem impl_copyDisk_is (l : List IFi) (hl : l.length ≤ 1048577) : impl_copyDisk.f l = some l := by
  unfold impl_copyDisk.f
  rw [if_pos (by simp; omega)]; rfl
open Go.Proofs.Ythbaoefbccdioaa.Sem (less_irrefl less_trans less_total)
theorem less_asymm {a b : List UInt8} (h : Go.Op.bytesLess a b = true) : Go.Op.bytesLess b a = false := Go.Proofs.Ythbaoefbccdioaa.Sem.less_no h
def Sd (l : List IFi) : Prop := l.Pairwise (fun x y => bLess x.f0 y.f0 = true)
theorem filesOk_iff : ∀ (l : List IFi) (p : Option ByteArray), filesOk p l = true ↔ (∀ x ∈ l, fileOk x = true) ∧ (∀ x ∈ l, above p x.f0 = true) ∧ Sd l
  | [], p => by simp [filesOk, Sd]
  | x :: l, p => by
    simp only [filesOk, Bool.and_eq_true, filesOk_iff l (some x.f0), Sd, List.pairwise_cons, List.mem_cons, forall_eq_or_imp, above]
    constructor
    · rintro ⟨⟨h1, h2⟩, h3, h4, h5⟩
      refine ⟨⟨h1, h3⟩, ⟨h2, fun y hy => ?_⟩, h4, h5⟩
      cases p with
      | none => rfl
      | some q => exact less_trans _ _ _ h2 (h4 y hy)
    · rintro ⟨⟨h1, h3⟩, ⟨h2, _⟩, h4, h5⟩
      exact ⟨⟨h1, h2⟩, h3, h4, h5⟩
theorem diskOk_iff (l : List IFi) : diskOk l = true ↔ l.length ≤ 30 ∧ (∀ x ∈ l, fileOk x = true) ∧ Sd l := by
  unfold diskOk
  rw [Bool.and_eq_true, decide_eq_true_eq, filesOk_iff]
  constructor
  · rintro ⟨h, h1, _, h2⟩; exact ⟨h, h1, h2⟩
  · rintro ⟨h, h1, h2⟩; exact ⟨h, h1, fun _ _ => rfl, h2⟩
theorem fileOk_iff (x : IFi) : fileOk x = true ↔ (1 ≤ x.f0.size ∧ x.f0.size ≤ 8) ∧ x.f1.size ≤ 20000 ∧ 0 ≤ x.f2 ∧ x.f2 ≤ (x.f1.size : Int) := by
  unfold fileOk; simp only [Bool.and_eq_true, decide_eq_true_eq]; exact ⟨fun h => ⟨h.1.1, h.1.2, h.2⟩, fun h => ⟨⟨h.1, h.2.1⟩, h.2.2⟩⟩
/-- A file in its place among files in order: in the place of that of its name, where there is one. -/
def putL (l : List IFi) (f : IFi) : List IFi := l.filter (fun x => bLess x.f0 f.f0) ++ f :: l.filter (fun x => bLess f.f0 x.f0)
theorem putL_len (l : List IFi) (f : IFi) : (putL l f).length ≤ l.length + 1 := by
  unfold putL
  rw [List.length_append, List.length_cons]
  have : ∀ l : List IFi, (l.filter (fun x => bLess x.f0 f.f0)).length + (l.filter (fun x => bLess f.f0 x.f0)).length ≤ l.length := by
    intro l
    induction l with
    | nil => simp
    | cons x l ih =>
      simp only [List.filter_cons, List.length_cons]
      cases h1 : bLess x.f0 f.f0 with
      | true => rw [show bLess f.f0 x.f0 = false from less_asymm h1]; simp; omega
      | false =>
        cases h2 : bLess f.f0 x.f0 with
        | true => simp; omega
        | false => simp; omega
  have := this l
  omega
theorem putL_sd {l : List IFi} (h : Sd l) (f : IFi) : Sd (putL l f) := by
  unfold putL Sd
  rw [List.pairwise_append, List.pairwise_cons]
  refine ⟨h.sublist List.filter_sublist, ⟨fun x hx => ?_, h.sublist List.filter_sublist⟩, fun x hx y hy => ?_⟩
  · simpa using (List.mem_filter.1 hx).2
  · have h1 := (List.mem_filter.1 hx).2
    rcases List.mem_cons.1 hy with rfl | hy
    · exact h1
    · exact less_trans _ _ _ h1 (List.mem_filter.1 hy).2
theorem putL_ok {l : List IFi} {f : IFi} (h : ∀ x ∈ l, fileOk x = true) (hf : fileOk f = true) : ∀ x ∈ putL l f, fileOk x = true := by
  intro x hx
  unfold putL at hx
  rcases List.mem_append.1 hx with hx | hx
  · exact h x (List.mem_filter.1 hx).1
  · rcases List.mem_cons.1 hx with rfl | hx
    · exact hf
    · exact h x (List.mem_filter.1 hx).1
/-- A disk without the file of a name. -/
def outL (l : List IFi) (s : ByteArray) : List IFi := l.filter (fun x => !(x.f0.toList == s.toList))
theorem outL_len (l : List IFi) (s : ByteArray) : (outL l s).length ≤ l.length := List.length_filter_le _ _
theorem spec_l03Without_l0 (l : List IFi) (hl : l.length ≤ 1048577) (s : ByteArray) : ∀ (d i : Nat) (acc : List IFi), i + d = l.length → acc.length ≤ i → Ev (fun k => spec_l03Without.l0 k s (i : Int) l acc) (acc ++ outL (l.drop i) s)
  | 0, i, acc, h, ha => by
    refine Ev.step (f := fun k => some acc) (fun k => ?_) ((Ev.now _).eq ?_)
    · simp only [spec_l03Without.l0]; rw [if_neg (by omega)]
    · rw [List.drop_of_length_le (by omega)]; simp [outL]
  | d + 1, i, acc, h, ha => by
    rw [rd_IFi_drop (by omega : i < l.length)]
    generalize hX : rd_T76 l (i : Int) = x
    have w4 : wrap64 ((i : Int) + 1) = ((i + 1 : Nat) : Int) := by rw [w64 (by omega) (by omega)]; omega
    by_cases hb : x.f0.toList = s.toList
    · rw [outL, List.filter_cons_of_neg (by simpa using hb)]
      refine Ev.step (f := fun k => spec_l03Without.l0 k s ((i + 1 : Nat) : Int) l acc) (fun k => ?_) (spec_l03Without_l0 l hl s d (i + 1) acc (by omega) (by omega))
      simp only [spec_l03Without.l0, hX, w4]
      rw [if_pos (by omega), if_pos (by omega), if_pos hb]
    · rw [outL, List.filter_cons_of_pos (by simpa using hb)]
      refine Ev.step (f := fun k => spec_l03Without.l0 k s ((i + 1 : Nat) : Int) l (acc ++ [x])) (fun k => ?_) ((spec_l03Without_l0 l hl s d (i + 1) (acc ++ [x]) (by omega) (by simp; omega)).eq (by simp [outL]))
      simp only [spec_l03Without.l0, hX, w4]
      rw [if_pos (by omega), if_pos (by omega), if_neg hb, if_pos (by omega)]
theorem spec_l03Without_ev (l : List IFi) (hl : l.length ≤ 1048577) (s : ByteArray) : Ev (fun k => spec_l03Without.f k l s) (outL l s) := by
  unfold spec_l03Without.f
  have := spec_l03Without_l0 l hl s l.length 0 [] (by omega) (by simp)
  simpa using this
def endA (o : List IFi) : List IFi × Bool := if diskOk o = true then (o, true) else ([], false)
def addF (l : List IFi) (n t : ByteArray) : IFi := if 0 ≤ fAt l n then ⟨(rd_T76 l (fAt l n)).f0, (rd_T76 l (fAt l n)).f1 ++ t, (rd_T76 l (fAt l n)).f2⟩ else ⟨n, (⟨#[]⟩ : ByteArray) ++ t, 0⟩
def nameOk (n : ByteArray) : Bool := decide (1 ≤ n.size ∧ n.size ≤ 8)
/-- What an act of a form that is right makes of a disk. -/
def actL (l : List IFi) (a : Int) (n t u : ByteArray) : List IFi × Bool :=
  if a = 1 then endA (putL l (addF l n t))
  else if fAt l n < 0 then ([], false)
  else if a = 2 then endA (putL l ⟨(rd_T76 l (fAt l n)).f0, (rd_T76 l (fAt l n)).f1, ((rd_T76 l (fAt l n)).f1.size : Int)⟩)
  else if a = 3 then (if (rd_T76 l (fAt l n)).f2 < ((rd_T76 l (fAt l n)).f1.size : Int) ∨ u.toList = n.toList ∨ nameOk u = false then ([], false) else endA (putL (outL l n) ⟨u, (rd_T76 l (fAt l n)).f1, (rd_T76 l (fAt l n)).f2⟩))
  else if a = 4 then endA (outL l n)
  else ([], false)
def formOk (a : Int) (n t u : ByteArray) : Bool := nameOk n && (decide (a = 3) || decide (u.toList = ([] : List UInt8))) && (decide (a = 1) || decide (t.toList = ([] : List UInt8)))
def doAct (l : List IFi) (a : Int) (n t u : ByteArray) : List IFi × Bool := if diskOk l = true ∧ formOk a n t u = true then actL l a n t u else ([], false)
theorem endA_len (o : List IFi) : (endA o).1.length ≤ 30 := by
  unfold endA
  split
  · rename_i h; exact ((diskOk_iff o).1 h).1
  · simp
theorem doAct_len (l : List IFi) (a : Int) (n t u : ByteArray) : (doAct l a n t u).1.length ≤ 30 := by
  unfold doAct actL
  split
  · split
    · exact endA_len _
    · split
      · simp
      · split
        · exact endA_len _
        · split
          · split
            · simp
            · exact endA_len _
          · split
            · exact endA_len _
            · simp
  · simp
theorem ba_ext {a b : ByteArray} (h : a.toList = b.toList) : a = b := by
  apply bytes_inj
  have e : ∀ s : ByteArray, bytesOf s = s.toList.map (fun b => (b.toNat : Int)) := fun s => by rw [ByteArray.toList_eq]; rfl
  rw [e, e, h]
theorem rd_fAt {l : List IFi} {n : ByteArray} {k : Nat} (hk : k < l.length) (h : l[k].f0.toList = n.toList) : (rd_T76 l (k : Int)).f0 = n := by
  rw [rd_IFi hk]; exact ba_ext h
theorem endEv {A : Nat → Option Bool} {o : List IFi} (h : Ev A (diskOk o)) : Ev (fun k => (A k).bind fun t => if t = true then some (o, true) else some (([] : List IFi), false)) (endA o) := by
  refine Ev.bind h ?_
  unfold endA
  by_cases e : diskOk o = true
  · exact (Ev.pos e (Ev.now _)).eq (if_pos e).symm
  · exact (Ev.neg e (Ev.now _)).eq (if_neg e).symm
/-- A file put into its place, told along the list. -/
def insL : List IFi → IFi → List IFi
  | [], f => [f]
  | x :: l, f => if bLess x.f0 f.f0 = true then x :: insL l f else if x.f0.toList = f.f0.toList then f :: l else f :: x :: l
theorem less_eq_no {a b : ByteArray} (h : a.toList = b.toList) : bLess a b = false := by unfold bLess; rw [h]; exact less_irrefl _
theorem all_less {l : List IFi} {f : IFi} (h : ∀ x ∈ l, bLess f.f0 x.f0 = true) : l.filter (fun x => bLess x.f0 f.f0) = [] ∧ l.filter (fun x => bLess f.f0 x.f0) = l := by
  refine ⟨List.filter_eq_nil_iff.2 (fun x hx => ?_), List.filter_eq_self.2 h⟩
  have : bLess x.f0 f.f0 = false := less_asymm (h x hx)
  simp [this]
theorem putL_ins : ∀ (l : List IFi) (f : IFi), Sd l → putL l f = insL l f
  | [], f, _ => rfl
  | x :: l, f, h => by
    unfold Sd at h
    rw [List.pairwise_cons] at h
    have ih := putL_ins l f h.2
    simp only [insL]
    by_cases h1 : bLess x.f0 f.f0 = true
    · rw [if_pos h1, ← ih]
      unfold putL
      rw [List.filter_cons_of_pos (by simpa using h1), List.filter_cons_of_neg (by rw [show bLess f.f0 x.f0 = false from less_asymm h1]; simp)]; rfl
    · rw [if_neg h1]
      by_cases h2 : x.f0.toList = f.f0.toList
      · rw [if_pos h2]
        obtain ⟨e1, e2⟩ := all_less (l := l) (f := f) (fun y hy => by have := h.1 y hy; unfold bLess at this ⊢; rw [← h2]; exact this)
        unfold putL
        rw [List.filter_cons_of_neg (by simpa using h1), List.filter_cons_of_neg (by rw [less_eq_no h2.symm]; simp), e1, e2]; rfl
      · rw [if_neg h2]
        have h3 : bLess f.f0 x.f0 = true := by
          cases e : bLess f.f0 x.f0 with
          | true => rfl
          | false => exact absurd (less_total _ _ (by simpa [bLess] using h1) (by simpa [bLess] using e)) h2
        obtain ⟨e1, e2⟩ := all_less (l := l) (f := f) (fun y hy => less_trans _ _ _ h3 (h.1 y hy))
        unfold putL
        rw [List.filter_cons_of_neg (by simpa using h1), List.filter_cons_of_pos (by simpa using h3), e1, e2]; rfl
theorem idxP_succ {α : Type} (p : α → Bool) : ∀ (l : List α) (i : Int), 0 ≤ i → M.idxP p l (i + 1) = if M.idxP p l i < 0 then -1 else M.idxP p l i + 1
  | [], i, _ => rfl
  | x :: l, i, hi => by
    have ih := idxP_succ p l (i + 1) (by omega)
    have e : ∀ j, M.idxP p (x :: l) j = if p x = true then j else M.idxP p l (j + 1) := fun _ => rfl
    by_cases h : p x = true
    · have e1 : M.idxP p (x :: l) (i + 1) = i + 1 := by rw [e, if_pos h]
      have e2 : M.idxP p (x :: l) i = i := by rw [e, if_pos h]
      rw [e1, e2, if_neg (by omega)]
    · have e1 : M.idxP p (x :: l) (i + 1) = M.idxP p l (i + 1 + 1) := by rw [e, if_neg h]
      have e2 : M.idxP p (x :: l) i = M.idxP p l (i + 1) := by rw [e, if_neg h]
      rw [e1, e2, ih]
theorem idxP_at {α : Type} (p : α → Bool) (x : α) (l : List α) : M.idxP p (x :: l) 0 = if p x = true then 0 else if M.idxP p l 0 < 0 then -1 else M.idxP p l 0 + 1 := by
  have e : M.idxP p (x :: l) 0 = if p x = true then 0 else M.idxP p l (0 + 1) := rfl
  rw [e, idxP_succ p l 0 (by omega)]
theorem putF_ins : ∀ (l : List IFi) (f : IFi), Sd l → putF l f = insL l f
  | [], f, _ => rfl
  | x :: l, f, h => by
    have h0 := h
    unfold Sd at h
    rw [List.pairwise_cons] at h
    have ih := putF_ins l f h.2
    simp only [insL]
    unfold putF at ih ⊢
    rw [idxP_at, idxP_at]
    by_cases h2 : x.f0.toList = f.f0.toList
    · have p2 : putE f x = true := by unfold putE; simpa using h2
      rw [if_pos p2, if_pos (by omega), if_neg (by rw [less_eq_no h2]; simp), if_pos h2]; rfl
    · have p2 : ¬ putE f x = true := by unfold putE; simpa using h2
      rw [if_neg p2]
      by_cases h1 : bLess x.f0 f.f0 = true
      · have p1 : ¬ putB f x = true := by unfold putB; have : Go.Op.bytesLess x.f0.toList f.f0.toList = true := h1; simp [this]
        rw [if_pos h1, if_neg p1, ← ih]
        by_cases c : M.idxP (putE f) l 0 < 0
        · rw [if_pos c, if_neg (by omega), if_neg (show ¬ 0 ≤ M.idxP (putE f) l 0 by omega)]
          by_cases d : M.idxP (putB f) l 0 < 0
          · rw [if_pos d, if_pos d, if_pos (by omega)]; simp
          · rw [if_neg d, if_neg d, if_neg (by omega), show (M.idxP (putB f) l 0 + 1).toNat = (M.idxP (putB f) l 0).toNat + 1 by omega]; rfl
        · rw [if_neg c, if_pos (by omega), if_pos (show 0 ≤ M.idxP (putE f) l 0 by omega), show (M.idxP (putE f) l 0 + 1).toNat = (M.idxP (putE f) l 0).toNat + 1 by omega]; rfl
      · have p1 : putB f x = true := by
          unfold putB
          have e1 : Go.Op.bytesLess x.f0.toList f.f0.toList = false := by simpa [bLess] using h1
          simp [e1, h2]
        rw [if_neg h1, if_neg h2, if_pos p1]
        have h3 : bLess f.f0 x.f0 = true := by
          cases e : bLess f.f0 x.f0 with
          | true => rfl
          | false => exact absurd (less_total _ _ (by simpa [bLess] using h1) (by simpa [bLess] using e)) h2
        have c : M.idxP (putE f) l 0 < 0 := by
          rcases M.idxP_cases (putE f) l 0 with ⟨e, _⟩ | ⟨k, hk, e, hp⟩
          · omega
          · exfalso
            have h4 := less_trans _ _ _ h3 (h.1 _ (List.getElem_mem hk))
            have h5 : l[k].f0.toList = f.f0.toList := by simpa [putE] using hp
            rw [h5, less_irrefl] at h4; cases h4
        rw [if_pos c, if_neg (by omega), if_neg (by omega)]; rfl
theorem putF_is {l : List IFi} (f : IFi) (h : Sd l) : putF l f = putL l f := by rw [putF_ins l f h, putL_ins l f h]
theorem set_is {l : List IFi} (f : IFi) (h : Sd l) {k : Nat} (e : M.idxP (putE f) l 0 = (k : Int)) : l.set k f = putL l f := by
  rw [← putF_is f h]; unfold putF; rw [if_pos (show 0 ≤ M.idxP (putE f) l 0 by omega), e, Int.toNat_natCast]
theorem outL_none {l : List IFi} {s : ByteArray} (h : ∀ x ∈ l, ¬ x.f0.toList = s.toList) : outL l s = l := List.filter_eq_self.2 (fun x hx => by simpa using h x hx)
theorem out_is : ∀ (l : List IFi) (s : ByteArray) (k : Nat), Sd l → fAt l s = (k : Int) → l.take k ++ l.drop (k + 1) = outL l s
  | [], s, k, _, e => by simp [fAt, M.idxP] at e
  | x :: l, s, k, h, e => by
    unfold Sd at h
    rw [List.pairwise_cons] at h
    unfold fAt at e
    rw [idxP_at] at e
    by_cases hp : x.f0.toList = s.toList
    · rw [if_pos (by simpa using hp)] at e
      obtain rfl : k = 0 := by omega
      rw [outL, List.filter_cons_of_neg (by simpa using hp)]
      have := outL_none (l := l) (s := s) (fun y hy ey => by
        have := h.1 y hy
        unfold bLess at this
        rw [hp, ey, less_irrefl] at this; cases this)
      unfold outL at this
      rw [this]; rfl
    · rw [if_neg (by simpa using hp)] at e
      by_cases c : M.idxP (fun x : IFi => x.f0.toList == s.toList) l 0 < 0
      · rw [if_pos c] at e; omega
      · rw [if_neg c] at e
        obtain ⟨j, rfl⟩ : ∃ j, k = j + 1 := ⟨k - 1, by omega⟩
        have ih := out_is l s j h.2 (by unfold fAt; omega)
        rw [outL, List.filter_cons_of_pos (by simpa using hp)]
        unfold outL at ih
        rw [← ih]; rfl
theorem putL_mem (l : List IFi) (f : IFi) : f ∈ putL l f := by unfold putL; simp
theorem put_bad {l : List IFi} {f : IFi} (h : nameOk f.f0 = false) : diskOk (putL l f) = false := by
  cases e : diskOk (putL l f) with
  | false => rfl
  | true =>
    have := ((fileOk_iff f).1 (((diskOk_iff _).1 e).2.1 f (putL_mem l f))).1
    unfold nameOk at h
    rw [decide_eq_true this] at h; cases h
theorem outL_sd {l : List IFi} (h : Sd l) (s : ByteArray) : Sd (outL l s) := List.Pairwise.sublist List.filter_sublist h
theorem impl_end_ev (o : List IFi) (ho : o.length ≤ 1048577) : Ev (fun k => impl_DoAct.end_ k (some o)) (endA o) := endEv (impl_DiskOk_ev o ho)
theorem impl_end_none : Ev (fun k => impl_DoAct.end_ k none) (([] : List IFi), false) := Ev.is rfl
theorem impl_DoAct_ev (l : List IFi) (hl : l.length ≤ 1048576) (a : Int) (n t u : ByteArray) (ht : t.size ≤ 17592186044416) : Ev (fun k => impl_DoAct.f k l a n t u) (doAct l a n t u) := by
  unfold impl_DoAct.f
  have D0 : diskOk l = false → doAct l a n t u = ([], false) := fun h => by unfold doAct; rw [if_neg (by rw [h]; simp)]
  have D1 : diskOk l = true → formOk a n t u = true → doAct l a n t u = actL l a n t u := fun h h' => by unfold doAct; rw [if_pos ⟨h, h'⟩]
  have D2 : ¬ formOk a n t u = true → doAct l a n t u = ([], false) := fun h => by unfold doAct; rw [if_neg (fun e => h e.2)]
  refine Ev.bind (impl_DiskOk_ev l (by omega)) ?_
  cases hd : diskOk l with
  | false =>
    rw [D0 hd]
    exact Ev.neg (by simp [impl_DoAct.go_]) (Ev.now _)
  | true =>
    obtain ⟨d1, d2, d3⟩ := (diskOk_iff l).1 hd
    have hat : impl_DoAct.at_ l n = fAt l n := rfl
    have hadd : impl_DoAct.add_ l n t = addF l n t := rfl
    have hsz : (addF l n t).f1.size ≤ 9223372036854775807 := by
      unfold addF
      rcases fAt_cases l n with h | ⟨k, hk, e, _⟩
      · rw [if_neg (by omega)]; simp only; rw [size_append]; have : (⟨#[]⟩ : ByteArray).size = 0 := rfl; omega
      · rw [if_pos (by omega)]; simp only; rw [size_append, e, rd_IFi hk]
        have := ((fileOk_iff _).1 (d2 _ (List.getElem_mem hk))).2.1; omega
    by_cases hg : impl_DoAct.go_ l a n t u true = true
    · refine Ev.pos hg (Ev.pos ⟨by omega, by rw [hadd]; exact hsz⟩ ?_)
      simp only [impl_DoAct.go_, Bool.true_and, Bool.and_eq_true, Bool.or_eq_true, decide_eq_true_eq, hat, beq_iff_eq] at hg
      obtain ⟨g3, g1⟩ := hg
      unfold impl_DoAct.out
      rw [hadd]
      simp only [hat]
      have hp1 := putL_len l (addF l n t)
      by_cases a1 : a = 1
      · have hr : doAct l a n t u = endA (putL l (addF l n t)) := by
          by_cases hf : formOk a n t u = true
          · rw [D1 hd hf]; unfold actL; rw [if_pos a1]
          · rw [D2 hf]
            have hb : nameOk n = false := by
              cases e : nameOk n with
              | false => rfl
              | true =>
                exfalso; apply hf
                rcases g3 with g3 | g3
                · omega
                · simp [formOk, e, a1, g3]
            have hb2 : nameOk (addF l n t).f0 = false := by
              unfold addF
              rcases fAt_cases l n with h | ⟨k, hk, e, hk2⟩
              · rw [if_neg (by omega)]; exact hb
              · rw [if_pos (by omega)]; simp only; rw [e, rd_fAt hk hk2]; exact hb
            unfold endA
            rw [put_bad hb2, if_neg (by simp)]
        rw [hr, if_pos a1, putF_is _ d3]
        exact impl_end_ev _ (by omega)
      · obtain ⟨gt, gi⟩ := g1.resolve_left a1
        obtain ⟨k, hk, e, hk2⟩ := (fAt_cases l n).resolve_left (by omega)
        have hx := (fileOk_iff _).1 (d2 _ (List.getElem_mem hk))
        have hn : nameOk n = true := by
          have := hx.1
          rw [← rd_IFi hk, rd_fAt hk hk2] at this
          exact decide_eq_true this
        have hf : formOk a n t u = true := by
          unfold formOk
          rw [hn, gt]
          rcases g3 with g3 | g3 <;> simp [g3]
        rw [D1 hd hf, if_neg a1]
        unfold actL
        rw [if_neg a1, if_neg (by omega : ¬ fAt l n < 0), e, Int.toNat_natCast]
        rw [← rd_IFi hk] at hx
        have hx0 := rd_fAt hk hk2
        generalize hX : rd_T76 l (k : Int) = x at *
        by_cases a2 : a = 2
        · rw [if_pos a2, if_pos a2]
          have hi : M.idxP (putE ⟨x.f0, x.f1, (x.f1.size : Int)⟩) l 0 = (k : Int) := by rw [← e]; unfold fAt; rw [← hx0]; rfl
          rw [set_is _ d3 hi]
          exact impl_end_ev _ (by have := putL_len l ⟨x.f0, x.f1, (x.f1.size : Int)⟩; omega)
        · rw [if_neg a2, if_neg a2]
          by_cases a3 : a = 3
          · rw [if_pos a3, if_pos a3]
            by_cases b2 : u.toList = n.toList
            · rw [if_pos b2, if_pos (.inr (.inl b2))]
              exact impl_end_none
            · rw [if_neg b2]
              by_cases b1 : x.f2 = (x.f1.size : Int)
              · rw [if_pos b1, out_is l n k d3 e, putF_is _ (outL_sd d3 n)]
                have hl2 := outL_len l n
                have hl3 := putL_len (outL l n) ⟨u, x.f1, x.f2⟩
                cases b3 : nameOk u with
                | true => rw [if_neg (by simp [b1, b2])]; exact impl_end_ev _ (by omega)
                | false =>
                  rw [if_pos (.inr (.inr rfl))]
                  have hz : endA (putL (outL l n) ⟨u, x.f1, x.f2⟩) = ([], false) := by unfold endA; rw [put_bad (f := ⟨u, x.f1, x.f2⟩) b3, if_neg (by simp)]
                  exact (impl_end_ev _ (by omega)).eq hz
              · rw [if_neg b1, if_pos (.inl (by omega))]
                exact impl_end_none
          · rw [if_neg a3, if_neg a3]
            by_cases a4 : a = 4
            · rw [if_pos a4, if_pos a4, out_is l n k d3 e]
              exact impl_end_ev _ (by have := outL_len l n; omega)
            · rw [if_neg a4, if_neg a4]
              exact impl_end_none
    · refine Ev.neg hg ((Ev.now _).eq ?_)
      by_cases hf : formOk a n t u = true
      · rw [D1 hd hf]
        simp only [formOk, Bool.and_eq_true, Bool.or_eq_true, decide_eq_true_eq] at hf
        unfold actL
        simp only [impl_DoAct.go_, Bool.true_and, Bool.and_eq_true, Bool.or_eq_true, decide_eq_true_eq, hat, beq_iff_eq] at hg
        by_cases a1 : a = 1
        · exact absurd ⟨hf.1.2, .inl a1⟩ hg
        · rw [if_neg a1]
          have : fAt l n < 0 := by
            have ht' := hf.2.resolve_left a1
            by_cases c : 0 ≤ fAt l n
            · exact absurd ⟨hf.1.2, .inr ⟨ht', c⟩⟩ hg
            · omega
          rw [if_pos this]
      · rw [D2 hf]
/-- What a list of acts makes of a disk: the acts are done in turn, until one fails. -/
def doActsL : List IFi → List IAc → Int → List IFi × Int
  | l, [], i => (l, i)
  | l, a :: r, i => if (doAct l a.f0 a.f1 a.f2 a.f3).2 = true then doActsL (doAct l a.f0 a.f1 a.f2 a.f3).1 r (i + 1) else (l, i)
theorem doActsL_len : ∀ (r : List IAc) (l : List IFi) (i : Int), (doActsL l r i).1.length ≤ max l.length 30
  | [], l, i => by simp only [doActsL]; omega
  | a :: r, l, i => by
    simp only [doActsL]
    split
    · have := doActsL_len r (doAct l a.f0 a.f1 a.f2 a.f3).1 (i + 1)
      have := doAct_len l a.f0 a.f1 a.f2 a.f3
      omega
    · simp only; omega
theorem rd_IAc_drop {l : List IAc} {i : Nat} (h : i < l.length) : l.drop i = rd_T35 l (i : Int) :: l.drop (i + 1) := by
  rw [List.drop_eq_getElem_cons h, rd_IAc h]
theorem impl_DoActs_l0 (r : List IAc) (hr : r.length ≤ 1048576) (hs : ∀ x ∈ r, x.f2.size ≤ 17592186044416) : ∀ (d i : Nat) (l : List IFi), i + d = r.length → l.length ≤ 1048576 → Ev (fun k => impl_DoActs.l0 k r r (r.length : Int) (i : Int) l) (doActsL l (r.drop i) (i : Int))
  | 0, i, l, h, hl => by
    obtain rfl : i = r.length := by omega
    rw [List.drop_length]
    refine Ev.step (f := fun k => some (l, (r.length : Int))) (fun k => ?_) (Ev.now _)
    simp only [impl_DoActs.l0]; rw [if_neg (by omega)]
  | d + 1, i, l, h, hl => by
    have hm := hs (rd_T35 r (i : Int)) (by rw [rd_IAc (by omega)]; exact List.getElem_mem _)
    rw [rd_IAc_drop (by omega : i < r.length)]
    have hq := doAct_len l (rd_T35 r (i : Int)).f0 (rd_T35 r (i : Int)).f1 (rd_T35 r (i : Int)).f2 (rd_T35 r (i : Int)).f3
    have ev := impl_DoAct_ev l hl (rd_T35 r (i : Int)).f0 (rd_T35 r (i : Int)).f1 (rd_T35 r (i : Int)).f2 (rd_T35 r (i : Int)).f3 hm
    simp only [doActsL]
    generalize hQ : doAct l (rd_T35 r (i : Int)).f0 (rd_T35 r (i : Int)).f1 (rd_T35 r (i : Int)).f2 (rd_T35 r (i : Int)).f3 = q at *
    have ih := impl_DoActs_l0 r hr hs d (i + 1) q.1 (by omega) (by omega)
    have w4 : wrap64 ((i : Int) + 1) = ((i + 1 : Nat) : Int) := by rw [w64 (by omega) (by omega)]; omega
    refine Ev.step (f := fun k => (impl_DoAct.f k l ((rd_T35 r i).f0) ((rd_T35 r i).f1) ((rd_T35 r i).f2) ((rd_T35 r i).f3)).bind fun q => (if q.2 = true then (impl_DoActs.l0 k r r (r.length : Int) ((i + 1 : Nat) : Int) q.1) else (some (l, (i : Int))))) (fun k => ?_) (Ev.bind ev ?_)
    · simp only [impl_DoActs.l0, w4]
      rw [if_pos (by omega), if_pos (by omega), if_pos (by omega)]
    · by_cases e : q.2 = true
      · exact (Ev.pos e ih).eq (if_pos e).symm
      · exact (Ev.neg e (Ev.now _)).eq (if_neg e).symm
theorem impl_DoActs_ev (l : List IFi) (hl : l.length ≤ 1048576) (r : List IAc) (hr : r.length ≤ 1048576) (hs : ∀ x ∈ r, x.f2.size ≤ 17592186044416) : Ev (fun k => impl_DoActs.f k l r) (doActsL l r 0) := by
  unfold impl_DoActs.f
  refine Ev.bind0 (impl_copyDisk_is l (by omega)) ?_
  have := impl_DoActs_l0 r hr hs r.length 0 l (by omega) hl
  simpa using this
/-- How much of a file is left: what is kept, and of the rest as much as 'left' has at its place. -/
def leftN (x : IFi) (n : Int) : Int := max x.f2 (min n (x.f1.size : Int))
def loseF (x : IFi) (n : Int) : IFi := ⟨x.f0, x.f1.extract 0 (leftN x n).toNat, leftN x n⟩
def loseL : List IFi → List Int → List IFi
  | [], _ => []
  | x :: l, [] => loseF x 0 :: loseL l []
  | x :: l, n :: r => loseF x n :: loseL l r
def loseDisk (l : List IFi) (r : List Int) : List IFi × Bool := if diskOk l = true then (loseL l r, true) else ([], false)
theorem loseL_length : ∀ (l : List IFi) (r : List Int), (loseL l r).length = l.length
  | [], _ => rfl
  | x :: l, [] => by simp [loseL, loseL_length l []]
  | x :: l, n :: r => by simp [loseL, loseL_length l r]
theorem filesOk_range : ∀ (l : List IFi) (p : Option ByteArray), filesOk p l = true → ∀ x ∈ l, 0 ≤ x.f2 ∧ x.f2 ≤ (x.f1.size : Int) ∧ x.f1.size ≤ 20000
  | [], _, _ => by simp
  | y :: l, p, h => by
    simp only [filesOk, Bool.and_eq_true] at h
    intro x hx
    rcases List.mem_cons.1 hx with rfl | hx
    · have := h.1.1
      simp only [fileOk, Bool.and_eq_true, decide_eq_true_eq] at this
      exact ⟨this.2.1, this.2.2, this.1.2⟩
    · exact filesOk_range l _ h.2 x hx
theorem diskOk_range {l : List IFi} (h : diskOk l = true) : l.length ≤ 30 ∧ ∀ x ∈ l, 0 ≤ x.f2 ∧ x.f2 ≤ (x.f1.size : Int) ∧ x.f1.size ≤ 20000 := by
  unfold diskOk at h
  simp only [Bool.and_eq_true, decide_eq_true_eq] at h
  exact ⟨h.1, filesOk_range l _ h.2⟩
theorem impl_LoseDisk_row : ∀ (l : List IFi) (r : List Int), impl_LoseDisk.row l r = loseL l r
  | [], _ => rfl
  | x :: l, [] => by simp only [impl_LoseDisk.row, loseL]; rw [impl_LoseDisk_row l []]; rfl
  | x :: l, n :: r => by simp only [impl_LoseDisk.row, loseL]; rw [impl_LoseDisk_row l r]; rfl
theorem impl_LoseDisk_ev (l : List IFi) (hl : l.length ≤ 1048577) (r : List Int) : Ev (fun k => impl_LoseDisk.f k l r) (loseDisk l r) := by
  by_cases h : diskOk l = true
  · have e : loseDisk l r = (loseL l r, true) := by rw [loseDisk, if_pos h]
    rw [e]
    unfold impl_LoseDisk.f
    simp only [impl_LoseDisk_row]
    have hr := diskOk_range h
    refine Ev.bind (impl_DiskOk_ev l hl) (Ev.pos h (Ev.pos ⟨by have := hr.1; omega, ?_⟩ (Ev.now _)))
    refine List.all_eq_true.2 (fun x hx => decide_eq_true ?_)
    have := hr.2 x hx
    exact ⟨this.1, this.2.1, by omega⟩
  · have e : loseDisk l r = ([], false) := by rw [loseDisk, if_neg h]
    rw [e]
    unfold impl_LoseDisk.f
    exact Ev.bind (impl_DiskOk_ev l hl) (Ev.neg h (Ev.now _))
theorem loseDisk_len (l : List IFi) (r : List Int) : (loseDisk l r).1.length ≤ l.length := by
  unfold loseDisk
  split
  · simp only; rw [loseL_length]; exact Nat.le_refl _
  · exact Nat.zero_le _
/-- The disk that a crash leaves: so many acts are done, of the rest of each file so much stays. -/
def cutActs (l : List IFi) (r : List IAc) (n : Int) (s : List Int) : List IFi × Bool :=
  if 0 ≤ n ∧ n ≤ (r.length : Int) then (if (doActsL l (r.take n.toNat) 0).2 < n then ([], false) else loseDisk (doActsL l (r.take n.toNat) 0).1 s) else ([], false)
theorem cutActs_len (l : List IFi) (r : List IAc) (n : Int) (s : List Int) : (cutActs l r n s).1.length ≤ max l.length 30 := by
  unfold cutActs
  split
  · split
    · simp
    · have := loseDisk_len (doActsL l (r.take n.toNat) 0).1 s
      have := doActsL_len (r.take n.toNat) l 0
      omega
  · simp
theorem cut_hs {r : List IAc} {n : Int} (hr : r.length ≤ 1048576) (hs : ∀ x ∈ r, x.f2.size ≤ 17592186044416) : (r.take n.toNat).length ≤ 1048576 ∧ ∀ x ∈ r.take n.toNat, x.f2.size ≤ 17592186044416 :=
  ⟨by rw [List.length_take]; omega, fun x hx => hs x (List.mem_of_mem_take hx)⟩
theorem impl_CutActs_ev (l : List IFi) (hl : l.length ≤ 1048576) (r : List IAc) (hr : r.length ≤ 1048576) (hs : ∀ x ∈ r, x.f2.size ≤ 17592186044416) (n : Int) (s : List Int) : Ev (fun k => impl_CutActs.f k l r n s) (cutActs l r n s) := by
  unfold impl_CutActs.f cutActs
  refine Ev.bind0 (impl_within_is ..) ?_
  by_cases h : 0 ≤ n ∧ n ≤ (r.length : Int)
  · rw [if_pos h]
    obtain ⟨c1, c2⟩ := cut_hs (n := n) hr hs
    refine Ev.pos (inR_iff.2 h) (Ev.pos h.1 (Ev.pos h.2 (Ev.bind (impl_DoActs_ev l hl _ c1 c2) ?_)))
    by_cases e : (doActsL l (r.take n.toNat) 0).2 < n
    · exact (Ev.pos e (Ev.now _)).eq (if_pos e).symm
    · have := doActsL_len (r.take n.toNat) l 0
      exact (Ev.neg e (Ev.bind (impl_LoseDisk_ev _ (by omega) s) (Ev.now _))).eq (if_neg e).symm
  · rw [if_neg h]
    exact Ev.neg (fun e => h (inR_iff.1 e)) (Ev.now _)
theorem spec_l01In_is (a b c : Int) : spec_l01In.f a b c = some (inR a b c) := by
  unfold spec_l01In.f inR
  by_cases h : a ≥ b
  · rw [if_pos h]; congr 1; simp; omega
  · rw [if_neg h]; congr 1; simp; omega
theorem spec_l03Name_is (s : ByteArray) : spec_l03Name.f s = some (decide (1 ≤ s.size ∧ s.size ≤ 8)) := by
  unfold spec_l03Name.f
  rw [spec_l01In_is, Option.bind_some]
  congr 1
  unfold inR
  congr 1
  simp only [eq_iff_iff]; omega
theorem spec_DiskOk_l0 (l : List IFi) (hl : l.length ≤ 30) : ∀ (d i : Nat) (p : Option ByteArray), i + d = l.length → (i = 0 → p = none) → (0 < i → p = some (rd_T76 l ((i - 1 : Nat) : Int)).f0) →
    Ev (fun k => spec_DiskOk.l0 k (i : Int) l) (filesOk p (l.drop i))
  | 0, i, p, h, h0, h1 => by
    refine Ev.step (f := fun k => some true) (fun k => ?_) ((Ev.now _).eq ?_)
    · simp only [spec_DiskOk.l0]; rw [if_neg (by omega)]
    · rw [List.drop_of_length_le (by omega)]; rfl
  | d + 1, i, p, h, h0, h1 => by
    rw [rd_IFi_drop (l := l) (i := i) (by omega)]
    have ih := spec_DiskOk_l0 l hl d (i + 1) (some (rd_T76 l (i : Int)).f0) (by omega) (by omega) (fun _ => by simp)
    generalize hx : rd_T76 l (i : Int) = x at *
    simp only [filesOk, fileOk]
    by_cases a1 : 1 ≤ x.f0.size ∧ x.f0.size ≤ 8
    · by_cases a2 : x.f1.size ≤ 20000
      · by_cases a3 : 0 ≤ x.f2 ∧ x.f2 ≤ (x.f1.size : Int)
        · rw [decide_eq_true a1, decide_eq_true a2, decide_eq_true a3, Bool.true_and, Bool.true_and, Bool.true_and]
          by_cases hi : 0 < i
          · rw [h1 hi]
            have ei : wrap64 ((i : Int) - 1) = ((i - 1 : Nat) : Int) := by rw [w64 (by omega) (by omega)]; omega
            by_cases hb : bLess (rd_T76 l ((i - 1 : Nat) : Int)).f0 x.f0 = true
            · refine Ev.step (f := fun k => spec_DiskOk.l0 k ((i + 1 : Nat) : Int) l) (fun k => ?_) (ih.eq ?_)
              · simp only [spec_DiskOk.l0]
                rw [if_pos (by omega), if_pos (by omega), hx, spec_l03Name_is, Option.bind_some, if_pos (decide_eq_true a1), if_neg (by omega), spec_l01In_is, Option.bind_some, if_pos (inR_iff.2 a3), if_pos (by omega), ei, if_pos (by omega), if_pos (by omega), if_pos (show Go.Op.bytesLess _ _ = true from hb)]
                rw [w64 (x := (i : Int) + 1) (by omega) (by omega)]; rfl
              · simp only [above]; rw [hb, Bool.true_and]
            · refine Ev.step (f := fun k => some false) (fun k => ?_) ((Ev.now _).eq ?_)
              · simp only [spec_DiskOk.l0]
                rw [if_pos (by omega), if_pos (by omega), hx, spec_l03Name_is, Option.bind_some, if_pos (decide_eq_true a1), if_neg (by omega), spec_l01In_is, Option.bind_some, if_pos (inR_iff.2 a3), if_pos (by omega), ei, if_pos (by omega), if_pos (by omega), if_neg (show ¬ Go.Op.bytesLess _ _ = true from hb)]
              · simp only [above]; rw [Bool.not_eq_true _ |>.mp hb, Bool.false_and]
          · rw [h0 (by omega)]
            refine Ev.step (f := fun k => spec_DiskOk.l0 k ((i + 1 : Nat) : Int) l) (fun k => ?_) (ih.eq ?_)
            · simp only [spec_DiskOk.l0]
              rw [if_pos (by omega), if_pos (by omega), hx, spec_l03Name_is, Option.bind_some, if_pos (decide_eq_true a1), if_neg (by omega), spec_l01In_is, Option.bind_some, if_pos (inR_iff.2 a3), if_neg (by omega)]
              rw [w64 (x := (i : Int) + 1) (by omega) (by omega)]; rfl
            · simp only [above]; rw [Bool.true_and]
        · refine Ev.step (f := fun k => some false) (fun k => ?_) ((Ev.now _).eq ?_)
          · simp only [spec_DiskOk.l0]
            rw [if_pos (by omega), if_pos (by omega), hx, spec_l03Name_is, Option.bind_some, if_pos (decide_eq_true a1), if_neg (by omega), spec_l01In_is, Option.bind_some, if_neg (fun e => a3 (inR_iff.1 e))]
          · rw [decide_eq_false a3]; simp
      · refine Ev.step (f := fun k => some false) (fun k => ?_) ((Ev.now _).eq ?_)
        · simp only [spec_DiskOk.l0]
          rw [if_pos (by omega), if_pos (by omega), hx, spec_l03Name_is, Option.bind_some, if_pos (decide_eq_true a1), if_pos (by omega)]
        · rw [decide_eq_false a2]; simp
    · refine Ev.step (f := fun k => some false) (fun k => ?_) ((Ev.now _).eq ?_)
      · simp only [spec_DiskOk.l0]
        rw [if_pos (by omega), if_pos (by omega), hx, spec_l03Name_is, Option.bind_some, if_neg (by rw [decide_eq_true_eq]; exact a1)]
      · rw [decide_eq_false a1]; simp
theorem spec_DiskOk_ev (l : List IFi) : Ev (fun k => spec_DiskOk.f k l) (diskOk l) := by
  unfold spec_DiskOk.f diskOk
  by_cases h : l.length ≤ 30
  · rw [decide_eq_true h, Bool.true_and]
    exact Ev.neg (by omega) (spec_DiskOk_l0 l h l.length 0 none (by omega) (fun _ => rfl) (fun h => absurd h (by omega)))
  · rw [decide_eq_false h, Bool.false_and]
    exact Ev.pos (by omega) (Ev.now _)
theorem spec_l03Put_l1 (l : List IFi) (hl : l.length ≤ 1048577) (f : IFi) : ∀ (d i : Nat) (acc : List IFi), i + d = l.length → acc.length ≤ l.length + 1 + i →
    Ev (fun k => spec_l03Put.l1 k (i : Int) l f.f0 f.f1 f.f2 acc) (acc ++ (l.drop i).filter (fun x => bLess f.f0 x.f0))
  | 0, i, acc, h, ha => by
    refine Ev.step (f := fun k => some acc) (fun k => ?_) ((Ev.now _).eq ?_)
    · simp only [spec_l03Put.l1]; rw [if_neg (by omega)]
    · rw [List.drop_of_length_le (by omega)]; simp
  | d + 1, i, acc, h, ha => by
    rw [rd_IFi_drop (by omega : i < l.length)]
    generalize hX : rd_T76 l (i : Int) = x
    have w4 : wrap64 ((i : Int) + 1) = ((i + 1 : Nat) : Int) := by rw [w64 (by omega) (by omega)]; omega
    by_cases hb : bLess f.f0 x.f0 = true
    · rw [List.filter_cons_of_pos (by simpa using hb)]
      refine Ev.step (f := fun k => spec_l03Put.l1 k ((i + 1 : Nat) : Int) l f.f0 f.f1 f.f2 (acc ++ [x])) (fun k => ?_) ((spec_l03Put_l1 l hl f d (i + 1) (acc ++ [x]) (by omega) (by simp; omega)).eq (by simp))
      simp only [spec_l03Put.l1, hX, w4]
      rw [if_pos (by omega), if_pos (by omega), if_pos (show Go.Op.bytesLess f.f0.toList x.f0.toList = true from hb), if_pos (by omega)]
    · rw [List.filter_cons_of_neg (by simpa using hb)]
      refine Ev.step (f := fun k => spec_l03Put.l1 k ((i + 1 : Nat) : Int) l f.f0 f.f1 f.f2 acc) (fun k => ?_) (spec_l03Put_l1 l hl f d (i + 1) acc (by omega) (by omega))
      simp only [spec_l03Put.l1, hX, w4]
      rw [if_pos (by omega), if_pos (by omega), if_neg (show ¬ Go.Op.bytesLess f.f0.toList x.f0.toList = true from hb)]
theorem spec_l03Put_l0 (l : List IFi) (hl : l.length ≤ 1048577) (f : IFi) : ∀ (d i : Nat) (acc : List IFi), i + d = l.length → acc.length ≤ i →
    Ev (fun k => spec_l03Put.l0 k (i : Int) l f.f0 f.f1 f.f2 acc) (acc ++ ((l.drop i).filter (fun x => bLess x.f0 f.f0) ++ f :: l.filter (fun x => bLess f.f0 x.f0)))
  | 0, i, acc, h, ha => by
    have := spec_l03Put_l1 l hl f l.length 0 (acc ++ [f]) (by omega) (by simp; omega)
    refine Ev.step (f := fun k => spec_l03Put.l1 k ((0 : Nat) : Int) l f.f0 f.f1 f.f2 (acc ++ [f])) (fun k => ?_) (this.eq ?_)
    · simp only [spec_l03Put.l0]; rw [if_neg (by omega), if_pos (by omega)]; rfl
    · rw [List.drop_of_length_le (by omega : l.length ≤ i)]; simp
  | d + 1, i, acc, h, ha => by
    rw [rd_IFi_drop (by omega : i < l.length)]
    generalize hX : rd_T76 l (i : Int) = x
    have w4 : wrap64 ((i : Int) + 1) = ((i + 1 : Nat) : Int) := by rw [w64 (by omega) (by omega)]; omega
    by_cases hb : bLess x.f0 f.f0 = true
    · rw [List.filter_cons_of_pos (by simpa using hb)]
      refine Ev.step (f := fun k => spec_l03Put.l0 k ((i + 1 : Nat) : Int) l f.f0 f.f1 f.f2 (acc ++ [x])) (fun k => ?_) ((spec_l03Put_l0 l hl f d (i + 1) (acc ++ [x]) (by omega) (by simp; omega)).eq (by simp))
      simp only [spec_l03Put.l0, hX, w4]
      rw [if_pos (by omega), if_pos (by omega), if_pos (show Go.Op.bytesLess x.f0.toList f.f0.toList = true from hb), if_pos (by omega)]
    · rw [List.filter_cons_of_neg (by simpa using hb)]
      refine Ev.step (f := fun k => spec_l03Put.l0 k ((i + 1 : Nat) : Int) l f.f0 f.f1 f.f2 acc) (fun k => ?_) (spec_l03Put_l0 l hl f d (i + 1) acc (by omega) (by omega))
      simp only [spec_l03Put.l0, hX, w4]
      rw [if_pos (by omega), if_pos (by omega), if_neg (show ¬ Go.Op.bytesLess x.f0.toList f.f0.toList = true from hb)]
theorem spec_l03Put_ev (l : List IFi) (hl : l.length ≤ 1048577) (f : IFi) : Ev (fun k => spec_l03Put.f k l f.f0 f.f1 f.f2) (putL l f) := by
  unfold spec_l03Put.f putL
  have := spec_l03Put_l0 l hl f l.length 0 [] (by omega) (by simp)
  simpa using this
theorem spec_DoAct_j2 (l : List IFi) (hl : l.length ≤ 1048576) (a : Int) (n t u : ByteArray) (x : IFi) : Ev (fun k => spec_DoAct.j2 k false l a n t u x.f0 x.f1 x.f2) (endA (putL (outL l n) ⟨u, x.f1, x.f2⟩)) := by
  have h1 := outL_len l n
  refine Ev.step (f := fun k => (spec_l03Without.f k l n).bind fun t204 => ((spec_l03Put.f k t204 u x.f1 x.f2).bind fun t207 => ((spec_DiskOk.f k t207).bind fun t210 => (if t210 = true then (some (t207, true)) else (some (([] : List IFi), false)))))) (fun k => ?_) ?_
  · simp only [spec_DoAct.j2]; rw [if_neg (by simp)]
  · exact Ev.bind (spec_l03Without_ev l (by omega) n) (Ev.bind (spec_l03Put_ev _ (by omega) ⟨u, x.f1, x.f2⟩) (endEv (spec_DiskOk_ev _)))
theorem spec_DoAct_j2no (l : List IFi) (a : Int) (n t u : ByteArray) (x : IFi) : Ev (fun k => spec_DoAct.j2 k true l a n t u x.f0 x.f1 x.f2) (([] : List IFi), false) :=
  Ev.step (f := fun k => some (([] : List IFi), false)) (fun k => by simp only [spec_DoAct.j2, if_true]) (Ev.now _)
theorem spec_DoAct_j1 (l : List IFi) (hl : l.length ≤ 1048576) (a : Int) (n t u : ByteArray) (i : Int) (x : IFi) (hx : x.f1.size + t.size ≤ 9223372036854775807) : Ev (fun k => spec_DoAct.j1 k i l a n t u x.f0 x.f1 x.f2)
    (if a = 1 then endA (putL l ⟨x.f0, x.f1 ++ t, x.f2⟩) else if i < 0 then ([], false) else if a = 2 then endA (putL l ⟨x.f0, x.f1, (x.f1.size : Int)⟩)
      else if a = 3 then (if x.f2 < (x.f1.size : Int) ∨ u.toList = n.toList ∨ nameOk u = false then ([], false) else endA (putL (outL l n) ⟨u, x.f1, x.f2⟩)) else if a = 4 then endA (outL l n) else ([], false)) := by
  by_cases a1 : a = 1
  · refine Ev.step (f := fun k => (spec_l03Put.f k l x.f0 (x.f1 ++ t) x.f2).bind fun t195 => ((spec_DiskOk.f k t195).bind fun t198 => (if t198 = true then (some (t195, true)) else (some (([] : List IFi), false))))) (fun k => ?_) ?_
    · simp only [spec_DoAct.j1]; rw [if_pos a1, if_pos hx]
    · rw [if_pos a1]; exact Ev.bind (spec_l03Put_ev l (by omega) ⟨x.f0, x.f1 ++ t, x.f2⟩) (endEv (spec_DiskOk_ev _))
  · rw [if_neg a1]
    by_cases hi : i < 0
    · rw [if_pos hi]
      exact Ev.step (f := fun k => some (([] : List IFi), false)) (fun k => by simp only [spec_DoAct.j1]; rw [if_neg a1, if_pos hi]) (Ev.now _)
    · rw [if_neg hi]
      by_cases a2 : a = 2
      · rw [if_pos a2]
        refine Ev.step (f := fun k => (spec_l03Put.f k l x.f0 x.f1 (x.f1.size : Int)).bind fun t195 => ((spec_DiskOk.f k t195).bind fun t198 => (if t198 = true then (some (t195, true)) else (some (([] : List IFi), false))))) (fun k => ?_) ?_
        · simp only [spec_DoAct.j1]; rw [if_neg a1, if_neg hi, if_pos a2]
        · exact Ev.bind (spec_l03Put_ev l (by omega) ⟨x.f0, x.f1, (x.f1.size : Int)⟩) (endEv (spec_DiskOk_ev _))
      · rw [if_neg a2]
        by_cases a3 : a = 3
        · rw [if_pos a3]
          by_cases b1 : x.f2 < (x.f1.size : Int)
          · rw [if_pos (.inl b1)]
            exact Ev.step (f := fun k => spec_DoAct.j2 k true l a n t u x.f0 x.f1 x.f2) (fun k => by simp only [spec_DoAct.j1]; rw [if_neg a1, if_neg hi, if_neg a2, if_pos a3, if_pos b1]) (spec_DoAct_j2no l a n t u x)
          · by_cases b2 : u.toList = n.toList
            · rw [if_pos (.inr (.inl b2))]
              exact Ev.step (f := fun k => spec_DoAct.j2 k true l a n t u x.f0 x.f1 x.f2) (fun k => by simp only [spec_DoAct.j1]; rw [if_neg a1, if_neg hi, if_neg a2, if_pos a3, if_neg b1, if_pos b2]) (spec_DoAct_j2no l a n t u x)
            · have hs : ∀ k, spec_DoAct.j1 (k + 1) i l a n t u x.f0 x.f1 x.f2 = spec_DoAct.j2 k (!nameOk u) l a n t u x.f0 x.f1 x.f2 := fun k => by
                simp only [spec_DoAct.j1]; rw [if_neg a1, if_neg hi, if_neg a2, if_pos a3, if_neg b1, if_neg b2, spec_l03Name_is, Option.bind_some]; rfl
              cases b3 : nameOk u with
              | false => rw [if_pos (.inr (.inr rfl))]; rw [b3] at hs; exact Ev.step (f := fun k => spec_DoAct.j2 k true l a n t u x.f0 x.f1 x.f2) hs (spec_DoAct_j2no l a n t u x)
              | true => rw [if_neg (by simp [b1, b2])]; rw [b3] at hs; exact Ev.step (f := fun k => spec_DoAct.j2 k false l a n t u x.f0 x.f1 x.f2) hs (spec_DoAct_j2 l hl a n t u x)
        · rw [if_neg a3]
          by_cases a4 : a = 4
          · rw [if_pos a4]
            refine Ev.step (f := fun k => (spec_l03Without.f k l n).bind fun t195 => ((spec_DiskOk.f k t195).bind fun t198 => (if t198 = true then (some (t195, true)) else (some (([] : List IFi), false))))) (fun k => ?_) ?_
            · simp only [spec_DoAct.j1]; rw [if_neg a1, if_neg hi, if_neg a2, if_neg a3, if_pos a4]
            · exact Ev.bind (spec_l03Without_ev l (by omega) n) (endEv (spec_DiskOk_ev _))
          · rw [if_neg a4]
            exact Ev.step (f := fun k => some (([] : List IFi), false)) (fun k => by simp only [spec_DoAct.j1]; rw [if_neg a1, if_neg hi, if_neg a2, if_neg a3, if_neg a4]) (Ev.now _)
theorem spec_DoAct_j0 (l : List IFi) (hl : l.length ≤ 1048576) (hs : ∀ x ∈ l, x.f1.size ≤ 17592186044416) (a : Int) (n t u : ByteArray) (ht : t.size ≤ 17592186044416) : Ev (fun k => spec_DoAct.j0 k false l a n t u) (actL l a n t u) := by
  refine Ev.step (f := fun k => (spec_l03At.f k l n).bind fun t191 => (if t191 ≥ 0 then (if 0 ≤ t191 then (if t191 < (l.length : Int) then (spec_DoAct.j1 k t191 l a n t u ((rd_T76 l t191).f0) ((rd_T76 l t191).f1) ((rd_T76 l t191).f2)) else (none)) else (none)) else (spec_DoAct.j1 k t191 l a n t u n (⟨#[]⟩ : ByteArray) 0))) (fun k => ?_) ?_
  · simp only [spec_DoAct.j0]; rw [if_neg (by simp)]
  refine Ev.bind (spec_l03At_ev l (by omega) n) ?_
  unfold actL addF
  rcases fAt_cases l n with h | ⟨k, hk, e, _⟩
  · have h0 : ¬ fAt l n ≥ 0 := by omega
    rw [if_neg h0]
    refine Ev.neg h0 ((spec_DoAct_j1 l hl a n t u (fAt l n) ⟨n, (⟨#[]⟩ : ByteArray), 0⟩ (by have : (⟨#[]⟩ : ByteArray).size = 0 := rfl; simp only; omega)).eq ?_)
    have h1 : fAt l n < 0 := by omega
    simp only [if_pos h1]
  · have h0 : fAt l n ≥ 0 := by omega
    have hm : (rd_T76 l (fAt l n)).f1.size ≤ 17592186044416 := by rw [e, rd_IFi hk]; exact hs _ (List.getElem_mem hk)
    rw [if_pos h0]
    exact Ev.pos h0 (Ev.pos h0 (Ev.pos (by omega) (spec_DoAct_j1 l hl a n t u (fAt l n) (rd_T76 l (fAt l n)) (by omega))))
theorem spec_DoAct_j0no (l : List IFi) (a : Int) (n t u : ByteArray) : Ev (fun k => spec_DoAct.j0 k true l a n t u) (([] : List IFi), false) :=
  Ev.step (f := fun k => some (([] : List IFi), false)) (fun k => by simp only [spec_DoAct.j0, if_true]) (Ev.now _)
theorem spec_DoAct_ev (l : List IFi) (hl : l.length ≤ 1048576) (a : Int) (n t u : ByteArray) (ht : t.size ≤ 17592186044416) : Ev (fun k => spec_DoAct.f k l a n t u) (doAct l a n t u) := by
  unfold spec_DoAct.f doAct
  refine Ev.bind (spec_DiskOk_ev l) ?_
  by_cases hd : diskOk l = true
  · refine Ev.pos hd ?_
    have hs : ∀ x ∈ l, x.f1.size ≤ 17592186044416 := fun x hx => by
      have := ((fileOk_iff x).1 (((diskOk_iff l).1 hd).2.1 x hx)).2.1; omega
    refine Ev.bind0 (spec_l03Name_is n) ?_
    have J := spec_DoAct_j0 l hl hs a n t u ht
    have JN := spec_DoAct_j0no l a n t u
    cases b1 : nameOk n with
    | false =>
      have b1' : ¬ decide (1 ≤ n.size ∧ n.size ≤ 8) = true := by have := b1; unfold nameOk at this; simp [this]
      rw [if_neg (by simp [formOk, b1])]
      exact Ev.neg b1' JN
    | true =>
      refine Ev.pos b1 ?_
      by_cases a3 : a = 3
      · refine Ev.pos a3 ?_
        by_cases a1 : a = 1
        · omega
        · refine Ev.neg a1 ?_
          by_cases c : t.toList = ([] : List UInt8)
          · rw [show (t.toList != ([] : List UInt8)) = false from by simp [c], if_pos ⟨hd, by simp [formOk, b1, a3, c]⟩]; exact J
          · rw [show (t.toList != ([] : List UInt8)) = true from by simp [bne, c], if_neg (by simp [formOk, b1, a3, c])]; exact JN
      · refine Ev.neg a3 ?_
        by_cases c2 : u.toList = ([] : List UInt8)
        · refine Ev.pos c2 ?_
          by_cases a1 : a = 1
          · refine Ev.pos a1 ?_
            rw [if_pos ⟨hd, by simp [formOk, b1, a1, c2]⟩]; exact J
          · refine Ev.neg a1 ?_
            by_cases c : t.toList = ([] : List UInt8)
            · rw [show (t.toList != ([] : List UInt8)) = false from by simp [c], if_pos ⟨hd, by simp [formOk, b1, c2, c]⟩]; exact J
            · rw [show (t.toList != ([] : List UInt8)) = true from by simp [bne, c], if_neg (by simp [formOk, a1, c])]; exact JN
        · refine Ev.neg c2 ?_
          rw [if_neg (by simp [formOk, a3, c2])]; exact JN
  · rw [if_neg (fun e => hd e.1)]
    exact Ev.neg hd (spec_DoAct_j0no l a n t u)
theorem spec_DoActs_l0 (r : List IAc) (hr : r.length ≤ 1048576) (hs : ∀ x ∈ r, x.f2.size ≤ 17592186044416) : ∀ (d i : Nat) (l : List IFi), i + d = r.length → l.length ≤ 1048576 → Ev (fun k => spec_DoActs.l0 k r (i : Int) l) (doActsL l (r.drop i) (i : Int))
  | 0, i, l, h, hl => by
    obtain rfl : i = r.length := by omega
    rw [List.drop_length]
    refine Ev.step (f := fun k => some (l, (r.length : Int))) (fun k => ?_) (Ev.now _)
    simp only [spec_DoActs.l0]; rw [if_neg (by omega)]
  | d + 1, i, l, h, hl => by
    have hm := hs (rd_T35 r (i : Int)) (by rw [rd_IAc (by omega)]; exact List.getElem_mem _)
    rw [rd_IAc_drop (by omega : i < r.length)]
    have hq := doAct_len l (rd_T35 r (i : Int)).f0 (rd_T35 r (i : Int)).f1 (rd_T35 r (i : Int)).f2 (rd_T35 r (i : Int)).f3
    have ev := spec_DoAct_ev l hl (rd_T35 r (i : Int)).f0 (rd_T35 r (i : Int)).f1 (rd_T35 r (i : Int)).f2 (rd_T35 r (i : Int)).f3 hm
    simp only [doActsL]
    generalize hQ : doAct l (rd_T35 r (i : Int)).f0 (rd_T35 r (i : Int)).f1 (rd_T35 r (i : Int)).f2 (rd_T35 r (i : Int)).f3 = q at *
    have ih := spec_DoActs_l0 r hr hs d (i + 1) q.1 (by omega) (by omega)
    have w4 : wrap64 ((i : Int) + 1) = ((i + 1 : Nat) : Int) := by rw [w64 (by omega) (by omega)]; omega
    refine Ev.step (f := fun k => (spec_DoAct.f k l ((rd_T35 r i).f0) ((rd_T35 r i).f1) ((rd_T35 r i).f2) ((rd_T35 r i).f3)).bind fun q => (if q.2 = true then (spec_DoActs.l0 k r ((i + 1 : Nat) : Int) q.1) else (some (l, (i : Int))))) (fun k => ?_) (Ev.bind ev ?_)
    · simp only [spec_DoActs.l0, w4]
      rw [if_pos (by omega), if_pos (by omega)]
    · by_cases e : q.2 = true
      · exact (Ev.pos e ih).eq (if_pos e).symm
      · exact (Ev.neg e (Ev.now _)).eq (if_neg e).symm
theorem spec_DoActs_ev (l : List IFi) (hl : l.length ≤ 1048576) (r : List IAc) (hr : r.length ≤ 1048576) (hs : ∀ x ∈ r, x.f2.size ≤ 17592186044416) : Ev (fun k => spec_DoActs.f k l r) (doActsL l r 0) := by
  unfold spec_DoActs.f
  refine Ev.bind0 rfl (Ev.pos (by simp; omega) ?_)
  have := spec_DoActs_l0 r hr hs r.length 0 l (by omega) hl
  simpa using this
theorem spec_LoseDisk_j1 (l : List IFi) (r : List Int) (acc : List IFi) (i : Nat) (hi : i ≤ 100) (ha : acc.length ≤ 100) (x : IFi) (hx : 0 ≤ x.f2 ∧ x.f2 ≤ (x.f1.size : Int) ∧ x.f1.size ≤ 20000) (n : Int) {z : List IFi × Bool}
    (h : Ev (fun k => spec_LoseDisk.l0 k r ((i + 1 : Nat) : Int) l (acc ++ [loseF x n])) z) : Ev (fun k => spec_LoseDisk.j1 k r (i : Int) n l acc x.f0 x.f1 x.f2) z := by
  refine Ev.step (f := fun k => spec_LoseDisk.l0 k r ((i + 1 : Nat) : Int) l (acc ++ [loseF x n])) (fun k => ?_) h
  have w4 : wrap64 ((i : Int) + 1) = ((i + 1 : Nat) : Int) := by rw [w64 (by omega) (by omega)]; omega
  simp only [spec_LoseDisk.j1, w4]
  by_cases h1 : n > (x.f1.size : Int)
  · rw [if_pos h1, if_neg (by omega), if_pos (by omega), if_pos (Int.le_refl _), if_pos (by omega)]
    have e : leftN x n = (x.f1.size : Int) := by unfold leftN; omega
    unfold loseF; rw [e]
  · rw [if_neg h1]
    by_cases h2 : n < x.f2
    · rw [if_pos h2, if_pos hx.1, if_pos hx.2.1, if_pos (by omega)]
      have e : leftN x n = x.f2 := by unfold leftN; omega
      unfold loseF; rw [e]
    · rw [if_neg h2, if_pos (by omega), if_pos (by omega), if_pos (by omega)]
      have e : leftN x n = n := by unfold leftN; omega
      unfold loseF; rw [e]
theorem spec_LoseDisk_l0 (l : List IFi) (r : List Int) (hl : l.length ≤ 30) (hx : ∀ x ∈ l, 0 ≤ x.f2 ∧ x.f2 ≤ (x.f1.size : Int) ∧ x.f1.size ≤ 20000) : ∀ (d i : Nat) (acc : List IFi), i + d = l.length → acc.length = i →
    Ev (fun k => spec_LoseDisk.l0 k r (i : Int) l acc) (acc ++ loseL (l.drop i) (r.drop i), true)
  | 0, i, acc, h, ha => by
    refine Ev.step (f := fun k => some (acc, true)) (fun k => ?_) ((Ev.now _).eq ?_)
    · simp only [spec_LoseDisk.l0]; rw [if_neg (by omega)]
    · rw [List.drop_of_length_le (by omega)]; simp [loseL]
  | d + 1, i, acc, h, ha => by
    have hxi := hx (rd_T76 l (i : Int)) (by rw [rd_IFi (by omega)]; exact List.getElem_mem _)
    rw [rd_IFi_drop (l := l) (i := i) (by omega)]
    generalize hX : rd_T76 l (i : Int) = x at hxi ⊢
    by_cases e : i < r.length
    · rw [rd_drop (l := r) (i := i) e]
      have ih := spec_LoseDisk_l0 l r hl hx d (i + 1) (acc ++ [loseF x (rd r (i : Int))]) (by omega) (by simp; omega)
      refine Ev.step (f := fun k => spec_LoseDisk.j1 k r (i : Int) (rd r (i : Int)) l acc x.f0 x.f1 x.f2) (fun k => ?_) (spec_LoseDisk_j1 l r acc i (by omega) (by omega) x hxi _ (ih.eq ?_))
      · simp only [spec_LoseDisk.l0]
        rw [if_pos (by omega), if_pos (by omega), if_pos (by omega), hX]
      · simp [loseL]
    · have ih := spec_LoseDisk_l0 l r hl hx d (i + 1) (acc ++ [loseF x 0]) (by omega) (by simp; omega)
      refine Ev.step (f := fun k => spec_LoseDisk.j1 k r (i : Int) 0 l acc x.f0 x.f1 x.f2) (fun k => ?_) (spec_LoseDisk_j1 l r acc i (by omega) (by omega) x hxi _ (ih.eq ?_))
      · simp only [spec_LoseDisk.l0]
        rw [if_pos (by omega), if_pos (by omega), if_neg (by omega), hX]
      · rw [List.drop_of_length_le (l := r) (by omega), List.drop_of_length_le (l := r) (by omega)]
        simp [loseL]
theorem spec_LoseDisk_ev (l : List IFi) (r : List Int) : Ev (fun k => spec_LoseDisk.f k l r) (loseDisk l r) := by
  unfold spec_LoseDisk.f loseDisk
  refine Ev.bind (spec_DiskOk_ev _) ?_
  by_cases h : diskOk l = true
  · rw [if_pos h]
    have hr := diskOk_range h
    refine Ev.pos h ?_
    have := spec_LoseDisk_l0 l r hr.1 hr.2 l.length 0 [] (by omega) rfl
    simpa using this
  · rw [if_neg h]
    exact Ev.neg h (Ev.now _)
theorem spec_CutActs_ev (l : List IFi) (hl : l.length ≤ 1048576) (r : List IAc) (hr : r.length ≤ 1048576) (hs : ∀ x ∈ r, x.f2.size ≤ 17592186044416) (n : Int) (s : List Int) : Ev (fun k => spec_CutActs.f k l r n s) (cutActs l r n s) := by
  unfold spec_CutActs.f cutActs
  refine Ev.bind0 (spec_l01In_is ..) ?_
  by_cases h : 0 ≤ n ∧ n ≤ (r.length : Int)
  · rw [if_pos h]
    obtain ⟨c1, c2⟩ := cut_hs (n := n) hr hs
    refine Ev.pos (inR_iff.2 h) (Ev.pos h.1 (Ev.pos h.2 (Ev.bind (spec_DoActs_ev l hl _ c1 c2) ?_)))
    by_cases e : (doActsL l (r.take n.toNat) 0).2 < n
    · exact (Ev.pos e (Ev.now _)).eq (if_pos e).symm
    · exact (Ev.neg e (Ev.bind (spec_LoseDisk_ev _ s) (Ev.now _))).eq (if_neg e).symm
  · rw [if_neg h]
    exact Ev.neg (fun e => h (inR_iff.1 e)) (Ev.now _)
theorem laws_toIntS_l0 (l : List Int) (hl : l.length ≤ 35184372088832) : ∀ (d i : Nat), i + d = l.length →
    Ev (fun k => laws_toIntS.l0 k l (l.take i ++ List.replicate (l.length - i) 0) (i : Int)) l
  | 0, i, h => by
    refine Ev.step (f := fun k => some (l.take i ++ List.replicate (l.length - i) 0)) (fun k => ?_) ((Ev.now _).eq ?_)
    · simp only [laws_toIntS.l0]; rw [if_neg (by omega)]
    · obtain rfl : i = l.length := by omega
      simp
  | d + 1, i, h => by
    refine Ev.step (f := fun k => laws_toIntS.l0 k l (l.take (i + 1) ++ List.replicate (l.length - (i + 1)) 0) ((i + 1 : Nat) : Int)) (fun k => ?_) (laws_toIntS_l0 l hl d (i + 1) (by omega))
    simp only [laws_toIntS.l0]
    rw [if_pos (by omega), if_pos (by omega), if_pos (by simp [List.length_take]; omega), w64 (x := (i : Int) + 1) (by omega) (by omega)]
    rw [Int.toNat_natCast, rd_nat l i (by omega), fill_step l 0 i l.length (by omega) rfl]
    rfl
theorem laws_toIntS_ev (l : List Int) (hl : l.length ≤ 35184372088832) : Ev (fun k => laws_toIntS.f k l) l := by
  unfold laws_toIntS.f
  refine Ev.pos (by omega) (Ev.pos (by omega) ?_)
  have := laws_toIntS_l0 l hl l.length 0 (by omega)
  simpa using this
theorem laws_eqIntS_l0 (l m : List Int) (hl : l.length ≤ 35184372088832) (hm : l.length = m.length) : ∀ (d i : Nat), i + d = l.length →
    Ev (fun k => laws_eqIntS.l0 k l m (i : Int)) (decide (l.drop i = m.drop i))
  | 0, i, h => by
    refine Ev.step (f := fun k => some true) (fun k => ?_) ((Ev.now _).eq ?_)
    · simp only [laws_eqIntS.l0]; rw [if_neg (by omega)]
    · rw [List.drop_of_length_le (by omega), List.drop_of_length_le (by omega)]; rfl
  | d + 1, i, h => by
    rw [rd_drop (l := l) (by omega), rd_drop (l := m) (by omega)]
    by_cases e : rd l (i : Int) = rd m (i : Int)
    · refine Ev.step (f := fun k => laws_eqIntS.l0 k l m ((i + 1 : Nat) : Int)) (fun k => ?_) ((laws_eqIntS_l0 l m hl hm d (i + 1) (by omega)).eq ?_)
      · simp only [laws_eqIntS.l0]
        rw [if_pos (by omega), if_pos (by omega), if_pos (by omega), if_pos e, w64 (x := (i : Int) + 1) (by omega) (by omega)]
        rfl
      · simp [e]
    · refine Ev.step (f := fun k => some false) (fun k => ?_) ((Ev.now _).eq ?_)
      · simp only [laws_eqIntS.l0]
        rw [if_pos (by omega), if_pos (by omega), if_pos (by omega), if_neg e]
      · simp [e]
theorem laws_eqIntS_ev (l m : List Int) (hl : l.length ≤ 35184372088832) : Ev (fun k => laws_eqIntS.f k l m) (decide (l = m)) := by
  unfold laws_eqIntS.f
  by_cases h : l.length = m.length
  · refine Ev.pos (by omega) ((laws_eqIntS_l0 l m hl h l.length 0 (by omega)).eq (by simp))
  · refine Ev.neg (by omega) ((Ev.now _).eq ?_)
    rw [eq_comm, decide_eq_false_iff_not]
    intro e; exact h (by rw [e])
theorem laws_markIntS_l0 (l : List Int) (hl : l.length ≤ 35184372088832) (m : Int) (h0 : 0 ≤ m) (hm : m ≤ 1000000000000000) : ∀ (d i : Nat), i + d = l.length →
    Ev (fun k => laws_markIntS.l0 k ((seqI m l.length).take i ++ l.drop i) (m + i) (i : Int)) (m + l.length, seqI m l.length)
  | 0, i, h => by
    obtain rfl : i = l.length := by omega
    have e : (seqI m l.length).take l.length ++ l.drop l.length = seqI m l.length := by rw [List.drop_length, List.append_nil, List.take_of_length_le (by rw [seqI_length]; omega)]
    rw [e]
    refine Ev.step (f := fun k => some (m + (l.length : Int), seqI m l.length)) (fun k => ?_) (Ev.now _)
    simp only [laws_markIntS.l0]; rw [if_neg (by rw [seqI_length]; omega)]
  | d + 1, i, h => by
    have hL : ((seqI m l.length).take i ++ l.drop i).length = l.length := by rw [List.length_append, List.length_take, List.length_drop, seqI_length]; omega
    refine Ev.step (f := fun k => laws_markIntS.l0 k ((seqI m l.length).take (i + 1) ++ l.drop (i + 1)) (m + ((i + 1 : Nat) : Int)) ((i + 1 : Nat) : Int)) (fun k => ?_) (laws_markIntS_l0 l hl m h0 hm d (i + 1) (by omega))
    simp only [laws_markIntS.l0]
    rw [if_pos (by rw [hL]; omega), if_pos (by omega), w64 (x := (i : Int) + 1) (by omega) (by omega), w64 (x := m + (i : Int) + 1) (by omega) (by omega)]
    rw [Int.toNat_natCast, List.set_append_right _ _ (by rw [List.length_take]; omega), List.length_take, seqI_length, show i - min i l.length = 0 from by omega]
    rw [List.drop_eq_getElem_cons (show i < l.length by omega), List.set_cons_zero, seqI_take m l.length i (by omega), List.append_assoc]
    congr 1
    omega
theorem laws_markIntS_ev (l : List Int) (hl : l.length ≤ 35184372088832) (m : Int) (h0 : 0 ≤ m) (hm : m ≤ 1000000000000000) :
    Ev (fun k => laws_markIntS.f k l m) (m + l.length, seqI m l.length) := by
  have := laws_markIntS_l0 l hl m h0 hm l.length 0 (by omega)
  show Ev (fun k => laws_markIntS.l0 k l m 0) _
  simpa using this
theorem FnExactCutActs : laws_FnExactCutActs.Pure := by
  intro d l n r hd hg hn0 hr
  obtain ⟨hl, hx⟩ := hd
  obtain ⟨hc, hg2⟩ := hg
  obtain ⟨hr1, _⟩ := hr
  simp only [maxLen] at hr1
  apply Ev.rounds
  unfold laws_FnExactCutActs.f
  by_cases h : (r.length : Int) > 1048576
  · exact Ev.pos h (Ev.now _)
  refine Ev.neg h ?_
  obtain ⟨z, hz, hy⟩ := laws_szDisk_ev d 1048576 hl (fun x h => ⟨(hx x h).1, (hx x h).2.1⟩) (by omega) (by omega)
  refine Ev.bind hz ?_
  rcases hy with hy | ⟨h0, h1, h2, h3⟩
  · exact Ev.pos hy (Ev.now _)
  · refine Ev.neg (by omega) ?_
    obtain ⟨v, hv, hw⟩ := laws_szActS_ev l z hc (fun x h => ⟨(hg2 x h).2.1, (hg2 x h).2.2.1, (hg2 x h).2.2.2⟩) h0 h1
    refine Ev.bind hv ?_
    rcases hw with hw | ⟨g0, g1, g2, g3⟩
    · exact Ev.pos hw (Ev.now _)
    · have hm : (d.map toFi).length ≤ 1048576 := by simpa using h2
      have hm2 : (l.map toAc).length ≤ 1048576 := by simpa using g2
      have hs : ∀ x ∈ l.map toAc, x.f2.size ≤ 17592186044416 := by
        intro x hx
        obtain ⟨y, hy, rfl⟩ := List.mem_map.1 hx
        have := (g3 y hy).2.1
        simp only [toAc]; omega
      have td := laws_toDisk_ev d h2
      have ts := laws_toActS_ev l g2
      have ti := laws_toIntS_ev r (by omega)
      have es := spec_CutActs_ev (d.map toFi) (by omega) (l.map toAc) hm2 hs n r
      have ei := impl_CutActs_ev (d.map toFi) (by omega) (l.map toAc) hm2 hs n r
      have hn := cutActs_len (d.map toFi) (l.map toAc) n r
      generalize cutActs (d.map toFi) (l.map toAc) n r = q at es ei hn
      have eq := laws_eqDisk_ev q.1 (by omega)
      refine Ev.neg (by omega) (Ev.bind td (Ev.bind ts (Ev.bind ti (Ev.bind es (Ev.bind td (Ev.bind ts (Ev.bind ti (Ev.bind ei (Ev.bind eq (Ev.pos rfl ?_))))))))))
      rw [show (q.2 != q.2) = false from by simp]
      refine Ev.step (fun k => laws_FnExactCutActs.j0.eq_2 ..) (Ev.neg (by simp) (Ev.bind td (Ev.bind (laws_eqDisk_ev (d.map toFi) (by omega)) (Ev.pos rfl (Ev.bind ts (Ev.bind (laws_eqActS_ev (l.map toAc) (by omega)) (Ev.pos rfl (Ev.bind ti (Ev.bind (laws_eqIntS_ev r r (by omega)) (Ev.pos (by simp) (Ev.bind (laws_markDisk_ev (d.map toFi) (by omega) 1 (by omega) (by omega)) (Ev.bind (laws_markActS_ev (l.map toAc) (by omega) _ (by simp only; omega) (by simp only; omega)) (Ev.bind (laws_markIntS_ev r (by omega) _ (by simp only; omega) (by simp only; omega)) (Ev.neg (by simp only; omega) (Ev.bind eq (Ev.pos rfl ?_))))))))))))))))
      rw [show (q.2 != q.2) = false from by simp]
      have held := laws_heldDisk_ev q.1.length (by omega) 1 (by omega) (by omega)
      refine Ev.step (fun k => laws_FnExactCutActs.j1.eq_2 ..) (Ev.neg (by simp) (Ev.bind (laws_markDisk_ev q.1 (by omega) 1 (by omega) (by omega)) (Ev.bind held (Ev.neg (by omega) (Ev.pos rfl (Ev.bind td (Ev.bind ts (Ev.bind ti (Ev.bind ei (Ev.bind eq (Ev.pos rfl ?_)))))))))))
      rw [show (q.2 != q.2) = false from by simp]
      exact Ev.step (fun k => laws_FnExactCutActs.j2.eq_2 ..) (Ev.neg (by simp) (Ev.bind held (Ev.neg (by omega) (Ev.pos rfl (Ev.now _)))))

end Go.Proofs.Ythbaoefbccdioaa.Pure
