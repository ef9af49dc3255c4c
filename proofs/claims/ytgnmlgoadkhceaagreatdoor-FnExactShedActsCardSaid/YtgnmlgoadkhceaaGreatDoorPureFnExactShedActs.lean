/- The law FnExactShedActs answers true at every input; no condition. -/
import Derived.Test.YtgnmlgoadkhceaaGreatDoorQFnExactShedActsx16
import Derived.Test.YtgnmlgoadkhceaaGreatDoorTM
namespace Go.Proofs.YtgnmlgoadkhceaaGreatDoor.QFnExactShedActs
open Go.RowKit
/-- What is left to be shown of the law: over numbers, texts and lists alone. -/
def laws_FnExactShedActs.Pure : Prop := ∀ (l0_0 : List (S82)), (l0_0.length ≤ maxLen ∧ ∀ x ∈ l0_0, (x.f0.size ≤ maxLen ∧ x.f1.size ≤ maxLen ∧ (Lit.int .i64 x.f2).wf = true)) → ∃ k, laws_FnExactShedActs.f k l0_0 = some true
end Go.Proofs.YtgnmlgoadkhceaaGreatDoor.QFnExactShedActs
namespace Go.Proofs.YtgnmlgoadkhceaaGreatDoor.Pure
open Go.RowKit Go.Proofs.YtgnmlgoadkhceaaGreatDoor.QFnExactShedActs Go.Proofs.YtgnmlgoadkhceaaGreatDoorW.PrintWords Go.Proofs.YtgnmlgoadkhceaaGreatDoorW.PrintLast Go.Proofs.YtgnmlgoadkhceaaGreatDoorW.PrintMore Go.Proofs.YtgnmlgoadkhceaaGreatDoor.M
set_option linter.unusedVariables false
set_option linter.unusedSimpArgs false
set_option maxRecDepth 4000

theorem laws_szFile_is (a b : ByteArray) (c : Int) (left : Int) (h0 : 0 ≤ left) (h1 : left ≤ 1048576) (ha : a.size ≤ maxLen) (hb : b.size ≤ maxLen) :
    ∃ r, laws_szFile.f a b c left = some r ∧ (r < 0 ∨ 0 ≤ r ∧ r ≤ left ∧ (a.size : Int) ≤ left ∧ (b.size : Int) ≤ left) := by
  unfold laws_szFile.f
  simp only [maxLen] at ha hb
  rw [w64 (x := left - (a.size : Int)) (by omega) (by omega)]
  by_cases h : left - (a.size : Int) < 0
  · exact ⟨-1, by rw [if_pos h], .inl (by omega)⟩
  · rw [if_neg h, w64 (x := left - (a.size : Int) - (b.size : Int)) (by omega) (by omega)]
    by_cases h' : left - (a.size : Int) - (b.size : Int) < 0
    · exact ⟨-1, by rw [if_pos h'], .inl (by omega)⟩
    · exact ⟨_, by rw [if_neg h'], .inr (by omega)⟩
abbrev IFi := S57
theorem rd_IFi {l : List IFi} {i : Nat} (h : i < l.length) : rd_T57 l (i : Int) = l[i] := by
  simp [rd_T57, List.getD_eq_getElem?_getD, List.getElem?_eq_getElem h]
theorem rd_IFi_drop {l : List IFi} {i : Nat} (h : i < l.length) : l.drop i = rd_T57 l (i : Int) :: l.drop (i + 1) := by
  rw [List.drop_eq_getElem_cons h, rd_IFi h]
abbrev LFi := S82
def toFi (x : LFi) : IFi := ⟨x.f0, x.f1, x.f2⟩
theorem rd_LFi {l : List LFi} {i : Nat} (h : i < l.length) : rd_T82 l (i : Int) = l[i] := by
  simp [rd_T82, List.getD_eq_getElem?_getD, List.getElem?_eq_getElem h]
theorem laws_szFileS_l0 (l : List LFi) (hl : l.length ≤ 1048576) (hg : ∀ x ∈ l, x.f0.size ≤ maxLen ∧ x.f1.size ≤ maxLen) : ∀ (d i : Nat) (left : Int), i + d = l.length → 0 ≤ left → left ≤ 1048576 →
    ∃ r, Ev (fun k => laws_szFileS.l0 k l left (i : Int)) r ∧ (r < 0 ∨ 0 ≤ r ∧ r ≤ left ∧ ∀ x ∈ l.drop i, (x.f0.size : Int) ≤ left ∧ (x.f1.size : Int) ≤ left)
  | 0, i, left, h, h0, h1 => by
    refine ⟨left, Ev.step (f := fun k => some left) (fun k => ?_) (Ev.now _), .inr ⟨h0, by omega, ?_⟩⟩
    · simp only [laws_szFileS.l0]; rw [if_neg (by omega)]
    · rw [List.drop_of_length_le (by omega)]; simp
  | d + 1, i, left, h, h0, h1 => by
    have hi : i < l.length := by omega
    have hgi := hg _ (List.getElem_mem hi)
    obtain ⟨r, hr, hx⟩ := laws_szFile_is l[i].f0 l[i].f1 l[i].f2 left h0 h1 hgi.1 hgi.2
    rcases hx with hx | ⟨hx0, hx1, hx2⟩
    · refine ⟨-1, Ev.step (f := fun k => some (-1)) (fun k => ?_) (Ev.now _), .inl (by omega)⟩
      simp only [laws_szFileS.l0]
      rw [if_pos (by omega), if_pos (by omega), rd_LFi hi, hr, Option.bind_some, if_pos hx]
    · obtain ⟨r', hr', hy⟩ := laws_szFileS_l0 l hl hg d (i + 1) r (by omega) (by omega) (by omega)
      refine ⟨r', Ev.step (f := fun k => laws_szFileS.l0 k l r ((i + 1 : Nat) : Int)) (fun k => ?_) hr', ?_⟩
      · simp only [laws_szFileS.l0]
        rw [if_pos (by omega), if_pos (by omega), rd_LFi hi, hr, Option.bind_some, if_neg (by omega), w64 (x := (i : Int) + 1) (by omega) (by omega)]; rfl
      · rcases hy with hy | ⟨hy0, hy1, hy2⟩
        · exact .inl hy
        · refine .inr ⟨hy0, by omega, ?_⟩
          rw [List.drop_eq_getElem_cons hi]
          intro x hx
          rcases List.mem_cons.1 hx with rfl | hx
          · exact hx2
          · have := hy2 x hx; omega
theorem laws_szFileS_ev (l : List LFi) (left : Int) (hl : l.length ≤ maxLen) (hg : ∀ x ∈ l, x.f0.size ≤ maxLen ∧ x.f1.size ≤ maxLen) (h0 : 0 ≤ left) (h1 : left ≤ 1048576) :
    ∃ r, Ev (fun k => laws_szFileS.f k l left) r ∧ (r < 0 ∨ 0 ≤ r ∧ r ≤ left ∧ l.length ≤ 1048576 ∧ ∀ x ∈ l, (x.f0.size : Int) ≤ left ∧ (x.f1.size : Int) ≤ left) := by
  simp only [maxLen] at hl
  have e : wrap64 (left - (l.length : Int)) = left - l.length := w64 (by omega) (by omega)
  by_cases h : left - (l.length : Int) < 0
  · exact ⟨-1, by unfold laws_szFileS.f; rw [e]; exact Ev.pos h (Ev.now _), .inl (by omega)⟩
  · obtain ⟨r, hr, hx⟩ := laws_szFileS_l0 l (by omega) hg l.length 0 (left - l.length) (by omega) (by omega) (by omega)
    refine ⟨r, by unfold laws_szFileS.f; rw [e]; exact Ev.neg h hr, ?_⟩
    rcases hx with hx | ⟨hx0, hx1, hx2⟩
    · exact .inl hx
    · exact .inr ⟨hx0, by omega, by omega, fun x hx => by have := hx2 x (by simpa using hx); omega⟩
theorem laws_szDisk_ev (l : List LFi) (left : Int) (hl : l.length ≤ maxLen) (hg : ∀ x ∈ l, x.f0.size ≤ maxLen ∧ x.f1.size ≤ maxLen) (h0 : 0 ≤ left) (h1 : left ≤ 1048576) :
    ∃ r, Ev (fun k => laws_szDisk.f k l left) r ∧ (r < 0 ∨ 0 ≤ r ∧ r ≤ left ∧ l.length ≤ 1048576 ∧ ∀ x ∈ l, (x.f0.size : Int) ≤ left ∧ (x.f1.size : Int) ≤ left) := by
  obtain ⟨r, hr, hx⟩ := laws_szFileS_ev l left hl hg h0 h1
  by_cases h : r < 0
  · exact ⟨-1, by unfold laws_szDisk.f; exact Ev.bind hr (Ev.pos h (Ev.now _)), .inl (by omega)⟩
  · refine ⟨r, by unfold laws_szDisk.f; exact Ev.bind hr (Ev.neg h (Ev.now _)), ?_⟩
    rcases hx with hx | hx
    · exact absurd hx h
    · exact .inr hx
theorem laws_toFile_is (a b : ByteArray) (c : Int) : laws_toFile.f a b c = some (a, b, c) := rfl
theorem laws_toFileS_l0 (l : List LFi) (hl : l.length ≤ 1048576) : ∀ (d i : Nat), i + d = l.length →
    Ev (fun k => laws_toFileS.l0 k l ((l.map toFi).take i ++ List.replicate (l.length - i) z57) (i : Int)) (l.map toFi)
  | 0, i, h => by
    refine Ev.step (f := fun k => some ((l.map toFi).take i ++ List.replicate (l.length - i) z57)) (fun k => ?_) ((Ev.now _).eq ?_)
    · simp only [laws_toFileS.l0]; rw [if_neg (by omega)]
    · obtain rfl : i = l.length := by omega
      rw [List.take_of_length_le (by simp)]; simp
  | d + 1, i, h => by
    have hi : i < l.length := by omega
    refine Ev.step (f := fun k => laws_toFileS.l0 k l ((l.map toFi).take (i + 1) ++ List.replicate (l.length - (i + 1)) z57) ((i + 1 : Nat) : Int)) (fun k => ?_) (laws_toFileS_l0 l hl d (i + 1) (by omega))
    simp only [laws_toFileS.l0]
    rw [if_pos (by omega), if_pos (by omega), rd_LFi hi, laws_toFile_is, Option.bind_some, if_pos (by simp [List.length_take]; omega), w64 (x := (i : Int) + 1) (by omega) (by omega)]
    rw [Int.toNat_natCast]
    have e := fill_step (l.map toFi) z57 i l.length (by simpa using hi) (by simp)
    rw [← e, List.getElem_map]; rfl
theorem laws_toFileS_ev (l : List LFi) (hl : l.length ≤ 1048576) : Ev (fun k => laws_toFileS.f k l) (l.map toFi) := by
  unfold laws_toFileS.f
  refine Ev.pos (by omega) (Ev.pos (by omega) ?_)
  have := laws_toFileS_l0 l hl l.length 0 (by omega)
  simpa using this
theorem laws_toDisk_ev (l : List LFi) (hl : l.length ≤ 1048576) : Ev (fun k => laws_toDisk.f k l) (l.map toFi) := by
  unfold laws_toDisk.f
  exact Ev.bind (laws_toFileS_ev l hl) (Ev.now _)
theorem laws_eqAct_is (a : Int) (b c d : ByteArray) : laws_eqAct.f a b c d a b c d = some true := by
  unfold laws_eqAct.f; simp
abbrev IAc := S65
theorem rd_IAc {l : List IAc} {i : Nat} (h : i < l.length) : rd_T65 l (i : Int) = l[i] := by
  simp [rd_T65, List.getD_eq_getElem?_getD, List.getElem?_eq_getElem h]
theorem rd_IAc_set {l : List IAc} {i : Nat} (v : IAc) (h : i < l.length) : rd_T65 (l.set i v) (i : Int) = v := by
  rw [rd_IAc (by simpa using h)]; simp
def mkAc (m : Int) : IAc := ⟨m, mkT (m + 1), mkT (m + 2), mkT (m + 3)⟩
def seqA (m : Int) : Nat → List IAc
  | 0 => []
  | n + 1 => mkAc m :: seqA (m + 4) n
theorem seqA_length (m : Int) (n : Nat) : (seqA m n).length = n := by
  induction n generalizing m with
  | zero => rfl
  | succ n ih => simp [seqA, ih]
theorem seqA_get (m : Int) (n i : Nat) (h : i < (seqA m n).length) : (seqA m n)[i] = mkAc (m + 4 * i) := by
  induction n generalizing m i with
  | zero => simp [seqA] at h
  | succ n ih =>
    cases i with
    | zero => simp [seqA]
    | succ i => simp only [seqA, List.getElem_cons_succ]; rw [ih]; congr 1; omega
theorem laws_eqActS_l0 (l : List IAc) (hl : l.length ≤ 1048577) : ∀ (d i : Nat), i + d = l.length → Ev (fun k => laws_eqActS.l0 k l l (i : Int)) true
  | 0, i, h => by
    refine Ev.step (f := fun k => some true) (fun k => ?_) (Ev.now _)
    simp only [laws_eqActS.l0]; rw [if_neg (by omega)]
  | d + 1, i, h => by
    refine Ev.step (f := fun k => laws_eqActS.l0 k l l ((i + 1 : Nat) : Int)) (fun k => ?_) (laws_eqActS_l0 l hl d (i + 1) (by omega))
    simp only [laws_eqActS.l0]
    rw [if_pos (by omega), if_pos (by omega), if_pos (by omega), laws_eqAct_is, Option.bind_some, if_pos rfl, w64 (x := (i : Int) + 1) (by omega) (by omega)]; rfl
theorem laws_eqActS_ev (l : List IAc) (hl : l.length ≤ 1048577) : Ev (fun k => laws_eqActS.f k l l) true := by
  unfold laws_eqActS.f
  exact Ev.pos rfl (laws_eqActS_l0 l hl l.length 0 (by omega))
theorem laws_eqFile_is (a b : ByteArray) (c : Int) : laws_eqFile.f a b c a b c = some true := by
  unfold laws_eqFile.f; simp
theorem laws_eqFileS_l0 (l : List IFi) (hl : l.length ≤ 1048577) : ∀ (d i : Nat), i + d = l.length → Ev (fun k => laws_eqFileS.l0 k l l (i : Int)) true
  | 0, i, h => by
    refine Ev.step (f := fun k => some true) (fun k => ?_) (Ev.now _)
    simp only [laws_eqFileS.l0]; rw [if_neg (by omega)]
  | d + 1, i, h => by
    refine Ev.step (f := fun k => laws_eqFileS.l0 k l l ((i + 1 : Nat) : Int)) (fun k => ?_) (laws_eqFileS_l0 l hl d (i + 1) (by omega))
    simp only [laws_eqFileS.l0]
    rw [if_pos (by omega), if_pos (by omega), if_pos (by omega), laws_eqFile_is, Option.bind_some, if_pos rfl, w64 (x := (i : Int) + 1) (by omega) (by omega)]; rfl
theorem laws_eqFileS_ev (l : List IFi) (hl : l.length ≤ 1048577) : Ev (fun k => laws_eqFileS.f k l l) true := by
  unfold laws_eqFileS.f
  exact Ev.pos rfl (laws_eqFileS_l0 l hl l.length 0 (by omega))
theorem laws_eqDisk_ev (l : List IFi) (hl : l.length ≤ 1048577) : Ev (fun k => laws_eqDisk.f k l l) true := by
  unfold laws_eqDisk.f
  exact Ev.bind (laws_eqFileS_ev l hl) (Ev.pos rfl (Ev.now _))
theorem laws_markText_l0 : ∀ (n : Nat) (acc : ByteArray), n + acc.size ≤ 1000000000000000 → Ev (fun k => laws_markText.l0 k (n : Int) acc) ((⟨#[109]⟩ : ByteArray) ++ mtD n acc) := by
  intro n
  induction n using Nat.strongRecOn with
  | _ n ih =>
    intro acc ha
    by_cases h : 0 < n
    · have e1 : (wrap64 (48 + Int.tmod (n : Int) 10)) % 256 = ((48 + n % 10 : Nat) : Int) := by
        rw [tm (by omega), w64 (by omega) (by omega)]; omega
      have e2 : wrap64 (Int.tdiv (n : Int) 10) = ((n / 10 : Nat) : Int) := by rw [td (by omega), w64 (by omega) (by omega)]; omega
      have hsz : (strOfNums [((48 + n % 10 : Nat) : Int)]).size = 1 := str_size _
      refine Ev.step (f := fun k => laws_markText.l0 k ((n / 10 : Nat) : Int) (strOfNums [((48 + n % 10 : Nat) : Int)] ++ acc)) (fun k => ?_) ((ih (n / 10) (by omega) _ (by rw [size_append, hsz]; omega)).eq ?_)
      · simp only [laws_markText.l0]
        rw [if_pos (by omega), Option.bind_some, e1, e2, if_pos (by rw [hsz]; omega)]
      · rw [mtD.eq_def n acc, if_pos h]
    · obtain rfl : n = 0 := by omega
      refine Ev.step (f := fun k => some ((⟨#[109]⟩ : ByteArray) ++ acc)) (fun k => ?_) ((Ev.now _).eq ?_)
      · simp only [laws_markText.l0]; rw [if_neg (by omega), if_pos (by omega)]
      · rw [mtD.eq_def 0 acc, if_neg (by omega)]
theorem laws_markText_ev (n : Int) (h : n ≤ 1000000000000000) : Ev (fun k => laws_markText.f k n) (mkT n) := by
  unfold laws_markText.f mkT
  by_cases h0 : n ≤ 0
  · rw [if_pos h0]; exact Ev.pos h0 (Ev.now _)
  · rw [if_neg h0]
    have := laws_markText_l0 n.toNat ⟨#[]⟩ (by show n.toNat + 0 ≤ _; omega)
    rw [Int.toNat_of_nonneg (by omega)] at this
    exact Ev.neg h0 this
def mkFi (m : Int) : IFi := ⟨mkT m, mkT (m + 1), m + 2⟩
def seqF (m : Int) : Nat → List IFi
  | 0 => []
  | n + 1 => mkFi m :: seqF (m + 3) n
theorem seqF_length (m : Int) (n : Nat) : (seqF m n).length = n := by
  induction n generalizing m with
  | zero => rfl
  | succ n ih => simp [seqF, ih]
theorem seqF_get (m : Int) (n i : Nat) (h : i < (seqF m n).length) : (seqF m n)[i] = mkFi (m + 3 * i) := by
  induction n generalizing m i with
  | zero => simp [seqF] at h
  | succ n ih =>
    cases i with
    | zero => simp [seqF]
    | succ i => simp only [seqF, List.getElem_cons_succ]; rw [ih]; congr 1; omega
theorem rd_IFi_set {l : List IFi} {i : Nat} (v : IFi) (h : i < l.length) : rd_T57 (l.set i v) (i : Int) = v := by
  rw [rd_IFi (by simpa using h)]; simp
theorem laws_markFileS_l0 (l : List IFi) (hl : l.length ≤ 1048577) (m : Int) (h0 : 0 ≤ m) (hm : m ≤ 10000000000000) : ∀ (d i : Nat), i + d = l.length →
    Ev (fun k => laws_markFileS.l0 k ((seqF m l.length).take i ++ l.drop i) (m + 3 * i) (i : Int)) (m + 3 * l.length, seqF m l.length)
  | 0, i, h => by
    obtain rfl : i = l.length := by omega
    have e : (seqF m l.length).take l.length ++ l.drop l.length = seqF m l.length := by rw [List.drop_length, List.append_nil, List.take_of_length_le (by rw [seqF_length]; omega)]
    rw [e]
    refine Ev.step (f := fun k => some (m + 3 * (l.length : Int), seqF m l.length)) (fun k => ?_) (Ev.now _)
    simp only [laws_markFileS.l0]; rw [if_neg (by rw [seqF_length]; omega)]
  | d + 1, i, h => by
    have hM : (seqF m l.length).length = l.length := seqF_length _ _
    have hL : ((seqF m l.length).take i ++ l.drop i).length = l.length := by rw [List.length_append, List.length_take, List.length_drop, hM]; omega
    have em := mark_step (seqF m l.length) l i (by omega) hM
    rw [seqF_get] at em
    generalize hX : (seqF m l.length).take i ++ l.drop i = X at hL em ⊢
    have hi : i < X.length := by omega
    refine Ev.step (f := fun k => (laws_markText.f k (m + 3 * i)).bind fun t => (laws_markText.f k (m + 3 * i + 1)).bind fun u => laws_markFileS.l0 k (X.set i ⟨t, u, m + 3 * i + 2⟩) (m + 3 * ((i + 1 : Nat) : Int)) ((i + 1 : Nat) : Int)) (fun k => ?_) (Ev.bind (laws_markText_ev _ (by omega)) (Ev.bind (laws_markText_ev _ (by omega)) ((laws_markFileS_l0 l hl m h0 hm d (i + 1) (by omega)).congr' ?_)))
    · simp only [laws_markFileS.l0]
      rw [if_pos (by omega)]
      have w1 : wrap64 (m + 3 * (i : Int) + 1) = m + 3 * i + 1 := w64 (by omega) (by omega)
      have w2 : wrap64 (m + 3 * (i : Int) + 1 + 1) = m + 3 * i + 2 := by rw [w64 (by omega) (by omega)]; omega
      have w3 : wrap64 (m + 3 * (i : Int) + 2 + 1) = m + 3 * ((i + 1 : Nat) : Int) := by rw [w64 (by omega) (by omega)]; omega
      have w4 : wrap64 ((i : Int) + 1) = ((i + 1 : Nat) : Int) := by rw [w64 (by omega) (by omega)]; omega
      simp only [Option.bind_some, Int.toNat_natCast, w1, w2, w3, w4, if_pos (show (0 : Int) ≤ (i : Int) from by omega)]
      have r1 : ∀ v : IFi, rd_T57 (X.set i v) (i : Int) = v := fun v => rd_IFi_set v hi
      have r2 : ∀ v u : IFi, rd_T57 ((X.set i v).set i u) (i : Int) = u := fun v u => rd_IFi_set u (by simpa using hi)
      simp only [r1, r2, List.set_set]
    · intro k
      have e2 : (⟨mkT (m + 3 * (i : Int)), mkT (m + 3 * (i : Int) + 1), m + 3 * (i : Int) + 2⟩ : IFi) = mkFi (m + 3 * i) := rfl
      rw [e2, em]
theorem laws_markFileS_ev (l : List IFi) (hl : l.length ≤ 1048577) (m : Int) (h0 : 0 ≤ m) (hm : m ≤ 10000000000000) : Ev (fun k => laws_markFileS.f k l m) (m + 3 * l.length, seqF m l.length) := by
  have := laws_markFileS_l0 l hl m h0 hm l.length 0 (by omega)
  show Ev (fun k => laws_markFileS.l0 k l m 0) _
  simpa using this
theorem laws_markDisk_ev (l : List IFi) (hl : l.length ≤ 1048577) (m : Int) (h0 : 0 ≤ m) (hm : m ≤ 10000000000000) : Ev (fun k => laws_markDisk.f k l m) (m + 3 * (l.length : Int), seqF m l.length) := by
  unfold laws_markDisk.f
  exact Ev.bind (laws_markFileS_ev l hl m h0 hm) (Ev.now _)
theorem laws_markActS_l0 (l : List IAc) (hl : l.length ≤ 1048577) (m : Int) (h0 : 0 ≤ m) (hm : m ≤ 10000000000000) : ∀ (d i : Nat), i + d = l.length →
    Ev (fun k => laws_markActS.l0 k ((seqA m l.length).take i ++ l.drop i) (m + 4 * i) (i : Int)) (m + 4 * l.length, seqA m l.length) := by
  intro d
  induction d with
  | zero =>
    intro i h
    obtain rfl : i = l.length := by omega
    have e : (seqA m l.length).take l.length ++ l.drop l.length = seqA m l.length := by rw [List.drop_length, List.append_nil, List.take_of_length_le (by rw [seqA_length]; omega)]
    rw [e]
    refine Ev.step (f := fun k => some (m + 4 * (l.length : Int), seqA m l.length)) (fun k => ?_) (Ev.now _)
    simp only [laws_markActS.l0]; rw [if_neg (by rw [seqA_length]; omega)]
  | succ d ih =>
    intro i h
    have hM : (seqA m l.length).length = l.length := seqA_length _ _
    have hL : ((seqA m l.length).take i ++ l.drop i).length = l.length := by rw [List.length_append, List.length_take, List.length_drop, hM]; omega
    have em := mark_step (seqA m l.length) l i (by omega) hM
    rw [seqA_get] at em
    generalize hX : (seqA m l.length).take i ++ l.drop i = X at hL em ⊢
    have hi : i < X.length := by omega
    refine Ev.step (f := fun k => (laws_markText.f k (m + 4 * i + 1)).bind fun t => (laws_markText.f k (m + 4 * i + 2)).bind fun u => (laws_markText.f k (m + 4 * i + 3)).bind fun v => laws_markActS.l0 k (X.set i ⟨m + 4 * i, t, u, v⟩) (m + 4 * ((i + 1 : Nat) : Int)) ((i + 1 : Nat) : Int)) (fun k => ?_) (Ev.bind (laws_markText_ev _ (by omega)) (Ev.bind (laws_markText_ev _ (by omega)) (Ev.bind (laws_markText_ev _ (by omega)) ((ih (i + 1) (by omega)).congr' ?_))))
    · simp only [laws_markActS.l0]
      rw [if_pos (by omega)]
      have w1 : wrap64 (m + 4 * (i : Int) + 1) = m + 4 * i + 1 := w64 (by omega) (by omega)
      have w2 : wrap64 (m + 4 * (i : Int) + 1 + 1) = m + 4 * i + 2 := by rw [w64 (by omega) (by omega)]; omega
      have w3 : wrap64 (m + 4 * (i : Int) + 2 + 1) = m + 4 * i + 3 := by rw [w64 (by omega) (by omega)]; omega
      have w5 : wrap64 (m + 4 * (i : Int) + 3 + 1) = m + 4 * ((i + 1 : Nat) : Int) := by rw [w64 (by omega) (by omega)]; omega
      have w4 : wrap64 ((i : Int) + 1) = ((i + 1 : Nat) : Int) := by rw [w64 (by omega) (by omega)]; omega
      have r1 : ∀ v : IAc, rd_T65 (X.set i v) (i : Int) = v := fun v => rd_IAc_set v hi
      have r2 : ∀ v u : IAc, rd_T65 ((X.set i v).set i u) (i : Int) = u := fun v u => rd_IAc_set u (by simpa using hi)
      rw [if_pos (show (0 : Int) ≤ (i : Int) from Int.natCast_nonneg i), Option.bind_some, Int.toNat_natCast]
      simp only [r1, r2, List.set_set, w1, w2, w3, w5, w4]
      simp only [Option.bind_some, r1, r2, List.set_set]
    · intro k
      have e2 : (⟨m + 4 * (i : Int), mkT (m + 4 * (i : Int) + 1), mkT (m + 4 * (i : Int) + 2), mkT (m + 4 * (i : Int) + 3)⟩ : IAc) = mkAc (m + 4 * i) := rfl
      rw [e2, em]
theorem laws_markActS_ev (l : List IAc) (hl : l.length ≤ 1048577) (m : Int) (h0 : 0 ≤ m) (hm : m ≤ 10000000000000) : Ev (fun k => laws_markActS.f k l m) (m + 4 * l.length, seqA m l.length) := by
  have := laws_markActS_l0 l hl m h0 hm l.length 0 (by omega)
  show Ev (fun k => laws_markActS.l0 k l m 0) _
  simpa using this
theorem laws_heldActS_l0 (n : Nat) (hl : n ≤ 1048577) (m : Int) (h0 : 0 ≤ m) (hm : m ≤ 10000000000000) : ∀ (d i : Nat), i + d = n →
    Ev (fun k => laws_heldActS.l0 k (seqA m n) (m + 4 * i) (i : Int)) (m + 4 * n)
  | 0, i, h => by
    obtain rfl : i = n := by omega
    refine Ev.step (f := fun k => some (m + 4 * (i : Int))) (fun k => ?_) (Ev.now _)
    simp only [laws_heldActS.l0]; rw [if_neg (by rw [seqA_length]; omega)]
  | d + 1, i, h => by
    have er : rd_T65 (seqA m n) (i : Int) = mkAc (m + 4 * i) := by rw [rd_IAc (by rw [seqA_length]; omega), seqA_get]
    refine Ev.step (f := fun k => (laws_markText.f k (m + 4 * i + 1)).bind fun t => if (mkT (m + 4 * i + 1)).toList = t.toList then ((laws_markText.f k (m + 4 * i + 2)).bind fun u => if (mkT (m + 4 * i + 2)).toList = u.toList then ((laws_markText.f k (m + 4 * i + 3)).bind fun v => if (mkT (m + 4 * i + 3)).toList = v.toList then laws_heldActS.l0 k (seqA m n) (m + 4 * ((i + 1 : Nat) : Int)) ((i + 1 : Nat) : Int) else some (-1)) else some (-1)) else some (-1)) (fun k => ?_) (Ev.bind (laws_markText_ev _ (by omega)) (Ev.pos rfl (Ev.bind (laws_markText_ev _ (by omega)) (Ev.pos rfl (Ev.bind (laws_markText_ev _ (by omega)) (Ev.pos rfl (laws_heldActS_l0 n hl m h0 hm d (i + 1) (by omega))))))))
    simp only [laws_heldActS.l0]
    have w1 : wrap64 (m + 4 * (i : Int) + 1) = m + 4 * i + 1 := w64 (by omega) (by omega)
    have w2 : wrap64 (m + 4 * (i : Int) + 1 + 1) = m + 4 * i + 2 := by rw [w64 (by omega) (by omega)]; omega
    have w3 : wrap64 (m + 4 * (i : Int) + 2 + 1) = m + 4 * i + 3 := by rw [w64 (by omega) (by omega)]; omega
    have w5 : wrap64 (m + 4 * (i : Int) + 3 + 1) = m + 4 * ((i + 1 : Nat) : Int) := by rw [w64 (by omega) (by omega)]; omega
    have w4 : wrap64 ((i : Int) + 1) = ((i + 1 : Nat) : Int) := by rw [w64 (by omega) (by omega)]; omega
    rw [if_pos (by rw [seqA_length]; omega), if_pos (by omega), er]
    simp only [mkAc, w1, w2, w3, w5, w4, if_true]
theorem laws_heldActS_ev (n : Nat) (hl : n ≤ 1048577) (m : Int) (h0 : 0 ≤ m) (hm : m ≤ 10000000000000) : Ev (fun k => laws_heldActS.f k (seqA m n) m) (m + 4 * n) := by
  have := laws_heldActS_l0 n hl m h0 hm n 0 (by omega)
  show Ev (fun k => laws_heldActS.l0 k (seqA m n) m 0) _
  simpa using this
theorem spec_l01In_is (a b c : Int) : spec_l01In.f a b c = some (inR a b c) := by
  unfold spec_l01In.f inR
  by_cases h : a ≥ b
  · rw [if_pos h]; congr 1; simp; omega
  · rw [if_neg h]; congr 1; simp; omega
theorem spec_l03Name_is (s : ByteArray) : spec_l03Name.f s = some (decide (1 ≤ s.size ∧ s.size ≤ 8)) := by
  unfold spec_l03Name.f
  rw [spec_l01In_is, Option.bind_some]
  congr 1
  unfold inR
  congr 1
  simp only [eq_iff_iff]; omega
def bLess (a b : ByteArray) : Bool := Go.Op.bytesLess a.toList b.toList
def fileOk (x : IFi) : Bool := decide (1 ≤ x.f0.size ∧ x.f0.size ≤ 8) && decide (x.f1.size ≤ 20000) && decide (0 ≤ x.f2 ∧ x.f2 ≤ (x.f1.size : Int))
def above : Option ByteArray → ByteArray → Bool
  | none, _ => true
  | some q, s => bLess q s
def filesOk : Option ByteArray → List IFi → Bool
  | _, [] => true
  | p, x :: l => fileOk x && above p x.f0 && filesOk (some x.f0) l
def diskOk (l : List IFi) : Bool := decide (l.length ≤ 30) && filesOk none l
theorem spec_DiskOk_l0 (l : List IFi) (hl : l.length ≤ 30) : ∀ (d i : Nat) (p : Option ByteArray), i + d = l.length → (i = 0 → p = none) → (0 < i → p = some (rd_T57 l ((i - 1 : Nat) : Int)).f0) →
    Ev (fun k => spec_DiskOk.l0 k (i : Int) l) (filesOk p (l.drop i))
  | 0, i, p, h, h0, h1 => by
    refine Ev.step (f := fun k => some true) (fun k => ?_) ((Ev.now _).eq ?_)
    · simp only [spec_DiskOk.l0]; rw [if_neg (by omega)]
    · rw [List.drop_of_length_le (by omega)]; rfl
  | d + 1, i, p, h, h0, h1 => by
    rw [rd_IFi_drop (l := l) (i := i) (by omega)]
    have ih := spec_DiskOk_l0 l hl d (i + 1) (some (rd_T57 l (i : Int)).f0) (by omega) (by omega) (fun _ => by simp)
    generalize hx : rd_T57 l (i : Int) = x at *
    simp only [filesOk, fileOk]
    by_cases a1 : 1 ≤ x.f0.size ∧ x.f0.size ≤ 8
    · by_cases a2 : x.f1.size ≤ 20000
      · by_cases a3 : 0 ≤ x.f2 ∧ x.f2 ≤ (x.f1.size : Int)
        · rw [decide_eq_true a1, decide_eq_true a2, decide_eq_true a3, Bool.true_and, Bool.true_and, Bool.true_and]
          by_cases hi : 0 < i
          · rw [h1 hi]
            have ei : wrap64 ((i : Int) - 1) = ((i - 1 : Nat) : Int) := by rw [w64 (by omega) (by omega)]; omega
            by_cases hb : bLess (rd_T57 l ((i - 1 : Nat) : Int)).f0 x.f0 = true
            · refine Ev.step (f := fun k => spec_DiskOk.l0 k ((i + 1 : Nat) : Int) l) (fun k => ?_) (ih.eq ?_)
              · simp only [spec_DiskOk.l0]
                rw [if_pos (by omega), if_pos (by omega), hx, spec_l03Name_is, Option.bind_some, if_pos (decide_eq_true a1), if_neg (by omega), spec_l01In_is, Option.bind_some, if_pos (inR_iff.2 a3), if_pos (by omega), ei, if_pos (by omega), if_pos (by omega), if_pos (show Go.Op.bytesLess _ _ = true from hb)]
                rw [w64 (x := (i : Int) + 1) (by omega) (by omega)]; rfl
              · simp only [above]; rw [hb, Bool.true_and]
            · refine Ev.step (f := fun k => some false) (fun k => ?_) ((Ev.now _).eq ?_)
              · simp only [spec_DiskOk.l0]
                rw [if_pos (by omega), if_pos (by omega), hx, spec_l03Name_is, Option.bind_some, if_pos (decide_eq_true a1), if_neg (by omega), spec_l01In_is, Option.bind_some, if_pos (inR_iff.2 a3), if_pos (by omega), ei, if_pos (by omega), if_pos (by omega), if_neg (show ¬ Go.Op.bytesLess _ _ = true from hb)]
              · simp only [above]; rw [Bool.not_eq_true _ |>.mp hb, Bool.false_and]
          · rw [h0 (by omega)]
            refine Ev.step (f := fun k => spec_DiskOk.l0 k ((i + 1 : Nat) : Int) l) (fun k => ?_) (ih.eq ?_)
            · simp only [spec_DiskOk.l0]
              rw [if_pos (by omega), if_pos (by omega), hx, spec_l03Name_is, Option.bind_some, if_pos (decide_eq_true a1), if_neg (by omega), spec_l01In_is, Option.bind_some, if_pos (inR_iff.2 a3), if_neg (by omega)]
              rw [w64 (x := (i : Int) + 1) (by omega) (by omega)]; rfl
            · simp only [above]; rw [Bool.true_and]
        · refine Ev.step (f := fun k => some false) (fun k => ?_) ((Ev.now _).eq ?_)
          · simp only [spec_DiskOk.l0]
            rw [if_pos (by omega), if_pos (by omega), hx, spec_l03Name_is, Option.bind_some, if_pos (decide_eq_true a1), if_neg (by omega), spec_l01In_is, Option.bind_some, if_neg (fun e => a3 (inR_iff.1 e))]
          · rw [decide_eq_false a3]; simp
      · refine Ev.step (f := fun k => some false) (fun k => ?_) ((Ev.now _).eq ?_)
        · simp only [spec_DiskOk.l0]
          rw [if_pos (by omega), if_pos (by omega), hx, spec_l03Name_is, Option.bind_some, if_pos (decide_eq_true a1), if_pos (by omega)]
        · rw [decide_eq_false a2]; simp
    · refine Ev.step (f := fun k => some false) (fun k => ?_) ((Ev.now _).eq ?_)
      · simp only [spec_DiskOk.l0]
        rw [if_pos (by omega), if_pos (by omega), hx, spec_l03Name_is, Option.bind_some, if_neg (by rw [decide_eq_true_eq]; exact a1)]
      · rw [decide_eq_false a1]; simp
theorem spec_DiskOk_ev (l : List IFi) : Ev (fun k => spec_DiskOk.f k l) (diskOk l) := by
  unfold spec_DiskOk.f diskOk
  by_cases h : l.length ≤ 30
  · rw [decide_eq_true h, Bool.true_and]
    exact Ev.neg (by omega) (spec_DiskOk_l0 l h l.length 0 none (by omega) (fun _ => rfl) (fun h => absurd h (by omega)))
  · rw [decide_eq_false h, Bool.false_and]
    exact Ev.pos (by omega) (Ev.now _)
theorem spec_l01Figure_is (x : Int) (h0 : 0 ≤ x) (h1 : x < 16) : spec_l01Figure.f x = some (fig x) := by
  unfold spec_l01Figure.f fig
  by_cases h : x < 10
  · rw [if_pos h, if_pos h, w64 (x := 48 + x) (by omega) (by omega)]; congr 1; omega
  · rw [if_neg h, if_neg h, w64 (x := 97 + x) (by omega) (by omega), w64 (x := 97 + x - 10) (by omega) (by omega)]; congr 1; omega
def decB (u : Nat) : ByteArray := ⟨(Lib.decDigits u).toArray⟩
theorem decB_small {u : Nat} (h : u < 10) : decB u = strOfNums [48 + (u : Int)] := by
  unfold decB; rw [Lib.decDigits_one h]
  apply ByteArray.ext
  simp only [strOfNums, List.map_cons, List.map_nil]
  congr 3
theorem decB_big {u : Nat} (h : ¬ u < 10) : decB u = decB (u / 10) ++ strOfNums [48 + ((u % 10 : Nat) : Int)] := by
  unfold decB; rw [Lib.decDigits, dif_neg h]
  apply ByteArray.ext
  simp only [ByteArray.data_append, strOfNums, List.map_cons, List.map_nil]
  rw [List.append_toArray]
  congr 4
/-- The decimal figures of a number ahead of a text; nothing for 0. -/
def decG (m : Nat) (acc : ByteArray) : ByteArray := if m = 0 then acc else decB m ++ acc
theorem decG_zero (acc : ByteArray) : decG 0 acc = acc := if_pos rfl
theorem decG_step {m : Nat} (h : m ≠ 0) (acc : ByteArray) : decG (m / 10) (strOfNums [48 + ((m % 10 : Nat) : Int)] ++ acc) = decG m acc := by
  unfold decG
  rw [if_neg h]
  by_cases h1 : m < 10
  · rw [if_pos (by omega), decB_small h1, Nat.mod_eq_of_lt h1]
  · rw [if_neg (by omega), decB_big h1, M.append_assoc]
def signB (neg : Bool) (s : ByteArray) : ByteArray := if neg = true then (⟨#[45]⟩ : ByteArray) ++ s else s
def decS (n : Int) : ByteArray := ⟨(Lib.itoa n).toArray⟩
theorem decS_neg {n : Int} (h : n < 0) : decS n = (⟨#[45]⟩ : ByteArray) ++ decB n.natAbs := by
  unfold decS decB Lib.itoa; rw [if_pos h]
  apply ByteArray.ext
  rw [ByteArray.data_append]
  apply Array.toList_inj.1
  rw [Array.toList_append]
  simp
theorem decS_pos {n : Int} (h : ¬ n < 0) : decS n = decB n.natAbs := by
  unfold decS decB Lib.itoa; rw [if_neg h]
  have : n.toNat = n.natAbs := by omega
  rw [this]
theorem decB_size (u : Nat) (d : Nat) (h : u < 10 ^ (d + 1)) : (decB u).size ≤ d + 1 := by
  induction d generalizing u with
  | zero => rw [decB_small (by omega), str_size]; simp
  | succ d ih =>
    by_cases h1 : u < 10
    · rw [decB_small h1, str_size]; simp
    · rw [decB_big h1, size_append, str_size]
      have := ih (u / 10) (by rw [Nat.pow_succ] at h; omega)
      simp only [List.length_cons, List.length_nil]; omega
theorem decS_size (n : Int) (h0 : -9223372036854775808 ≤ n) (h1 : n ≤ 9223372036854775807) : (decS n).size ≤ 21 := by
  have := decB_size n.natAbs 19 (by omega)
  by_cases h : n < 0
  · rw [decS_neg h, size_append]
    have e : (⟨#[45]⟩ : ByteArray).size = 1 := rfl
    omega
  · rw [decS_pos h]; omega
theorem spec_Decimal_l0 (neg : Bool) : ∀ (d : Nat) (x : Int) (acc : ByteArray), x.natAbs < 10 ^ d → x.natAbs ≤ 9223372036854775808 → acc.size + d ≤ 60 →
    Ev (fun k => spec_Decimal.l0 k x neg acc) (signB neg (decG x.natAbs acc))
  | 0, x, acc, h, hb, ha => by
    obtain rfl : x = 0 := by simp at h; omega
    refine Ev.step (f := fun k => some (signB neg acc)) (fun k => ?_) ((Ev.now _).eq (by rfl))
    simp only [spec_Decimal.l0]; rw [if_pos trivial]
    unfold signB
    cases neg
    · rfl
    · rw [if_pos rfl, if_pos (by omega), if_pos rfl]
  | d + 1, x, acc, h, hb, ha => by
    by_cases hx : x = 0
    · subst hx
      refine Ev.step (f := fun k => some (signB neg acc)) (fun k => ?_) ((Ev.now _).eq (by rfl))
      simp only [spec_Decimal.l0]; rw [if_pos trivial]
      unfold signB
      cases neg
      · rfl
      · rw [if_pos rfl, if_pos (by omega), if_pos rfl]
    · have e1 : (Int.tmod x 10).natAbs = x.natAbs % 10 := Int.natAbs_tmod x 10
      have e2 : (Int.tdiv x 10).natAbs = x.natAbs / 10 := Int.natAbs_tdiv x 10
      have hs : (strOfNums [48 + ((x.natAbs % 10 : Nat) : Int)]).size = 1 := by rw [str_size]; rfl
      have hf : fig ((x.natAbs % 10 : Nat) : Int) = 48 + ((x.natAbs % 10 : Nat) : Int) := by unfold fig; rw [if_pos (by omega)]
      have hw : wrap64 (Int.tdiv x 10) = Int.tdiv x 10 := w64 (by omega) (by omega)
      have hp : x.natAbs / 10 < 10 ^ d := by rw [Nat.pow_succ] at h; omega
      have ih := spec_Decimal_l0 neg d (Int.tdiv x 10) (strOfNums [48 + ((x.natAbs % 10 : Nat) : Int)] ++ acc) (by rw [e2]; exact hp) (by omega) (by rw [size_append, hs]; omega)
      rw [e2, decG_step (by omega)] at ih
      refine Ev.step (f := fun k => spec_Decimal.l0 k (Int.tdiv x 10) neg (strOfNums [48 + ((x.natAbs % 10 : Nat) : Int)] ++ acc)) (fun k => ?_) ih
      simp only [spec_Decimal.l0]; rw [if_neg hx]
      by_cases ht : Int.tmod x 10 < 0
      · have e3 : wrap64 (-(Int.tmod x 10)) = ((x.natAbs % 10 : Nat) : Int) := by rw [w64 (by omega) (by omega)]; omega
        rw [if_pos ht, e3, spec_l01Figure_is _ (by omega) (by omega)]
        simp only [Option.bind_some, hf]
        rw [if_pos (by rw [hs]; omega), hw]
      · have e3 : Int.tmod x 10 = ((x.natAbs % 10 : Nat) : Int) := by omega
        rw [if_neg ht, e3, spec_l01Figure_is _ (by omega) (by omega)]
        simp only [Option.bind_some, hf]
        rw [if_pos (by rw [hs]; omega), hw]
theorem spec_Decimal_ev (n : Int) (h0 : -9223372036854775808 ≤ n) (h1 : n ≤ 9223372036854775807) : Ev (fun k => spec_Decimal.f k n) (decS n) := by
  unfold spec_Decimal.f
  by_cases h : n = 0
  · subst h; exact Ev.pos rfl ((Ev.now _).eq (by rw [decS_pos (by decide)]; exact (decB_small (u := 0) (by decide)).symm ▸ rfl))
  · refine Ev.neg h ((spec_Decimal_l0 _ 20 n _ (by omega) (by omega) (by simp [ByteArray.size])).eq ?_)
    have e : decG n.natAbs (⟨#[]⟩ : ByteArray) = decB n.natAbs := by unfold decG; rw [if_neg (by omega), M.append_nil]
    rw [e]; unfold signB
    by_cases hn : n < 0
    · rw [decide_eq_true hn, if_pos rfl, decS_neg hn]
    · rw [decide_eq_false hn, if_neg (by decide), decS_pos hn]
/-- The number that decimal figures spell, behind the number that those before them spell. -/
def dF (acc : Nat) : List Int → Option Nat
  | [] => some acc
  | b :: r => if 48 ≤ b ∧ b ≤ 57 then dF (acc * 10 + (b - 48).toNat) r else none
theorem dF_snoc (b : Int) : ∀ (l : List Int) (acc : Nat), dF acc (l ++ [b]) = (dF acc l).bind fun m => if 48 ≤ b ∧ b ≤ 57 then some (m * 10 + (b - 48).toNat) else none
  | [], acc => by simp [dF]
  | c :: l, acc => by
    simp only [List.cons_append, dF]
    by_cases h : 48 ≤ c ∧ c ≤ 57
    · rw [if_pos h, if_pos h]; exact dF_snoc b l _
    · rw [if_neg h, if_neg h]; rfl
theorem dF_decFrom : ∀ (l : List UInt8) (acc : Nat), dF acc (l.map fun b => (b.toNat : Int)) = Lib.decFrom acc l
  | [], acc => rfl
  | b :: l, acc => by
    simp only [List.map_cons, dF, Lib.decFrom, Lib.digitVal]
    by_cases h : 48 ≤ b.toNat ∧ b.toNat ≤ 57
    · rw [if_pos h, if_pos (by omega)]
      have e : ((b.toNat : Int) - 48).toNat = b.toNat - 48 := by omega
      rw [e]; exact dF_decFrom l _
    · rw [if_neg h, if_neg (by omega)]
theorem dF_lt : ∀ (l : List Int) (acc i : Nat) (m : Nat), acc < 10 ^ i → dF acc l = some m → m < 10 ^ (i + l.length)
  | [], acc, i, m, h, e => by simp only [dF, Option.some.injEq] at e; subst e; simpa using h
  | b :: l, acc, i, m, h, e => by
    simp only [dF] at e
    by_cases hb : 48 ≤ b ∧ b ≤ 57
    · rw [if_pos hb] at e
      have := dF_lt l _ (i + 1) m (by rw [Nat.pow_succ]; omega) e
      simp only [List.length_cons]
      rw [show i + (l.length + 1) = i + 1 + l.length by omega]; exact this
    · rw [if_neg hb] at e; cases e
theorem dF_decB (u : Nat) : dF 0 (bytesOf (decB u)) = some u := by
  induction u using Nat.strongRecOn with
  | _ u ih =>
    by_cases h : u < 10
    · rw [decB_small h, bytes_str (xs := [48 + (u : Int)]) (by intro x hx; simp at hx; omega)]
      simp only [dF]; rw [if_pos (by omega)]; congr 1; omega
    · rw [decB_big h, bytes_append, bytes_str (xs := [48 + ((u % 10 : Nat) : Int)]) (by intro x hx; simp at hx; omega), dF_snoc, ih (u / 10) (by omega)]
      simp only [Option.bind_some]; rw [if_pos (by omega)]; congr 1; omega
theorem decB_pos (u : Nat) : 1 ≤ (decB u).size := by
  by_cases h : u < 10
  · rw [decB_small h, str_size]; simp
  · rw [decB_big h, size_append, str_size]; simp
def rdC (t : ByteArray) : Option Nat → Int × Bool
  | some n => if (n : Int) ≤ 1000000000 ∧ decS n = t then ((n : Int), true) else (0, false)
  | none => (0, false)
/-- The number of a text in decimal figures. -/
def rdDec (t : ByteArray) : Int × Bool := rdC t (dF 0 (bytesOf t))
theorem decS_nat (n : Nat) : decS (n : Int) = decB n := by rw [decS_pos (by omega)]; rfl
theorem rdDec_long {t : ByteArray} (h : 10 < t.size) : rdDec t = (0, false) := by
  unfold rdDec
  cases e : dF 0 (bytesOf t) with
  | none => rfl
  | some n =>
    simp only [rdC]
    refine if_neg (fun hc => ?_)
    have hs : (decB n).size ≤ 9 + 1 := decB_size n 9 (by have := hc.1; omega)
    rw [decS_nat] at hc
    rw [hc.2] at hs; omega
theorem atoiAll_dF {t : ByteArray} {n : Nat} (h : dF 0 (bytesOf t) = some n) (h1 : 1 ≤ t.size) (h2 : t.size ≤ 18) : Lib.atoiAll t.data.toList = .ok (n : Int) := by
  have hl : t.data.toList.length = t.size := by rw [Array.length_toList]; rfl
  rw [Lib.atoiAll_short _ (by omega)]
  have hd : Lib.decFrom 0 t.data.toList = some n := by rw [← dF_decFrom]; exact h
  cases e : t.data.toList with
  | nil => rw [e] at hl; simp at hl; omega
  | cons b r =>
    rw [e] at hd
    have hb : 48 ≤ b.toNat ∧ b.toNat ≤ 57 := by
      simp only [Lib.decFrom, Lib.digitVal] at hd
      by_cases hb : 48 ≤ b.toNat ∧ b.toNat ≤ 57
      · exact hb
      · rw [if_neg hb] at hd; cases hd
    have n45 : ¬ b = 45 := fun e => by rw [e] at hb; exact absurd hb (by decide)
    have n43 : ¬ b = 43 := fun e => by rw [e] at hb; exact absurd hb (by decide)
    simp only [Lib.atoi, beq_iff_eq, n45, n43, if_false, Lib.decNat, List.isEmpty_cons, hd]
    rfl
theorem spec_ReadDecimal_l0 (t : ByteArray) (ht : t.size ≤ 10) : ∀ (d i n : Nat), i + d = t.size → n < 10 ^ i →
    Ev (fun k => spec_ReadDecimal.l0 k t (n : Int) (i : Int)) (rdC t (dF n ((bytesOf t).drop i)))
  | 0, i, n, h, hn => by
    have hp : 10 ^ i ≤ 10 ^ 10 := Nat.pow_le_pow_right (by decide) (by omega)
    have e10 : (10 : Nat) ^ 10 = 10000000000 := by decide
    rw [List.drop_of_length_le (by rw [bytesOf_length]; omega)]
    simp only [dF, rdC]
    refine Ev.step (f := fun k => if (n : Int) > 1000000000 then some (0, false) else (spec_Decimal.f k n).bind fun t109 => if t109.toList = t.toList then some ((n : Int), true) else some (0, false)) (fun k => ?_) ?_
    · simp only [spec_ReadDecimal.l0]; rw [if_neg (by omega)]
    · by_cases hb : (n : Int) > 1000000000
      · exact (Ev.pos hb (Ev.now _)).eq (if_neg (fun hc => by omega)).symm
      · refine Ev.neg hb (Ev.bind (spec_Decimal_ev n (by omega) (by omega)) ?_)
        by_cases he : decS (n : Int) = t
        · exact (Ev.pos ((toList_iff _ _).2 he) (Ev.now _)).eq (if_pos ⟨by omega, he⟩).symm
        · exact (Ev.neg (fun hc => he ((toList_iff _ _).1 hc)) (Ev.now _)).eq (if_neg (fun hc => he hc.2)).symm
  | d + 1, i, n, h, hn => by
    have hp : 10 ^ i ≤ 10 ^ 10 := Nat.pow_le_pow_right (by decide) (by omega)
    have e10 : (10 : Nat) ^ 10 = 10000000000 := by decide
    have hr := bytes_range t (bt t i) (by rw [← bytes_get t i (by rw [bytesOf_length]; omega)]; exact List.getElem_mem _)
    rw [bytes_drop (by omega : i < t.size)]
    simp only [dF]
    by_cases hb : 48 ≤ bt t i ∧ bt t i ≤ 57
    · rw [if_pos hb]
      refine Ev.step (f := fun k => spec_ReadDecimal.l0 k t ((n * 10 + (bt t i - 48).toNat : Nat) : Int) ((i + 1 : Nat) : Int)) (fun k => ?_) (spec_ReadDecimal_l0 t ht d (i + 1) _ (by omega) (by rw [Nat.pow_succ]; omega))
      simp only [spec_ReadDecimal.l0]
      rw [if_pos (by omega), if_pos (by omega), if_neg (by omega), if_neg (by omega)]
      have w1 : wrap64 (10 * (n : Int)) = 10 * n := w64 (by omega) (by omega)
      have w2 : wrap64 (bt t i) = bt t i := w64 (by omega) (by omega)
      rw [w1, w2, w64 (x := 10 * (n : Int) + bt t i) (by omega) (by omega), w64 (x := 10 * (n : Int) + bt t i - 48) (by omega) (by omega), w64 (x := (i : Int) + 1) (by omega) (by omega)]
      congr 1
      omega
    · rw [if_neg hb]
      refine Ev.step (f := fun k => some (0, false)) (fun k => ?_) (Ev.now _)
      simp only [spec_ReadDecimal.l0]
      rw [if_pos (by omega), if_pos (by omega)]
      by_cases h0 : bt t i < 48
      · rw [if_pos h0]
      · rw [if_neg h0, if_pos (by omega)]
theorem spec_ReadDecimal_ev (t : ByteArray) : Ev (fun k => spec_ReadDecimal.f k t) (rdDec t) := by
  unfold spec_ReadDecimal.f
  by_cases h : (t.size : Int) > 10
  · rw [rdDec_long (by omega)]; exact Ev.pos h (Ev.now _)
  · refine Ev.neg h ?_
    have := spec_ReadDecimal_l0 t (by omega) t.size 0 0 (by omega) (by decide)
    exact this
theorem spec_SnapName_ev (n : Int) : Ev (fun k => spec_SnapName.f k n) (if inR n 0 1000000 = true then (⟨#[115]⟩ : ByteArray) ++ decS n else ⟨#[]⟩) := by
  unfold spec_SnapName.f
  refine Ev.bind0 (spec_l01In_is _ _ _) ?_
  by_cases h : inR n 0 1000000 = true
  · have hr := inR_iff.1 h
    rw [if_pos h]
    refine Ev.pos h (Ev.bind (spec_Decimal_ev n (by omega) (by omega)) (Ev.pos ?_ (Ev.now _)))
    have := decS_size n (by omega) (by omega); omega
  · rw [if_neg h]; exact Ev.neg h (Ev.now _)
/-- The number of a name of one letter (p) and figures; -1 of any other one. -/
def numIx (p : Int) (most : Int) (s : ByteArray) : Int :=
  match bytesOf s with
  | [] => -1
  | b :: _ => if b = p ∧ (rdDec (s.extract 1 s.size)).2 = true ∧ (rdDec (s.extract 1 s.size)).1 ≤ most then (rdDec (s.extract 1 s.size)).1 else -1
theorem rdDec_ok {t : ByteArray} (h : (rdDec t).2 = true) : ∃ n : Nat, (rdDec t).1 = (n : Int) ∧ (n : Int) ≤ 1000000000 ∧ decS (n : Int) = t := by
  unfold rdDec at *
  cases e : dF 0 (bytesOf t) with
  | none => rw [e] at h; simp [rdC] at h
  | some n =>
    rw [e] at h
    unfold rdC at *
    by_cases hc : (n : Int) ≤ 1000000000 ∧ decS (n : Int) = t
    · refine ⟨n, ?_, hc.1, hc.2⟩
      simp only; rw [if_pos hc]
    · simp only at h; rw [if_neg hc] at h; simp at h
theorem rdDec_nil : rdDec (⟨#[]⟩ : ByteArray) = (0, false) := by
  have : ¬ (rdDec (⟨#[]⟩ : ByteArray)).2 = true := fun h => by
    obtain ⟨n, _, _, h3⟩ := rdDec_ok h
    rw [decS_nat] at h3
    have := decB_pos n
    rw [h3] at this
    exact absurd this (by decide)
  unfold rdDec at *
  cases e : dF 0 (bytesOf (⟨#[]⟩ : ByteArray)) with
  | none => rfl
  | some n =>
    rw [e] at this
    unfold rdC at *
    by_cases hc : (n : Int) ≤ 1000000000 ∧ decS (n : Int) = (⟨#[]⟩ : ByteArray)
    · simp only at this; rw [if_pos hc] at this; exact absurd rfl this
    · simp only; rw [if_neg hc]
theorem decS_inj {m n : Nat} (h : decS (m : Int) = decS (n : Int)) : m = n := by
  rw [decS_nat, decS_nat] at h
  have h1 := dF_decB m
  rw [h, dF_decB n] at h1
  exact (Option.some.inj h1).symm
theorem head_cut {s : ByteArray} {b : Int} {l : List Int} (h : bytesOf s = b :: l) : s = strOfNums [b] ++ s.extract 1 s.size := by
  have hb := bytes_range s b (by rw [h]; simp)
  apply bytes_inj
  rw [bytes_append, bytes_str (by intro x hx; rw [List.mem_singleton.1 hx]; exact hb), bytes_extract, h]
  have hz : l.length + 1 = s.size := by rw [← bytesOf_length, h]; rfl
  simp only [List.drop_succ_cons, List.drop_zero, List.singleton_append]
  rw [List.take_of_length_le (by omega)]
theorem numIx_name {p most : Int} {s : ByteArray} (h : 0 ≤ numIx p most s) : ∃ n : Nat, numIx p most s = (n : Int) ∧ (n : Int) ≤ most ∧ s = strOfNums [p] ++ decS (n : Int) := by
  unfold numIx at *
  cases e : bytesOf s with
  | nil => rw [e] at h; simp at h
  | cons b l =>
    rw [e] at h
    simp only at *
    by_cases hc : b = p ∧ (rdDec (s.extract 1 s.size)).2 = true ∧ (rdDec (s.extract 1 s.size)).1 ≤ most
    · rw [if_pos hc]
      obtain ⟨n, h1, h2, h3⟩ := rdDec_ok hc.2.1
      have h4 := head_cut e
      rw [← h3, hc.1] at h4
      exact ⟨n, h1, by have := hc.2.2; omega, h4⟩
    · rw [if_neg hc] at h; omega
theorem spec_l08Index_ev (s : ByteArray) : Ev (fun k => spec_l08Index.f k s) (numIx 115 1000000 s) := by
  unfold spec_l08Index.f
  by_cases h : s.size < 2
  · refine Ev.pos (by omega) ((Ev.now _).eq ?_)
    unfold numIx
    cases e : bytesOf s with
    | nil => rfl
    | cons b l =>
      have hz : l.length + 1 = s.size := by rw [← bytesOf_length, e]; rfl
      have : s.extract 1 s.size = ⟨#[]⟩ := bytes_inj (by rw [bytes_extract, e]; simp [show l = [] from List.eq_nil_of_length_eq_zero (by omega), bytes_nil])
      simp only
      rw [this, rdDec_nil, if_neg (by simp)]
  · refine Ev.neg (by omega) (Ev.pos (by omega) (Ev.bind (spec_ReadDecimal_ev _) ?_))
    unfold numIx
    cases e : bytesOf s with
    | nil => exact absurd (bytesOf_length s) (by rw [e]; simp; omega)
    | cons b l =>
      simp only
      by_cases h2 : (rdDec (s.extract 1 s.size)).2 = true
      · obtain ⟨n, h3, h4, h5⟩ := rdDec_ok h2
        refine Ev.pos h2 (Ev.bind (spec_SnapName_ev _) ?_)
        rw [h3]
        have hc := head_cut e
        by_cases h6 : (n : Int) ≤ 1000000
        · rw [if_pos (show inR (n : Int) 0 1000000 = true from inR_iff.2 (by omega)), h5]
          by_cases h7 : b = 115
          · refine (Ev.pos ?_ (Ev.now _)).eq (if_pos ⟨h7, h2, h6⟩).symm
            rw [h7] at hc
            exact congrArg ByteArray.toList hc.symm
          · refine (Ev.neg (fun h8 => ?_) (Ev.now _)).eq (if_neg (fun e => h7 e.1)).symm
            have h9 := congrArg bytesOf ((toList_iff _ _).1 h8)
            rw [e, bytes_append] at h9
            exact h7 (List.cons.inj h9).1.symm
        · rw [if_neg (show ¬ inR (n : Int) 0 1000000 = true from fun e => by have := inR_iff.1 e; omega)]
          refine (Ev.neg (fun h8 => ?_) (Ev.now _)).eq (if_neg (fun e => h6 e.2.2)).symm
          have h9 := congrArg bytesOf ((toList_iff _ _).1 h8)
          rw [e] at h9
          exact absurd h9 (by simp [bytes_nil])
      · exact (Ev.neg h2 (Ev.now _)).eq (if_neg (fun e => h2 e.2.1)).symm
theorem spec_l02Four_is (x : Int) : spec_l02Four.f x = some (four x) := rfl
theorem spec_SumMore_l1 {s : ByteArray} {i r : Int} : ∀ (d : Nat) (j x0 : Int), 0 ≤ j → j + d = 8 → Ev (fun k => spec_SumMore.l0 k (halves d x0) s (wrap64 (i + 1))) r → Ev (fun k => spec_SumMore.l1 k x0 s i j) r
  | 0, j, x0, h0, h, hk => by
    refine Ev.step (f := fun k => spec_SumMore.l0 k x0 s (wrap64 (i + 1))) (fun k => ?_) hk
    simp only [spec_SumMore.l1]; rw [if_neg (by omega)]
  | d + 1, j, x0, h0, h, hk => by
    refine Ev.step (f := fun k => spec_SumMore.l1 k (half x0) s i (j + 1)) (fun k => ?_) (spec_SumMore_l1 d (j + 1) (half x0) (by omega) (by omega) hk)
    simp only [spec_SumMore.l1]; rw [if_pos (by omega), w64 (x := j + 1) (by omega) (by omega)]
    unfold half
    split <;> rfl
theorem spec_SumMore_l0 (s : ByteArray) (hs : s.size ≤ 140737488351232) : ∀ (d i : Nat) (x0 : Int), i + d = s.size → Ev (fun k => spec_SumMore.l0 k x0 s i) (sumL x0 ((bytesOf s).drop i))
  | 0, i, x0, h => by
    refine Ev.step (f := fun k => some x0) (fun k => ?_) ((Ev.now _).eq ?_)
    · simp only [spec_SumMore.l0]; rw [if_neg (by omega)]
    · rw [List.drop_of_length_le (by rw [bytesOf_length]; omega)]; rfl
  | d + 1, i, x0, h => by
    refine Ev.step (f := fun k => spec_SumMore.l1 k (Go.bits .xor .u32 x0 (bt s i % 4294967296)) s i 0) (fun k => ?_) (spec_SumMore_l1 8 0 _ (by omega) (by omega) ?_)
    · simp only [spec_SumMore.l0]; rw [if_pos (by omega), if_pos (by omega)]
    · rw [w64 (x := (i : Int) + 1) (by omega) (by omega)]
      have := spec_SumMore_l0 s hs d (i + 1) (halves 8 (Go.bits .xor .u32 x0 (bt s i % 4294967296))) (by omega)
      rw [bytes_drop (by omega)]
      exact this
theorem spec_SumMore_ev (x : Int) (s : ByteArray) (hs : s.size ≤ 140737488351232) : Ev (fun k => spec_SumMore.f k x s) (sumL x (bytesOf s)) := by
  have := spec_SumMore_l0 s hs s.size 0 x (by omega)
  exact this
theorem spec_SumOf_ev (s : ByteArray) (hs : s.size ≤ 140737488351232) : Ev (fun k => spec_SumOf.f k s) (sumOf s) := by
  unfold spec_SumOf.f
  exact Ev.bind (spec_SumMore_ev _ s hs) (Ev.now _)
theorem spec_Unsealed_ev (s : ByteArray) (hs : s.size ≤ 140737488351232) : Ev (fun k => spec_Unsealed.f k s) (unsealed s) := by
  unfold spec_Unsealed.f
  rw [w64 (x := (s.size : Int) - 4) (by omega) (by omega)]
  by_cases h1 : 4 ≤ s.size
  · refine Ev.neg (by omega) ?_
    by_cases h2 : s.size ≤ 20004
    · refine Ev.neg (by omega) (Ev.pos (by omega) (Ev.pos (by omega) ?_))
      have e : ((s.size : Int) - 4).toNat = s.size - 4 := by omega
      rw [e]
      have hz := size_extract s 0 (s.size - 4) (by omega) (by omega)
      refine Ev.bind (spec_SumOf_ev _ (by omega)) (Ev.bind0 (spec_l02Four_is _) (Ev.is ?_))
      unfold unsealed
      by_cases h3 : s.extract (s.size - 4) s.size = four (sumOf (s.extract 0 (s.size - 4)))
      · rw [if_pos ((toList_iff _ _).2 h3), if_pos ⟨h1, h2, h3⟩]
      · rw [if_neg (fun e => h3 ((toList_iff _ _).1 e)), if_neg (fun e => h3 e.2.2)]
    · refine Ev.pos (by omega) (Ev.is ?_)
      rw [unsealed, if_neg (by omega)]
  · refine Ev.pos (by omega) (Ev.is ?_)
    rw [unsealed, if_neg (by omega)]
theorem spec_l01Var_l0 : ∀ (n : Nat) (acc : List Int), acc.length + n < 140737488355328 → Ev (fun k => spec_l01Var.l0 k (n : Int) acc) (strOfNums (acc ++ varL n)) := by
  intro n
  induction n using Nat.strongRecOn with
  | _ n ih =>
    intro acc ha
    by_cases h : 127 < n
    · refine Ev.step (f := fun k => spec_l01Var.l0 k ((n / 128 : Nat) : Int) (acc ++ [((n % 128 + 128 : Nat) : Int)])) (fun k => ?_) ?_
      · simp only [spec_l01Var.l0]
        rw [if_pos (by omega), if_pos (by omega), td (by omega), tm (by omega)]
        rw [w64 (x := (n : Int) / 128) (by omega) (by omega), w64 (x := (n : Int) % 128 + 128) (by omega) (by omega)]
        congr 3
        omega
      · refine (ih (n / 128) (by omega) _ (by simp; omega)).eq ?_
        rw [varL_big h, List.append_assoc]; rfl
    · refine Ev.step (f := fun k => some (strOfNums (acc ++ varL n))) (fun k => ?_) (Ev.now _)
      simp only [spec_l01Var.l0]
      rw [if_neg (by omega), if_pos (by omega), varL_small h]
      congr 4
      omega
theorem spec_l01Var_ev (n : Nat) (h : n < 140737488355328) : Ev (fun k => spec_l01Var.f k (n : Int)) (vt n) := by
  have := spec_l01Var_l0 n [] (by simpa using h)
  exact this
theorem spec_l01Var_evi (n : Int) (h0 : 0 ≤ n) (h : n < 140737488355328) : Ev (fun k => spec_l01Var.f k n) (vt n.toNat) := by
  have := spec_l01Var_ev n.toNat (by omega)
  rwa [Int.toNat_of_nonneg h0] at this
theorem spec_ReadVar_l0 (s : ByteArray) (hs : s.size ≤ 140737488351232) (a : Nat) : ∀ (f i n : Nat), i + f = 5 → Led s a i n →
    Ev (fun k => spec_ReadVar.l0 k s (a : Int) (n : Int) ((128 ^ i : Nat) : Int) ((a + i : Nat) : Int))
      (match rvL f i n ((bytesOf s).drop (a + i)) with | some (n, m) => ((n : Int), (a : Int) + m, true) | none => (0, 0, false))
  | 0, i, n, hi, hl => by
    have h1 := hl.1
    refine Ev.step (f := fun k => spec_ReadVar.j1 k s (a : Int) (n : Int) ((128 ^ i : Nat) : Int) ((a + i : Nat) : Int) false) (fun k => ?_) ?_
    · simp only [spec_ReadVar.l0]
      rw [w64 (x := (a : Int) + 5) (by omega) (by omega)]
      split
      · rw [show decide (((a + i : Nat) : Int) < (a : Int) + 5) = false from by simp; omega]
      · rfl
    · refine Ev.step (f := fun _ => some (0, 0, false)) (fun k => ?_) (Ev.now _)
      simp only [spec_ReadVar.j1]; rfl
  | f + 1, i, n, hi, hl => by
    have h1 := hl.1
    by_cases hlt : a + i < s.size
    · have hr := bt_range s ((a + i : Nat) : Int)
      have hp := pow_bound (i := i) (by omega)
      have hm := mul_bound (bt s ((a + i : Nat) : Int)).toNat (128 ^ i) hp.1
      have hn := hl.lt
      rw [bytes_drop hlt]
      refine Ev.step (f := fun k => spec_ReadVar.j1 k s (a : Int) (n : Int) ((128 ^ i : Nat) : Int) ((a + i : Nat) : Int) true) (fun k => ?_) ?_
      · simp only [spec_ReadVar.l0]
        rw [w64 (x := (a : Int) + 5) (by omega) (by omega), if_pos (by omega)]
        rw [show decide (((a + i : Nat) : Int) < (a : Int) + 5) = true from by simp; omega]
      have hb : wrap64 (bt s ((a + i : Nat) : Int)) = bt s ((a + i : Nat) : Int) := w64 (by omega) (by omega)
      have e1 : Int.tmod (bt s ((a + i : Nat) : Int)) 128 * ((128 ^ i : Nat) : Int) = (((bt s ((a + i : Nat) : Int)).toNat % 128 * 128 ^ i : Nat) : Int) := by
        rw [tm (by omega), Int.natCast_mul]; congr 1; omega
      generalize hc : (bt s ((a + i : Nat) : Int)).toNat % 128 * 128 ^ i = q at *
      have e2 : wrap64 ((n : Int) + wrap64 (Int.tmod (wrap64 (bt s ((a + i : Nat) : Int))) 128 * ((128 ^ i : Nat) : Int))) = ((n + q : Nat) : Int) := by
        rw [hb, e1, w64 (x := (q : Int)) (by omega) (by omega), w64 (by omega) (by omega)]; omega
      by_cases hb : bt s ((a + i : Nat) : Int) < 128
      · have hsame := hl.same hlt hb
        rw [hc] at hsame
        simp only [rvL, if_pos hb, hc]
        by_cases hM : n + q ≤ 1000000000
        · refine Ev.step (f := fun k => (spec_l01Var.f k ((n + q : Nat) : Int)).bind fun t => (if t.toList = (s.extract a (a + i + 1)).toList then some (((n + q : Nat) : Int), ((a + i + 1 : Nat) : Int), true) else some (0, 0, false))) (fun k => ?_) ?_
          · simp only [spec_ReadVar.j1, if_true]
            rw [if_pos (by omega), if_pos (by omega), if_pos hb, e2, if_neg (by omega)]
            rw [w64 (x := ((a + i : Nat) : Int) + 1) (by omega) (by omega)]
            simp only [if_pos (show (0 : Int) ≤ (a : Int) from by omega), if_pos (show (a : Int) ≤ ((a + i : Nat) : Int) + 1 from by omega), if_pos (show ((a + i : Nat) : Int) + 1 ≤ (s.size : Int) from by omega)]
            rw [show ((a : Int)).toNat = a from by omega, show (((a + i : Nat) : Int) + 1).toNat = a + i + 1 from by omega, show ((a + i : Nat) : Int) + 1 = ((a + i + 1 : Nat) : Int) from by omega]
          · refine Ev.bind (spec_l01Var_ev (n + q) (by omega)) (Ev.is ?_)
            by_cases hq : (varL (n + q)).length = i + 1
            · rw [if_pos (hsame.2 hq), if_pos ⟨hM, hq⟩]
              simp only [Option.some.injEq, Prod.mk.injEq, and_true, true_and]; omega
            · rw [if_neg (fun e => hq (hsame.1 e)), if_neg (fun e => hq e.2)]
        · refine Ev.step (f := fun k => some (0, 0, false)) (fun k => ?_) ((Ev.now _).eq ?_)
          · simp only [spec_ReadVar.j1, if_true]
            rw [if_pos (by omega), if_pos (by omega), if_pos hb, e2, if_pos (by omega)]
          · rw [if_neg (fun e => hM e.1)]
      · simp only [rvL, if_neg hb, hc]
        have hnext := hl.next hlt (by omega)
        rw [hc] at hnext
        have e3 : wrap64 (((128 ^ i : Nat) : Int) * 128) = ((128 ^ (i + 1) : Nat) : Int) := by
          rw [w64 (by omega) (by omega), Nat.pow_succ, Int.natCast_mul]; rfl
        refine Ev.step (f := fun k => spec_ReadVar.l0 k s (a : Int) ((n + q : Nat) : Int) ((128 ^ (i + 1) : Nat) : Int) ((a + (i + 1) : Nat) : Int)) (fun k => ?_) (spec_ReadVar_l0 s hs a f (i + 1) (n + q) (by omega) hnext)
        simp only [spec_ReadVar.j1, if_true]
        rw [if_pos (by omega), if_pos (by omega), if_neg hb, e2, e3]
        rw [w64 (x := ((a + i : Nat) : Int) + 1) (by omega) (by omega), show ((a + i : Nat) : Int) + 1 = ((a + (i + 1) : Nat) : Int) from by omega]
    · rw [List.drop_of_length_le (by rw [bytesOf_length]; omega)]
      refine Ev.step (f := fun k => spec_ReadVar.j1 k s (a : Int) (n : Int) ((128 ^ i : Nat) : Int) ((a + i : Nat) : Int) false) (fun k => ?_) ?_
      · simp only [spec_ReadVar.l0]
        rw [if_neg (by omega)]
      · refine Ev.step (f := fun _ => some (0, 0, false)) (fun k => ?_) (Ev.now _)
        simp only [spec_ReadVar.j1]; rfl
theorem spec_ReadVar_ev (s : ByteArray) (hs : s.size ≤ 140737488351232) (a : Int) : Ev (fun k => spec_ReadVar.f k s a) (readVar s a) := by
  unfold spec_ReadVar.f readVar
  refine Ev.bind0 (spec_l01In_is _ _ _) ?_
  by_cases h : 0 ≤ a ∧ a ≤ (s.size : Int)
  · rw [if_pos h]
    refine Ev.pos (inR_iff.2 h) ?_
    have := spec_ReadVar_l0 s hs a.toNat 5 0 0 rfl (Led.start s a.toNat (by omega))
    simp only [Nat.add_zero, Int.toNat_of_nonneg h.1] at this
    exact this
  · rw [if_neg h]
    exact Ev.neg (fun e => h (inR_iff.1 e)) (Ev.now _)
def varC (s : ByteArray) (a : Int) (b : Bool) : Int × ByteArray × Int × Bool :=
  if b = true then (0, s, a, true) else if (readVar s a).2.2 = true then ((readVar s a).1, s, (readVar s a).2.1, b) else (0, s, a, true)
theorem varC_bad (s : ByteArray) (a : Int) : varC s a true = (0, s, a, true) := by simp [varC]
theorem readVar_nat {s : ByteArray} {a : Nat} (h : a ≤ s.size) : readVar s (a : Int) = (match rvar ((bytesOf s).drop a) with | some (n, m) => ((n : Int), (a : Int) + m, true) | none => (0, 0, false)) := by
  rw [readVar, if_pos ⟨by omega, by omega⟩, Int.toNat_natCast]; cases rvar ((bytesOf s).drop a) <;> rfl
theorem varC_none {s : ByteArray} {a : Nat} (h : a ≤ s.size) (e : rvar ((bytesOf s).drop a) = none) : varC s (a : Int) false = (0, s, (a : Int), true) := by
  rw [varC, if_neg (by simp), readVar_nat h, e]; rfl
theorem varC_some {s : ByteArray} {a n m : Nat} (h : a ≤ s.size) (e : rvar ((bytesOf s).drop a) = some (n, m)) : varC s (a : Int) false = ((n : Int), s, ((a + m : Nat) : Int), false) := by
  rw [varC, if_neg (by simp), readVar_nat h, e]; simp
theorem rvar_nil {s : ByteArray} {a : Nat} (h : s.size ≤ a) : rvar ((bytesOf s).drop a) = none := by
  rw [List.drop_of_length_le (by rw [bytesOf_length]; exact h)]; rfl
theorem extract_one {s : ByteArray} {a : Nat} (h : a < s.size) : s.extract a (a + 1) = strOfNums [bt s (a : Int)] := bytes_inj (by
  have hr := bt_range s (a : Int)
  rw [bytes_extract, bytes_str (by simp; omega), bytes_drop h]
  simp)
theorem bt_one {s : ByteArray} {a : Nat} (h : a < s.size) : bt (s.extract a (a + 1)) 0 = bt s (a : Int) := by
  have hr := bt_range s (a : Int)
  have hz : 0 < (bytesOf (s.extract a (a + 1))).length := by rw [bytesOf_length, size_extract s a (a + 1) (by omega) (by omega)]; omega
  have := bytes_get (s.extract a (a + 1)) 0 hz
  rw [show ((0 : Nat) : Int) = 0 from rfl] at this
  rw [← this]
  simp only [extract_one h]
  simp only [bytes_str (xs := [bt s (a : Int)]) (by simp; omega), List.getElem_cons_zero]
theorem spec_l05Var_ev (s : ByteArray) (hs : s.size ≤ 140737488351232) (a : Int) (b : Bool) : Ev (fun k => spec_l05Var.f k s a b) (varC s a b) := by
  unfold spec_l05Var.f varC
  refine Ev.bind (spec_ReadVar_ev s hs a) (Ev.is ?_)
  split <;> (try split) <;> simp_all
theorem spec_l05Rise_l0 (l : List Int) (hl : l.length ≤ 35184372088832) : ∀ (d i : Nat) (p : Int), i + d = l.length → (i = 0 → p = 0) → (0 < i → p = rd l ((i - 1 : Nat) : Int)) →
    Ev (fun k => spec_l05Rise.l0 k l 1 4 (i : Int)) (riseF p (l.drop i))
  | 0, i, p, h, h0, h1 => by
    refine Ev.step (f := fun k => some true) (fun k => ?_) ((Ev.now _).eq ?_)
    · simp only [spec_l05Rise.l0]; rw [if_neg (by omega)]
    · rw [List.drop_of_length_le (by omega)]; rfl
  | d + 1, i, p, h, h0, h1 => by
    rw [rd_drop (l := l) (by omega)]
    have ih := spec_l05Rise_l0 l hl d (i + 1) (rd l (i : Int)) (by omega) (by omega) (fun _ => by simp)
    by_cases hin : 1 ≤ rd l (i : Int) ∧ rd l (i : Int) ≤ 4
    · by_cases hi : 0 < i
      · have hp := h1 hi
        have ei : wrap64 ((i : Int) - 1) = ((i - 1 : Nat) : Int) := by rw [w64 (by omega) (by omega)]; omega
        by_cases hlt : p < rd l (i : Int)
        · refine Ev.step (f := fun k => spec_l05Rise.l0 k l 1 4 ((i + 1 : Nat) : Int)) (fun k => ?_) (ih.eq ?_)
          · simp only [spec_l05Rise.l0]
            rw [if_pos (by omega), if_pos (by omega), spec_l01In_is, Option.bind_some, if_pos (inR_iff.2 hin), if_pos (by omega), ei, if_pos (by omega), if_pos (by omega), if_neg (by omega)]
            rw [w64 (x := (i : Int) + 1) (by omega) (by omega)]; rfl
          · simp only [riseF]; rw [decide_eq_true ⟨hin.1, hin.2, hlt⟩, Bool.true_and]
        · refine Ev.step (f := fun k => some false) (fun k => ?_) ((Ev.now _).eq ?_)
          · simp only [spec_l05Rise.l0]
            rw [if_pos (by omega), if_pos (by omega), spec_l01In_is, Option.bind_some, if_pos (inR_iff.2 hin), if_pos (by omega), ei, if_pos (by omega), if_pos (by omega), if_pos (by omega)]
          · simp only [riseF]; rw [decide_eq_false (fun e => hlt e.2.2), Bool.false_and]
      · have hp := h0 (by omega)
        refine Ev.step (f := fun k => spec_l05Rise.l0 k l 1 4 ((i + 1 : Nat) : Int)) (fun k => ?_) (ih.eq ?_)
        · simp only [spec_l05Rise.l0]
          rw [if_pos (by omega), if_pos (by omega), spec_l01In_is, Option.bind_some, if_pos (inR_iff.2 hin), if_neg (by omega)]
          rw [w64 (x := (i : Int) + 1) (by omega) (by omega)]; rfl
        · simp only [riseF]; rw [decide_eq_true ⟨hin.1, hin.2, by omega⟩, Bool.true_and]
    · refine Ev.step (f := fun k => some false) (fun k => ?_) ((Ev.now _).eq ?_)
      · simp only [spec_l05Rise.l0]
        rw [if_pos (by omega), if_pos (by omega), spec_l01In_is, Option.bind_some, if_neg (fun e => hin (inR_iff.1 e))]
      · simp only [riseF]; rw [decide_eq_false (fun e => hin ⟨e.1, e.2.1⟩), Bool.false_and]
theorem spec_l05Rise_ev (l : List Int) (hl : l.length ≤ 35184372088832) : Ev (fun k => spec_l05Rise.f k l 1 4) (riseF 0 l) := by
  have := spec_l05Rise_l0 l hl l.length 0 0 (by omega) (fun _ => rfl) (fun h => absurd h (by omega))
  exact this
theorem spec_ConfOk_ev (l : List Int) (hl : l.length ≤ 35184372088832) : Ev (fun k => spec_ConfOk.f k l) (confOk l) := by
  unfold spec_ConfOk.f confOk
  refine Ev.bind0 (spec_l01In_is _ _ _) ?_
  by_cases h : 1 ≤ l.length ∧ l.length ≤ 4
  · rw [decide_eq_true h, Bool.true_and]
    exact Ev.pos (inR_iff.2 (by omega)) (Ev.bind (spec_l05Rise_ev l hl) (Ev.now _))
  · rw [decide_eq_false h, Bool.false_and]
    exact Ev.neg (fun e => h (by have := inR_iff.1 e; omega)) (Ev.now _)
theorem spec_ReadConf_end (s : ByteArray) (acc : List Int) (n : Nat) (hn : n ≤ 5) (hs : s.size ≤ 140737488351232) (ha : acc = (bytesOf s).take n) (hx : n = s.size ∨ n = 5) :
    Ev (fun k => if (acc.length : Int) = (s.size : Int) then ((spec_ConfOk.f k acc).bind fun t => if t = true then some (acc, true) else some ([], false)) else some ([], false)) (readConf s) := by
  have hl : acc.length = min n s.size := by rw [ha, List.length_take, bytesOf_length]
  by_cases e : acc.length = s.size
  · have : acc = bytesOf s := by rw [ha]; exact List.take_of_length_le (by rw [bytesOf_length]; omega)
    subst this
    refine Ev.pos (by omega) (Ev.bind (spec_ConfOk_ev _ (by omega)) (Ev.is ?_))
    unfold readConf
    by_cases h : confOk (bytesOf s) = true
    · rw [if_pos h, if_pos h]
    · rw [if_neg h, if_neg h]
  · refine Ev.neg (by omega) (Ev.is ?_)
    unfold readConf
    rw [if_neg]
    intro h
    have := confOk_len h
    rw [bytesOf_length] at this
    omega
theorem spec_ReadConf_l0 (s : ByteArray) (hs : s.size ≤ 140737488351232) : ∀ (d i : Nat), i + d = 5 → i ≤ s.size →
    Ev (fun k => spec_ReadConf.l0 k s ((bytesOf s).take i) (i : Int)) (readConf s)
  | d, i, h, hi => by
    have hl : ((bytesOf s).take i).length = i := by rw [List.length_take, bytesOf_length]; omega
    by_cases hlt : i < s.size
    · cases d with
      | zero =>
        refine Ev.step (fun k => ?_) (spec_ReadConf_end s ((bytesOf s).take i) i (by omega) hs rfl (by omega))
        simp only [spec_ReadConf.l0]
        rw [if_pos (by omega), if_neg (by omega)]
      | succ d =>
        have hr := bt_range s (i : Int)
        refine Ev.step (f := fun k => spec_ReadConf.l0 k s ((bytesOf s).take (i + 1)) ((i + 1 : Nat) : Int)) (fun k => ?_) (spec_ReadConf_l0 s hs d (i + 1) (by omega) (by omega))
        simp only [spec_ReadConf.l0]
        rw [if_pos (by omega), if_pos (by omega), if_pos (by omega), if_pos (by omega), w64 (x := (i : Int) + 1) (by omega) (by omega), w64 (x := bt s i) (by omega) (by omega)]
        have e := Led.take_succ (s := s) (a := 0) (i := i) (by omega)
        rw [List.drop_zero, Nat.zero_add] at e
        rw [e]; rfl
    · refine Ev.step (fun k => ?_) (spec_ReadConf_end s ((bytesOf s).take i) i (by omega) hs rfl (by omega))
      simp only [spec_ReadConf.l0]
      rw [if_neg (by omega)]
theorem spec_ReadConf_ev (s : ByteArray) (hs : s.size ≤ 140737488351232) : Ev (fun k => spec_ReadConf.f k s) (readConf s) := by
  have := spec_ReadConf_l0 s hs 5 0 (by omega) (by omega)
  rw [List.take_zero] at this
  exact this
theorem spec_l05Take_bad (s : ByteArray) (a n : Int) : spec_l05Take.f s a true n = some (⟨#[]⟩, s, a, true) := by
  unfold spec_l05Take.f; rw [if_pos rfl]
theorem spec_l05Take_no {s : ByteArray} (hs : s.size ≤ 140737488351232) {a : Nat} (ha : a ≤ s.size) {n : Int} (h0 : 0 ≤ n) (h : (s.size : Int) < a + n) : spec_l05Take.f s (a : Int) false n = some (⟨#[]⟩, s, (a : Int), true) := by
  unfold spec_l05Take.f
  rw [if_neg (by simp), w64 (x := (s.size : Int) - a) (by omega) (by omega), if_pos (by omega)]
theorem spec_l05Take_ok {s : ByteArray} (hs : s.size ≤ 140737488351232) {a n : Nat} (h : a + n ≤ s.size) : spec_l05Take.f s (a : Int) false (n : Int) = some (s.extract a (a + n), s, ((a + n : Nat) : Int), false) := by
  unfold spec_l05Take.f
  rw [if_neg (by simp), w64 (x := (s.size : Int) - a) (by omega) (by omega), if_neg (by omega), w64 (x := (a : Int) + n) (by omega) (by omega), w64 (x := (a : Int) + n - n) (by omega) (by omega), if_pos (by omega), if_pos (by omega), if_pos (by omega)]
  have e1 : ((a : Int) + n - n).toNat = a := by omega
  have e2 : ((a : Int) + n).toNat = a + n := by omega
  rw [e1, e2, ← Int.natCast_add]
def takeC (s : ByteArray) (a : Int) (b : Bool) (n : Int) : ByteArray × ByteArray × Int × Bool :=
  if b = true then (⟨#[]⟩, s, a, true) else if (s.size : Int) < a + n then (⟨#[]⟩, s, a, true) else (s.extract a.toNat (a + n).toNat, s, a + n, b)
def shortC (s : ByteArray) (a : Int) (b : Bool) : ByteArray × ByteArray × Int × Bool :=
  takeC s (varC s a b).2.2.1 (varC s a b).2.2.2 (varC s a b).1
def textC (s : ByteArray) (a : Int) (b : Bool) : ByteArray × ByteArray × Int × Bool :=
  if b = true then (⟨#[]⟩, s, a, true) else if (readShort s a).2.2 = true then ((readShort s a).1, s, (readShort s a).2.1, b) else (⟨#[]⟩, s, a, true)
theorem varC_at {s : ByteArray} {a : Int} (b : Bool) (h : 0 ≤ a ∧ a ≤ (s.size : Int)) : (varC s a b).2.1 = s ∧ (0 ≤ (varC s a b).1 ∧ (varC s a b).1 ≤ 1000000000) ∧ (0 ≤ (varC s a b).2.2.1 ∧ (varC s a b).2.2.1 ≤ (s.size : Int)) := by
  unfold varC
  cases b with
  | true => simp; exact h
  | false =>
    rcases readVar_cases s a with e | ⟨n, m, e, hn, hm, ha, hb, _⟩
    · rw [e]; simp; exact h
    · rw [e]; simp; omega
theorem takeC_at {s : ByteArray} {a n : Int} (b : Bool) (h : 0 ≤ a ∧ a ≤ (s.size : Int)) (hn : 0 ≤ n) : (takeC s a b n).2.1 = s ∧ (takeC s a b n).1.size ≤ s.size ∧ (0 ≤ (takeC s a b n).2.2.1 ∧ (takeC s a b n).2.2.1 ≤ (s.size : Int)) := by
  unfold takeC
  have z0 : (⟨#[]⟩ : ByteArray).size = 0 := rfl
  split
  · refine ⟨rfl, by rw [z0]; omega, h⟩
  · split
    · refine ⟨rfl, by rw [z0]; omega, h⟩
    · refine ⟨rfl, ?_, ?_⟩
      · simp only; rw [size_extract _ _ _ (by omega) (by omega)]; omega
      · simp only; omega
theorem shortC_at {s : ByteArray} {a : Int} (b : Bool) (h : 0 ≤ a ∧ a ≤ (s.size : Int)) : (shortC s a b).2.1 = s ∧ (shortC s a b).1.size ≤ s.size ∧ (0 ≤ (shortC s a b).2.2.1 ∧ (shortC s a b).2.2.1 ≤ (s.size : Int)) :=
  takeC_at _ (varC_at b h).2.2 (varC_at b h).2.1.1
theorem shortC_bad (s : ByteArray) (a : Int) : shortC s a true = (⟨#[]⟩, s, a, true) := by simp [shortC, varC_bad, takeC]
theorem textC_bad (s : ByteArray) (a : Int) : textC s a true = (⟨#[]⟩, s, a, true) := by simp [textC]
/-- The two ways to read a text: alike, or both find none, or the text is too long. -/
theorem short_text {s : ByteArray} {a : Int} (h : 0 ≤ a ∧ a ≤ (s.size : Int)) (b : Bool) :
    ((shortC s a b).2.2.2 = true ∧ (textC s a b).2.2.2 = true) ∨ (shortC s a b = textC s a b) ∨ (20000 < (shortC s a b).1.size ∧ (textC s a b).2.2.2 = true) := by
  cases b with
  | true => left; rw [shortC_bad, textC_bad]; simp
  | false =>
    unfold shortC textC varC takeC readShort
    rcases readVar_cases s a with e | ⟨n, m, e, hn, hm, ha, hb, _⟩
    · rw [e]; left; simp
    · rw [e]
      simp only [Bool.false_eq_true, if_false, if_true, true_and]
      by_cases h1 : (s.size : Int) < a + m + n
      · left
        have hp : ¬ ((n : Int) ≤ 20000 ∧ (n : Int) ≤ (s.size : Int) - (a + m)) := by omega
        simp only [if_pos h1, if_neg hp]; simp
      · by_cases h2 : (n : Int) ≤ 20000
        · right; left
          have hp : (n : Int) ≤ 20000 ∧ (n : Int) ≤ (s.size : Int) - (a + m) := ⟨h2, by omega⟩
          simp only [if_neg h1, if_pos hp]; simp
        · right; right
          have hp : ¬ ((n : Int) ≤ 20000 ∧ (n : Int) ≤ (s.size : Int) - (a + m)) := by omega
          simp only [if_neg h1, if_neg hp]
          refine ⟨?_, by simp⟩
          rw [size_extract _ _ _ (by omega) (by omega)]; omega
theorem spec_l05Take_is {s : ByteArray} (hs : s.size ≤ 140737488351232) {a n : Int} (b : Bool) (h : 0 ≤ a ∧ a ≤ (s.size : Int)) (hn : 0 ≤ n ∧ n ≤ 2000000000) : spec_l05Take.f s a b n = some (takeC s a b n) := by
  obtain ⟨a', rfl⟩ : ∃ a' : Nat, a = (a' : Int) := ⟨a.toNat, by omega⟩
  obtain ⟨n', rfl⟩ : ∃ n' : Nat, n = (n' : Int) := ⟨n.toNat, by omega⟩
  unfold takeC
  cases b with
  | true => rw [if_pos rfl]; exact spec_l05Take_bad _ _ _
  | false =>
    rw [if_neg (by simp)]
    by_cases h1 : (s.size : Int) < (a' : Int) + n'
    · rw [if_pos h1]; exact spec_l05Take_no hs (by omega) (by omega) h1
    · rw [if_neg h1, spec_l05Take_ok hs (by omega)]
      have e1 : ((a' : Int) + n').toNat = a' + n' := by omega
      rw [e1, Int.toNat_natCast, Int.natCast_add]
theorem spec_l05ReadShort_ev (s : ByteArray) (hs : s.size ≤ 140737488351232) {a : Int} (b : Bool) (h : 0 ≤ a ∧ a ≤ (s.size : Int)) : Ev (fun k => spec_l05ReadShort.f k s a b) (shortC s a b) := by
  unfold spec_l05ReadShort.f
  have hv := varC_at b h
  refine Ev.bind (spec_l05Var_ev s hs a b) ?_
  rw [hv.1]
  exact Ev.bind0 (spec_l05Take_is hs _ hv.2.2 ⟨hv.2.1.1, by omega⟩) (Ev.now _)
theorem spec_ConfText_l0 (l : List Int) (hl : l.length ≤ 35184372088832) : ∀ (d i : Nat) (acc : List Int), i + d = l.length → acc.length ≤ i →
    Ev (fun k => spec_ConfText.l0 k l acc (i : Int)) (strOfNums (acc ++ (l.drop i).map (· % 256)), true)
  | 0, i, acc, h, ha => by
    refine Ev.step (f := fun k => some (strOfNums acc, true)) (fun k => ?_) ((Ev.now _).eq ?_)
    · simp only [spec_ConfText.l0]; rw [if_neg (by omega)]
    · rw [List.drop_of_length_le (by omega)]; simp
  | d + 1, i, acc, h, ha => by
    refine Ev.step (f := fun k => spec_ConfText.l0 k l (acc ++ [rd l i % 256]) ((i + 1 : Nat) : Int)) (fun k => ?_) ((spec_ConfText_l0 l hl d (i + 1) _ (by omega) (by simp; omega)).eq ?_)
    · simp only [spec_ConfText.l0]
      rw [if_pos (by omega), if_pos (by omega), if_pos (by omega), w64 (x := (i : Int) + 1) (by omega) (by omega)]
      rfl
    · rw [rd_drop (l := l) (i := i) (by omega)]; simp
theorem spec_ConfText_ev (l : List Int) (hl : l.length ≤ 35184372088832) : Ev (fun k => spec_ConfText.f k l) (confT l) := by
  unfold spec_ConfText.f confT
  refine Ev.bind (spec_ConfOk_ev l hl) ?_
  by_cases h : confOk l = true
  · rw [if_pos h]
    refine Ev.pos h ?_
    exact spec_ConfText_l0 l hl l.length 0 [] (by omega) (by simp)
  · rw [if_neg h]; exact Ev.neg h (Ev.now _)
theorem spec_l05Short_ev (s : ByteArray) (hs : s.size ≤ 140737488351232) : Ev (fun k => spec_l05Short.f k s) (vt s.size ++ s) := by
  unfold spec_l05Short.f
  refine Ev.bind (spec_l01Var_ev s.size (by omega)) (Ev.is ?_)
  have hv : (vt s.size).size ≤ 100 := by rw [vt_size]; exact Nat.le_trans (varL_len s.size 6 (by omega)) (by omega)
  rw [if_pos (by omega)]
theorem spec_Sealed_ev (s : ByteArray) : Ev (fun k => spec_Sealed.f k s) (sealed s) := by
  unfold spec_Sealed.f sealed
  by_cases h : s.size ≤ 20000
  · rw [if_pos h]
    refine Ev.neg (by omega) (Ev.bind (spec_SumOf_ev s (by omega)) (Ev.bind0 (spec_l02Four_is _) (Ev.is ?_)))
    rw [if_pos (by rw [four_size]; omega)]
  · rw [if_neg h]; exact Ev.pos (by omega) (Ev.now _)
def snapIn (i t : Int) (c body : ByteArray) : ByteArray := vt i.toNat ++ vt t.toNat ++ (vt c.size ++ c) ++ (vt body.size ++ body)
def snapText (i t : Int) (conf : List Int) (body : ByteArray) : ByteArray × Bool :=
  if (confOk conf = true ∧ (0 ≤ i ∧ i ≤ 1000000) ∧ (0 ≤ t ∧ t ≤ 100000) ∧ body.size ≤ 20000) ∧ (snapIn i t (confT conf).1 body).size + 4 ≤ 20000 then
    (snapIn i t (confT conf).1 body ++ four (sumOf (snapIn i t (confT conf).1 body)), true) else (⟨#[]⟩, false)
theorem confT_ok {l : List Int} (h : confOk l = true) : confT l = (strOfNums (l.map (· % 256)), true) := by rw [confT, if_pos h]
theorem confT_size {l : List Int} (h : confOk l = true) : (confT l).1.size ≤ 4 := by
  rw [confT_ok h, str_size, List.length_map]; exact (confOk_len h).2
theorem confT_no {l : List Int} (h : ¬ confOk l = true) : confT l = (⟨#[]⟩, false) := by rw [confT, if_neg h]
theorem spec_SnapText_ev (i t : Int) (l : List Int) (body : ByteArray) (hl : l.length ≤ 35184372088832) (hb : body.size ≤ 1048576) : Ev (fun k => spec_SnapText.f k i t l body) (snapText i t l body) := by
  have no : ∀ c x, ¬ (confOk l = true ∧ (0 ≤ i ∧ i ≤ 1000000) ∧ (0 ≤ t ∧ t ≤ 100000) ∧ body.size ≤ 20000) → x = true → Ev (fun k => spec_SnapText.j0 k c x i t l body) (snapText i t l body) := by
    intro c x h hx
    rw [snapText, if_neg (fun e => h e.1), hx]
    exact Ev.step (fun k => rfl) (Ev.now _)
  unfold spec_SnapText.f
  refine Ev.bind (spec_ConfText_ev l hl) ?_
  by_cases h0 : confOk l = true
  · refine Ev.pos (by rw [confT_ok h0]) (Ev.bind0 (spec_l01In_is _ _ _) ?_)
    by_cases h1 : 0 ≤ i ∧ i ≤ 1000000
    · refine Ev.pos (inR_iff.2 h1) (Ev.bind0 (spec_l01In_is _ _ _) ?_)
      by_cases h2 : 0 ≤ t ∧ t ≤ 100000
      · refine Ev.pos (inR_iff.2 h2) ?_
        by_cases h3 : body.size ≤ 20000
        · rw [decide_eq_false (p := (body.size : Int) > 20000) (by omega)]
          have hc := confT_size h0
          have v1 := vt_size5 i.toNat (by omega)
          have v2 := vt_size5 t.toNat (by omega)
          have v3 := vt_size5 (confT l).1.size (by omega)
          have v4 := vt_size5 body.size (by omega)
          have hz : (snapIn i t (confT l).1 body).size = (vt i.toNat).size + (vt t.toNat).size + ((vt (confT l).1.size).size + (confT l).1.size) + ((vt body.size).size + body.size) := by
            simp only [snapIn, size_append]
          refine Ev.step (fun k => rfl) (Ev.bind (spec_l01Var_evi i (by omega) (by omega)) (Ev.bind (spec_l01Var_evi t (by omega) (by omega)) (Ev.pos (by omega) (Ev.bind (spec_l05Short_ev _ (by omega)) (Ev.pos (by simp only [size_append]; omega)
            (Ev.bind (spec_l05Short_ev body (by omega)) (Ev.pos (by simp only [size_append]; omega) ?_)))))))
          change Ev (fun k => if wrap64 (((snapIn i t (confT l).1 body).size : Int) + 4) > 20000 then some ((⟨#[]⟩ : ByteArray), false) else (spec_Sealed.f k (snapIn i t (confT l).1 body)).bind fun bt => some (bt.1, bt.2)) _
          rw [w64 (by omega) (by omega)]
          by_cases h4 : (snapIn i t (confT l).1 body).size + 4 ≤ 20000
          · refine Ev.neg (by omega) (Ev.bind (spec_Sealed_ev _) (Ev.is ?_))
            rw [snapText, if_pos ⟨⟨h0, h1, h2, h3⟩, h4⟩, sealed_ok (by omega)]
          · refine Ev.pos (by omega) (Ev.is ?_)
            rw [snapText, if_neg (fun e => h4 e.2)]
        · exact no _ _ (fun e => h3 e.2.2.2) (decide_eq_true (by omega))
      · exact Ev.neg (fun e => h2 (inR_iff.1 e)) (no _ _ (fun e => h2 e.2.2.1) rfl)
    · exact Ev.neg (fun e => h1 (inR_iff.1 e)) (no _ _ (fun e => h1 e.2.1) rfl)
  · exact Ev.neg (by rw [confT_no h0]; simp) (no _ _ (fun e => h0 e.1) rfl)
def noSnap : Int × Int × List Int × ByteArray × Bool := (0, 0, [], ⟨#[]⟩, false)
def finSnap (text : ByteArray) (i t : Int) (l : List Int) (body : ByteArray) (bad : Bool) : Int × Int × List Int × ByteArray × Bool :=
  if bad = true then noSnap else if (snapText i t l body).2 = true then (if (snapText i t l body).1.toList = text.toList then (i, t, l, body, true) else noSnap) else noSnap
theorem finSnap_bad (text : ByteArray) (i t : Int) (l : List Int) (body : ByteArray) : finSnap text i t l body true = noSnap := by simp [finSnap]
theorem finSnap_no {text : ByteArray} {i t : Int} {l : List Int} {body : ByteArray} {bad : Bool} (h : (snapText i t l body).2 = false) : finSnap text i t l body bad = noSnap := by
  unfold finSnap; rw [h]; simp
theorem uns_size (s : ByteArray) : (unsealed s).1.size ≤ 20000 := by
  unfold unsealed
  split
  · rename_i h
    simp only; rw [size_extract _ _ _ (by omega) (by omega)]; omega
  · exact Nat.zero_le _
def specSnap (text : ByteArray) : Int × Int × List Int × ByteArray × Bool :=
  let s := (unsealed text).1
  let v1 := varC s 0 (!(unsealed text).2)
  let v2 := varC s v1.2.2.1 v1.2.2.2
  let v3 := shortC s v2.2.2.1 v2.2.2.2
  let v4 := shortC s v3.2.2.1 v3.2.2.2
  finSnap text v1.1 v2.1 (readConf v3.1).1 v4.1 v4.2.2.2
def implSnap (text : ByteArray) : Int × Int × List Int × ByteArray × Bool :=
  let s := (unsealed text).1
  let v1 := varC s 0 false
  let v2 := varC s v1.2.2.1 v1.2.2.2
  let v3 := textC s v2.2.2.1 v2.2.2.2
  let v4 := textC s v3.2.2.1 v3.2.2.2
  if (unsealed text).2 = true then finSnap text v1.1 v2.1 (readConf v3.1).1 v4.1 v4.2.2.2 else noSnap
theorem snap_same (text : ByteArray) : specSnap text = implSnap text := by
  unfold specSnap implSnap
  simp only
  generalize (unsealed text).1 = s
  cases (unsealed text).2 with
  | false =>
    rw [if_neg (by simp)]
    simp only [Bool.not_false, varC_bad, shortC_bad, finSnap_bad]
  | true =>
    rw [if_pos rfl]
    simp only [Bool.not_true]
    have h1 := varC_at (s := s) (a := 0) false ⟨by omega, by omega⟩
    have h2 := varC_at (s := s) (varC s 0 false).2.2.2 h1.2.2
    generalize varC s 0 false = v1 at *
    generalize varC s v1.2.2.1 v1.2.2.2 = v2 at *
    have h3 := shortC_at (s := s) v2.2.2.2 h2.2.2
    rcases short_text h2.2.2 v2.2.2.2 with ⟨e1, e2⟩ | e | ⟨e1, e2⟩
    · rw [e1, e2, shortC_bad, textC_bad, finSnap_bad, finSnap_bad]
    · rw [← e]
      generalize shortC s v2.2.2.1 v2.2.2.2 = v3 at *
      rcases short_text h3.2.2 v3.2.2.2 with ⟨f1, f2⟩ | f | ⟨f1, f2⟩
      · rw [f1, f2, finSnap_bad, finSnap_bad]
      · rw [f]
      · rw [f2, finSnap_bad]
        apply finSnap_no
        unfold snapText
        rw [if_neg (fun e => by omega)]
    · rw [e2, textC_bad, finSnap_bad]
      apply finSnap_no
      have hc : ¬ confOk (bytesOf (shortC s v2.2.2.1 v2.2.2.2).1) = true := by
        intro e
        have := confOk_len e
        rw [bytesOf_length] at this
        omega
      unfold snapText
      rw [readConf, if_neg hc, if_neg]
      intro e
      have := confOk_len e.1.1
      simp at this
theorem conf_len (s : ByteArray) : (readConf s).1.length ≤ 4 := by
  unfold readConf
  split
  · rename_i h; exact (confOk_len h).2
  · simp
theorem spec_ReadSnap_ev (text : ByteArray) (hs : text.size ≤ 140737488351232) : Ev (fun k => spec_ReadSnap.f k text) (specSnap text) := by
  unfold spec_ReadSnap.f specSnap
  simp only
  have hz := uns_size text
  refine Ev.bind (spec_Unsealed_ev text hs) ?_
  generalize (unsealed text).1 = s at *
  generalize (unsealed text).2 = ok at *
  have h1 := varC_at (s := s) (a := 0) (!ok) ⟨by omega, by omega⟩
  refine Ev.bind (spec_l05Var_ev s (by omega) 0 (!ok)) ?_
  rw [h1.1]
  generalize varC s 0 (!ok) = v1 at *
  have h2 := varC_at (s := s) v1.2.2.2 h1.2.2
  refine Ev.bind (spec_l05Var_ev s (by omega) _ _) ?_
  rw [h2.1]
  generalize varC s v1.2.2.1 v1.2.2.2 = v2 at *
  have h3 := shortC_at (s := s) v2.2.2.2 h2.2.2
  refine Ev.bind (spec_l05ReadShort_ev s (by omega) _ h2.2.2) ?_
  rw [h3.1]
  generalize shortC s v2.2.2.1 v2.2.2.2 = v3 at *
  refine Ev.bind (spec_ReadConf_ev v3.1 (by omega)) ?_
  have h4 := shortC_at (s := s) v3.2.2.2 h3.2.2
  refine Ev.bind (spec_l05ReadShort_ev s (by omega) _ h3.2.2) ?_
  generalize shortC s v3.2.2.1 v3.2.2.2 = v4 at *
  have hc := conf_len v3.1
  refine Ev.bind (spec_SnapText_ev _ _ _ _ (by omega) (by omega)) (Ev.is ?_)
  unfold finSnap noSnap
  split <;> (try split) <;> (try split) <;> rfl
open Go.Proofs.YtgnmlgoadkhceaaGreatDoor.Sem (less_irrefl less_trans less_total)
theorem less_asymm {a b : List UInt8} (h : Go.Op.bytesLess a b = true) : Go.Op.bytesLess b a = false := Go.Proofs.YtgnmlgoadkhceaaGreatDoor.Sem.less_no h
def Sd (l : List IFi) : Prop := l.Pairwise (fun x y => bLess x.f0 y.f0 = true)
theorem filesOk_iff : ∀ (l : List IFi) (p : Option ByteArray), filesOk p l = true ↔ (∀ x ∈ l, fileOk x = true) ∧ (∀ x ∈ l, above p x.f0 = true) ∧ Sd l
  | [], p => by simp [filesOk, Sd]
  | x :: l, p => by
    simp only [filesOk, Bool.and_eq_true, filesOk_iff l (some x.f0), Sd, List.pairwise_cons, List.mem_cons, forall_eq_or_imp, above]
    constructor
    · rintro ⟨⟨h1, h2⟩, h3, h4, h5⟩
      refine ⟨⟨h1, h3⟩, ⟨h2, fun y hy => ?_⟩, h4, h5⟩
      cases p with
      | none => rfl
      | some q => exact less_trans _ _ _ h2 (h4 y hy)
    · rintro ⟨⟨h1, h3⟩, ⟨h2, _⟩, h4, h5⟩
      exact ⟨⟨h1, h2⟩, h3, h4, h5⟩
theorem diskOk_iff (l : List IFi) : diskOk l = true ↔ l.length ≤ 30 ∧ (∀ x ∈ l, fileOk x = true) ∧ Sd l := by
  unfold diskOk
  rw [Bool.and_eq_true, decide_eq_true_eq, filesOk_iff]
  constructor
  · rintro ⟨h, h1, _, h2⟩; exact ⟨h, h1, h2⟩
  · rintro ⟨h, h1, h2⟩; exact ⟨h, h1, fun _ _ => rfl, h2⟩
theorem fileOk_iff (x : IFi) : fileOk x = true ↔ (1 ≤ x.f0.size ∧ x.f0.size ≤ 8) ∧ x.f1.size ≤ 20000 ∧ 0 ≤ x.f2 ∧ x.f2 ≤ (x.f1.size : Int) := by
  unfold fileOk; simp only [Bool.and_eq_true, decide_eq_true_eq]; exact ⟨fun h => ⟨h.1.1, h.1.2, h.2⟩, fun h => ⟨⟨h.1, h.2.1⟩, h.2.2⟩⟩
/-- A file in its place among files in order: in the place of that of its name, where there is one. -/
def putL (l : List IFi) (f : IFi) : List IFi := l.filter (fun x => bLess x.f0 f.f0) ++ f :: l.filter (fun x => bLess f.f0 x.f0)
theorem putL_len (l : List IFi) (f : IFi) : (putL l f).length ≤ l.length + 1 := by
  unfold putL
  rw [List.length_append, List.length_cons]
  have : ∀ l : List IFi, (l.filter (fun x => bLess x.f0 f.f0)).length + (l.filter (fun x => bLess f.f0 x.f0)).length ≤ l.length := by
    intro l
    induction l with
    | nil => simp
    | cons x l ih =>
      simp only [List.filter_cons, List.length_cons]
      cases h1 : bLess x.f0 f.f0 with
      | true => rw [show bLess f.f0 x.f0 = false from less_asymm h1]; simp; omega
      | false =>
        cases h2 : bLess f.f0 x.f0 with
        | true => simp; omega
        | false => simp; omega
  have := this l
  omega
theorem putL_sd {l : List IFi} (h : Sd l) (f : IFi) : Sd (putL l f) := by
  unfold putL Sd
  rw [List.pairwise_append, List.pairwise_cons]
  refine ⟨h.sublist List.filter_sublist, ⟨fun x hx => ?_, h.sublist List.filter_sublist⟩, fun x hx y hy => ?_⟩
  · simpa using (List.mem_filter.1 hx).2
  · have h1 := (List.mem_filter.1 hx).2
    rcases List.mem_cons.1 hy with rfl | hy
    · exact h1
    · exact less_trans _ _ _ h1 (List.mem_filter.1 hy).2
theorem putL_ok {l : List IFi} {f : IFi} (h : ∀ x ∈ l, fileOk x = true) (hf : fileOk f = true) : ∀ x ∈ putL l f, fileOk x = true := by
  intro x hx
  unfold putL at hx
  rcases List.mem_append.1 hx with hx | hx
  · exact h x (List.mem_filter.1 hx).1
  · rcases List.mem_cons.1 hx with rfl | hx
    · exact hf
    · exact h x (List.mem_filter.1 hx).1
abbrev Sn := Int × Int × List Int × ByteArray
def newer : Option Sn → Int → Bool
  | none, _ => true
  | some s, n => decide (s.1 < n)
def nwC (st : Option Sn) (x : IFi) : Bool := decide (0 ≤ numIx 115 1000000 x.f0) && (implSnap x.f1).2.2.2.2 && decide ((implSnap x.f1).1 = numIx 115 1000000 x.f0) && newer st (numIx 115 1000000 x.f0)
def nw (st : Option Sn) (x : IFi) : Option Sn := if nwC st x = true then some ((implSnap x.f1).1, (implSnap x.f1).2.1, (implSnap x.f1).2.2.1, (implSnap x.f1).2.2.2.1) else st
def sS : Option Sn → Sn
  | none => (-1, 0, [], ⟨#[]⟩)
  | some s => s
def sM : Option Sn → Sn
  | none => (0, 0, [], ⟨#[]⟩)
  | some s => s
def outS : Option Sn → Int × Int × List Int × ByteArray × Bool
  | none => (0, 0, [], ⟨#[]⟩, false)
  | some s => (s.1, s.2.1, s.2.2.1, s.2.2.2, true)
def newestL (l : List IFi) : Int × Int × List Int × ByteArray × Bool := if diskOk l = true then outS (l.foldl nw none) else (0, 0, [], ⟨#[]⟩, false)
def okS (st : Option Sn) : Prop := ∀ s, st = some s → 0 ≤ s.1
theorem nw_ok {st : Option Sn} (h : okS st) (x : IFi) : okS (nw st x) := by
  unfold nw
  split
  · rename_i hc
    unfold nwC at hc
    simp only [Bool.and_eq_true, decide_eq_true_eq] at hc
    intro s e
    rw [← Option.some.inj e]
    simp only; omega
  · exact h
theorem disk_files {l : List IFi} (h : diskOk l = true) : l.length ≤ 30 ∧ ∀ x ∈ l, x.f0.size ≤ 8 ∧ x.f1.size ≤ 20000 := by
  have h1 := (diskOk_iff l).1 h
  refine ⟨h1.1, fun x hx => ?_⟩
  have := (fileOk_iff x).1 (h1.2.1 x hx)
  omega
theorem spec_NewestSnap_l0 (l : List IFi) (hk : diskOk l = true) : ∀ (d i : Nat) (st : Option Sn), i + d = l.length → okS st →
    Ev (fun k => spec_NewestSnap.l0 k (i : Int) l (sS st).1 (sS st).2.1 (sS st).2.2.1 (sS st).2.2.2) (outS ((l.drop i).foldl nw st)) := by
  have hf := disk_files hk
  have hl := hf.1
  intro d
  induction d with
  | zero =>
    intro i st h ho
    rw [List.drop_of_length_le (by omega), List.foldl_nil]
    refine Ev.step (f := fun k => spec_NewestSnap.j1 k (i : Int) false l (sS st).1 (sS st).2.1 (sS st).2.2.1 (sS st).2.2.2) (fun k => ?_) (Ev.step (f := fun k => if (sS st).1 < 0 then some (0, 0, ([] : List Int), (⟨#[]⟩ : ByteArray), false) else some ((sS st).1, (sS st).2.1, (sS st).2.2.1, (sS st).2.2.2, true)) (fun k => ?_) ?_)
    · simp only [spec_NewestSnap.l0]; rw [if_neg (by omega)]
    · simp only [spec_NewestSnap.j1]; rw [if_neg (by simp)]
    · cases st with
      | none => exact Ev.pos (by decide) (Ev.now _)
      | some s => have := ho s rfl; exact Ev.neg (by simp only [sS]; omega) (Ev.now _)
  | succ d ih =>
    intro i st h ho
    have hi : i < l.length := by omega
    have w4 : wrap64 ((i : Int) + 1) = ((i + 1 : Nat) : Int) := by rw [w64 (by omega) (by omega)]; omega
    have er : rd_T57 l (i : Int) = l[i] := rd_IFi hi
    have hx := hf.2 l[i] (List.getElem_mem _)
    rw [List.drop_eq_getElem_cons hi, List.foldl_cons]
    generalize l[i] = x at er hx
    have h1 := ih (i + 1) (nw st x) (by omega) (nw_ok ho x)
    have hr := spec_ReadSnap_ev x.f1 (by omega)
    rw [snap_same] at hr
    refine Ev.step (f := fun k => (spec_DiskOk.f k l).bind fun t => spec_NewestSnap.j1 k (i : Int) t l (sS st).1 (sS st).2.1 (sS st).2.2.1 (sS st).2.2.2) (fun k => ?_) (Ev.bind (spec_DiskOk_ev l) ?_)
    · simp only [spec_NewestSnap.l0]; rw [if_pos (by omega)]
    · rw [hk]
      refine Ev.step (f := fun k => (spec_l08Index.f k x.f0).bind fun t => (spec_ReadSnap.f k x.f1).bind fun b => if t ≥ 0 then (if b.2.2.2.2 = true then (if b.1 = t then (if t > (sS st).1 then spec_NewestSnap.l0 k ((i + 1 : Nat) : Int) l b.1 b.2.1 b.2.2.1 b.2.2.2.1 else spec_NewestSnap.l0 k ((i + 1 : Nat) : Int) l (sS st).1 (sS st).2.1 (sS st).2.2.1 (sS st).2.2.2) else spec_NewestSnap.l0 k ((i + 1 : Nat) : Int) l (sS st).1 (sS st).2.1 (sS st).2.2.1 (sS st).2.2.2) else spec_NewestSnap.l0 k ((i + 1 : Nat) : Int) l (sS st).1 (sS st).2.1 (sS st).2.2.1 (sS st).2.2.2) else spec_NewestSnap.l0 k ((i + 1 : Nat) : Int) l (sS st).1 (sS st).2.1 (sS st).2.2.1 (sS st).2.2.2) (fun k => ?_) (Ev.bind (spec_l08Index_ev x.f0) (Ev.bind hr ?_))
      · simp only [spec_NewestSnap.j1, er, w4]
        rw [if_pos trivial, if_pos (Int.natCast_nonneg i), if_pos (by omega)]
      · have hno : ¬ nwC st x = true → nw st x = st := fun e => if_neg e
        by_cases c1 : 0 ≤ numIx 115 1000000 x.f0
        · refine Ev.pos c1 ?_
          by_cases c2 : (implSnap x.f1).2.2.2.2 = true
          · refine Ev.pos c2 ?_
            by_cases c3 : (implSnap x.f1).1 = numIx 115 1000000 x.f0
            · refine Ev.pos c3 ?_
              have hn : newer st (numIx 115 1000000 x.f0) = decide ((sS st).1 < numIx 115 1000000 x.f0) := by
                cases st with
                | none => simp only [newer, sS]; exact (decide_eq_true (by omega)).symm
                | some s => rfl
              by_cases c4 : (sS st).1 < numIx 115 1000000 x.f0
              · have e : nw st x = some ((implSnap x.f1).1, (implSnap x.f1).2.1, (implSnap x.f1).2.2.1, (implSnap x.f1).2.2.2.1) := if_pos (by unfold nwC; rw [hn]; simp [c1, c2, c3, c4])
                rw [e] at h1 ⊢
                exact Ev.pos c4 h1
              · rw [hno (by unfold nwC; rw [hn]; simp [c4])] at h1 ⊢
                exact Ev.neg c4 h1
            · rw [hno (by unfold nwC; simp [c3])] at h1 ⊢
              exact Ev.neg c3 h1
          · rw [hno (by unfold nwC; simp [c2])] at h1 ⊢
            exact Ev.neg c2 h1
        · rw [hno (by unfold nwC; simp [c1])] at h1 ⊢
          exact Ev.neg c1 h1
theorem spec_NewestSnap_ev (l : List IFi) : Ev (fun k => spec_NewestSnap.f k l) (newestL l) := by
  unfold spec_NewestSnap.f newestL
  by_cases hk : diskOk l = true
  · rw [if_pos hk]
    exact spec_NewestSnap_l0 l hk l.length 0 none (by omega) (fun s e => by cases e)
  · rw [if_neg hk]
    have hj : Ev (fun k => spec_NewestSnap.j1 k 0 false l (-1) 0 ([] : List Int) (⟨#[]⟩ : ByteArray)) (0, 0, [], ⟨#[]⟩, false) :=
      Ev.step (f := fun _ => some (0, 0, [], ⟨#[]⟩, false)) (fun k => by simp only [spec_NewestSnap.j1]; rw [if_neg (by simp), if_pos (by decide)]) (Ev.now _)
    by_cases hl : l.length = 0
    · refine Ev.step (f := fun k => spec_NewestSnap.j1 k 0 false l (-1) 0 ([] : List Int) (⟨#[]⟩ : ByteArray)) (fun k => ?_) hj
      simp only [spec_NewestSnap.l0]; rw [if_neg (by omega)]
    · refine Ev.step (f := fun k => (spec_DiskOk.f k l).bind fun t => spec_NewestSnap.j1 k 0 t l (-1) 0 ([] : List Int) (⟨#[]⟩ : ByteArray)) (fun k => ?_) (Ev.bind (spec_DiskOk_ev l) ?_)
      · simp only [spec_NewestSnap.l0]; rw [if_pos (by omega)]
      · rw [show diskOk l = false by simpa using hk]; exact hj
def fAt (l : List IFi) (s : ByteArray) : Int := M.idxP (fun x : IFi => x.f0.toList == s.toList) l 0
theorem spec_l03At_l0 (l : List IFi) (hl : l.length ≤ 1048577) (s : ByteArray) : ∀ (d i : Nat), i + d = l.length → Ev (fun k => spec_l03At.l0 k s (i : Int) l) (M.idxP (fun x : IFi => x.f0.toList == s.toList) (l.drop i) (i : Int))
  | 0, i, h => by
    refine Ev.step (f := fun k => some (-1)) (fun k => ?_) ((Ev.now _).eq ?_)
    · simp only [spec_l03At.l0]; rw [if_neg (by omega)]
    · rw [List.drop_of_length_le (by omega)]; rfl
  | d + 1, i, h => by
    rw [rd_IFi_drop (l := l) (i := i) (by omega)]
    by_cases e : (rd_T57 l (i : Int)).f0.toList = s.toList
    · refine Ev.step (f := fun k => some (i : Int)) (fun k => ?_) ((Ev.now _).eq ?_)
      · simp only [spec_l03At.l0]
        rw [if_pos (by omega), if_pos (by omega), if_pos e]
      · simp only [M.idxP]; rw [if_pos (by simpa using e)]
    · refine Ev.step (f := fun k => spec_l03At.l0 k s ((i + 1 : Nat) : Int) l) (fun k => ?_) ((spec_l03At_l0 l hl s d (i + 1) (by omega)).eq ?_)
      · simp only [spec_l03At.l0]
        rw [if_pos (by omega), if_pos (by omega), if_neg e, w64 (x := (i : Int) + 1) (by omega) (by omega)]; rfl
      · simp only [M.idxP]; rw [if_neg (by simpa using e)]; rfl
theorem spec_l03At_ev (l : List IFi) (hl : l.length ≤ 1048577) (s : ByteArray) : Ev (fun k => spec_l03At.f k l s) (fAt l s) := by
  unfold spec_l03At.f
  have := spec_l03At_l0 l hl s l.length 0 (by omega)
  rw [List.drop_zero] at this
  exact this
theorem fAt_cases (l : List IFi) (s : ByteArray) : fAt l s = -1 ∨ ∃ (k : Nat) (h : k < l.length), fAt l s = (k : Int) ∧ l[k].f0.toList = s.toList := by
  rcases M.idxP_cases (fun x : IFi => x.f0.toList == s.toList) l 0 with ⟨h, _⟩ | ⟨k, h, e, hk⟩
  · exact .inl h
  · exact .inr ⟨k, h, by unfold fAt; omega, by simpa using hk⟩
def fileAt (l : List IFi) (s : ByteArray) : ByteArray × Bool := if fAt l s < 0 then (⟨#[]⟩, false) else ((rd_T57 l (fAt l s)).f1, true)
def newA (l : List IFi) : List IAc := if 0 ≤ fAt l (⟨#[115, 43]⟩ : ByteArray) then [⟨4, ⟨#[115, 43]⟩, ⟨#[]⟩, ⟨#[]⟩⟩] else []
def chunkL (t : ByteArray) : Nat → Nat → List IAc
  | 0, _ => []
  | d + 1, a => if a < t.size then ⟨1, ⟨#[115, 43]⟩, t.extract a (min t.size (a + 60)), ⟨#[]⟩⟩ :: chunkL t d (a + 60) else []
def dropsL (l : List IFi) (i : Int) : List IAc := (l.filter fun x => decide (0 ≤ numIx 115 1000000 x.f0 ∧ numIx 115 1000000 x.f0 ≠ i)).map fun x => ⟨4, x.f0, ⟨#[]⟩, ⟨#[]⟩⟩
def snapN (i : Int) : ByteArray := if inR i 0 1000000 = true then (⟨#[115]⟩ : ByteArray) ++ decS i else ⟨#[]⟩
def endA (i : Int) : List IAc := [⟨2, ⟨#[115, 43]⟩, ⟨#[]⟩, ⟨#[]⟩⟩, ⟨3, ⟨#[115, 43]⟩, ⟨#[]⟩, snapN i⟩]
def snapActs (l : List IFi) (i t : Int) (conf : List Int) (body : ByteArray) : List IAc × Bool :=
  if (snapText i t conf body).2 = true ∧ diskOk l = true then (newA l ++ chunkL (snapText i t conf body).1 400 0 ++ endA i ++ dropsL l i, true) else ([], false)
theorem newA_len (l : List IFi) : (newA l).length ≤ 1 := by unfold newA; split <;> simp
theorem chunkL_len (t : ByteArray) : ∀ (d a : Nat), (chunkL t d a).length ≤ d := by
  intro d
  induction d with
  | zero => intro a; simp [chunkL]
  | succ d ih => intro a; unfold chunkL; split <;> simp [ih (a + 60)]
theorem dropsL_len (l : List IFi) (i : Int) : (dropsL l i).length ≤ l.length := by unfold dropsL; rw [List.length_map]; exact List.length_filter_le _ _
theorem diskOk_len {l : List IFi} (h : diskOk l = true) : l.length ≤ 30 := by
  unfold diskOk at h; rw [Bool.and_eq_true] at h; exact of_decide_eq_true h.1
theorem snapText_le {i t : Int} {conf : List Int} {body : ByteArray} (h : (snapText i t conf body).2 = true) : (snapText i t conf body).1.size ≤ 20000 ∧ 0 ≤ i ∧ i ≤ 1000000 := by
  unfold snapText at *
  split at h
  · rename_i hc
    rw [if_pos hc]
    refine ⟨?_, hc.1.2.1.1, hc.1.2.1.2⟩
    have := hc.2; simp only [size_append, four_size]; omega
  · simp at h
theorem snapActs_len (l : List IFi) (i t : Int) (conf : List Int) (body : ByteArray) : (snapActs l i t conf body).1.length ≤ 500 := by
  unfold snapActs
  split
  · rename_i hc
    have h1 := newA_len l
    have h2 := chunkL_len (snapText i t conf body).1 400 0
    have h3 := dropsL_len l i
    have h4 := diskOk_len hc.2
    simp only [List.length_append]
    have h5 : (endA i).length = 2 := rfl
    omega
  · simp
theorem spec_l08New_ev (l : List IFi) (hl : l.length ≤ 1048577) : Ev (fun k => spec_l08New.f k l) (newA l) := by
  unfold spec_l08New.f newA
  refine Ev.bind (spec_l03At_ev l hl _) ?_
  by_cases h : 0 ≤ fAt l (⟨#[115, 43]⟩ : ByteArray)
  · exact (Ev.pos h (Ev.now _)).eq (if_pos h).symm
  · exact (Ev.neg h (Ev.now _)).eq (if_neg h).symm
theorem spec_l08Drops_l0 (l : List IFi) (hl : l.length ≤ 30) (n : Int) : ∀ (d i : Nat) (acc : List IAc), i + d = l.length → acc.length ≤ i → Ev (fun k => spec_l08Drops.l0 k n acc (i : Int) l) (acc ++ dropsL (l.drop i) n) := by
  intro d
  induction d with
  | zero =>
    intro i acc h ha
    refine Ev.step (f := fun k => some acc) (fun k => ?_) ((Ev.now _).eq ?_)
    · simp only [spec_l08Drops.l0]; rw [if_neg (by omega)]
    · rw [List.drop_of_length_le (by omega)]; simp [dropsL]
  | succ d ih =>
    intro i acc h ha
    have hi : i < l.length := by omega
    have w4 : wrap64 ((i : Int) + 1) = ((i + 1 : Nat) : Int) := by rw [w64 (by omega) (by omega)]; omega
    have er : rd_T57 l (i : Int) = l[i] := rd_IFi hi
    rw [List.drop_eq_getElem_cons hi]
    have h1 := ih (i + 1) acc (by omega) (by omega)
    have h2 := ih (i + 1) (acc ++ [⟨4, l[i].f0, ⟨#[]⟩, ⟨#[]⟩⟩]) (by omega) (by simp; omega)
    generalize l[i] = x at er h2
    refine Ev.step (f := fun k => (spec_l08Index.f k x.f0).bind fun t => if t ≥ 0 then (if t = n then spec_l08Drops.l0 k n acc ((i + 1 : Nat) : Int) l else spec_l08Drops.l0 k n (acc ++ [⟨4, x.f0, ⟨#[]⟩, ⟨#[]⟩⟩]) ((i + 1 : Nat) : Int) l) else spec_l08Drops.l0 k n acc ((i + 1 : Nat) : Int) l) (fun k => ?_) (Ev.bind (spec_l08Index_ev x.f0) ?_)
    · simp only [spec_l08Drops.l0, er, w4]
      rw [if_pos (by omega), if_pos (Int.natCast_nonneg i)]
      simp only [if_pos (show acc.length < 2513169434916 by omega)]
    · by_cases h3 : 0 ≤ numIx 115 1000000 x.f0
      · by_cases h4 : numIx 115 1000000 x.f0 = n
        · refine Ev.pos h3 (Ev.pos h4 (h1.eq ?_))
          unfold dropsL; rw [List.filter_cons_of_neg (by simp [h4])]
        · refine Ev.pos h3 (Ev.neg h4 (h2.eq ?_))
          unfold dropsL; rw [List.filter_cons_of_pos (by simp [h4, h3]), List.map_cons, List.append_assoc]; rfl
      · refine Ev.neg h3 (h1.eq ?_)
        unfold dropsL; rw [List.filter_cons_of_neg (by simp; omega)]
theorem spec_l08Drops_ev (l : List IFi) (hl : l.length ≤ 30) (n : Int) : Ev (fun k => spec_l08Drops.f k l n) (dropsL l n) := by
  have := spec_l08Drops_l0 l hl n l.length 0 [] (by omega) (by simp)
  unfold spec_l08Drops.f
  simpa using this
def mkDrop (x : IFi) : IAc := ⟨4, x.f0, ⟨#[]⟩, ⟨#[]⟩⟩
def shedI (i : Int) (x : IFi) : Bool := (x.f0.toList == ([115, 43] : List UInt8)) || decide (0 ≤ numIx 115 1000000 x.f0 ∧ numIx 115 1000000 x.f0 ≠ i)
def shedL (l : List IFi) (i : Int) : List IAc := (l.filter (shedI i)).map mkDrop
def shed (l : List IFi) : List IAc := if (newestL l).2.2.2.2 = true then newA l ++ dropsL l (newestL l).1 else []
theorem num_first {s : ByteArray} (h : 0 ≤ numIx 115 1000000 s) : ∃ b l, bytesOf s = 115 :: b :: l ∧ 48 ≤ b := by
  obtain ⟨n, h1, h2, h3⟩ := numIx_name h
  have hd := dF_decB n
  rw [decS_nat] at h3
  cases e : bytesOf (decB n) with
  | nil =>
    have h4 := decB_pos n
    have h5 := bytesOf_length (decB n)
    rw [e] at h5; simp at h5; omega
  | cons b l =>
    rw [e] at hd
    simp only [dF] at hd
    split at hd
    · rename_i hb
      refine ⟨b, l, ?_, hb.1⟩
      rw [h3, bytes_append, e]; rfl
    · cases hd
theorem toList_bytes (s : ByteArray) : bytesOf s = s.toList.map (fun b => (b.toNat : Int)) := by
  rw [ByteArray.toList_eq]; rfl
theorem num_not_new {s : ByteArray} (h : 0 ≤ numIx 115 1000000 s) : ¬ s.toList = ([115, 43] : List UInt8) := by
  intro e
  obtain ⟨b, l, h1, h2⟩ := num_first h
  rw [toList_bytes, e] at h1
  simp at h1
  omega
theorem num_above {s : ByteArray} (h : 0 ≤ numIx 115 1000000 s) : ¬ Go.Op.bytesLess s.toList ([115, 43] : List UInt8) = true := by
  intro e
  obtain ⟨b, l, h1, h2⟩ := num_first h
  rw [toList_bytes] at h1
  cases hs : s.toList with
  | nil => rw [hs] at h1; simp at h1
  | cons x r =>
    rw [hs] at h1
    cases r with
    | nil => simp at h1
    | cons y r =>
      rw [hs] at e
      simp only [List.map_cons, List.cons.injEq] at h1
      simp only [Go.Op.bytesLess, Bool.or_eq_true, Bool.and_eq_true, decide_eq_true_eq, beq_iff_eq, Bool.false_eq_true, and_false, or_false] at e
      have h3 := h1.1
      have h4 := h1.2.1
      rcases e with e | ⟨_, e⟩
      · have := UInt8.lt_iff_toNat_lt.1 e
        have : (115 : UInt8).toNat = 115 := rfl
        omega
      · have := UInt8.lt_iff_toNat_lt.1 e
        have : (43 : UInt8).toNat = 43 := rfl
        omega
theorem newA_iff (l : List IFi) : newA l = if (∃ x ∈ l, x.f0.toList = ([115, 43] : List UInt8)) then [⟨4, ⟨#[115, 43]⟩, ⟨#[]⟩, ⟨#[]⟩⟩] else [] := by
  unfold newA
  have ht : (⟨#[115, 43]⟩ : ByteArray).toList = ([115, 43] : List UInt8) := by rw [ByteArray.toList_eq]
  rcases M.idxP_cases (fun x : IFi => x.f0.toList == (⟨#[115, 43]⟩ : ByteArray).toList) l 0 with ⟨h, h'⟩ | ⟨k, h, e, hk⟩
  · have h0 : ¬ 0 ≤ fAt l (⟨#[115, 43]⟩ : ByteArray) := by unfold fAt; omega
    rw [if_neg h0, if_neg]
    rintro ⟨x, hx, hx2⟩
    have := h' x hx
    rw [ht, hx2] at this
    simp at this
  · have h0 : 0 ≤ fAt l (⟨#[115, 43]⟩ : ByteArray) := by unfold fAt; omega
    rw [if_pos h0, if_pos]
    refine ⟨l[k], List.getElem_mem _, ?_⟩
    rw [ht] at hk
    simpa using hk
theorem shed_eq (i : Int) : ∀ (l : List IFi), Sd l → shedL l i = newA l ++ dropsL l i
  | [], _ => by rw [newA_iff]; simp [shedL, dropsL]
  | x :: l, h => by
    have hs := List.pairwise_cons.1 h
    have ih := shed_eq i l hs.2
    by_cases hx : x.f0.toList = ([115, 43] : List UInt8)
    · have hn : ∀ y ∈ l, ¬ y.f0.toList = ([115, 43] : List UInt8) := fun y hy e => by
        have := hs.1 y hy
        unfold bLess at this
        rw [hx, e] at this
        exact absurd this (by decide)
      have e1 : newA (x :: l) = [⟨4, ⟨#[115, 43]⟩, ⟨#[]⟩, ⟨#[]⟩⟩] := by rw [newA_iff, if_pos ⟨x, by simp, hx⟩]
      have e2 : newA l = [] := by rw [newA_iff, if_neg]; rintro ⟨y, hy, e⟩; exact hn y hy e
      have e3 : ¬ (0 ≤ numIx 115 1000000 x.f0 ∧ numIx 115 1000000 x.f0 ≠ i) := fun e => num_not_new e.1 hx
      have e4 : x.f0 = ⟨#[115, 43]⟩ := (toList_iff _ _).1 (by rw [hx, ByteArray.toList_eq])
      have e5 : shedI i x = true := by unfold shedI; rw [hx]; simp
      rw [e2, List.nil_append] at ih
      rw [e1]
      unfold shedL at *
      rw [List.filter_cons_of_pos e5, List.map_cons, ih]
      have e6 : dropsL (x :: l) i = dropsL l i := by unfold dropsL; rw [List.filter_cons_of_neg (by simpa using e3)]
      rw [e6, show mkDrop x = ⟨4, ⟨#[115, 43]⟩, ⟨#[]⟩, ⟨#[]⟩⟩ from by unfold mkDrop; rw [e4]]
      rfl
    · have e1 : newA (x :: l) = newA l := by
        rw [newA_iff, newA_iff]
        have : (∃ y ∈ x :: l, y.f0.toList = ([115, 43] : List UInt8)) ↔ ∃ y ∈ l, y.f0.toList = ([115, 43] : List UInt8) := by simp [hx]
        simp only [this]
      by_cases hn : 0 ≤ numIx 115 1000000 x.f0 ∧ numIx 115 1000000 x.f0 ≠ i
      · have e2 : newA l = [] := by
          rw [newA_iff, if_neg]
          rintro ⟨y, hy, e⟩
          have := hs.1 y hy
          unfold bLess at this
          rw [e] at this
          exact num_above hn.1 this
        have e5 : shedI i x = true := by unfold shedI; rw [decide_eq_true hn]; simp
        rw [e2, List.nil_append] at ih
        rw [e1, e2, List.nil_append]
        unfold shedL at *
        rw [List.filter_cons_of_pos e5, List.map_cons, ih]
        unfold dropsL
        rw [List.filter_cons_of_pos (by simpa using hn), List.map_cons]
        rfl
      · have e5 : ¬ shedI i x = true := by unfold shedI; rw [decide_eq_false hn]; simpa using hx
        rw [e1]
        unfold shedL at *
        rw [List.filter_cons_of_neg e5, ih]
        unfold dropsL
        rw [List.filter_cons_of_neg (by simpa using hn)]
theorem shed_len (l : List IFi) (h : l.length ≤ 1048577) : (shed l).length ≤ 1048578 := by
  unfold shed
  split
  · have h1 := newA_len l
    have h2 := dropsL_len l (newestL l).1
    rw [List.length_append]; omega
  · simp
theorem newest_disk {l : List IFi} (h : (newestL l).2.2.2.2 = true) : diskOk l = true := by
  unfold newestL at h
  split at h
  · assumption
  · simp at h
theorem spec_ShedActs_ev (l : List IFi) (hl : l.length ≤ 1048577) : Ev (fun k => spec_ShedActs.f k l) (shed l) := by
  unfold spec_ShedActs.f shed
  refine Ev.bind (spec_NewestSnap_ev l) ?_
  by_cases h : (newestL l).2.2.2.2 = true
  · have h3 := diskOk_len (newest_disk h)
    have h1 := newA_len l
    have h2 := dropsL_len l (newestL l).1
    rw [if_pos h]
    exact Ev.pos h (Ev.bind (spec_l08New_ev l hl) (Ev.bind (spec_l08Drops_ev l h3 _) (Ev.pos (by omega) (Ev.now _))))
  · rw [if_neg h]; exact Ev.neg h (Ev.now _)
theorem impl_within_is (a b c : Int) : impl_within.f a b c = some (inR a b c) := by
  unfold impl_within.f inR
  by_cases h : a ≥ b
  · rw [if_pos h]; congr 1; simp; omega
  · rw [if_neg h]; congr 1; simp; omega
theorem impl_Decimal_is (n : Int) (h0 : -9223372036854775808 ≤ n) (h1 : n ≤ 9223372036854775807) : impl_Decimal.f n = some (decS n) := by
  unfold impl_Decimal.f; rw [if_pos ⟨h0, h1⟩]; rfl
theorem impl_ReadDecimal_is (t : ByteArray) (h : t.size ≤ 281474976710656) : impl_ReadDecimal.f t = some (rdDec t) := by
  unfold impl_ReadDecimal.f; rw [if_pos h]; congr 1
  unfold impl_ReadDecimal.v
  have key : ∀ n : Nat, (n : Int) ≤ 1000000000 → decS (n : Int) = t → dF 0 (bytesOf t) = some n ∧ Lib.atoiAll t.data.toList = .ok (n : Int) := by
    intro n hn he
    rw [decS_nat] at he
    have hd : dF 0 (bytesOf t) = some n := by rw [← he]; exact dF_decB n
    have hs := decB_size n 10 (by omega)
    exact ⟨hd, atoiAll_dF hd (by rw [← he]; exact decB_pos n) (by rw [← he]; omega)⟩
  have no : (∀ n : Nat, (n : Int) ≤ 1000000000 → ¬ decS (n : Int) = t) → rdDec t = (0, false) := by
    intro hno
    unfold rdDec
    cases dF 0 (bytesOf t) with
    | none => rfl
    | some n => simp only [rdC]; exact if_neg (fun hc => hno n hc.1 hc.2)
  have yes : ∀ n : Nat, (n : Int) ≤ 1000000000 → decS (n : Int) = t → rdDec t = ((n : Int), true) := by
    intro n hn he
    unfold rdDec
    rw [(key n hn he).1]
    exact if_pos ⟨hn, he⟩
  cases ha : Lib.atoiAll t.data.toList with
  | ok v =>
    simp only
    by_cases he : (⟨(Lib.itoa v).toArray⟩ : ByteArray).toList = t.toList
    · rw [if_pos he]
      by_cases hv : 0 ≤ v ∧ v ≤ 1000000000
      · rw [if_pos hv]
        obtain ⟨n, rfl⟩ : ∃ n : Nat, v = n := ⟨v.toNat, by omega⟩
        exact (yes n hv.2 ((toList_iff _ _).1 he)).symm
      · rw [if_neg hv]
        refine (no fun n hn hc => ?_).symm
        have := (key n hn hc).2
        rw [ha] at this
        have e : v = (n : Int) := by injection this
        exact hv ⟨by omega, by omega⟩
    · rw [if_neg he]
      refine (no fun n hn hc => ?_).symm
      have := (key n hn hc).2
      rw [ha] at this
      have e : v = (n : Int) := by injection this
      exact he ((toList_iff _ _).2 (by rw [e]; exact hc))
  | range =>
    refine (no fun n hn hc => ?_).symm
    have := (key n hn hc).2
    rw [ha] at this; cases this
  | _ =>
    refine (no fun n hn hc => ?_).symm
    have := (key n hn hc).2
    rw [ha] at this; cases this
theorem impl_numberOf_is (s : ByteArray) (p : UInt8) (most : Int) (hs : s.size ≤ 281474976710656) : impl_numberOf.f s (⟨#[p]⟩ : ByteArray) most = some (numIx (p.toNat : Int) most s) := by
  have hcut : strings_CutPrefix.f s (⟨#[p]⟩ : ByteArray) = some (⟨(Lib.trimPrefix s.data.toList [p]).toArray⟩, Lib.hasPrefix s.data.toList [p]) := rfl
  unfold impl_numberOf.f numIx
  rw [hcut, Option.bind_some]
  cases e : s.data.toList with
  | nil =>
    have e1 : bytesOf s = [] := by unfold bytesOf; rw [e]; rfl
    have e2 : (⟨(Lib.trimPrefix ([] : List UInt8) [p]).toArray⟩ : ByteArray) = ⟨#[]⟩ := by simp [Lib.trimPrefix, Lib.hasPrefix]
    have e3 : Lib.hasPrefix ([] : List UInt8) [p] = false := rfl
    simp only [e1, e2, e3]
    rw [impl_ReadDecimal_is _ (by decide), Option.bind_some, if_neg (by simp)]
  | cons b l =>
    have e1 : bytesOf s = (b.toNat : Int) :: l.map (fun b => (b.toNat : Int)) := by unfold bytesOf; rw [e]; rfl
    have hz : l.length + 1 = s.size := by rw [← Go.Proofs.YtgnmlgoadkhceaaGreatDoorW.PrintWords.data_length, e]; rfl
    have ex : s.extract 1 s.size = ⟨l.toArray⟩ := by
      apply bytes_inj
      rw [bytes_extract, e1]
      unfold bytesOf
      simp only [List.drop_succ_cons, List.drop_zero]
      rw [List.take_of_length_le (by rw [List.length_map]; omega)]
    simp only [e1]
    by_cases hp : b = p
    · subst hp
      have e2 : Lib.hasPrefix (b :: l) [b] = true := by simp [Lib.hasPrefix]
      have e3 : Lib.trimPrefix (b :: l) [b] = l := by unfold Lib.trimPrefix; rw [e2]; rfl
      rw [e2, e3, ← ex, impl_ReadDecimal_is _ (by have := size_extract s 1 s.size (by omega) (by omega); omega), Option.bind_some, if_pos rfl]
      by_cases h2 : (rdDec (s.extract 1 s.size)).2 = true
      · rw [if_pos h2]
        by_cases h3 : (rdDec (s.extract 1 s.size)).1 ≤ most
        · rw [if_neg (by omega), if_pos ⟨rfl, h2, h3⟩]
        · rw [if_pos (by omega), if_neg (fun e => h3 e.2.2)]
      · rw [if_neg h2, if_neg (fun e => h2 e.2.1)]
    · have e2 : Lib.hasPrefix (b :: l) [p] = false := by simp [Lib.hasPrefix, List.isPrefixOf, Ne.symm hp]
      have e3 : Lib.trimPrefix (b :: l) [p] = b :: l := by unfold Lib.trimPrefix; rw [e2]; rfl
      have hn : ¬ (b.toNat : Int) = (p.toNat : Int) := fun h => hp (UInt8.toNat_inj.1 (by omega))
      have hsz : (⟨(b :: l).toArray⟩ : ByteArray).size ≤ 281474976710656 := by show (b :: l).length ≤ _; simp only [List.length_cons]; omega
      rw [e2, e3, impl_ReadDecimal_is _ hsz, Option.bind_some, if_neg (by simp), if_neg (fun h => hn h.1)]
theorem impl_DiskOk_l0 (l : List IFi) (hl : l.length ≤ 1048577) : ∀ (d i : Nat) (p : Option ByteArray), i + d = l.length → (i = 0 → p = none) → (0 < i → p = some (rd_T57 l ((i - 1 : Nat) : Int)).f0) →
    Ev (fun k => impl_DiskOk.l0 k l (l.length : Int) (i : Int) l) (decide (l.length ≤ 30) && filesOk p (l.drop i))
  | 0, i, p, h, h0, h1 => by
    refine Ev.step (f := fun k => some (decide ((l.length : Int) ≤ 30))) (fun k => ?_) ((Ev.now _).eq ?_)
    · simp only [impl_DiskOk.l0]; rw [if_neg (by omega)]
    · rw [List.drop_of_length_le (by omega)]
      simp only [filesOk, Bool.and_true]
      congr 1
      simp only [eq_iff_iff]; omega
  | d + 1, i, p, h, h0, h1 => by
    rw [rd_IFi_drop (l := l) (i := i) (by omega)]
    have ih := impl_DiskOk_l0 l hl d (i + 1) (some (rd_T57 l (i : Int)).f0) (by omega) (by omega) (fun _ => by simp)
    have a1i : ∀ s : ByteArray, inR (s.size : Int) 1 8 = decide (1 ≤ s.size ∧ s.size ≤ 8) := by
      intro s; unfold inR; congr 1; simp only [eq_iff_iff]; omega
    generalize hx : rd_T57 l (i : Int) = x at *
    simp only [filesOk, fileOk]
    by_cases a1 : 1 ≤ x.f0.size ∧ x.f0.size ≤ 8
    · by_cases a2 : x.f1.size ≤ 20000
      · by_cases a3 : 0 ≤ x.f2 ∧ x.f2 ≤ (x.f1.size : Int)
        · rw [decide_eq_true a1, decide_eq_true a2, decide_eq_true a3, Bool.true_and, Bool.true_and, Bool.true_and]
          by_cases hi : 0 < i
          · rw [h1 hi]
            have ei : wrap64 ((i : Int) - 1) = ((i - 1 : Nat) : Int) := by rw [w64 (by omega) (by omega)]; omega
            by_cases hb : bLess (rd_T57 l ((i - 1 : Nat) : Int)).f0 x.f0 = true
            · refine Ev.step (f := fun k => impl_DiskOk.l0 k l (l.length : Int) ((i + 1 : Nat) : Int) l) (fun k => ?_) (ih.eq ?_)
              · simp only [impl_DiskOk.l0]
                rw [if_pos (by omega), if_pos (by omega), if_pos (by omega), hx, impl_within_is, Option.bind_some, a1i, if_pos (decide_eq_true a1), if_neg (by omega), impl_within_is, Option.bind_some, if_pos (inR_iff.2 a3), if_pos (by omega), ei, if_pos (by omega), if_pos (by omega), if_pos (show Go.Op.bytesLess _ _ = true from hb)]
                rw [w64 (x := (i : Int) + 1) (by omega) (by omega)]; rfl
              · simp only [above]; rw [hb, Bool.true_and]
            · refine Ev.step (f := fun k => some false) (fun k => ?_) ((Ev.now _).eq ?_)
              · simp only [impl_DiskOk.l0]
                rw [if_pos (by omega), if_pos (by omega), if_pos (by omega), hx, impl_within_is, Option.bind_some, a1i, if_pos (decide_eq_true a1), if_neg (by omega), impl_within_is, Option.bind_some, if_pos (inR_iff.2 a3), if_pos (by omega), ei, if_pos (by omega), if_pos (by omega), if_neg (show ¬ Go.Op.bytesLess _ _ = true from hb)]
              · simp only [above]; rw [Bool.not_eq_true _ |>.mp hb, Bool.false_and, Bool.and_false]
          · rw [h0 (by omega)]
            refine Ev.step (f := fun k => impl_DiskOk.l0 k l (l.length : Int) ((i + 1 : Nat) : Int) l) (fun k => ?_) (ih.eq ?_)
            · simp only [impl_DiskOk.l0]
              rw [if_pos (by omega), if_pos (by omega), if_pos (by omega), hx, impl_within_is, Option.bind_some, a1i, if_pos (decide_eq_true a1), if_neg (by omega), impl_within_is, Option.bind_some, if_pos (inR_iff.2 a3), if_neg (by omega)]
              rw [w64 (x := (i : Int) + 1) (by omega) (by omega)]; rfl
            · simp only [above]; rw [Bool.true_and]
        · refine Ev.step (f := fun k => some false) (fun k => ?_) ((Ev.now _).eq ?_)
          · simp only [impl_DiskOk.l0]
            rw [if_pos (by omega), if_pos (by omega), if_pos (by omega), hx, impl_within_is, Option.bind_some, a1i, if_pos (decide_eq_true a1), if_neg (by omega), impl_within_is, Option.bind_some, if_neg (fun e => a3 (inR_iff.1 e))]
          · rw [decide_eq_false a3]; simp
      · refine Ev.step (f := fun k => some false) (fun k => ?_) ((Ev.now _).eq ?_)
        · simp only [impl_DiskOk.l0]
          rw [if_pos (by omega), if_pos (by omega), if_pos (by omega), hx, impl_within_is, Option.bind_some, a1i, if_pos (decide_eq_true a1), if_pos (by omega)]
        · rw [decide_eq_false a2]; simp
    · refine Ev.step (f := fun k => some false) (fun k => ?_) ((Ev.now _).eq ?_)
      · simp only [impl_DiskOk.l0]
        rw [if_pos (by omega), if_pos (by omega), if_pos (by omega), hx, impl_within_is, Option.bind_some, a1i, if_neg (by rw [decide_eq_true_eq]; exact a1)]
      · rw [decide_eq_false a1]; simp
theorem impl_DiskOk_ev (l : List IFi) (hl : l.length ≤ 1048577) : Ev (fun k => impl_DiskOk.f k l) (diskOk l) :=
  impl_DiskOk_l0 l hl l.length 0 none (by omega) (fun _ => rfl) (fun h => absurd h (by omega))
theorem impl_SumMore_l1 {s : ByteArray} {i r : Int} : ∀ (d : Nat) (j x0 : Int), 0 ≤ j → j + d = 8 → Ev (fun k => impl_SumMore.l0 k (halves d x0) s (wrap64 (i + 1))) r → Ev (fun k => impl_SumMore.l1 k x0 s i j) r
  | 0, j, x0, h0, h, hk => by
    refine Ev.step (f := fun k => impl_SumMore.l0 k x0 s (wrap64 (i + 1))) (fun k => ?_) hk
    simp only [impl_SumMore.l1]; rw [if_neg (by omega)]
  | d + 1, j, x0, h0, h, hk => by
    refine Ev.step (f := fun k => impl_SumMore.l1 k (half x0) s i (j + 1)) (fun k => ?_) (impl_SumMore_l1 d (j + 1) (half x0) (by omega) (by omega) hk)
    simp only [impl_SumMore.l1]; rw [if_pos (by omega), w64 (x := j + 1) (by omega) (by omega)]
    unfold half
    split <;> rfl
theorem impl_SumMore_l0 (s : ByteArray) (hs : s.size ≤ 140737488351232) : ∀ (d i : Nat) (x0 : Int), i + d = s.size → Ev (fun k => impl_SumMore.l0 k x0 s i) (sumL x0 ((bytesOf s).drop i))
  | 0, i, x0, h => by
    refine Ev.step (f := fun k => some x0) (fun k => ?_) ((Ev.now _).eq ?_)
    · simp only [impl_SumMore.l0]; rw [if_neg (by omega)]
    · rw [List.drop_of_length_le (by rw [bytesOf_length]; omega)]; rfl
  | d + 1, i, x0, h => by
    refine Ev.step (f := fun k => impl_SumMore.l1 k (Go.bits .xor .u32 x0 (bt s i % 4294967296)) s i 0) (fun k => ?_) (impl_SumMore_l1 8 0 _ (by omega) (by omega) ?_)
    · simp only [impl_SumMore.l0]; rw [if_pos (by omega), if_pos (by omega)]
    · rw [w64 (x := (i : Int) + 1) (by omega) (by omega)]
      have := impl_SumMore_l0 s hs d (i + 1) (halves 8 (Go.bits .xor .u32 x0 (bt s i % 4294967296))) (by omega)
      rw [bytes_drop (by omega)]
      exact this
theorem impl_SumMore_ev (x : Int) (s : ByteArray) (hs : s.size ≤ 140737488351232) : Ev (fun k => impl_SumMore.f k x s) (sumL x (bytesOf s)) := by
  have := impl_SumMore_l0 s hs s.size 0 x (by omega)
  exact this
theorem impl_SumOf_ev (s : ByteArray) (hs : s.size ≤ 140737488351232) : Ev (fun k => impl_SumOf.f k s) (sumOf s) := by
  unfold impl_SumOf.f
  exact Ev.bind (impl_SumMore_ev _ s hs) (Ev.now _)
theorem impl_Sealed_ev (s : ByteArray) : Ev (fun k => impl_Sealed.f k s) (sealed s) := by
  unfold impl_Sealed.f sealed
  by_cases h : s.size ≤ 20000
  · rw [if_pos h]
    refine Ev.neg (by omega) (Ev.bind (impl_SumOf_ev s (by omega)) (Ev.bind0 (a := fourL (sumOf s)) rfl (Ev.is ?_)))
    show (if s.size + (four (sumOf s)).size ≤ _ then some (s ++ four (sumOf s), true) else none) = _
    rw [if_pos (by rw [four_size]; omega)]
  · rw [if_neg h]; exact Ev.pos (by omega) (Ev.now _)
theorem impl_Unsealed_ev (s : ByteArray) (hs : s.size ≤ 140737488351232) : Ev (fun k => impl_Unsealed.f k s) (unsealed s) := by
  unfold impl_Unsealed.f
  rw [w64 (x := (s.size : Int) - 4) (by omega) (by omega)]
  by_cases h1 : 4 ≤ s.size
  · refine Ev.neg (by omega) (Ev.pos (by omega) (Ev.pos (by omega) ?_))
    have e : ((s.size : Int) - 4).toNat = s.size - 4 := by omega
    rw [e]
    have hz := size_extract s 0 (s.size - 4) (by omega) (by omega)
    refine Ev.bind (impl_Sealed_ev _) (Ev.is ?_)
    unfold unsealed
    by_cases h2 : s.size ≤ 20004
    · rw [sealed_ok (by omega)]
      simp only [if_true]
      have hc := cut_at s (s.size - 4) (by omega)
      by_cases h3 : s.extract (s.size - 4) s.size = four (sumOf (s.extract 0 (s.size - 4)))
      · rw [if_pos, if_pos ⟨h1, h2, h3⟩]
        rw [toList_iff, ← h3, hc]
      · rw [if_neg, if_neg (fun e => h3 e.2.2)]
        intro e
        rw [toList_iff] at e
        exact h3 (append_left_inj (hc.trans e.symm))
    · rw [sealed_no (by omega), if_neg (c := _ ∧ _) (fun e => h2 e.2.1)]; simp
  · refine Ev.pos (by omega) (Ev.is ?_)
    rw [unsealed, if_neg (by omega)]
theorem impl_VarText_l0 : ∀ (n : Nat) (acc : List Int), acc.length + n < 140737488355328 → Ev (fun k => impl_VarText.l0 k (n : Int) acc) (strOfNums (acc ++ varL n), true) := by
  intro n
  induction n using Nat.strongRecOn with
  | _ n ih =>
    intro acc ha
    by_cases h : 127 < n
    · refine Ev.step (f := fun k => impl_VarText.l0 k ((n / 128 : Nat) : Int) (acc ++ [((n % 128 + 128 : Nat) : Int)])) (fun k => ?_) ?_
      · simp only [impl_VarText.l0]
        rw [if_pos (by omega), if_pos (by omega), td (by omega), tm (by omega)]
        rw [w64 (x := (n : Int) / 128) (by omega) (by omega), w64 (x := (n : Int) % 128 + 128) (by omega) (by omega)]
        congr 3
        omega
      · refine (ih (n / 128) (by omega) _ (by simp; omega)).eq ?_
        rw [varL_big h, List.append_assoc]; rfl
    · refine Ev.step (f := fun k => some (strOfNums (acc ++ varL n), true)) (fun k => ?_) (Ev.now _)
      simp only [impl_VarText.l0]
      rw [if_neg (by omega), if_pos (by omega), varL_small h]
      congr 5
      omega
theorem impl_VarText_ev (n : Int) : Ev (fun k => impl_VarText.f k n) (varText n) := by
  unfold impl_VarText.f
  refine Ev.bind0 (impl_within_is _ _ _) ?_
  by_cases h : 0 ≤ n ∧ n ≤ 1000000000
  · refine Ev.pos (inR_iff.2 h) ?_
    have := impl_VarText_l0 n.toNat [] (by simp; omega)
    rw [Int.toNat_of_nonneg h.1] at this
    refine this.eq ?_
    rw [varText, if_pos h]; rfl
  · refine Ev.neg (fun e => h (inR_iff.1 e)) (Ev.is ?_)
    rw [varText, if_neg h]
theorem impl_ReadVar_l0 (s : ByteArray) (hs : s.size ≤ 140737488351232) (a : Nat) : ∀ (f i n : Nat), i + f = 5 → n < 128 ^ i → a + i ≤ s.size →
    Ev (fun k => impl_ReadVar.l0 k s (a : Int) (n : Int) (i : Int))
      (match rvL f i n ((bytesOf s).drop (a + i)) with | some (n, m) => ((n : Int), (a : Int) + m, true) | none => (0, 0, false))
  | 0, i, n, hi, hn, h1 => by
    refine Ev.step (f := fun k => impl_ReadVar.j1 k s (a : Int) (n : Int) (i : Int) false) (fun k => ?_) ?_
    · simp only [impl_ReadVar.l0]
      rw [if_neg (by omega)]
    · refine Ev.step (f := fun _ => some (0, 0, false)) (fun k => ?_) (Ev.now _)
      simp only [impl_ReadVar.j1]; rfl
  | f + 1, i, n, hi, hn, h1 => by
    by_cases hlt : a + i < s.size
    · have hr := bt_range s ((a + i : Nat) : Int)
      have hp := pow_bound (i := i) (by omega)
      have hm := mul_bound (bt s ((a + i : Nat) : Int)).toNat (128 ^ i) hp.1
      have ei : (a : Int) + (i : Int) = ((a + i : Nat) : Int) := by omega
      rw [bytes_drop hlt]
      refine Ev.step (f := fun k => impl_ReadVar.j1 k s (a : Int) (n : Int) (i : Int) true) (fun k => ?_) ?_
      · simp only [impl_ReadVar.l0]
        rw [if_pos (by omega), w64 (x := (a : Int) + i) (by omega) (by omega)]
        rw [show decide ((a : Int) + i < (s.size : Int)) = true from by simp; omega]
      have hb : wrap64 (bt s ((a + i : Nat) : Int)) = bt s ((a + i : Nat) : Int) := w64 (by omega) (by omega)
      have e0 : shl .i64 (Int.tmod (bt s ((a + i : Nat) : Int)) 128) (7 * (i : Int)) = (((bt s ((a + i : Nat) : Int)).toNat % 128 * 128 ^ i : Nat) : Int) := by
        unfold shl
        rw [tm (by omega), i64_w, show (7 * (i : Int)).toNat = 7 * i from by omega, show min (7 * i) IntKind.i64.bits = 7 * i from by simp [IntKind.bits]; omega]
        have e7 : (2 : Int) ^ (7 * i) = ((128 ^ i : Nat) : Int) := by
          rw [show (128 : Nat) = 2 ^ 7 from rfl, ← Nat.pow_mul]; simp
        rw [e7, Int.natCast_mul, w64]
        · congr 1; omega
        · have := Int.mul_nonneg (a := bt s ((a + i : Nat) : Int) % 128) (b := ((128 ^ i : Nat) : Int)) (by omega) (by omega)
          omega
        · have e8 : bt s ((a + i : Nat) : Int) % 128 = (((bt s ((a + i : Nat) : Int)).toNat % 128 : Nat) : Int) := by omega
          rw [e8, ← Int.natCast_mul]; omega
      generalize hc : (bt s ((a + i : Nat) : Int)).toNat % 128 * 128 ^ i = q at *
      have e2 : wrap64 ((n : Int) + shl .i64 (Int.tmod (wrap64 (bt s ((a + i : Nat) : Int))) 128) (wrap64 (7 * (i : Int)))) = ((n + q : Nat) : Int) := by
        rw [hb, w64 (x := 7 * (i : Int)) (by omega) (by omega), e0, w64 (by omega) (by omega)]; omega
      by_cases hb' : bt s ((a + i : Nat) : Int) < 128
      · simp only [rvL, if_pos hb', hc]
        refine Ev.step (f := fun k => (impl_VarText.f k ((n + q : Nat) : Int)).bind fun bt => (if bt.2 = true then (if (bt.1.size : Int) = (i : Int) + 1 then some (((n + q : Nat) : Int), ((a + i + 1 : Nat) : Int), true) else some (0, 0, false)) else some (0, 0, false))) (fun k => ?_) ?_
        · simp only [impl_ReadVar.j1, if_true]
          rw [w64 (x := (a : Int) + i) (by omega) (by omega), ei, if_pos (by omega), if_pos (by omega), if_pos (by rw [w64 (by omega) (by omega)]; omega), hb, if_pos hb']
          rw [hb] at e2
          rw [e2, w64 (x := (i : Int) + 1) (by omega) (by omega), w64 (x := ((a + i : Nat) : Int) + 1) (by omega) (by omega)]
          rfl
        · refine Ev.bind (impl_VarText_ev _) (Ev.is ?_)
          by_cases hM : n + q ≤ 1000000000
          · rw [varText_ok (by omega) (by omega), Int.toNat_natCast]
            simp only [if_true, vt_size]
            by_cases hq : (varL (n + q)).length = i + 1
            · rw [if_pos (by omega), if_pos ⟨hM, hq⟩]
              simp only [Option.some.injEq, Prod.mk.injEq, and_true, true_and]; omega
            · rw [if_neg (by omega), if_neg (fun e => hq e.2)]
          · rw [varText_no (by omega), if_neg (c := _ ∧ _) (fun e => hM e.1)]; simp
      · simp only [rvL, if_neg hb', hc]
        refine Ev.step (f := fun k => impl_ReadVar.l0 k s (a : Int) ((n + q : Nat) : Int) ((i + 1 : Nat) : Int)) (fun k => ?_) (impl_ReadVar_l0 s hs a f (i + 1) (n + q) (by omega) ?_ (by omega))
        · simp only [impl_ReadVar.j1, if_true]
          rw [w64 (x := (a : Int) + i) (by omega) (by omega), ei, if_pos (by omega), if_pos (by omega), if_pos (by rw [w64 (by omega) (by omega)]; omega), hb, if_neg hb']
          rw [hb] at e2
          rw [e2, w64 (x := (i : Int) + 1) (by omega) (by omega)]
          rfl
        · rw [Nat.pow_succ, ← hc]
          have h2 : (bt s ((a + i : Nat) : Int)).toNat % 128 ≤ 127 := by omega
          have h3 := Nat.mul_le_mul_right (128 ^ i) h2
          omega
    · rw [List.drop_of_length_le (by rw [bytesOf_length]; omega)]
      refine Ev.step (f := fun k => impl_ReadVar.j1 k s (a : Int) (n : Int) (i : Int) false) (fun k => ?_) ?_
      · simp only [impl_ReadVar.l0]
        rw [if_pos (by omega), w64 (x := (a : Int) + i) (by omega) (by omega)]
        rw [show decide ((a : Int) + i < (s.size : Int)) = false from by simp; omega]
      · refine Ev.step (f := fun _ => some (0, 0, false)) (fun k => ?_) (Ev.now _)
        simp only [impl_ReadVar.j1]; rfl
theorem impl_ReadVar_ev (s : ByteArray) (hs : s.size ≤ 140737488351232) (a : Int) : Ev (fun k => impl_ReadVar.f k s a) (readVar s a) := by
  unfold impl_ReadVar.f readVar
  refine Ev.bind0 (impl_within_is _ _ _) ?_
  by_cases h : 0 ≤ a ∧ a ≤ (s.size : Int)
  · rw [if_pos h]
    refine Ev.pos (inR_iff.2 h) ?_
    have := impl_ReadVar_l0 s hs a.toNat 5 0 0 rfl (by simp) (by omega)
    simp only [Nat.add_zero, Int.toNat_of_nonneg h.1] at this
    exact this
  · rw [if_neg h]
    exact Ev.neg (fun e => h (inR_iff.1 e)) (Ev.now _)
theorem impl_reader_num_ev (s : ByteArray) (hs : s.size ≤ 140737488351232) (a : Int) (b : Bool) : Ev (fun k => impl_reader_num.f k s a b) (varC s a b) := by
  unfold impl_reader_num.f varC
  refine Ev.bind (impl_ReadVar_ev s hs a) (Ev.is ?_)
  split <;> (try split) <;> simp_all
theorem impl_ConfOk_l0 (l : List Int) (hl : l.length ≤ 35184372088832) : ∀ (d i : Nat) (p : Int), i + d = l.length → (i = 0 → p = 0) → (0 < i → p = rd l ((i - 1 : Nat) : Int)) →
    Ev (fun k => impl_ConfOk.l0 k l l (l.length : Int) (i : Int)) (decide (1 ≤ l.length ∧ l.length ≤ 4) && riseF p (l.drop i))
  | 0, i, p, h, h0, h1 => by
    refine Ev.step (f := fun k => some (decide (1 ≤ l.length ∧ l.length ≤ 4))) (fun k => ?_) ((Ev.now _).eq ?_)
    · simp only [impl_ConfOk.l0]; rw [if_neg (by omega), impl_within_is, Option.bind_some]
      congr 1
      unfold inR
      congr 1
      simp only [eq_iff_iff]
      omega
    · rw [List.drop_of_length_le (by omega)]; simp [riseF]
  | d + 1, i, p, h, h0, h1 => by
    rw [rd_drop (l := l) (by omega)]
    have ih := impl_ConfOk_l0 l hl d (i + 1) (rd l (i : Int)) (by omega) (by omega) (fun _ => by simp)
    by_cases hin : 1 ≤ rd l (i : Int) ∧ rd l (i : Int) ≤ 4
    · by_cases hi : 0 < i
      · have hp := h1 hi
        have ei : wrap64 ((i : Int) - 1) = ((i - 1 : Nat) : Int) := by rw [w64 (by omega) (by omega)]; omega
        by_cases hlt : p < rd l (i : Int)
        · refine Ev.step (f := fun k => impl_ConfOk.l0 k l l (l.length : Int) ((i + 1 : Nat) : Int)) (fun k => ?_) (ih.eq ?_)
          · simp only [impl_ConfOk.l0]
            rw [if_pos (by omega), if_pos (by omega), if_pos (by omega), impl_within_is, Option.bind_some, if_pos (inR_iff.2 hin), if_pos (by omega), ei, if_pos (by omega), if_pos (by omega), if_neg (by omega)]
            rw [w64 (x := (i : Int) + 1) (by omega) (by omega)]; rfl
          · simp only [riseF]; rw [decide_eq_true (p := _ ∧ _ ∧ _) ⟨hin.1, hin.2, hlt⟩, Bool.true_and]
        · refine Ev.step (f := fun k => some false) (fun k => ?_) ((Ev.now _).eq ?_)
          · simp only [impl_ConfOk.l0]
            rw [if_pos (by omega), if_pos (by omega), if_pos (by omega), impl_within_is, Option.bind_some, if_pos (inR_iff.2 hin), if_pos (by omega), ei, if_pos (by omega), if_pos (by omega), if_pos (by omega)]
          · simp only [riseF]; rw [decide_eq_false (p := _ ∧ _ ∧ _) (fun e => hlt e.2.2), Bool.false_and, Bool.and_false]
      · have hp := h0 (by omega)
        refine Ev.step (f := fun k => impl_ConfOk.l0 k l l (l.length : Int) ((i + 1 : Nat) : Int)) (fun k => ?_) (ih.eq ?_)
        · simp only [impl_ConfOk.l0]
          rw [if_pos (by omega), if_pos (by omega), if_pos (by omega), impl_within_is, Option.bind_some, if_pos (inR_iff.2 hin), if_neg (by omega)]
          rw [w64 (x := (i : Int) + 1) (by omega) (by omega)]; rfl
        · simp only [riseF]; rw [decide_eq_true (p := _ ∧ _ ∧ _) ⟨hin.1, hin.2, by omega⟩, Bool.true_and]
    · refine Ev.step (f := fun k => some false) (fun k => ?_) ((Ev.now _).eq ?_)
      · simp only [impl_ConfOk.l0]
        rw [if_pos (by omega), if_pos (by omega), if_pos (by omega), impl_within_is, Option.bind_some, if_neg (fun e => hin (inR_iff.1 e))]
      · simp only [riseF]; rw [decide_eq_false (p := _ ∧ _ ∧ _) (fun e => hin ⟨e.1, e.2.1⟩), Bool.false_and, Bool.and_false]
theorem impl_ConfOk_ev (l : List Int) (hl : l.length ≤ 35184372088832) : Ev (fun k => impl_ConfOk.f k l) (confOk l) := by
  have := impl_ConfOk_l0 l hl l.length 0 0 (by omega) (fun _ => rfl) (fun h => absurd h (by omega))
  exact this
theorem impl_ReadConf_l0 (s : ByteArray) (hs : s.size ≤ 17592186044416) : ∀ (d i : Nat), i + d = s.size →
    Ev (fun k => impl_ReadConf.l0 k s ((bytesOf s).take i) (i : Int)) (readConf s)
  | 0, i, h => by
    have e : (bytesOf s).take i = bytesOf s := List.take_of_length_le (by rw [bytesOf_length]; omega)
    rw [e]
    refine Ev.step (f := fun k => (impl_ConfOk.f k (bytesOf s)).bind fun t => if t = true then some (bytesOf s, true) else some ([], false)) (fun k => ?_) (Ev.bind (impl_ConfOk_ev _ (by rw [bytesOf_length]; omega)) (Ev.is ?_))
    · simp only [impl_ReadConf.l0]; rw [if_neg (by omega)]
    · unfold readConf
      by_cases h : confOk (bytesOf s) = true
      · rw [if_pos h, if_pos h]
      · rw [if_neg h, if_neg h]
  | d + 1, i, h => by
    have hr := bt_range s (i : Int)
    have hl : ((bytesOf s).take i).length = i := by rw [List.length_take, bytesOf_length]; omega
    refine Ev.step (f := fun k => impl_ReadConf.l0 k s ((bytesOf s).take (i + 1)) ((i + 1 : Nat) : Int)) (fun k => ?_) (impl_ReadConf_l0 s hs d (i + 1) (by omega))
    simp only [impl_ReadConf.l0]
    rw [if_pos (by omega), if_pos (by omega), if_pos (by omega), w64 (x := (i : Int) + 1) (by omega) (by omega), w64 (x := bt s i) (by omega) (by omega)]
    have e := Led.take_succ (s := s) (a := 0) (i := i) (by omega)
    rw [List.drop_zero, Nat.zero_add] at e
    rw [e]; rfl
theorem impl_ReadConf_ev (s : ByteArray) (hs : s.size ≤ 17592186044416) : Ev (fun k => impl_ReadConf.f k s) (readConf s) := by
  have := impl_ReadConf_l0 s hs s.size 0 (by omega)
  rw [List.take_zero] at this
  exact this
theorem impl_ReadShort_ev (s : ByteArray) (hs : s.size ≤ 140737488351232) (a : Int) : Ev (fun k => impl_ReadShort.f k s a) (readShort s a) := by
  unfold impl_ReadShort.f readShort
  refine Ev.bind (impl_ReadVar_ev s hs a) (Ev.is ?_)
  rcases readVar_cases s a with h | ⟨n, m, h, hn, hm, ha, hb, _⟩
  · rw [h]; rfl
  · rw [h]
    simp only [if_true, true_and]
    rw [w64 (x := (s.size : Int) - (a + m)) (by omega) (by omega), w64 (x := a + (m : Int) + n) (by omega) (by omega)]
    by_cases h1 : (n : Int) ≤ 20000
    · by_cases h2 : (n : Int) ≤ (s.size : Int) - (a + m)
      · rw [if_neg (by omega), if_neg (by omega), if_pos (by omega), if_pos (by omega), if_pos (by omega), if_pos ⟨h1, h2⟩]
      · rw [if_neg (by omega), if_pos (by omega), if_neg (fun e => h2 e.2)]
    · rw [if_pos (by omega), if_neg (fun e => h1 e.1)]
theorem impl_reader_text_ev (s : ByteArray) (hs : s.size ≤ 140737488351232) (a : Int) (b : Bool) : Ev (fun k => impl_reader_text.f k s a b) (textC s a b) := by
  unfold impl_reader_text.f textC
  refine Ev.bind (impl_ReadShort_ev s hs a) (Ev.is ?_)
  split <;> (try split) <;> simp_all
theorem impl_ConfText_l0 (l : List Int) (hl : l.length ≤ 35184372088832) : ∀ (d i : Nat) (acc : List Int), i + d = l.length → acc.length ≤ i →
    Ev (fun k => impl_ConfText.l0 k acc l (l.length : Int) (i : Int)) (strOfNums (acc ++ (l.drop i).map (· % 256)), true)
  | 0, i, acc, h, ha => by
    refine Ev.step (f := fun k => some (strOfNums acc, true)) (fun k => ?_) ((Ev.now _).eq ?_)
    · simp only [impl_ConfText.l0]; rw [if_neg (by omega)]
    · rw [List.drop_of_length_le (by omega)]; simp
  | d + 1, i, acc, h, ha => by
    refine Ev.step (f := fun k => impl_ConfText.l0 k (acc ++ [rd l i % 256]) l (l.length : Int) ((i + 1 : Nat) : Int)) (fun k => ?_) ((impl_ConfText_l0 l hl d (i + 1) _ (by omega) (by simp; omega)).eq ?_)
    · simp only [impl_ConfText.l0]
      rw [if_pos (by omega), if_pos (by omega), if_pos (by omega), if_pos (by omega), w64 (x := (i : Int) + 1) (by omega) (by omega)]
      rfl
    · rw [rd_drop (l := l) (i := i) (by omega)]; simp
theorem impl_ConfText_ev (l : List Int) (hl : l.length ≤ 35184372088832) : Ev (fun k => impl_ConfText.f k l) (confT l) := by
  unfold impl_ConfText.f confT
  refine Ev.bind (impl_ConfOk_ev l hl) ?_
  by_cases h : confOk l = true
  · rw [if_pos h]
    refine Ev.pos h ?_
    exact impl_ConfText_l0 l hl l.length 0 [] (by omega) (by simp)
  · rw [if_neg h]; exact Ev.neg h (Ev.now _)
theorem impl_vars_l0 (l : List Int) (hl : l.length ≤ 1048576) : ∀ (d i : Nat) (acc : List Int), i + d = l.length → acc.length ≤ 5 * i →
    Ev (fun k => impl_vars.l0 k acc l (l.length : Int) (i : Int)) (match varsL (l.drop i) with | some m => (strOfNums (acc ++ m), true) | none => (⟨#[]⟩, false))
  | 0, i, acc, h, ha => by
    refine Ev.step (f := fun k => some (strOfNums acc, true)) (fun k => ?_) ((Ev.now _).eq ?_)
    · simp only [impl_vars.l0]; rw [if_neg (by omega)]
    · rw [List.drop_of_length_le (by omega)]; simp [varsL]
  | d + 1, i, acc, h, ha => by
    rw [rd_drop (l := l) (i := i) (by omega)]
    generalize hx : rd l (i : Int) = x
    refine Ev.step (f := fun k => (impl_VarText.f k x).bind fun bt => (if bt.2 = true then (if acc.length + bt.1.size < 140737488355328 then (impl_vars.l0 k (acc ++ bytesOf bt.1) l (l.length : Int) ((i + 1 : Nat) : Int)) else none) else some (⟨#[]⟩, false))) (fun k => ?_) (Ev.bind (impl_VarText_ev x) ?_)
    · simp only [impl_vars.l0]
      rw [if_pos (by omega), if_pos (by omega), if_pos (by omega), hx, w64 (x := (i : Int) + 1) (by omega) (by omega)]; rfl
    · by_cases hr : 0 ≤ x ∧ x ≤ 1000000000
      · have h5 := vt_size5 x.toNat (by omega)
        have hv : (varL x.toNat).length ≤ 5 := by rw [← vt_size]; exact h5
        rw [varText_ok hr.1 hr.2]
        refine Ev.pos rfl (Ev.pos (by show acc.length + (vt x.toNat).size < _; omega) ((impl_vars_l0 l hl d (i + 1) (acc ++ bytesOf (vt x.toNat)) (by omega) (by rw [List.length_append, bytes_vt]; omega)).eq ?_))
        simp only [varsL, if_pos hr]
        cases varsL (l.drop (i + 1)) with
        | none => rfl
        | some m => simp [bytes_vt]
      · rw [varText_no hr]
        refine Ev.neg (by simp) ((Ev.now _).eq ?_)
        simp only [varsL, if_neg hr]
theorem impl_vars_two {a b : Int} (ha : 0 ≤ a ∧ a ≤ 1000000000) (hb : 0 ≤ b ∧ b ≤ 1000000000) : Ev (fun k => impl_vars.f k ([a, b] : List Int)) (vt a.toNat ++ vt b.toNat, true) := by
  have := impl_vars_l0 [a, b] (by simp) 2 0 [] (by simp) (by simp)
  rw [List.drop_zero, varsL_two ha hb] at this
  simp only [List.nil_append, str_append] at this
  exact this
theorem impl_ShortText_ev (s : ByteArray) : Ev (fun k => impl_ShortText.f k s) (shortText s) := by
  unfold impl_ShortText.f shortText
  by_cases h : s.size ≤ 20000
  · rw [if_pos h]
    refine Ev.neg (by omega) (Ev.bind (impl_VarText_ev (s.size : Int)) (Ev.is ?_))
    have := vt_size5 s.size (by omega)
    rw [varText_ok (by omega) (by omega), Int.toNat_natCast]
    simp only
    rw [if_pos (by omega)]
  · rw [if_neg h]; exact Ev.pos (by omega) (Ev.now _)
theorem impl_SnapText_ev (i t : Int) (l : List Int) (body : ByteArray) (hl : l.length ≤ 35184372088832) (hb : body.size ≤ 1048576) : Ev (fun k => impl_SnapText.f k i t l body) (snapText i t l body) := by
  have no : ∀ c x, ¬ (confOk l = true ∧ (0 ≤ i ∧ i ≤ 1000000) ∧ (0 ≤ t ∧ t ≤ 100000) ∧ body.size ≤ 20000) → x = true → Ev (fun k => impl_SnapText.j0 k c x i t l body) (snapText i t l body) := by
    intro c x h hx
    rw [snapText, if_neg (fun e => h e.1), hx]
    exact Ev.step (fun k => rfl) (Ev.now _)
  unfold impl_SnapText.f
  refine Ev.bind (impl_ConfText_ev l hl) ?_
  by_cases h0 : confOk l = true
  · refine Ev.pos (by rw [confT_ok h0]) (Ev.bind0 (impl_within_is _ _ _) ?_)
    by_cases h1 : 0 ≤ i ∧ i ≤ 1000000
    · refine Ev.pos (inR_iff.2 h1) (Ev.bind0 (impl_within_is _ _ _) ?_)
      by_cases h2 : 0 ≤ t ∧ t ≤ 100000
      · refine Ev.pos (inR_iff.2 h2) ?_
        by_cases h3 : body.size ≤ 20000
        · rw [decide_eq_false (p := (body.size : Int) > 20000) (by omega)]
          have hc := confT_size h0
          have v1 := vt_size5 i.toNat (by omega)
          have v2 := vt_size5 t.toNat (by omega)
          have v3 := vt_size5 (confT l).1.size (by omega)
          have v4 := vt_size5 body.size (by omega)
          have s1 : shortText (confT l).1 = (vt (confT l).1.size ++ (confT l).1, true) := by rw [shortText, if_pos (by omega)]
          have s2 : shortText body = (vt body.size ++ body, true) := by rw [shortText, if_pos (by omega)]
          have hz : (snapIn i t (confT l).1 body).size = (vt i.toNat).size + (vt t.toNat).size + ((vt (confT l).1.size).size + (confT l).1.size) + ((vt body.size).size + body.size) := by
            simp only [snapIn, size_append]
          refine Ev.step (fun k => rfl) (Ev.bind (impl_vars_two (by omega) (by omega)) (Ev.bind (impl_ShortText_ev _) (Ev.bind (impl_ShortText_ev body) ?_)))
          rw [s1, s2]
          refine Ev.pos (by simp only [size_append]; omega) (Ev.pos (by simp only [size_append]; omega) ?_)
          change Ev (fun k => (impl_Sealed.f k (snapIn i t (confT l).1 body)).bind fun bt => (if bt.2 = true then (if (bt.1.size : Int) > 20000 then some ((⟨#[]⟩ : ByteArray), false) else some (bt.1, true)) else some ((⟨#[]⟩ : ByteArray), false))) _
          refine Ev.bind (impl_Sealed_ev _) (Ev.is ?_)
          by_cases h4 : (snapIn i t (confT l).1 body).size + 4 ≤ 20000
          · have e : snapText i t l body = (snapIn i t (confT l).1 body ++ four (sumOf (snapIn i t (confT l).1 body)), true) := by rw [snapText, if_pos ⟨⟨h0, h1, h2, h3⟩, h4⟩]
            rw [e, sealed_ok (by omega)]
            simp only [if_true]
            rw [if_neg (by rw [size_append, four_size]; omega)]
          · have e : snapText i t l body = (⟨#[]⟩, false) := by rw [snapText, if_neg (fun e => h4 e.2)]
            rw [e]
            by_cases h5 : (snapIn i t (confT l).1 body).size ≤ 20000
            · rw [sealed_ok h5]
              simp only [if_true]
              rw [if_pos (by rw [size_append, four_size]; omega)]
            · rw [sealed_no h5]; simp
        · exact no _ _ (fun e => h3 e.2.2.2) (decide_eq_true (by omega))
      · exact Ev.neg (fun e => h2 (inR_iff.1 e)) (no _ _ (fun e => h2 e.2.2.1) rfl)
    · exact Ev.neg (fun e => h1 (inR_iff.1 e)) (no _ _ (fun e => h1 e.2.1) rfl)
  · exact Ev.neg (by rw [confT_no h0]; simp) (no _ _ (fun e => h0 e.1) rfl)
theorem conf_len' (s : ByteArray) : (readConf s).1.length ≤ 4 := by
  unfold readConf
  split
  · rename_i h; exact (confOk_len h).2
  · simp
theorem textC_at {s : ByteArray} {a : Int} (b : Bool) (h : 0 ≤ a ∧ a ≤ (s.size : Int)) : (textC s a b).2.1 = s ∧ (textC s a b).1.size ≤ s.size ∧ (0 ≤ (textC s a b).2.2.1 ∧ (textC s a b).2.2.1 ≤ (s.size : Int)) := by
  have z0 : (⟨#[]⟩ : ByteArray).size = 0 := rfl
  unfold textC readShort
  cases b with
  | true => simp [z0]; exact h
  | false =>
    rcases readVar_cases s a with e | ⟨n, m, e, hn, hm, ha, hb, _⟩
    · rw [e]; simp [z0]; exact h
    · rw [e]
      simp only [Bool.false_eq_true, if_false, true_and]
      by_cases h1 : (n : Int) ≤ 20000 ∧ (n : Int) ≤ (s.size : Int) - (a + m)
      · rw [if_pos h1]
        simp only [if_true, true_and]
        rw [size_extract _ _ _ (by omega) (by omega)]; omega
      · rw [if_neg h1]
        simp [z0]; exact h
theorem impl_ReadSnap_ev (text : ByteArray) (hs : text.size ≤ 140737488351232) : Ev (fun k => impl_ReadSnap.f k text) (implSnap text) := by
  unfold impl_ReadSnap.f implSnap
  simp only
  have hz := uns_size text
  refine Ev.bind (impl_Unsealed_ev text hs) ?_
  generalize (unsealed text).1 = s at *
  generalize (unsealed text).2 = ok at *
  cases ok with
  | false => rw [if_neg (by simp)]; exact Ev.neg (by simp) (Ev.now _)
  | true =>
    rw [if_pos rfl]
    refine Ev.pos rfl ?_
    have h1 := varC_at (s := s) (a := 0) false ⟨by omega, by omega⟩
    refine Ev.bind (impl_reader_num_ev s (by omega) 0 false) ?_
    rw [h1.1]
    generalize varC s 0 false = v1 at *
    have h2 := varC_at (s := s) v1.2.2.2 h1.2.2
    refine Ev.bind (impl_reader_num_ev s (by omega) _ _) ?_
    rw [h2.1]
    generalize varC s v1.2.2.1 v1.2.2.2 = v2 at *
    have h3 := textC_at (s := s) v2.2.2.2 h2.2.2
    refine Ev.bind (impl_reader_text_ev s (by omega) _ _) ?_
    rw [h3.1]
    generalize textC s v2.2.2.1 v2.2.2.2 = v3 at *
    refine Ev.bind (impl_ReadConf_ev v3.1 (by omega)) ?_
    have h4 := textC_at (s := s) v3.2.2.2 h3.2.2
    refine Ev.bind (impl_reader_text_ev s (by omega) _ _) ?_
    generalize textC s v3.2.2.1 v3.2.2.2 = v4 at *
    have hc := conf_len' v3.1
    refine Ev.bind (impl_SnapText_ev _ _ _ _ (by omega) (by omega)) (Ev.is ?_)
    unfold finSnap noSnap
    split <;> (try split) <;> (try split) <;> rfl
theorem impl_NewestSnap_l0 (l : List IFi) (hk : diskOk l = true) : ∀ (d i : Nat) (st : Option Sn), i + d = l.length →
    Ev (fun k => impl_NewestSnap.l0 k st.isSome l (l.length : Int) (i : Int) (sM st).1 (sM st).2.1 (sM st).2.2.1 (sM st).2.2.2) (outS ((l.drop i).foldl nw st)) := by
  have hf := disk_files hk
  have hl := hf.1
  intro d
  induction d with
  | zero =>
    intro i st h
    rw [List.drop_of_length_le (by omega), List.foldl_nil]
    refine Ev.step (f := fun k => some ((sM st).1, (sM st).2.1, (sM st).2.2.1, (sM st).2.2.2, st.isSome)) (fun k => ?_) ((Ev.now _).eq ?_)
    · simp only [impl_NewestSnap.l0]; rw [if_neg (by omega)]
    · cases st <;> rfl
  | succ d ih =>
    intro i st h
    have hi : i < l.length := by omega
    have w4 : wrap64 ((i : Int) + 1) = ((i + 1 : Nat) : Int) := by rw [w64 (by omega) (by omega)]; omega
    have er : rd_T57 l (i : Int) = l[i] := rd_IFi hi
    have hx := hf.2 l[i] (List.getElem_mem _)
    rw [List.drop_eq_getElem_cons hi, List.foldl_cons]
    generalize l[i] = x at er hx
    have h1 := ih (i + 1) (nw st x) (by omega)
    have hr := impl_ReadSnap_ev x.f1 (by omega)
    have hnum : impl_numberOf.f x.f0 (⟨#[115]⟩ : ByteArray) 1000000 = some (numIx 115 1000000 x.f0) := impl_numberOf_is x.f0 115 1000000 (by omega)
    refine Ev.step (f := fun k => (impl_ReadSnap.f k x.f1).bind fun b => if numIx 115 1000000 x.f0 ≥ 0 then (if b.2.2.2.2 = true then (if b.1 = numIx 115 1000000 x.f0 then (if st.isSome = true then (if numIx 115 1000000 x.f0 > (sM st).1 then impl_NewestSnap.l0 k true l (l.length : Int) ((i + 1 : Nat) : Int) b.1 b.2.1 b.2.2.1 b.2.2.2.1 else impl_NewestSnap.l0 k st.isSome l (l.length : Int) ((i + 1 : Nat) : Int) (sM st).1 (sM st).2.1 (sM st).2.2.1 (sM st).2.2.2) else impl_NewestSnap.l0 k true l (l.length : Int) ((i + 1 : Nat) : Int) b.1 b.2.1 b.2.2.1 b.2.2.2.1) else impl_NewestSnap.l0 k st.isSome l (l.length : Int) ((i + 1 : Nat) : Int) (sM st).1 (sM st).2.1 (sM st).2.2.1 (sM st).2.2.2) else impl_NewestSnap.l0 k st.isSome l (l.length : Int) ((i + 1 : Nat) : Int) (sM st).1 (sM st).2.1 (sM st).2.2.1 (sM st).2.2.2) else impl_NewestSnap.l0 k st.isSome l (l.length : Int) ((i + 1 : Nat) : Int) (sM st).1 (sM st).2.1 (sM st).2.2.1 (sM st).2.2.2) (fun k => ?_) (Ev.bind hr ?_)
    · simp only [impl_NewestSnap.l0, er, w4, hnum, Option.bind_some]
      rw [if_pos (by omega), if_pos (Int.natCast_nonneg i), if_pos (by omega)]
    · have hno : ¬ nwC st x = true → nw st x = st := fun e => if_neg e
      by_cases c1 : 0 ≤ numIx 115 1000000 x.f0
      · refine Ev.pos c1 ?_
        by_cases c2 : (implSnap x.f1).2.2.2.2 = true
        · refine Ev.pos c2 ?_
          by_cases c3 : (implSnap x.f1).1 = numIx 115 1000000 x.f0
          · refine Ev.pos c3 ?_
            cases st with
            | none =>
              have e : nw none x = some ((implSnap x.f1).1, (implSnap x.f1).2.1, (implSnap x.f1).2.2.1, (implSnap x.f1).2.2.2.1) := if_pos (by unfold nwC newer; simp [c1, c2, c3])
              rw [e] at h1 ⊢
              exact Ev.neg (by simp) h1
            | some s =>
              refine Ev.pos rfl ?_
              by_cases c4 : s.1 < numIx 115 1000000 x.f0
              · have e : nw (some s) x = some ((implSnap x.f1).1, (implSnap x.f1).2.1, (implSnap x.f1).2.2.1, (implSnap x.f1).2.2.2.1) := if_pos (by unfold nwC newer; simp [c1, c2, c3, c4])
                rw [e] at h1 ⊢
                exact Ev.pos c4 h1
              · rw [hno (by unfold nwC newer; simp [c4])] at h1 ⊢
                exact Ev.neg c4 h1
          · rw [hno (by unfold nwC; simp [c3])] at h1 ⊢
            exact Ev.neg c3 h1
        · rw [hno (by unfold nwC; simp [c2])] at h1 ⊢
          exact Ev.neg c2 h1
      · rw [hno (by unfold nwC; simp [c1])] at h1 ⊢
        exact Ev.neg c1 h1
theorem impl_NewestSnap_ev (l : List IFi) (hl : l.length ≤ 1048577) : Ev (fun k => impl_NewestSnap.f k l) (newestL l) := by
  unfold impl_NewestSnap.f newestL
  refine Ev.bind (impl_DiskOk_ev l hl) ?_
  by_cases hk : diskOk l = true
  · rw [if_pos hk]
    exact Ev.pos hk (impl_NewestSnap_l0 l hk l.length 0 none (by omega))
  · rw [if_neg hk]; exact Ev.neg hk (Ev.now _)
theorem impl_ShedActs_l0 (l : List IFi) (hl : l.length ≤ 30) (hs : ∀ x ∈ l, x.f0.size ≤ 8) (i te : Int) (conf : List Int) (body : ByteArray) : ∀ (d j : Nat) (acc : List IAc), j + d = l.length → acc.length ≤ j →
    Ev (fun k => impl_ShedActs.l0 k acc l (l.length : Int) (j : Int) i te conf body) (acc ++ shedL (l.drop j) i) := by
  intro d
  induction d with
  | zero =>
    intro j acc h ha
    refine Ev.step (f := fun k => some acc) (fun k => ?_) ((Ev.now _).eq ?_)
    · simp only [impl_ShedActs.l0]; rw [if_neg (by omega)]
    · rw [List.drop_of_length_le (by omega)]; simp [shedL]
  | succ d ih =>
    intro j acc h ha
    have hj : j < l.length := by omega
    have w4 : wrap64 ((j : Int) + 1) = ((j + 1 : Nat) : Int) := by rw [w64 (by omega) (by omega)]; omega
    have er : rd_T57 l (j : Int) = l[j] := rd_IFi hj
    have hx := hs l[j] (List.getElem_mem _)
    rw [List.drop_eq_getElem_cons hj]
    have h1 := ih (j + 1) acc (by omega) (by omega)
    have h2 := ih (j + 1) (acc ++ [⟨4, l[j].f0, ⟨#[]⟩, ⟨#[]⟩⟩]) (by omega) (by simp; omega)
    generalize l[j] = x at er h2 hx
    have hnum : impl_numberOf.f x.f0 (⟨#[115]⟩ : ByteArray) 1000000 = some (numIx 115 1000000 x.f0) := impl_numberOf_is x.f0 115 1000000 (by omega)
    have hkeep : ∀ (hc : shedI i x = true), acc ++ [⟨4, x.f0, ⟨#[]⟩, ⟨#[]⟩⟩] ++ shedL (l.drop (j + 1)) i = acc ++ shedL (x :: l.drop (j + 1)) i := fun hc => by
      unfold shedL; rw [List.filter_cons_of_pos hc, List.map_cons, List.append_assoc]; rfl
    have hskip : ∀ (hc : ¬ shedI i x = true), acc ++ shedL (l.drop (j + 1)) i = acc ++ shedL (x :: l.drop (j + 1)) i := fun hc => by
      unfold shedL; rw [List.filter_cons_of_neg hc]
    by_cases h5 : x.f0.toList = ([115, 43] : List UInt8)
    · refine Ev.step (f := fun k => impl_ShedActs.l0 k (acc ++ [⟨4, x.f0, ⟨#[]⟩, ⟨#[]⟩⟩]) l (l.length : Int) ((j + 1 : Nat) : Int) i te conf body) (fun k => ?_) (h2.eq (hkeep (by unfold shedI; rw [h5]; simp)))
      simp only [impl_ShedActs.l0]
      rw [if_pos (by omega), if_pos (Int.natCast_nonneg j), if_pos (by omega), er, hnum, Option.bind_some, if_pos h5, if_pos (by omega), w4]
    · by_cases h3 : 0 ≤ numIx 115 1000000 x.f0
      · by_cases h4 : numIx 115 1000000 x.f0 = i
        · refine Ev.step (f := fun k => impl_ShedActs.l0 k acc l (l.length : Int) ((j + 1 : Nat) : Int) i te conf body) (fun k => ?_) (h1.eq (hskip (by unfold shedI; simp [h4, h5])))
          simp only [impl_ShedActs.l0]
          rw [if_pos (by omega), if_pos (Int.natCast_nonneg j), if_pos (by omega), er, hnum, Option.bind_some, if_neg h5, if_pos h3, if_pos h4, w4]
        · refine Ev.step (f := fun k => impl_ShedActs.l0 k (acc ++ [⟨4, x.f0, ⟨#[]⟩, ⟨#[]⟩⟩]) l (l.length : Int) ((j + 1 : Nat) : Int) i te conf body) (fun k => ?_) (h2.eq (hkeep (by unfold shedI; simp [h3, h4])))
          simp only [impl_ShedActs.l0]
          rw [if_pos (by omega), if_pos (Int.natCast_nonneg j), if_pos (by omega), er, hnum, Option.bind_some, if_neg h5, if_pos h3, if_neg h4, if_pos (by omega), w4]
      · refine Ev.step (f := fun k => impl_ShedActs.l0 k acc l (l.length : Int) ((j + 1 : Nat) : Int) i te conf body) (fun k => ?_) (h1.eq (hskip (by unfold shedI; simp [h3, h5])))
        simp only [impl_ShedActs.l0]
        rw [if_pos (by omega), if_pos (Int.natCast_nonneg j), if_pos (by omega), er, hnum, Option.bind_some, if_neg h5, if_neg h3, w4]
theorem impl_ShedActs_ev (l : List IFi) (hl : l.length ≤ 1048577) : Ev (fun k => impl_ShedActs.f k l) (shed l) := by
  unfold impl_ShedActs.f shed
  refine Ev.bind (impl_NewestSnap_ev l hl) ?_
  by_cases h : (newestL l).2.2.2.2 = true
  · have hk := newest_disk h
    have hf := disk_files hk
    rw [if_pos h, ← shed_eq _ l ((diskOk_iff l).1 hk).2.2]
    refine Ev.pos h ?_
    have := impl_ShedActs_l0 l hf.1 (fun x hx => (hf.2 x hx).1) (newestL l).1 (newestL l).2.1 (newestL l).2.2.1 (newestL l).2.2.2.1 l.length 0 [] (by omega) (by simp)
    simpa using this
  · rw [if_neg h]; exact Ev.neg h (Ev.now _)
theorem FnExactShedActs : laws_FnExactShedActs.Pure := by
  intro d hd
  obtain ⟨hl, hx⟩ := hd
  apply Ev.rounds
  unfold laws_FnExactShedActs.f
  obtain ⟨z, hz, hy⟩ := laws_szDisk_ev d 1048576 hl (fun x h => ⟨(hx x h).1, (hx x h).2.1⟩) (by omega) (by omega)
  refine Ev.bind hz ?_
  rcases hy with hy | ⟨h0, h1, h2, h3⟩
  · exact Ev.pos hy (Ev.now _)
  · have hm : (d.map toFi).length ≤ 1048576 := by simpa using h2
    have td := laws_toDisk_ev d h2
    have es := spec_ShedActs_ev (d.map toFi) (by omega)
    have ei := impl_ShedActs_ev (d.map toFi) (by omega)
    have hn : (shed (d.map toFi)).length ≤ 1048577 := by
      unfold shed
      split
      · rename_i h
        have h3 := diskOk_len (newest_disk h)
        have h1 := newA_len (d.map toFi)
        have h2 := dropsL_len (d.map toFi) (newestL (d.map toFi)).1
        rw [List.length_append]; omega
      · simp
    generalize shed (d.map toFi) = q at es ei hn
    have eq := laws_eqActS_ev q (by omega)
    refine Ev.neg (by omega) (Ev.bind td (Ev.bind es (Ev.bind td (Ev.bind ei (Ev.bind eq (Ev.pos rfl ?_))))))
    refine Ev.bind td (Ev.bind (laws_eqDisk_ev (d.map toFi) (by omega)) (Ev.pos rfl (Ev.bind (laws_markDisk_ev (d.map toFi) (by omega) 1 (by omega) (by omega)) (Ev.neg (by simp only; omega) (Ev.bind eq ?_)))))
    have held := laws_heldActS_ev q.length (by omega) 1 (by omega) (by omega)
    refine Ev.step (fun k => laws_FnExactShedActs.j0.eq_2 ..) (Ev.neg (by simp) (Ev.bind (laws_markActS_ev q (by omega) 1 (by omega) (by omega)) (Ev.bind held (Ev.neg (by omega) (Ev.pos rfl (Ev.bind td (Ev.bind ei (Ev.bind eq (Ev.pos rfl ?_)))))))))
    exact Ev.bind held (Ev.neg (by omega) (Ev.pos rfl (Ev.now _)))

end Go.Proofs.YtgnmlgoadkhceaaGreatDoor.Pure
