/- The law FnActs answers true at every input; no condition. -/
import Derived.Test.YthbaoefbccdioaaQFnActsx17
import Derived.Test.YthbaoefbccdioaaTM
import Derived.Test.YthbaoefbccdioaaTMDec
namespace Go.Proofs.Ythbaoefbccdioaa.Pure
open Go.RowKit Go.Proofs.Ythbaoefbccdioaa.QFnActs Go.Proofs.YthbaoefbccdioaaW.PrintWords Go.Proofs.YthbaoefbccdioaaW.PrintLast Go.Proofs.YthbaoefbccdioaaW.PrintMore Go.Proofs.Ythbaoefbccdioaa.M
set_option linter.unusedVariables false
set_option linter.unusedSimpArgs false
set_option maxRecDepth 4000

abbrev IFi := S76
theorem rd_IFi {l : List IFi} {i : Nat} (h : i < l.length) : rd_T76 l (i : Int) = l[i] := by
  simp [rd_T76, List.getD_eq_getElem?_getD, List.getElem?_eq_getElem h]
theorem rd_IFi_drop {l : List IFi} {i : Nat} (h : i < l.length) : l.drop i = rd_T76 l (i : Int) :: l.drop (i + 1) := by
  rw [List.drop_eq_getElem_cons h, rd_IFi h]
def fAt (l : List IFi) (s : ByteArray) : Int := M.idxP (fun x : IFi => x.f0.toList == s.toList) l 0
theorem spec_l03At_l0 (l : List IFi) (hl : l.length ≤ 1048577) (s : ByteArray) : ∀ (d i : Nat), i + d = l.length → Ev (fun k => spec_l03At.l0 k s (i : Int) l) (M.idxP (fun x : IFi => x.f0.toList == s.toList) (l.drop i) (i : Int))
  | 0, i, h => by
    refine Ev.step (f := fun k => some (-1)) (fun k => ?_) ((Ev.now _).eq ?_)
    · simp only [spec_l03At.l0]; rw [if_neg (by omega)]
    · rw [List.drop_of_length_le (by omega)]; rfl
  | d + 1, i, h => by
    rw [rd_IFi_drop (l := l) (i := i) (by omega)]
    by_cases e : (rd_T76 l (i : Int)).f0.toList = s.toList
    · refine Ev.step (f := fun k => some (i : Int)) (fun k => ?_) ((Ev.now _).eq ?_)
      · simp only [spec_l03At.l0]
        rw [if_pos (by omega), if_pos (by omega), if_pos e]
      · simp only [M.idxP]; rw [if_pos (by simpa using e)]
    · refine Ev.step (f := fun k => spec_l03At.l0 k s ((i + 1 : Nat) : Int) l) (fun k => ?_) ((spec_l03At_l0 l hl s d (i + 1) (by omega)).eq ?_)
      · simp only [spec_l03At.l0]
        rw [if_pos (by omega), if_pos (by omega), if_neg e, w64 (x := (i : Int) + 1) (by omega) (by omega)]; rfl
      · simp only [M.idxP]; rw [if_neg (by simpa using e)]; rfl
theorem spec_l03At_ev (l : List IFi) (hl : l.length ≤ 1048577) (s : ByteArray) : Ev (fun k => spec_l03At.f k l s) (fAt l s) := by
  unfold spec_l03At.f
  have := spec_l03At_l0 l hl s l.length 0 (by omega)
  rw [List.drop_zero] at this
  exact this
theorem fAt_cases (l : List IFi) (s : ByteArray) : fAt l s = -1 ∨ ∃ (k : Nat) (h : k < l.length), fAt l s = (k : Int) ∧ l[k].f0.toList = s.toList := by
  rcases M.idxP_cases (fun x : IFi => x.f0.toList == s.toList) l 0 with ⟨h, _⟩ | ⟨k, h, e, hk⟩
  · exact .inl h
  · exact .inr ⟨k, h, by unfold fAt; omega, by simpa using hk⟩
def fileAt (l : List IFi) (s : ByteArray) : ByteArray × Bool := if fAt l s < 0 then (⟨#[]⟩, false) else ((rd_T76 l (fAt l s)).f1, true)
theorem impl_fileAt_is (l : List IFi) (s : ByteArray) : impl_fileAt.f l s = some (fAt l s) := rfl
theorem impl_within_is (a b c : Int) : impl_within.f a b c = some (inR a b c) := by
  unfold impl_within.f inR
  by_cases h : a ≥ b
  · rw [if_pos h]; congr 1; simp; omega
  · rw [if_neg h]; congr 1; simp; omega
def bLess (a b : ByteArray) : Bool := Go.Op.bytesLess a.toList b.toList
def fileOk (x : IFi) : Bool := decide (1 ≤ x.f0.size ∧ x.f0.size ≤ 8) && decide (x.f1.size ≤ 20000) && decide (0 ≤ x.f2 ∧ x.f2 ≤ (x.f1.size : Int))
def above : Option ByteArray → ByteArray → Bool
  | none, _ => true
  | some q, s => bLess q s
def filesOk : Option ByteArray → List IFi → Bool
  | _, [] => true
  | p, x :: l => fileOk x && above p x.f0 && filesOk (some x.f0) l
def diskOk (l : List IFi) : Bool := decide (l.length ≤ 30) && filesOk none l
theorem impl_DiskOk_l0 (l : List IFi) (hl : l.length ≤ 1048577) : ∀ (d i : Nat) (p : Option ByteArray), i + d = l.length → (i = 0 → p = none) → (0 < i → p = some (rd_T76 l ((i - 1 : Nat) : Int)).f0) →
    Ev (fun k => impl_DiskOk.l0 k l (l.length : Int) (i : Int) l) (decide (l.length ≤ 30) && filesOk p (l.drop i))
  | 0, i, p, h, h0, h1 => by
    refine Ev.step (f := fun k => some (decide ((l.length : Int) ≤ 30))) (fun k => ?_) ((Ev.now _).eq ?_)
    · simp only [impl_DiskOk.l0]; rw [if_neg (by omega)]
    · rw [List.drop_of_length_le (by omega)]
      simp only [filesOk, Bool.and_true]
      congr 1
      simp only [eq_iff_iff]; omega
  | d + 1, i, p, h, h0, h1 => by
    rw [rd_IFi_drop (l := l) (i := i) (by omega)]
    have ih := impl_DiskOk_l0 l hl d (i + 1) (some (rd_T76 l (i : Int)).f0) (by omega) (by omega) (fun _ => by simp)
    have a1i : ∀ s : ByteArray, inR (s.size : Int) 1 8 = decide (1 ≤ s.size ∧ s.size ≤ 8) := by
      intro s; unfold inR; congr 1; simp only [eq_iff_iff]; omega
    generalize hx : rd_T76 l (i : Int) = x at *
    simp only [filesOk, fileOk]
    by_cases a1 : 1 ≤ x.f0.size ∧ x.f0.size ≤ 8
    · by_cases a2 : x.f1.size ≤ 20000
      · by_cases a3 : 0 ≤ x.f2 ∧ x.f2 ≤ (x.f1.size : Int)
        · rw [decide_eq_true a1, decide_eq_true a2, decide_eq_true a3, Bool.true_and, Bool.true_and, Bool.true_and]
          by_cases hi : 0 < i
          · rw [h1 hi]
            have ei : wrap64 ((i : Int) - 1) = ((i - 1 : Nat) : Int) := by rw [w64 (by omega) (by omega)]; omega
            by_cases hb : bLess (rd_T76 l ((i - 1 : Nat) : Int)).f0 x.f0 = true
            · refine Ev.step (f := fun k => impl_DiskOk.l0 k l (l.length : Int) ((i + 1 : Nat) : Int) l) (fun k => ?_) (ih.eq ?_)
              · simp only [impl_DiskOk.l0]
                rw [if_pos (by omega), if_pos (by omega), if_pos (by omega), hx, impl_within_is, Option.bind_some, a1i, if_pos (decide_eq_true a1), if_neg (by omega), impl_within_is, Option.bind_some, if_pos (inR_iff.2 a3), if_pos (by omega), ei, if_pos (by omega), if_pos (by omega), if_pos (show Go.Op.bytesLess _ _ = true from hb)]
                rw [w64 (x := (i : Int) + 1) (by omega) (by omega)]; rfl
              · simp only [above]; rw [hb, Bool.true_and]
            · refine Ev.step (f := fun k => some false) (fun k => ?_) ((Ev.now _).eq ?_)
              · simp only [impl_DiskOk.l0]
                rw [if_pos (by omega), if_pos (by omega), if_pos (by omega), hx, impl_within_is, Option.bind_some, a1i, if_pos (decide_eq_true a1), if_neg (by omega), impl_within_is, Option.bind_some, if_pos (inR_iff.2 a3), if_pos (by omega), ei, if_pos (by omega), if_pos (by omega), if_neg (show ¬ Go.Op.bytesLess _ _ = true from hb)]
              · simp only [above]; rw [Bool.not_eq_true _ |>.mp hb, Bool.false_and, Bool.and_false]
          · rw [h0 (by omega)]
            refine Ev.step (f := fun k => impl_DiskOk.l0 k l (l.length : Int) ((i + 1 : Nat) : Int) l) (fun k => ?_) (ih.eq ?_)
            · simp only [impl_DiskOk.l0]
              rw [if_pos (by omega), if_pos (by omega), if_pos (by omega), hx, impl_within_is, Option.bind_some, a1i, if_pos (decide_eq_true a1), if_neg (by omega), impl_within_is, Option.bind_some, if_pos (inR_iff.2 a3), if_neg (by omega)]
              rw [w64 (x := (i : Int) + 1) (by omega) (by omega)]; rfl
            · simp only [above]; rw [Bool.true_and]
        · refine Ev.step (f := fun k => some false) (fun k => ?_) ((Ev.now _).eq ?_)
          · simp only [impl_DiskOk.l0]
            rw [if_pos (by omega), if_pos (by omega), if_pos (by omega), hx, impl_within_is, Option.bind_some, a1i, if_pos (decide_eq_true a1), if_neg (by omega), impl_within_is, Option.bind_some, if_neg (fun e => a3 (inR_iff.1 e))]
          · rw [decide_eq_false a3]; simp
      · refine Ev.step (f := fun k => some false) (fun k => ?_) ((Ev.now _).eq ?_)
        · simp only [impl_DiskOk.l0]
          rw [if_pos (by omega), if_pos (by omega), if_pos (by omega), hx, impl_within_is, Option.bind_some, a1i, if_pos (decide_eq_true a1), if_pos (by omega)]
        · rw [decide_eq_false a2]; simp
    · refine Ev.step (f := fun k => some false) (fun k => ?_) ((Ev.now _).eq ?_)
      · simp only [impl_DiskOk.l0]
        rw [if_pos (by omega), if_pos (by omega), if_pos (by omega), hx, impl_within_is, Option.bind_some, a1i, if_neg (by rw [decide_eq_true_eq]; exact a1)]
      · rw [decide_eq_false a1]; simp
theorem impl_DiskOk_ev (l : List IFi) (hl : l.length ≤ 1048577) : Ev (fun k => impl_DiskOk.f k l) (diskOk l) :=
  impl_DiskOk_l0 l hl l.length 0 none (by omega) (fun _ => rfl) (fun h => absurd h (by omega))
theorem impl_copyDisk_is (l : List IFi) (hl : l.length ≤ 1048577) : impl_copyDisk.f l = some l := by
  unfold impl_copyDisk.f
  rw [if_pos (by simp; omega)]; rfl
open Go.Proofs.Ythbaoefbccdioaa.Sem (less_irrefl less_trans less_total)
theorem less_asymm {a b : List UInt8} (h : Go.Op.bytesLess a b = true) : Go.Op.bytesLess b a = false := Go.Proofs.Ythbaoefbccdioaa.Sem.less_no h
def Sd (l : List IFi) : Prop := l.Pairwise (fun x y => bLess x.f0 y.f0 = true)
theorem filesOk_iff : ∀ (l : List IFi) (p : Option ByteArray), filesOk p l = true ↔ (∀ x ∈ l, fileOk x = true) ∧ (∀ x ∈ l, above p x.f0 = true) ∧ Sd l
  | [], p => by simp [filesOk, Sd]
  | x :: l, p => by
    simp only [filesOk, Bool.and_eq_true, filesOk_iff l (some x.f0), Sd, List.pairwise_cons, List.mem_cons, forall_eq_or_imp, above]
    constructor
    · rintro ⟨⟨h1, h2⟩, h3, h4, h5⟩
      refine ⟨⟨h1, h3⟩, ⟨h2, fun y hy => ?_⟩, h4, h5⟩
      cases p with
      | none => rfl
      | some q => exact less_trans _ _ _ h2 (h4 y hy)
    · rintro ⟨⟨h1, h3⟩, ⟨h2, _⟩, h4, h5⟩
      exact ⟨⟨h1, h2⟩, h3, h4, h5⟩
theorem diskOk_iff (l : List IFi) : diskOk l = true ↔ l.length ≤ 30 ∧ (∀ x ∈ l, fileOk x = true) ∧ Sd l := by
  unfold diskOk
  rw [Bool.and_eq_true, decide_eq_true_eq, filesOk_iff]
  constructor
  · rintro ⟨h, h1, _, h2⟩; exact ⟨h, h1, h2⟩
  · rintro ⟨h, h1, h2⟩; exact ⟨h, h1, fun _ _ => rfl, h2⟩
theorem fileOk_iff (x : IFi) : fileOk x = true ↔ (1 ≤ x.f0.size ∧ x.f0.size ≤ 8) ∧ x.f1.size ≤ 20000 ∧ 0 ≤ x.f2 ∧ x.f2 ≤ (x.f1.size : Int) := by
  unfold fileOk; simp only [Bool.and_eq_true, decide_eq_true_eq]; exact ⟨fun h => ⟨h.1.1, h.1.2, h.2⟩, fun h => ⟨⟨h.1, h.2.1⟩, h.2.2⟩⟩
/-- A file in its place among files in order: in the place of that of its name, where there is one. -/
def putL (l : List IFi) (f : IFi) : List IFi := l.filter (fun x => bLess x.f0 f.f0) ++ f :: l.filter (fun x => bLess f.f0 x.f0)
theorem putL_len (l : List IFi) (f : IFi) : (putL l f).length ≤ l.length + 1 := by
  unfold putL
  rw [List.length_append, List.length_cons]
  have : ∀ l : List IFi, (l.filter (fun x => bLess x.f0 f.f0)).length + (l.filter (fun x => bLess f.f0 x.f0)).length ≤ l.length := by
    intro l
    induction l with
    | nil => simp
    | cons x l ih =>
      simp only [List.filter_cons, List.length_cons]
      cases h1 : bLess x.f0 f.f0 with
      | true => rw [show bLess f.f0 x.f0 = false from less_asymm h1]; simp; omega
      | false =>
        cases h2 : bLess f.f0 x.f0 with
        | true => simp; omega
        | false => simp; omega
  have := this l
  omega
theorem putL_sd {l : List IFi} (h : Sd l) (f : IFi) : Sd (putL l f) := by
  unfold putL Sd
  rw [List.pairwise_append, List.pairwise_cons]
  refine ⟨h.sublist List.filter_sublist, ⟨fun x hx => ?_, h.sublist List.filter_sublist⟩, fun x hx y hy => ?_⟩
  · simpa using (List.mem_filter.1 hx).2
  · have h1 := (List.mem_filter.1 hx).2
    rcases List.mem_cons.1 hy with rfl | hy
    · exact h1
    · exact less_trans _ _ _ h1 (List.mem_filter.1 hy).2
theorem putL_ok {l : List IFi} {f : IFi} (h : ∀ x ∈ l, fileOk x = true) (hf : fileOk f = true) : ∀ x ∈ putL l f, fileOk x = true := by
  intro x hx
  unfold putL at hx
  rcases List.mem_append.1 hx with hx | hx
  · exact h x (List.mem_filter.1 hx).1
  · rcases List.mem_cons.1 hx with rfl | hx
    · exact hf
    · exact h x (List.mem_filter.1 hx).1
/-- A disk without the file of a name. -/
def outL (l : List IFi) (s : ByteArray) : List IFi := l.filter (fun x => !(x.f0.toList == s.toList))
theorem outL_len (l : List IFi) (s : ByteArray) : (outL l s).length ≤ l.length := List.length_filter_le _ _
theorem spec_l03Without_l0 (l : List IFi) (hl : l.length ≤ 1048577) (s : ByteArray) : ∀ (d i : Nat) (acc : List IFi), i + d = l.length → acc.length ≤ i → Ev (fun k => spec_l03Without.l0 k s (i : Int) l acc) (acc ++ outL (l.drop i) s)
  | 0, i, acc, h, ha => by
    refine Ev.step (f := fun k => some acc) (fun k => ?_) ((Ev.now _).eq ?_)
    · simp only [spec_l03Without.l0]; rw [if_neg (by omega)]
    · rw [List.drop_of_length_le (by omega)]; simp [outL]
  | d + 1, i, acc, h, ha => by
    rw [rd_IFi_drop (by omega : i < l.length)]
    generalize hX : rd_T76 l (i : Int) = x
    have w4 : wrap64 ((i : Int) + 1) = ((i + 1 : Nat) : Int) := by rw [w64 (by omega) (by omega)]; omega
    by_cases hb : x.f0.toList = s.toList
    · rw [outL, List.filter_cons_of_neg (by simpa using hb)]
      refine Ev.step (f := fun k => spec_l03Without.l0 k s ((i + 1 : Nat) : Int) l acc) (fun k => ?_) (spec_l03Without_l0 l hl s d (i + 1) acc (by omega) (by omega))
      simp only [spec_l03Without.l0, hX, w4]
      rw [if_pos (by omega), if_pos (by omega), if_pos hb]
    · rw [outL, List.filter_cons_of_pos (by simpa using hb)]
      refine Ev.step (f := fun k => spec_l03Without.l0 k s ((i + 1 : Nat) : Int) l (acc ++ [x])) (fun k => ?_) ((spec_l03Without_l0 l hl s d (i + 1) (acc ++ [x]) (by omega) (by simp; omega)).eq (by simp [outL]))
      simp only [spec_l03Without.l0, hX, w4]
      rw [if_pos (by omega), if_pos (by omega), if_neg hb, if_pos (by omega)]
theorem spec_l03Without_ev (l : List IFi) (hl : l.length ≤ 1048577) (s : ByteArray) : Ev (fun k => spec_l03Without.f k l s) (outL l s) := by
  unfold spec_l03Without.f
  have := spec_l03Without_l0 l hl s l.length 0 [] (by omega) (by simp)
  simpa using this
def endA (o : List IFi) : List IFi × Bool := if diskOk o = true then (o, true) else ([], false)
def addF (l : List IFi) (n t : ByteArray) : IFi := if 0 ≤ fAt l n then ⟨(rd_T76 l (fAt l n)).f0, (rd_T76 l (fAt l n)).f1 ++ t, (rd_T76 l (fAt l n)).f2⟩ else ⟨n, (⟨#[]⟩ : ByteArray) ++ t, 0⟩
def nameOk (n : ByteArray) : Bool := decide (1 ≤ n.size ∧ n.size ≤ 8)
/-- What an act of a form that is right makes of a disk. -/
def actL (l : List IFi) (a : Int) (n t u : ByteArray) : List IFi × Bool :=
  if a = 1 then endA (putL l (addF l n t))
  else if fAt l n < 0 then ([], false)
  else if a = 2 then endA (putL l ⟨(rd_T76 l (fAt l n)).f0, (rd_T76 l (fAt l n)).f1, ((rd_T76 l (fAt l n)).f1.size : Int)⟩)
  else if a = 3 then (if (rd_T76 l (fAt l n)).f2 < ((rd_T76 l (fAt l n)).f1.size : Int) ∨ u.toList = n.toList ∨ nameOk u = false then ([], false) else endA (putL (outL l n) ⟨u, (rd_T76 l (fAt l n)).f1, (rd_T76 l (fAt l n)).f2⟩))
  else if a = 4 then endA (outL l n)
  else ([], false)
def formOk (a : Int) (n t u : ByteArray) : Bool := nameOk n && (decide (a = 3) || decide (u.toList = ([] : List UInt8))) && (decide (a = 1) || decide (t.toList = ([] : List UInt8)))
def doAct (l : List IFi) (a : Int) (n t u : ByteArray) : List IFi × Bool := if diskOk l = true ∧ formOk a n t u = true then actL l a n t u else ([], false)
theorem endA_len (o : List IFi) : (endA o).1.length ≤ 30 := by
  unfold endA
  split
  · rename_i h; exact ((diskOk_iff o).1 h).1
  · simp
theorem doAct_len (l : List IFi) (a : Int) (n t u : ByteArray) : (doAct l a n t u).1.length ≤ 30 := by
  unfold doAct actL
  split
  · split
    · exact endA_len _
    · split
      · simp
      · split
        · exact endA_len _
        · split
          · split
            · simp
            · exact endA_len _
          · split
            · exact endA_len _
            · simp
  · simp
theorem ba_ext {a b : ByteArray} (h : a.toList = b.toList) : a = b := by
  apply bytes_inj
  have e : ∀ s : ByteArray, bytesOf s = s.toList.map (fun b => (b.toNat : Int)) := fun s => by rw [ByteArray.toList_eq]; rfl
  rw [e, e, h]
theorem rd_fAt {l : List IFi} {n : ByteArray} {k : Nat} (hk : k < l.length) (h : l[k].f0.toList = n.toList) : (rd_T76 l (k : Int)).f0 = n := by
  rw [rd_IFi hk]; exact ba_ext h
theorem endEv {A : Nat → Option Bool} {o : List IFi} (h : Ev A (diskOk o)) : Ev (fun k => (A k).bind fun t => if t = true then some (o, true) else some (([] : List IFi), false)) (endA o) := by
  refine Ev.bind h ?_
  unfold endA
  by_cases e : diskOk o = true
  · exact (Ev.pos e (Ev.now _)).eq (if_pos e).symm
  · exact (Ev.neg e (Ev.now _)).eq (if_neg e).symm
/-- A file put into its place, told along the list. -/
def insL : List IFi → IFi → List IFi
  | [], f => [f]
  | x :: l, f => if bLess x.f0 f.f0 = true then x :: insL l f else if x.f0.toList = f.f0.toList then f :: l else f :: x :: l
theorem less_eq_no {a b : ByteArray} (h : a.toList = b.toList) : bLess a b = false := by unfold bLess; rw [h]; exact less_irrefl _
theorem all_less {l : List IFi} {f : IFi} (h : ∀ x ∈ l, bLess f.f0 x.f0 = true) : l.filter (fun x => bLess x.f0 f.f0) = [] ∧ l.filter (fun x => bLess f.f0 x.f0) = l := by
  refine ⟨List.filter_eq_nil_iff.2 (fun x hx => ?_), List.filter_eq_self.2 h⟩
  have : bLess x.f0 f.f0 = false := less_asymm (h x hx)
  simp [this]
theorem putL_ins : ∀ (l : List IFi) (f : IFi), Sd l → putL l f = insL l f
  | [], f, _ => rfl
  | x :: l, f, h => by
    unfold Sd at h
    rw [List.pairwise_cons] at h
    have ih := putL_ins l f h.2
    simp only [insL]
    by_cases h1 : bLess x.f0 f.f0 = true
    · rw [if_pos h1, ← ih]
      unfold putL
      rw [List.filter_cons_of_pos (by simpa using h1), List.filter_cons_of_neg (by rw [show bLess f.f0 x.f0 = false from less_asymm h1]; simp)]; rfl
    · rw [if_neg h1]
      by_cases h2 : x.f0.toList = f.f0.toList
      · rw [if_pos h2]
        obtain ⟨e1, e2⟩ := all_less (l := l) (f := f) (fun y hy => by have := h.1 y hy; unfold bLess at this ⊢; rw [← h2]; exact this)
        unfold putL
        rw [List.filter_cons_of_neg (by simpa using h1), List.filter_cons_of_neg (by rw [less_eq_no h2.symm]; simp), e1, e2]; rfl
      · rw [if_neg h2]
        have h3 : bLess f.f0 x.f0 = true := by
          cases e : bLess f.f0 x.f0 with
          | true => rfl
          | false => exact absurd (less_total _ _ (by simpa [bLess] using h1) (by simpa [bLess] using e)) h2
        obtain ⟨e1, e2⟩ := all_less (l := l) (f := f) (fun y hy => less_trans _ _ _ h3 (h.1 y hy))
        unfold putL
        rw [List.filter_cons_of_neg (by simpa using h1), List.filter_cons_of_pos (by simpa using h3), e1, e2]; rfl
theorem idxP_succ {α : Type} (p : α → Bool) : ∀ (l : List α) (i : Int), 0 ≤ i → M.idxP p l (i + 1) = if M.idxP p l i < 0 then -1 else M.idxP p l i + 1
  | [], i, _ => rfl
  | x :: l, i, hi => by
    have ih := idxP_succ p l (i + 1) (by omega)
    have e : ∀ j, M.idxP p (x :: l) j = if p x = true then j else M.idxP p l (j + 1) := fun _ => rfl
    by_cases h : p x = true
    · have e1 : M.idxP p (x :: l) (i + 1) = i + 1 := by rw [e, if_pos h]
      have e2 : M.idxP p (x :: l) i = i := by rw [e, if_pos h]
      rw [e1, e2, if_neg (by omega)]
    · have e1 : M.idxP p (x :: l) (i + 1) = M.idxP p l (i + 1 + 1) := by rw [e, if_neg h]
      have e2 : M.idxP p (x :: l) i = M.idxP p l (i + 1) := by rw [e, if_neg h]
      rw [e1, e2, ih]
theorem idxP_at {α : Type} (p : α → Bool) (x : α) (l : List α) : M.idxP p (x :: l) 0 = if p x = true then 0 else if M.idxP p l 0 < 0 then -1 else M.idxP p l 0 + 1 := by
  have e : M.idxP p (x :: l) 0 = if p x = true then 0 else M.idxP p l (0 + 1) := rfl
  rw [e, idxP_succ p l 0 (by omega)]
theorem putF_ins : ∀ (l : List IFi) (f : IFi), Sd l → putF l f = insL l f
  | [], f, _ => rfl
  | x :: l, f, h => by
    have h0 := h
    unfold Sd at h
    rw [List.pairwise_cons] at h
    have ih := putF_ins l f h.2
    simp only [insL]
    unfold putF at ih ⊢
    rw [idxP_at, idxP_at]
    by_cases h2 : x.f0.toList = f.f0.toList
    · have p2 : putE f x = true := by unfold putE; simpa using h2
      rw [if_pos p2, if_pos (by omega), if_neg (by rw [less_eq_no h2]; simp), if_pos h2]; rfl
    · have p2 : ¬ putE f x = true := by unfold putE; simpa using h2
      rw [if_neg p2]
      by_cases h1 : bLess x.f0 f.f0 = true
      · have p1 : ¬ putB f x = true := by unfold putB; have : Go.Op.bytesLess x.f0.toList f.f0.toList = true := h1; simp [this]
        rw [if_pos h1, if_neg p1, ← ih]
        by_cases c : M.idxP (putE f) l 0 < 0
        · rw [if_pos c, if_neg (by omega), if_neg (show ¬ 0 ≤ M.idxP (putE f) l 0 by omega)]
          by_cases d : M.idxP (putB f) l 0 < 0
          · rw [if_pos d, if_pos d, if_pos (by omega)]; simp
          · rw [if_neg d, if_neg d, if_neg (by omega), show (M.idxP (putB f) l 0 + 1).toNat = (M.idxP (putB f) l 0).toNat + 1 by omega]; rfl
        · rw [if_neg c, if_pos (by omega), if_pos (show 0 ≤ M.idxP (putE f) l 0 by omega), show (M.idxP (putE f) l 0 + 1).toNat = (M.idxP (putE f) l 0).toNat + 1 by omega]; rfl
      · have p1 : putB f x = true := by
          unfold putB
          have e1 : Go.Op.bytesLess x.f0.toList f.f0.toList = false := by simpa [bLess] using h1
          simp [e1, h2]
        rw [if_neg h1, if_neg h2, if_pos p1]
        have h3 : bLess f.f0 x.f0 = true := by
          cases e : bLess f.f0 x.f0 with
          | true => rfl
          | false => exact absurd (less_total _ _ (by simpa [bLess] using h1) (by simpa [bLess] using e)) h2
        have c : M.idxP (putE f) l 0 < 0 := by
          rcases M.idxP_cases (putE f) l 0 with ⟨e, _⟩ | ⟨k, hk, e, hp⟩
          · omega
          · exfalso
            have h4 := less_trans _ _ _ h3 (h.1 _ (List.getElem_mem hk))
            have h5 : l[k].f0.toList = f.f0.toList := by simpa [putE] using hp
            rw [h5, less_irrefl] at h4; cases h4
        rw [if_pos c, if_neg (by omega), if_neg (by omega)]; rfl
theorem putF_is {l : List IFi} (f : IFi) (h : Sd l) : putF l f = putL l f := by rw [putF_ins l f h, putL_ins l f h]
theorem set_is {l : List IFi} (f : IFi) (h : Sd l) {k : Nat} (e : M.idxP (putE f) l 0 = (k : Int)) : l.set k f = putL l f := by
  rw [← putF_is f h]; unfold putF; rw [if_pos (show 0 ≤ M.idxP (putE f) l 0 by omega), e, Int.toNat_natCast]
theorem outL_none {l : List IFi} {s : ByteArray} (h : ∀ x ∈ l, ¬ x.f0.toList = s.toList) : outL l s = l := List.filter_eq_self.2 (fun x hx => by simpa using h x hx)
theorem out_is : ∀ (l : List IFi) (s : ByteArray) (k : Nat), Sd l → fAt l s = (k : Int) → l.take k ++ l.drop (k + 1) = outL l s
  | [], s, k, _, e => by simp [fAt, M.idxP] at e
  | x :: l, s, k, h, e => by
    unfold Sd at h
    rw [List.pairwise_cons] at h
    unfold fAt at e
    rw [idxP_at] at e
    by_cases hp : x.f0.toList = s.toList
    · rw [if_pos (by simpa using hp)] at e
      obtain rfl : k = 0 := by omega
      rw [outL, List.filter_cons_of_neg (by simpa using hp)]
      have := outL_none (l := l) (s := s) (fun y hy ey => by
        have := h.1 y hy
        unfold bLess at this
        rw [hp, ey, less_irrefl] at this; cases this)
      unfold outL at this
      rw [this]; rfl
    · rw [if_neg (by simpa using hp)] at e
      by_cases c : M.idxP (fun x : IFi => x.f0.toList == s.toList) l 0 < 0
      · rw [if_pos c] at e; omega
      · rw [if_neg c] at e
        obtain ⟨j, rfl⟩ : ∃ j, k = j + 1 := ⟨k - 1, by omega⟩
        have ih := out_is l s j h.2 (by unfold fAt; omega)
        rw [outL, List.filter_cons_of_pos (by simpa using hp)]
        unfold outL at ih
        rw [← ih]; rfl
theorem putL_mem (l : List IFi) (f : IFi) : f ∈ putL l f := by unfold putL; simp
theorem put_bad {l : List IFi} {f : IFi} (h : nameOk f.f0 = false) : diskOk (putL l f) = false := by
  cases e : diskOk (putL l f) with
  | false => rfl
  | true =>
    have := ((fileOk_iff f).1 (((diskOk_iff _).1 e).2.1 f (putL_mem l f))).1
    unfold nameOk at h
    rw [decide_eq_true this] at h; cases h
theorem outL_sd {l : List IFi} (h : Sd l) (s : ByteArray) : Sd (outL l s) := List.Pairwise.sublist List.filter_sublist h
theorem impl_end_ev (o : List IFi) (ho : o.length ≤ 1048577) : Ev (fun k => impl_DoAct.end_ k (some o)) (endA o) := endEv (impl_DiskOk_ev o ho)
theorem impl_end_none : Ev (fun k => impl_DoAct.end_ k none) (([] : List IFi), false) := Ev.is rfl
theorem impl_DoAct_ev (l : List IFi) (hl : l.length ≤ 1048576) (a : Int) (n t u : ByteArray) (ht : t.size ≤ 17592186044416) : Ev (fun k => impl_DoAct.f k l a n t u) (doAct l a n t u) := by
  unfold impl_DoAct.f
  have D0 : diskOk l = false → doAct l a n t u = ([], false) := fun h => by unfold doAct; rw [if_neg (by rw [h]; simp)]
  have D1 : diskOk l = true → formOk a n t u = true → doAct l a n t u = actL l a n t u := fun h h' => by unfold doAct; rw [if_pos ⟨h, h'⟩]
  have D2 : ¬ formOk a n t u = true → doAct l a n t u = ([], false) := fun h => by unfold doAct; rw [if_neg (fun e => h e.2)]
  refine Ev.bind (impl_DiskOk_ev l (by omega)) ?_
  cases hd : diskOk l with
  | false =>
    rw [D0 hd]
    exact Ev.neg (by simp [impl_DoAct.go_]) (Ev.now _)
  | true =>
    obtain ⟨d1, d2, d3⟩ := (diskOk_iff l).1 hd
    have hat : impl_DoAct.at_ l n = fAt l n := rfl
    have hadd : impl_DoAct.add_ l n t = addF l n t := rfl
    have hsz : (addF l n t).f1.size ≤ 9223372036854775807 := by
      unfold addF
      rcases fAt_cases l n with h | ⟨k, hk, e, _⟩
      · rw [if_neg (by omega)]; simp only; rw [size_append]; have : (⟨#[]⟩ : ByteArray).size = 0 := rfl; omega
      · rw [if_pos (by omega)]; simp only; rw [size_append, e, rd_IFi hk]
        have := ((fileOk_iff _).1 (d2 _ (List.getElem_mem hk))).2.1; omega
    by_cases hg : impl_DoAct.go_ l a n t u true = true
    · refine Ev.pos hg (Ev.pos ⟨by omega, by rw [hadd]; exact hsz⟩ ?_)
      simp only [impl_DoAct.go_, Bool.true_and, Bool.and_eq_true, Bool.or_eq_true, decide_eq_true_eq, hat, beq_iff_eq] at hg
      obtain ⟨g3, g1⟩ := hg
      unfold impl_DoAct.out
      rw [hadd]
      simp only [hat]
      have hp1 := putL_len l (addF l n t)
      by_cases a1 : a = 1
      · have hr : doAct l a n t u = endA (putL l (addF l n t)) := by
          by_cases hf : formOk a n t u = true
          · rw [D1 hd hf]; unfold actL; rw [if_pos a1]
          · rw [D2 hf]
            have hb : nameOk n = false := by
              cases e : nameOk n with
              | false => rfl
              | true =>
                exfalso; apply hf
                rcases g3 with g3 | g3
                · omega
                · simp [formOk, e, a1, g3]
            have hb2 : nameOk (addF l n t).f0 = false := by
              unfold addF
              rcases fAt_cases l n with h | ⟨k, hk, e, hk2⟩
              · rw [if_neg (by omega)]; exact hb
              · rw [if_pos (by omega)]; simp only; rw [e, rd_fAt hk hk2]; exact hb
            unfold endA
            rw [put_bad hb2, if_neg (by simp)]
        rw [hr, if_pos a1, putF_is _ d3]
        exact impl_end_ev _ (by omega)
      · obtain ⟨gt, gi⟩ := g1.resolve_left a1
        obtain ⟨k, hk, e, hk2⟩ := (fAt_cases l n).resolve_left (by omega)
        have hx := (fileOk_iff _).1 (d2 _ (List.getElem_mem hk))
        have hn : nameOk n = true := by
          have := hx.1
          rw [← rd_IFi hk, rd_fAt hk hk2] at this
          exact decide_eq_true this
        have hf : formOk a n t u = true := by
          unfold formOk
          rw [hn, gt]
          rcases g3 with g3 | g3 <;> simp [g3]
        rw [D1 hd hf, if_neg a1]
        unfold actL
        rw [if_neg a1, if_neg (by omega : ¬ fAt l n < 0), e, Int.toNat_natCast]
        rw [← rd_IFi hk] at hx
        have hx0 := rd_fAt hk hk2
        generalize hX : rd_T76 l (k : Int) = x at *
        by_cases a2 : a = 2
        · rw [if_pos a2, if_pos a2]
          have hi : M.idxP (putE ⟨x.f0, x.f1, (x.f1.size : Int)⟩) l 0 = (k : Int) := by rw [← e]; unfold fAt; rw [← hx0]; rfl
          rw [set_is _ d3 hi]
          exact impl_end_ev _ (by have := putL_len l ⟨x.f0, x.f1, (x.f1.size : Int)⟩; omega)
        · rw [if_neg a2, if_neg a2]
          by_cases a3 : a = 3
          · rw [if_pos a3, if_pos a3]
            by_cases b2 : u.toList = n.toList
            · rw [if_pos b2, if_pos (.inr (.inl b2))]
              exact impl_end_none
            · rw [if_neg b2]
              by_cases b1 : x.f2 = (x.f1.size : Int)
              · rw [if_pos b1, out_is l n k d3 e, putF_is _ (outL_sd d3 n)]
                have hl2 := outL_len l n
                have hl3 := putL_len (outL l n) ⟨u, x.f1, x.f2⟩
                cases b3 : nameOk u with
                | true => rw [if_neg (by simp [b1, b2])]; exact impl_end_ev _ (by omega)
                | false =>
                  rw [if_pos (.inr (.inr rfl))]
                  have hz : endA (putL (outL l n) ⟨u, x.f1, x.f2⟩) = ([], false) := by unfold endA; rw [put_bad (f := ⟨u, x.f1, x.f2⟩) b3, if_neg (by simp)]
                  exact (impl_end_ev _ (by omega)).eq hz
              · rw [if_neg b1, if_pos (.inl (by omega))]
                exact impl_end_none
          · rw [if_neg a3, if_neg a3]
            by_cases a4 : a = 4
            · rw [if_pos a4, if_pos a4, out_is l n k d3 e]
              exact impl_end_ev _ (by have := outL_len l n; omega)
            · rw [if_neg a4, if_neg a4]
              exact impl_end_none
    · refine Ev.neg hg ((Ev.now _).eq ?_)
      by_cases hf : formOk a n t u = true
      · rw [D1 hd hf]
        simp only [formOk, Bool.and_eq_true, Bool.or_eq_true, decide_eq_true_eq] at hf
        unfold actL
        simp only [impl_DoAct.go_, Bool.true_and, Bool.and_eq_true, Bool.or_eq_true, decide_eq_true_eq, hat, beq_iff_eq] at hg
        by_cases a1 : a = 1
        · exact absurd ⟨hf.1.2, .inl a1⟩ hg
        · rw [if_neg a1]
          have : fAt l n < 0 := by
            have ht' := hf.2.resolve_left a1
            by_cases c : 0 ≤ fAt l n
            · exact absurd ⟨hf.1.2, .inr ⟨ht', c⟩⟩ hg
            · omega
          rw [if_pos this]
      · rw [D2 hf]
theorem spec_l01In_is (a b c : Int) : spec_l01In.f a b c = some (inR a b c) := by
  unfold spec_l01In.f inR
  by_cases h : a ≥ b
  · rw [if_pos h]; congr 1; simp; omega
  · rw [if_neg h]; congr 1; simp; omega
theorem spec_l03Name_is (s : ByteArray) : spec_l03Name.f s = some (decide (1 ≤ s.size ∧ s.size ≤ 8)) := by
  unfold spec_l03Name.f
  rw [spec_l01In_is, Option.bind_some]
  congr 1
  unfold inR
  congr 1
  simp only [eq_iff_iff]; omega
theorem spec_DiskOk_l0 (l : List IFi) (hl : l.length ≤ 30) : ∀ (d i : Nat) (p : Option ByteArray), i + d = l.length → (i = 0 → p = none) → (0 < i → p = some (rd_T76 l ((i - 1 : Nat) : Int)).f0) →
    Ev (fun k => spec_DiskOk.l0 k (i : Int) l) (filesOk p (l.drop i))
  | 0, i, p, h, h0, h1 => by
    refine Ev.step (f := fun k => some true) (fun k => ?_) ((Ev.now _).eq ?_)
    · simp only [spec_DiskOk.l0]; rw [if_neg (by omega)]
    · rw [List.drop_of_length_le (by omega)]; rfl
  | d + 1, i, p, h, h0, h1 => by
    rw [rd_IFi_drop (l := l) (i := i) (by omega)]
    have ih := spec_DiskOk_l0 l hl d (i + 1) (some (rd_T76 l (i : Int)).f0) (by omega) (by omega) (fun _ => by simp)
    generalize hx : rd_T76 l (i : Int) = x at *
    simp only [filesOk, fileOk]
    by_cases a1 : 1 ≤ x.f0.size ∧ x.f0.size ≤ 8
    · by_cases a2 : x.f1.size ≤ 20000
      · by_cases a3 : 0 ≤ x.f2 ∧ x.f2 ≤ (x.f1.size : Int)
        · rw [decide_eq_true a1, decide_eq_true a2, decide_eq_true a3, Bool.true_and, Bool.true_and, Bool.true_and]
          by_cases hi : 0 < i
          · rw [h1 hi]
            have ei : wrap64 ((i : Int) - 1) = ((i - 1 : Nat) : Int) := by rw [w64 (by omega) (by omega)]; omega
            by_cases hb : bLess (rd_T76 l ((i - 1 : Nat) : Int)).f0 x.f0 = true
            · refine Ev.step (f := fun k => spec_DiskOk.l0 k ((i + 1 : Nat) : Int) l) (fun k => ?_) (ih.eq ?_)
              · simp only [spec_DiskOk.l0]
                rw [if_pos (by omega), if_pos (by omega), hx, spec_l03Name_is, Option.bind_some, if_pos (decide_eq_true a1), if_neg (by omega), spec_l01In_is, Option.bind_some, if_pos (inR_iff.2 a3), if_pos (by omega), ei, if_pos (by omega), if_pos (by omega), if_pos (show Go.Op.bytesLess _ _ = true from hb)]
                rw [w64 (x := (i : Int) + 1) (by omega) (by omega)]; rfl
              · simp only [above]; rw [hb, Bool.true_and]
            · refine Ev.step (f := fun k => some false) (fun k => ?_) ((Ev.now _).eq ?_)
              · simp only [spec_DiskOk.l0]
                rw [if_pos (by omega), if_pos (by omega), hx, spec_l03Name_is, Option.bind_some, if_pos (decide_eq_true a1), if_neg (by omega), spec_l01In_is, Option.bind_some, if_pos (inR_iff.2 a3), if_pos (by omega), ei, if_pos (by omega), if_pos (by omega), if_neg (show ¬ Go.Op.bytesLess _ _ = true from hb)]
              · simp only [above]; rw [Bool.not_eq_true _ |>.mp hb, Bool.false_and]
          · rw [h0 (by omega)]
            refine Ev.step (f := fun k => spec_DiskOk.l0 k ((i + 1 : Nat) : Int) l) (fun k => ?_) (ih.eq ?_)
            · simp only [spec_DiskOk.l0]
              rw [if_pos (by omega), if_pos (by omega), hx, spec_l03Name_is, Option.bind_some, if_pos (decide_eq_true a1), if_neg (by omega), spec_l01In_is, Option.bind_some, if_pos (inR_iff.2 a3), if_neg (by omega)]
              rw [w64 (x := (i : Int) + 1) (by omega) (by omega)]; rfl
            · simp only [above]; rw [Bool.true_and]
        · refine Ev.step (f := fun k => some false) (fun k => ?_) ((Ev.now _).eq ?_)
          · simp only [spec_DiskOk.l0]
            rw [if_pos (by omega), if_pos (by omega), hx, spec_l03Name_is, Option.bind_some, if_pos (decide_eq_true a1), if_neg (by omega), spec_l01In_is, Option.bind_some, if_neg (fun e => a3 (inR_iff.1 e))]
          · rw [decide_eq_false a3]; simp
      · refine Ev.step (f := fun k => some false) (fun k => ?_) ((Ev.now _).eq ?_)
        · simp only [spec_DiskOk.l0]
          rw [if_pos (by omega), if_pos (by omega), hx, spec_l03Name_is, Option.bind_some, if_pos (decide_eq_true a1), if_pos (by omega)]
        · rw [decide_eq_false a2]; simp
    · refine Ev.step (f := fun k => some false) (fun k => ?_) ((Ev.now _).eq ?_)
      · simp only [spec_DiskOk.l0]
        rw [if_pos (by omega), if_pos (by omega), hx, spec_l03Name_is, Option.bind_some, if_neg (by rw [decide_eq_true_eq]; exact a1)]
      · rw [decide_eq_false a1]; simp
theorem spec_DiskOk_ev (l : List IFi) : Ev (fun k => spec_DiskOk.f k l) (diskOk l) := by
  unfold spec_DiskOk.f diskOk
  by_cases h : l.length ≤ 30
  · rw [decide_eq_true h, Bool.true_and]
    exact Ev.neg (by omega) (spec_DiskOk_l0 l h l.length 0 none (by omega) (fun _ => rfl) (fun h => absurd h (by omega)))
  · rw [decide_eq_false h, Bool.false_and]
    exact Ev.pos (by omega) (Ev.now _)
theorem spec_l03Put_l1 (l : List IFi) (hl : l.length ≤ 1048577) (f : IFi) : ∀ (d i : Nat) (acc : List IFi), i + d = l.length → acc.length ≤ l.length + 1 + i →
    Ev (fun k => spec_l03Put.l1 k (i : Int) l f.f0 f.f1 f.f2 acc) (acc ++ (l.drop i).filter (fun x => bLess f.f0 x.f0))
  | 0, i, acc, h, ha => by
    refine Ev.step (f := fun k => some acc) (fun k => ?_) ((Ev.now _).eq ?_)
    · simp only [spec_l03Put.l1]; rw [if_neg (by omega)]
    · rw [List.drop_of_length_le (by omega)]; simp
  | d + 1, i, acc, h, ha => by
    rw [rd_IFi_drop (by omega : i < l.length)]
    generalize hX : rd_T76 l (i : Int) = x
    have w4 : wrap64 ((i : Int) + 1) = ((i + 1 : Nat) : Int) := by rw [w64 (by omega) (by omega)]; omega
    by_cases hb : bLess f.f0 x.f0 = true
    · rw [List.filter_cons_of_pos (by simpa using hb)]
      refine Ev.step (f := fun k => spec_l03Put.l1 k ((i + 1 : Nat) : Int) l f.f0 f.f1 f.f2 (acc ++ [x])) (fun k => ?_) ((spec_l03Put_l1 l hl f d (i + 1) (acc ++ [x]) (by omega) (by simp; omega)).eq (by simp))
      simp only [spec_l03Put.l1, hX, w4]
      rw [if_pos (by omega), if_pos (by omega), if_pos (show Go.Op.bytesLess f.f0.toList x.f0.toList = true from hb), if_pos (by omega)]
    · rw [List.filter_cons_of_neg (by simpa using hb)]
      refine Ev.step (f := fun k => spec_l03Put.l1 k ((i + 1 : Nat) : Int) l f.f0 f.f1 f.f2 acc) (fun k => ?_) (spec_l03Put_l1 l hl f d (i + 1) acc (by omega) (by omega))
      simp only [spec_l03Put.l1, hX, w4]
      rw [if_pos (by omega), if_pos (by omega), if_neg (show ¬ Go.Op.bytesLess f.f0.toList x.f0.toList = true from hb)]
theorem spec_l03Put_l0 (l : List IFi) (hl : l.length ≤ 1048577) (f : IFi) : ∀ (d i : Nat) (acc : List IFi), i + d = l.length → acc.length ≤ i →
    Ev (fun k => spec_l03Put.l0 k (i : Int) l f.f0 f.f1 f.f2 acc) (acc ++ ((l.drop i).filter (fun x => bLess x.f0 f.f0) ++ f :: l.filter (fun x => bLess f.f0 x.f0)))
  | 0, i, acc, h, ha => by
    have := spec_l03Put_l1 l hl f l.length 0 (acc ++ [f]) (by omega) (by simp; omega)
    refine Ev.step (f := fun k => spec_l03Put.l1 k ((0 : Nat) : Int) l f.f0 f.f1 f.f2 (acc ++ [f])) (fun k => ?_) (this.eq ?_)
    · simp only [spec_l03Put.l0]; rw [if_neg (by omega), if_pos (by omega)]; rfl
    · rw [List.drop_of_length_le (by omega : l.length ≤ i)]; simp
  | d + 1, i, acc, h, ha => by
    rw [rd_IFi_drop (by omega : i < l.length)]
    generalize hX : rd_T76 l (i : Int) = x
    have w4 : wrap64 ((i : Int) + 1) = ((i + 1 : Nat) : Int) := by rw [w64 (by omega) (by omega)]; omega
    by_cases hb : bLess x.f0 f.f0 = true
    · rw [List.filter_cons_of_pos (by simpa using hb)]
      refine Ev.step (f := fun k => spec_l03Put.l0 k ((i + 1 : Nat) : Int) l f.f0 f.f1 f.f2 (acc ++ [x])) (fun k => ?_) ((spec_l03Put_l0 l hl f d (i + 1) (acc ++ [x]) (by omega) (by simp; omega)).eq (by simp))
      simp only [spec_l03Put.l0, hX, w4]
      rw [if_pos (by omega), if_pos (by omega), if_pos (show Go.Op.bytesLess x.f0.toList f.f0.toList = true from hb), if_pos (by omega)]
    · rw [List.filter_cons_of_neg (by simpa using hb)]
      refine Ev.step (f := fun k => spec_l03Put.l0 k ((i + 1 : Nat) : Int) l f.f0 f.f1 f.f2 acc) (fun k => ?_) (spec_l03Put_l0 l hl f d (i + 1) acc (by omega) (by omega))
      simp only [spec_l03Put.l0, hX, w4]
      rw [if_pos (by omega), if_pos (by omega), if_neg (show ¬ Go.Op.bytesLess x.f0.toList f.f0.toList = true from hb)]
theorem spec_l03Put_ev (l : List IFi) (hl : l.length ≤ 1048577) (f : IFi) : Ev (fun k => spec_l03Put.f k l f.f0 f.f1 f.f2) (putL l f) := by
  unfold spec_l03Put.f putL
  have := spec_l03Put_l0 l hl f l.length 0 [] (by omega) (by simp)
  simpa using this
theorem spec_DoAct_j2 (l : List IFi) (hl : l.length ≤ 1048576) (a : Int) (n t u : ByteArray) (x : IFi) : Ev (fun k => spec_DoAct.j2 k false l a n t u x.f0 x.f1 x.f2) (endA (putL (outL l n) ⟨u, x.f1, x.f2⟩)) := by
  have h1 := outL_len l n
  refine Ev.step (f := fun k => (spec_l03Without.f k l n).bind fun t204 => ((spec_l03Put.f k t204 u x.f1 x.f2).bind fun t207 => ((spec_DiskOk.f k t207).bind fun t210 => (if t210 = true then (some (t207, true)) else (some (([] : List IFi), false)))))) (fun k => ?_) ?_
  · simp only [spec_DoAct.j2]; rw [if_neg (by simp)]
  · exact Ev.bind (spec_l03Without_ev l (by omega) n) (Ev.bind (spec_l03Put_ev _ (by omega) ⟨u, x.f1, x.f2⟩) (endEv (spec_DiskOk_ev _)))
theorem spec_DoAct_j2no (l : List IFi) (a : Int) (n t u : ByteArray) (x : IFi) : Ev (fun k => spec_DoAct.j2 k true l a n t u x.f0 x.f1 x.f2) (([] : List IFi), false) :=
  Ev.step (f := fun k => some (([] : List IFi), false)) (fun k => by simp only [spec_DoAct.j2, if_true]) (Ev.now _)
theorem spec_DoAct_j1 (l : List IFi) (hl : l.length ≤ 1048576) (a : Int) (n t u : ByteArray) (i : Int) (x : IFi) (hx : x.f1.size + t.size ≤ 9223372036854775807) : Ev (fun k => spec_DoAct.j1 k i l a n t u x.f0 x.f1 x.f2)
    (if a = 1 then endA (putL l ⟨x.f0, x.f1 ++ t, x.f2⟩) else if i < 0 then ([], false) else if a = 2 then endA (putL l ⟨x.f0, x.f1, (x.f1.size : Int)⟩)
      else if a = 3 then (if x.f2 < (x.f1.size : Int) ∨ u.toList = n.toList ∨ nameOk u = false then ([], false) else endA (putL (outL l n) ⟨u, x.f1, x.f2⟩)) else if a = 4 then endA (outL l n) else ([], false)) := by
  by_cases a1 : a = 1
  · refine Ev.step (f := fun k => (spec_l03Put.f k l x.f0 (x.f1 ++ t) x.f2).bind fun t195 => ((spec_DiskOk.f k t195).bind fun t198 => (if t198 = true then (some (t195, true)) else (some (([] : List IFi), false))))) (fun k => ?_) ?_
    · simp only [spec_DoAct.j1]; rw [if_pos a1, if_pos hx]
    · rw [if_pos a1]; exact Ev.bind (spec_l03Put_ev l (by omega) ⟨x.f0, x.f1 ++ t, x.f2⟩) (endEv (spec_DiskOk_ev _))
  · rw [if_neg a1]
    by_cases hi : i < 0
    · rw [if_pos hi]
      exact Ev.step (f := fun k => some (([] : List IFi), false)) (fun k => by simp only [spec_DoAct.j1]; rw [if_neg a1, if_pos hi]) (Ev.now _)
    · rw [if_neg hi]
      by_cases a2 : a = 2
      · rw [if_pos a2]
        refine Ev.step (f := fun k => (spec_l03Put.f k l x.f0 x.f1 (x.f1.size : Int)).bind fun t195 => ((spec_DiskOk.f k t195).bind fun t198 => (if t198 = true then (some (t195, true)) else (some (([] : List IFi), false))))) (fun k => ?_) ?_
        · simp only [spec_DoAct.j1]; rw [if_neg a1, if_neg hi, if_pos a2]
        · exact Ev.bind (spec_l03Put_ev l (by omega) ⟨x.f0, x.f1, (x.f1.size : Int)⟩) (endEv (spec_DiskOk_ev _))
      · rw [if_neg a2]
        by_cases a3 : a = 3
        · rw [if_pos a3]
          by_cases b1 : x.f2 < (x.f1.size : Int)
          · rw [if_pos (.inl b1)]
            exact Ev.step (f := fun k => spec_DoAct.j2 k true l a n t u x.f0 x.f1 x.f2) (fun k => by simp only [spec_DoAct.j1]; rw [if_neg a1, if_neg hi, if_neg a2, if_pos a3, if_pos b1]) (spec_DoAct_j2no l a n t u x)
          · by_cases b2 : u.toList = n.toList
            · rw [if_pos (.inr (.inl b2))]
              exact Ev.step (f := fun k => spec_DoAct.j2 k true l a n t u x.f0 x.f1 x.f2) (fun k => by simp only [spec_DoAct.j1]; rw [if_neg a1, if_neg hi, if_neg a2, if_pos a3, if_neg b1, if_pos b2]) (spec_DoAct_j2no l a n t u x)
            · have hs : ∀ k, spec_DoAct.j1 (k + 1) i l a n t u x.f0 x.f1 x.f2 = spec_DoAct.j2 k (!nameOk u) l a n t u x.f0 x.f1 x.f2 := fun k => by
                simp only [spec_DoAct.j1]; rw [if_neg a1, if_neg hi, if_neg a2, if_pos a3, if_neg b1, if_neg b2, spec_l03Name_is, Option.bind_some]; rfl
              cases b3 : nameOk u with
              | false => rw [if_pos (.inr (.inr rfl))]; rw [b3] at hs; exact Ev.step (f := fun k => spec_DoAct.j2 k true l a n t u x.f0 x.f1 x.f2) hs (spec_DoAct_j2no l a n t u x)
              | true => rw [if_neg (by simp [b1, b2])]; rw [b3] at hs; exact Ev.step (f := fun k => spec_DoAct.j2 k false l a n t u x.f0 x.f1 x.f2) hs (spec_DoAct_j2 l hl a n t u x)
        · rw [if_neg a3]
          by_cases a4 : a = 4
          · rw [if_pos a4]
            refine Ev.step (f := fun k => (spec_l03Without.f k l n).bind fun t195 => ((spec_DiskOk.f k t195).bind fun t198 => (if t198 = true then (some (t195, true)) else (some (([] : List IFi), false))))) (fun k => ?_) ?_
            · simp only [spec_DoAct.j1]; rw [if_neg a1, if_neg hi, if_neg a2, if_neg a3, if_pos a4]
            · exact Ev.bind (spec_l03Without_ev l (by omega) n) (endEv (spec_DiskOk_ev _))
          · rw [if_neg a4]
            exact Ev.step (f := fun k => some (([] : List IFi), false)) (fun k => by simp only [spec_DoAct.j1]; rw [if_neg a1, if_neg hi, if_neg a2, if_neg a3, if_neg a4]) (Ev.now _)
theorem spec_DoAct_j0 (l : List IFi) (hl : l.length ≤ 1048576) (hs : ∀ x ∈ l, x.f1.size ≤ 17592186044416) (a : Int) (n t u : ByteArray) (ht : t.size ≤ 17592186044416) : Ev (fun k => spec_DoAct.j0 k false l a n t u) (actL l a n t u) := by
  refine Ev.step (f := fun k => (spec_l03At.f k l n).bind fun t191 => (if t191 ≥ 0 then (if 0 ≤ t191 then (if t191 < (l.length : Int) then (spec_DoAct.j1 k t191 l a n t u ((rd_T76 l t191).f0) ((rd_T76 l t191).f1) ((rd_T76 l t191).f2)) else (none)) else (none)) else (spec_DoAct.j1 k t191 l a n t u n (⟨#[]⟩ : ByteArray) 0))) (fun k => ?_) ?_
  · simp only [spec_DoAct.j0]; rw [if_neg (by simp)]
  refine Ev.bind (spec_l03At_ev l (by omega) n) ?_
  unfold actL addF
  rcases fAt_cases l n with h | ⟨k, hk, e, _⟩
  · have h0 : ¬ fAt l n ≥ 0 := by omega
    rw [if_neg h0]
    refine Ev.neg h0 ((spec_DoAct_j1 l hl a n t u (fAt l n) ⟨n, (⟨#[]⟩ : ByteArray), 0⟩ (by have : (⟨#[]⟩ : ByteArray).size = 0 := rfl; simp only; omega)).eq ?_)
    have h1 : fAt l n < 0 := by omega
    simp only [if_pos h1]
  · have h0 : fAt l n ≥ 0 := by omega
    have hm : (rd_T76 l (fAt l n)).f1.size ≤ 17592186044416 := by rw [e, rd_IFi hk]; exact hs _ (List.getElem_mem hk)
    rw [if_pos h0]
    exact Ev.pos h0 (Ev.pos h0 (Ev.pos (by omega) (spec_DoAct_j1 l hl a n t u (fAt l n) (rd_T76 l (fAt l n)) (by omega))))
theorem spec_DoAct_j0no (l : List IFi) (a : Int) (n t u : ByteArray) : Ev (fun k => spec_DoAct.j0 k true l a n t u) (([] : List IFi), false) :=
  Ev.step (f := fun k => some (([] : List IFi), false)) (fun k => by simp only [spec_DoAct.j0, if_true]) (Ev.now _)
theorem spec_DoAct_ev (l : List IFi) (hl : l.length ≤ 1048576) (a : Int) (n t u : ByteArray) (ht : t.size ≤ 17592186044416) : Ev (fun k => spec_DoAct.f k l a n t u) (doAct l a n t u) := by
  unfold spec_DoAct.f doAct
  refine Ev.bind (spec_DiskOk_ev l) ?_
  by_cases hd : diskOk l = true
  · refine Ev.pos hd ?_
    have hs : ∀ x ∈ l, x.f1.size ≤ 17592186044416 := fun x hx => by
      have := ((fileOk_iff x).1 (((diskOk_iff l).1 hd).2.1 x hx)).2.1; omega
    refine Ev.bind0 (spec_l03Name_is n) ?_
    have J := spec_DoAct_j0 l hl hs a n t u ht
    have JN := spec_DoAct_j0no l a n t u
    cases b1 : nameOk n with
    | false =>
      have b1' : ¬ decide (1 ≤ n.size ∧ n.size ≤ 8) = true := by have := b1; unfold nameOk at this; simp [this]
      rw [if_neg (by simp [formOk, b1])]
      exact Ev.neg b1' JN
    | true =>
      refine Ev.pos b1 ?_
      by_cases a3 : a = 3
      · refine Ev.pos a3 ?_
        by_cases a1 : a = 1
        · omega
        · refine Ev.neg a1 ?_
          by_cases c : t.toList = ([] : List UInt8)
          · rw [show (t.toList != ([] : List UInt8)) = false from by simp [c], if_pos ⟨hd, by simp [formOk, b1, a3, c]⟩]; exact J
          · rw [show (t.toList != ([] : List UInt8)) = true from by simp [bne, c], if_neg (by simp [formOk, b1, a3, c])]; exact JN
      · refine Ev.neg a3 ?_
        by_cases c2 : u.toList = ([] : List UInt8)
        · refine Ev.pos c2 ?_
          by_cases a1 : a = 1
          · refine Ev.pos a1 ?_
            rw [if_pos ⟨hd, by simp [formOk, b1, a1, c2]⟩]; exact J
          · refine Ev.neg a1 ?_
            by_cases c : t.toList = ([] : List UInt8)
            · rw [show (t.toList != ([] : List UInt8)) = false from by simp [c], if_pos ⟨hd, by simp [formOk, b1, c2, c]⟩]; exact J
            · rw [show (t.toList != ([] : List UInt8)) = true from by simp [bne, c], if_neg (by simp [formOk, a1, c])]; exact JN
        · refine Ev.neg c2 ?_
          rw [if_neg (by simp [formOk, a3, c2])]; exact JN
  · rw [if_neg (fun e => hd e.1)]
    exact Ev.neg hd (spec_DoAct_j0no l a n t u)
abbrev IAc := S35
theorem rd_IAc {l : List IAc} {i : Nat} (h : i < l.length) : rd_T35 l (i : Int) = l[i] := by
  simp [rd_T35, List.getD_eq_getElem?_getD, List.getElem?_eq_getElem h]
theorem rd_IAc_set {l : List IAc} {i : Nat} (v : IAc) (h : i < l.length) : rd_T35 (l.set i v) (i : Int) = v := by
  rw [rd_IAc (by simpa using h)]; simp
def mkAc (m : Int) : IAc := ⟨m, mkT (m + 1), mkT (m + 2), mkT (m + 3)⟩
def seqA (m : Int) : Nat → List IAc
  | 0 => []
  | n + 1 => mkAc m :: seqA (m + 4) n
theorem seqA_length (m : Int) (n : Nat) : (seqA m n).length = n := by
  induction n generalizing m with
  | zero => rfl
  | succ n ih => simp [seqA, ih]
theorem seqA_get (m : Int) (n i : Nat) (h : i < (seqA m n).length) : (seqA m n)[i] = mkAc (m + 4 * i) := by
  induction n generalizing m i with
  | zero => simp [seqA] at h
  | succ n ih =>
    cases i with
    | zero => simp [seqA]
    | succ i => simp only [seqA, List.getElem_cons_succ]; rw [ih]; congr 1; omega
/-- What a list of acts makes of a disk: the acts are done in turn, until one fails. -/
def doActsL : List IFi → List IAc → Int → List IFi × Int
  | l, [], i => (l, i)
  | l, a :: r, i => if (doAct l a.f0 a.f1 a.f2 a.f3).2 = true then doActsL (doAct l a.f0 a.f1 a.f2 a.f3).1 r (i + 1) else (l, i)
theorem doActsL_len : ∀ (r : List IAc) (l : List IFi) (i : Int), (doActsL l r i).1.length ≤ max l.length 30
  | [], l, i => by simp only [doActsL]; omega
  | a :: r, l, i => by
    simp only [doActsL]
    split
    · have := doActsL_len r (doAct l a.f0 a.f1 a.f2 a.f3).1 (i + 1)
      have := doAct_len l a.f0 a.f1 a.f2 a.f3
      omega
    · simp only; omega
theorem rd_IAc_drop {l : List IAc} {i : Nat} (h : i < l.length) : l.drop i = rd_T35 l (i : Int) :: l.drop (i + 1) := by
  rw [List.drop_eq_getElem_cons h, rd_IAc h]
theorem spec_DoActs_l0 (r : List IAc) (hr : r.length ≤ 1048576) (hs : ∀ x ∈ r, x.f2.size ≤ 17592186044416) : ∀ (d i : Nat) (l : List IFi), i + d = r.length → l.length ≤ 1048576 → Ev (fun k => spec_DoActs.l0 k r (i : Int) l) (doActsL l (r.drop i) (i : Int))
  | 0, i, l, h, hl => by
    obtain rfl : i = r.length := by omega
    rw [List.drop_length]
    refine Ev.step (f := fun k => some (l, (r.length : Int))) (fun k => ?_) (Ev.now _)
    simp only [spec_DoActs.l0]; rw [if_neg (by omega)]
  | d + 1, i, l, h, hl => by
    have hm := hs (rd_T35 r (i : Int)) (by rw [rd_IAc (by omega)]; exact List.getElem_mem _)
    rw [rd_IAc_drop (by omega : i < r.length)]
    have hq := doAct_len l (rd_T35 r (i : Int)).f0 (rd_T35 r (i : Int)).f1 (rd_T35 r (i : Int)).f2 (rd_T35 r (i : Int)).f3
    have ev := spec_DoAct_ev l hl (rd_T35 r (i : Int)).f0 (rd_T35 r (i : Int)).f1 (rd_T35 r (i : Int)).f2 (rd_T35 r (i : Int)).f3 hm
    simp only [doActsL]
    generalize hQ : doAct l (rd_T35 r (i : Int)).f0 (rd_T35 r (i : Int)).f1 (rd_T35 r (i : Int)).f2 (rd_T35 r (i : Int)).f3 = q at *
    have ih := spec_DoActs_l0 r hr hs d (i + 1) q.1 (by omega) (by omega)
    have w4 : wrap64 ((i : Int) + 1) = ((i + 1 : Nat) : Int) := by rw [w64 (by omega) (by omega)]; omega
    refine Ev.step (f := fun k => (spec_DoAct.f k l ((rd_T35 r i).f0) ((rd_T35 r i).f1) ((rd_T35 r i).f2) ((rd_T35 r i).f3)).bind fun q => (if q.2 = true then (spec_DoActs.l0 k r ((i + 1 : Nat) : Int) q.1) else (some (l, (i : Int))))) (fun k => ?_) (Ev.bind ev ?_)
    · simp only [spec_DoActs.l0, w4]
      rw [if_pos (by omega), if_pos (by omega)]
    · by_cases e : q.2 = true
      · exact (Ev.pos e ih).eq (if_pos e).symm
      · exact (Ev.neg e (Ev.now _)).eq (if_neg e).symm
theorem spec_DoActs_ev (l : List IFi) (hl : l.length ≤ 1048576) (r : List IAc) (hr : r.length ≤ 1048576) (hs : ∀ x ∈ r, x.f2.size ≤ 17592186044416) : Ev (fun k => spec_DoActs.f k l r) (doActsL l r 0) := by
  unfold spec_DoActs.f
  refine Ev.bind0 rfl (Ev.pos (by simp; omega) ?_)
  have := spec_DoActs_l0 r hr hs r.length 0 l (by omega) hl
  simpa using this
theorem impl_DoActs_l0 (r : List IAc) (hr : r.length ≤ 1048576) (hs : ∀ x ∈ r, x.f2.size ≤ 17592186044416) : ∀ (d i : Nat) (l : List IFi), i + d = r.length → l.length ≤ 1048576 → Ev (fun k => impl_DoActs.l0 k r r (r.length : Int) (i : Int) l) (doActsL l (r.drop i) (i : Int))
  | 0, i, l, h, hl => by
    obtain rfl : i = r.length := by omega
    rw [List.drop_length]
    refine Ev.step (f := fun k => some (l, (r.length : Int))) (fun k => ?_) (Ev.now _)
    simp only [impl_DoActs.l0]; rw [if_neg (by omega)]
  | d + 1, i, l, h, hl => by
    have hm := hs (rd_T35 r (i : Int)) (by rw [rd_IAc (by omega)]; exact List.getElem_mem _)
    rw [rd_IAc_drop (by omega : i < r.length)]
    have hq := doAct_len l (rd_T35 r (i : Int)).f0 (rd_T35 r (i : Int)).f1 (rd_T35 r (i : Int)).f2 (rd_T35 r (i : Int)).f3
    have ev := impl_DoAct_ev l hl (rd_T35 r (i : Int)).f0 (rd_T35 r (i : Int)).f1 (rd_T35 r (i : Int)).f2 (rd_T35 r (i : Int)).f3 hm
    simp only [doActsL]
    generalize hQ : doAct l (rd_T35 r (i : Int)).f0 (rd_T35 r (i : Int)).f1 (rd_T35 r (i : Int)).f2 (rd_T35 r (i : Int)).f3 = q at *
    have ih := impl_DoActs_l0 r hr hs d (i + 1) q.1 (by omega) (by omega)
    have w4 : wrap64 ((i : Int) + 1) = ((i + 1 : Nat) : Int) := by rw [w64 (by omega) (by omega)]; omega
    refine Ev.step (f := fun k => (impl_DoAct.f k l ((rd_T35 r i).f0) ((rd_T35 r i).f1) ((rd_T35 r i).f2) ((rd_T35 r i).f3)).bind fun q => (if q.2 = true then (impl_DoActs.l0 k r r (r.length : Int) ((i + 1 : Nat) : Int) q.1) else (some (l, (i : Int))))) (fun k => ?_) (Ev.bind ev ?_)
    · simp only [impl_DoActs.l0, w4]
      rw [if_pos (by omega), if_pos (by omega), if_pos (by omega)]
    · by_cases e : q.2 = true
      · exact (Ev.pos e ih).eq (if_pos e).symm
      · exact (Ev.neg e (Ev.now _)).eq (if_neg e).symm
theorem impl_DoActs_ev (l : List IFi) (hl : l.length ≤ 1048576) (r : List IAc) (hr : r.length ≤ 1048576) (hs : ∀ x ∈ r, x.f2.size ≤ 17592186044416) : Ev (fun k => impl_DoActs.f k l r) (doActsL l r 0) := by
  unfold impl_DoActs.f
  refine Ev.bind0 (impl_copyDisk_is l (by omega)) ?_
  have := impl_DoActs_l0 r hr hs r.length 0 l (by omega) hl
  simpa using this
theorem laws_big_is (l : List Int) : laws_big.f l = some (decide ((l.length : Int) > 1048576)) := rfl
theorem spec_l01New_l0 (s : List Int) (hs : s.length ≤ 140737488355328) : ∀ (d : Nat) (i h : Int), 0 ≤ i → 4000 ≤ i + d → ∃ h', Ev (fun k => spec_l01New.l0 k s h i) (s, 0, h')
  | 0, i, h, h0, h1 => by
    refine ⟨h, Ev.step (f := fun k => some (s, 0, h)) (fun k => ?_) (Ev.now _)⟩
    simp only [spec_l01New.l0]
    rw [if_neg (show ¬ i < 4000 by omega)]
    split <;> rfl
  | d + 1, i, h, h0, h1 => by
    by_cases e : i < (s.length : Int)
    · by_cases e2 : i < 4000
      · obtain ⟨h', hh⟩ := spec_l01New_l0 s hs d (i + 1) (Go.bits .and .i64 (wrap64 ((wrap64 ((wrap64 (h * 131)) + (wrap64 (rd s i)))) + 7)) 1073741823) (by omega) (by omega)
        refine ⟨h', Ev.step (f := fun k => spec_l01New.l0 k s (Go.bits .and .i64 (wrap64 ((wrap64 ((wrap64 (h * 131)) + (wrap64 (rd s i)))) + 7)) 1073741823) (i + 1)) (fun k => ?_) hh⟩
        simp only [spec_l01New.l0]
        rw [if_pos e, if_pos e2, if_pos h0, w64 (x := i + 1) (by omega) (by omega)]
      · refine ⟨h, Ev.step (f := fun k => some (s, 0, h)) (fun k => ?_) (Ev.now _)⟩
        simp only [spec_l01New.l0]
        rw [if_pos e, if_neg e2]
    · refine ⟨h, Ev.step (f := fun k => some (s, 0, h)) (fun k => ?_) (Ev.now _)⟩
      simp only [spec_l01New.l0]
      rw [if_neg e]
theorem spec_l01New_ev (s : List Int) (hs : s.length ≤ 140737488355328) : ∃ h, Ev (fun k => spec_l01New.f k s) (s, 0, h) := by
  unfold spec_l01New.f
  exact spec_l01New_l0 s hs 4000 0 _ (by omega) (by omega)
theorem and255 (x : Int) : 0 ≤ Go.bits .and .i64 x 255 ∧ Go.bits .and .i64 x 255 ≤ 255 := by
  have h : (BitVec.ofInt 64 x &&& BitVec.ofInt 64 255).toNat ≤ 255 := by rw [BitVec.toNat_and]; exact Nat.le_trans Nat.and_le_right (by decide)
  change 0 ≤ IntKind.i64.wrap ((BitVec.ofInt 64 x &&& BitVec.ofInt 64 255).toNat : Int) ∧ IntKind.i64.wrap ((BitVec.ofInt 64 x &&& BitVec.ofInt 64 255).toNat : Int) ≤ 255
  generalize (BitVec.ofInt 64 x &&& BitVec.ofInt 64 255).toNat = v at h ⊢
  rw [IntKind.wrap_i64]
  omega
def DR (s : List Int) (i : Int) : Prop := 0 ≤ i ∧ i ≤ (s.length : Int)
theorem spec_l01Byte_is (s : List Int) (hs : s.length ≤ 140737488355328) (i h : Int) (hd : DR s i) : ∃ r i' h', spec_l01Byte.f s i h = some (r, i', h') ∧ (0 ≤ r ∧ r ≤ 255) ∧ DR s i' := by
  obtain ⟨h0, h1⟩ := hd
  unfold spec_l01Byte.f
  by_cases e : i < (s.length : Int)
  · rw [if_pos e, if_pos h0]
    exact ⟨_, _, _, rfl, and255 _, by rw [w64 (by omega) (by omega)]; exact ⟨by omega, by omega⟩⟩
  · rw [if_neg e]
    exact ⟨_, _, _, rfl, and255 _, h0, h1⟩
theorem spec_l01Below_is (s : List Int) (hs : s.length ≤ 140737488355328) (i h n : Int) (hd : DR s i) (hn : 0 < n ∧ n ≤ 1000000000) : ∃ r i' h', spec_l01Below.f s i h n = some (r, i', h') ∧ (0 ≤ r ∧ r < n) ∧ DR s i' := by
  unfold spec_l01Below.f
  rw [if_neg (by omega)]
  obtain ⟨x, i1, h1, e1, hx, d1⟩ := spec_l01Byte_is s hs i h hd
  by_cases e : n ≤ 256
  · rw [if_pos e, e1, Option.bind_some, if_neg (by omega), tm (by simp only; omega)]
    refine ⟨_, _, _, rfl, ⟨Int.emod_nonneg _ (by omega), Int.emod_lt_of_pos _ (by omega)⟩, d1⟩
  · rw [if_neg e, e1, Option.bind_some]
    obtain ⟨y, i2, h2, e2, hy, d2⟩ := spec_l01Byte_is s hs i1 h1 d1
    obtain ⟨z, i3, h3, e3, hz, d3⟩ := spec_l01Byte_is s hs i2 h2 d2
    obtain ⟨v, i4, h4, e4, hv, d4⟩ := spec_l01Byte_is s hs i3 h3 d3
    simp only [e2, e3, e4, Option.bind_some]
    rw [if_neg (by omega), w64 (x := x * 16777216) (by omega) (by omega), w64 (x := y * 65536) (by omega) (by omega), w64 (x := z * 256) (by omega) (by omega), w64 (x := x * 16777216 + y * 65536) (by omega) (by omega), w64 (x := x * 16777216 + y * 65536 + z * 256) (by omega) (by omega), w64 (by omega) (by omega), tm (by omega)]
    refine ⟨_, _, _, rfl, ⟨Int.emod_nonneg _ (by omega), Int.emod_lt_of_pos _ (by omega)⟩, d4⟩
theorem spec_l01Text_l0 (s : List Int) (hs : s.length ≤ 140737488355328) (n : Int) : ∀ (d : Nat) (acc : List Int) (i a b : Int), 0 ≤ i → i ≤ 5000 → n ≤ i + d → n ≤ 5000 → acc.length ≤ i → DR s a → ∃ t a' b', Ev (fun k => spec_l01Text.l0 k n acc i s a b) (t, a', b') ∧ DR s a'
  | 0, acc, i, a, b, h0, h1, h2, h3, h4, hd => by
    refine ⟨_, _, _, Ev.step (f := fun k => some (strOfNums acc, a, b)) (fun k => ?_) (Ev.now _), hd⟩
    simp only [spec_l01Text.l0]
    rw [if_neg (by omega)]
  | d + 1, acc, i, a, b, h0, h1, h2, h3, h4, hd => by
    by_cases e : i < n
    · obtain ⟨x, a1, b1, e1, hx, d1⟩ := spec_l01Byte_is s hs a b hd
      obtain ⟨t, a', b', ht, d2⟩ := spec_l01Text_l0 s hs n d (acc ++ [x % 256]) (i + 1) a1 b1 (by omega) (by omega) (by omega) h3 (by simp; omega) d1
      refine ⟨t, a', b', Ev.step (f := fun k => spec_l01Text.l0 k n (acc ++ [x % 256]) (i + 1) s a1 b1) (fun k => ?_) ht, d2⟩
      simp only [spec_l01Text.l0]
      rw [if_pos e, e1, Option.bind_some, if_pos (by omega), w64 (x := i + 1) (by omega) (by omega)]
    · refine ⟨_, _, _, Ev.step (f := fun k => some (strOfNums acc, a, b)) (fun k => ?_) (Ev.now _), hd⟩
      simp only [spec_l01Text.l0]
      rw [if_neg e]
theorem spec_l01Text_ev (s : List Int) (hs : s.length ≤ 140737488355328) (a b n : Int) (hn : n ≤ 5000) (hd : DR s a) : ∃ t a' b', Ev (fun k => spec_l01Text.f k s a b n) (t, a', b') ∧ DR s a' := by
  obtain ⟨t, a', b', ht, d2⟩ := spec_l01Text_l0 s hs n 5000 [] 0 a b (by omega) (by omega) (by omega) hn (by simp) hd
  refine ⟨t, a', b', ?_, d2⟩
  unfold spec_l01Text.f
  exact Ev.neg (by omega) (Ev.step (f := fun k => spec_l01Text.l0 k n [] 0 s a b) (fun k => by simp only [spec_l01Text.j0]) ht)
theorem rdOf_nat {α : Type} (d : α) (l : List α) (i : Nat) (h : i < l.length) : rdOf d l (i : Int) = l[i] := by
  simp [rdOf, List.getD_eq_getElem?_getD, List.getElem?_eq_getElem h]
theorem spec_l01Pick_is (s : List Int) (hs : s.length ≤ 140737488355328) (i h : Int) (l : List ByteArray) (hd : DR s i) (hl : 0 < l.length ∧ l.length ≤ 1000) : ∃ r i' h', spec_l01Pick.f s i h l = some (r, i', h') ∧ r ∈ l ∧ DR s i' := by
  obtain ⟨x, i1, h1, e1, hx, d1⟩ := spec_l01Below_is s hs i h (l.length : Int) hd (by omega)
  unfold spec_l01Pick.f
  rw [e1, Option.bind_some, if_pos (by simp only; omega), if_pos (by simp only; omega)]
  refine ⟨_, _, _, rfl, ?_, d1⟩
  obtain ⟨n, rfl⟩ : ∃ n : Nat, x = n := ⟨x.toNat, by omega⟩
  rw [rdOf_nat _ l n (by omega)]
  exact List.getElem_mem _
theorem spec_l03Named_is (s : List Int) (hs : s.length ≤ 140737488355328) (i h : Int) (hd : DR s i) : ∃ r i' h', spec_l03Named.f s i h = some (r, i', h') ∧ (1 ≤ r.size ∧ r.size ≤ 8) ∧ DR s i' := by
  obtain ⟨r, i1, h1, e1, hr, d1⟩ := spec_l01Pick_is s hs i h [(⟨#[97]⟩ : ByteArray), (⟨#[98]⟩ : ByteArray), (⟨#[99]⟩ : ByteArray), (⟨#[106, 48]⟩ : ByteArray), (⟨#[106, 49]⟩ : ByteArray), (⟨#[106, 43]⟩ : ByteArray), (⟨#[115, 48]⟩ : ByteArray), (⟨#[115, 43]⟩ : ByteArray)] hd (by simp)
  unfold spec_l03Named.f
  rw [e1, Option.bind_some]
  refine ⟨_, _, _, rfl, ?_, d1⟩
  simp only [List.mem_cons, List.not_mem_nil, or_false] at hr
  rcases hr with rfl | rfl | rfl | rfl | rfl | rfl | rfl | rfl <;> (refine ⟨?_, ?_⟩ <;> simp only <;> decide)
theorem evAt {α : Type} {g : Nat → Option α} {r : α} (N : Nat) (h : ∀ k, N ≤ k → g (k + 1) = some r) : Ev g r := ⟨N + 1, fun m hm => by
  obtain ⟨k, rfl⟩ : ∃ k, m = k + 1 := ⟨m - 1, by omega⟩
  exact h k (by omega)⟩
theorem spec_l01PickInt_is (s : List Int) (hs : s.length ≤ 140737488355328) (i h : Int) (l : List Int) (hd : DR s i) (hl : 0 < l.length ∧ l.length ≤ 1000) : ∃ r i' h', spec_l01PickInt.f s i h l = some (r, i', h') ∧ DR s i' := by
  obtain ⟨x, i1, h1, e1, hx, d1⟩ := spec_l01Below_is s hs i h (l.length : Int) hd (by omega)
  unfold spec_l01PickInt.f
  rw [e1, Option.bind_some, if_pos (by simp only; omega), if_pos (by simp only; omega)]
  exact ⟨_, _, _, rfl, d1⟩
theorem spec_l01Figure_is (x : Int) (h0 : 0 ≤ x) (h1 : x < 16) : spec_l01Figure.f x = some (fig x) := by
  unfold spec_l01Figure.f fig
  by_cases h : x < 10
  · rw [if_pos h, if_pos h, w64 (x := 48 + x) (by omega) (by omega)]; congr 1; omega
  · rw [if_neg h, if_neg h, w64 (x := 97 + x) (by omega) (by omega), w64 (x := 97 + x - 10) (by omega) (by omega)]; congr 1; omega
-- needs MathDec
def decB (u : Nat) : ByteArray := ⟨(Lib.decDigits u).toArray⟩
theorem decB_small {u : Nat} (h : u < 10) : decB u = strOfNums [48 + (u : Int)] := by
  unfold decB; rw [Lib.decDigits_one h]
  apply ByteArray.ext
  simp only [strOfNums, List.map_cons, List.map_nil]
  congr 3
theorem decB_big {u : Nat} (h : ¬ u < 10) : decB u = decB (u / 10) ++ strOfNums [48 + ((u % 10 : Nat) : Int)] := by
  unfold decB; rw [Lib.decDigits, dif_neg h]
  apply ByteArray.ext
  simp only [ByteArray.data_append, strOfNums, List.map_cons, List.map_nil]
  rw [List.append_toArray]
  congr 4
/-- The decimal figures of a number ahead of a text; nothing for 0. -/
def decG (m : Nat) (acc : ByteArray) : ByteArray := if m = 0 then acc else decB m ++ acc
theorem decG_zero (acc : ByteArray) : decG 0 acc = acc := if_pos rfl
theorem decG_step {m : Nat} (h : m ≠ 0) (acc : ByteArray) : decG (m / 10) (strOfNums [48 + ((m % 10 : Nat) : Int)] ++ acc) = decG m acc := by
  unfold decG
  rw [if_neg h]
  by_cases h1 : m < 10
  · rw [if_pos (by omega), decB_small h1, Nat.mod_eq_of_lt h1]
  · rw [if_neg (by omega), decB_big h1, M.append_assoc]
def signB (neg : Bool) (s : ByteArray) : ByteArray := if neg = true then (⟨#[45]⟩ : ByteArray) ++ s else s
def decS (n : Int) : ByteArray := ⟨(Lib.itoa n).toArray⟩
theorem decS_neg {n : Int} (h : n < 0) : decS n = (⟨#[45]⟩ : ByteArray) ++ decB n.natAbs := by
  unfold decS decB Lib.itoa; rw [if_pos h]
  apply ByteArray.ext
  rw [ByteArray.data_append]
  apply Array.toList_inj.1
  rw [Array.toList_append]
  simp
theorem decS_pos {n : Int} (h : ¬ n < 0) : decS n = decB n.natAbs := by
  unfold decS decB Lib.itoa; rw [if_neg h]
  have : n.toNat = n.natAbs := by omega
  rw [this]
theorem decB_size (u : Nat) (d : Nat) (h : u < 10 ^ (d + 1)) : (decB u).size ≤ d + 1 := by
  induction d generalizing u with
  | zero => rw [decB_small (by omega), str_size]; simp
  | succ d ih =>
    by_cases h1 : u < 10
    · rw [decB_small h1, str_size]; simp
    · rw [decB_big h1, size_append, str_size]
      have := ih (u / 10) (by rw [Nat.pow_succ] at h; omega)
      simp only [List.length_cons, List.length_nil]; omega
theorem decS_size (n : Int) (h0 : -9223372036854775808 ≤ n) (h1 : n ≤ 9223372036854775807) : (decS n).size ≤ 21 := by
  have := decB_size n.natAbs 19 (by omega)
  by_cases h : n < 0
  · rw [decS_neg h, size_append]
    have e : (⟨#[45]⟩ : ByteArray).size = 1 := rfl
    omega
  · rw [decS_pos h]; omega
theorem spec_Decimal_l0 (neg : Bool) : ∀ (d : Nat) (x : Int) (acc : ByteArray), x.natAbs < 10 ^ d → x.natAbs ≤ 9223372036854775808 → acc.size + d ≤ 60 →
    Ev (fun k => spec_Decimal.l0 k x neg acc) (signB neg (decG x.natAbs acc))
  | 0, x, acc, h, hb, ha => by
    obtain rfl : x = 0 := by simp at h; omega
    refine Ev.step (f := fun k => some (signB neg acc)) (fun k => ?_) ((Ev.now _).eq (by rfl))
    simp only [spec_Decimal.l0]; rw [if_pos trivial]
    unfold signB
    cases neg
    · rfl
    · rw [if_pos rfl, if_pos (by omega), if_pos rfl]
  | d + 1, x, acc, h, hb, ha => by
    by_cases hx : x = 0
    · subst hx
      refine Ev.step (f := fun k => some (signB neg acc)) (fun k => ?_) ((Ev.now _).eq (by rfl))
      simp only [spec_Decimal.l0]; rw [if_pos trivial]
      unfold signB
      cases neg
      · rfl
      · rw [if_pos rfl, if_pos (by omega), if_pos rfl]
    · have e1 : (Int.tmod x 10).natAbs = x.natAbs % 10 := Int.natAbs_tmod x 10
      have e2 : (Int.tdiv x 10).natAbs = x.natAbs / 10 := Int.natAbs_tdiv x 10
      have hs : (strOfNums [48 + ((x.natAbs % 10 : Nat) : Int)]).size = 1 := by rw [str_size]; rfl
      have hf : fig ((x.natAbs % 10 : Nat) : Int) = 48 + ((x.natAbs % 10 : Nat) : Int) := by unfold fig; rw [if_pos (by omega)]
      have hw : wrap64 (Int.tdiv x 10) = Int.tdiv x 10 := w64 (by omega) (by omega)
      have hp : x.natAbs / 10 < 10 ^ d := by rw [Nat.pow_succ] at h; omega
      have ih := spec_Decimal_l0 neg d (Int.tdiv x 10) (strOfNums [48 + ((x.natAbs % 10 : Nat) : Int)] ++ acc) (by rw [e2]; exact hp) (by omega) (by rw [size_append, hs]; omega)
      rw [e2, decG_step (by omega)] at ih
      refine Ev.step (f := fun k => spec_Decimal.l0 k (Int.tdiv x 10) neg (strOfNums [48 + ((x.natAbs % 10 : Nat) : Int)] ++ acc)) (fun k => ?_) ih
      simp only [spec_Decimal.l0]; rw [if_neg hx]
      by_cases ht : Int.tmod x 10 < 0
      · have e3 : wrap64 (-(Int.tmod x 10)) = ((x.natAbs % 10 : Nat) : Int) := by rw [w64 (by omega) (by omega)]; omega
        rw [if_pos ht, e3, spec_l01Figure_is _ (by omega) (by omega)]
        simp only [Option.bind_some, hf]
        rw [if_pos (by rw [hs]; omega), hw]
      · have e3 : Int.tmod x 10 = ((x.natAbs % 10 : Nat) : Int) := by omega
        rw [if_neg ht, e3, spec_l01Figure_is _ (by omega) (by omega)]
        simp only [Option.bind_some, hf]
        rw [if_pos (by rw [hs]; omega), hw]
theorem spec_Decimal_ev (n : Int) (h0 : -9223372036854775808 ≤ n) (h1 : n ≤ 9223372036854775807) : Ev (fun k => spec_Decimal.f k n) (decS n) := by
  unfold spec_Decimal.f
  by_cases h : n = 0
  · subst h; exact Ev.pos rfl ((Ev.now _).eq (by rw [decS_pos (by decide)]; exact (decB_small (u := 0) (by decide)).symm ▸ rfl))
  · refine Ev.neg h ((spec_Decimal_l0 _ 20 n _ (by omega) (by omega) (by simp [ByteArray.size])).eq ?_)
    have e : decG n.natAbs (⟨#[]⟩ : ByteArray) = decB n.natAbs := by unfold decG; rw [if_neg (by omega), M.append_nil]
    rw [e]; unfold signB
    by_cases hn : n < 0
    · rw [decide_eq_true hn, if_pos rfl, decS_neg hn]
    · rw [decide_eq_false hn, if_neg (by decide), decS_pos hn]
theorem spec_l01Long_l0 (n x : Int) (hn : 0 ≤ n ∧ n ≤ 100000) : ∀ (d : Nat) (acc : List Int) (i : Int), 0 ≤ i → n ≤ i + d → i ≤ n → acc.length = n.toNat → ∃ t, Ev (fun k => spec_l01Long.l0 k n x acc i) t
  | 0, acc, i, h0, h1, h2, h3 => by
    refine ⟨_, Ev.step (f := fun k => some (strOfNums acc)) (fun k => ?_) (Ev.now _)⟩
    simp only [spec_l01Long.l0]
    rw [if_neg (by omega)]
  | d + 1, acc, i, h0, h1, h2, h3 => by
    by_cases e : i < n
    · obtain ⟨t, ht⟩ := spec_l01Long_l0 n x hn d (acc.set i.toNat x) (i + 1) (by omega) (by omega) (by omega) (by simpa using h3)
      refine ⟨t, Ev.step (f := fun k => spec_l01Long.l0 k n x (acc.set i.toNat x) (i + 1)) (fun k => ?_) ht⟩
      simp only [spec_l01Long.l0]
      rw [if_pos e, if_pos h0, if_pos (by omega), w64 (x := i + 1) (by omega) (by omega)]
    · refine ⟨_, Ev.step (f := fun k => some (strOfNums acc)) (fun k => ?_) (Ev.now _)⟩
      simp only [spec_l01Long.l0]
      rw [if_neg e]
theorem spec_l01Long_ev (n x : Int) (hn : 0 ≤ n ∧ n ≤ 100000) : ∃ t, Ev (fun k => spec_l01Long.f k n x) t := by
  obtain ⟨t, ht⟩ := spec_l01Long_l0 n x hn n.toNat (List.replicate n.toNat 0) 0 (by omega) (by omega) (by omega) (by simp)
  refine ⟨t, ?_⟩
  unfold spec_l01Long.f
  exact Ev.pos hn.1 (Ev.pos (by omega) ht)
theorem spec_l01Text_z0 (s : List Int) (hs : s.length ≤ 140737488355328) (n : Int) : ∀ (d : Nat) (acc : List Int) (i a b : Int), 0 ≤ i → i ≤ 5000 → n ≤ i + d → n ≤ 5000 → acc.length ≤ i → DR s a → ∃ t a' b', Ev (fun k => spec_l01Text.l0 k n acc i s a b) (t, a', b') ∧ DR s a' ∧ t.size ≤ 5000
  | 0, acc, i, a, b, h0, h1, h2, h3, h4, hd => by
    refine ⟨_, _, _, Ev.step (f := fun k => some (strOfNums acc, a, b)) (fun k => ?_) (Ev.now _), hd, by rw [str_size]; omega⟩
    simp only [spec_l01Text.l0]
    rw [if_neg (by omega)]
  | d + 1, acc, i, a, b, h0, h1, h2, h3, h4, hd => by
    by_cases e : i < n
    · obtain ⟨x, a1, b1, e1, hx, d1⟩ := spec_l01Byte_is s hs a b hd
      obtain ⟨t, a', b', ht, d2⟩ := spec_l01Text_z0 s hs n d (acc ++ [x % 256]) (i + 1) a1 b1 (by omega) (by omega) (by omega) h3 (by simp; omega) d1
      refine ⟨t, a', b', Ev.step (f := fun k => spec_l01Text.l0 k n (acc ++ [x % 256]) (i + 1) s a1 b1) (fun k => ?_) ht, d2⟩
      simp only [spec_l01Text.l0]
      rw [if_pos e, e1, Option.bind_some, if_pos (by omega), w64 (x := i + 1) (by omega) (by omega)]
    · refine ⟨_, _, _, Ev.step (f := fun k => some (strOfNums acc, a, b)) (fun k => ?_) (Ev.now _), hd, by rw [str_size]; omega⟩
      simp only [spec_l01Text.l0]
      rw [if_neg e]
theorem spec_l01Text_sz (s : List Int) (hs : s.length ≤ 140737488355328) (a b n : Int) (hn : n ≤ 5000) (hd : DR s a) : ∃ t a' b', Ev (fun k => spec_l01Text.f k s a b n) (t, a', b') ∧ DR s a' ∧ t.size ≤ 5000 := by
  obtain ⟨t, a', b', ht, d2⟩ := spec_l01Text_z0 s hs n 5000 [] 0 a b (by omega) (by omega) (by omega) hn (by simp) hd
  refine ⟨t, a', b', ?_, d2⟩
  unfold spec_l01Text.f
  exact Ev.neg (by omega) (Ev.step (f := fun k => spec_l01Text.l0 k n [] 0 s a b) (fun k => by simp only [spec_l01Text.j0]) ht)
theorem spec_l03Disk_l1 (s : List Int) (hs : s.length ≤ 140737488355328) : ∀ (d i : Nat) (a b : Int) (l : List IFi), i + d = 31 → DR s a → l.length ≤ i →
    ∃ t a' b', Ev (fun k => spec_l03Disk.l1 k (i : Int) s a b l) (t, a', b') ∧ t.length ≤ 31 ∧ DR s a' := by
  intro d
  induction d with
  | zero =>
    intro i a b l h hd hl
    obtain ⟨x, a1, b1, e1, hx, d1⟩ := spec_l01Below_is s hs a b 2 hd (by omega)
    refine ⟨l, a1, b1, evAt 0 (fun k _ => ?_), by omega, d1⟩
    simp only [spec_l03Disk.l1, e1, Option.bind_some]
    rw [w64 (x := 30 + x) (by omega) (by omega), if_neg (by omega)]
  | succ d ih =>
    intro i a b l h hd hl
    obtain ⟨x, a1, b1, e1, hx, d1⟩ := spec_l01Below_is s hs a b 2 hd (by omega)
    by_cases hi : (i : Int) < 30 + x
    · obtain ⟨N1, h1⟩ := spec_Decimal_ev (100 + (i : Int)) (by omega) (by omega)
      obtain ⟨t, a2, b2, ⟨N2, h2⟩, ht, d2⟩ := ih (i + 1) a1 b1 (l ++ [⟨(⟨#[102]⟩ : ByteArray) ++ decS (100 + (i : Int)), (⟨#[]⟩ : ByteArray), 0⟩]) (by omega) d1 (by simp; omega)
      dsimp only at h1 h2
      have hsz := decS_size (100 + (i : Int)) (by omega) (by omega)
      refine ⟨t, a2, b2, evAt (max N1 N2) (fun k hk => ?_), ht, d2⟩
      have w4 : wrap64 ((i : Int) + 1) = ((i + 1 : Nat) : Int) := by rw [w64 (by omega) (by omega)]; omega
      simp only [spec_l03Disk.l1, e1, Option.bind_some]
      rw [w64 (x := 30 + x) (by omega) (by omega), if_pos hi, w64 (x := 100 + (i : Int)) (by omega) (by omega), h1 k (by omega), Option.bind_some, if_pos (by omega), if_pos (by omega), w4, h2 k (by omega)]
    · refine ⟨l, a1, b1, evAt 0 (fun k _ => ?_), by omega, d1⟩
      simp only [spec_l03Disk.l1, e1, Option.bind_some]
      rw [w64 (x := 30 + x) (by omega) (by omega), if_neg hi]
theorem spec_l03Disk_end (s : List Int) (hs : s.length ≤ 140737488355328) (i : Nat) (a b : Int) (l : List IFi) (hd : DR s a) (hl : l.length ≤ 6) (x a1 b1 : Int) (e1 : spec_l01Below.f s a b 6 = some (x, a1, b1)) (d1 : DR s a1) (hi : ¬ (i : Int) < x) :
    ∃ t a' b', Ev (fun k => spec_l03Disk.l0 k (i : Int) s a b l) (t, a', b') ∧ t.length ≤ 31 ∧ DR s a' := by
  by_cases h0 : (l.length : Int) = 0
  · refine ⟨l, a1, b1, evAt 0 (fun k _ => ?_), by omega, d1⟩
    simp only [spec_l03Disk.l0, e1, Option.bind_some]
    rw [if_neg hi, if_pos h0]
  · obtain ⟨p, a2, b2, e2, hp, d2⟩ := spec_l01Below_is s hs a1 b1 (l.length : Int) d1 (by omega)
    obtain ⟨q, a3, b3, e3, hq, d3⟩ := spec_l01Below_is s hs a2 b2 40 d2 (by omega)
    by_cases q0 : q = 0
    · obtain ⟨y, a4, b4, e4, d4⟩ := spec_l01PickInt_is s hs a3 b3 [(-1), wrap64 ((((rd_T76 l p).f1).size : Int) + 1)] d3 (by simp)
      refine ⟨l.set p.toNat ⟨(rd_T76 l p).f0, (rd_T76 l p).f1, y⟩, a4, b4, evAt 0 (fun k _ => ?_), by simp; omega, d4⟩
      simp only [spec_l03Disk.l0, e1, e2, e3, Option.bind_some]
      rw [if_neg hi, if_neg h0, if_pos q0, if_pos hp.1, if_pos hp.2, e4]; rfl
    · by_cases q1 : q = 1
      · refine ⟨l ++ [⟨(rd_T76 l p).f0, (rd_T76 l p).f1, (rd_T76 l p).f2⟩], a3, b3, evAt 0 (fun k _ => ?_), by simp; omega, d3⟩
        simp only [spec_l03Disk.l0, e1, e2, e3, Option.bind_some]
        rw [if_neg hi, if_neg h0, if_neg q0, if_pos q1, if_pos hp.1, if_pos hp.2, if_pos (by omega)]
      · by_cases q2 : q = 2
        · obtain ⟨y, a4, b4, e4, _, d4⟩ := spec_l01Pick_is s hs a3 b3 [(⟨#[]⟩ : ByteArray), (⟨#[49, 50, 51, 52, 53, 54, 55, 56]⟩ : ByteArray), (⟨#[49, 50, 51, 52, 53, 54, 55, 56, 57]⟩ : ByteArray)] d3 (by simp)
          refine ⟨l.set p.toNat ⟨y, (rd_T76 l p).f1, (rd_T76 l p).f2⟩, a4, b4, evAt 0 (fun k _ => ?_), by simp; omega, d4⟩
          simp only [spec_l03Disk.l0, e1, e2, e3, Option.bind_some]
          rw [if_neg hi, if_neg h0, if_neg q0, if_neg q1, if_pos q2, e4, Option.bind_some, if_pos hp.1, if_pos hp.2]
        · by_cases q3 : q = 3
          · obtain ⟨t, a4, b4, ⟨N, hN⟩, ht, d4⟩ := spec_l03Disk_l1 s hs 31 0 a3 b3 [] (by omega) d3 (by simp)
            refine ⟨t, a4, b4, evAt N (fun k hk => ?_), ht, d4⟩
            simp only [spec_l03Disk.l0, e1, e2, e3, Option.bind_some]
            rw [if_neg hi, if_neg h0, if_neg q0, if_neg q1, if_neg q2, if_pos q3]
            exact hN k hk
          · by_cases q4 : q = 4
            · obtain ⟨y, a4, b4, e4, hy, d4⟩ := spec_l01Below_is s hs a3 b3 3 d3 (by omega)
              obtain ⟨t, N, hN⟩ := spec_l01Long_ev (19999 + y) 65 (by omega)
              dsimp only at hN
              refine ⟨l.set p.toNat ⟨(rd_T76 l p).f0, t, (rd_T76 l p).f2⟩, a4, b4, evAt N (fun k hk => ?_), by simp; omega, d4⟩
              simp only [spec_l03Disk.l0, e1, e2, e3, Option.bind_some]
              rw [if_neg hi, if_neg h0, if_neg q0, if_neg q1, if_neg q2, if_neg q3, if_pos q4, e4, Option.bind_some, w64 (x := 19999 + y) (by omega) (by omega), hN k hk, Option.bind_some, if_pos hp.1, if_pos hp.2]
            · refine ⟨l, a3, b3, evAt 0 (fun k _ => ?_), by omega, d3⟩
              simp only [spec_l03Disk.l0, e1, e2, e3, Option.bind_some]
              rw [if_neg hi, if_neg h0, if_neg q0, if_neg q1, if_neg q2, if_neg q3, if_neg q4]
theorem spec_l03Disk_l0 (s : List Int) (hs : s.length ≤ 140737488355328) : ∀ (d i : Nat) (a b : Int) (l : List IFi), i + d = 6 → DR s a → l.length ≤ i →
    ∃ t a' b', Ev (fun k => spec_l03Disk.l0 k (i : Int) s a b l) (t, a', b') ∧ t.length ≤ 31 ∧ DR s a' := by
  intro d
  induction d with
  | zero =>
    intro i a b l h hd hl
    obtain ⟨x, a1, b1, e1, hx, d1⟩ := spec_l01Below_is s hs a b 6 hd (by omega)
    exact spec_l03Disk_end s hs i a b l hd (by omega) x a1 b1 e1 d1 (by omega)
  | succ d ih =>
    intro i a b l h hd hl
    obtain ⟨x, a1, b1, e1, hx, d1⟩ := spec_l01Below_is s hs a b 6 hd (by omega)
    by_cases hi : (i : Int) < x
    · obtain ⟨y, a2, b2, e2, hy, d2⟩ := spec_l01Below_is s hs a1 b1 9 d1 (by omega)
      obtain ⟨t, a3, b3, e3, d3, ht⟩ := spec_l01Text_sz s hs a2 b2 y (by omega) d2
      obtain ⟨nm, a4, b4, e4, hn, d4⟩ := spec_l03Named_is s hs a3 b3 d3
      obtain ⟨z, a5, b5, e5, hz, d5⟩ := spec_l01Below_is s hs a4 b4 ((t.size : Int) + 1) d4 (by omega)
      have hp := putL_len l ⟨nm, t, z⟩
      obtain ⟨u, a6, b6, hu, hk, d6⟩ := ih (i + 1) a5 b5 (putL l ⟨nm, t, z⟩) (by omega) d5 (by omega)
      refine ⟨u, a6, b6, Ev.step (f := fun k => (spec_l01Text.f k s a2 b2 y).bind fun bt184 => (spec_l03Named.f s bt184.2.1 bt184.2.2).bind fun bt187 => (spec_l01Below.f s bt187.2.1 bt187.2.2 (wrap64 ((bt184.1.size : Int) + 1))).bind fun bt190 => (spec_l03Put.f k l bt187.1 bt184.1 bt190.1).bind fun t193 => spec_l03Disk.l0 k ((i + 1 : Nat) : Int) s bt190.2.1 bt190.2.2 t193) (fun k => ?_) ?_, hk, d6⟩
      · simp only [spec_l03Disk.l0]
        rw [e1, Option.bind_some, if_pos (by simp only; exact hi)]
        have w4 : wrap64 ((i : Int) + 1) = ((i + 1 : Nat) : Int) := by rw [w64 (by omega) (by omega)]; omega
        simp only [e2, Option.bind_some, w4]
      · have e6 : spec_l01Below.f s a4 b4 (wrap64 ((t.size : Int) + 1)) = some (z, a5, b5) := by rw [w64 (by omega) (by omega)]; exact e5
        have hp2 : Ev (fun k => spec_l03Put.f k l nm t z) (putL l ⟨nm, t, z⟩) := spec_l03Put_ev l (by omega) ⟨nm, t, z⟩
        exact Ev.bind e3 (Ev.bind0 e4 (Ev.bind0 e6 (Ev.bind hp2 hu)))
    · exact spec_l03Disk_end s hs i a b l hd (by omega) x a1 b1 e1 d1 hi
theorem spec_l03Disk_ev (s : List Int) (hs : s.length ≤ 140737488355328) (a b : Int) (hd : DR s a) : ∃ t a' b', Ev (fun k => spec_l03Disk.f k s a b) (t, a', b') ∧ t.length ≤ 31 ∧ DR s a' := spec_l03Disk_l0 s hs 6 0 a b [] (by omega) hd (by simp)
theorem spec_l03Act_j0 (s : List Int) (hs : s.length ≤ 140737488355328) (a b : Int) (hd : DR s a) (c : Int) (n t u : ByteArray) (ht : t.size ≤ 5000) : ∃ c' n' t' u' a' b', Ev (fun k => spec_l03Act.j0 k s a b c n t u) (c', n', t', u', a', b') ∧ t'.size ≤ 5000 ∧ DR s a' := by
  obtain ⟨q, a1, b1, e1, hq, d1⟩ := spec_l01Below_is s hs a b 40 hd (by omega)
  by_cases q0 : q = 0
  · obtain ⟨y, a4, b4, e4, d4⟩ := spec_l01PickInt_is s hs a1 b1 [0, 5] d1 (by simp)
    refine ⟨y, n, t, u, a4, b4, evAt 0 (fun k _ => ?_), ht, d4⟩
    simp only [spec_l03Act.j0, e1, Option.bind_some]
    rw [if_pos q0, e4]; rfl
  · by_cases q1 : q = 1
    · obtain ⟨y, a4, b4, e4, _, d4⟩ := spec_l01Pick_is s hs a1 b1 [(⟨#[]⟩ : ByteArray), (⟨#[49, 50, 51, 52, 53, 54, 55, 56, 57]⟩ : ByteArray), (⟨#[110, 101, 119]⟩ : ByteArray)] d1 (by simp)
      refine ⟨c, y, t, u, a4, b4, evAt 0 (fun k _ => ?_), ht, d4⟩
      simp only [spec_l03Act.j0, e1, Option.bind_some]
      rw [if_neg q0, if_pos q1, e4]; rfl
    · by_cases q2 : q = 2
      · refine ⟨c, n, t, (⟨#[120]⟩ : ByteArray), a1, b1, evAt 0 (fun k _ => ?_), ht, d1⟩
        simp only [spec_l03Act.j0, e1, Option.bind_some]
        rw [if_neg q0, if_neg q1, if_pos q2]
      · by_cases q3 : q = 3
        · refine ⟨c, n, (⟨#[120]⟩ : ByteArray), u, a1, b1, evAt 0 (fun k _ => ?_), by decide, d1⟩
          simp only [spec_l03Act.j0, e1, Option.bind_some]
          rw [if_neg q0, if_neg q1, if_neg q2, if_pos q3]
        · refine ⟨c, n, t, u, a1, b1, evAt 0 (fun k _ => ?_), ht, d1⟩
          simp only [spec_l03Act.j0, e1, Option.bind_some]
          rw [if_neg q0, if_neg q1, if_neg q2, if_neg q3]
theorem spec_l03Act_ev (s : List Int) (hs : s.length ≤ 140737488355328) (a b : Int) (hd : DR s a) : ∃ c' n' t' u' a' b', Ev (fun k => spec_l03Act.f k s a b) (c', n', t', u', a', b') ∧ t'.size ≤ 5000 ∧ DR s a' := by
  obtain ⟨x, a1, b1, e1, hx, d1⟩ := spec_l01Below_is s hs a b 4 hd (by omega)
  obtain ⟨nm, a2, b2, e2, _, d2⟩ := spec_l03Named_is s hs a1 b1 d1
  have w : wrap64 (1 + x) = 1 + x := w64 (by omega) (by omega)
  have z0 : (⟨#[]⟩ : ByteArray).size ≤ 5000 := by decide
  by_cases c1 : 1 + x = 1
  · obtain ⟨y, a3, b3, e3, hy, d3⟩ := spec_l01Below_is s hs a2 b2 6 d2 (by omega)
    obtain ⟨t, a4, b4, e4, d4, ht⟩ := spec_l01Text_sz s hs a3 b3 y (by omega) d3
    obtain ⟨c', n', t', u', a', b', h, hz, hd'⟩ := spec_l03Act_j0 s hs a4 b4 d4 (1 + x) nm t (⟨#[]⟩ : ByteArray) ht
    refine ⟨c', n', t', u', a', b', ?_, hz, hd'⟩
    unfold spec_l03Act.f
    refine Ev.bind0 e1 (Ev.bind0 e2 ?_)
    simp only [w]
    exact Ev.pos c1 (Ev.bind0 e3 (Ev.bind e4 h))
  · by_cases c3 : 1 + x = 3
    · obtain ⟨y, a3, b3, e3, _, d3⟩ := spec_l03Named_is s hs a2 b2 d2
      obtain ⟨c', n', t', u', a', b', h, hz, hd'⟩ := spec_l03Act_j0 s hs a3 b3 d3 (1 + x) nm (⟨#[]⟩ : ByteArray) y z0
      refine ⟨c', n', t', u', a', b', ?_, hz, hd'⟩
      unfold spec_l03Act.f
      refine Ev.bind0 e1 (Ev.bind0 e2 ?_)
      simp only [w]
      exact Ev.neg c1 (Ev.pos c3 (Ev.bind0 e3 h))
    · obtain ⟨c', n', t', u', a', b', h, hz, hd'⟩ := spec_l03Act_j0 s hs a2 b2 d2 (1 + x) nm (⟨#[]⟩ : ByteArray) (⟨#[]⟩ : ByteArray) z0
      refine ⟨c', n', t', u', a', b', ?_, hz, hd'⟩
      unfold spec_l03Act.f
      refine Ev.bind0 e1 (Ev.bind0 e2 ?_)
      simp only [w]
      exact Ev.neg c1 (Ev.neg c3 h)
theorem spec_l01Once_is (s : List Int) (hs : s.length ≤ 140737488355328) (i h n : Int) (hd : DR s i) (hn : 0 < n ∧ n ≤ 1000000000) : ∃ r i' h', spec_l01Once.f s i h n = some (r, i', h') ∧ DR s i' := by
  obtain ⟨x, i1, h1, e1, hx, d1⟩ := spec_l01Below_is s hs i h n hd hn
  unfold spec_l01Once.f
  rw [e1, Option.bind_some]
  exact ⟨_, _, _, rfl, d1⟩
theorem spec_l03Acts_l0 (s : List Int) (hs : s.length ≤ 140737488355328) : ∀ (d i : Nat) (a b : Int) (acc : List IAc) (l : List IFi), i + d = 9 → DR s a → acc.length ≤ i → (∀ x ∈ acc, x.f2.size ≤ 17592186044416) → l.length ≤ 1048576 →
    ∃ t a' b', Ev (fun k => spec_l03Acts.l0 k acc (i : Int) s a b l) (t, a', b') ∧ t.length ≤ 9 ∧ (∀ x ∈ t, x.f2.size ≤ 17592186044416) ∧ DR s a' := by
  intro d
  induction d with
  | zero =>
    intro i a b acc l h hd ha hx hl
    obtain ⟨x, a1, b1, e1, hx1, d1⟩ := spec_l01Below_is s hs a b 9 hd (by omega)
    refine ⟨acc, a1, b1, evAt 0 (fun k _ => ?_), by omega, hx, d1⟩
    simp only [spec_l03Acts.l0, e1, Option.bind_some]
    rw [if_neg (by omega)]
  | succ d ih =>
    intro i a b acc l h hd ha hx hl
    obtain ⟨x, a1, b1, e1, hx1, d1⟩ := spec_l01Below_is s hs a b 9 hd (by omega)
    by_cases hi : (i : Int) < x
    · obtain ⟨c, n, t, u, a2, b2, ⟨N2, e2⟩, hz, d2⟩ := spec_l03Act_ev s hs a1 b1 d1
      obtain ⟨N3, e3⟩ := spec_DoAct_ev l hl c n t u (by omega)
      have hq := doAct_len l c n t u
      generalize doAct l c n t u = q at e3 hq
      dsimp only at e2 e3
      have w4 : wrap64 ((i : Int) + 1) = ((i + 1 : Nat) : Int) := by rw [w64 (by omega) (by omega)]; omega
      have hacc : ∀ x ∈ acc ++ [(⟨c, n, t, u⟩ : IAc)], x.f2.size ≤ 17592186044416 := by
        intro y hy
        rcases List.mem_append.1 hy with hy | hy
        · exact hx y hy
        · obtain rfl := List.mem_singleton.1 hy; simp only; omega
      by_cases ok : q.2 = true
      · obtain ⟨z, a4, b4, ⟨N4, e4⟩, g1, g2, d4⟩ := ih (i + 1) a2 b2 (acc ++ [⟨c, n, t, u⟩]) q.1 (by omega) d2 (by simp; omega) hacc (by omega)
        refine ⟨z, a4, b4, evAt (max N2 (max N3 N4)) (fun k hk => ?_), g1, g2, d4⟩
        simp only [spec_l03Acts.l0, e1, Option.bind_some]
        rw [if_pos hi, e2 k (by omega), Option.bind_some]
        simp only [e3 k (by omega), Option.bind_some]
        rw [if_pos ok, if_pos (by omega), w4]
        exact e4 k (by omega)
      · obtain ⟨y, a3, b3, e5, d3⟩ := spec_l01Once_is s hs a2 b2 20 d2 (by omega)
        by_cases y1 : y = true
        · obtain ⟨z, a4, b4, ⟨N4, e4⟩, g1, g2, d4⟩ := ih (i + 1) a3 b3 (acc ++ [⟨c, n, t, u⟩]) q.1 (by omega) d3 (by simp; omega) hacc (by omega)
          refine ⟨z, a4, b4, evAt (max N2 (max N3 N4)) (fun k hk => ?_), g1, g2, d4⟩
          simp only [spec_l03Acts.l0, e1, Option.bind_some]
          rw [if_pos hi, e2 k (by omega), Option.bind_some]
          simp only [e3 k (by omega), Option.bind_some]
          rw [if_neg ok, e5, Option.bind_some, if_pos y1, if_pos (by omega), w4]
          exact e4 k (by omega)
        · obtain ⟨z, a4, b4, ⟨N4, e4⟩, g1, g2, d4⟩ := ih (i + 1) a3 b3 acc l (by omega) d3 (by omega) hx hl
          refine ⟨z, a4, b4, evAt (max N2 (max N3 N4)) (fun k hk => ?_), g1, g2, d4⟩
          simp only [spec_l03Acts.l0, e1, Option.bind_some]
          rw [if_pos hi, e2 k (by omega), Option.bind_some]
          simp only [e3 k (by omega), Option.bind_some]
          rw [if_neg ok, e5, Option.bind_some, if_neg y1, w4]
          exact e4 k (by omega)
    · refine ⟨acc, a1, b1, evAt 0 (fun k _ => ?_), by omega, hx, d1⟩
      simp only [spec_l03Acts.l0, e1, Option.bind_some]
      rw [if_neg hi]
theorem spec_l03Acts_ev (s : List Int) (hs : s.length ≤ 140737488355328) (a b : Int) (hd : DR s a) (l : List IFi) (hl : l.length ≤ 1048576) : ∃ t a' b', Ev (fun k => spec_l03Acts.f k s a b l) (t, a', b') ∧ t.length ≤ 9 ∧ (∀ x ∈ t, x.f2.size ≤ 17592186044416) ∧ DR s a' :=
  spec_l03Acts_l0 s hs 9 0 a b [] l (by omega) hd (by simp) (by simp) hl
theorem spec_l01Place_is (s : List Int) (hs : s.length ≤ 140737488355328) (a b n : Int) (hd : DR s a) (hn : 0 < n ∧ n ≤ 1000000) : ∃ r a' b', spec_l01Place.f s a b n = some (r, a', b') ∧ DR s a' := by
  obtain ⟨x, a1, b1, e1, d1⟩ := spec_l01Once_is s hs a b 15 hd (by omega)
  unfold spec_l01Place.f
  rw [e1, Option.bind_some]
  by_cases c : x = true
  · obtain ⟨y, a2, b2, e2, d2⟩ := spec_l01PickInt_is s hs a1 b1 [(-1), n, wrap64 (n + 1), 9223372036854775807, (-9223372036854775808)] d1 (by simp)
    rw [if_pos c, e2]
    exact ⟨_, _, _, rfl, d2⟩
  · obtain ⟨y, a2, b2, e2, _, d2⟩ := spec_l01Below_is s hs a1 b1 n d1 (by omega)
    rw [if_neg c, e2]
    exact ⟨_, _, _, rfl, d2⟩
theorem spec_l03Left_l0 (s : List Int) (hs : s.length ≤ 140737488355328) : ∀ (d i : Nat) (a b : Int) (acc : List Int), i + d = 6 → DR s a → acc.length ≤ i → ∃ t a' b', Ev (fun k => spec_l03Left.l0 k acc (i : Int) s a b) (t, a', b') := by
  intro d
  induction d with
  | zero =>
    intro i a b acc h hd ha
    obtain ⟨x, a1, b1, e1, hx, d1⟩ := spec_l01Below_is s hs a b 6 hd (by omega)
    refine ⟨acc, a1, b1, evAt 0 (fun k _ => ?_)⟩
    simp only [spec_l03Left.l0, e1, Option.bind_some]
    rw [if_neg (by omega)]
  | succ d ih =>
    intro i a b acc h hd ha
    obtain ⟨x, a1, b1, e1, hx, d1⟩ := spec_l01Below_is s hs a b 6 hd (by omega)
    by_cases hi : (i : Int) < x
    · obtain ⟨y, a2, b2, e2, d2⟩ := spec_l01PickInt_is s hs a1 b1 [0, 1, 2, 3, 5, 9, 40, 200, (-1), 9223372036854775807] d1 (by simp)
      obtain ⟨t, a3, b3, N, hN⟩ := ih (i + 1) a2 b2 (acc ++ [y]) (by omega) d2 (by simp; omega)
      refine ⟨t, a3, b3, evAt N (fun k hk => ?_)⟩
      have w4 : wrap64 ((i : Int) + 1) = ((i + 1 : Nat) : Int) := by rw [w64 (by omega) (by omega)]; omega
      simp only [spec_l03Left.l0, e1, e2, Option.bind_some]
      rw [if_pos hi, if_pos (by omega), w4]
      exact hN k hk
    · refine ⟨acc, a1, b1, evAt 0 (fun k _ => ?_)⟩
      simp only [spec_l03Left.l0, e1, Option.bind_some]
      rw [if_neg hi]
theorem spec_l03Left_ev (s : List Int) (hs : s.length ≤ 140737488355328) (a b : Int) (hd : DR s a) : ∃ t a' b', Ev (fun k => spec_l03Left.f k s a b) (t, a', b') := spec_l03Left_l0 s hs 6 0 a b [] (by omega) hd (by simp)
theorem spec_DrawCutActs_ev (s : List Int) (hs : s.length ≤ 140737488355328) : ∃ d t n r, Ev (fun k => spec_DrawCutActs.f k s) (d, t, n, r) ∧ d.length ≤ 31 ∧ t.length ≤ 9 ∧ ∀ x ∈ t, x.f2.size ≤ 17592186044416 := by
  obtain ⟨h, hh⟩ := spec_l01New_ev s hs
  obtain ⟨d, a1, b1, h1, hl, d1⟩ := spec_l03Disk_ev s hs 0 h ⟨by omega, by omega⟩
  obtain ⟨t, a2, b2, h2, ht, hx, d2⟩ := spec_l03Acts_ev s hs a1 b1 d1 d (by omega)
  obtain ⟨n, a3, b3, h3, d3⟩ := spec_l01Place_is s hs a2 b2 ((t.length : Int) + 1) d2 (by omega)
  obtain ⟨r, a4, b4, h4⟩ := spec_l03Left_ev s hs a3 b3 d3
  refine ⟨d, t, n, r, ?_, hl, ht, hx⟩
  unfold spec_DrawCutActs.f
  have h3' : spec_l01Place.f s a2 b2 (wrap64 ((t.length : Int) + 1)) = some (n, a3, b3) := by rw [w64 (by omega) (by omega)]; exact h3
  exact Ev.bind hh (Ev.bind h1 (Ev.bind h2 (Ev.bind0 h3' (Ev.bind h4 (Ev.now _)))))
theorem laws_sameDisk_l0 (l : List IFi) (hl : l.length ≤ 1048577) : ∀ (d i : Nat), i + d = l.length → Ev (fun k => laws_sameDisk.l0 k (i : Int) l l) true
  | 0, i, h => by
    refine Ev.step (f := fun k => some true) (fun k => ?_) (Ev.now _)
    simp only [laws_sameDisk.l0]; rw [if_neg (by omega)]
  | d + 1, i, h => by
    refine Ev.step (f := fun k => laws_sameDisk.l0 k ((i + 1 : Nat) : Int) l l) (fun k => ?_) (laws_sameDisk_l0 l hl d (i + 1) (by omega))
    simp only [laws_sameDisk.l0]
    rw [if_pos (by omega), if_pos (by omega), if_pos (by omega), if_neg (by simp), w64 (x := (i : Int) + 1) (by omega) (by omega)]; rfl
theorem laws_sameDisk_ev (l : List IFi) (hl : l.length ≤ 1048577) : Ev (fun k => laws_sameDisk.f k l l) true := by
  unfold laws_sameDisk.f
  exact Ev.pos rfl (laws_sameDisk_l0 l hl l.length 0 (by omega))
theorem impl_FileAt_is (l : List IFi) (s : ByteArray) : impl_FileAt.f l s = some (fileAt l s) := by
  unfold impl_FileAt.f fileAt
  rw [impl_fileAt_is, Option.bind_some]
  rcases fAt_cases l s with h | ⟨k, h, e, _⟩
  · rw [if_pos (by omega), if_pos (by omega)]
  · rw [if_neg (by omega), if_pos (by omega), if_pos (by omega), if_neg (by omega)]
/-- How much of a file is left: what is kept, and of the rest as much as 'left' has at its place. -/
def leftN (x : IFi) (n : Int) : Int := max x.f2 (min n (x.f1.size : Int))
def loseF (x : IFi) (n : Int) : IFi := ⟨x.f0, x.f1.extract 0 (leftN x n).toNat, leftN x n⟩
def loseL : List IFi → List Int → List IFi
  | [], _ => []
  | x :: l, [] => loseF x 0 :: loseL l []
  | x :: l, n :: r => loseF x n :: loseL l r
def loseDisk (l : List IFi) (r : List Int) : List IFi × Bool := if diskOk l = true then (loseL l r, true) else ([], false)
theorem loseL_length : ∀ (l : List IFi) (r : List Int), (loseL l r).length = l.length
  | [], _ => rfl
  | x :: l, [] => by simp [loseL, loseL_length l []]
  | x :: l, n :: r => by simp [loseL, loseL_length l r]
theorem filesOk_range : ∀ (l : List IFi) (p : Option ByteArray), filesOk p l = true → ∀ x ∈ l, 0 ≤ x.f2 ∧ x.f2 ≤ (x.f1.size : Int) ∧ x.f1.size ≤ 20000
  | [], _, _ => by simp
  | y :: l, p, h => by
    simp only [filesOk, Bool.and_eq_true] at h
    intro x hx
    rcases List.mem_cons.1 hx with rfl | hx
    · have := h.1.1
      simp only [fileOk, Bool.and_eq_true, decide_eq_true_eq] at this
      exact ⟨this.2.1, this.2.2, this.1.2⟩
    · exact filesOk_range l _ h.2 x hx
theorem diskOk_range {l : List IFi} (h : diskOk l = true) : l.length ≤ 30 ∧ ∀ x ∈ l, 0 ≤ x.f2 ∧ x.f2 ≤ (x.f1.size : Int) ∧ x.f1.size ≤ 20000 := by
  unfold diskOk at h
  simp only [Bool.and_eq_true, decide_eq_true_eq] at h
  exact ⟨h.1, filesOk_range l _ h.2⟩
theorem impl_LoseDisk_row : ∀ (l : List IFi) (r : List Int), impl_LoseDisk.row l r = loseL l r
  | [], _ => rfl
  | x :: l, [] => by simp only [impl_LoseDisk.row, loseL]; rw [impl_LoseDisk_row l []]; rfl
  | x :: l, n :: r => by simp only [impl_LoseDisk.row, loseL]; rw [impl_LoseDisk_row l r]; rfl
theorem impl_LoseDisk_ev (l : List IFi) (hl : l.length ≤ 1048577) (r : List Int) : Ev (fun k => impl_LoseDisk.f k l r) (loseDisk l r) := by
  by_cases h : diskOk l = true
  · have e : loseDisk l r = (loseL l r, true) := by rw [loseDisk, if_pos h]
    rw [e]
    unfold impl_LoseDisk.f
    simp only [impl_LoseDisk_row]
    have hr := diskOk_range h
    refine Ev.bind (impl_DiskOk_ev l hl) (Ev.pos h (Ev.pos ⟨by have := hr.1; omega, ?_⟩ (Ev.now _)))
    refine List.all_eq_true.2 (fun x hx => decide_eq_true ?_)
    have := hr.2 x hx
    exact ⟨this.1, this.2.1, by omega⟩
  · have e : loseDisk l r = ([], false) := by rw [loseDisk, if_neg h]
    rw [e]
    unfold impl_LoseDisk.f
    exact Ev.bind (impl_DiskOk_ev l hl) (Ev.neg h (Ev.now _))
theorem loseDisk_len (l : List IFi) (r : List Int) : (loseDisk l r).1.length ≤ l.length := by
  unfold loseDisk
  split
  · simp only; rw [loseL_length]; exact Nat.le_refl _
  · exact Nat.zero_le _
/-- The disk that a crash leaves: so many acts are done, of the rest of each file so much stays. -/
def cutActs (l : List IFi) (r : List IAc) (n : Int) (s : List Int) : List IFi × Bool :=
  if 0 ≤ n ∧ n ≤ (r.length : Int) then (if (doActsL l (r.take n.toNat) 0).2 < n then ([], false) else loseDisk (doActsL l (r.take n.toNat) 0).1 s) else ([], false)
theorem cutActs_len (l : List IFi) (r : List IAc) (n : Int) (s : List Int) : (cutActs l r n s).1.length ≤ max l.length 30 := by
  unfold cutActs
  split
  · split
    · simp
    · have := loseDisk_len (doActsL l (r.take n.toNat) 0).1 s
      have := doActsL_len (r.take n.toNat) l 0
      omega
  · simp
theorem cut_hs {r : List IAc} {n : Int} (hr : r.length ≤ 1048576) (hs : ∀ x ∈ r, x.f2.size ≤ 17592186044416) : (r.take n.toNat).length ≤ 1048576 ∧ ∀ x ∈ r.take n.toNat, x.f2.size ≤ 17592186044416 :=
  ⟨by rw [List.length_take]; omega, fun x hx => hs x (List.mem_of_mem_take hx)⟩
theorem impl_CutActs_ev (l : List IFi) (hl : l.length ≤ 1048576) (r : List IAc) (hr : r.length ≤ 1048576) (hs : ∀ x ∈ r, x.f2.size ≤ 17592186044416) (n : Int) (s : List Int) : Ev (fun k => impl_CutActs.f k l r n s) (cutActs l r n s) := by
  unfold impl_CutActs.f cutActs
  refine Ev.bind0 (impl_within_is ..) ?_
  by_cases h : 0 ≤ n ∧ n ≤ (r.length : Int)
  · rw [if_pos h]
    obtain ⟨c1, c2⟩ := cut_hs (n := n) hr hs
    refine Ev.pos (inR_iff.2 h) (Ev.pos h.1 (Ev.pos h.2 (Ev.bind (impl_DoActs_ev l hl _ c1 c2) ?_)))
    by_cases e : (doActsL l (r.take n.toNat) 0).2 < n
    · exact (Ev.pos e (Ev.now _)).eq (if_pos e).symm
    · have := doActsL_len (r.take n.toNat) l 0
      exact (Ev.neg e (Ev.bind (impl_LoseDisk_ev _ (by omega) s) (Ev.now _))).eq (if_neg e).symm
  · rw [if_neg h]
    exact Ev.neg (fun e => h (inR_iff.1 e)) (Ev.now _)
theorem spec_LoseDisk_j1 (l : List IFi) (r : List Int) (acc : List IFi) (i : Nat) (hi : i ≤ 100) (ha : acc.length ≤ 100) (x : IFi) (hx : 0 ≤ x.f2 ∧ x.f2 ≤ (x.f1.size : Int) ∧ x.f1.size ≤ 20000) (n : Int) {z : List IFi × Bool}
    (h : Ev (fun k => spec_LoseDisk.l0 k r ((i + 1 : Nat) : Int) l (acc ++ [loseF x n])) z) : Ev (fun k => spec_LoseDisk.j1 k r (i : Int) n l acc x.f0 x.f1 x.f2) z := by
  refine Ev.step (f := fun k => spec_LoseDisk.l0 k r ((i + 1 : Nat) : Int) l (acc ++ [loseF x n])) (fun k => ?_) h
  have w4 : wrap64 ((i : Int) + 1) = ((i + 1 : Nat) : Int) := by rw [w64 (by omega) (by omega)]; omega
  simp only [spec_LoseDisk.j1, w4]
  by_cases h1 : n > (x.f1.size : Int)
  · rw [if_pos h1, if_neg (by omega), if_pos (by omega), if_pos (Int.le_refl _), if_pos (by omega)]
    have e : leftN x n = (x.f1.size : Int) := by unfold leftN; omega
    unfold loseF; rw [e]
  · rw [if_neg h1]
    by_cases h2 : n < x.f2
    · rw [if_pos h2, if_pos hx.1, if_pos hx.2.1, if_pos (by omega)]
      have e : leftN x n = x.f2 := by unfold leftN; omega
      unfold loseF; rw [e]
    · rw [if_neg h2, if_pos (by omega), if_pos (by omega), if_pos (by omega)]
      have e : leftN x n = n := by unfold leftN; omega
      unfold loseF; rw [e]
theorem spec_LoseDisk_l0 (l : List IFi) (r : List Int) (hl : l.length ≤ 30) (hx : ∀ x ∈ l, 0 ≤ x.f2 ∧ x.f2 ≤ (x.f1.size : Int) ∧ x.f1.size ≤ 20000) : ∀ (d i : Nat) (acc : List IFi), i + d = l.length → acc.length = i →
    Ev (fun k => spec_LoseDisk.l0 k r (i : Int) l acc) (acc ++ loseL (l.drop i) (r.drop i), true)
  | 0, i, acc, h, ha => by
    refine Ev.step (f := fun k => some (acc, true)) (fun k => ?_) ((Ev.now _).eq ?_)
    · simp only [spec_LoseDisk.l0]; rw [if_neg (by omega)]
    · rw [List.drop_of_length_le (by omega)]; simp [loseL]
  | d + 1, i, acc, h, ha => by
    have hxi := hx (rd_T76 l (i : Int)) (by rw [rd_IFi (by omega)]; exact List.getElem_mem _)
    rw [rd_IFi_drop (l := l) (i := i) (by omega)]
    generalize hX : rd_T76 l (i : Int) = x at hxi ⊢
    by_cases e : i < r.length
    · rw [rd_drop (l := r) (i := i) e]
      have ih := spec_LoseDisk_l0 l r hl hx d (i + 1) (acc ++ [loseF x (rd r (i : Int))]) (by omega) (by simp; omega)
      refine Ev.step (f := fun k => spec_LoseDisk.j1 k r (i : Int) (rd r (i : Int)) l acc x.f0 x.f1 x.f2) (fun k => ?_) (spec_LoseDisk_j1 l r acc i (by omega) (by omega) x hxi _ (ih.eq ?_))
      · simp only [spec_LoseDisk.l0]
        rw [if_pos (by omega), if_pos (by omega), if_pos (by omega), hX]
      · simp [loseL]
    · have ih := spec_LoseDisk_l0 l r hl hx d (i + 1) (acc ++ [loseF x 0]) (by omega) (by simp; omega)
      refine Ev.step (f := fun k => spec_LoseDisk.j1 k r (i : Int) 0 l acc x.f0 x.f1 x.f2) (fun k => ?_) (spec_LoseDisk_j1 l r acc i (by omega) (by omega) x hxi _ (ih.eq ?_))
      · simp only [spec_LoseDisk.l0]
        rw [if_pos (by omega), if_pos (by omega), if_neg (by omega), hX]
      · rw [List.drop_of_length_le (l := r) (by omega), List.drop_of_length_le (l := r) (by omega)]
        simp [loseL]
theorem spec_LoseDisk_ev (l : List IFi) (r : List Int) : Ev (fun k => spec_LoseDisk.f k l r) (loseDisk l r) := by
  unfold spec_LoseDisk.f loseDisk
  refine Ev.bind (spec_DiskOk_ev _) ?_
  by_cases h : diskOk l = true
  · rw [if_pos h]
    have hr := diskOk_range h
    refine Ev.pos h ?_
    have := spec_LoseDisk_l0 l r hr.1 hr.2 l.length 0 [] (by omega) rfl
    simpa using this
  · rw [if_neg h]
    exact Ev.neg h (Ev.now _)
theorem spec_CutActs_ev (l : List IFi) (hl : l.length ≤ 1048576) (r : List IAc) (hr : r.length ≤ 1048576) (hs : ∀ x ∈ r, x.f2.size ≤ 17592186044416) (n : Int) (s : List Int) : Ev (fun k => spec_CutActs.f k l r n s) (cutActs l r n s) := by
  unfold spec_CutActs.f cutActs
  refine Ev.bind0 (spec_l01In_is ..) ?_
  by_cases h : 0 ≤ n ∧ n ≤ (r.length : Int)
  · rw [if_pos h]
    obtain ⟨c1, c2⟩ := cut_hs (n := n) hr hs
    refine Ev.pos (inR_iff.2 h) (Ev.pos h.1 (Ev.pos h.2 (Ev.bind (spec_DoActs_ev l hl _ c1 c2) ?_)))
    by_cases e : (doActsL l (r.take n.toNat) 0).2 < n
    · exact (Ev.pos e (Ev.now _)).eq (if_pos e).symm
    · exact (Ev.neg e (Ev.bind (spec_LoseDisk_ev _ s) (Ev.now _))).eq (if_neg e).symm
  · rw [if_neg h]
    exact Ev.neg (fun e => h (inR_iff.1 e)) (Ev.now _)
theorem fileAt_nil (s : ByteArray) : fileAt [] s = (⟨#[]⟩, false) := rfl
theorem fileAt_cons (x : IFi) (l : List IFi) (s : ByteArray) : fileAt (x :: l) s = if x.f0.toList = s.toList then (x.f1, true) else fileAt l s := by
  have e := idxP_at (fun x : IFi => x.f0.toList == s.toList) x l
  by_cases h : x.f0.toList = s.toList
  · have e2 : fAt (x :: l) s = 0 := by unfold fAt; rw [e, if_pos (by simpa using h)]
    rw [if_pos h]
    unfold fileAt
    rw [e2, if_neg (by omega)]
    have := rd_IFi (l := x :: l) (i := 0) (by simp)
    rw [show ((0 : Nat) : Int) = 0 from rfl] at this
    rw [this]; rfl
  · rw [if_neg h]
    unfold fileAt
    rcases fAt_cases l s with c | ⟨k, hk, c, _⟩
    · have e2 : fAt (x :: l) s = -1 := by
        have c' : M.idxP (fun x : IFi => x.f0.toList == s.toList) l 0 = -1 := c
        unfold fAt; rw [e, if_neg (by simpa using h), if_pos (by omega)]
      rw [e2, c]; rfl
    · have e2 : fAt (x :: l) s = ((k + 1 : Nat) : Int) := by
        have c' : M.idxP (fun x : IFi => x.f0.toList == s.toList) l 0 = (k : Int) := c
        unfold fAt; rw [e, if_neg (by simpa using h), if_neg (by omega), c']; rfl
      rw [e2, c, if_neg (by omega), if_neg (by omega), rd_IFi (l := x :: l) (i := k + 1) (by simp; omega), rd_IFi hk]; rfl
theorem fileAt_ins : ∀ (l : List IFi) (f : IFi), fileAt (insL l f) f.f0 = (f.f1, true)
  | [], f => by simp only [insL]; rw [fileAt_cons, if_pos rfl]
  | x :: l, f => by
    simp only [insL]
    by_cases h1 : bLess x.f0 f.f0 = true
    · rw [if_pos h1, fileAt_cons, if_neg (fun e => by rw [less_eq_no e] at h1; cases h1), fileAt_ins l f]
    · rw [if_neg h1]
      split
      · rw [fileAt_cons, if_pos rfl]
      · rw [fileAt_cons, if_pos rfl]
theorem fileAt_out : ∀ (l : List IFi) (s : ByteArray), fileAt (outL l s) s = (⟨#[]⟩, false)
  | [], s => rfl
  | x :: l, s => by
    by_cases h : x.f0.toList = s.toList
    · rw [outL, List.filter_cons_of_neg (by simpa using h)]; exact fileAt_out l s
    · rw [outL, List.filter_cons_of_pos (by simpa using h), fileAt_cons, if_neg h]; exact fileAt_out l s
theorem endA_ok {o : List IFi} (h : (endA o).2 = true) : (endA o).1 = o := by
  unfold endA at h ⊢
  split
  · rfl
  · rename_i c; rw [if_neg c] at h; cases h
/-- What an act that is done makes of its file. -/
theorem act_file {l : List IFi} {a : Int} {n t u : ByteArray} (h : (doAct l a n t u).2 = true) : diskOk l = true ∧ (a = 1 → fileAt (doAct l a n t u).1 n = ((fileAt l n).1 ++ t, true)) ∧ (a = 4 → fileAt (doAct l a n t u).1 n = (⟨#[]⟩, false)) := by
  unfold doAct at h ⊢
  by_cases c : diskOk l = true ∧ formOk a n t u = true
  · rw [if_pos c] at h ⊢
    refine ⟨c.1, fun a1 => ?_, fun a4 => ?_⟩
    · unfold actL at h ⊢
      rw [if_pos a1] at h ⊢
      rw [endA_ok h, putL_ins _ _ ((diskOk_iff l).1 c.1).2.2]
      have hn : (addF l n t).f0 = n ∧ (addF l n t).f1 = (fileAt l n).1 ++ t := by
        unfold addF fileAt
        rcases fAt_cases l n with e | ⟨k, hk, e, hk2⟩
        · rw [if_neg (by omega), if_pos (by omega)]; exact ⟨rfl, rfl⟩
        · rw [if_pos (by omega), if_neg (by omega)]; exact ⟨by rw [e]; exact rd_fAt hk hk2, rfl⟩
      have := fileAt_ins l (addF l n t)
      rw [hn.1, hn.2] at this
      exact this
    · unfold actL at h ⊢
      rw [if_neg (by omega)] at h ⊢
      by_cases f : fAt l n < 0
      · rw [if_pos f] at h; cases h
      · rw [if_neg f, if_neg (by omega), if_neg (by omega), if_pos a4] at h ⊢
        rw [endA_ok h]
        exact fileAt_out l n
  · rw [if_neg c] at h; cases h
theorem file_size {l : List IFi} (h : diskOk l = true) (n : ByteArray) : (fileAt l n).1.size ≤ 20000 := by
  unfold fileAt
  rcases fAt_cases l n with e | ⟨k, hk, e, _⟩
  · rw [if_pos (by omega)]; decide
  · rw [if_neg (by omega)]; simp only
    rw [e, rd_IFi hk]
    exact ((fileOk_iff _).1 (((diskOk_iff l).1 h).2.1 _ (List.getElem_mem hk))).2.1
theorem doActsL_ge : ∀ (r : List IAc) (l : List IFi) (i : Int), i ≤ (doActsL l r i).2
  | [], l, i => by simp [doActsL]
  | a :: r, l, i => by
    simp only [doActsL]
    split
    · have := doActsL_ge r (doAct l a.f0 a.f1 a.f2 a.f3).1 (i + 1); omega
    · simp
theorem doActsL_stop {r : List IAc} {l : List IFi} {i : Int} (h : (doActsL l r i).2 = i) : (doActsL l r i).1 = l := by
  cases r with
  | nil => rfl
  | cons a r =>
    simp only [doActsL] at h ⊢
    split
    · rename_i c
      rw [if_pos c] at h
      have := doActsL_ge r (doAct l a.f0 a.f1 a.f2 a.f3).1 (i + 1); omega
    · rfl
theorem doActsL_go {a : IAc} {r : List IAc} {l : List IFi} {i : Int} (h : i < (doActsL l (a :: r) i).2) : (doAct l a.f0 a.f1 a.f2 a.f3).2 = true ∧ doActsL l (a :: r) i = doActsL (doAct l a.f0 a.f1 a.f2 a.f3).1 r (i + 1) := by
  simp only [doActsL] at h ⊢
  by_cases c : (doAct l a.f0 a.f1 a.f2 a.f3).2 = true
  · exact ⟨c, if_pos c⟩
  · rw [if_neg c] at h; simp only at h; omega
theorem FnActs_l0 (r : List IAc) (hr : r.length ≤ 1048576) (hs : ∀ x ∈ r, x.f2.size ≤ 17592186044416) (c : Int) (lf : List Int) (l : List IFi) (hl : l.length ≤ 1048576) (D : List IFi) (n : Int) : ∀ (d i : Nat) (m : List IFi), i + d = r.length → m.length ≤ 1048576 → doActsL m (r.drop i) (i : Int) = (D, n) →
    Ev (fun k => laws_FnActs.l0 k r c lf n (i : Int) l D m) true := by
  have stop : ∀ (i : Nat) (m : List IFi), m.length ≤ 1048576 → doActsL m (r.drop i) (i : Int) = (D, n) → ¬ (i : Int) < n → Ev (fun k => laws_FnActs.l0 k r c lf n (i : Int) l D m) true := by
    intro i m hm hD hi
    have hge := doActsL_ge (r.drop i) m (i : Int)
    rw [hD] at hge
    have hn : (doActsL m (r.drop i) (i : Int)).2 = (i : Int) := by rw [hD]; simp only at hge ⊢; omega
    have hDm := doActsL_stop hn
    rw [hD] at hDm
    simp only at hDm
    subst hDm
    obtain ⟨N1, e1⟩ := impl_CutActs_ev l hl r hr hs c lf
    obtain ⟨N2, e2⟩ := spec_CutActs_ev l hl r hr hs c lf
    have hq := cutActs_len l r c lf
    obtain ⟨N3, e3⟩ := laws_sameDisk_ev (cutActs l r c lf).1 (by omega)
    obtain ⟨N4, e4⟩ := laws_sameDisk_ev D (by omega)
    dsimp only at e1 e2 e3 e4
    refine evAt (max (max N1 N2) (max N3 N4)) (fun k hk => ?_)
    simp only [laws_FnActs.l0]
    rw [if_neg hi, e1 k (by omega), Option.bind_some, e2 k (by omega), Option.bind_some, if_pos (by simp), e3 k (by omega), Option.bind_some, if_pos rfl, e4 k (by omega), Option.bind_some]
    split <;> rfl
  intro d
  induction d with
  | zero =>
    intro i m h hm hD
    refine stop i m hm hD ?_
    rw [show r.drop i = [] from List.drop_of_length_le (by omega)] at hD
    simp only [doActsL, Prod.mk.injEq] at hD
    omega
  | succ d ih =>
    intro i m h hm hD
    by_cases hi : (i : Int) < n
    · have hsz := hs (rd_T35 r (i : Int)) (by rw [rd_IAc (by omega)]; exact List.getElem_mem _)
      rw [rd_IAc_drop (by omega : i < r.length)] at hD
      generalize hX : rd_T35 r (i : Int) = x at hD hsz
      obtain ⟨ok, hgo⟩ := doActsL_go (a := x) (r := r.drop (i + 1)) (l := m) (i := (i : Int)) (by rw [hD]; exact hi)
      rw [hgo] at hD
      obtain ⟨N1, e1⟩ := impl_DoAct_ev m hm x.f0 x.f1 x.f2 x.f3 hsz
      obtain ⟨g1, g2, g3⟩ := act_file ok
      have hz := file_size g1 x.f1
      have hq := doAct_len m x.f0 x.f1 x.f2 x.f3
      generalize doAct m x.f0 x.f1 x.f2 x.f3 = q at *
      obtain ⟨N2, e2⟩ := ih (i + 1) q.1 (by omega) (by omega) hD
      have w4 : wrap64 ((i : Int) + 1) = ((i + 1 : Nat) : Int) := by rw [w64 (by omega) (by omega)]; omega
      dsimp only at e1 e2
      refine evAt (max N1 N2) (fun k hk => ?_)
      simp only [laws_FnActs.l0, hX]
      rw [if_pos hi, if_pos (by omega), if_pos (by omega), e1 k (by omega), Option.bind_some, if_pos ok, impl_FileAt_is, Option.bind_some, impl_FileAt_is, Option.bind_some, w4, e2 k (by omega)]
      by_cases a1 : x.f0 = 1
      · rw [if_pos a1, g2 a1]
        rw [if_pos rfl, if_pos (by omega), if_pos rfl, if_neg (by omega)]
      · rw [if_neg a1]
        by_cases a4 : x.f0 = 4
        · rw [if_pos a4, g3 a4, if_neg (by simp)]
        · rw [if_neg a4]
    · exact stop i m hm hD hi
theorem FnActs : laws_FnActs.Pure := by
  intro l hm hl hw
  apply Ev.rounds
  unfold laws_FnActs.f
  refine Ev.bind0 (laws_big_is l) ?_
  by_cases hb : (l.length : Int) > 1048576
  · exact Ev.pos (by simpa using hb) (Ev.now _)
  · refine Ev.neg (by simpa using hb) ?_
    obtain ⟨d, t, n, r, h, hd, ht, hx⟩ := spec_DrawCutActs_ev l (by omega)
    have hn := doActsL_len t d 0
    refine Ev.bind h (Ev.bind (impl_DoActs_ev d (by omega) t (by omega) hx) (Ev.bind (spec_DoActs_ev d (by omega) t (by omega) hx) (Ev.pos rfl (Ev.bind (laws_sameDisk_ev _ (by omega)) ?_))))
    exact Ev.step (fun k => laws_FnActs.j0.eq_2 ..) (Ev.neg (by simp) (FnActs_l0 t (by omega) hx n r d (by omega) (doActsL d t 0).1 (doActsL d t 0).2 t.length 0 d (by omega) (by omega) (by rw [List.drop_zero]; rfl)))

end Go.Proofs.Ythbaoefbccdioaa.Pure
