/- The law FnExactPartsOf answers true at every input; no condition. -/
import Derived.Test.YtknbkjajfiediaaDoorQFnExactPartsOfx2
import Derived.Test.YtknbkjajfiediaaDoorTM
namespace Go.Proofs.YtknbkjajfiediaaDoor.QFnExactPartsOf
open Go.RowKit
/-- What is left to be shown of the law: over numbers, texts and lists alone. -/
def laws_FnExactPartsOf.Pure : Prop := ∀ (a0 : ByteArray), a0.size ≤ maxLen → ∃ k, laws_FnExactPartsOf.f k a0 = some true
end Go.Proofs.YtknbkjajfiediaaDoor.QFnExactPartsOf
namespace Go.Proofs.YtknbkjajfiediaaDoor.Pure
open Go.RowKit Go.Proofs.YtknbkjajfiediaaDoor.QFnExactPartsOf Go.Proofs.YtknbkjajfiediaaDoorW.PrintWords Go.Proofs.YtknbkjajfiediaaDoorW.PrintLast Go.Proofs.YtknbkjajfiediaaDoorW.PrintMore Go.Proofs.YtknbkjajfiediaaDoor.M
set_option linter.unusedVariables false
set_option linter.unusedSimpArgs false
set_option maxRecDepth 4000

def tb (l : List UInt8) : ByteArray := ⟨l.toArray⟩
def okC (x : UInt8) : Bool := decide (32 ≤ x.toNat ∧ x.toNat ≤ 126)
def okL (l : List UInt8) : Bool := l.all okC
def tenG (l : List ByteArray) : List ByteArray × Bool := if 10 < l.length then ([], false) else (l, true)
def partsH (acc : List ByteArray) (cur l : List UInt8) : List ByteArray × Bool := if okL l = true then tenG (acc ++ (Lib.fieldsGo cur l).map tb) else ([], false)
def partsR (s : ByteArray) : List ByteArray × Bool := if s.size ≤ 600 then partsH [] [] s.data.toList else ([], false)
theorem sp_tab : ∀ n : Fin 256, 32 ≤ n.val → Lib.isSp (UInt8.ofNat n.val) = decide (n.val = 32) := by decide
theorem sp_is (x : UInt8) (h : 32 ≤ x.toNat) : Lib.isSp x = decide (x.toNat = 32) := by
  have := sp_tab ⟨x.toNat, x.toNat_lt⟩ h
  rwa [UInt8.ofNat_toNat] at this
theorem partsH_bad {acc : List ByteArray} {cur : List UInt8} {x : UInt8} {l : List UInt8} (h : ¬ okC x = true) : partsH acc cur (x :: l) = ([], false) := by
  unfold partsH okL; rw [List.all_cons, if_neg (by simp [h])]
theorem partsH_more {acc : List ByteArray} {cur : List UInt8} {x : UInt8} {l : List UInt8} (h : okC x = true) (hx : x.toNat ≠ 32) : partsH acc cur (x :: l) = partsH acc (cur ++ [x]) l := by
  have hs : Lib.isSp x = false := by rw [sp_is x (by simp [okC] at h; omega)]; simp [hx]
  unfold partsH okL; rw [List.all_cons, h, Bool.true_and, Lib.fieldsGo_more _ _ _ hs]
theorem partsH_sp {acc : List ByteArray} {x : UInt8} {l : List UInt8} (h : okC x = true) (hx : x.toNat = 32) : partsH acc [] (x :: l) = partsH acc [] l := by
  have hs : Lib.isSp x = true := by rw [sp_is x (by omega)]; simp [hx]
  unfold partsH okL; rw [List.all_cons, h, Bool.true_and, Lib.fieldsGo_sp _ _ hs]
theorem partsH_end {acc : List ByteArray} {cur : List UInt8} {x : UInt8} {l : List UInt8} (h : okC x = true) (hx : x.toNat = 32) (hc : cur ≠ []) : partsH acc cur (x :: l) = partsH (acc ++ [tb cur]) [] l := by
  have hs : Lib.isSp x = true := by rw [sp_is x (by omega)]; simp [hx]
  unfold partsH okL; rw [List.all_cons, h, Bool.true_and, Lib.fieldsGo_end _ _ _ hs hc, List.map_cons, List.append_assoc]; rfl
theorem tb_extract (s : ByteArray) (a b : Nat) : s.extract a b = tb ((s.data.toList.drop a).take (b - a)) := by
  apply bytes_inj
  rw [bytes_extract]
  unfold tb bytesOf
  rw [List.toList_toArray, List.map_take, List.map_drop]
theorem bt_data {s : ByteArray} {i : Nat} (h : i < s.data.toList.length) : bt s (i : Int) = ((s.data.toList[i]).toNat : Int) := by
  have h2 : i < (bytesOf s).length := by unfold bytesOf; rw [List.length_map]; exact h
  rw [← bytes_get s i h2]
  simp [bytesOf]
theorem okC_iff (x : UInt8) : okC x = true ↔ 32 ≤ x.toNat ∧ x.toNat ≤ 126 := by simp [okC]
theorem cur_snoc {L : List UInt8} {b i : Nat} (hb : b ≤ i) (hi : i < L.length) : (L.drop b).take (i + 1 - b) = (L.drop b).take (i - b) ++ [L[i]] := by
  rw [show i + 1 - b = (i - b) + 1 by omega, List.take_succ_eq_append_getElem (by rw [List.length_drop]; omega), List.getElem_drop]
  simp [show b + (i - b) = i by omega]
theorem spec_PartsOf_l0 (s : ByteArray) (hs : s.size ≤ 600) : ∀ (d i b : Nat) (acc : List ByteArray), i + d = s.data.toList.length → b ≤ i → acc.length ≤ i →
    Ev (fun k => spec_PartsOf.l0 k s acc (b : Int) (i : Int)) (partsH acc ((s.data.toList.drop b).take (i - b)) (s.data.toList.drop i)) := by
  have hz : s.data.toList.length = s.size := Go.Proofs.YtknbkjajfiediaaDoorW.PrintWords.data_length s
  intro d
  induction d with
  | zero =>
    intro i b acc h hb ha
    have hi : i = s.size := by omega
    have hend : ∀ (acc : List ByteArray) (b : Nat), Ev (fun k => spec_PartsOf.l0 k s acc (b : Int) ((s.size + 1 : Nat) : Int)) (tenG acc) := by
      intro acc b
      refine Ev.step (f := fun k => if (acc.length : Int) > 10 then some ([], false) else some (acc, true)) (fun k => ?_) ?_
      · simp only [spec_PartsOf.l0]; rw [if_neg (by omega)]
      · unfold tenG
        by_cases e : 10 < acc.length
        · rw [if_pos e]; exact Ev.pos (by omega) (Ev.now _)
        · rw [if_neg e]; exact Ev.neg (by omega) (Ev.now _)
    have w1 : wrap64 ((s.size : Int) + 1) = ((s.size + 1 : Nat) : Int) := by rw [w64 (by omega) (by omega)]; omega
    rw [List.drop_of_length_le (by omega : s.data.toList.length ≤ i)]
    subst hi
    refine Ev.step (f := fun k => spec_PartsOf.j1 k s acc b (s.size : Int) false) (fun k => ?_) (Ev.step (f := fun k => spec_PartsOf.j2 k s acc b (s.size : Int) false) (fun k => ?_) ?_)
    · simp only [spec_PartsOf.l0]; rw [if_pos (by omega), if_neg (by omega)]
    · simp only [spec_PartsOf.j1]; rw [if_neg (by simp), if_neg (by omega)]
    · unfold partsH
      rw [if_pos (show okL [] = true from rfl)]
      by_cases e : b < s.size
      · refine Ev.step (f := fun k => spec_PartsOf.l0 k s (acc ++ [s.extract b s.size]) ((s.size + 1 : Nat) : Int) ((s.size + 1 : Nat) : Int)) (fun k => ?_) ((hend _ _).eq ?_)
        · simp only [spec_PartsOf.j2]
          rw [if_neg (by simp), if_pos (by omega), if_pos (by omega), if_pos (by omega), if_pos (by omega), if_pos (by omega), w1]; simp
        · rw [tb_extract]
          have hc : (s.data.toList.drop b).take (s.size - b) ≠ [] := by
            intro h0; have := congrArg List.length h0; rw [List.length_take, List.length_drop] at this; simp at this; omega
          generalize (s.data.toList.drop b).take (s.size - b) = cur at hc
          cases cur with
          | nil => exact absurd rfl hc
          | cons => rfl
      · refine Ev.step (f := fun k => spec_PartsOf.l0 k s acc ((s.size + 1 : Nat) : Int) ((s.size + 1 : Nat) : Int)) (fun k => ?_) ((hend _ _).eq ?_)
        · simp only [spec_PartsOf.j2]
          rw [if_neg (by simp), if_neg (by omega), w1]
        · rw [show s.size - b = 0 by omega, List.take_zero]; simp [Lib.fieldsGo]
  | succ d ih =>
    intro i b acc h hb ha
    have hi : i < s.data.toList.length := by omega
    have w1 : wrap64 ((i : Int) + 1) = ((i + 1 : Nat) : Int) := by rw [w64 (by omega) (by omega)]; omega
    have hbt := bt_data hi
    have hsn := cur_snoc (L := s.data.toList) hb hi
    rw [List.drop_eq_getElem_cons hi]
    generalize s.data.toList[i] = x at hbt hsn
    by_cases hx : okC x = true
    · have hr := (okC_iff x).1 hx
      have hc0 : decide (bt s (i : Int) > 126) = false := by rw [hbt]; simp; omega
      have step1 : ∀ r, Ev (fun k => spec_PartsOf.j2 k s acc (b : Int) (i : Int) (bt s (i : Int) != 32)) r → Ev (fun k => spec_PartsOf.l0 k s acc (b : Int) (i : Int)) r := by
        intro r hh
        refine Ev.step (f := fun k => spec_PartsOf.j1 k s acc b (i : Int) false) (fun k => ?_) (Ev.step (fun k => ?_) hh)
        · simp only [spec_PartsOf.l0]; rw [if_pos (by omega), if_pos (by omega), if_pos (by omega), if_neg (by omega), hc0]
        · simp only [spec_PartsOf.j1]; rw [if_neg (by simp), if_pos (by omega), if_pos (by omega)]
      apply step1
      by_cases h32 : x.toNat = 32
      · have e1 : (bt s (i : Int) != 32) = false := by rw [hbt, h32]; rfl
        rw [e1]
        by_cases e : b < i
        · have hc : (s.data.toList.drop b).take (i - b) ≠ [] := by
            intro h0; have := congrArg List.length h0; rw [List.length_take, List.length_drop] at this; simp at this; omega
          refine Ev.step (f := fun k => spec_PartsOf.l0 k s (acc ++ [s.extract b i]) ((i + 1 : Nat) : Int) ((i + 1 : Nat) : Int)) (fun k => ?_) ?_
          · simp only [spec_PartsOf.j2]
            rw [if_neg (by simp), if_pos (by omega), if_pos (by omega), if_pos (by omega), if_pos (by omega), if_pos (by omega), w1]; simp
          · refine (ih (i + 1) (i + 1) (acc ++ [s.extract b i]) (by omega) (by omega) (by simp; omega)).eq ?_
            rw [partsH_end hx h32 hc, tb_extract, Nat.sub_self, List.take_zero]
        · refine Ev.step (f := fun k => spec_PartsOf.l0 k s acc ((i + 1 : Nat) : Int) ((i + 1 : Nat) : Int)) (fun k => ?_) ?_
          · simp only [spec_PartsOf.j2]
            rw [if_neg (by simp), if_neg (by omega), w1]
          · refine (ih (i + 1) (i + 1) acc (by omega) (by omega) (by omega)).eq ?_
            rw [show i - b = 0 by omega, List.take_zero, partsH_sp hx h32, Nat.sub_self, List.take_zero]
      · have e1 : (bt s (i : Int) != 32) = true := by rw [hbt]; simp; omega
        rw [e1]
        refine Ev.step (f := fun k => spec_PartsOf.l0 k s acc (b : Int) ((i + 1 : Nat) : Int)) (fun k => ?_) ?_
        · simp only [spec_PartsOf.j2]; rw [if_pos trivial, w1]
        · refine (ih (i + 1) b acc (by omega) (by omega) (by omega)).eq ?_
          rw [partsH_more hx h32, hsn]
    · rw [partsH_bad hx]
      have hr : ¬ (32 ≤ x.toNat ∧ x.toNat ≤ 126) := fun e => hx ((okC_iff x).2 e)
      refine Ev.step (f := fun k => spec_PartsOf.j1 k s acc b (i : Int) true) (fun k => ?_) (Ev.step (f := fun _ => some ([], false)) (fun k => ?_) (Ev.now _))
      · simp only [spec_PartsOf.l0]
        rw [if_pos (by omega), if_pos (by omega), if_pos (by omega)]
        by_cases e : bt s (i : Int) < 32
        · rw [if_pos e]
        · rw [if_neg e]; congr 1; simp; omega
      · simp only [spec_PartsOf.j1]; rw [if_pos trivial]
theorem spec_PartsOf_ev (s : ByteArray) : Ev (fun k => spec_PartsOf.f k s) (partsR s) := by
  unfold spec_PartsOf.f partsR
  refine Ev.bind0 rfl ?_
  by_cases h : s.size ≤ 600
  · rw [if_pos h]
    exact Ev.neg (by omega) (spec_PartsOf_l0 s h s.data.toList.length 0 0 [] (by omega) (by omega) (by simp))
  · rw [if_neg h]; exact Ev.pos (by omega) (Ev.now _)
theorem impl_within_is (a b c : Int) : impl_within.f a b c = some (inR a b c) := by
  unfold impl_within.f inR
  by_cases h : a ≥ b
  · rw [if_pos h]; congr 1; simp; omega
  · rw [if_neg h]; congr 1; simp; omega
theorem impl_PartsOf_l0 (s : ByteArray) (hs : s.size ≤ 600) : ∀ (d i : Nat), i + d = s.data.toList.length → okL (s.data.toList.take i) = true →
    Ev (fun k => impl_PartsOf.l0 k s (i : Int)) (if okL (s.data.toList.drop i) = true then tenG ((Lib.fields s.data.toList).map tb) else ([], false)) := by
  have hz : s.data.toList.length = s.size := Go.Proofs.YtknbkjajfiediaaDoorW.PrintWords.data_length s
  intro d
  induction d with
  | zero =>
    intro i h ho
    rw [List.take_of_length_le (by omega : s.data.toList.length ≤ i)] at ho
    rw [List.drop_of_length_le (by omega : s.data.toList.length ≤ i), if_pos (show okL [] = true from rfl)]
    refine Ev.step (f := fun k => (strings_Fields.f s).bind fun t => if (t.length : Int) > 10 then some ([], false) else some (t, true)) (fun k => ?_) (Ev.bind0 (a := (Lib.fields s.data.toList).map tb) ?_ ?_)
    · simp only [impl_PartsOf.l0]; rw [if_neg (by omega)]
    · unfold strings_Fields.f
      rw [if_pos ⟨by omega, List.all_eq_true.2 fun x hx => decide_eq_true (by have := (okC_iff x).1 (List.all_eq_true.1 ho x hx); omega)⟩]; rfl
    · unfold tenG
      by_cases e : 10 < ((Lib.fields s.data.toList).map tb).length
      · rw [if_pos e]; exact Ev.pos (by omega) (Ev.now _)
      · rw [if_neg e]; exact Ev.neg (by omega) (Ev.now _)
  | succ d ih =>
    intro i h ho
    have hi : i < s.data.toList.length := by omega
    have w1 : wrap64 ((i : Int) + 1) = ((i + 1 : Nat) : Int) := by rw [w64 (by omega) (by omega)]; omega
    have hbt := bt_data hi
    have ht := List.take_succ_eq_append_getElem hi
    rw [List.drop_eq_getElem_cons hi]
    generalize s.data.toList[i] = x at hbt ht
    have hlt := x.toNat_lt
    have w2 : wrap64 (bt s (i : Int)) = (x.toNat : Int) := by rw [hbt, w64 (by omega) (by omega)]
    by_cases hx : okC x = true
    · have hr := (okC_iff x).1 hx
      have e1 : okL (x :: s.data.toList.drop (i + 1)) = okL (s.data.toList.drop (i + 1)) := by unfold okL; rw [List.all_cons, hx, Bool.true_and]
      rw [e1]
      refine Ev.step (f := fun k => impl_PartsOf.l0 k s ((i + 1 : Nat) : Int)) (fun k => ?_) (ih (i + 1) (by omega) (by unfold okL at *; rw [ht, List.all_append, ho]; simp [hx]))
      simp only [impl_PartsOf.l0]
      rw [if_pos (by omega), if_pos (by omega), w2, impl_within_is, Option.bind_some, if_pos (inR_iff.2 (by omega)), w1]
    · have hr : ¬ (32 ≤ x.toNat ∧ x.toNat ≤ 126) := fun e => hx ((okC_iff x).2 e)
      rw [if_neg (by unfold okL; rw [List.all_cons]; simp [hx])]
      refine Ev.step (f := fun _ => some ([], false)) (fun k => ?_) (Ev.now _)
      simp only [impl_PartsOf.l0]
      rw [if_pos (by omega), if_pos (by omega), w2, impl_within_is, Option.bind_some, if_neg (fun e => by have := inR_iff.1 e; omega)]
theorem impl_PartsOf_ev (s : ByteArray) : Ev (fun k => impl_PartsOf.f k s) (partsR s) := by
  unfold impl_PartsOf.f partsR
  by_cases h : s.size ≤ 600
  · rw [if_pos h]
    refine Ev.neg (by omega) ((impl_PartsOf_l0 s h s.data.toList.length 0 (by omega) rfl).eq ?_)
    rw [List.drop_zero]; rfl
  · rw [if_neg h]; exact Ev.pos (by omega) (Ev.now _)
theorem laws_eqStringS_l0 (l : List ByteArray) (hl : l.length ≤ 1048577) : ∀ (d i : Nat), i + d = l.length → Ev (fun k => laws_eqStringS.l0 k l l (i : Int)) true
  | 0, i, h => by
    refine Ev.step (f := fun k => some true) (fun k => ?_) (Ev.now _)
    simp only [laws_eqStringS.l0]; rw [if_neg (by omega)]
  | d + 1, i, h => by
    refine Ev.step (f := fun k => laws_eqStringS.l0 k l l ((i + 1 : Nat) : Int)) (fun k => ?_) (laws_eqStringS_l0 l hl d (i + 1) (by omega))
    simp only [laws_eqStringS.l0]
    rw [if_pos (by omega), if_pos (by omega), if_pos (by omega), if_true, w64 (x := (i : Int) + 1) (by omega) (by omega)]; rfl
theorem laws_eqStringS_ev (l : List ByteArray) (hl : l.length ≤ 1048577) : Ev (fun k => laws_eqStringS.f k l l) true := by
  unfold laws_eqStringS.f
  exact Ev.pos rfl (laws_eqStringS_l0 l hl l.length 0 (by omega))
theorem laws_markText_l0 : ∀ (n : Nat) (acc : ByteArray), n + acc.size ≤ 1000000000000000 → Ev (fun k => laws_markText.l0 k (n : Int) acc) ((⟨#[109]⟩ : ByteArray) ++ mtD n acc) := by
  intro n
  induction n using Nat.strongRecOn with
  | _ n ih =>
    intro acc ha
    by_cases h : 0 < n
    · have e1 : (wrap64 (48 + Int.tmod (n : Int) 10)) % 256 = ((48 + n % 10 : Nat) : Int) := by
        rw [tm (by omega), w64 (by omega) (by omega)]; omega
      have e2 : wrap64 (Int.tdiv (n : Int) 10) = ((n / 10 : Nat) : Int) := by rw [td (by omega), w64 (by omega) (by omega)]; omega
      have hsz : (strOfNums [((48 + n % 10 : Nat) : Int)]).size = 1 := str_size _
      refine Ev.step (f := fun k => laws_markText.l0 k ((n / 10 : Nat) : Int) (strOfNums [((48 + n % 10 : Nat) : Int)] ++ acc)) (fun k => ?_) ((ih (n / 10) (by omega) _ (by rw [size_append, hsz]; omega)).eq ?_)
      · simp only [laws_markText.l0]
        rw [if_pos (by omega), Option.bind_some, e1, e2, if_pos (by rw [hsz]; omega)]
      · rw [mtD.eq_def n acc, if_pos h]
    · obtain rfl : n = 0 := by omega
      refine Ev.step (f := fun k => some ((⟨#[109]⟩ : ByteArray) ++ acc)) (fun k => ?_) ((Ev.now _).eq ?_)
      · simp only [laws_markText.l0]; rw [if_neg (by omega), if_pos (by omega)]
      · rw [mtD.eq_def 0 acc, if_neg (by omega)]
theorem laws_markText_ev (n : Int) (h : n ≤ 1000000000000000) : Ev (fun k => laws_markText.f k n) (mkT n) := by
  unfold laws_markText.f mkT
  by_cases h0 : n ≤ 0
  · rw [if_pos h0]; exact Ev.pos h0 (Ev.now _)
  · rw [if_neg h0]
    have := laws_markText_l0 n.toNat ⟨#[]⟩ (by show n.toNat + 0 ≤ _; omega)
    rw [Int.toNat_of_nonneg (by omega)] at this
    exact Ev.neg h0 this
theorem laws_markStringS_l0 (l : List ByteArray) (hl : l.length ≤ 1048577) (m : Int) (h0 : 0 ≤ m) (hm : m ≤ 100000000000000) : ∀ (d i : Nat), i + d = l.length →
    Ev (fun k => laws_markStringS.l0 k (((seqI m l.length).map mkT).take i ++ l.drop i) (m + i) (i : Int)) (m + l.length, (seqI m l.length).map mkT)
  | 0, i, h => by
    obtain rfl : i = l.length := by omega
    have e : ((seqI m l.length).map mkT).take l.length ++ l.drop l.length = (seqI m l.length).map mkT := by rw [List.drop_length, List.append_nil, List.take_of_length_le (by rw [List.length_map, seqI_length]; omega)]
    rw [e]
    refine Ev.step (f := fun k => some (m + (l.length : Int), (seqI m l.length).map mkT)) (fun k => ?_) (Ev.now _)
    simp only [laws_markStringS.l0]; rw [if_neg (by rw [List.length_map, seqI_length]; omega)]
  | d + 1, i, h => by
    have hM : ((seqI m l.length).map mkT).length = l.length := by rw [List.length_map, seqI_length]
    have hL : (((seqI m l.length).map mkT).take i ++ l.drop i).length = l.length := by rw [List.length_append, List.length_take, List.length_drop, hM]; omega
    refine Ev.step (f := fun k => (laws_markText.f k (m + i)).bind fun t => laws_markStringS.l0 k ((((seqI m l.length).map mkT).take i ++ l.drop i).set i t) (m + ((i + 1 : Nat) : Int)) ((i + 1 : Nat) : Int)) (fun k => ?_) (Ev.bind (laws_markText_ev _ (by omega)) ((laws_markStringS_l0 l hl m h0 hm d (i + 1) (by omega)).congr' ?_))
    · simp only [laws_markStringS.l0]
      rw [if_pos (by rw [hL]; omega), w64 (x := (i : Int) + 1) (by omega) (by omega), w64 (x := m + (i : Int) + 1) (by omega) (by omega), Int.toNat_natCast]
      simp only [if_pos (show (0 : Int) ≤ (i : Int) from by omega)]
      have e : m + (i : Int) + 1 = m + ((i + 1 : Nat) : Int) := by omega
      rw [e]; rfl
    · intro k
      have e := mark_step ((seqI m l.length).map mkT) l i (by omega) hM
      rw [List.getElem_map, seqI_get] at e
      rw [e]
theorem laws_markStringS_ev (l : List ByteArray) (hl : l.length ≤ 1048577) (m : Int) (h0 : 0 ≤ m) (hm : m ≤ 100000000000000) : Ev (fun k => laws_markStringS.f k l m) (m + l.length, (seqI m l.length).map mkT) := by
  have := laws_markStringS_l0 l hl m h0 hm l.length 0 (by omega)
  show Ev (fun k => laws_markStringS.l0 k l m 0) _
  simpa using this
theorem laws_heldStringS_l0 (n : Nat) (hl : n ≤ 1048577) (m : Int) (h0 : 0 ≤ m) (hm : m ≤ 100000000000000) : ∀ (d i : Nat), i + d = n →
    Ev (fun k => laws_heldStringS.l0 k ((seqI m n).map mkT) (m + i) (i : Int)) (m + n)
  | 0, i, h => by
    obtain rfl : i = n := by omega
    refine Ev.step (f := fun k => some (m + (i : Int))) (fun k => ?_) (Ev.now _)
    simp only [laws_heldStringS.l0]; rw [if_neg (by rw [List.length_map, seqI_length]; omega)]
  | d + 1, i, h => by
    refine Ev.step (f := fun k => (laws_markText.f k (m + i)).bind fun t => if (mkT (m + i)).toList = t.toList then laws_heldStringS.l0 k ((seqI m n).map mkT) (m + ((i + 1 : Nat) : Int)) ((i + 1 : Nat) : Int) else some (-1)) (fun k => ?_) (Ev.bind (laws_markText_ev _ (by omega)) (Ev.pos rfl (laws_heldStringS_l0 n hl m h0 hm d (i + 1) (by omega))))
    simp only [laws_heldStringS.l0]
    rw [if_pos (by rw [List.length_map, seqI_length]; omega), if_pos (by omega), rdOf_nat _ _ i (by rw [List.length_map, seqI_length]; omega), List.getElem_map, seqI_get, w64 (x := (i : Int) + 1) (by omega) (by omega), w64 (x := m + (i : Int) + 1) (by omega) (by omega)]
    have e : m + (i : Int) + 1 = m + ((i + 1 : Nat) : Int) := by omega
    rw [e]; rfl
theorem laws_heldStringS_ev (n : Nat) (hl : n ≤ 1048577) (m : Int) (h0 : 0 ≤ m) (hm : m ≤ 100000000000000) : Ev (fun k => laws_heldStringS.f k ((seqI m n).map mkT) m) (m + n) := by
  have := laws_heldStringS_l0 n hl m h0 hm n 0 (by omega)
  show Ev (fun k => laws_heldStringS.l0 k ((seqI m n).map mkT) m 0) _
  simpa using this
theorem partsR_len (s : ByteArray) : (partsR s).1.length ≤ 10 := by
  unfold partsR
  split
  · unfold partsH
    split
    · unfold tenG
      split
      · simp
      · simp only; omega
    · simp
  · simp
theorem FnExactPartsOf : laws_FnExactPartsOf.Pure := by
  intro s hs
  apply Ev.rounds
  unfold laws_FnExactPartsOf.f
  by_cases h : (s.size : Int) > 1048576
  · exact Ev.pos h (Ev.now _)
  · have hz := partsR_len s
    refine Ev.neg h (Ev.bind (spec_PartsOf_ev s) (Ev.bind (impl_PartsOf_ev s) (Ev.bind (laws_eqStringS_ev (partsR s).1 (by omega)) (Ev.pos rfl ?_))))
    refine Ev.step (fun k => rfl) (Ev.neg (by simp) (Ev.bind (laws_markStringS_ev (partsR s).1 (by omega) 1 (by omega) (by omega)) (Ev.bind (laws_heldStringS_ev (partsR s).1.length (by omega) 1 (by omega) (by omega)) (Ev.neg (by omega) (Ev.pos rfl ?_)))))
    refine Ev.bind (impl_PartsOf_ev s) (Ev.bind (laws_eqStringS_ev (partsR s).1 (by omega)) (Ev.pos rfl ?_))
    exact Ev.step (fun k => rfl) (Ev.neg (by simp) (Ev.bind (laws_heldStringS_ev (partsR s).1.length (by omega) 1 (by omega) (by omega)) (Ev.neg (by omega) (Ev.pos rfl (Ev.now _)))))

end Go.Proofs.YtknbkjajfiediaaDoor.Pure
