/- The law FnExactReadDecimal answers true at every input; no condition. -/
import Derived.Test.YtgnmlgoadkhceaaDoorQFnExactReadDecimalx1
import Derived.Test.YtgnmlgoadkhceaaDoorMath
namespace Go.Proofs.YtgnmlgoadkhceaaDoor.QFnExactReadDecimal
open Go.RowKit
/-- What is left to be shown of the law: over numbers, texts and lists alone. -/
def laws_FnExactReadDecimal.Pure : Prop := ∀ (a0 : ByteArray), a0.size ≤ maxLen → ∃ k, laws_FnExactReadDecimal.f k a0 = some true
end Go.Proofs.YtgnmlgoadkhceaaDoor.QFnExactReadDecimal
namespace Go.Proofs.YtgnmlgoadkhceaaDoor.Pure
open Go.RowKit Go.Proofs.YtgnmlgoadkhceaaDoor.QFnExactReadDecimal Go.Proofs.YtgnmlgoadkhceaaDoorW.PrintWords Go.Proofs.YtgnmlgoadkhceaaDoorW.PrintLast Go.Proofs.YtgnmlgoadkhceaaDoorW.PrintMore Go.Proofs.YtgnmlgoadkhceaaDoor.M
set_option linter.unusedVariables false
set_option linter.unusedSimpArgs false
set_option maxRecDepth 4000

theorem spec_l01Figure_is (x : Int) (h0 : 0 ≤ x) (h1 : x < 16) : spec_l01Figure.f x = some (fig x) := by
  unfold spec_l01Figure.f fig
  by_cases h : x < 10
  · rw [if_pos h, if_pos h, w64 (x := 48 + x) (by omega) (by omega)]; congr 1; omega
  · rw [if_neg h, if_neg h, w64 (x := 97 + x) (by omega) (by omega), w64 (x := 97 + x - 10) (by omega) (by omega)]; congr 1; omega
def decB (u : Nat) : ByteArray := ⟨(Lib.decDigits u).toArray⟩
theorem decB_small {u : Nat} (h : u < 10) : decB u = strOfNums [48 + (u : Int)] := by
  unfold decB; rw [Lib.decDigits_one h]
  apply ByteArray.ext
  simp only [strOfNums, List.map_cons, List.map_nil]
  congr 3
theorem decB_big {u : Nat} (h : ¬ u < 10) : decB u = decB (u / 10) ++ strOfNums [48 + ((u % 10 : Nat) : Int)] := by
  unfold decB; rw [Lib.decDigits, dif_neg h]
  apply ByteArray.ext
  simp only [ByteArray.data_append, strOfNums, List.map_cons, List.map_nil]
  rw [List.append_toArray]
  congr 4
/-- The decimal figures of a number ahead of a text; nothing for 0. -/
def decG (m : Nat) (acc : ByteArray) : ByteArray := if m = 0 then acc else decB m ++ acc
theorem decG_zero (acc : ByteArray) : decG 0 acc = acc := if_pos rfl
theorem decG_step {m : Nat} (h : m ≠ 0) (acc : ByteArray) : decG (m / 10) (strOfNums [48 + ((m % 10 : Nat) : Int)] ++ acc) = decG m acc := by
  unfold decG
  rw [if_neg h]
  by_cases h1 : m < 10
  · rw [if_pos (by omega), decB_small h1, Nat.mod_eq_of_lt h1]
  · rw [if_neg (by omega), decB_big h1, M.append_assoc]
def signB (neg : Bool) (s : ByteArray) : ByteArray := if neg = true then (⟨#[45]⟩ : ByteArray) ++ s else s
def decS (n : Int) : ByteArray := ⟨(Lib.itoa n).toArray⟩
theorem decS_neg {n : Int} (h : n < 0) : decS n = (⟨#[45]⟩ : ByteArray) ++ decB n.natAbs := by
  unfold decS decB Lib.itoa; rw [if_pos h]
  apply ByteArray.ext
  rw [ByteArray.data_append]
  apply Array.toList_inj.1
  rw [Array.toList_append]
  simp
theorem decS_pos {n : Int} (h : ¬ n < 0) : decS n = decB n.natAbs := by
  unfold decS decB Lib.itoa; rw [if_neg h]
  have : n.toNat = n.natAbs := by omega
  rw [this]
theorem decB_size (u : Nat) (d : Nat) (h : u < 10 ^ (d + 1)) : (decB u).size ≤ d + 1 := by
  induction d generalizing u with
  | zero => rw [decB_small (by omega), str_size]; simp
  | succ d ih =>
    by_cases h1 : u < 10
    · rw [decB_small h1, str_size]; simp
    · rw [decB_big h1, size_append, str_size]
      have := ih (u / 10) (by rw [Nat.pow_succ] at h; omega)
      simp only [List.length_cons, List.length_nil]; omega
theorem decS_size (n : Int) (h0 : -9223372036854775808 ≤ n) (h1 : n ≤ 9223372036854775807) : (decS n).size ≤ 21 := by
  have := decB_size n.natAbs 19 (by omega)
  by_cases h : n < 0
  · rw [decS_neg h, size_append]
    have e : (⟨#[45]⟩ : ByteArray).size = 1 := rfl
    omega
  · rw [decS_pos h]; omega
theorem spec_Decimal_l0 (neg : Bool) : ∀ (d : Nat) (x : Int) (acc : ByteArray), x.natAbs < 10 ^ d → x.natAbs ≤ 9223372036854775808 → acc.size + d ≤ 60 →
    Ev (fun k => spec_Decimal.l0 k x neg acc) (signB neg (decG x.natAbs acc))
  | 0, x, acc, h, hb, ha => by
    obtain rfl : x = 0 := by simp at h; omega
    refine Ev.step (f := fun k => some (signB neg acc)) (fun k => ?_) ((Ev.now _).eq (by rfl))
    simp only [spec_Decimal.l0]; rw [if_pos trivial]
    unfold signB
    cases neg
    · rfl
    · rw [if_pos rfl, if_pos (by omega), if_pos rfl]
  | d + 1, x, acc, h, hb, ha => by
    by_cases hx : x = 0
    · subst hx
      refine Ev.step (f := fun k => some (signB neg acc)) (fun k => ?_) ((Ev.now _).eq (by rfl))
      simp only [spec_Decimal.l0]; rw [if_pos trivial]
      unfold signB
      cases neg
      · rfl
      · rw [if_pos rfl, if_pos (by omega), if_pos rfl]
    · have e1 : (Int.tmod x 10).natAbs = x.natAbs % 10 := Int.natAbs_tmod x 10
      have e2 : (Int.tdiv x 10).natAbs = x.natAbs / 10 := Int.natAbs_tdiv x 10
      have hs : (strOfNums [48 + ((x.natAbs % 10 : Nat) : Int)]).size = 1 := by rw [str_size]; rfl
      have hf : fig ((x.natAbs % 10 : Nat) : Int) = 48 + ((x.natAbs % 10 : Nat) : Int) := by unfold fig; rw [if_pos (by omega)]
      have hw : wrap64 (Int.tdiv x 10) = Int.tdiv x 10 := w64 (by omega) (by omega)
      have hp : x.natAbs / 10 < 10 ^ d := by rw [Nat.pow_succ] at h; omega
      have ih := spec_Decimal_l0 neg d (Int.tdiv x 10) (strOfNums [48 + ((x.natAbs % 10 : Nat) : Int)] ++ acc) (by rw [e2]; exact hp) (by omega) (by rw [size_append, hs]; omega)
      rw [e2, decG_step (by omega)] at ih
      refine Ev.step (f := fun k => spec_Decimal.l0 k (Int.tdiv x 10) neg (strOfNums [48 + ((x.natAbs % 10 : Nat) : Int)] ++ acc)) (fun k => ?_) ih
      simp only [spec_Decimal.l0]; rw [if_neg hx]
      by_cases ht : Int.tmod x 10 < 0
      · have e3 : wrap64 (-(Int.tmod x 10)) = ((x.natAbs % 10 : Nat) : Int) := by rw [w64 (by omega) (by omega)]; omega
        rw [if_pos ht, e3, spec_l01Figure_is _ (by omega) (by omega)]
        simp only [Option.bind_some, hf]
        rw [if_pos (by rw [hs]; omega), hw]
      · have e3 : Int.tmod x 10 = ((x.natAbs % 10 : Nat) : Int) := by omega
        rw [if_neg ht, e3, spec_l01Figure_is _ (by omega) (by omega)]
        simp only [Option.bind_some, hf]
        rw [if_pos (by rw [hs]; omega), hw]
theorem spec_Decimal_ev (n : Int) (h0 : -9223372036854775808 ≤ n) (h1 : n ≤ 9223372036854775807) : Ev (fun k => spec_Decimal.f k n) (decS n) := by
  unfold spec_Decimal.f
  by_cases h : n = 0
  · subst h; exact Ev.pos rfl ((Ev.now _).eq (by rw [decS_pos (by decide)]; exact (decB_small (u := 0) (by decide)).symm ▸ rfl))
  · refine Ev.neg h ((spec_Decimal_l0 _ 20 n _ (by omega) (by omega) (by simp [ByteArray.size])).eq ?_)
    have e : decG n.natAbs (⟨#[]⟩ : ByteArray) = decB n.natAbs := by unfold decG; rw [if_neg (by omega), M.append_nil]
    rw [e]; unfold signB
    by_cases hn : n < 0
    · rw [decide_eq_true hn, if_pos rfl, decS_neg hn]
    · rw [decide_eq_false hn, if_neg (by decide), decS_pos hn]
/-- The number that decimal figures spell, behind the number that those before them spell. -/
def dF (acc : Nat) : List Int → Option Nat
  | [] => some acc
  | b :: r => if 48 ≤ b ∧ b ≤ 57 then dF (acc * 10 + (b - 48).toNat) r else none
theorem dF_snoc (b : Int) : ∀ (l : List Int) (acc : Nat), dF acc (l ++ [b]) = (dF acc l).bind fun m => if 48 ≤ b ∧ b ≤ 57 then some (m * 10 + (b - 48).toNat) else none
  | [], acc => by simp [dF]
  | c :: l, acc => by
    simp only [List.cons_append, dF]
    by_cases h : 48 ≤ c ∧ c ≤ 57
    · rw [if_pos h, if_pos h]; exact dF_snoc b l _
    · rw [if_neg h, if_neg h]; rfl
theorem dF_decFrom : ∀ (l : List UInt8) (acc : Nat), dF acc (l.map fun b => (b.toNat : Int)) = Lib.decFrom acc l
  | [], acc => rfl
  | b :: l, acc => by
    simp only [List.map_cons, dF, Lib.decFrom, Lib.digitVal]
    by_cases h : 48 ≤ b.toNat ∧ b.toNat ≤ 57
    · rw [if_pos h, if_pos (by omega)]
      have e : ((b.toNat : Int) - 48).toNat = b.toNat - 48 := by omega
      rw [e]; exact dF_decFrom l _
    · rw [if_neg h, if_neg (by omega)]
theorem dF_lt : ∀ (l : List Int) (acc i : Nat) (m : Nat), acc < 10 ^ i → dF acc l = some m → m < 10 ^ (i + l.length)
  | [], acc, i, m, h, e => by simp only [dF, Option.some.injEq] at e; subst e; simpa using h
  | b :: l, acc, i, m, h, e => by
    simp only [dF] at e
    by_cases hb : 48 ≤ b ∧ b ≤ 57
    · rw [if_pos hb] at e
      have := dF_lt l _ (i + 1) m (by rw [Nat.pow_succ]; omega) e
      simp only [List.length_cons]
      rw [show i + (l.length + 1) = i + 1 + l.length by omega]; exact this
    · rw [if_neg hb] at e; cases e
theorem dF_decB (u : Nat) : dF 0 (bytesOf (decB u)) = some u := by
  induction u using Nat.strongRecOn with
  | _ u ih =>
    by_cases h : u < 10
    · rw [decB_small h, bytes_str (xs := [48 + (u : Int)]) (by intro x hx; simp at hx; omega)]
      simp only [dF]; rw [if_pos (by omega)]; congr 1; omega
    · rw [decB_big h, bytes_append, bytes_str (xs := [48 + ((u % 10 : Nat) : Int)]) (by intro x hx; simp at hx; omega), dF_snoc, ih (u / 10) (by omega)]
      simp only [Option.bind_some]; rw [if_pos (by omega)]; congr 1; omega
theorem decB_pos (u : Nat) : 1 ≤ (decB u).size := by
  by_cases h : u < 10
  · rw [decB_small h, str_size]; simp
  · rw [decB_big h, size_append, str_size]; simp
def rdC (t : ByteArray) : Option Nat → Int × Bool
  | some n => if (n : Int) ≤ 1000000000 ∧ decS n = t then ((n : Int), true) else (0, false)
  | none => (0, false)
/-- The number of a text in decimal figures. -/
def rdDec (t : ByteArray) : Int × Bool := rdC t (dF 0 (bytesOf t))
theorem decS_nat (n : Nat) : decS (n : Int) = decB n := by rw [decS_pos (by omega)]; rfl
theorem rdDec_long {t : ByteArray} (h : 10 < t.size) : rdDec t = (0, false) := by
  unfold rdDec
  cases e : dF 0 (bytesOf t) with
  | none => rfl
  | some n =>
    simp only [rdC]
    refine if_neg (fun hc => ?_)
    have hs : (decB n).size ≤ 9 + 1 := decB_size n 9 (by have := hc.1; omega)
    rw [decS_nat] at hc
    rw [hc.2] at hs; omega
theorem atoiAll_dF {t : ByteArray} {n : Nat} (h : dF 0 (bytesOf t) = some n) (h1 : 1 ≤ t.size) (h2 : t.size ≤ 18) : Lib.atoiAll t.data.toList = .ok (n : Int) := by
  have hl : t.data.toList.length = t.size := by rw [Array.length_toList]; rfl
  rw [Lib.atoiAll_short _ (by omega)]
  have hd : Lib.decFrom 0 t.data.toList = some n := by rw [← dF_decFrom]; exact h
  cases e : t.data.toList with
  | nil => rw [e] at hl; simp at hl; omega
  | cons b r =>
    rw [e] at hd
    have hb : 48 ≤ b.toNat ∧ b.toNat ≤ 57 := by
      simp only [Lib.decFrom, Lib.digitVal] at hd
      by_cases hb : 48 ≤ b.toNat ∧ b.toNat ≤ 57
      · exact hb
      · rw [if_neg hb] at hd; cases hd
    have n45 : ¬ b = 45 := fun e => by rw [e] at hb; exact absurd hb (by decide)
    have n43 : ¬ b = 43 := fun e => by rw [e] at hb; exact absurd hb (by decide)
    simp only [Lib.atoi, beq_iff_eq, n45, n43, if_false, Lib.decNat, List.isEmpty_cons, hd]
    rfl
theorem spec_ReadDecimal_l0 (t : ByteArray) (ht : t.size ≤ 10) : ∀ (d i n : Nat), i + d = t.size → n < 10 ^ i →
    Ev (fun k => spec_ReadDecimal.l0 k t (n : Int) (i : Int)) (rdC t (dF n ((bytesOf t).drop i)))
  | 0, i, n, h, hn => by
    have hp : 10 ^ i ≤ 10 ^ 10 := Nat.pow_le_pow_right (by decide) (by omega)
    have e10 : (10 : Nat) ^ 10 = 10000000000 := by decide
    rw [List.drop_of_length_le (by rw [bytesOf_length]; omega)]
    simp only [dF, rdC]
    refine Ev.step (f := fun k => if (n : Int) > 1000000000 then some (0, false) else (spec_Decimal.f k n).bind fun t109 => if t109.toList = t.toList then some ((n : Int), true) else some (0, false)) (fun k => ?_) ?_
    · simp only [spec_ReadDecimal.l0]; rw [if_neg (by omega)]
    · by_cases hb : (n : Int) > 1000000000
      · exact (Ev.pos hb (Ev.now _)).eq (if_neg (fun hc => by omega)).symm
      · refine Ev.neg hb (Ev.bind (spec_Decimal_ev n (by omega) (by omega)) ?_)
        by_cases he : decS (n : Int) = t
        · exact (Ev.pos ((toList_iff _ _).2 he) (Ev.now _)).eq (if_pos ⟨by omega, he⟩).symm
        · exact (Ev.neg (fun hc => he ((toList_iff _ _).1 hc)) (Ev.now _)).eq (if_neg (fun hc => he hc.2)).symm
  | d + 1, i, n, h, hn => by
    have hp : 10 ^ i ≤ 10 ^ 10 := Nat.pow_le_pow_right (by decide) (by omega)
    have e10 : (10 : Nat) ^ 10 = 10000000000 := by decide
    have hr := bytes_range t (bt t i) (by rw [← bytes_get t i (by rw [bytesOf_length]; omega)]; exact List.getElem_mem _)
    rw [bytes_drop (by omega : i < t.size)]
    simp only [dF]
    by_cases hb : 48 ≤ bt t i ∧ bt t i ≤ 57
    · rw [if_pos hb]
      refine Ev.step (f := fun k => spec_ReadDecimal.l0 k t ((n * 10 + (bt t i - 48).toNat : Nat) : Int) ((i + 1 : Nat) : Int)) (fun k => ?_) (spec_ReadDecimal_l0 t ht d (i + 1) _ (by omega) (by rw [Nat.pow_succ]; omega))
      simp only [spec_ReadDecimal.l0]
      rw [if_pos (by omega), if_pos (by omega), if_neg (by omega), if_neg (by omega)]
      have w1 : wrap64 (10 * (n : Int)) = 10 * n := w64 (by omega) (by omega)
      have w2 : wrap64 (bt t i) = bt t i := w64 (by omega) (by omega)
      rw [w1, w2, w64 (x := 10 * (n : Int) + bt t i) (by omega) (by omega), w64 (x := 10 * (n : Int) + bt t i - 48) (by omega) (by omega), w64 (x := (i : Int) + 1) (by omega) (by omega)]
      congr 1
      omega
    · rw [if_neg hb]
      refine Ev.step (f := fun k => some (0, false)) (fun k => ?_) (Ev.now _)
      simp only [spec_ReadDecimal.l0]
      rw [if_pos (by omega), if_pos (by omega)]
      by_cases h0 : bt t i < 48
      · rw [if_pos h0]
      · rw [if_neg h0, if_pos (by omega)]
theorem spec_ReadDecimal_ev (t : ByteArray) : Ev (fun k => spec_ReadDecimal.f k t) (rdDec t) := by
  unfold spec_ReadDecimal.f
  by_cases h : (t.size : Int) > 10
  · rw [rdDec_long (by omega)]; exact Ev.pos h (Ev.now _)
  · refine Ev.neg h ?_
    have := spec_ReadDecimal_l0 t (by omega) t.size 0 0 (by omega) (by decide)
    exact this
theorem impl_Decimal_is (n : Int) (h0 : -9223372036854775808 ≤ n) (h1 : n ≤ 9223372036854775807) : impl_Decimal.f n = some (decS n) := by
  unfold impl_Decimal.f; rw [if_pos ⟨h0, h1⟩]; rfl
theorem impl_within_is (a b c : Int) : impl_within.f a b c = some (inR a b c) := by
  unfold impl_within.f inR
  by_cases h : a ≥ b
  · rw [if_pos h]; congr 1; simp; omega
  · rw [if_neg h]; congr 1; simp; omega
theorem impl_ReadDecimal_is (t : ByteArray) (h : t.size ≤ 281474976710656) : impl_ReadDecimal.f t = some (rdDec t) := by
  unfold impl_ReadDecimal.f; rw [if_pos h]; congr 1
  unfold impl_ReadDecimal.v
  have key : ∀ n : Nat, (n : Int) ≤ 1000000000 → decS (n : Int) = t → dF 0 (bytesOf t) = some n ∧ Lib.atoiAll t.data.toList = .ok (n : Int) := by
    intro n hn he
    rw [decS_nat] at he
    have hd : dF 0 (bytesOf t) = some n := by rw [← he]; exact dF_decB n
    have hs := decB_size n 10 (by omega)
    exact ⟨hd, atoiAll_dF hd (by rw [← he]; exact decB_pos n) (by rw [← he]; omega)⟩
  have no : (∀ n : Nat, (n : Int) ≤ 1000000000 → ¬ decS (n : Int) = t) → rdDec t = (0, false) := by
    intro hno
    unfold rdDec
    cases dF 0 (bytesOf t) with
    | none => rfl
    | some n => simp only [rdC]; exact if_neg (fun hc => hno n hc.1 hc.2)
  have yes : ∀ n : Nat, (n : Int) ≤ 1000000000 → decS (n : Int) = t → rdDec t = ((n : Int), true) := by
    intro n hn he
    unfold rdDec
    rw [(key n hn he).1]
    exact if_pos ⟨hn, he⟩
  cases ha : Lib.atoiAll t.data.toList with
  | ok v =>
    simp only
    by_cases he : (⟨(Lib.itoa v).toArray⟩ : ByteArray).toList = t.toList
    · rw [if_pos he]
      by_cases hv : 0 ≤ v ∧ v ≤ 1000000000
      · rw [if_pos hv]
        obtain ⟨n, rfl⟩ : ∃ n : Nat, v = n := ⟨v.toNat, by omega⟩
        exact (yes n hv.2 ((toList_iff _ _).1 he)).symm
      · rw [if_neg hv]
        refine (no fun n hn hc => ?_).symm
        have := (key n hn hc).2
        rw [ha] at this
        have e : v = (n : Int) := by injection this
        exact hv ⟨by omega, by omega⟩
    · rw [if_neg he]
      refine (no fun n hn hc => ?_).symm
      have := (key n hn hc).2
      rw [ha] at this
      have e : v = (n : Int) := by injection this
      exact he ((toList_iff _ _).2 (by rw [e]; exact hc))
  | range =>
    refine (no fun n hn hc => ?_).symm
    have := (key n hn hc).2
    rw [ha] at this; cases this
  | _ =>
    refine (no fun n hn hc => ?_).symm
    have := (key n hn hc).2
    rw [ha] at this; cases this
theorem FnExactReadDecimal : laws_FnExactReadDecimal.Pure := by
  intro s hs
  apply Ev.rounds
  unfold laws_FnExactReadDecimal.f
  by_cases h : (s.size : Int) > 1048576
  · exact Ev.pos h (Ev.now _)
  · exact Ev.neg h (Ev.bind (spec_ReadDecimal_ev s) (Ev.bind0 (impl_ReadDecimal_is s (by omega)) (Ev.pos rfl (Ev.neg (by simp) (Ev.now _)))))

end Go.Proofs.YtgnmlgoadkhceaaDoor.Pure
