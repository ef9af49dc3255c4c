/- The law FnNumbers answers true at every input; no condition. -/
import Derived.Test.YtgnmlgoadkhceaaDoorQFnNumbersx4
import Derived.Test.YtgnmlgoadkhceaaDoorMath
namespace Go.Proofs.YtgnmlgoadkhceaaDoor.QFnNumbers
open Go.RowKit
/-- What is left to be shown of the law: over numbers, texts and lists alone. -/
def laws_FnNumbers.Pure : Prop := ∀ (l0 : List (Int)), (l0.length ≤ maxLen ∧ ∀ x ∈ l0, (Lit.int .u8 x).wf = true) → ∃ k, laws_FnNumbers.f k l0 = some true
end Go.Proofs.YtgnmlgoadkhceaaDoor.QFnNumbers
namespace Go.Proofs.YtgnmlgoadkhceaaDoor.Pure
open Go.RowKit Go.Proofs.YtgnmlgoadkhceaaDoor.QFnNumbers Go.Proofs.YtgnmlgoadkhceaaDoorW.PrintWords Go.Proofs.YtgnmlgoadkhceaaDoorW.PrintLast Go.Proofs.YtgnmlgoadkhceaaDoorW.PrintMore Go.Proofs.YtgnmlgoadkhceaaDoor.M
set_option linter.unusedVariables false
set_option linter.unusedSimpArgs false
set_option maxRecDepth 4000

def decB (u : Nat) : ByteArray := ⟨(Lib.decDigits u).toArray⟩
theorem decB_small {u : Nat} (h : u < 10) : decB u = strOfNums [48 + (u : Int)] := by
  unfold decB; rw [Lib.decDigits_one h]
  apply ByteArray.ext
  simp only [strOfNums, List.map_cons, List.map_nil]
  congr 3
theorem decB_big {u : Nat} (h : ¬ u < 10) : decB u = decB (u / 10) ++ strOfNums [48 + ((u % 10 : Nat) : Int)] := by
  unfold decB; rw [Lib.decDigits, dif_neg h]
  apply ByteArray.ext
  simp only [ByteArray.data_append, strOfNums, List.map_cons, List.map_nil]
  rw [List.append_toArray]
  congr 4
/-- The decimal figures of a number ahead of a text; nothing for 0. -/
def decG (m : Nat) (acc : ByteArray) : ByteArray := if m = 0 then acc else decB m ++ acc
theorem decG_zero (acc : ByteArray) : decG 0 acc = acc := if_pos rfl
theorem decG_step {m : Nat} (h : m ≠ 0) (acc : ByteArray) : decG (m / 10) (strOfNums [48 + ((m % 10 : Nat) : Int)] ++ acc) = decG m acc := by
  unfold decG
  rw [if_neg h]
  by_cases h1 : m < 10
  · rw [if_pos (by omega), decB_small h1, Nat.mod_eq_of_lt h1]
  · rw [if_neg (by omega), decB_big h1, M.append_assoc]
def signB (neg : Bool) (s : ByteArray) : ByteArray := if neg = true then (⟨#[45]⟩ : ByteArray) ++ s else s
def decS (n : Int) : ByteArray := ⟨(Lib.itoa n).toArray⟩
theorem decS_neg {n : Int} (h : n < 0) : decS n = (⟨#[45]⟩ : ByteArray) ++ decB n.natAbs := by
  unfold decS decB Lib.itoa; rw [if_pos h]
  apply ByteArray.ext
  rw [ByteArray.data_append]
  apply Array.toList_inj.1
  rw [Array.toList_append]
  simp
theorem decS_pos {n : Int} (h : ¬ n < 0) : decS n = decB n.natAbs := by
  unfold decS decB Lib.itoa; rw [if_neg h]
  have : n.toNat = n.natAbs := by omega
  rw [this]
theorem decB_size (u : Nat) (d : Nat) (h : u < 10 ^ (d + 1)) : (decB u).size ≤ d + 1 := by
  induction d generalizing u with
  | zero => rw [decB_small (by omega), str_size]; simp
  | succ d ih =>
    by_cases h1 : u < 10
    · rw [decB_small h1, str_size]; simp
    · rw [decB_big h1, size_append, str_size]
      have := ih (u / 10) (by rw [Nat.pow_succ] at h; omega)
      simp only [List.length_cons, List.length_nil]; omega
theorem decS_size (n : Int) (h0 : -9223372036854775808 ≤ n) (h1 : n ≤ 9223372036854775807) : (decS n).size ≤ 21 := by
  have := decB_size n.natAbs 19 (by omega)
  by_cases h : n < 0
  · rw [decS_neg h, size_append]
    have e : (⟨#[45]⟩ : ByteArray).size = 1 := rfl
    omega
  · rw [decS_pos h]; omega
theorem impl_Decimal_is (n : Int) (h0 : -9223372036854775808 ≤ n) (h1 : n ≤ 9223372036854775807) : impl_Decimal.f n = some (decS n) := by
  unfold impl_Decimal.f; rw [if_pos ⟨h0, h1⟩]; rfl
theorem impl_within_is (a b c : Int) : impl_within.f a b c = some (inR a b c) := by
  unfold impl_within.f inR
  by_cases h : a ≥ b
  · rw [if_pos h]; congr 1; simp; omega
  · rw [if_neg h]; congr 1; simp; omega
/-- The number that decimal figures spell, behind the number that those before them spell. -/
def dF (acc : Nat) : List Int → Option Nat
  | [] => some acc
  | b :: r => if 48 ≤ b ∧ b ≤ 57 then dF (acc * 10 + (b - 48).toNat) r else none
theorem dF_snoc (b : Int) : ∀ (l : List Int) (acc : Nat), dF acc (l ++ [b]) = (dF acc l).bind fun m => if 48 ≤ b ∧ b ≤ 57 then some (m * 10 + (b - 48).toNat) else none
  | [], acc => by simp [dF]
  | c :: l, acc => by
    simp only [List.cons_append, dF]
    by_cases h : 48 ≤ c ∧ c ≤ 57
    · rw [if_pos h, if_pos h]; exact dF_snoc b l _
    · rw [if_neg h, if_neg h]; rfl
theorem dF_decFrom : ∀ (l : List UInt8) (acc : Nat), dF acc (l.map fun b => (b.toNat : Int)) = Lib.decFrom acc l
  | [], acc => rfl
  | b :: l, acc => by
    simp only [List.map_cons, dF, Lib.decFrom, Lib.digitVal]
    by_cases h : 48 ≤ b.toNat ∧ b.toNat ≤ 57
    · rw [if_pos h, if_pos (by omega)]
      have e : ((b.toNat : Int) - 48).toNat = b.toNat - 48 := by omega
      rw [e]; exact dF_decFrom l _
    · rw [if_neg h, if_neg (by omega)]
theorem dF_lt : ∀ (l : List Int) (acc i : Nat) (m : Nat), acc < 10 ^ i → dF acc l = some m → m < 10 ^ (i + l.length)
  | [], acc, i, m, h, e => by simp only [dF, Option.some.injEq] at e; subst e; simpa using h
  | b :: l, acc, i, m, h, e => by
    simp only [dF] at e
    by_cases hb : 48 ≤ b ∧ b ≤ 57
    · rw [if_pos hb] at e
      have := dF_lt l _ (i + 1) m (by rw [Nat.pow_succ]; omega) e
      simp only [List.length_cons]
      rw [show i + (l.length + 1) = i + 1 + l.length by omega]; exact this
    · rw [if_neg hb] at e; cases e
theorem dF_decB (u : Nat) : dF 0 (bytesOf (decB u)) = some u := by
  induction u using Nat.strongRecOn with
  | _ u ih =>
    by_cases h : u < 10
    · rw [decB_small h, bytes_str (xs := [48 + (u : Int)]) (by intro x hx; simp at hx; omega)]
      simp only [dF]; rw [if_pos (by omega)]; congr 1; omega
    · rw [decB_big h, bytes_append, bytes_str (xs := [48 + ((u % 10 : Nat) : Int)]) (by intro x hx; simp at hx; omega), dF_snoc, ih (u / 10) (by omega)]
      simp only [Option.bind_some]; rw [if_pos (by omega)]; congr 1; omega
theorem decB_pos (u : Nat) : 1 ≤ (decB u).size := by
  by_cases h : u < 10
  · rw [decB_small h, str_size]; simp
  · rw [decB_big h, size_append, str_size]; simp
def rdC (t : ByteArray) : Option Nat → Int × Bool
  | some n => if (n : Int) ≤ 1000000000 ∧ decS n = t then ((n : Int), true) else (0, false)
  | none => (0, false)
/-- The number of a text in decimal figures. -/
def rdDec (t : ByteArray) : Int × Bool := rdC t (dF 0 (bytesOf t))
theorem decS_nat (n : Nat) : decS (n : Int) = decB n := by rw [decS_pos (by omega)]; rfl
theorem rdDec_long {t : ByteArray} (h : 10 < t.size) : rdDec t = (0, false) := by
  unfold rdDec
  cases e : dF 0 (bytesOf t) with
  | none => rfl
  | some n =>
    simp only [rdC]
    refine if_neg (fun hc => ?_)
    have hs : (decB n).size ≤ 9 + 1 := decB_size n 9 (by have := hc.1; omega)
    rw [decS_nat] at hc
    rw [hc.2] at hs; omega
theorem atoiAll_dF {t : ByteArray} {n : Nat} (h : dF 0 (bytesOf t) = some n) (h1 : 1 ≤ t.size) (h2 : t.size ≤ 18) : Lib.atoiAll t.data.toList = .ok (n : Int) := by
  have hl : t.data.toList.length = t.size := by rw [Array.length_toList]; rfl
  rw [Lib.atoiAll_short _ (by omega)]
  have hd : Lib.decFrom 0 t.data.toList = some n := by rw [← dF_decFrom]; exact h
  cases e : t.data.toList with
  | nil => rw [e] at hl; simp at hl; omega
  | cons b r =>
    rw [e] at hd
    have hb : 48 ≤ b.toNat ∧ b.toNat ≤ 57 := by
      simp only [Lib.decFrom, Lib.digitVal] at hd
      by_cases hb : 48 ≤ b.toNat ∧ b.toNat ≤ 57
      · exact hb
      · rw [if_neg hb] at hd; cases hd
    have n45 : ¬ b = 45 := fun e => by rw [e] at hb; exact absurd hb (by decide)
    have n43 : ¬ b = 43 := fun e => by rw [e] at hb; exact absurd hb (by decide)
    simp only [Lib.atoi, beq_iff_eq, n45, n43, if_false, Lib.decNat, List.isEmpty_cons, hd]
    rfl
theorem impl_ReadDecimal_is (t : ByteArray) (h : t.size ≤ 281474976710656) : impl_ReadDecimal.f t = some (rdDec t) := by
  unfold impl_ReadDecimal.f; rw [if_pos h]; congr 1
  unfold impl_ReadDecimal.v
  have key : ∀ n : Nat, (n : Int) ≤ 1000000000 → decS (n : Int) = t → dF 0 (bytesOf t) = some n ∧ Lib.atoiAll t.data.toList = .ok (n : Int) := by
    intro n hn he
    rw [decS_nat] at he
    have hd : dF 0 (bytesOf t) = some n := by rw [← he]; exact dF_decB n
    have hs := decB_size n 10 (by omega)
    exact ⟨hd, atoiAll_dF hd (by rw [← he]; exact decB_pos n) (by rw [← he]; omega)⟩
  have no : (∀ n : Nat, (n : Int) ≤ 1000000000 → ¬ decS (n : Int) = t) → rdDec t = (0, false) := by
    intro hno
    unfold rdDec
    cases dF 0 (bytesOf t) with
    | none => rfl
    | some n => simp only [rdC]; exact if_neg (fun hc => hno n hc.1 hc.2)
  have yes : ∀ n : Nat, (n : Int) ≤ 1000000000 → decS (n : Int) = t → rdDec t = ((n : Int), true) := by
    intro n hn he
    unfold rdDec
    rw [(key n hn he).1]
    exact if_pos ⟨hn, he⟩
  cases ha : Lib.atoiAll t.data.toList with
  | ok v =>
    simp only
    by_cases he : (⟨(Lib.itoa v).toArray⟩ : ByteArray).toList = t.toList
    · rw [if_pos he]
      by_cases hv : 0 ≤ v ∧ v ≤ 1000000000
      · rw [if_pos hv]
        obtain ⟨n, rfl⟩ : ∃ n : Nat, v = n := ⟨v.toNat, by omega⟩
        exact (yes n hv.2 ((toList_iff _ _).1 he)).symm
      · rw [if_neg hv]
        refine (no fun n hn hc => ?_).symm
        have := (key n hn hc).2
        rw [ha] at this
        have e : v = (n : Int) := by injection this
        exact hv ⟨by omega, by omega⟩
    · rw [if_neg he]
      refine (no fun n hn hc => ?_).symm
      have := (key n hn hc).2
      rw [ha] at this
      have e : v = (n : Int) := by injection this
      exact he ((toList_iff _ _).2 (by rw [e]; exact hc))
  | range =>
    refine (no fun n hn hc => ?_).symm
    have := (key n hn hc).2
    rw [ha] at this; cases this
  | _ =>
    refine (no fun n hn hc => ?_).symm
    have := (key n hn hc).2
    rw [ha] at this; cases this
theorem laws_big_is (l : List Int) : laws_big.f l = some (decide ((l.length : Int) > 1048576)) := rfl
theorem and255 (x : Int) : 0 ≤ Go.bits .and .i64 x 255 ∧ Go.bits .and .i64 x 255 ≤ 255 := by
  have h : (BitVec.ofInt 64 x &&& BitVec.ofInt 64 255).toNat ≤ 255 := by rw [BitVec.toNat_and]; exact Nat.le_trans Nat.and_le_right (by decide)
  change 0 ≤ IntKind.i64.wrap ((BitVec.ofInt 64 x &&& BitVec.ofInt 64 255).toNat : Int) ∧ IntKind.i64.wrap ((BitVec.ofInt 64 x &&& BitVec.ofInt 64 255).toNat : Int) ≤ 255
  generalize (BitVec.ofInt 64 x &&& BitVec.ofInt 64 255).toNat = v at h ⊢
  rw [IntKind.wrap_i64]
  omega
def DR (s : List Int) (i : Int) : Prop := 0 ≤ i ∧ i ≤ (s.length : Int)
theorem spec_l01Byte_is (s : List Int) (hs : s.length ≤ 140737488355328) (i h : Int) (hd : DR s i) : ∃ r i' h', spec_l01Byte.f s i h = some (r, i', h') ∧ (0 ≤ r ∧ r ≤ 255) ∧ DR s i' := by
  obtain ⟨h0, h1⟩ := hd
  unfold spec_l01Byte.f
  by_cases e : i < (s.length : Int)
  · rw [if_pos e, if_pos h0]
    exact ⟨_, _, _, rfl, and255 _, by rw [w64 (by omega) (by omega)]; exact ⟨by omega, by omega⟩⟩
  · rw [if_neg e]
    exact ⟨_, _, _, rfl, and255 _, h0, h1⟩
theorem spec_l01Below_is (s : List Int) (hs : s.length ≤ 140737488355328) (i h n : Int) (hd : DR s i) (hn : 0 < n ∧ n ≤ 1000000000) : ∃ r i' h', spec_l01Below.f s i h n = some (r, i', h') ∧ (0 ≤ r ∧ r < n) ∧ DR s i' := by
  unfold spec_l01Below.f
  rw [if_neg (by omega)]
  obtain ⟨x, i1, h1, e1, hx, d1⟩ := spec_l01Byte_is s hs i h hd
  by_cases e : n ≤ 256
  · rw [if_pos e, e1, Option.bind_some, if_neg (by omega), tm (by simp only; omega)]
    refine ⟨_, _, _, rfl, ⟨Int.emod_nonneg _ (by omega), Int.emod_lt_of_pos _ (by omega)⟩, d1⟩
  · rw [if_neg e, e1, Option.bind_some]
    obtain ⟨y, i2, h2, e2, hy, d2⟩ := spec_l01Byte_is s hs i1 h1 d1
    obtain ⟨z, i3, h3, e3, hz, d3⟩ := spec_l01Byte_is s hs i2 h2 d2
    obtain ⟨v, i4, h4, e4, hv, d4⟩ := spec_l01Byte_is s hs i3 h3 d3
    simp only [e2, e3, e4, Option.bind_some]
    rw [if_neg (by omega), w64 (x := x * 16777216) (by omega) (by omega), w64 (x := y * 65536) (by omega) (by omega), w64 (x := z * 256) (by omega) (by omega), w64 (x := x * 16777216 + y * 65536) (by omega) (by omega), w64 (x := x * 16777216 + y * 65536 + z * 256) (by omega) (by omega), w64 (by omega) (by omega), tm (by omega)]
    refine ⟨_, _, _, rfl, ⟨Int.emod_nonneg _ (by omega), Int.emod_lt_of_pos _ (by omega)⟩, d4⟩
theorem spec_l01PickInt_is (s : List Int) (hs : s.length ≤ 140737488355328) (i h : Int) (l : List Int) (hd : DR s i) (hl : 0 < l.length ∧ l.length ≤ 1000) : ∃ r i' h', spec_l01PickInt.f s i h l = some (r, i', h') ∧ r ∈ l ∧ DR s i' := by
  obtain ⟨x, i1, h1, e1, hx, d1⟩ := spec_l01Below_is s hs i h (l.length : Int) hd (by omega)
  unfold spec_l01PickInt.f
  rw [e1, Option.bind_some, if_pos (by simp only; omega), if_pos (by simp only; omega)]
  refine ⟨_, _, _, rfl, ?_, d1⟩
  obtain ⟨n, rfl⟩ : ∃ n : Nat, x = n := ⟨x.toNat, by omega⟩
  rw [rd_nat l n (by omega)]
  exact List.getElem_mem _
theorem spec_l01Number_is (s : List Int) (hs : s.length ≤ 140737488355328) (i h : Int) (hd : DR s i) : ∃ r i' h', spec_l01Number.f s i h = some (r, i', h') ∧ DR s i' := by
  obtain ⟨x, i1, h1, e1, hx, d1⟩ := spec_l01Below_is s hs i h 4 hd (by omega)
  unfold spec_l01Number.f
  rw [e1, Option.bind_some]
  by_cases h0 : x = 0
  · obtain ⟨y, i2, h2, e2, _, d2⟩ := spec_l01PickInt_is s hs i1 h1 [(-1), 0, 127, 128, 16383, 16384, 1000000000, 1000000001, 9223372036854775807, (-9223372036854775808)] d1 (by simp)
    rw [if_pos h0]; simp only [e2, Option.bind_some]; exact ⟨_, _, _, rfl, d2⟩
  · rw [if_neg h0]
    by_cases h4 : x = 1
    · obtain ⟨y, i2, h2, e2, _, d2⟩ := spec_l01Below_is s hs i1 h1 1000000000 d1 (by omega)
      rw [if_pos h4]; simp only [e2, Option.bind_some]; exact ⟨_, _, _, rfl, d2⟩
    · obtain ⟨y, i2, h2, e2, _, d2⟩ := spec_l01Below_is s hs i1 h1 400 d1 (by omega)
      rw [if_neg h4]; simp only [e2, Option.bind_some]; exact ⟨_, _, _, rfl, d2⟩
theorem spec_l01New_l0 (s : List Int) (hs : s.length ≤ 140737488355328) : ∀ (d : Nat) (i h : Int), 0 ≤ i → 4000 ≤ i + d → ∃ h', Ev (fun k => spec_l01New.l0 k s h i) (s, 0, h')
  | 0, i, h, h0, h1 => by
    refine ⟨h, Ev.step (f := fun k => some (s, 0, h)) (fun k => ?_) (Ev.now _)⟩
    simp only [spec_l01New.l0]
    rw [if_neg (show ¬ i < 4000 by omega)]
    split <;> rfl
  | d + 1, i, h, h0, h1 => by
    by_cases e : i < (s.length : Int)
    · by_cases e2 : i < 4000
      · obtain ⟨h', hh⟩ := spec_l01New_l0 s hs d (i + 1) (Go.bits .and .i64 (wrap64 ((wrap64 ((wrap64 (h * 131)) + (wrap64 (rd s i)))) + 7)) 1073741823) (by omega) (by omega)
        refine ⟨h', Ev.step (f := fun k => spec_l01New.l0 k s (Go.bits .and .i64 (wrap64 ((wrap64 ((wrap64 (h * 131)) + (wrap64 (rd s i)))) + 7)) 1073741823) (i + 1)) (fun k => ?_) hh⟩
        simp only [spec_l01New.l0]
        rw [if_pos e, if_pos e2, if_pos h0, w64 (x := i + 1) (by omega) (by omega)]
      · refine ⟨h, Ev.step (f := fun k => some (s, 0, h)) (fun k => ?_) (Ev.now _)⟩
        simp only [spec_l01New.l0]
        rw [if_pos e, if_neg e2]
    · refine ⟨h, Ev.step (f := fun k => some (s, 0, h)) (fun k => ?_) (Ev.now _)⟩
      simp only [spec_l01New.l0]
      rw [if_neg e]
theorem spec_l01New_ev (s : List Int) (hs : s.length ≤ 140737488355328) : ∃ h, Ev (fun k => spec_l01New.f k s) (s, 0, h) := by
  unfold spec_l01New.f
  exact spec_l01New_l0 s hs 4000 0 _ (by omega) (by omega)
theorem spec_DrawVarText_ev (s : List Int) (hs : s.length ≤ 140737488355328) : ∃ t, Ev (fun k => spec_DrawVarText.f k s) t := by
  obtain ⟨h, hh⟩ := spec_l01New_ev s hs
  obtain ⟨r, a1, b1, e1, d1⟩ := spec_l01Number_is s hs 0 h ⟨by omega, by omega⟩
  unfold spec_DrawVarText.f
  exact ⟨r, Ev.bind hh (Ev.bind0 e1 (Ev.now _))⟩
theorem impl_VarText_l0 : ∀ (n : Nat) (acc : List Int), acc.length + n < 140737488355328 → Ev (fun k => impl_VarText.l0 k (n : Int) acc) (strOfNums (acc ++ varL n), true) := by
  intro n
  induction n using Nat.strongRecOn with
  | _ n ih =>
    intro acc ha
    by_cases h : 127 < n
    · refine Ev.step (f := fun k => impl_VarText.l0 k ((n / 128 : Nat) : Int) (acc ++ [((n % 128 + 128 : Nat) : Int)])) (fun k => ?_) ?_
      · simp only [impl_VarText.l0]
        rw [if_pos (by omega), if_pos (by omega), td (by omega), tm (by omega)]
        rw [w64 (x := (n : Int) / 128) (by omega) (by omega), w64 (x := (n : Int) % 128 + 128) (by omega) (by omega)]
        congr 3
        omega
      · refine (ih (n / 128) (by omega) _ (by simp; omega)).eq ?_
        rw [varL_big h, List.append_assoc]; rfl
    · refine Ev.step (f := fun k => some (strOfNums (acc ++ varL n), true)) (fun k => ?_) (Ev.now _)
      simp only [impl_VarText.l0]
      rw [if_neg (by omega), if_pos (by omega), varL_small h]
      congr 5
      omega
theorem impl_VarText_ev (n : Int) : Ev (fun k => impl_VarText.f k n) (varText n) := by
  unfold impl_VarText.f
  refine Ev.bind0 (impl_within_is _ _ _) ?_
  by_cases h : 0 ≤ n ∧ n ≤ 1000000000
  · refine Ev.pos (inR_iff.2 h) ?_
    have := impl_VarText_l0 n.toNat [] (by simp; omega)
    rw [Int.toNat_of_nonneg h.1] at this
    refine this.eq ?_
    rw [varText, if_pos h]; rfl
  · refine Ev.neg (fun e => h (inR_iff.1 e)) (Ev.is ?_)
    rw [varText, if_neg h]
theorem impl_ReadVar_l0 (s : ByteArray) (hs : s.size ≤ 140737488351232) (a : Nat) : ∀ (f i n : Nat), i + f = 5 → n < 128 ^ i → a + i ≤ s.size →
    Ev (fun k => impl_ReadVar.l0 k s (a : Int) (n : Int) (i : Int))
      (match rvL f i n ((bytesOf s).drop (a + i)) with | some (n, m) => ((n : Int), (a : Int) + m, true) | none => (0, 0, false))
  | 0, i, n, hi, hn, h1 => by
    refine Ev.step (f := fun k => impl_ReadVar.j1 k s (a : Int) (n : Int) (i : Int) false) (fun k => ?_) ?_
    · simp only [impl_ReadVar.l0]
      rw [if_neg (by omega)]
    · refine Ev.step (f := fun _ => some (0, 0, false)) (fun k => ?_) (Ev.now _)
      simp only [impl_ReadVar.j1]; rfl
  | f + 1, i, n, hi, hn, h1 => by
    by_cases hlt : a + i < s.size
    · have hr := bt_range s ((a + i : Nat) : Int)
      have hp := pow_bound (i := i) (by omega)
      have hm := mul_bound (bt s ((a + i : Nat) : Int)).toNat (128 ^ i) hp.1
      have ei : (a : Int) + (i : Int) = ((a + i : Nat) : Int) := by omega
      rw [bytes_drop hlt]
      refine Ev.step (f := fun k => impl_ReadVar.j1 k s (a : Int) (n : Int) (i : Int) true) (fun k => ?_) ?_
      · simp only [impl_ReadVar.l0]
        rw [if_pos (by omega), w64 (x := (a : Int) + i) (by omega) (by omega)]
        rw [show decide ((a : Int) + i < (s.size : Int)) = true from by simp; omega]
      have hb : wrap64 (bt s ((a + i : Nat) : Int)) = bt s ((a + i : Nat) : Int) := w64 (by omega) (by omega)
      have e0 : shl .i64 (Int.tmod (bt s ((a + i : Nat) : Int)) 128) (7 * (i : Int)) = (((bt s ((a + i : Nat) : Int)).toNat % 128 * 128 ^ i : Nat) : Int) := by
        unfold shl
        rw [tm (by omega), i64_w, show (7 * (i : Int)).toNat = 7 * i from by omega, show min (7 * i) IntKind.i64.bits = 7 * i from by simp [IntKind.bits]; omega]
        have e7 : (2 : Int) ^ (7 * i) = ((128 ^ i : Nat) : Int) := by
          rw [show (128 : Nat) = 2 ^ 7 from rfl, ← Nat.pow_mul]; simp
        rw [e7, Int.natCast_mul, w64]
        · congr 1; omega
        · have := Int.mul_nonneg (a := bt s ((a + i : Nat) : Int) % 128) (b := ((128 ^ i : Nat) : Int)) (by omega) (by omega)
          omega
        · have e8 : bt s ((a + i : Nat) : Int) % 128 = (((bt s ((a + i : Nat) : Int)).toNat % 128 : Nat) : Int) := by omega
          rw [e8, ← Int.natCast_mul]; omega
      generalize hc : (bt s ((a + i : Nat) : Int)).toNat % 128 * 128 ^ i = q at *
      have e2 : wrap64 ((n : Int) + shl .i64 (Int.tmod (wrap64 (bt s ((a + i : Nat) : Int))) 128) (wrap64 (7 * (i : Int)))) = ((n + q : Nat) : Int) := by
        rw [hb, w64 (x := 7 * (i : Int)) (by omega) (by omega), e0, w64 (by omega) (by omega)]; omega
      by_cases hb' : bt s ((a + i : Nat) : Int) < 128
      · simp only [rvL, if_pos hb', hc]
        refine Ev.step (f := fun k => (impl_VarText.f k ((n + q : Nat) : Int)).bind fun bt => (if bt.2 = true then (if (bt.1.size : Int) = (i : Int) + 1 then some (((n + q : Nat) : Int), ((a + i + 1 : Nat) : Int), true) else some (0, 0, false)) else some (0, 0, false))) (fun k => ?_) ?_
        · simp only [impl_ReadVar.j1, if_true]
          rw [w64 (x := (a : Int) + i) (by omega) (by omega), ei, if_pos (by omega), if_pos (by omega), if_pos (by rw [w64 (by omega) (by omega)]; omega), hb, if_pos hb']
          rw [hb] at e2
          rw [e2, w64 (x := (i : Int) + 1) (by omega) (by omega), w64 (x := ((a + i : Nat) : Int) + 1) (by omega) (by omega)]
          rfl
        · refine Ev.bind (impl_VarText_ev _) (Ev.is ?_)
          by_cases hM : n + q ≤ 1000000000
          · rw [varText_ok (by omega) (by omega), Int.toNat_natCast]
            simp only [if_true, vt_size]
            by_cases hq : (varL (n + q)).length = i + 1
            · rw [if_pos (by omega), if_pos ⟨hM, hq⟩]
              simp only [Option.some.injEq, Prod.mk.injEq, and_true, true_and]; omega
            · rw [if_neg (by omega), if_neg (fun e => hq e.2)]
          · rw [varText_no (by omega), if_neg (c := _ ∧ _) (fun e => hM e.1)]; simp
      · simp only [rvL, if_neg hb', hc]
        refine Ev.step (f := fun k => impl_ReadVar.l0 k s (a : Int) ((n + q : Nat) : Int) ((i + 1 : Nat) : Int)) (fun k => ?_) (impl_ReadVar_l0 s hs a f (i + 1) (n + q) (by omega) ?_ (by omega))
        · simp only [impl_ReadVar.j1, if_true]
          rw [w64 (x := (a : Int) + i) (by omega) (by omega), ei, if_pos (by omega), if_pos (by omega), if_pos (by rw [w64 (by omega) (by omega)]; omega), hb, if_neg hb']
          rw [hb] at e2
          rw [e2, w64 (x := (i : Int) + 1) (by omega) (by omega)]
          rfl
        · rw [Nat.pow_succ, ← hc]
          have h2 : (bt s ((a + i : Nat) : Int)).toNat % 128 ≤ 127 := by omega
          have h3 := Nat.mul_le_mul_right (128 ^ i) h2
          omega
    · rw [List.drop_of_length_le (by rw [bytesOf_length]; omega)]
      refine Ev.step (f := fun k => impl_ReadVar.j1 k s (a : Int) (n : Int) (i : Int) false) (fun k => ?_) ?_
      · simp only [impl_ReadVar.l0]
        rw [if_pos (by omega), w64 (x := (a : Int) + i) (by omega) (by omega)]
        rw [show decide ((a : Int) + i < (s.size : Int)) = false from by simp; omega]
      · refine Ev.step (f := fun _ => some (0, 0, false)) (fun k => ?_) (Ev.now _)
        simp only [impl_ReadVar.j1]; rfl
theorem impl_ReadVar_ev (s : ByteArray) (hs : s.size ≤ 140737488351232) (a : Int) : Ev (fun k => impl_ReadVar.f k s a) (readVar s a) := by
  unfold impl_ReadVar.f readVar
  refine Ev.bind0 (impl_within_is _ _ _) ?_
  by_cases h : 0 ≤ a ∧ a ≤ (s.size : Int)
  · rw [if_pos h]
    refine Ev.pos (inR_iff.2 h) ?_
    have := impl_ReadVar_l0 s hs a.toNat 5 0 0 rfl (by simp) (by omega)
    simp only [Nat.add_zero, Int.toNat_of_nonneg h.1] at this
    exact this
  · rw [if_neg h]
    exact Ev.neg (fun e => h (inR_iff.1 e)) (Ev.now _)
theorem spec_l01Once_is (s : List Int) (hs : s.length ≤ 140737488355328) (i h n : Int) (hd : DR s i) (hn : 0 < n ∧ n ≤ 1000000000) : ∃ r i' h', spec_l01Once.f s i h n = some (r, i', h') ∧ DR s i' := by
  obtain ⟨x, i1, h1, e1, hx, d1⟩ := spec_l01Below_is s hs i h n hd hn
  unfold spec_l01Once.f
  rw [e1, Option.bind_some]
  exact ⟨_, _, _, rfl, d1⟩
theorem spec_l01Long_l0 (n x : Int) (hn : 0 ≤ n ∧ n ≤ 100000) : ∀ (d : Nat) (acc : List Int) (i : Int), 0 ≤ i → n ≤ i + d → i ≤ n → acc.length = n.toNat → ∃ t, Ev (fun k => spec_l01Long.l0 k n x acc i) t
  | 0, acc, i, h0, h1, h2, h3 => by
    refine ⟨_, Ev.step (f := fun k => some (strOfNums acc)) (fun k => ?_) (Ev.now _)⟩
    simp only [spec_l01Long.l0]
    rw [if_neg (by omega)]
  | d + 1, acc, i, h0, h1, h2, h3 => by
    by_cases e : i < n
    · obtain ⟨t, ht⟩ := spec_l01Long_l0 n x hn d (acc.set i.toNat x) (i + 1) (by omega) (by omega) (by omega) (by simpa using h3)
      refine ⟨t, Ev.step (f := fun k => spec_l01Long.l0 k n x (acc.set i.toNat x) (i + 1)) (fun k => ?_) ht⟩
      simp only [spec_l01Long.l0]
      rw [if_pos e, if_pos h0, if_pos (by omega), w64 (x := i + 1) (by omega) (by omega)]
    · refine ⟨_, Ev.step (f := fun k => some (strOfNums acc)) (fun k => ?_) (Ev.now _)⟩
      simp only [spec_l01Long.l0]
      rw [if_neg e]
theorem spec_l01Long_ev (n x : Int) (hn : 0 ≤ n ∧ n ≤ 100000) : ∃ t, Ev (fun k => spec_l01Long.f k n x) t := by
  obtain ⟨t, ht⟩ := spec_l01Long_l0 n x hn n.toNat (List.replicate n.toNat 0) 0 (by omega) (by omega) (by omega) (by simp)
  refine ⟨t, ?_⟩
  unfold spec_l01Long.f
  exact Ev.pos hn.1 (Ev.pos (by omega) ht)
theorem spec_l01Text_l0 (s : List Int) (hs : s.length ≤ 140737488355328) (n : Int) : ∀ (d : Nat) (acc : List Int) (i a b : Int), 0 ≤ i → i ≤ 5000 → n ≤ i + d → n ≤ 5000 → acc.length ≤ i → DR s a → ∃ t a' b', Ev (fun k => spec_l01Text.l0 k n acc i s a b) (t, a', b') ∧ DR s a'
  | 0, acc, i, a, b, h0, h1, h2, h3, h4, hd => by
    refine ⟨_, _, _, Ev.step (f := fun k => some (strOfNums acc, a, b)) (fun k => ?_) (Ev.now _), hd⟩
    simp only [spec_l01Text.l0]
    rw [if_neg (by omega)]
  | d + 1, acc, i, a, b, h0, h1, h2, h3, h4, hd => by
    by_cases e : i < n
    · obtain ⟨x, a1, b1, e1, hx, d1⟩ := spec_l01Byte_is s hs a b hd
      obtain ⟨t, a', b', ht, d2⟩ := spec_l01Text_l0 s hs n d (acc ++ [x % 256]) (i + 1) a1 b1 (by omega) (by omega) (by omega) h3 (by simp; omega) d1
      refine ⟨t, a', b', Ev.step (f := fun k => spec_l01Text.l0 k n (acc ++ [x % 256]) (i + 1) s a1 b1) (fun k => ?_) ht, d2⟩
      simp only [spec_l01Text.l0]
      rw [if_pos e, e1, Option.bind_some, if_pos (by omega), w64 (x := i + 1) (by omega) (by omega)]
    · refine ⟨_, _, _, Ev.step (f := fun k => some (strOfNums acc, a, b)) (fun k => ?_) (Ev.now _), hd⟩
      simp only [spec_l01Text.l0]
      rw [if_neg e]
theorem spec_l01Text_ev (s : List Int) (hs : s.length ≤ 140737488355328) (a b n : Int) (hn : n ≤ 5000) (hd : DR s a) : ∃ t a' b', Ev (fun k => spec_l01Text.f k s a b n) (t, a', b') ∧ DR s a' := by
  obtain ⟨t, a', b', ht, d2⟩ := spec_l01Text_l0 s hs n 5000 [] 0 a b (by omega) (by omega) (by omega) hn (by simp) hd
  refine ⟨t, a', b', ?_, d2⟩
  unfold spec_l01Text.f
  exact Ev.neg (by omega) (Ev.step (f := fun k => spec_l01Text.l0 k n [] 0 s a b) (fun k => by simp only [spec_l01Text.j0]) ht)
theorem spec_DrawHex_ev (s : List Int) (hs : s.length ≤ 140737488355328) : ∃ t, Ev (fun k => spec_DrawHex.f k s) t := by
  obtain ⟨h, hh⟩ := spec_l01New_ev s hs
  obtain ⟨r, a1, b1, e1, d1⟩ := spec_l01Once_is s hs 0 h 60 ⟨by omega, by omega⟩ (by omega)
  unfold spec_DrawHex.f
  cases r with
  | true =>
    obtain ⟨x, a2, b2, e2, hx, d2⟩ := spec_l01Below_is s hs a1 b1 2 d1 (by omega)
    obtain ⟨t, ht⟩ := spec_l01Long_ev (wrap64 (20000 + x)) 200 (by rw [w64 (by omega) (by omega)]; omega)
    exact ⟨t, Ev.bind hh (Ev.bind0 e1 (Ev.pos rfl (Ev.bind0 e2 (Ev.bind ht (Ev.now _)))))⟩
  | false =>
    obtain ⟨x, a2, b2, e2, hx, d2⟩ := spec_l01Below_is s hs a1 b1 30 d1 (by omega)
    obtain ⟨t, a', b', ht, d3⟩ := spec_l01Text_ev s hs a2 b2 x (by omega) d2
    exact ⟨t, Ev.bind hh (Ev.bind0 e1 (Ev.neg (by simp) (Ev.bind0 e2 (Ev.bind ht (Ev.now _)))))⟩
theorem impl_ShortText_ev (s : ByteArray) : Ev (fun k => impl_ShortText.f k s) (shortText s) := by
  unfold impl_ShortText.f shortText
  by_cases h : s.size ≤ 20000
  · rw [if_pos h]
    refine Ev.neg (by omega) (Ev.bind (impl_VarText_ev (s.size : Int)) (Ev.is ?_))
    have := vt_size5 s.size (by omega)
    rw [varText_ok (by omega) (by omega), Int.toNat_natCast]
    simp only
    rw [if_pos (by omega)]
  · rw [if_neg h]; exact Ev.pos (by omega) (Ev.now _)
theorem impl_ReadShort_ev (s : ByteArray) (hs : s.size ≤ 140737488351232) (a : Int) : Ev (fun k => impl_ReadShort.f k s a) (readShort s a) := by
  unfold impl_ReadShort.f readShort
  refine Ev.bind (impl_ReadVar_ev s hs a) (Ev.is ?_)
  rcases readVar_cases s a with h | ⟨n, m, h, hn, hm, ha, hb, _⟩
  · rw [h]; rfl
  · rw [h]
    simp only [if_true, true_and]
    rw [w64 (x := (s.size : Int) - (a + m)) (by omega) (by omega), w64 (x := a + (m : Int) + n) (by omega) (by omega)]
    by_cases h1 : (n : Int) ≤ 20000
    · by_cases h2 : (n : Int) ≤ (s.size : Int) - (a + m)
      · rw [if_neg (by omega), if_neg (by omega), if_pos (by omega), if_pos (by omega), if_pos (by omega), if_pos ⟨h1, h2⟩]
      · rw [if_neg (by omega), if_pos (by omega), if_neg (fun e => h2 e.2)]
    · rw [if_pos (by omega), if_neg (fun e => h1 e.1)]
theorem impl_Hex_l0 (s : ByteArray) (hs : s.size ≤ 20000) : ∀ (d i : Nat) (acc : List Int), i + d = s.size → acc.length ≤ 2 * i →
    Ev (fun k => impl_Hex.l0 k s acc (i : Int)) (strOfNums (acc ++ hexL ((bytesOf s).drop i)), true)
  | 0, i, acc, h, ha => by
    refine Ev.step (f := fun k => some (strOfNums acc, true)) (fun k => ?_) ((Ev.now _).eq ?_)
    · simp only [impl_Hex.l0]; rw [if_neg (by omega)]
    · rw [List.drop_of_length_le (by rw [bytesOf_length]; omega)]; simp [hexL]
  | d + 1, i, acc, h, ha => by
    have hr := bt_range s (i : Int)
    refine Ev.step (f := fun k => impl_Hex.l0 k s (acc ++ [fig (bt s i / 16), fig (bt s i % 16)]) ((i + 1 : Nat) : Int)) (fun k => ?_) ((impl_Hex_l0 s hs d (i + 1) _ (by omega) (by simp; omega)).eq ?_)
    · simp only [impl_Hex.l0]
      rw [if_pos (by omega), if_pos (by omega), td (by omega), tm (by omega), show bt s i / 16 % 256 = bt s i / 16 from by omega]
      rw [if_pos (by omega), if_pos (by omega), if_pos (by omega), if_pos (by omega), figs_at _ (by omega) (by omega), figs_at _ (by omega) (by omega)]
      simp only [Option.bind_some]
      rw [if_pos (by simp; omega), w64 (x := (i : Int) + 1) (by omega) (by omega)]
      rfl
    · rw [bytes_drop (s := s) (i := i) (by omega)]; simp [hexL]
theorem impl_Hex_ev (s : ByteArray) : Ev (fun k => impl_Hex.f k s) (hexT s) := by
  unfold impl_Hex.f hexT
  by_cases h : s.size ≤ 20000
  · rw [if_pos h]
    refine Ev.neg (by omega) ?_
    exact impl_Hex_l0 s h s.size 0 [] (by omega) (by simp)
  · rw [if_neg h]; exact Ev.pos (by omega) (Ev.now _)



theorem impl_Unhex_l0 (s : ByteArray) (hs : s.size ≤ 40000) (he : s.size % 2 = 0) : ∀ (d i : Nat) (acc : List Int) (half : Int), 2 * i + 2 * d = s.size → acc.length ≤ i →
    Ev (fun k => impl_Unhex.l0 k s acc half ((2 * i : Nat) : Int)) (unhexF acc ((bytesOf s).drop (2 * i)))
  | 0, i, acc, half, h, ha => by
    refine Ev.step (f := fun k => some (strOfNums acc, true)) (fun k => ?_) ((Ev.now _).eq ?_)
    · simp only [impl_Unhex.l0]; rw [if_neg (by omega)]
    · rw [List.drop_of_length_le (by rw [bytesOf_length]; omega)]; simp [unhexF]
  | d + 1, i, acc, half, h, ha => by
    have hr := bt_range s ((2 * i : Nat) : Int)
    have hr1 := bt_range s ((2 * i + 1 : Nat) : Int)
    have v0 := figV_range (bt s ((2 * i : Nat) : Int))
    have v1 := figV_range (bt s ((2 * i + 1 : Nat) : Int))
    have ew : wrap64 (((2 * i : Nat) : Int) + 1) = ((2 * i + 1 : Nat) : Int) := by rw [w64 (by omega) (by omega)]; omega
    have ew2 : wrap64 (((2 * i + 1 : Nat) : Int) + 1) = ((2 * (i + 1) : Nat) : Int) := by rw [w64 (by omega) (by omega)]; omega
    rw [bytes_drop (s := s) (i := 2 * i) (by omega), bytes_drop (s := s) (i := 2 * i + 1) (by omega)]
    simp only [unhexF]
    by_cases h0 : figV (bt s ((2 * i : Nat) : Int)) < 0
    · refine Ev.step (f := fun k => some ((⟨#[]⟩ : ByteArray), false)) (fun k => ?_) ((Ev.now _).eq (by rw [if_neg (by omega)]))
      simp only [impl_Unhex.l0, strings_IndexByte.f]
      rw [if_pos (by omega), if_pos (by omega), figs_index _ hr.1 (by omega)]
      simp only [Option.bind_some, if_pos h0]
    · refine Ev.step (f := fun k => impl_Unhex.l0 k s acc (figV (bt s ((2 * i : Nat) : Int))) ((2 * i + 1 : Nat) : Int)) (fun k => ?_) ?_
      · simp only [impl_Unhex.l0, strings_IndexByte.f]
        rw [if_pos (by omega), if_pos (by omega), figs_index _ hr.1 (by omega)]
        simp only [Option.bind_some, if_neg h0]
        rw [if_neg (by rw [tm (by omega)]; omega), ew]
      · by_cases h1 : figV (bt s ((2 * i + 1 : Nat) : Int)) < 0
        · refine Ev.step (f := fun k => some ((⟨#[]⟩ : ByteArray), false)) (fun k => ?_) ((Ev.now _).eq (by rw [if_neg (by omega)]))
          simp only [impl_Unhex.l0, strings_IndexByte.f]
          rw [if_pos (by omega), if_pos (by omega), figs_index _ hr1.1 (by omega)]
          simp only [Option.bind_some, if_pos h1]
        · rw [if_pos ⟨by omega, by omega⟩]
          refine Ev.step (f := fun k => impl_Unhex.l0 k s (acc ++ [16 * figV (bt s ((2 * i : Nat) : Int)) + figV (bt s ((2 * i + 1 : Nat) : Int))]) (figV (bt s ((2 * i + 1 : Nat) : Int))) ((2 * (i + 1) : Nat) : Int)) (fun k => ?_) (impl_Unhex_l0 s hs he d (i + 1) _ _ (by omega) (by simp; omega))
          simp only [impl_Unhex.l0, strings_IndexByte.f]
          rw [if_pos (by omega), if_pos (by omega), figs_index _ hr1.1 (by omega)]
          simp only [Option.bind_some, if_neg h1]
          rw [if_pos (by rw [tm (by omega)]; omega), if_pos (by omega), ew2, w64 (x := 16 * _) (by omega) (by omega), w64 (by omega) (by omega), Int.emod_eq_of_lt (by omega) (by omega)]
theorem impl_Unhex_ev (s : ByteArray) : Ev (fun k => impl_Unhex.f k s) (unhexT s) := by
  unfold impl_Unhex.f unhexT
  by_cases he : s.size % 2 = 0
  · refine Ev.neg (by omega) ?_
    by_cases h : s.size ≤ 40000
    · rw [if_pos ⟨h, he⟩, show decide ((s.size : Int) > 40000) = false from by simp; omega]
      refine Ev.step (f := fun k => impl_Unhex.l0 k s [] 0 0) (fun k => by simp only [impl_Unhex.j0]; rfl) ?_
      have := impl_Unhex_l0 s h he (s.size / 2) 0 [] 0 (by omega) (by simp)
      simpa using this
    · rw [if_neg (fun e => h e.1), show decide ((s.size : Int) > 40000) = true from by simp; omega]
      exact Ev.step (fun k => rfl) (Ev.now _)
  · rw [if_neg (fun e => he e.2)]
    exact Ev.pos (by omega) (Ev.step (fun k => rfl) (Ev.now _))
/-! the bytes of a number, read -/
theorem varL_parts (n : Nat) : ∀ (p : List Int) (c : Int) (q : List Int), varL n = p ++ c :: q → (q = [] → 0 ≤ c ∧ c < 128) ∧ (q ≠ [] → 128 ≤ c ∧ c < 256) := by
  induction n using Nat.strongRecOn with
  | _ n ih =>
    intro p c q h
    by_cases hn : 127 < n
    · rw [varL_big hn] at h
      cases p with
      | nil =>
        simp only [List.nil_append, List.cons.injEq] at h
        have hq : q ≠ [] := by
          intro e
          have := varL_pos (n / 128)
          rw [h.2, e] at this
          simp at this
        exact ⟨fun e => absurd e hq, fun _ => by omega⟩
      | cons a p =>
        simp only [List.cons_append, List.cons.injEq] at h
        exact ih (n / 128) (by omega) p c q h.2
    · rw [varL_small hn] at h
      cases p with
      | nil =>
        simp only [List.nil_append, List.cons.injEq] at h
        exact ⟨fun _ => by omega, fun e => absurd h.2.symm e⟩
      | cons a p => simp at h
theorem rvL_varL (n : Nat) (hn : n ≤ 1000000000) (rest : List Int) : ∀ (q p : List Int) (f : Nat), varL n = p ++ q → q ≠ [] → q.length ≤ f → rvL f p.length (valL p) (q ++ rest) = some (n, (varL n).length)
  | [], _, _, _, h, _ => absurd rfl h
  | c :: q, p, 0, _, _, hf => by simp at hf
  | c :: q, p, f + 1, h, _, hf => by
    have hc := varL_parts n p c q h
    simp only [List.cons_append, rvL]
    rw [← valL_snoc]
    by_cases hq : q = []
    · subst hq
      have hv : valL (p ++ [c]) = n := by rw [← h, valL_varL]
      rw [if_pos (hc.1 rfl).2, hv, if_pos ⟨hn, by rw [h]; simp⟩, h]
      simp
    · have h1 := hc.2 hq
      rw [if_neg (by omega)]
      have := rvL_varL n hn rest q (p ++ [c]) f (by rw [h]; simp) hq (by simpa using hf)
      rw [List.length_append] at this
      exact this
theorem rvar_varL (n : Nat) (hn : n ≤ 1000000000) (rest : List Int) : rvar (varL n ++ rest) = some (n, (varL n).length) := by
  have hl := varL_len n 4 (by omega)
  exact rvL_varL n hn rest (varL n) [] 5 rfl (by intro e; have := varL_pos n; rw [e] at this; simp at this) hl
theorem rvL_none : ∀ (f i n : Nat) (l : List Int), (∀ x ∈ l, 128 ≤ x) → rvL f i n l = none
  | 0, _, _, _, _ => rfl
  | _ + 1, _, _, [], _ => rfl
  | f + 1, i, n, c :: l, h => by
    have hc := h c (by simp)
    simp only [rvL]
    rw [if_neg (by omega)]
    exact rvL_none f _ _ l (fun x hx => h x (by simp [hx]))
theorem varL_head (n j : Nat) (h : j < (varL n).length) : ∀ x ∈ (varL n).take j, 128 ≤ x := by
  intro x hx
  obtain ⟨p, q, e⟩ := List.append_of_mem hx
  have e2 : varL n = p ++ x :: (q ++ (varL n).drop j) :=
    calc varL n = (varL n).take j ++ (varL n).drop j := (List.take_append_drop j _).symm
      _ = p ++ x :: (q ++ (varL n).drop j) := by rw [e]; simp
  refine ((varL_parts n p x _ e2).2 ?_).1
  intro e3
  have : ((varL n).drop j).length = 0 := by rw [List.append_eq_nil_iff.1 e3 |>.2]; rfl
  rw [List.length_drop] at this
  omega
/-! frames, one behind the other -/
def fr (t : ByteArray) : ByteArray := vt t.size ++ four (sumOf t) ++ t
def cat : List ByteArray → ByteArray
  | [] => ⟨#[]⟩
  | t :: l => fr t ++ cat l
def fits : List ByteArray → Nat → Nat
  | [], _ => 0
  | t :: l, j => if (fr t).size ≤ j then fits l (j - (fr t).size) + 1 else 0
theorem frame_fr {t : ByteArray} (h : 1 ≤ t.size ∧ t.size ≤ 9000) : frame t = (fr t, true) := by rw [frame, if_pos h]; rfl
theorem fr_size (t : ByteArray) : (fr t).size = (varL t.size).length + 4 + t.size := by
  unfold fr; rw [size_append, size_append, vt_size, four_size]
theorem bytes_fr (t : ByteArray) : bytesOf (fr t) = varL t.size ++ (fourL (sumOf t) ++ bytesOf t) := by
  unfold fr; rw [bytes_append, bytes_append, bytes_vt, bytes_four, List.append_assoc]
theorem extract_bytes_eq {s t : ByteArray} {a b : Nat} (h : ((bytesOf s).drop a).take (b - a) = bytesOf t) : s.extract a b = t := bytes_inj (by rw [bytes_extract]; exact h)
theorem next_fit (P t R : ByteArray) (k : Nat) (ht : 1 ≤ t.size ∧ t.size ≤ 9000) (hk : P.size + (fr t).size ≤ k) (hk2 : k ≤ (P ++ (fr t ++ R)).size) :
    nextF ((P ++ (fr t ++ R)).extract 0 k) P.size = some (t, P.size + (fr t).size) := by
  have hs : ((P ++ (fr t ++ R)).extract 0 k).size = k := by rw [size_extract _ _ _ (by omega) hk2]; omega
  have hb : (bytesOf ((P ++ (fr t ++ R)).extract 0 k)).drop P.size = varL t.size ++ ((fourL (sumOf t) ++ bytesOf t) ++ (bytesOf R).take (k - P.size - (fr t).size)) := by
    rw [bytes_extract, List.drop_zero, Nat.sub_zero, bytes_append, bytes_append, List.drop_take, List.drop_append_of_le_length (by rw [bytesOf_length]; exact Nat.le_refl _), List.drop_of_length_le (by rw [bytesOf_length]; exact Nat.le_refl _), List.nil_append, List.take_append, List.take_of_length_le (by rw [bytesOf_length]; omega), bytesOf_length, bytes_fr, List.append_assoc]
  have hf := fr_size t
  unfold nextF
  rw [hb, rvar_varL _ (by omega)]
  simp only
  rw [if_pos (by rw [hs]; omega)]
  have e1 : ((P ++ (fr t ++ R)).extract 0 k).extract (P.size + (varL t.size).length + 4) (P.size + (varL t.size).length + 4 + t.size) = t := by
    apply extract_bytes_eq
    rw [show (P.size + (varL t.size).length + 4 + t.size - (P.size + (varL t.size).length + 4)) = t.size from by omega, show P.size + (varL t.size).length + 4 = P.size + ((varL t.size).length + 4) from by omega, ← List.drop_drop, hb]
    have hl : (fourL (sumOf t)).length = 4 := rfl
    rw [← List.append_assoc, ← List.append_assoc, List.append_assoc (varL t.size ++ fourL (sumOf t)), List.drop_left' (by rw [List.length_append, hl])]
    rw [List.take_left' (by rw [bytesOf_length])]
  have e2 : ((P ++ (fr t ++ R)).extract 0 k).extract P.size (P.size + (varL t.size).length + 4 + t.size) = fr t := by
    apply extract_bytes_eq
    rw [hb, bytes_fr, ← List.append_assoc, List.take_left' (by rw [← bytes_fr, bytesOf_length, hf]; omega)]
  rw [e1, e2, frame_fr ht, if_pos ⟨rfl, rfl⟩, hf]
  congr 2; omega
theorem next_short (P t R : ByteArray) (k : Nat) (ht : t.size ≤ 9000) (h0 : P.size ≤ k) (hk : k < P.size + (fr t).size) :
    nextF ((P ++ (fr t ++ R)).extract 0 k) P.size = none := by
  have hf := fr_size t
  have hs : ((P ++ (fr t ++ R)).extract 0 k).size = k := by rw [size_extract _ _ _ (by omega) (by simp only [size_append]; omega)]; omega
  have hb : (bytesOf ((P ++ (fr t ++ R)).extract 0 k)).drop P.size = (varL t.size ++ (fourL (sumOf t) ++ bytesOf t)).take (k - P.size) := by
    rw [bytes_extract, List.drop_zero, Nat.sub_zero, bytes_append, bytes_append, List.drop_take, List.drop_append_of_le_length (by rw [bytesOf_length]; exact Nat.le_refl _), List.drop_of_length_le (by rw [bytesOf_length]; exact Nat.le_refl _), List.nil_append, List.take_append_of_le_length (by rw [bytesOf_length]; omega), bytes_fr]
  unfold nextF
  rw [hb]
  by_cases hj : k - P.size < (varL t.size).length
  · rw [List.take_append_of_le_length (by omega)]
    have : rvar ((varL t.size).take (k - P.size)) = none := rvL_none 5 0 0 _ (varL_head _ _ hj)
    rw [this]
  · rw [List.take_append, List.take_of_length_le (by omega), rvar_varL _ (by omega)]
    simp only
    rw [if_neg (by rw [hs]; omega)]
theorem unf_cut : ∀ (l : List ByteArray) (f : Nat) (P : ByteArray) (acc : List ByteArray) (k : Nat), (∀ t ∈ l, 1 ≤ t.size ∧ t.size ≤ 9000) → P.size ≤ k → k ≤ (P ++ cat l).size → k ≤ P.size + f →
    unf f ((P ++ cat l).extract 0 k) acc P.size = (acc ++ l.take (fits l (k - P.size)), P.size + (cat (l.take (fits l (k - P.size)))).size)
  | [], f, P, acc, k, _, h0, h1, h2 => by
    have hk : k = P.size := by simp only [cat, append_nil] at h1; omega
    have hn : nextF ((P ++ cat []).extract 0 k) P.size = none := by
      unfold nextF
      rw [List.drop_of_length_le (by rw [bytesOf_length, size_extract _ _ _ (by omega) h1]; omega)]
      rfl
    have hc : (cat []).size = 0 := rfl
    cases f with
    | zero => simp [unf, hc]
    | succ f => simp only [unf, hn]; simp [hc]
  | t :: l, f, P, acc, k, ht, h0, h1, h2 => by
    have hf := fr_size t
    have h1t := ht t (by simp)
    by_cases hk : (fr t).size ≤ k - P.size
    · cases f with
      | zero => omega
      | succ f =>
        simp only [unf]
        rw [show cat (t :: l) = fr t ++ cat l from rfl] at h1 ⊢
        rw [next_fit P t (cat l) k h1t (by omega) h1]
        simp only [fits]
        rw [if_pos hk]
        have ih := unf_cut l f (P ++ fr t) (acc ++ [t]) k (fun x hx => ht x (by simp [hx])) (by rw [size_append]; omega) (by rw [append_assoc]; exact h1) (by rw [size_append]; omega)
        rw [append_assoc, size_append] at ih
        rw [ih, show k - (P.size + (fr t).size) = k - P.size - (fr t).size from by omega, List.take_succ_cons, show cat (t :: l.take (fits l (k - P.size - (fr t).size))) = fr t ++ cat (l.take (fits l (k - P.size - (fr t).size))) from rfl, size_append]
        refine Prod.ext ?_ ?_
        · simp
        · simp only; omega
    · have hn : nextF ((P ++ cat (t :: l)).extract 0 k) P.size = none := next_short P t (cat l) k h1t.2 h0 (by omega)
      simp only [fits]
      rw [if_neg hk]
      have hc : (cat []).size = 0 := rfl
      cases f with
      | zero => simp [unf, hc]
      | succ f => simp only [unf, hn]; simp [hc]
theorem figV_fig (x : Int) (h0 : 0 ≤ x) (h1 : x < 16) : figV (fig x) = x := by
  unfold figV fig
  by_cases h : x < 10
  · rw [if_pos h, if_pos (by omega)]; omega
  · rw [if_neg h, if_neg (by omega), if_pos (by omega)]; omega
theorem unhexF_hexL : ∀ (l acc : List Int), (∀ x ∈ l, 0 ≤ x ∧ x ≤ 255) → unhexF acc (hexL l) = (strOfNums (acc ++ l), true)
  | [], acc, _ => by simp [hexL, unhexF]
  | c :: l, acc, h => by
    have hc := h c (by simp)
    have e1 := figV_fig (c / 16) (by omega) (by omega)
    have e2 := figV_fig (c % 16) (by omega) (by omega)
    have eh : hexL (c :: l) = fig (c / 16) :: fig (c % 16) :: hexL l := rfl
    rw [eh, unhexF, e1, e2, if_pos ⟨by omega, by omega⟩, unhexF_hexL l _ (fun x hx => h x (by simp [hx])), List.append_assoc]
    have e3 : 16 * (c / 16) + c % 16 = c := by omega
    rw [e3]; rfl
theorem hexL_length : ∀ l : List Int, (hexL l).length = 2 * l.length
  | [] => rfl
  | c :: l => by
    have eh : hexL (c :: l) = fig (c / 16) :: fig (c % 16) :: hexL l := rfl
    rw [eh]; simp only [List.length_cons, hexL_length l]; omega
theorem hexL_range (l : List Int) (h : ∀ x ∈ l, 0 ≤ x ∧ x ≤ 255) : ∀ x ∈ hexL l, 0 ≤ x ∧ x ≤ 255 := by
  intro x hx
  simp only [hexL, List.mem_flatMap, List.mem_cons, List.not_mem_nil, or_false] at hx
  obtain ⟨c, hc, e⟩ := hx
  have := h c hc
  have f : ∀ y : Int, 0 ≤ y → y < 16 → 0 ≤ fig y ∧ fig y ≤ 255 := by intro y h0 h1; unfold fig; split <;> omega
  rcases e with rfl | rfl
  · exact f _ (by omega) (by omega)
  · exact f _ (by omega) (by omega)
theorem numbers_j2 (n : Nat) (hn : n ≤ 1000000000) (t : ByteArray) (ht : t.size ≤ 300) :
    Ev (fun k => laws_FnNumbers.j2 k (n : Int) (vt n) true (n : Int) (1 + ((varL n).length : Int)) true (n : Int) true t) true := by
  have hv := vt_size5 n (by omega)
  have hv2 := vt_size5 t.size (by omega)
  have h1 : Ev (fun k => impl_ShortText.f k t) (vt t.size ++ t, true) := (impl_ShortText_ev t).eq (if_pos (by omega))
  have hb : bytesOf (vt t.size ++ t) = varL t.size ++ bytesOf t := by rw [bytes_append, bytes_vt]
  have hr : readVar (vt t.size ++ t) 0 = ((t.size : Int), ((varL t.size).length : Int), true) := by
    unfold readVar
    rw [if_pos ⟨Int.le_refl _, by omega⟩, hb, Int.toNat_zero, List.drop_zero, rvar_varL t.size (by omega)]
    simp only [Int.zero_add]
  have hz : (vt t.size ++ t).size = (varL t.size).length + t.size := by rw [size_append, vt_size]
  have h2 : Ev (fun k => impl_ReadShort.f k (vt t.size ++ t) 0) (t, (((vt t.size ++ t).size : Nat) : Int), true) := by
    refine (impl_ReadShort_ev _ (by rw [hz, ← vt_size]; omega) 0).eq ?_
    unfold readShort
    rw [hr]
    simp only
    rw [if_pos ⟨trivial, by omega, by rw [hz]; omega⟩, hz]
    refine Prod.ext_iff.2 ⟨?_, Prod.ext_iff.2 ⟨by simp only; omega, rfl⟩⟩
    refine extract_bytes_eq ?_
    rw [hb, Int.toNat_natCast, List.drop_left, List.take_of_length_le]
    rw [bytesOf_length]; omega
  have h3 : Ev (fun k => impl_Hex.f k t) (strOfNums (hexL (bytesOf t)), true) := (impl_Hex_ev t).eq (if_pos (by omega))
  have hx : bytesOf (strOfNums (hexL (bytesOf t))) = hexL (bytesOf t) := bytes_str (hexL_range _ (bytes_range t))
  have hxs : (strOfNums (hexL (bytesOf t))).size = 2 * t.size := by rw [str_size, hexL_length, bytesOf_length]
  have h4 : Ev (fun k => impl_Unhex.f k (strOfNums (hexL (bytesOf t)))) (t, true) := by
    refine (impl_Unhex_ev _).eq ?_
    unfold unhexT
    rw [if_pos ⟨by omega, by omega⟩, hx, unhexF_hexL _ _ (bytes_range t), List.nil_append, str_bytes]
  have hw : wrap64 (((vt n).size : Int) + 1) = 1 + ((varL n).length : Int) := by rw [w64 (by omega) (by omega), vt_size]; omega
  refine Ev.step (fun k => rfl) (Ev.bind h1 (Ev.bind h2 (Ev.bind h3 (Ev.bind h4 ?_))))
  simp only [if_true, hw]
  exact (Ev.now _).eq (by simp)
theorem numbers_j1 (l : List Int) (hl : l.length ≤ 1048576) (n : Nat) (hn : n ≤ 1000000000) : Ev (fun k => laws_FnNumbers.j1 k l (n : Int)) true := by
  have hv := vt_size5 n (by omega)
  have h1 : Ev (fun k => impl_VarText.f k (n : Int)) (vt n, true) := (impl_VarText_ev n).eq (by rw [varText_ok (by omega) (by omega)]; rfl)
  have e1 : (⟨#[120]⟩ : ByteArray).size = 1 := rfl
  have e2 : (⟨#[121]⟩ : ByteArray).size = 1 := rfl
  have hz : (((⟨#[120]⟩ : ByteArray) ++ vt n) ++ (⟨#[121]⟩ : ByteArray)).size = 2 + (varL n).length := by rw [size_append, size_append, vt_size, e1, e2]; omega
  have hb : bytesOf (((⟨#[120]⟩ : ByteArray) ++ vt n) ++ (⟨#[121]⟩ : ByteArray)) = 120 :: (varL n ++ [121]) := by
    rw [bytes_append, bytes_append, bytes_vt]; rfl
  have hv' : (varL n).length ≤ 5 := by rw [← vt_size]; exact hv
  have h2 : Ev (fun k => impl_ReadVar.f k (((⟨#[120]⟩ : ByteArray) ++ vt n) ++ (⟨#[121]⟩ : ByteArray)) 1) ((n : Int), 1 + ((varL n).length : Int), true) := by
    refine (impl_ReadVar_ev _ (by omega) 1).eq ?_
    unfold readVar
    rw [if_pos ⟨by omega, by omega⟩, hb, show (1 : Int).toNat = 1 from rfl, List.drop_succ_cons, List.drop_zero, rvar_varL n hn]
  have hs := decS_size (n : Int) (by omega) (by omega)
  have h4 : impl_ReadDecimal.f (decS (n : Int)) = some ((n : Int), true) := by
    rw [impl_ReadDecimal_is _ (by omega), decS_nat]
    unfold rdDec
    rw [dF_decB]; simp only [rdC]
    rw [if_pos ⟨by omega, decS_nat n⟩]
  obtain ⟨t, h5⟩ := spec_DrawHex_ev l (by omega)
  refine Ev.step (fun k => rfl) (Ev.bind h1 (Ev.pos (by simp only; omega) (Ev.pos (by simp only [size_append, e1]; omega) (Ev.bind h2 (Ev.bind0 (impl_Decimal_is _ (by omega) (by omega)) (Ev.bind0 h4 (Ev.bind h5 ?_)))))))
  by_cases ht : (t.size : Int) > 300
  · exact Ev.pos ht (numbers_j2 n hn ⟨#[97, 98, 99]⟩ (by decide))
  · exact Ev.neg ht (numbers_j2 n hn t (by omega))
theorem FnNumbers : laws_FnNumbers.Pure := by
  intro l hl
  apply Ev.rounds
  unfold laws_FnNumbers.f
  refine Ev.bind0 (laws_big_is l) ?_
  by_cases hb : (l.length : Int) > 1048576
  · exact Ev.pos (by simpa using hb) (Ev.now _)
  · refine Ev.neg (by simpa using hb) ?_
    obtain ⟨v, hv⟩ := spec_DrawVarText_ev l (by omega)
    refine Ev.bind hv ?_
    by_cases h0 : v < 0
    · exact Ev.pos h0 (Ev.step (fun k => rfl) (numbers_j1 l (by omega) 12345 (by omega)))
    · refine Ev.neg h0 ?_
      obtain ⟨n, rfl⟩ : ∃ n : Nat, v = n := ⟨v.toNat, by omega⟩
      by_cases h1 : (n : Int) > 1000000000
      · rw [decide_eq_true h1]
        exact Ev.step (fun k => rfl) (numbers_j1 l (by omega) 12345 (by omega))
      · rw [decide_eq_false h1]
        exact Ev.step (fun k => rfl) (numbers_j1 l (by omega) n (by omega))

end Go.Proofs.YtgnmlgoadkhceaaDoor.Pure
