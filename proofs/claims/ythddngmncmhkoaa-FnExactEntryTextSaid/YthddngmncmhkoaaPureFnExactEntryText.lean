/- The law FnExactEntryText answers true at every input; no condition. -/
import Derived.Test.YthddngmncmhkoaaQFnExactEntryTextx3
import Derived.Test.YthddngmncmhkoaaMath
namespace Go.Proofs.Ythddngmncmhkoaa.QFnExactEntryText
open Go.RowKit
/-- What is left to be shown of the law: over numbers, texts and lists alone. -/
def laws_FnExactEntryText.Pure : Prop := ∀ (a0 : Int) (a1_0 : Int) (a1_1 : Int) (a1_2 : ByteArray), (Lit.int .i64 a0).wf = true → ((Lit.int .i64 a1_0).wf = true ∧ (Lit.int .i64 a1_1).wf = true ∧ a1_2.size ≤ maxLen) → ∃ k, laws_FnExactEntryText.f k a0 a1_0 a1_1 a1_2 = some true
end Go.Proofs.Ythddngmncmhkoaa.QFnExactEntryText
namespace Go.Proofs.Ythddngmncmhkoaa.Pure
open Go.RowKit Go.Proofs.Ythddngmncmhkoaa.QFnExactEntryText Go.Proofs.YthddngmncmhkoaaW.PrintWords Go.Proofs.YthddngmncmhkoaaW.PrintLast Go.Proofs.YthddngmncmhkoaaW.PrintMore Go.Proofs.Ythddngmncmhkoaa.M
set_option linter.unusedVariables false
set_option linter.unusedSimpArgs false
set_option maxRecDepth 4000

theorem laws_szEntry_is (a b : Int) (c : ByteArray) (left : Int) (h0 : 0 ≤ left) (h1 : left ≤ 1048576) (hc : c.size ≤ maxLen) :
    ∃ r, laws_szEntry.f a b c left = some r ∧ (r < 0 ∨ 0 ≤ r ∧ r ≤ left ∧ (c.size : Int) ≤ left) := by
  unfold laws_szEntry.f
  simp only [maxLen] at hc
  rw [w64 (x := left - (c.size : Int)) (by omega) (by omega)]
  by_cases h : left - (c.size : Int) < 0
  · exact ⟨-1, by rw [if_pos h], .inl (by omega)⟩
  · exact ⟨_, by rw [if_neg h], .inr (by omega)⟩
theorem spec_l01In_is (a b c : Int) : spec_l01In.f a b c = some (inR a b c) := by
  unfold spec_l01In.f inR
  by_cases h : a ≥ b
  · rw [if_pos h]; congr 1; simp; omega
  · rw [if_neg h]; congr 1; simp; omega
theorem spec_l05Rise_l0 (l : List Int) (hl : l.length ≤ 35184372088832) : ∀ (d i : Nat) (p : Int), i + d = l.length → (i = 0 → p = 0) → (0 < i → p = rd l ((i - 1 : Nat) : Int)) →
    Ev (fun k => spec_l05Rise.l0 k l 1 4 (i : Int)) (riseF p (l.drop i))
  | 0, i, p, h, h0, h1 => by
    refine Ev.step (f := fun k => some true) (fun k => ?_) ((Ev.now _).eq ?_)
    · simp only [spec_l05Rise.l0]; rw [if_neg (by omega)]
    · rw [List.drop_of_length_le (by omega)]; rfl
  | d + 1, i, p, h, h0, h1 => by
    rw [rd_drop (l := l) (by omega)]
    have ih := spec_l05Rise_l0 l hl d (i + 1) (rd l (i : Int)) (by omega) (by omega) (fun _ => by simp)
    by_cases hin : 1 ≤ rd l (i : Int) ∧ rd l (i : Int) ≤ 4
    · by_cases hi : 0 < i
      · have hp := h1 hi
        have ei : wrap64 ((i : Int) - 1) = ((i - 1 : Nat) : Int) := by rw [w64 (by omega) (by omega)]; omega
        by_cases hlt : p < rd l (i : Int)
        · refine Ev.step (f := fun k => spec_l05Rise.l0 k l 1 4 ((i + 1 : Nat) : Int)) (fun k => ?_) (ih.eq ?_)
          · simp only [spec_l05Rise.l0]
            rw [if_pos (by omega), if_pos (by omega), spec_l01In_is, Option.bind_some, if_pos (inR_iff.2 hin), if_pos (by omega), ei, if_pos (by omega), if_pos (by omega), if_neg (by omega)]
            rw [w64 (x := (i : Int) + 1) (by omega) (by omega)]; rfl
          · simp only [riseF]; rw [decide_eq_true ⟨hin.1, hin.2, hlt⟩, Bool.true_and]
        · refine Ev.step (f := fun k => some false) (fun k => ?_) ((Ev.now _).eq ?_)
          · simp only [spec_l05Rise.l0]
            rw [if_pos (by omega), if_pos (by omega), spec_l01In_is, Option.bind_some, if_pos (inR_iff.2 hin), if_pos (by omega), ei, if_pos (by omega), if_pos (by omega), if_pos (by omega)]
          · simp only [riseF]; rw [decide_eq_false (fun e => hlt e.2.2), Bool.false_and]
      · have hp := h0 (by omega)
        refine Ev.step (f := fun k => spec_l05Rise.l0 k l 1 4 ((i + 1 : Nat) : Int)) (fun k => ?_) (ih.eq ?_)
        · simp only [spec_l05Rise.l0]
          rw [if_pos (by omega), if_pos (by omega), spec_l01In_is, Option.bind_some, if_pos (inR_iff.2 hin), if_neg (by omega)]
          rw [w64 (x := (i : Int) + 1) (by omega) (by omega)]; rfl
        · simp only [riseF]; rw [decide_eq_true ⟨hin.1, hin.2, by omega⟩, Bool.true_and]
    · refine Ev.step (f := fun k => some false) (fun k => ?_) ((Ev.now _).eq ?_)
      · simp only [spec_l05Rise.l0]
        rw [if_pos (by omega), if_pos (by omega), spec_l01In_is, Option.bind_some, if_neg (fun e => hin (inR_iff.1 e))]
      · simp only [riseF]; rw [decide_eq_false (fun e => hin ⟨e.1, e.2.1⟩), Bool.false_and]
theorem spec_l05Rise_ev (l : List Int) (hl : l.length ≤ 35184372088832) : Ev (fun k => spec_l05Rise.f k l 1 4) (riseF 0 l) := by
  have := spec_l05Rise_l0 l hl l.length 0 0 (by omega) (fun _ => rfl) (fun h => absurd h (by omega))
  exact this
theorem spec_ConfOk_ev (l : List Int) (hl : l.length ≤ 35184372088832) : Ev (fun k => spec_ConfOk.f k l) (confOk l) := by
  unfold spec_ConfOk.f confOk
  refine Ev.bind0 (spec_l01In_is _ _ _) ?_
  by_cases h : 1 ≤ l.length ∧ l.length ≤ 4
  · rw [decide_eq_true h, Bool.true_and]
    exact Ev.pos (inR_iff.2 (by omega)) (Ev.bind (spec_l05Rise_ev l hl) (Ev.now _))
  · rw [decide_eq_false h, Bool.false_and]
    exact Ev.neg (fun e => h (by have := inR_iff.1 e; omega)) (Ev.now _)
theorem spec_ReadConf_end (s : ByteArray) (acc : List Int) (n : Nat) (hn : n ≤ 5) (hs : s.size ≤ 140737488351232) (ha : acc = (bytesOf s).take n) (hx : n = s.size ∨ n = 5) :
    Ev (fun k => if (acc.length : Int) = (s.size : Int) then ((spec_ConfOk.f k acc).bind fun t => if t = true then some (acc, true) else some ([], false)) else some ([], false)) (readConf s) := by
  have hl : acc.length = min n s.size := by rw [ha, List.length_take, bytesOf_length]
  by_cases e : acc.length = s.size
  · have : acc = bytesOf s := by rw [ha]; exact List.take_of_length_le (by rw [bytesOf_length]; omega)
    subst this
    refine Ev.pos (by omega) (Ev.bind (spec_ConfOk_ev _ (by omega)) (Ev.is ?_))
    unfold readConf
    by_cases h : confOk (bytesOf s) = true
    · rw [if_pos h, if_pos h]
    · rw [if_neg h, if_neg h]
  · refine Ev.neg (by omega) (Ev.is ?_)
    unfold readConf
    rw [if_neg]
    intro h
    have := confOk_len h
    rw [bytesOf_length] at this
    omega
theorem spec_ReadConf_l0 (s : ByteArray) (hs : s.size ≤ 140737488351232) : ∀ (d i : Nat), i + d = 5 → i ≤ s.size →
    Ev (fun k => spec_ReadConf.l0 k s ((bytesOf s).take i) (i : Int)) (readConf s)
  | d, i, h, hi => by
    have hl : ((bytesOf s).take i).length = i := by rw [List.length_take, bytesOf_length]; omega
    by_cases hlt : i < s.size
    · cases d with
      | zero =>
        refine Ev.step (fun k => ?_) (spec_ReadConf_end s ((bytesOf s).take i) i (by omega) hs rfl (by omega))
        simp only [spec_ReadConf.l0]
        rw [if_pos (by omega), if_neg (by omega)]
      | succ d =>
        have hr := bt_range s (i : Int)
        refine Ev.step (f := fun k => spec_ReadConf.l0 k s ((bytesOf s).take (i + 1)) ((i + 1 : Nat) : Int)) (fun k => ?_) (spec_ReadConf_l0 s hs d (i + 1) (by omega) (by omega))
        simp only [spec_ReadConf.l0]
        rw [if_pos (by omega), if_pos (by omega), if_pos (by omega), if_pos (by omega), w64 (x := (i : Int) + 1) (by omega) (by omega), w64 (x := bt s i) (by omega) (by omega)]
        have e := Led.take_succ (s := s) (a := 0) (i := i) (by omega)
        rw [List.drop_zero, Nat.zero_add] at e
        rw [e]; rfl
    · refine Ev.step (fun k => ?_) (spec_ReadConf_end s ((bytesOf s).take i) i (by omega) hs rfl (by omega))
      simp only [spec_ReadConf.l0]
      rw [if_neg (by omega)]
theorem spec_ReadConf_ev (s : ByteArray) (hs : s.size ≤ 140737488351232) : Ev (fun k => spec_ReadConf.f k s) (readConf s) := by
  have := spec_ReadConf_l0 s hs 5 0 (by omega) (by omega)
  rw [List.take_zero] at this
  exact this
def entryOk (a b : Int) (c : ByteArray) : Bool :=
  decide (0 ≤ a ∧ a ≤ 100000) && (if b = 1 then (c.toList == ([] : List UInt8)) else if b = 2 then (readConf c).2 else if b = 3 then decide ((c.size : Int) ≤ 120) else false)
theorem spec_EntryOk_ev (a b : Int) (c : ByteArray) (hc : c.size ≤ 17592186044416) : Ev (fun k => spec_EntryOk.f k a b c) (entryOk a b c) := by
  unfold spec_EntryOk.f entryOk
  refine Ev.bind0 (spec_l01In_is _ _ _) ?_
  by_cases h : 0 ≤ a ∧ a ≤ 100000
  · refine Ev.pos (inR_iff.2 h) ?_
    rw [decide_eq_true h, Bool.true_and]
    by_cases h1 : b = 1
    · refine Ev.pos h1 (Ev.is ?_); rw [if_pos h1]
    · refine Ev.neg h1 ?_
      rw [if_neg h1]
      by_cases h2 : b = 2
      · refine Ev.pos h2 (Ev.bind (spec_ReadConf_ev c (by omega)) (Ev.is ?_)); rw [if_pos h2]
      · refine Ev.neg h2 ?_
        rw [if_neg h2]
        by_cases h3 : b = 3
        · refine Ev.pos h3 (Ev.is ?_); rw [if_pos h3]
        · refine Ev.neg h3 (Ev.is ?_); rw [if_neg h3]
  · refine Ev.neg (fun e => h (inR_iff.1 e)) (Ev.is ?_)
    rw [decide_eq_false h, Bool.false_and]
theorem spec_l01Var_l0 : ∀ (n : Nat) (acc : List Int), acc.length + n < 140737488355328 → Ev (fun k => spec_l01Var.l0 k (n : Int) acc) (strOfNums (acc ++ varL n)) := by
  intro n
  induction n using Nat.strongRecOn with
  | _ n ih =>
    intro acc ha
    by_cases h : 127 < n
    · refine Ev.step (f := fun k => spec_l01Var.l0 k ((n / 128 : Nat) : Int) (acc ++ [((n % 128 + 128 : Nat) : Int)])) (fun k => ?_) ?_
      · simp only [spec_l01Var.l0]
        rw [if_pos (by omega), if_pos (by omega), td (by omega), tm (by omega)]
        rw [w64 (x := (n : Int) / 128) (by omega) (by omega), w64 (x := (n : Int) % 128 + 128) (by omega) (by omega)]
        congr 3
        omega
      · refine (ih (n / 128) (by omega) _ (by simp; omega)).eq ?_
        rw [varL_big h, List.append_assoc]; rfl
    · refine Ev.step (f := fun k => some (strOfNums (acc ++ varL n))) (fun k => ?_) (Ev.now _)
      simp only [spec_l01Var.l0]
      rw [if_neg (by omega), if_pos (by omega), varL_small h]
      congr 4
      omega
theorem spec_l01Var_ev (n : Nat) (h : n < 140737488355328) : Ev (fun k => spec_l01Var.f k (n : Int)) (vt n) := by
  have := spec_l01Var_l0 n [] (by simpa using h)
  exact this
theorem spec_l01Var_evi (n : Int) (h0 : 0 ≤ n) (h : n < 140737488355328) : Ev (fun k => spec_l01Var.f k n) (vt n.toNat) := by
  have := spec_l01Var_ev n.toNat (by omega)
  rwa [Int.toNat_of_nonneg h0] at this
def entryText (i t k : Int) (d : ByteArray) : ByteArray × Bool :=
  if entryOk t k d = true ∧ 1 ≤ i ∧ i ≤ 1000000 then ((⟨#[69]⟩ : ByteArray) ++ vt i.toNat ++ vt t.toNat ++ strOfNums [k % 256] ++ d, true) else (⟨#[]⟩, false)
theorem entryOk_term {t k : Int} {d : ByteArray} (h : entryOk t k d = true) : 0 ≤ t ∧ t ≤ 100000 := by
  simp [entryOk] at h; omega
theorem size_e : (⟨#[69]⟩ : ByteArray).size = 1 := rfl
theorem spec_EntryText_ev (i t k : Int) (d : ByteArray) (hd : d.size ≤ 17592186044416) : Ev (fun n => spec_EntryText.f n i t k d) (entryText i t k d) := by
  unfold spec_EntryText.f
  refine Ev.bind (spec_EntryOk_ev t k d hd) ?_
  by_cases h : entryOk t k d = true
  · refine Ev.pos h (Ev.bind0 (spec_l01In_is _ _ _) ?_)
    have ht := entryOk_term h
    by_cases hi : 1 ≤ i ∧ i ≤ 1000000
    · have e : (!inR i 1 1000000) = false := by rw [inR_iff.2 hi]; rfl
      rw [e]
      refine Ev.step (fun n => rfl) (Ev.bind (spec_l01Var_evi i (by omega) (by omega)) ?_)
      have h5 := vt_size5 i.toNat (by omega)
      have h6 := vt_size5 t.toNat (by omega)
      refine Ev.pos (by omega) (Ev.bind (spec_l01Var_evi t (by omega) (by omega)) (Ev.pos (by rw [size_append, size_e]; omega) (Ev.bind0 rfl (Ev.is ?_))))
      rw [if_pos (by rw [size_append, size_append, size_e, str_size]; simp; omega), if_pos (by rw [size_append, size_append, size_append, size_e, str_size]; simp; omega)]
      rw [entryText, if_pos ⟨h, hi.1, hi.2⟩]
    · have e : (!inR i 1 1000000) = true := by
        cases e : inR i 1 1000000 with
        | true => exact absurd (inR_iff.1 e) hi
        | false => rfl
      rw [e]
      refine Ev.step (fun n => rfl) ((Ev.now _).eq ?_)
      rw [entryText, if_neg (fun e => hi e.2)]
  · refine Ev.neg h (Ev.step (fun n => rfl) ((Ev.now _).eq ?_))
    rw [entryText, if_neg (fun e => h e.1)]
theorem laws_toEntry_is (a b : Int) (c : ByteArray) : laws_toEntry.f a b c = some (a, b, c) := rfl
theorem impl_within_is (a b c : Int) : impl_within.f a b c = some (inR a b c) := by
  unfold impl_within.f inR
  by_cases h : a ≥ b
  · rw [if_pos h]; congr 1; simp; omega
  · rw [if_neg h]; congr 1; simp; omega
theorem impl_ConfOk_l0 (l : List Int) (hl : l.length ≤ 35184372088832) : ∀ (d i : Nat) (p : Int), i + d = l.length → (i = 0 → p = 0) → (0 < i → p = rd l ((i - 1 : Nat) : Int)) →
    Ev (fun k => impl_ConfOk.l0 k l l (l.length : Int) (i : Int)) (decide (1 ≤ l.length ∧ l.length ≤ 4) && riseF p (l.drop i))
  | 0, i, p, h, h0, h1 => by
    refine Ev.step (f := fun k => some (decide (1 ≤ l.length ∧ l.length ≤ 4))) (fun k => ?_) ((Ev.now _).eq ?_)
    · simp only [impl_ConfOk.l0]; rw [if_neg (by omega), impl_within_is, Option.bind_some]
      congr 1
      unfold inR
      congr 1
      simp only [eq_iff_iff]
      omega
    · rw [List.drop_of_length_le (by omega)]; simp [riseF]
  | d + 1, i, p, h, h0, h1 => by
    rw [rd_drop (l := l) (by omega)]
    have ih := impl_ConfOk_l0 l hl d (i + 1) (rd l (i : Int)) (by omega) (by omega) (fun _ => by simp)
    by_cases hin : 1 ≤ rd l (i : Int) ∧ rd l (i : Int) ≤ 4
    · by_cases hi : 0 < i
      · have hp := h1 hi
        have ei : wrap64 ((i : Int) - 1) = ((i - 1 : Nat) : Int) := by rw [w64 (by omega) (by omega)]; omega
        by_cases hlt : p < rd l (i : Int)
        · refine Ev.step (f := fun k => impl_ConfOk.l0 k l l (l.length : Int) ((i + 1 : Nat) : Int)) (fun k => ?_) (ih.eq ?_)
          · simp only [impl_ConfOk.l0]
            rw [if_pos (by omega), if_pos (by omega), if_pos (by omega), impl_within_is, Option.bind_some, if_pos (inR_iff.2 hin), if_pos (by omega), ei, if_pos (by omega), if_pos (by omega), if_neg (by omega)]
            rw [w64 (x := (i : Int) + 1) (by omega) (by omega)]; rfl
          · simp only [riseF]; rw [decide_eq_true (p := _ ∧ _ ∧ _) ⟨hin.1, hin.2, hlt⟩, Bool.true_and]
        · refine Ev.step (f := fun k => some false) (fun k => ?_) ((Ev.now _).eq ?_)
          · simp only [impl_ConfOk.l0]
            rw [if_pos (by omega), if_pos (by omega), if_pos (by omega), impl_within_is, Option.bind_some, if_pos (inR_iff.2 hin), if_pos (by omega), ei, if_pos (by omega), if_pos (by omega), if_pos (by omega)]
          · simp only [riseF]; rw [decide_eq_false (p := _ ∧ _ ∧ _) (fun e => hlt e.2.2), Bool.false_and, Bool.and_false]
      · have hp := h0 (by omega)
        refine Ev.step (f := fun k => impl_ConfOk.l0 k l l (l.length : Int) ((i + 1 : Nat) : Int)) (fun k => ?_) (ih.eq ?_)
        · simp only [impl_ConfOk.l0]
          rw [if_pos (by omega), if_pos (by omega), if_pos (by omega), impl_within_is, Option.bind_some, if_pos (inR_iff.2 hin), if_neg (by omega)]
          rw [w64 (x := (i : Int) + 1) (by omega) (by omega)]; rfl
        · simp only [riseF]; rw [decide_eq_true (p := _ ∧ _ ∧ _) ⟨hin.1, hin.2, by omega⟩, Bool.true_and]
    · refine Ev.step (f := fun k => some false) (fun k => ?_) ((Ev.now _).eq ?_)
      · simp only [impl_ConfOk.l0]
        rw [if_pos (by omega), if_pos (by omega), if_pos (by omega), impl_within_is, Option.bind_some, if_neg (fun e => hin (inR_iff.1 e))]
      · simp only [riseF]; rw [decide_eq_false (p := _ ∧ _ ∧ _) (fun e => hin ⟨e.1, e.2.1⟩), Bool.false_and, Bool.and_false]
theorem impl_ConfOk_ev (l : List Int) (hl : l.length ≤ 35184372088832) : Ev (fun k => impl_ConfOk.f k l) (confOk l) := by
  have := impl_ConfOk_l0 l hl l.length 0 0 (by omega) (fun _ => rfl) (fun h => absurd h (by omega))
  exact this
theorem impl_ReadConf_l0 (s : ByteArray) (hs : s.size ≤ 17592186044416) : ∀ (d i : Nat), i + d = s.size →
    Ev (fun k => impl_ReadConf.l0 k s ((bytesOf s).take i) (i : Int)) (readConf s)
  | 0, i, h => by
    have e : (bytesOf s).take i = bytesOf s := List.take_of_length_le (by rw [bytesOf_length]; omega)
    rw [e]
    refine Ev.step (f := fun k => (impl_ConfOk.f k (bytesOf s)).bind fun t => if t = true then some (bytesOf s, true) else some ([], false)) (fun k => ?_) (Ev.bind (impl_ConfOk_ev _ (by rw [bytesOf_length]; omega)) (Ev.is ?_))
    · simp only [impl_ReadConf.l0]; rw [if_neg (by omega)]
    · unfold readConf
      by_cases h : confOk (bytesOf s) = true
      · rw [if_pos h, if_pos h]
      · rw [if_neg h, if_neg h]
  | d + 1, i, h => by
    have hr := bt_range s (i : Int)
    have hl : ((bytesOf s).take i).length = i := by rw [List.length_take, bytesOf_length]; omega
    refine Ev.step (f := fun k => impl_ReadConf.l0 k s ((bytesOf s).take (i + 1)) ((i + 1 : Nat) : Int)) (fun k => ?_) (impl_ReadConf_l0 s hs d (i + 1) (by omega))
    simp only [impl_ReadConf.l0]
    rw [if_pos (by omega), if_pos (by omega), if_pos (by omega), w64 (x := (i : Int) + 1) (by omega) (by omega), w64 (x := bt s i) (by omega) (by omega)]
    have e := Led.take_succ (s := s) (a := 0) (i := i) (by omega)
    rw [List.drop_zero, Nat.zero_add] at e
    rw [e]; rfl
theorem impl_ReadConf_ev (s : ByteArray) (hs : s.size ≤ 17592186044416) : Ev (fun k => impl_ReadConf.f k s) (readConf s) := by
  have := impl_ReadConf_l0 s hs s.size 0 (by omega)
  rw [List.take_zero] at this
  exact this
theorem impl_EntryOk_ev (a b : Int) (c : ByteArray) (hc : c.size ≤ 17592186044416) : Ev (fun k => impl_EntryOk.f k a b c) (entryOk a b c) := by
  unfold impl_EntryOk.f entryOk
  refine Ev.bind0 (impl_within_is _ _ _) ?_
  by_cases h : 0 ≤ a ∧ a ≤ 100000
  · refine Ev.pos (inR_iff.2 h) ?_
    rw [decide_eq_true h, Bool.true_and]
    by_cases h1 : b = 1
    · refine Ev.pos h1 (Ev.is ?_); rw [if_pos h1]
    · refine Ev.neg h1 ?_
      rw [if_neg h1]
      by_cases h2 : b = 2
      · refine Ev.pos h2 (Ev.bind (impl_ReadConf_ev c (by omega)) (Ev.is ?_)); rw [if_pos h2]
      · refine Ev.neg h2 ?_
        rw [if_neg h2]
        by_cases h3 : b = 3
        · refine Ev.pos h3 (Ev.is ?_); rw [if_pos h3]
        · refine Ev.neg h3 (Ev.is ?_); rw [if_neg h3]
  · refine Ev.neg (fun e => h (inR_iff.1 e)) (Ev.is ?_)
    rw [decide_eq_false h, Bool.false_and]
theorem impl_VarText_l0 : ∀ (n : Nat) (acc : List Int), acc.length + n < 140737488355328 → Ev (fun k => impl_VarText.l0 k (n : Int) acc) (strOfNums (acc ++ varL n), true) := by
  intro n
  induction n using Nat.strongRecOn with
  | _ n ih =>
    intro acc ha
    by_cases h : 127 < n
    · refine Ev.step (f := fun k => impl_VarText.l0 k ((n / 128 : Nat) : Int) (acc ++ [((n % 128 + 128 : Nat) : Int)])) (fun k => ?_) ?_
      · simp only [impl_VarText.l0]
        rw [if_pos (by omega), if_pos (by omega), td (by omega), tm (by omega)]
        rw [w64 (x := (n : Int) / 128) (by omega) (by omega), w64 (x := (n : Int) % 128 + 128) (by omega) (by omega)]
        congr 3
        omega
      · refine (ih (n / 128) (by omega) _ (by simp; omega)).eq ?_
        rw [varL_big h, List.append_assoc]; rfl
    · refine Ev.step (f := fun k => some (strOfNums (acc ++ varL n), true)) (fun k => ?_) (Ev.now _)
      simp only [impl_VarText.l0]
      rw [if_neg (by omega), if_pos (by omega), varL_small h]
      congr 5
      omega
theorem impl_VarText_ev (n : Int) : Ev (fun k => impl_VarText.f k n) (varText n) := by
  unfold impl_VarText.f
  refine Ev.bind0 (impl_within_is _ _ _) ?_
  by_cases h : 0 ≤ n ∧ n ≤ 1000000000
  · refine Ev.pos (inR_iff.2 h) ?_
    have := impl_VarText_l0 n.toNat [] (by simp; omega)
    rw [Int.toNat_of_nonneg h.1] at this
    refine this.eq ?_
    rw [varText, if_pos h]; rfl
  · refine Ev.neg (fun e => h (inR_iff.1 e)) (Ev.is ?_)
    rw [varText, if_neg h]
theorem impl_vars_l0 (l : List Int) (hl : l.length ≤ 1048576) : ∀ (d i : Nat) (acc : List Int), i + d = l.length → acc.length ≤ 5 * i →
    Ev (fun k => impl_vars.l0 k acc l (l.length : Int) (i : Int)) (match varsL (l.drop i) with | some m => (strOfNums (acc ++ m), true) | none => (⟨#[]⟩, false))
  | 0, i, acc, h, ha => by
    refine Ev.step (f := fun k => some (strOfNums acc, true)) (fun k => ?_) ((Ev.now _).eq ?_)
    · simp only [impl_vars.l0]; rw [if_neg (by omega)]
    · rw [List.drop_of_length_le (by omega)]; simp [varsL]
  | d + 1, i, acc, h, ha => by
    rw [rd_drop (l := l) (i := i) (by omega)]
    generalize hx : rd l (i : Int) = x
    refine Ev.step (f := fun k => (impl_VarText.f k x).bind fun bt => (if bt.2 = true then (if acc.length + bt.1.size < 140737488355328 then (impl_vars.l0 k (acc ++ bytesOf bt.1) l (l.length : Int) ((i + 1 : Nat) : Int)) else none) else some (⟨#[]⟩, false))) (fun k => ?_) (Ev.bind (impl_VarText_ev x) ?_)
    · simp only [impl_vars.l0]
      rw [if_pos (by omega), if_pos (by omega), if_pos (by omega), hx, w64 (x := (i : Int) + 1) (by omega) (by omega)]; rfl
    · by_cases hr : 0 ≤ x ∧ x ≤ 1000000000
      · have h5 := vt_size5 x.toNat (by omega)
        have hv : (varL x.toNat).length ≤ 5 := by rw [← vt_size]; exact h5
        rw [varText_ok hr.1 hr.2]
        refine Ev.pos rfl (Ev.pos (by show acc.length + (vt x.toNat).size < _; omega) ((impl_vars_l0 l hl d (i + 1) (acc ++ bytesOf (vt x.toNat)) (by omega) (by rw [List.length_append, bytes_vt]; omega)).eq ?_))
        simp only [varsL, if_pos hr]
        cases varsL (l.drop (i + 1)) with
        | none => rfl
        | some m => simp [bytes_vt]
      · rw [varText_no hr]
        refine Ev.neg (by simp) ((Ev.now _).eq ?_)
        simp only [varsL, if_neg hr]
theorem impl_vars_two {a b : Int} (ha : 0 ≤ a ∧ a ≤ 1000000000) (hb : 0 ≤ b ∧ b ≤ 1000000000) : Ev (fun k => impl_vars.f k ([a, b] : List Int)) (vt a.toNat ++ vt b.toNat, true) := by
  have := impl_vars_l0 [a, b] (by simp) 2 0 [] (by simp) (by simp)
  rw [List.drop_zero, varsL_two ha hb] at this
  simp only [List.nil_append, str_append] at this
  exact this
theorem impl_EntryText_ev (i t k : Int) (d : ByteArray) (hd : d.size ≤ 17592186044416) : Ev (fun n => impl_EntryText.f n i t k d) (entryText i t k d) := by
  unfold impl_EntryText.f
  refine Ev.bind (impl_EntryOk_ev t k d hd) ?_
  by_cases h : entryOk t k d = true
  · refine Ev.pos h (Ev.bind0 (impl_within_is _ _ _) ?_)
    have ht := entryOk_term h
    by_cases hi : 1 ≤ i ∧ i ≤ 1000000
    · have h5 := vt_size5 i.toNat (by omega)
      have h6 := vt_size5 t.toNat (by omega)
      refine Ev.pos (inR_iff.2 hi) (Ev.bind (impl_vars_two (by omega) (by omega)) (Ev.pos (by simp only [size_append]; omega) (Ev.bind0 rfl (Ev.is ?_))))
      simp only
      rw [if_pos (by rw [size_append, size_append, size_e, str_size]; simp; omega), if_pos (by rw [size_append, size_append, size_append, size_e, str_size]; simp; omega)]
      rw [entryText, if_pos ⟨h, hi.1, hi.2⟩, append_assoc _ (vt i.toNat) (vt t.toNat)]
    · refine Ev.neg (fun e => hi (inR_iff.1 e)) (Ev.is ?_)
      rw [entryText, if_neg (fun e => hi e.2)]
  · refine Ev.neg h (Ev.is ?_)
    rw [entryText, if_neg (fun e => h e.1)]
theorem FnExactEntryText : laws_FnExactEntryText.Pure := by
  intro i a b c hi hg
  obtain ⟨ha, hb, hc⟩ := hg
  apply Ev.rounds
  unfold laws_FnExactEntryText.f
  obtain ⟨r, hr, hx⟩ := laws_szEntry_is a b c 1048576 (by omega) (by omega) hc
  refine Ev.bind0 hr ?_
  rcases hx with hx | ⟨_, _, hx⟩
  · exact Ev.pos hx (Ev.now _)
  · exact Ev.neg (by omega) (Ev.bind0 (laws_toEntry_is _ _ _) (Ev.bind (spec_EntryText_ev i a b c (by omega)) (Ev.bind0 (laws_toEntry_is _ _ _) (Ev.bind (impl_EntryText_ev i a b c (by omega)) (Ev.pos rfl (Ev.neg (by simp) (Ev.now _)))))))

end Go.Proofs.Ythddngmncmhkoaa.Pure
