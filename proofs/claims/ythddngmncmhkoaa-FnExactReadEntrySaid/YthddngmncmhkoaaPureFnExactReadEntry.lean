/- The law FnExactReadEntry answers true at every input; no condition. -/
import Derived.Test.YthddngmncmhkoaaQFnExactReadEntryx6
import Derived.Test.YthddngmncmhkoaaMath
namespace Go.Proofs.Ythddngmncmhkoaa.Pure
open Go.RowKit Go.Proofs.Ythddngmncmhkoaa.QFnExactReadEntry Go.Proofs.YthddngmncmhkoaaW.PrintWords Go.Proofs.YthddngmncmhkoaaW.PrintLast Go.Proofs.YthddngmncmhkoaaW.PrintMore Go.Proofs.Ythddngmncmhkoaa.M
set_option linter.unusedVariables false
set_option linter.unusedSimpArgs false
set_option maxRecDepth 4000

theorem spec_l01In_is (a b c : Int) : spec_l01In.f a b c = some (inR a b c) := by
  unfold spec_l01In.f inR
  by_cases h : a ≥ b
  · rw [if_pos h]; congr 1; simp; omega
  · rw [if_neg h]; congr 1; simp; omega
theorem spec_l05Rise_l0 (l : List Int) (hl : l.length ≤ 35184372088832) : ∀ (d i : Nat) (p : Int), i + d = l.length → (i = 0 → p = 0) → (0 < i → p = rd l ((i - 1 : Nat) : Int)) →
    Ev (fun k => spec_l05Rise.l0 k l 1 4 (i : Int)) (riseF p (l.drop i))
  | 0, i, p, h, h0, h1 => by
    refine Ev.step (f := fun k => some true) (fun k => ?_) ((Ev.now _).eq ?_)
    · simp only [spec_l05Rise.l0]; rw [if_neg (by omega)]
    · rw [List.drop_of_length_le (by omega)]; rfl
  | d + 1, i, p, h, h0, h1 => by
    rw [rd_drop (l := l) (by omega)]
    have ih := spec_l05Rise_l0 l hl d (i + 1) (rd l (i : Int)) (by omega) (by omega) (fun _ => by simp)
    by_cases hin : 1 ≤ rd l (i : Int) ∧ rd l (i : Int) ≤ 4
    · by_cases hi : 0 < i
      · have hp := h1 hi
        have ei : wrap64 ((i : Int) - 1) = ((i - 1 : Nat) : Int) := by rw [w64 (by omega) (by omega)]; omega
        by_cases hlt : p < rd l (i : Int)
        · refine Ev.step (f := fun k => spec_l05Rise.l0 k l 1 4 ((i + 1 : Nat) : Int)) (fun k => ?_) (ih.eq ?_)
          · simp only [spec_l05Rise.l0]
            rw [if_pos (by omega), if_pos (by omega), spec_l01In_is, Option.bind_some, if_pos (inR_iff.2 hin), if_pos (by omega), ei, if_pos (by omega), if_pos (by omega), if_neg (by omega)]
            rw [w64 (x := (i : Int) + 1) (by omega) (by omega)]; rfl
          · simp only [riseF]; rw [decide_eq_true ⟨hin.1, hin.2, hlt⟩, Bool.true_and]
        · refine Ev.step (f := fun k => some false) (fun k => ?_) ((Ev.now _).eq ?_)
          · simp only [spec_l05Rise.l0]
            rw [if_pos (by omega), if_pos (by omega), spec_l01In_is, Option.bind_some, if_pos (inR_iff.2 hin), if_pos (by omega), ei, if_pos (by omega), if_pos (by omega), if_pos (by omega)]
          · simp only [riseF]; rw [decide_eq_false (fun e => hlt e.2.2), Bool.false_and]
      · have hp := h0 (by omega)
        refine Ev.step (f := fun k => spec_l05Rise.l0 k l 1 4 ((i + 1 : Nat) : Int)) (fun k => ?_) (ih.eq ?_)
        · simp only [spec_l05Rise.l0]
          rw [if_pos (by omega), if_pos (by omega), spec_l01In_is, Option.bind_some, if_pos (inR_iff.2 hin), if_neg (by omega)]
          rw [w64 (x := (i : Int) + 1) (by omega) (by omega)]; rfl
        · simp only [riseF]; rw [decide_eq_true ⟨hin.1, hin.2, by omega⟩, Bool.true_and]
    · refine Ev.step (f := fun k => some false) (fun k => ?_) ((Ev.now _).eq ?_)
      · simp only [spec_l05Rise.l0]
        rw [if_pos (by omega), if_pos (by omega), spec_l01In_is, Option.bind_some, if_neg (fun e => hin (inR_iff.1 e))]
      · simp only [riseF]; rw [decide_eq_false (fun e => hin ⟨e.1, e.2.1⟩), Bool.false_and]
theorem spec_l05Rise_ev (l : List Int) (hl : l.length ≤ 35184372088832) : Ev (fun k => spec_l05Rise.f k l 1 4) (riseF 0 l) := by
  have := spec_l05Rise_l0 l hl l.length 0 0 (by omega) (fun _ => rfl) (fun h => absurd h (by omega))
  exact this
theorem spec_ConfOk_ev (l : List Int) (hl : l.length ≤ 35184372088832) : Ev (fun k => spec_ConfOk.f k l) (confOk l) := by
  unfold spec_ConfOk.f confOk
  refine Ev.bind0 (spec_l01In_is _ _ _) ?_
  by_cases h : 1 ≤ l.length ∧ l.length ≤ 4
  · rw [decide_eq_true h, Bool.true_and]
    exact Ev.pos (inR_iff.2 (by omega)) (Ev.bind (spec_l05Rise_ev l hl) (Ev.now _))
  · rw [decide_eq_false h, Bool.false_and]
    exact Ev.neg (fun e => h (by have := inR_iff.1 e; omega)) (Ev.now _)
theorem spec_ReadConf_end (s : ByteArray) (acc : List Int) (n : Nat) (hn : n ≤ 5) (hs : s.size ≤ 140737488351232) (ha : acc = (bytesOf s).take n) (hx : n = s.size ∨ n = 5) :
    Ev (fun k => if (acc.length : Int) = (s.size : Int) then ((spec_ConfOk.f k acc).bind fun t => if t = true then some (acc, true) else some ([], false)) else some ([], false)) (readConf s) := by
  have hl : acc.length = min n s.size := by rw [ha, List.length_take, bytesOf_length]
  by_cases e : acc.length = s.size
  · have : acc = bytesOf s := by rw [ha]; exact List.take_of_length_le (by rw [bytesOf_length]; omega)
    subst this
    refine Ev.pos (by omega) (Ev.bind (spec_ConfOk_ev _ (by omega)) (Ev.is ?_))
    unfold readConf
    by_cases h : confOk (bytesOf s) = true
    · rw [if_pos h, if_pos h]
    · rw [if_neg h, if_neg h]
  · refine Ev.neg (by omega) (Ev.is ?_)
    unfold readConf
    rw [if_neg]
    intro h
    have := confOk_len h
    rw [bytesOf_length] at this
    omega
theorem spec_ReadConf_l0 (s : ByteArray) (hs : s.size ≤ 140737488351232) : ∀ (d i : Nat), i + d = 5 → i ≤ s.size →
    Ev (fun k => spec_ReadConf.l0 k s ((bytesOf s).take i) (i : Int)) (readConf s)
  | d, i, h, hi => by
    have hl : ((bytesOf s).take i).length = i := by rw [List.length_take, bytesOf_length]; omega
    by_cases hlt : i < s.size
    · cases d with
      | zero =>
        refine Ev.step (fun k => ?_) (spec_ReadConf_end s ((bytesOf s).take i) i (by omega) hs rfl (by omega))
        simp only [spec_ReadConf.l0]
        rw [if_pos (by omega), if_neg (by omega)]
      | succ d =>
        have hr := bt_range s (i : Int)
        refine Ev.step (f := fun k => spec_ReadConf.l0 k s ((bytesOf s).take (i + 1)) ((i + 1 : Nat) : Int)) (fun k => ?_) (spec_ReadConf_l0 s hs d (i + 1) (by omega) (by omega))
        simp only [spec_ReadConf.l0]
        rw [if_pos (by omega), if_pos (by omega), if_pos (by omega), if_pos (by omega), w64 (x := (i : Int) + 1) (by omega) (by omega), w64 (x := bt s i) (by omega) (by omega)]
        have e := Led.take_succ (s := s) (a := 0) (i := i) (by omega)
        rw [List.drop_zero, Nat.zero_add] at e
        rw [e]; rfl
    · refine Ev.step (fun k => ?_) (spec_ReadConf_end s ((bytesOf s).take i) i (by omega) hs rfl (by omega))
      simp only [spec_ReadConf.l0]
      rw [if_neg (by omega)]
theorem spec_ReadConf_ev (s : ByteArray) (hs : s.size ≤ 140737488351232) : Ev (fun k => spec_ReadConf.f k s) (readConf s) := by
  have := spec_ReadConf_l0 s hs 5 0 (by omega) (by omega)
  rw [List.take_zero] at this
  exact this
def entryOk (a b : Int) (c : ByteArray) : Bool :=
  decide (0 ≤ a ∧ a ≤ 100000) && (if b = 1 then (c.toList == ([] : List UInt8)) else if b = 2 then (readConf c).2 else if b = 3 then decide ((c.size : Int) ≤ 120) else false)
theorem spec_EntryOk_ev (a b : Int) (c : ByteArray) (hc : c.size ≤ 17592186044416) : Ev (fun k => spec_EntryOk.f k a b c) (entryOk a b c) := by
  unfold spec_EntryOk.f entryOk
  refine Ev.bind0 (spec_l01In_is _ _ _) ?_
  by_cases h : 0 ≤ a ∧ a ≤ 100000
  · refine Ev.pos (inR_iff.2 h) ?_
    rw [decide_eq_true h, Bool.true_and]
    by_cases h1 : b = 1
    · refine Ev.pos h1 (Ev.is ?_); rw [if_pos h1]
    · refine Ev.neg h1 ?_
      rw [if_neg h1]
      by_cases h2 : b = 2
      · refine Ev.pos h2 (Ev.bind (spec_ReadConf_ev c (by omega)) (Ev.is ?_)); rw [if_pos h2]
      · refine Ev.neg h2 ?_
        rw [if_neg h2]
        by_cases h3 : b = 3
        · refine Ev.pos h3 (Ev.is ?_); rw [if_pos h3]
        · refine Ev.neg h3 (Ev.is ?_); rw [if_neg h3]
  · refine Ev.neg (fun e => h (inR_iff.1 e)) (Ev.is ?_)
    rw [decide_eq_false h, Bool.false_and]
theorem spec_l01Var_l0 : ∀ (n : Nat) (acc : List Int), acc.length + n < 140737488355328 → Ev (fun k => spec_l01Var.l0 k (n : Int) acc) (strOfNums (acc ++ varL n)) := by
  intro n
  induction n using Nat.strongRecOn with
  | _ n ih =>
    intro acc ha
    by_cases h : 127 < n
    · refine Ev.step (f := fun k => spec_l01Var.l0 k ((n / 128 : Nat) : Int) (acc ++ [((n % 128 + 128 : Nat) : Int)])) (fun k => ?_) ?_
      · simp only [spec_l01Var.l0]
        rw [if_pos (by omega), if_pos (by omega), td (by omega), tm (by omega)]
        rw [w64 (x := (n : Int) / 128) (by omega) (by omega), w64 (x := (n : Int) % 128 + 128) (by omega) (by omega)]
        congr 3
        omega
      · refine (ih (n / 128) (by omega) _ (by simp; omega)).eq ?_
        rw [varL_big h, List.append_assoc]; rfl
    · refine Ev.step (f := fun k => some (strOfNums (acc ++ varL n))) (fun k => ?_) (Ev.now _)
      simp only [spec_l01Var.l0]
      rw [if_neg (by omega), if_pos (by omega), varL_small h]
      congr 4
      omega
theorem spec_l01Var_ev (n : Nat) (h : n < 140737488355328) : Ev (fun k => spec_l01Var.f k (n : Int)) (vt n) := by
  have := spec_l01Var_l0 n [] (by simpa using h)
  exact this
theorem spec_l01Var_evi (n : Int) (h0 : 0 ≤ n) (h : n < 140737488355328) : Ev (fun k => spec_l01Var.f k n) (vt n.toNat) := by
  have := spec_l01Var_ev n.toNat (by omega)
  rwa [Int.toNat_of_nonneg h0] at this
def entryText (i t k : Int) (d : ByteArray) : ByteArray × Bool :=
  if entryOk t k d = true ∧ 1 ≤ i ∧ i ≤ 1000000 then ((⟨#[69]⟩ : ByteArray) ++ vt i.toNat ++ vt t.toNat ++ strOfNums [k % 256] ++ d, true) else (⟨#[]⟩, false)
theorem entryOk_term {t k : Int} {d : ByteArray} (h : entryOk t k d = true) : 0 ≤ t ∧ t ≤ 100000 := by
  simp [entryOk] at h; omega
theorem size_e : (⟨#[69]⟩ : ByteArray).size = 1 := rfl
theorem spec_EntryText_ev (i t k : Int) (d : ByteArray) (hd : d.size ≤ 17592186044416) : Ev (fun n => spec_EntryText.f n i t k d) (entryText i t k d) := by
  unfold spec_EntryText.f
  refine Ev.bind (spec_EntryOk_ev t k d hd) ?_
  by_cases h : entryOk t k d = true
  · refine Ev.pos h (Ev.bind0 (spec_l01In_is _ _ _) ?_)
    have ht := entryOk_term h
    by_cases hi : 1 ≤ i ∧ i ≤ 1000000
    · have e : (!inR i 1 1000000) = false := by rw [inR_iff.2 hi]; rfl
      rw [e]
      refine Ev.step (fun n => rfl) (Ev.bind (spec_l01Var_evi i (by omega) (by omega)) ?_)
      have h5 := vt_size5 i.toNat (by omega)
      have h6 := vt_size5 t.toNat (by omega)
      refine Ev.pos (by omega) (Ev.bind (spec_l01Var_evi t (by omega) (by omega)) (Ev.pos (by rw [size_append, size_e]; omega) (Ev.bind0 rfl (Ev.is ?_))))
      rw [if_pos (by rw [size_append, size_append, size_e, str_size]; simp; omega), if_pos (by rw [size_append, size_append, size_append, size_e, str_size]; simp; omega)]
      rw [entryText, if_pos ⟨h, hi.1, hi.2⟩]
    · have e : (!inR i 1 1000000) = true := by
        cases e : inR i 1 1000000 with
        | true => exact absurd (inR_iff.1 e) hi
        | false => rfl
      rw [e]
      refine Ev.step (fun n => rfl) ((Ev.now _).eq ?_)
      rw [entryText, if_neg (fun e => hi e.2)]
  · refine Ev.neg h (Ev.step (fun n => rfl) ((Ev.now _).eq ?_))
    rw [entryText, if_neg (fun e => h e.1)]
def varC (s : ByteArray) (a : Int) (b : Bool) : Int × ByteArray × Int × Bool :=
  if b = true then (0, s, a, true) else if (readVar s a).2.2 = true then ((readVar s a).1, s, (readVar s a).2.1, b) else (0, s, a, true)
theorem varC_bad (s : ByteArray) (a : Int) : varC s a true = (0, s, a, true) := by simp [varC]
theorem readVar_nat {s : ByteArray} {a : Nat} (h : a ≤ s.size) : readVar s (a : Int) = (match rvar ((bytesOf s).drop a) with | some (n, m) => ((n : Int), (a : Int) + m, true) | none => (0, 0, false)) := by
  rw [readVar, if_pos ⟨by omega, by omega⟩, Int.toNat_natCast]; cases rvar ((bytesOf s).drop a) <;> rfl
theorem varC_none {s : ByteArray} {a : Nat} (h : a ≤ s.size) (e : rvar ((bytesOf s).drop a) = none) : varC s (a : Int) false = (0, s, (a : Int), true) := by
  rw [varC, if_neg (by simp), readVar_nat h, e]; rfl
theorem varC_some {s : ByteArray} {a n m : Nat} (h : a ≤ s.size) (e : rvar ((bytesOf s).drop a) = some (n, m)) : varC s (a : Int) false = ((n : Int), s, ((a + m : Nat) : Int), false) := by
  rw [varC, if_neg (by simp), readVar_nat h, e]; simp
theorem rvar_nil {s : ByteArray} {a : Nat} (h : s.size ≤ a) : rvar ((bytesOf s).drop a) = none := by
  rw [List.drop_of_length_le (by rw [bytesOf_length]; exact h)]; rfl
theorem extract_one {s : ByteArray} {a : Nat} (h : a < s.size) : s.extract a (a + 1) = strOfNums [bt s (a : Int)] := bytes_inj (by
  have hr := bt_range s (a : Int)
  rw [bytes_extract, bytes_str (by simp; omega), bytes_drop h]
  simp)
theorem bt_one {s : ByteArray} {a : Nat} (h : a < s.size) : bt (s.extract a (a + 1)) 0 = bt s (a : Int) := by
  have hr := bt_range s (a : Int)
  have hz : 0 < (bytesOf (s.extract a (a + 1))).length := by rw [bytesOf_length, size_extract s a (a + 1) (by omega) (by omega)]; omega
  have := bytes_get (s.extract a (a + 1)) 0 hz
  rw [show ((0 : Nat) : Int) = 0 from rfl] at this
  rw [← this]
  simp only [extract_one h]
  simp only [bytes_str (xs := [bt s (a : Int)]) (by simp; omega), List.getElem_cons_zero]
theorem spec_l05Take_bad (s : ByteArray) (a n : Int) : spec_l05Take.f s a true n = some (⟨#[]⟩, s, a, true) := by
  unfold spec_l05Take.f; rw [if_pos rfl]
theorem spec_l05Take_no {s : ByteArray} (hs : s.size ≤ 140737488351232) {a : Nat} (ha : a ≤ s.size) {n : Int} (h0 : 0 ≤ n) (h : (s.size : Int) < a + n) : spec_l05Take.f s (a : Int) false n = some (⟨#[]⟩, s, (a : Int), true) := by
  unfold spec_l05Take.f
  rw [if_neg (by simp), w64 (x := (s.size : Int) - a) (by omega) (by omega), if_pos (by omega)]
theorem spec_l05Take_ok {s : ByteArray} (hs : s.size ≤ 140737488351232) {a n : Nat} (h : a + n ≤ s.size) : spec_l05Take.f s (a : Int) false (n : Int) = some (s.extract a (a + n), s, ((a + n : Nat) : Int), false) := by
  unfold spec_l05Take.f
  rw [if_neg (by simp), w64 (x := (s.size : Int) - a) (by omega) (by omega), if_neg (by omega), w64 (x := (a : Int) + n) (by omega) (by omega), w64 (x := (a : Int) + n - n) (by omega) (by omega), if_pos (by omega), if_pos (by omega), if_pos (by omega)]
  have e1 : ((a : Int) + n - n).toNat = a := by omega
  have e2 : ((a : Int) + n).toNat = a + n := by omega
  rw [e1, e2, ← Int.natCast_add]
theorem spec_ReadVar_l0 (s : ByteArray) (hs : s.size ≤ 140737488351232) (a : Nat) : ∀ (f i n : Nat), i + f = 5 → Led s a i n →
    Ev (fun k => spec_ReadVar.l0 k s (a : Int) (n : Int) ((128 ^ i : Nat) : Int) ((a + i : Nat) : Int))
      (match rvL f i n ((bytesOf s).drop (a + i)) with | some (n, m) => ((n : Int), (a : Int) + m, true) | none => (0, 0, false))
  | 0, i, n, hi, hl => by
    have h1 := hl.1
    refine Ev.step (f := fun k => spec_ReadVar.j1 k s (a : Int) (n : Int) ((128 ^ i : Nat) : Int) ((a + i : Nat) : Int) false) (fun k => ?_) ?_
    · simp only [spec_ReadVar.l0]
      rw [w64 (x := (a : Int) + 5) (by omega) (by omega)]
      split
      · rw [show decide (((a + i : Nat) : Int) < (a : Int) + 5) = false from by simp; omega]
      · rfl
    · refine Ev.step (f := fun _ => some (0, 0, false)) (fun k => ?_) (Ev.now _)
      simp only [spec_ReadVar.j1]; rfl
  | f + 1, i, n, hi, hl => by
    have h1 := hl.1
    by_cases hlt : a + i < s.size
    · have hr := bt_range s ((a + i : Nat) : Int)
      have hp := pow_bound (i := i) (by omega)
      have hm := mul_bound (bt s ((a + i : Nat) : Int)).toNat (128 ^ i) hp.1
      have hn := hl.lt
      rw [bytes_drop hlt]
      refine Ev.step (f := fun k => spec_ReadVar.j1 k s (a : Int) (n : Int) ((128 ^ i : Nat) : Int) ((a + i : Nat) : Int) true) (fun k => ?_) ?_
      · simp only [spec_ReadVar.l0]
        rw [w64 (x := (a : Int) + 5) (by omega) (by omega), if_pos (by omega)]
        rw [show decide (((a + i : Nat) : Int) < (a : Int) + 5) = true from by simp; omega]
      have hb : wrap64 (bt s ((a + i : Nat) : Int)) = bt s ((a + i : Nat) : Int) := w64 (by omega) (by omega)
      have e1 : Int.tmod (bt s ((a + i : Nat) : Int)) 128 * ((128 ^ i : Nat) : Int) = (((bt s ((a + i : Nat) : Int)).toNat % 128 * 128 ^ i : Nat) : Int) := by
        rw [tm (by omega), Int.natCast_mul]; congr 1; omega
      generalize hc : (bt s ((a + i : Nat) : Int)).toNat % 128 * 128 ^ i = q at *
      have e2 : wrap64 ((n : Int) + wrap64 (Int.tmod (wrap64 (bt s ((a + i : Nat) : Int))) 128 * ((128 ^ i : Nat) : Int))) = ((n + q : Nat) : Int) := by
        rw [hb, e1, w64 (x := (q : Int)) (by omega) (by omega), w64 (by omega) (by omega)]; omega
      by_cases hb : bt s ((a + i : Nat) : Int) < 128
      · have hsame := hl.same hlt hb
        rw [hc] at hsame
        simp only [rvL, if_pos hb, hc]
        by_cases hM : n + q ≤ 1000000000
        · refine Ev.step (f := fun k => (spec_l01Var.f k ((n + q : Nat) : Int)).bind fun t => (if t.toList = (s.extract a (a + i + 1)).toList then some (((n + q : Nat) : Int), ((a + i + 1 : Nat) : Int), true) else some (0, 0, false))) (fun k => ?_) ?_
          · simp only [spec_ReadVar.j1, if_true]
            rw [if_pos (by omega), if_pos (by omega), if_pos hb, e2, if_neg (by omega)]
            rw [w64 (x := ((a + i : Nat) : Int) + 1) (by omega) (by omega)]
            simp only [if_pos (show (0 : Int) ≤ (a : Int) from by omega), if_pos (show (a : Int) ≤ ((a + i : Nat) : Int) + 1 from by omega), if_pos (show ((a + i : Nat) : Int) + 1 ≤ (s.size : Int) from by omega)]
            rw [show ((a : Int)).toNat = a from by omega, show (((a + i : Nat) : Int) + 1).toNat = a + i + 1 from by omega, show ((a + i : Nat) : Int) + 1 = ((a + i + 1 : Nat) : Int) from by omega]
          · refine Ev.bind (spec_l01Var_ev (n + q) (by omega)) (Ev.is ?_)
            by_cases hq : (varL (n + q)).length = i + 1
            · rw [if_pos (hsame.2 hq), if_pos ⟨hM, hq⟩]
              simp only [Option.some.injEq, Prod.mk.injEq, and_true, true_and]; omega
            · rw [if_neg (fun e => hq (hsame.1 e)), if_neg (fun e => hq e.2)]
        · refine Ev.step (f := fun k => some (0, 0, false)) (fun k => ?_) ((Ev.now _).eq ?_)
          · simp only [spec_ReadVar.j1, if_true]
            rw [if_pos (by omega), if_pos (by omega), if_pos hb, e2, if_pos (by omega)]
          · rw [if_neg (fun e => hM e.1)]
      · simp only [rvL, if_neg hb, hc]
        have hnext := hl.next hlt (by omega)
        rw [hc] at hnext
        have e3 : wrap64 (((128 ^ i : Nat) : Int) * 128) = ((128 ^ (i + 1) : Nat) : Int) := by
          rw [w64 (by omega) (by omega), Nat.pow_succ, Int.natCast_mul]; rfl
        refine Ev.step (f := fun k => spec_ReadVar.l0 k s (a : Int) ((n + q : Nat) : Int) ((128 ^ (i + 1) : Nat) : Int) ((a + (i + 1) : Nat) : Int)) (fun k => ?_) (spec_ReadVar_l0 s hs a f (i + 1) (n + q) (by omega) hnext)
        simp only [spec_ReadVar.j1, if_true]
        rw [if_pos (by omega), if_pos (by omega), if_neg hb, e2, e3]
        rw [w64 (x := ((a + i : Nat) : Int) + 1) (by omega) (by omega), show ((a + i : Nat) : Int) + 1 = ((a + (i + 1) : Nat) : Int) from by omega]
    · rw [List.drop_of_length_le (by rw [bytesOf_length]; omega)]
      refine Ev.step (f := fun k => spec_ReadVar.j1 k s (a : Int) (n : Int) ((128 ^ i : Nat) : Int) ((a + i : Nat) : Int) false) (fun k => ?_) ?_
      · simp only [spec_ReadVar.l0]
        rw [if_neg (by omega)]
      · refine Ev.step (f := fun _ => some (0, 0, false)) (fun k => ?_) (Ev.now _)
        simp only [spec_ReadVar.j1]; rfl
theorem spec_ReadVar_ev (s : ByteArray) (hs : s.size ≤ 140737488351232) (a : Int) : Ev (fun k => spec_ReadVar.f k s a) (readVar s a) := by
  unfold spec_ReadVar.f readVar
  refine Ev.bind0 (spec_l01In_is _ _ _) ?_
  by_cases h : 0 ≤ a ∧ a ≤ (s.size : Int)
  · rw [if_pos h]
    refine Ev.pos (inR_iff.2 h) ?_
    have := spec_ReadVar_l0 s hs a.toNat 5 0 0 rfl (Led.start s a.toNat (by omega))
    simp only [Nat.add_zero, Int.toNat_of_nonneg h.1] at this
    exact this
  · rw [if_neg h]
    exact Ev.neg (fun e => h (inR_iff.1 e)) (Ev.now _)
theorem spec_l05Var_ev (s : ByteArray) (hs : s.size ≤ 140737488351232) (a : Int) (b : Bool) : Ev (fun k => spec_l05Var.f k s a b) (varC s a b) := by
  unfold spec_l05Var.f varC
  refine Ev.bind (spec_ReadVar_ev s hs a) (Ev.is ?_)
  split <;> (try split) <;> simp_all
def rEnt (s : ByteArray) (n t a : Nat) : Int × Int × Int × ByteArray × Bool :=
  if bt s 0 = 69 ∧ entryOk t (bt s (a : Int)) (s.extract (a + 1) s.size) = true ∧ 1 ≤ n ∧ n ≤ 1000000 then ((n : Int), (t : Int), bt s (a : Int), s.extract (a + 1) s.size, true) else (0, 0, 0, ⟨#[]⟩, false)
def readEntry (s : ByteArray) : Int × Int × Int × ByteArray × Bool :=
  match rvar ((bytesOf s).drop 1) with
  | none => (0, 0, 0, ⟨#[]⟩, false)
  | some (n, m) => match rvar ((bytesOf s).drop (1 + m)) with
    | none => (0, 0, 0, ⟨#[]⟩, false)
    | some (t, m2) => if 1 + m + m2 < s.size then rEnt s n t (1 + m + m2) else (0, 0, 0, ⟨#[]⟩, false)
theorem rEnt_text {s : ByteArray} {n m t m2 : Nat} (h1 : rvar ((bytesOf s).drop 1) = some (n, m)) (h2 : rvar ((bytesOf s).drop (1 + m)) = some (t, m2)) (h : 1 + m + m2 < s.size) :
    (⟨#[69]⟩ : ByteArray) ++ vt n ++ vt t ++ strOfNums [bt s ((1 + m + m2 : Nat) : Int) % 256] ++ s.extract (1 + m + m2 + 1) s.size = s ↔ bt s 0 = 69 := by
  have hr := bt_range s ((1 + m + m2 : Nat) : Int)
  have hr0 := bt_range s 0
  have e0 : s.extract 0 1 = strOfNums [bt s 0] := extract_one (a := 0) (by omega)
  have key : s = strOfNums [bt s 0] ++ vt n ++ vt t ++ strOfNums [bt s ((1 + m + m2 : Nat) : Int) % 256] ++ s.extract (1 + m + m2 + 1) s.size := by
    rw [← e0, rvar_vt h1, rvar_vt h2, Int.emod_eq_of_lt (by omega) (by omega), ← extract_one h]
    rw [extract_extract_append _ _ _ _ (by omega) (by omega), extract_extract_append _ _ _ _ (by omega) (by omega), extract_extract_append _ _ _ _ (by omega) (by omega), extract_extract_append _ _ _ _ (by omega) (by omega), extract_all]
  constructor
  · intro e
    have e' : (⟨#[69]⟩ : ByteArray) ++ (vt n ++ (vt t ++ (strOfNums [bt s ((1 + m + m2 : Nat) : Int) % 256] ++ s.extract (1 + m + m2 + 1) s.size))) = strOfNums [bt s 0] ++ (vt n ++ (vt t ++ (strOfNums [bt s ((1 + m + m2 : Nat) : Int) % 256] ++ s.extract (1 + m + m2 + 1) s.size))) := by
      simp only [append_assoc] at e key
      rw [e]; exact key
    have := congrArg bytesOf e'
    simp only [bytes_append] at this
    rw [bytes_str (xs := [bt s 0]) (by simp; omega)] at this
    have h69 : bytesOf (⟨#[69]⟩ : ByteArray) = [69] := rfl
    rw [h69] at this
    simp only [List.singleton_append, List.cons.injEq] at this
    omega
  · intro e
    rw [e] at key
    exact key.symm
theorem spec_ReadEntry_bad1 (s : ByteArray) (hs : s.size ≤ 140737488351232) (r : ByteArray) (a : Int) :
    Ev (fun k => (spec_l05Var.f k s a true).bind fun bt158 => ((spec_l05Var.f k bt158.2.1 bt158.2.2.1 bt158.2.2.2).bind fun bt163 => ((spec_l05Take.f bt163.2.1 bt163.2.2.1 bt163.2.2.2 1).bind fun bt167 => (if bt167.2.2.2 = true then (some ((0 : Int), (0 : Int), (0 : Int), (⟨#[]⟩ : ByteArray), false)) else none)))) (0, 0, 0, ⟨#[]⟩, false) := by
  refine Ev.bind (spec_l05Var_ev s hs a true) ?_
  rw [varC_bad]
  refine Ev.bind (spec_l05Var_ev s hs a true) ?_
  rw [varC_bad]
  refine Ev.is ?_
  simp only [spec_l05Take_bad, Option.bind_some, if_true]
theorem spec_ReadEntry_ev (s : ByteArray) (hs : s.size ≤ 17592186044416) : Ev (fun k => spec_ReadEntry.f k s) (readEntry s) := by
  unfold spec_ReadEntry.f readEntry
  by_cases h0 : s.size = 0
  · rw [rvar_nil (by omega)]
    refine Ev.bind0 (spec_l05Take_no (a := 0) (by omega) (by omega) (by omega) (by omega)) ?_
    refine Ev.bind (spec_l05Var_ev s (by omega) _ true) ?_
    rw [varC_bad]
    refine Ev.bind (spec_l05Var_ev s (by omega) _ true) ?_
    rw [varC_bad]
    exact Ev.bind0 (spec_l05Take_bad _ _ _) (Ev.pos rfl (Ev.now _))
  · refine Ev.bind0 (spec_l05Take_ok (a := 0) (n := 1) (by omega) (by omega)) ?_
    refine Ev.bind (spec_l05Var_ev s (by omega) ((1 : Nat) : Int) false) ?_
    cases e1 : rvar ((bytesOf s).drop 1) with
    | none =>
      rw [varC_none (by omega) e1]
      refine Ev.bind (spec_l05Var_ev s (by omega) _ true) ?_
      rw [varC_bad]
      exact Ev.bind0 (spec_l05Take_bad _ _ _) (Ev.pos rfl (Ev.now _))
    | some p =>
      obtain ⟨n, m⟩ := p
      have b1 := rvar_some e1
      rw [varC_some (by omega) e1]
      refine Ev.bind (spec_l05Var_ev s (by omega) ((1 + m : Nat) : Int) false) ?_
      simp only
      cases e2 : rvar ((bytesOf s).drop (1 + m)) with
      | none =>
        rw [varC_none (by omega) e2]
        exact Ev.bind0 (spec_l05Take_bad _ _ _) (Ev.pos rfl (Ev.now _))
      | some q =>
        obtain ⟨t, m2⟩ := q
        have b2 := rvar_some e2
        rw [varC_some (by omega) e2]
        simp only
        by_cases h3 : 1 + m + m2 < s.size
        · rw [if_pos h3]
          refine Ev.bind0 (spec_l05Take_ok (a := 1 + m + m2) (n := 1) (by omega) (by omega)) ?_
          have hx : (s.extract (1 + m + m2) (1 + m + m2 + 1)).size = 1 := by rw [size_extract _ _ _ (by omega) (by omega)]; omega
          have hr := bt_range s ((1 + m + m2 : Nat) : Int)
          refine Ev.neg (by simp) (Ev.pos (by simp only; omega) (Ev.pos (by simp only; omega) (Ev.pos (by simp only; omega) ?_)))
          simp only [Int.toNat_natCast]
          rw [bt_one h3, w64 (by omega) (by omega)]
          refine Ev.bind (spec_EntryText_ev _ _ _ _ (by rw [size_extract _ _ _ (by omega) (by omega)]; omega)) ?_
          unfold entryText rEnt
          by_cases hk : entryOk (t : Int) (bt s ((1 + m + m2 : Nat) : Int)) (s.extract (1 + m + m2 + 1) s.size) = true ∧ (1 : Int) ≤ n ∧ (n : Int) ≤ 1000000
          · rw [if_pos hk]
            refine Ev.pos rfl ?_
            simp only [Int.toNat_natCast]
            by_cases hq : bt s 0 = 69
            · refine Ev.pos ((toList_iff _ _).2 ((rEnt_text e1 e2 h3).2 hq)) ((Ev.now _).eq ?_)
              rw [if_pos ⟨hq, hk.1, by omega, by omega⟩]
            · refine Ev.neg (fun e => hq ((rEnt_text e1 e2 h3).1 ((toList_iff _ _).1 e))) ((Ev.now _).eq ?_)
              rw [if_neg (fun e => hq e.1)]
          · have hk' : ¬ (bt s 0 = 69 ∧ entryOk (t : Int) (bt s ((1 + m + m2 : Nat) : Int)) (s.extract (1 + m + m2 + 1) s.size) = true ∧ 1 ≤ n ∧ n ≤ 1000000) := fun e => hk ⟨e.2.1, by omega, by omega⟩
            rw [if_neg hk, if_neg hk']
            exact Ev.neg (by simp) (Ev.now _)
        · rw [if_neg h3]
          exact Ev.bind0 (spec_l05Take_no (a := 1 + m + m2) (by omega) (by omega) (by omega) (by omega)) (Ev.pos rfl (Ev.now _))
theorem impl_within_is (a b c : Int) : impl_within.f a b c = some (inR a b c) := by
  unfold impl_within.f inR
  by_cases h : a ≥ b
  · rw [if_pos h]; congr 1; simp; omega
  · rw [if_neg h]; congr 1; simp; omega
theorem impl_ConfOk_l0 (l : List Int) (hl : l.length ≤ 35184372088832) : ∀ (d i : Nat) (p : Int), i + d = l.length → (i = 0 → p = 0) → (0 < i → p = rd l ((i - 1 : Nat) : Int)) →
    Ev (fun k => impl_ConfOk.l0 k l l (l.length : Int) (i : Int)) (decide (1 ≤ l.length ∧ l.length ≤ 4) && riseF p (l.drop i))
  | 0, i, p, h, h0, h1 => by
    refine Ev.step (f := fun k => some (decide (1 ≤ l.length ∧ l.length ≤ 4))) (fun k => ?_) ((Ev.now _).eq ?_)
    · simp only [impl_ConfOk.l0]; rw [if_neg (by omega), impl_within_is, Option.bind_some]
      congr 1
      unfold inR
      congr 1
      simp only [eq_iff_iff]
      omega
    · rw [List.drop_of_length_le (by omega)]; simp [riseF]
  | d + 1, i, p, h, h0, h1 => by
    rw [rd_drop (l := l) (by omega)]
    have ih := impl_ConfOk_l0 l hl d (i + 1) (rd l (i : Int)) (by omega) (by omega) (fun _ => by simp)
    by_cases hin : 1 ≤ rd l (i : Int) ∧ rd l (i : Int) ≤ 4
    · by_cases hi : 0 < i
      · have hp := h1 hi
        have ei : wrap64 ((i : Int) - 1) = ((i - 1 : Nat) : Int) := by rw [w64 (by omega) (by omega)]; omega
        by_cases hlt : p < rd l (i : Int)
        · refine Ev.step (f := fun k => impl_ConfOk.l0 k l l (l.length : Int) ((i + 1 : Nat) : Int)) (fun k => ?_) (ih.eq ?_)
          · simp only [impl_ConfOk.l0]
            rw [if_pos (by omega), if_pos (by omega), if_pos (by omega), impl_within_is, Option.bind_some, if_pos (inR_iff.2 hin), if_pos (by omega), ei, if_pos (by omega), if_pos (by omega), if_neg (by omega)]
            rw [w64 (x := (i : Int) + 1) (by omega) (by omega)]; rfl
          · simp only [riseF]; rw [decide_eq_true (p := _ ∧ _ ∧ _) ⟨hin.1, hin.2, hlt⟩, Bool.true_and]
        · refine Ev.step (f := fun k => some false) (fun k => ?_) ((Ev.now _).eq ?_)
          · simp only [impl_ConfOk.l0]
            rw [if_pos (by omega), if_pos (by omega), if_pos (by omega), impl_within_is, Option.bind_some, if_pos (inR_iff.2 hin), if_pos (by omega), ei, if_pos (by omega), if_pos (by omega), if_pos (by omega)]
          · simp only [riseF]; rw [decide_eq_false (p := _ ∧ _ ∧ _) (fun e => hlt e.2.2), Bool.false_and, Bool.and_false]
      · have hp := h0 (by omega)
        refine Ev.step (f := fun k => impl_ConfOk.l0 k l l (l.length : Int) ((i + 1 : Nat) : Int)) (fun k => ?_) (ih.eq ?_)
        · simp only [impl_ConfOk.l0]
          rw [if_pos (by omega), if_pos (by omega), if_pos (by omega), impl_within_is, Option.bind_some, if_pos (inR_iff.2 hin), if_neg (by omega)]
          rw [w64 (x := (i : Int) + 1) (by omega) (by omega)]; rfl
        · simp only [riseF]; rw [decide_eq_true (p := _ ∧ _ ∧ _) ⟨hin.1, hin.2, by omega⟩, Bool.true_and]
    · refine Ev.step (f := fun k => some false) (fun k => ?_) ((Ev.now _).eq ?_)
      · simp only [impl_ConfOk.l0]
        rw [if_pos (by omega), if_pos (by omega), if_pos (by omega), impl_within_is, Option.bind_some, if_neg (fun e => hin (inR_iff.1 e))]
      · simp only [riseF]; rw [decide_eq_false (p := _ ∧ _ ∧ _) (fun e => hin ⟨e.1, e.2.1⟩), Bool.false_and, Bool.and_false]
theorem impl_ConfOk_ev (l : List Int) (hl : l.length ≤ 35184372088832) : Ev (fun k => impl_ConfOk.f k l) (confOk l) := by
  have := impl_ConfOk_l0 l hl l.length 0 0 (by omega) (fun _ => rfl) (fun h => absurd h (by omega))
  exact this
theorem impl_ReadConf_l0 (s : ByteArray) (hs : s.size ≤ 17592186044416) : ∀ (d i : Nat), i + d = s.size →
    Ev (fun k => impl_ReadConf.l0 k s ((bytesOf s).take i) (i : Int)) (readConf s)
  | 0, i, h => by
    have e : (bytesOf s).take i = bytesOf s := List.take_of_length_le (by rw [bytesOf_length]; omega)
    rw [e]
    refine Ev.step (f := fun k => (impl_ConfOk.f k (bytesOf s)).bind fun t => if t = true then some (bytesOf s, true) else some ([], false)) (fun k => ?_) (Ev.bind (impl_ConfOk_ev _ (by rw [bytesOf_length]; omega)) (Ev.is ?_))
    · simp only [impl_ReadConf.l0]; rw [if_neg (by omega)]
    · unfold readConf
      by_cases h : confOk (bytesOf s) = true
      · rw [if_pos h, if_pos h]
      · rw [if_neg h, if_neg h]
  | d + 1, i, h => by
    have hr := bt_range s (i : Int)
    have hl : ((bytesOf s).take i).length = i := by rw [List.length_take, bytesOf_length]; omega
    refine Ev.step (f := fun k => impl_ReadConf.l0 k s ((bytesOf s).take (i + 1)) ((i + 1 : Nat) : Int)) (fun k => ?_) (impl_ReadConf_l0 s hs d (i + 1) (by omega))
    simp only [impl_ReadConf.l0]
    rw [if_pos (by omega), if_pos (by omega), if_pos (by omega), w64 (x := (i : Int) + 1) (by omega) (by omega), w64 (x := bt s i) (by omega) (by omega)]
    have e := Led.take_succ (s := s) (a := 0) (i := i) (by omega)
    rw [List.drop_zero, Nat.zero_add] at e
    rw [e]; rfl
theorem impl_ReadConf_ev (s : ByteArray) (hs : s.size ≤ 17592186044416) : Ev (fun k => impl_ReadConf.f k s) (readConf s) := by
  have := impl_ReadConf_l0 s hs s.size 0 (by omega)
  rw [List.take_zero] at this
  exact this
theorem impl_EntryOk_ev (a b : Int) (c : ByteArray) (hc : c.size ≤ 17592186044416) : Ev (fun k => impl_EntryOk.f k a b c) (entryOk a b c) := by
  unfold impl_EntryOk.f entryOk
  refine Ev.bind0 (impl_within_is _ _ _) ?_
  by_cases h : 0 ≤ a ∧ a ≤ 100000
  · refine Ev.pos (inR_iff.2 h) ?_
    rw [decide_eq_true h, Bool.true_and]
    by_cases h1 : b = 1
    · refine Ev.pos h1 (Ev.is ?_); rw [if_pos h1]
    · refine Ev.neg h1 ?_
      rw [if_neg h1]
      by_cases h2 : b = 2
      · refine Ev.pos h2 (Ev.bind (impl_ReadConf_ev c (by omega)) (Ev.is ?_)); rw [if_pos h2]
      · refine Ev.neg h2 ?_
        rw [if_neg h2]
        by_cases h3 : b = 3
        · refine Ev.pos h3 (Ev.is ?_); rw [if_pos h3]
        · refine Ev.neg h3 (Ev.is ?_); rw [if_neg h3]
  · refine Ev.neg (fun e => h (inR_iff.1 e)) (Ev.is ?_)
    rw [decide_eq_false h, Bool.false_and]
theorem impl_reader_byte_bad (s : ByteArray) (a : Int) : impl_reader_byte.f s a true = some (0, s, a, true) := by
  unfold impl_reader_byte.f; rw [if_pos rfl]
theorem impl_reader_byte_no {s : ByteArray} {a : Nat} (h : s.size ≤ a) : impl_reader_byte.f s (a : Int) false = some (0, s, (a : Int), true) := by
  unfold impl_reader_byte.f; rw [if_neg (by simp), if_pos (by omega)]
theorem impl_reader_byte_ok {s : ByteArray} (hs : s.size ≤ 140737488351232) {a : Nat} (h : a < s.size) : impl_reader_byte.f s (a : Int) false = some (bt s (a : Int), s, ((a + 1 : Nat) : Int), false) := by
  have hr := bt_range s (a : Int)
  unfold impl_reader_byte.f
  rw [if_neg (by simp), if_neg (by omega), w64 (x := (a : Int) + 1) (by omega) (by omega), w64 (x := (a : Int) + 1 - 1) (by omega) (by omega), if_pos (by omega), if_pos (by omega)]
  have e : (a : Int) + 1 - 1 = a := by omega
  rw [e, w64 (by omega) (by omega), Int.natCast_add]; rfl
theorem impl_VarText_l0 : ∀ (n : Nat) (acc : List Int), acc.length + n < 140737488355328 → Ev (fun k => impl_VarText.l0 k (n : Int) acc) (strOfNums (acc ++ varL n), true) := by
  intro n
  induction n using Nat.strongRecOn with
  | _ n ih =>
    intro acc ha
    by_cases h : 127 < n
    · refine Ev.step (f := fun k => impl_VarText.l0 k ((n / 128 : Nat) : Int) (acc ++ [((n % 128 + 128 : Nat) : Int)])) (fun k => ?_) ?_
      · simp only [impl_VarText.l0]
        rw [if_pos (by omega), if_pos (by omega), td (by omega), tm (by omega)]
        rw [w64 (x := (n : Int) / 128) (by omega) (by omega), w64 (x := (n : Int) % 128 + 128) (by omega) (by omega)]
        congr 3
        omega
      · refine (ih (n / 128) (by omega) _ (by simp; omega)).eq ?_
        rw [varL_big h, List.append_assoc]; rfl
    · refine Ev.step (f := fun k => some (strOfNums (acc ++ varL n), true)) (fun k => ?_) (Ev.now _)
      simp only [impl_VarText.l0]
      rw [if_neg (by omega), if_pos (by omega), varL_small h]
      congr 5
      omega
theorem impl_VarText_ev (n : Int) : Ev (fun k => impl_VarText.f k n) (varText n) := by
  unfold impl_VarText.f
  refine Ev.bind0 (impl_within_is _ _ _) ?_
  by_cases h : 0 ≤ n ∧ n ≤ 1000000000
  · refine Ev.pos (inR_iff.2 h) ?_
    have := impl_VarText_l0 n.toNat [] (by simp; omega)
    rw [Int.toNat_of_nonneg h.1] at this
    refine this.eq ?_
    rw [varText, if_pos h]; rfl
  · refine Ev.neg (fun e => h (inR_iff.1 e)) (Ev.is ?_)
    rw [varText, if_neg h]
theorem impl_ReadVar_l0 (s : ByteArray) (hs : s.size ≤ 140737488351232) (a : Nat) : ∀ (f i n : Nat), i + f = 5 → n < 128 ^ i → a + i ≤ s.size →
    Ev (fun k => impl_ReadVar.l0 k s (a : Int) (n : Int) (i : Int))
      (match rvL f i n ((bytesOf s).drop (a + i)) with | some (n, m) => ((n : Int), (a : Int) + m, true) | none => (0, 0, false))
  | 0, i, n, hi, hn, h1 => by
    refine Ev.step (f := fun k => impl_ReadVar.j1 k s (a : Int) (n : Int) (i : Int) false) (fun k => ?_) ?_
    · simp only [impl_ReadVar.l0]
      rw [if_neg (by omega)]
    · refine Ev.step (f := fun _ => some (0, 0, false)) (fun k => ?_) (Ev.now _)
      simp only [impl_ReadVar.j1]; rfl
  | f + 1, i, n, hi, hn, h1 => by
    by_cases hlt : a + i < s.size
    · have hr := bt_range s ((a + i : Nat) : Int)
      have hp := pow_bound (i := i) (by omega)
      have hm := mul_bound (bt s ((a + i : Nat) : Int)).toNat (128 ^ i) hp.1
      have ei : (a : Int) + (i : Int) = ((a + i : Nat) : Int) := by omega
      rw [bytes_drop hlt]
      refine Ev.step (f := fun k => impl_ReadVar.j1 k s (a : Int) (n : Int) (i : Int) true) (fun k => ?_) ?_
      · simp only [impl_ReadVar.l0]
        rw [if_pos (by omega), w64 (x := (a : Int) + i) (by omega) (by omega)]
        rw [show decide ((a : Int) + i < (s.size : Int)) = true from by simp; omega]
      have hb : wrap64 (bt s ((a + i : Nat) : Int)) = bt s ((a + i : Nat) : Int) := w64 (by omega) (by omega)
      have e0 : shl .i64 (Int.tmod (bt s ((a + i : Nat) : Int)) 128) (7 * (i : Int)) = (((bt s ((a + i : Nat) : Int)).toNat % 128 * 128 ^ i : Nat) : Int) := by
        unfold shl
        rw [tm (by omega), i64_w, show (7 * (i : Int)).toNat = 7 * i from by omega, show min (7 * i) IntKind.i64.bits = 7 * i from by simp [IntKind.bits]; omega]
        have e7 : (2 : Int) ^ (7 * i) = ((128 ^ i : Nat) : Int) := by
          rw [show (128 : Nat) = 2 ^ 7 from rfl, ← Nat.pow_mul]; simp
        rw [e7, Int.natCast_mul, w64]
        · congr 1; omega
        · have := Int.mul_nonneg (a := bt s ((a + i : Nat) : Int) % 128) (b := ((128 ^ i : Nat) : Int)) (by omega) (by omega)
          omega
        · have e8 : bt s ((a + i : Nat) : Int) % 128 = (((bt s ((a + i : Nat) : Int)).toNat % 128 : Nat) : Int) := by omega
          rw [e8, ← Int.natCast_mul]; omega
      generalize hc : (bt s ((a + i : Nat) : Int)).toNat % 128 * 128 ^ i = q at *
      have e2 : wrap64 ((n : Int) + shl .i64 (Int.tmod (wrap64 (bt s ((a + i : Nat) : Int))) 128) (wrap64 (7 * (i : Int)))) = ((n + q : Nat) : Int) := by
        rw [hb, w64 (x := 7 * (i : Int)) (by omega) (by omega), e0, w64 (by omega) (by omega)]; omega
      by_cases hb' : bt s ((a + i : Nat) : Int) < 128
      · simp only [rvL, if_pos hb', hc]
        refine Ev.step (f := fun k => (impl_VarText.f k ((n + q : Nat) : Int)).bind fun bt => (if bt.2 = true then (if (bt.1.size : Int) = (i : Int) + 1 then some (((n + q : Nat) : Int), ((a + i + 1 : Nat) : Int), true) else some (0, 0, false)) else some (0, 0, false))) (fun k => ?_) ?_
        · simp only [impl_ReadVar.j1, if_true]
          rw [w64 (x := (a : Int) + i) (by omega) (by omega), ei, if_pos (by omega), if_pos (by omega), if_pos (by rw [w64 (by omega) (by omega)]; omega), hb, if_pos hb']
          rw [hb] at e2
          rw [e2, w64 (x := (i : Int) + 1) (by omega) (by omega), w64 (x := ((a + i : Nat) : Int) + 1) (by omega) (by omega)]
          rfl
        · refine Ev.bind (impl_VarText_ev _) (Ev.is ?_)
          by_cases hM : n + q ≤ 1000000000
          · rw [varText_ok (by omega) (by omega), Int.toNat_natCast]
            simp only [if_true, vt_size]
            by_cases hq : (varL (n + q)).length = i + 1
            · rw [if_pos (by omega), if_pos ⟨hM, hq⟩]
              simp only [Option.some.injEq, Prod.mk.injEq, and_true, true_and]; omega
            · rw [if_neg (by omega), if_neg (fun e => hq e.2)]
          · rw [varText_no (by omega), if_neg (c := _ ∧ _) (fun e => hM e.1)]; simp
      · simp only [rvL, if_neg hb', hc]
        refine Ev.step (f := fun k => impl_ReadVar.l0 k s (a : Int) ((n + q : Nat) : Int) ((i + 1 : Nat) : Int)) (fun k => ?_) (impl_ReadVar_l0 s hs a f (i + 1) (n + q) (by omega) ?_ (by omega))
        · simp only [impl_ReadVar.j1, if_true]
          rw [w64 (x := (a : Int) + i) (by omega) (by omega), ei, if_pos (by omega), if_pos (by omega), if_pos (by rw [w64 (by omega) (by omega)]; omega), hb, if_neg hb']
          rw [hb] at e2
          rw [e2, w64 (x := (i : Int) + 1) (by omega) (by omega)]
          rfl
        · rw [Nat.pow_succ, ← hc]
          have h2 : (bt s ((a + i : Nat) : Int)).toNat % 128 ≤ 127 := by omega
          have h3 := Nat.mul_le_mul_right (128 ^ i) h2
          omega
    · rw [List.drop_of_length_le (by rw [bytesOf_length]; omega)]
      refine Ev.step (f := fun k => impl_ReadVar.j1 k s (a : Int) (n : Int) (i : Int) false) (fun k => ?_) ?_
      · simp only [impl_ReadVar.l0]
        rw [if_pos (by omega), w64 (x := (a : Int) + i) (by omega) (by omega)]
        rw [show decide ((a : Int) + i < (s.size : Int)) = false from by simp; omega]
      · refine Ev.step (f := fun _ => some (0, 0, false)) (fun k => ?_) (Ev.now _)
        simp only [impl_ReadVar.j1]; rfl
theorem impl_ReadVar_ev (s : ByteArray) (hs : s.size ≤ 140737488351232) (a : Int) : Ev (fun k => impl_ReadVar.f k s a) (readVar s a) := by
  unfold impl_ReadVar.f readVar
  refine Ev.bind0 (impl_within_is _ _ _) ?_
  by_cases h : 0 ≤ a ∧ a ≤ (s.size : Int)
  · rw [if_pos h]
    refine Ev.pos (inR_iff.2 h) ?_
    have := impl_ReadVar_l0 s hs a.toNat 5 0 0 rfl (by simp) (by omega)
    simp only [Nat.add_zero, Int.toNat_of_nonneg h.1] at this
    exact this
  · rw [if_neg h]
    exact Ev.neg (fun e => h (inR_iff.1 e)) (Ev.now _)
theorem impl_reader_num_ev (s : ByteArray) (hs : s.size ≤ 140737488351232) (a : Int) (b : Bool) : Ev (fun k => impl_reader_num.f k s a b) (varC s a b) := by
  unfold impl_reader_num.f varC
  refine Ev.bind (impl_ReadVar_ev s hs a) (Ev.is ?_)
  split <;> (try split) <;> simp_all
theorem impl_ReadEntry_ev (s : ByteArray) (hs : s.size ≤ 17592186044416) : Ev (fun k => impl_ReadEntry.f k s) (readEntry s) := by
  unfold impl_ReadEntry.f readEntry
  by_cases h0 : s.size = 0
  · rw [rvar_nil (by omega)]
    refine Ev.bind0 (impl_reader_byte_no (a := 0) (by omega)) ?_
    refine Ev.bind (impl_reader_num_ev s (by omega) _ true) ?_
    rw [varC_bad]
    refine Ev.bind (impl_reader_num_ev s (by omega) _ true) ?_
    rw [varC_bad]
    exact Ev.bind0 (impl_reader_byte_bad _ _) (Ev.pos rfl (Ev.step (fun k => rfl) (Ev.now _)))
  · refine Ev.bind0 (impl_reader_byte_ok (a := 0) (by omega) (by omega)) ?_
    refine Ev.bind (impl_reader_num_ev s (by omega) ((1 : Nat) : Int) false) ?_
    cases e1 : rvar ((bytesOf s).drop 1) with
    | none =>
      rw [varC_none (by omega) e1]
      refine Ev.bind (impl_reader_num_ev s (by omega) _ true) ?_
      rw [varC_bad]
      exact Ev.bind0 (impl_reader_byte_bad _ _) (Ev.pos rfl (Ev.step (fun k => rfl) (Ev.now _)))
    | some p =>
      obtain ⟨n, m⟩ := p
      have b1 := rvar_some e1
      rw [varC_some (by omega) e1]
      refine Ev.bind (impl_reader_num_ev s (by omega) ((1 + m : Nat) : Int) false) ?_
      simp only
      cases e2 : rvar ((bytesOf s).drop (1 + m)) with
      | none =>
        rw [varC_none (by omega) e2]
        exact Ev.bind0 (impl_reader_byte_bad _ _) (Ev.pos rfl (Ev.step (fun k => rfl) (Ev.now _)))
      | some q =>
        obtain ⟨t, m2⟩ := q
        have b2 := rvar_some e2
        rw [varC_some (by omega) e2]
        simp only
        by_cases h3 : 1 + m + m2 < s.size
        · rw [if_pos h3]
          refine Ev.bind0 (impl_reader_byte_ok (a := 1 + m + m2) (by omega) (by omega)) ?_
          refine Ev.neg (by simp) ?_
          unfold rEnt
          by_cases hq : bt s 0 = 69
          · simp only [show (bt s ((0 : Nat) : Int) != 69) = false from by simpa using hq]
            refine Ev.step (f := fun k => (impl_EntryOk.f k t (bt s ((1 + m + m2 : Nat) : Int)) (s.extract (1 + m + m2 + 1) s.size)).bind fun t216 => (if t216 = true then ((impl_within.f n 1 1000000).bind fun t217 => (if t217 = true then (some ((n : Int), (t : Int), bt s ((1 + m + m2 : Nat) : Int), s.extract (1 + m + m2 + 1) s.size, true)) else (some (0, 0, 0, (⟨#[]⟩ : ByteArray), false)))) else (some (0, 0, 0, (⟨#[]⟩ : ByteArray), false)))) (fun k => ?_) ?_
            · simp only [impl_ReadEntry.j0]
              rw [if_neg (by simp), if_pos (by omega), if_pos (by omega), Int.toNat_natCast]
            · refine Ev.bind (impl_EntryOk_ev _ _ _ (by rw [size_extract _ _ _ (by omega) (by omega)]; omega)) ?_
              by_cases hk : entryOk (t : Int) (bt s ((1 + m + m2 : Nat) : Int)) (s.extract (1 + m + m2 + 1) s.size) = true
              · refine Ev.pos hk (Ev.bind0 (impl_within_is _ _ _) ?_)
                by_cases hn : (1 : Int) ≤ n ∧ (n : Int) ≤ 1000000
                · refine Ev.pos (inR_iff.2 hn) ((Ev.now _).eq ?_)
                  rw [if_pos ⟨hq, hk, by omega, by omega⟩]
                · refine Ev.neg (fun e => hn (inR_iff.1 e)) ((Ev.now _).eq ?_)
                  rw [if_neg (fun e => hn ⟨by omega, by omega⟩)]
              · refine Ev.neg hk ((Ev.now _).eq ?_)
                rw [if_neg (fun e => hk e.2.1)]
          · simp only [show (bt s ((0 : Nat) : Int) != 69) = true from by simpa using hq]
            rw [if_neg (fun e => hq e.1)]
            exact Ev.step (fun k => rfl) (Ev.now _)
        · rw [if_neg h3]
          exact Ev.bind0 (impl_reader_byte_no (a := 1 + m + m2) (by omega)) (Ev.pos rfl (Ev.step (fun k => rfl) (Ev.now _)))
theorem laws_eqEntry_is (a b : Int) (c : ByteArray) : laws_eqEntry.f a b c a b c = some true := by
  unfold laws_eqEntry.f; simp
theorem FnExactReadEntry : laws_FnExactReadEntry.Pure := by
  intro s hs
  apply Ev.rounds
  unfold laws_FnExactReadEntry.f
  by_cases h : (s.size : Int) > 1048576
  · exact Ev.pos h (Ev.now _)
  · exact Ev.neg h (Ev.bind (spec_ReadEntry_ev s (by omega)) (Ev.bind (impl_ReadEntry_ev s (by omega)) (Ev.pos rfl (Ev.bind0 (laws_eqEntry_is _ _ _) (Ev.pos rfl (Ev.neg (by simp) (Ev.now _)))))))

end Go.Proofs.Ythddngmncmhkoaa.Pure
