/- The law FnExactReadSnap answers true at every input; no condition. -/
import Derived.Test.YtcbfdokmkhmabaaQFnExactReadSnapx9
import Derived.Test.YtcbfdokmkhmabaaTM
namespace Go.Proofs.Ytcbfdokmkhmabaa.Pure
open Go.RowKit Go.Proofs.Ytcbfdokmkhmabaa.QFnExactReadSnap Go.Proofs.YtcbfdokmkhmabaaW.PrintWords Go.Proofs.YtcbfdokmkhmabaaW.PrintLast Go.Proofs.YtcbfdokmkhmabaaW.PrintMore Go.Proofs.Ytcbfdokmkhmabaa.M
set_option linter.unusedVariables false
set_option linter.unusedSimpArgs false
set_option maxRecDepth 4000

theorem spec_l02Four_is (x : Int) : spec_l02Four.f x = some (four x) := rfl
theorem spec_SumMore_l1 {s : ByteArray} {i r : Int} : ∀ (d : Nat) (j x0 : Int), 0 ≤ j → j + d = 8 → Ev (fun k => spec_SumMore.l0 k (halves d x0) s (wrap64 (i + 1))) r → Ev (fun k => spec_SumMore.l1 k x0 s i j) r
  | 0, j, x0, h0, h, hk => by
    refine Ev.step (f := fun k => spec_SumMore.l0 k x0 s (wrap64 (i + 1))) (fun k => ?_) hk
    simp only [spec_SumMore.l1]; rw [if_neg (by omega)]
  | d + 1, j, x0, h0, h, hk => by
    refine Ev.step (f := fun k => spec_SumMore.l1 k (half x0) s i (j + 1)) (fun k => ?_) (spec_SumMore_l1 d (j + 1) (half x0) (by omega) (by omega) hk)
    simp only [spec_SumMore.l1]; rw [if_pos (by omega), w64 (x := j + 1) (by omega) (by omega)]
    unfold half
    split <;> rfl
theorem spec_SumMore_l0 (s : ByteArray) (hs : s.size ≤ 140737488351232) : ∀ (d i : Nat) (x0 : Int), i + d = s.size → Ev (fun k => spec_SumMore.l0 k x0 s i) (sumL x0 ((bytesOf s).drop i))
  | 0, i, x0, h => by
    refine Ev.step (f := fun k => some x0) (fun k => ?_) ((Ev.now _).eq ?_)
    · simp only [spec_SumMore.l0]; rw [if_neg (by omega)]
    · rw [List.drop_of_length_le (by rw [bytesOf_length]; omega)]; rfl
  | d + 1, i, x0, h => by
    refine Ev.step (f := fun k => spec_SumMore.l1 k (Go.bits .xor .u32 x0 (bt s i % 4294967296)) s i 0) (fun k => ?_) (spec_SumMore_l1 8 0 _ (by omega) (by omega) ?_)
    · simp only [spec_SumMore.l0]; rw [if_pos (by omega), if_pos (by omega)]
    · rw [w64 (x := (i : Int) + 1) (by omega) (by omega)]
      have := spec_SumMore_l0 s hs d (i + 1) (halves 8 (Go.bits .xor .u32 x0 (bt s i % 4294967296))) (by omega)
      rw [bytes_drop (by omega)]
      exact this
theorem spec_SumMore_ev (x : Int) (s : ByteArray) (hs : s.size ≤ 140737488351232) : Ev (fun k => spec_SumMore.f k x s) (sumL x (bytesOf s)) := by
  have := spec_SumMore_l0 s hs s.size 0 x (by omega)
  exact this
theorem spec_SumOf_ev (s : ByteArray) (hs : s.size ≤ 140737488351232) : Ev (fun k => spec_SumOf.f k s) (sumOf s) := by
  unfold spec_SumOf.f
  exact Ev.bind (spec_SumMore_ev _ s hs) (Ev.now _)
theorem spec_Unsealed_ev (s : ByteArray) (hs : s.size ≤ 140737488351232) : Ev (fun k => spec_Unsealed.f k s) (unsealed s) := by
  unfold spec_Unsealed.f
  rw [w64 (x := (s.size : Int) - 4) (by omega) (by omega)]
  by_cases h1 : 4 ≤ s.size
  · refine Ev.neg (by omega) ?_
    by_cases h2 : s.size ≤ 20004
    · refine Ev.neg (by omega) (Ev.pos (by omega) (Ev.pos (by omega) ?_))
      have e : ((s.size : Int) - 4).toNat = s.size - 4 := by omega
      rw [e]
      have hz := size_extract s 0 (s.size - 4) (by omega) (by omega)
      refine Ev.bind (spec_SumOf_ev _ (by omega)) (Ev.bind0 (spec_l02Four_is _) (Ev.is ?_))
      unfold unsealed
      by_cases h3 : s.extract (s.size - 4) s.size = four (sumOf (s.extract 0 (s.size - 4)))
      · rw [if_pos ((toList_iff _ _).2 h3), if_pos ⟨h1, h2, h3⟩]
      · rw [if_neg (fun e => h3 ((toList_iff _ _).1 e)), if_neg (fun e => h3 e.2.2)]
    · refine Ev.pos (by omega) (Ev.is ?_)
      rw [unsealed, if_neg (by omega)]
  · refine Ev.pos (by omega) (Ev.is ?_)
    rw [unsealed, if_neg (by omega)]
theorem spec_l01In_is (a b c : Int) : spec_l01In.f a b c = some (inR a b c) := by
  unfold spec_l01In.f inR
  by_cases h : a ≥ b
  · rw [if_pos h]; congr 1; simp; omega
  · rw [if_neg h]; congr 1; simp; omega
theorem spec_l01Var_l0 : ∀ (n : Nat) (acc : List Int), acc.length + n < 140737488355328 → Ev (fun k => spec_l01Var.l0 k (n : Int) acc) (strOfNums (acc ++ varL n)) := by
  intro n
  induction n using Nat.strongRecOn with
  | _ n ih =>
    intro acc ha
    by_cases h : 127 < n
    · refine Ev.step (f := fun k => spec_l01Var.l0 k ((n / 128 : Nat) : Int) (acc ++ [((n % 128 + 128 : Nat) : Int)])) (fun k => ?_) ?_
      · simp only [spec_l01Var.l0]
        rw [if_pos (by omega), if_pos (by omega), td (by omega), tm (by omega)]
        rw [w64 (x := (n : Int) / 128) (by omega) (by omega), w64 (x := (n : Int) % 128 + 128) (by omega) (by omega)]
        congr 3
        omega
      · refine (ih (n / 128) (by omega) _ (by simp; omega)).eq ?_
        rw [varL_big h, List.append_assoc]; rfl
    · refine Ev.step (f := fun k => some (strOfNums (acc ++ varL n))) (fun k => ?_) (Ev.now _)
      simp only [spec_l01Var.l0]
      rw [if_neg (by omega), if_pos (by omega), varL_small h]
      congr 4
      omega
theorem spec_l01Var_ev (n : Nat) (h : n < 140737488355328) : Ev (fun k => spec_l01Var.f k (n : Int)) (vt n) := by
  have := spec_l01Var_l0 n [] (by simpa using h)
  exact this
theorem spec_l01Var_evi (n : Int) (h0 : 0 ≤ n) (h : n < 140737488355328) : Ev (fun k => spec_l01Var.f k n) (vt n.toNat) := by
  have := spec_l01Var_ev n.toNat (by omega)
  rwa [Int.toNat_of_nonneg h0] at this
theorem spec_ReadVar_l0 (s : ByteArray) (hs : s.size ≤ 140737488351232) (a : Nat) : ∀ (f i n : Nat), i + f = 5 → Led s a i n →
    Ev (fun k => spec_ReadVar.l0 k s (a : Int) (n : Int) ((128 ^ i : Nat) : Int) ((a + i : Nat) : Int))
      (match rvL f i n ((bytesOf s).drop (a + i)) with | some (n, m) => ((n : Int), (a : Int) + m, true) | none => (0, 0, false))
  | 0, i, n, hi, hl => by
    have h1 := hl.1
    refine Ev.step (f := fun k => spec_ReadVar.j1 k s (a : Int) (n : Int) ((128 ^ i : Nat) : Int) ((a + i : Nat) : Int) false) (fun k => ?_) ?_
    · simp only [spec_ReadVar.l0]
      rw [w64 (x := (a : Int) + 5) (by omega) (by omega)]
      split
      · rw [show decide (((a + i : Nat) : Int) < (a : Int) + 5) = false from by simp; omega]
      · rfl
    · refine Ev.step (f := fun _ => some (0, 0, false)) (fun k => ?_) (Ev.now _)
      simp only [spec_ReadVar.j1]; rfl
  | f + 1, i, n, hi, hl => by
    have h1 := hl.1
    by_cases hlt : a + i < s.size
    · have hr := bt_range s ((a + i : Nat) : Int)
      have hp := pow_bound (i := i) (by omega)
      have hm := mul_bound (bt s ((a + i : Nat) : Int)).toNat (128 ^ i) hp.1
      have hn := hl.lt
      rw [bytes_drop hlt]
      refine Ev.step (f := fun k => spec_ReadVar.j1 k s (a : Int) (n : Int) ((128 ^ i : Nat) : Int) ((a + i : Nat) : Int) true) (fun k => ?_) ?_
      · simp only [spec_ReadVar.l0]
        rw [w64 (x := (a : Int) + 5) (by omega) (by omega), if_pos (by omega)]
        rw [show decide (((a + i : Nat) : Int) < (a : Int) + 5) = true from by simp; omega]
      have hb : wrap64 (bt s ((a + i : Nat) : Int)) = bt s ((a + i : Nat) : Int) := w64 (by omega) (by omega)
      have e1 : Int.tmod (bt s ((a + i : Nat) : Int)) 128 * ((128 ^ i : Nat) : Int) = (((bt s ((a + i : Nat) : Int)).toNat % 128 * 128 ^ i : Nat) : Int) := by
        rw [tm (by omega), Int.natCast_mul]; congr 1; omega
      generalize hc : (bt s ((a + i : Nat) : Int)).toNat % 128 * 128 ^ i = q at *
      have e2 : wrap64 ((n : Int) + wrap64 (Int.tmod (wrap64 (bt s ((a + i : Nat) : Int))) 128 * ((128 ^ i : Nat) : Int))) = ((n + q : Nat) : Int) := by
        rw [hb, e1, w64 (x := (q : Int)) (by omega) (by omega), w64 (by omega) (by omega)]; omega
      by_cases hb : bt s ((a + i : Nat) : Int) < 128
      · have hsame := hl.same hlt hb
        rw [hc] at hsame
        simp only [rvL, if_pos hb, hc]
        by_cases hM : n + q ≤ 1000000000
        · refine Ev.step (f := fun k => (spec_l01Var.f k ((n + q : Nat) : Int)).bind fun t => (if t.toList = (s.extract a (a + i + 1)).toList then some (((n + q : Nat) : Int), ((a + i + 1 : Nat) : Int), true) else some (0, 0, false))) (fun k => ?_) ?_
          · simp only [spec_ReadVar.j1, if_true]
            rw [if_pos (by omega), if_pos (by omega), if_pos hb, e2, if_neg (by omega)]
            rw [w64 (x := ((a + i : Nat) : Int) + 1) (by omega) (by omega)]
            simp only [if_pos (show (0 : Int) ≤ (a : Int) from by omega), if_pos (show (a : Int) ≤ ((a + i : Nat) : Int) + 1 from by omega), if_pos (show ((a + i : Nat) : Int) + 1 ≤ (s.size : Int) from by omega)]
            rw [show ((a : Int)).toNat = a from by omega, show (((a + i : Nat) : Int) + 1).toNat = a + i + 1 from by omega, show ((a + i : Nat) : Int) + 1 = ((a + i + 1 : Nat) : Int) from by omega]
          · refine Ev.bind (spec_l01Var_ev (n + q) (by omega)) (Ev.is ?_)
            by_cases hq : (varL (n + q)).length = i + 1
            · rw [if_pos (hsame.2 hq), if_pos ⟨hM, hq⟩]
              simp only [Option.some.injEq, Prod.mk.injEq, and_true, true_and]; omega
            · rw [if_neg (fun e => hq (hsame.1 e)), if_neg (fun e => hq e.2)]
        · refine Ev.step (f := fun k => some (0, 0, false)) (fun k => ?_) ((Ev.now _).eq ?_)
          · simp only [spec_ReadVar.j1, if_true]
            rw [if_pos (by omega), if_pos (by omega), if_pos hb, e2, if_pos (by omega)]
          · rw [if_neg (fun e => hM e.1)]
      · simp only [rvL, if_neg hb, hc]
        have hnext := hl.next hlt (by omega)
        rw [hc] at hnext
        have e3 : wrap64 (((128 ^ i : Nat) : Int) * 128) = ((128 ^ (i + 1) : Nat) : Int) := by
          rw [w64 (by omega) (by omega), Nat.pow_succ, Int.natCast_mul]; rfl
        refine Ev.step (f := fun k => spec_ReadVar.l0 k s (a : Int) ((n + q : Nat) : Int) ((128 ^ (i + 1) : Nat) : Int) ((a + (i + 1) : Nat) : Int)) (fun k => ?_) (spec_ReadVar_l0 s hs a f (i + 1) (n + q) (by omega) hnext)
        simp only [spec_ReadVar.j1, if_true]
        rw [if_pos (by omega), if_pos (by omega), if_neg hb, e2, e3]
        rw [w64 (x := ((a + i : Nat) : Int) + 1) (by omega) (by omega), show ((a + i : Nat) : Int) + 1 = ((a + (i + 1) : Nat) : Int) from by omega]
    · rw [List.drop_of_length_le (by rw [bytesOf_length]; omega)]
      refine Ev.step (f := fun k => spec_ReadVar.j1 k s (a : Int) (n : Int) ((128 ^ i : Nat) : Int) ((a + i : Nat) : Int) false) (fun k => ?_) ?_
      · simp only [spec_ReadVar.l0]
        rw [if_neg (by omega)]
      · refine Ev.step (f := fun _ => some (0, 0, false)) (fun k => ?_) (Ev.now _)
        simp only [spec_ReadVar.j1]; rfl
theorem spec_ReadVar_ev (s : ByteArray) (hs : s.size ≤ 140737488351232) (a : Int) : Ev (fun k => spec_ReadVar.f k s a) (readVar s a) := by
  unfold spec_ReadVar.f readVar
  refine Ev.bind0 (spec_l01In_is _ _ _) ?_
  by_cases h : 0 ≤ a ∧ a ≤ (s.size : Int)
  · rw [if_pos h]
    refine Ev.pos (inR_iff.2 h) ?_
    have := spec_ReadVar_l0 s hs a.toNat 5 0 0 rfl (Led.start s a.toNat (by omega))
    simp only [Nat.add_zero, Int.toNat_of_nonneg h.1] at this
    exact this
  · rw [if_neg h]
    exact Ev.neg (fun e => h (inR_iff.1 e)) (Ev.now _)
def varC (s : ByteArray) (a : Int) (b : Bool) : Int × ByteArray × Int × Bool :=
  if b = true then (0, s, a, true) else if (readVar s a).2.2 = true then ((readVar s a).1, s, (readVar s a).2.1, b) else (0, s, a, true)
theorem varC_bad (s : ByteArray) (a : Int) : varC s a true = (0, s, a, true) := by simp [varC]
theorem readVar_nat {s : ByteArray} {a : Nat} (h : a ≤ s.size) : readVar s (a : Int) = (match rvar ((bytesOf s).drop a) with | some (n, m) => ((n : Int), (a : Int) + m, true) | none => (0, 0, false)) := by
  rw [readVar, if_pos ⟨by omega, by omega⟩, Int.toNat_natCast]; cases rvar ((bytesOf s).drop a) <;> rfl
theorem varC_none {s : ByteArray} {a : Nat} (h : a ≤ s.size) (e : rvar ((bytesOf s).drop a) = none) : varC s (a : Int) false = (0, s, (a : Int), true) := by
  rw [varC, if_neg (by simp), readVar_nat h, e]; rfl
theorem varC_some {s : ByteArray} {a n m : Nat} (h : a ≤ s.size) (e : rvar ((bytesOf s).drop a) = some (n, m)) : varC s (a : Int) false = ((n : Int), s, ((a + m : Nat) : Int), false) := by
  rw [varC, if_neg (by simp), readVar_nat h, e]; simp
theorem rvar_nil {s : ByteArray} {a : Nat} (h : s.size ≤ a) : rvar ((bytesOf s).drop a) = none := by
  rw [List.drop_of_length_le (by rw [bytesOf_length]; exact h)]; rfl
theorem extract_one {s : ByteArray} {a : Nat} (h : a < s.size) : s.extract a (a + 1) = strOfNums [bt s (a : Int)] := bytes_inj (by
  have hr := bt_range s (a : Int)
  rw [bytes_extract, bytes_str (by simp; omega), bytes_drop h]
  simp)
theorem bt_one {s : ByteArray} {a : Nat} (h : a < s.size) : bt (s.extract a (a + 1)) 0 = bt s (a : Int) := by
  have hr := bt_range s (a : Int)
  have hz : 0 < (bytesOf (s.extract a (a + 1))).length := by rw [bytesOf_length, size_extract s a (a + 1) (by omega) (by omega)]; omega
  have := bytes_get (s.extract a (a + 1)) 0 hz
  rw [show ((0 : Nat) : Int) = 0 from rfl] at this
  rw [← this]
  simp only [extract_one h]
  simp only [bytes_str (xs := [bt s (a : Int)]) (by simp; omega), List.getElem_cons_zero]
theorem spec_l05Var_ev (s : ByteArray) (hs : s.size ≤ 140737488351232) (a : Int) (b : Bool) : Ev (fun k => spec_l05Var.f k s a b) (varC s a b) := by
  unfold spec_l05Var.f varC
  refine Ev.bind (spec_ReadVar_ev s hs a) (Ev.is ?_)
  split <;> (try split) <;> simp_all
theorem spec_l05Rise_l0 (l : List Int) (hl : l.length ≤ 35184372088832) : ∀ (d i : Nat) (p : Int), i + d = l.length → (i = 0 → p = 0) → (0 < i → p = rd l ((i - 1 : Nat) : Int)) →
    Ev (fun k => spec_l05Rise.l0 k l 1 4 (i : Int)) (riseF p (l.drop i))
  | 0, i, p, h, h0, h1 => by
    refine Ev.step (f := fun k => some true) (fun k => ?_) ((Ev.now _).eq ?_)
    · simp only [spec_l05Rise.l0]; rw [if_neg (by omega)]
    · rw [List.drop_of_length_le (by omega)]; rfl
  | d + 1, i, p, h, h0, h1 => by
    rw [rd_drop (l := l) (by omega)]
    have ih := spec_l05Rise_l0 l hl d (i + 1) (rd l (i : Int)) (by omega) (by omega) (fun _ => by simp)
    by_cases hin : 1 ≤ rd l (i : Int) ∧ rd l (i : Int) ≤ 4
    · by_cases hi : 0 < i
      · have hp := h1 hi
        have ei : wrap64 ((i : Int) - 1) = ((i - 1 : Nat) : Int) := by rw [w64 (by omega) (by omega)]; omega
        by_cases hlt : p < rd l (i : Int)
        · refine Ev.step (f := fun k => spec_l05Rise.l0 k l 1 4 ((i + 1 : Nat) : Int)) (fun k => ?_) (ih.eq ?_)
          · simp only [spec_l05Rise.l0]
            rw [if_pos (by omega), if_pos (by omega), spec_l01In_is, Option.bind_some, if_pos (inR_iff.2 hin), if_pos (by omega), ei, if_pos (by omega), if_pos (by omega), if_neg (by omega)]
            rw [w64 (x := (i : Int) + 1) (by omega) (by omega)]; rfl
          · simp only [riseF]; rw [decide_eq_true ⟨hin.1, hin.2, hlt⟩, Bool.true_and]
        · refine Ev.step (f := fun k => some false) (fun k => ?_) ((Ev.now _).eq ?_)
          · simp only [spec_l05Rise.l0]
            rw [if_pos (by omega), if_pos (by omega), spec_l01In_is, Option.bind_some, if_pos (inR_iff.2 hin), if_pos (by omega), ei, if_pos (by omega), if_pos (by omega), if_pos (by omega)]
          · simp only [riseF]; rw [decide_eq_false (fun e => hlt e.2.2), Bool.false_and]
      · have hp := h0 (by omega)
        refine Ev.step (f := fun k => spec_l05Rise.l0 k l 1 4 ((i + 1 : Nat) : Int)) (fun k => ?_) (ih.eq ?_)
        · simp only [spec_l05Rise.l0]
          rw [if_pos (by omega), if_pos (by omega), spec_l01In_is, Option.bind_some, if_pos (inR_iff.2 hin), if_neg (by omega)]
          rw [w64 (x := (i : Int) + 1) (by omega) (by omega)]; rfl
        · simp only [riseF]; rw [decide_eq_true ⟨hin.1, hin.2, by omega⟩, Bool.true_and]
    · refine Ev.step (f := fun k => some false) (fun k => ?_) ((Ev.now _).eq ?_)
      · simp only [spec_l05Rise.l0]
        rw [if_pos (by omega), if_pos (by omega), spec_l01In_is, Option.bind_some, if_neg (fun e => hin (inR_iff.1 e))]
      · simp only [riseF]; rw [decide_eq_false (fun e => hin ⟨e.1, e.2.1⟩), Bool.false_and]
theorem spec_l05Rise_ev (l : List Int) (hl : l.length ≤ 35184372088832) : Ev (fun k => spec_l05Rise.f k l 1 4) (riseF 0 l) := by
  have := spec_l05Rise_l0 l hl l.length 0 0 (by omega) (fun _ => rfl) (fun h => absurd h (by omega))
  exact this
theorem spec_ConfOk_ev (l : List Int) (hl : l.length ≤ 35184372088832) : Ev (fun k => spec_ConfOk.f k l) (confOk l) := by
  unfold spec_ConfOk.f confOk
  refine Ev.bind0 (spec_l01In_is _ _ _) ?_
  by_cases h : 1 ≤ l.length ∧ l.length ≤ 4
  · rw [decide_eq_true h, Bool.true_and]
    exact Ev.pos (inR_iff.2 (by omega)) (Ev.bind (spec_l05Rise_ev l hl) (Ev.now _))
  · rw [decide_eq_false h, Bool.false_and]
    exact Ev.neg (fun e => h (by have := inR_iff.1 e; omega)) (Ev.now _)
theorem spec_ReadConf_end (s : ByteArray) (acc : List Int) (n : Nat) (hn : n ≤ 5) (hs : s.size ≤ 140737488351232) (ha : acc = (bytesOf s).take n) (hx : n = s.size ∨ n = 5) :
    Ev (fun k => if (acc.length : Int) = (s.size : Int) then ((spec_ConfOk.f k acc).bind fun t => if t = true then some (acc, true) else some ([], false)) else some ([], false)) (readConf s) := by
  have hl : acc.length = min n s.size := by rw [ha, List.length_take, bytesOf_length]
  by_cases e : acc.length = s.size
  · have : acc = bytesOf s := by rw [ha]; exact List.take_of_length_le (by rw [bytesOf_length]; omega)
    subst this
    refine Ev.pos (by omega) (Ev.bind (spec_ConfOk_ev _ (by omega)) (Ev.is ?_))
    unfold readConf
    by_cases h : confOk (bytesOf s) = true
    · rw [if_pos h, if_pos h]
    · rw [if_neg h, if_neg h]
  · refine Ev.neg (by omega) (Ev.is ?_)
    unfold readConf
    rw [if_neg]
    intro h
    have := confOk_len h
    rw [bytesOf_length] at this
    omega
theorem spec_ReadConf_l0 (s : ByteArray) (hs : s.size ≤ 140737488351232) : ∀ (d i : Nat), i + d = 5 → i ≤ s.size →
    Ev (fun k => spec_ReadConf.l0 k s ((bytesOf s).take i) (i : Int)) (readConf s)
  | d, i, h, hi => by
    have hl : ((bytesOf s).take i).length = i := by rw [List.length_take, bytesOf_length]; omega
    by_cases hlt : i < s.size
    · cases d with
      | zero =>
        refine Ev.step (fun k => ?_) (spec_ReadConf_end s ((bytesOf s).take i) i (by omega) hs rfl (by omega))
        simp only [spec_ReadConf.l0]
        rw [if_pos (by omega), if_neg (by omega)]
      | succ d =>
        have hr := bt_range s (i : Int)
        refine Ev.step (f := fun k => spec_ReadConf.l0 k s ((bytesOf s).take (i + 1)) ((i + 1 : Nat) : Int)) (fun k => ?_) (spec_ReadConf_l0 s hs d (i + 1) (by omega) (by omega))
        simp only [spec_ReadConf.l0]
        rw [if_pos (by omega), if_pos (by omega), if_pos (by omega), if_pos (by omega), w64 (x := (i : Int) + 1) (by omega) (by omega), w64 (x := bt s i) (by omega) (by omega)]
        have e := Led.take_succ (s := s) (a := 0) (i := i) (by omega)
        rw [List.drop_zero, Nat.zero_add] at e
        rw [e]; rfl
    · refine Ev.step (fun k => ?_) (spec_ReadConf_end s ((bytesOf s).take i) i (by omega) hs rfl (by omega))
      simp only [spec_ReadConf.l0]
      rw [if_neg (by omega)]
theorem spec_ReadConf_ev (s : ByteArray) (hs : s.size ≤ 140737488351232) : Ev (fun k => spec_ReadConf.f k s) (readConf s) := by
  have := spec_ReadConf_l0 s hs 5 0 (by omega) (by omega)
  rw [List.take_zero] at this
  exact this
theorem spec_l05Take_bad (s : ByteArray) (a n : Int) : spec_l05Take.f s a true n = some (⟨#[]⟩, s, a, true) := by
  unfold spec_l05Take.f; rw [if_pos rfl]
theorem spec_l05Take_no {s : ByteArray} (hs : s.size ≤ 140737488351232) {a : Nat} (ha : a ≤ s.size) {n : Int} (h0 : 0 ≤ n) (h : (s.size : Int) < a + n) : spec_l05Take.f s (a : Int) false n = some (⟨#[]⟩, s, (a : Int), true) := by
  unfold spec_l05Take.f
  rw [if_neg (by simp), w64 (x := (s.size : Int) - a) (by omega) (by omega), if_pos (by omega)]
theorem spec_l05Take_ok {s : ByteArray} (hs : s.size ≤ 140737488351232) {a n : Nat} (h : a + n ≤ s.size) : spec_l05Take.f s (a : Int) false (n : Int) = some (s.extract a (a + n), s, ((a + n : Nat) : Int), false) := by
  unfold spec_l05Take.f
  rw [if_neg (by simp), w64 (x := (s.size : Int) - a) (by omega) (by omega), if_neg (by omega), w64 (x := (a : Int) + n) (by omega) (by omega), w64 (x := (a : Int) + n - n) (by omega) (by omega), if_pos (by omega), if_pos (by omega), if_pos (by omega)]
  have e1 : ((a : Int) + n - n).toNat = a := by omega
  have e2 : ((a : Int) + n).toNat = a + n := by omega
  rw [e1, e2, ← Int.natCast_add]
def takeC (s : ByteArray) (a : Int) (b : Bool) (n : Int) : ByteArray × ByteArray × Int × Bool :=
  if b = true then (⟨#[]⟩, s, a, true) else if (s.size : Int) < a + n then (⟨#[]⟩, s, a, true) else (s.extract a.toNat (a + n).toNat, s, a + n, b)
def shortC (s : ByteArray) (a : Int) (b : Bool) : ByteArray × ByteArray × Int × Bool :=
  takeC s (varC s a b).2.2.1 (varC s a b).2.2.2 (varC s a b).1
def textC (s : ByteArray) (a : Int) (b : Bool) : ByteArray × ByteArray × Int × Bool :=
  if b = true then (⟨#[]⟩, s, a, true) else if (readShort s a).2.2 = true then ((readShort s a).1, s, (readShort s a).2.1, b) else (⟨#[]⟩, s, a, true)
theorem varC_at {s : ByteArray} {a : Int} (b : Bool) (h : 0 ≤ a ∧ a ≤ (s.size : Int)) : (varC s a b).2.1 = s ∧ (0 ≤ (varC s a b).1 ∧ (varC s a b).1 ≤ 1000000000) ∧ (0 ≤ (varC s a b).2.2.1 ∧ (varC s a b).2.2.1 ≤ (s.size : Int)) := by
  unfold varC
  cases b with
  | true => simp; exact h
  | false =>
    rcases readVar_cases s a with e | ⟨n, m, e, hn, hm, ha, hb, _⟩
    · rw [e]; simp; exact h
    · rw [e]; simp; omega
theorem takeC_at {s : ByteArray} {a n : Int} (b : Bool) (h : 0 ≤ a ∧ a ≤ (s.size : Int)) (hn : 0 ≤ n) : (takeC s a b n).2.1 = s ∧ (takeC s a b n).1.size ≤ s.size ∧ (0 ≤ (takeC s a b n).2.2.1 ∧ (takeC s a b n).2.2.1 ≤ (s.size : Int)) := by
  unfold takeC
  have z0 : (⟨#[]⟩ : ByteArray).size = 0 := rfl
  split
  · refine ⟨rfl, by rw [z0]; omega, h⟩
  · split
    · refine ⟨rfl, by rw [z0]; omega, h⟩
    · refine ⟨rfl, ?_, ?_⟩
      · simp only; rw [size_extract _ _ _ (by omega) (by omega)]; omega
      · simp only; omega
theorem shortC_at {s : ByteArray} {a : Int} (b : Bool) (h : 0 ≤ a ∧ a ≤ (s.size : Int)) : (shortC s a b).2.1 = s ∧ (shortC s a b).1.size ≤ s.size ∧ (0 ≤ (shortC s a b).2.2.1 ∧ (shortC s a b).2.2.1 ≤ (s.size : Int)) :=
  takeC_at _ (varC_at b h).2.2 (varC_at b h).2.1.1
theorem shortC_bad (s : ByteArray) (a : Int) : shortC s a true = (⟨#[]⟩, s, a, true) := by simp [shortC, varC_bad, takeC]
theorem textC_bad (s : ByteArray) (a : Int) : textC s a true = (⟨#[]⟩, s, a, true) := by simp [textC]
/-- The two ways to read a text: alike, or both find none, or the text is too long. -/
theorem short_text {s : ByteArray} {a : Int} (h : 0 ≤ a ∧ a ≤ (s.size : Int)) (b : Bool) :
    ((shortC s a b).2.2.2 = true ∧ (textC s a b).2.2.2 = true) ∨ (shortC s a b = textC s a b) ∨ (20000 < (shortC s a b).1.size ∧ (textC s a b).2.2.2 = true) := by
  cases b with
  | true => left; rw [shortC_bad, textC_bad]; simp
  | false =>
    unfold shortC textC varC takeC readShort
    rcases readVar_cases s a with e | ⟨n, m, e, hn, hm, ha, hb, _⟩
    · rw [e]; left; simp
    · rw [e]
      simp only [Bool.false_eq_true, if_false, if_true, true_and]
      by_cases h1 : (s.size : Int) < a + m + n
      · left
        have hp : ¬ ((n : Int) ≤ 20000 ∧ (n : Int) ≤ (s.size : Int) - (a + m)) := by omega
        simp only [if_pos h1, if_neg hp]; simp
      · by_cases h2 : (n : Int) ≤ 20000
        · right; left
          have hp : (n : Int) ≤ 20000 ∧ (n : Int) ≤ (s.size : Int) - (a + m) := ⟨h2, by omega⟩
          simp only [if_neg h1, if_pos hp]; simp
        · right; right
          have hp : ¬ ((n : Int) ≤ 20000 ∧ (n : Int) ≤ (s.size : Int) - (a + m)) := by omega
          simp only [if_neg h1, if_neg hp]
          refine ⟨?_, by simp⟩
          rw [size_extract _ _ _ (by omega) (by omega)]; omega
theorem spec_l05Take_is {s : ByteArray} (hs : s.size ≤ 140737488351232) {a n : Int} (b : Bool) (h : 0 ≤ a ∧ a ≤ (s.size : Int)) (hn : 0 ≤ n ∧ n ≤ 2000000000) : spec_l05Take.f s a b n = some (takeC s a b n) := by
  obtain ⟨a', rfl⟩ : ∃ a' : Nat, a = (a' : Int) := ⟨a.toNat, by omega⟩
  obtain ⟨n', rfl⟩ : ∃ n' : Nat, n = (n' : Int) := ⟨n.toNat, by omega⟩
  unfold takeC
  cases b with
  | true => rw [if_pos rfl]; exact spec_l05Take_bad _ _ _
  | false =>
    rw [if_neg (by simp)]
    by_cases h1 : (s.size : Int) < (a' : Int) + n'
    · rw [if_pos h1]; exact spec_l05Take_no hs (by omega) (by omega) h1
    · rw [if_neg h1, spec_l05Take_ok hs (by omega)]
      have e1 : ((a' : Int) + n').toNat = a' + n' := by omega
      rw [e1, Int.toNat_natCast, Int.natCast_add]
theorem spec_l05ReadShort_ev (s : ByteArray) (hs : s.size ≤ 140737488351232) {a : Int} (b : Bool) (h : 0 ≤ a ∧ a ≤ (s.size : Int)) : Ev (fun k => spec_l05ReadShort.f k s a b) (shortC s a b) := by
  unfold spec_l05ReadShort.f
  have hv := varC_at b h
  refine Ev.bind (spec_l05Var_ev s hs a b) ?_
  rw [hv.1]
  exact Ev.bind0 (spec_l05Take_is hs _ hv.2.2 ⟨hv.2.1.1, by omega⟩) (Ev.now _)
theorem spec_ConfText_l0 (l : List Int) (hl : l.length ≤ 35184372088832) : ∀ (d i : Nat) (acc : List Int), i + d = l.length → acc.length ≤ i →
    Ev (fun k => spec_ConfText.l0 k l acc (i : Int)) (strOfNums (acc ++ (l.drop i).map (· % 256)), true)
  | 0, i, acc, h, ha => by
    refine Ev.step (f := fun k => some (strOfNums acc, true)) (fun k => ?_) ((Ev.now _).eq ?_)
    · simp only [spec_ConfText.l0]; rw [if_neg (by omega)]
    · rw [List.drop_of_length_le (by omega)]; simp
  | d + 1, i, acc, h, ha => by
    refine Ev.step (f := fun k => spec_ConfText.l0 k l (acc ++ [rd l i % 256]) ((i + 1 : Nat) : Int)) (fun k => ?_) ((spec_ConfText_l0 l hl d (i + 1) _ (by omega) (by simp; omega)).eq ?_)
    · simp only [spec_ConfText.l0]
      rw [if_pos (by omega), if_pos (by omega), if_pos (by omega), w64 (x := (i : Int) + 1) (by omega) (by omega)]
      rfl
    · rw [rd_drop (l := l) (i := i) (by omega)]; simp
theorem spec_ConfText_ev (l : List Int) (hl : l.length ≤ 35184372088832) : Ev (fun k => spec_ConfText.f k l) (confT l) := by
  unfold spec_ConfText.f confT
  refine Ev.bind (spec_ConfOk_ev l hl) ?_
  by_cases h : confOk l = true
  · rw [if_pos h]
    refine Ev.pos h ?_
    exact spec_ConfText_l0 l hl l.length 0 [] (by omega) (by simp)
  · rw [if_neg h]; exact Ev.neg h (Ev.now _)
theorem spec_l05Short_ev (s : ByteArray) (hs : s.size ≤ 140737488351232) : Ev (fun k => spec_l05Short.f k s) (vt s.size ++ s) := by
  unfold spec_l05Short.f
  refine Ev.bind (spec_l01Var_ev s.size (by omega)) (Ev.is ?_)
  have hv : (vt s.size).size ≤ 100 := by rw [vt_size]; exact Nat.le_trans (varL_len s.size 6 (by omega)) (by omega)
  rw [if_pos (by omega)]
theorem spec_Sealed_ev (s : ByteArray) : Ev (fun k => spec_Sealed.f k s) (sealed s) := by
  unfold spec_Sealed.f sealed
  by_cases h : s.size ≤ 20000
  · rw [if_pos h]
    refine Ev.neg (by omega) (Ev.bind (spec_SumOf_ev s (by omega)) (Ev.bind0 (spec_l02Four_is _) (Ev.is ?_)))
    rw [if_pos (by rw [four_size]; omega)]
  · rw [if_neg h]; exact Ev.pos (by omega) (Ev.now _)
def snapIn (i t : Int) (c body : ByteArray) : ByteArray := vt i.toNat ++ vt t.toNat ++ (vt c.size ++ c) ++ (vt body.size ++ body)
def snapText (i t : Int) (conf : List Int) (body : ByteArray) : ByteArray × Bool :=
  if (confOk conf = true ∧ (0 ≤ i ∧ i ≤ 1000000) ∧ (0 ≤ t ∧ t ≤ 100000) ∧ body.size ≤ 20000) ∧ (snapIn i t (confT conf).1 body).size + 4 ≤ 20000 then
    (snapIn i t (confT conf).1 body ++ four (sumOf (snapIn i t (confT conf).1 body)), true) else (⟨#[]⟩, false)
theorem confT_ok {l : List Int} (h : confOk l = true) : confT l = (strOfNums (l.map (· % 256)), true) := by rw [confT, if_pos h]
theorem confT_size {l : List Int} (h : confOk l = true) : (confT l).1.size ≤ 4 := by
  rw [confT_ok h, str_size, List.length_map]; exact (confOk_len h).2
theorem confT_no {l : List Int} (h : ¬ confOk l = true) : confT l = (⟨#[]⟩, false) := by rw [confT, if_neg h]
theorem spec_SnapText_ev (i t : Int) (l : List Int) (body : ByteArray) (hl : l.length ≤ 35184372088832) (hb : body.size ≤ 1048576) : Ev (fun k => spec_SnapText.f k i t l body) (snapText i t l body) := by
  have no : ∀ c x, ¬ (confOk l = true ∧ (0 ≤ i ∧ i ≤ 1000000) ∧ (0 ≤ t ∧ t ≤ 100000) ∧ body.size ≤ 20000) → x = true → Ev (fun k => spec_SnapText.j0 k c x i t l body) (snapText i t l body) := by
    intro c x h hx
    rw [snapText, if_neg (fun e => h e.1), hx]
    exact Ev.step (fun k => rfl) (Ev.now _)
  unfold spec_SnapText.f
  refine Ev.bind (spec_ConfText_ev l hl) ?_
  by_cases h0 : confOk l = true
  · refine Ev.pos (by rw [confT_ok h0]) (Ev.bind0 (spec_l01In_is _ _ _) ?_)
    by_cases h1 : 0 ≤ i ∧ i ≤ 1000000
    · refine Ev.pos (inR_iff.2 h1) (Ev.bind0 (spec_l01In_is _ _ _) ?_)
      by_cases h2 : 0 ≤ t ∧ t ≤ 100000
      · refine Ev.pos (inR_iff.2 h2) ?_
        by_cases h3 : body.size ≤ 20000
        · rw [decide_eq_false (p := (body.size : Int) > 20000) (by omega)]
          have hc := confT_size h0
          have v1 := vt_size5 i.toNat (by omega)
          have v2 := vt_size5 t.toNat (by omega)
          have v3 := vt_size5 (confT l).1.size (by omega)
          have v4 := vt_size5 body.size (by omega)
          have hz : (snapIn i t (confT l).1 body).size = (vt i.toNat).size + (vt t.toNat).size + ((vt (confT l).1.size).size + (confT l).1.size) + ((vt body.size).size + body.size) := by
            simp only [snapIn, size_append]
          refine Ev.step (fun k => rfl) (Ev.bind (spec_l01Var_evi i (by omega) (by omega)) (Ev.bind (spec_l01Var_evi t (by omega) (by omega)) (Ev.pos (by omega) (Ev.bind (spec_l05Short_ev _ (by omega)) (Ev.pos (by simp only [size_append]; omega)
            (Ev.bind (spec_l05Short_ev body (by omega)) (Ev.pos (by simp only [size_append]; omega) ?_)))))))
          change Ev (fun k => if wrap64 (((snapIn i t (confT l).1 body).size : Int) + 4) > 20000 then some ((⟨#[]⟩ : ByteArray), false) else (spec_Sealed.f k (snapIn i t (confT l).1 body)).bind fun bt => some (bt.1, bt.2)) _
          rw [w64 (by omega) (by omega)]
          by_cases h4 : (snapIn i t (confT l).1 body).size + 4 ≤ 20000
          · refine Ev.neg (by omega) (Ev.bind (spec_Sealed_ev _) (Ev.is ?_))
            rw [snapText, if_pos ⟨⟨h0, h1, h2, h3⟩, h4⟩, sealed_ok (by omega)]
          · refine Ev.pos (by omega) (Ev.is ?_)
            rw [snapText, if_neg (fun e => h4 e.2)]
        · exact no _ _ (fun e => h3 e.2.2.2) (decide_eq_true (by omega))
      · exact Ev.neg (fun e => h2 (inR_iff.1 e)) (no _ _ (fun e => h2 e.2.2.1) rfl)
    · exact Ev.neg (fun e => h1 (inR_iff.1 e)) (no _ _ (fun e => h1 e.2.1) rfl)
  · exact Ev.neg (by rw [confT_no h0]; simp) (no _ _ (fun e => h0 e.1) rfl)
def noSnap : Int × Int × List Int × ByteArray × Bool := (0, 0, [], ⟨#[]⟩, false)
def finSnap (text : ByteArray) (i t : Int) (l : List Int) (body : ByteArray) (bad : Bool) : Int × Int × List Int × ByteArray × Bool :=
  if bad = true then noSnap else if (snapText i t l body).2 = true then (if (snapText i t l body).1.toList = text.toList then (i, t, l, body, true) else noSnap) else noSnap
theorem finSnap_bad (text : ByteArray) (i t : Int) (l : List Int) (body : ByteArray) : finSnap text i t l body true = noSnap := by simp [finSnap]
theorem finSnap_no {text : ByteArray} {i t : Int} {l : List Int} {body : ByteArray} {bad : Bool} (h : (snapText i t l body).2 = false) : finSnap text i t l body bad = noSnap := by
  unfold finSnap; rw [h]; simp
theorem uns_size (s : ByteArray) : (unsealed s).1.size ≤ 20000 := by
  unfold unsealed
  split
  · rename_i h
    simp only; rw [size_extract _ _ _ (by omega) (by omega)]; omega
  · exact Nat.zero_le _
def specSnap (text : ByteArray) : Int × Int × List Int × ByteArray × Bool :=
  let s := (unsealed text).1
  let v1 := varC s 0 (!(unsealed text).2)
  let v2 := varC s v1.2.2.1 v1.2.2.2
  let v3 := shortC s v2.2.2.1 v2.2.2.2
  let v4 := shortC s v3.2.2.1 v3.2.2.2
  finSnap text v1.1 v2.1 (readConf v3.1).1 v4.1 v4.2.2.2
def implSnap (text : ByteArray) : Int × Int × List Int × ByteArray × Bool :=
  let s := (unsealed text).1
  let v1 := varC s 0 false
  let v2 := varC s v1.2.2.1 v1.2.2.2
  let v3 := textC s v2.2.2.1 v2.2.2.2
  let v4 := textC s v3.2.2.1 v3.2.2.2
  if (unsealed text).2 = true then finSnap text v1.1 v2.1 (readConf v3.1).1 v4.1 v4.2.2.2 else noSnap
theorem snap_same (text : ByteArray) : specSnap text = implSnap text := by
  unfold specSnap implSnap
  simp only
  generalize (unsealed text).1 = s
  cases (unsealed text).2 with
  | false =>
    rw [if_neg (by simp)]
    simp only [Bool.not_false, varC_bad, shortC_bad, finSnap_bad]
  | true =>
    rw [if_pos rfl]
    simp only [Bool.not_true]
    have h1 := varC_at (s := s) (a := 0) false ⟨by omega, by omega⟩
    have h2 := varC_at (s := s) (varC s 0 false).2.2.2 h1.2.2
    generalize varC s 0 false = v1 at *
    generalize varC s v1.2.2.1 v1.2.2.2 = v2 at *
    have h3 := shortC_at (s := s) v2.2.2.2 h2.2.2
    rcases short_text h2.2.2 v2.2.2.2 with ⟨e1, e2⟩ | e | ⟨e1, e2⟩
    · rw [e1, e2, shortC_bad, textC_bad, finSnap_bad, finSnap_bad]
    · rw [← e]
      generalize shortC s v2.2.2.1 v2.2.2.2 = v3 at *
      rcases short_text h3.2.2 v3.2.2.2 with ⟨f1, f2⟩ | f | ⟨f1, f2⟩
      · rw [f1, f2, finSnap_bad, finSnap_bad]
      · rw [f]
      · rw [f2, finSnap_bad]
        apply finSnap_no
        unfold snapText
        rw [if_neg (fun e => by omega)]
    · rw [e2, textC_bad, finSnap_bad]
      apply finSnap_no
      have hc : ¬ confOk (bytesOf (shortC s v2.2.2.1 v2.2.2.2).1) = true := by
        intro e
        have := confOk_len e
        rw [bytesOf_length] at this
        omega
      unfold snapText
      rw [readConf, if_neg hc, if_neg]
      intro e
      have := confOk_len e.1.1
      simp at this
theorem conf_len (s : ByteArray) : (readConf s).1.length ≤ 4 := by
  unfold readConf
  split
  · rename_i h; exact (confOk_len h).2
  · simp
theorem spec_ReadSnap_ev (text : ByteArray) (hs : text.size ≤ 140737488351232) : Ev (fun k => spec_ReadSnap.f k text) (specSnap text) := by
  unfold spec_ReadSnap.f specSnap
  simp only
  have hz := uns_size text
  refine Ev.bind (spec_Unsealed_ev text hs) ?_
  generalize (unsealed text).1 = s at *
  generalize (unsealed text).2 = ok at *
  have h1 := varC_at (s := s) (a := 0) (!ok) ⟨by omega, by omega⟩
  refine Ev.bind (spec_l05Var_ev s (by omega) 0 (!ok)) ?_
  rw [h1.1]
  generalize varC s 0 (!ok) = v1 at *
  have h2 := varC_at (s := s) v1.2.2.2 h1.2.2
  refine Ev.bind (spec_l05Var_ev s (by omega) _ _) ?_
  rw [h2.1]
  generalize varC s v1.2.2.1 v1.2.2.2 = v2 at *
  have h3 := shortC_at (s := s) v2.2.2.2 h2.2.2
  refine Ev.bind (spec_l05ReadShort_ev s (by omega) _ h2.2.2) ?_
  rw [h3.1]
  generalize shortC s v2.2.2.1 v2.2.2.2 = v3 at *
  refine Ev.bind (spec_ReadConf_ev v3.1 (by omega)) ?_
  have h4 := shortC_at (s := s) v3.2.2.2 h3.2.2
  refine Ev.bind (spec_l05ReadShort_ev s (by omega) _ h3.2.2) ?_
  generalize shortC s v3.2.2.1 v3.2.2.2 = v4 at *
  have hc := conf_len v3.1
  refine Ev.bind (spec_SnapText_ev _ _ _ _ (by omega) (by omega)) (Ev.is ?_)
  unfold finSnap noSnap
  split <;> (try split) <;> (try split) <;> rfl
theorem impl_SumMore_l1 {s : ByteArray} {i r : Int} : ∀ (d : Nat) (j x0 : Int), 0 ≤ j → j + d = 8 → Ev (fun k => impl_SumMore.l0 k (halves d x0) s (wrap64 (i + 1))) r → Ev (fun k => impl_SumMore.l1 k x0 s i j) r
  | 0, j, x0, h0, h, hk => by
    refine Ev.step (f := fun k => impl_SumMore.l0 k x0 s (wrap64 (i + 1))) (fun k => ?_) hk
    simp only [impl_SumMore.l1]; rw [if_neg (by omega)]
  | d + 1, j, x0, h0, h, hk => by
    refine Ev.step (f := fun k => impl_SumMore.l1 k (half x0) s i (j + 1)) (fun k => ?_) (impl_SumMore_l1 d (j + 1) (half x0) (by omega) (by omega) hk)
    simp only [impl_SumMore.l1]; rw [if_pos (by omega), w64 (x := j + 1) (by omega) (by omega)]
    unfold half
    split <;> rfl
theorem impl_SumMore_l0 (s : ByteArray) (hs : s.size ≤ 140737488351232) : ∀ (d i : Nat) (x0 : Int), i + d = s.size → Ev (fun k => impl_SumMore.l0 k x0 s i) (sumL x0 ((bytesOf s).drop i))
  | 0, i, x0, h => by
    refine Ev.step (f := fun k => some x0) (fun k => ?_) ((Ev.now _).eq ?_)
    · simp only [impl_SumMore.l0]; rw [if_neg (by omega)]
    · rw [List.drop_of_length_le (by rw [bytesOf_length]; omega)]; rfl
  | d + 1, i, x0, h => by
    refine Ev.step (f := fun k => impl_SumMore.l1 k (Go.bits .xor .u32 x0 (bt s i % 4294967296)) s i 0) (fun k => ?_) (impl_SumMore_l1 8 0 _ (by omega) (by omega) ?_)
    · simp only [impl_SumMore.l0]; rw [if_pos (by omega), if_pos (by omega)]
    · rw [w64 (x := (i : Int) + 1) (by omega) (by omega)]
      have := impl_SumMore_l0 s hs d (i + 1) (halves 8 (Go.bits .xor .u32 x0 (bt s i % 4294967296))) (by omega)
      rw [bytes_drop (by omega)]
      exact this
theorem impl_SumMore_ev (x : Int) (s : ByteArray) (hs : s.size ≤ 140737488351232) : Ev (fun k => impl_SumMore.f k x s) (sumL x (bytesOf s)) := by
  have := impl_SumMore_l0 s hs s.size 0 x (by omega)
  exact this
theorem impl_SumOf_ev (s : ByteArray) (hs : s.size ≤ 140737488351232) : Ev (fun k => impl_SumOf.f k s) (sumOf s) := by
  unfold impl_SumOf.f
  exact Ev.bind (impl_SumMore_ev _ s hs) (Ev.now _)
theorem impl_Sealed_ev (s : ByteArray) : Ev (fun k => impl_Sealed.f k s) (sealed s) := by
  unfold impl_Sealed.f sealed
  by_cases h : s.size ≤ 20000
  · rw [if_pos h]
    refine Ev.neg (by omega) (Ev.bind (impl_SumOf_ev s (by omega)) (Ev.bind0 (a := fourL (sumOf s)) rfl (Ev.is ?_)))
    show (if s.size + (four (sumOf s)).size ≤ _ then some (s ++ four (sumOf s), true) else none) = _
    rw [if_pos (by rw [four_size]; omega)]
  · rw [if_neg h]; exact Ev.pos (by omega) (Ev.now _)
theorem impl_Unsealed_ev (s : ByteArray) (hs : s.size ≤ 140737488351232) : Ev (fun k => impl_Unsealed.f k s) (unsealed s) := by
  unfold impl_Unsealed.f
  rw [w64 (x := (s.size : Int) - 4) (by omega) (by omega)]
  by_cases h1 : 4 ≤ s.size
  · refine Ev.neg (by omega) (Ev.pos (by omega) (Ev.pos (by omega) ?_))
    have e : ((s.size : Int) - 4).toNat = s.size - 4 := by omega
    rw [e]
    have hz := size_extract s 0 (s.size - 4) (by omega) (by omega)
    refine Ev.bind (impl_Sealed_ev _) (Ev.is ?_)
    unfold unsealed
    by_cases h2 : s.size ≤ 20004
    · rw [sealed_ok (by omega)]
      simp only [if_true]
      have hc := cut_at s (s.size - 4) (by omega)
      by_cases h3 : s.extract (s.size - 4) s.size = four (sumOf (s.extract 0 (s.size - 4)))
      · rw [if_pos, if_pos ⟨h1, h2, h3⟩]
        rw [toList_iff, ← h3, hc]
      · rw [if_neg, if_neg (fun e => h3 e.2.2)]
        intro e
        rw [toList_iff] at e
        exact h3 (append_left_inj (hc.trans e.symm))
    · rw [sealed_no (by omega), if_neg (c := _ ∧ _) (fun e => h2 e.2.1)]; simp
  · refine Ev.pos (by omega) (Ev.is ?_)
    rw [unsealed, if_neg (by omega)]
theorem impl_within_is (a b c : Int) : impl_within.f a b c = some (inR a b c) := by
  unfold impl_within.f inR
  by_cases h : a ≥ b
  · rw [if_pos h]; congr 1; simp; omega
  · rw [if_neg h]; congr 1; simp; omega
theorem impl_VarText_l0 : ∀ (n : Nat) (acc : List Int), acc.length + n < 140737488355328 → Ev (fun k => impl_VarText.l0 k (n : Int) acc) (strOfNums (acc ++ varL n), true) := by
  intro n
  induction n using Nat.strongRecOn with
  | _ n ih =>
    intro acc ha
    by_cases h : 127 < n
    · refine Ev.step (f := fun k => impl_VarText.l0 k ((n / 128 : Nat) : Int) (acc ++ [((n % 128 + 128 : Nat) : Int)])) (fun k => ?_) ?_
      · simp only [impl_VarText.l0]
        rw [if_pos (by omega), if_pos (by omega), td (by omega), tm (by omega)]
        rw [w64 (x := (n : Int) / 128) (by omega) (by omega), w64 (x := (n : Int) % 128 + 128) (by omega) (by omega)]
        congr 3
        omega
      · refine (ih (n / 128) (by omega) _ (by simp; omega)).eq ?_
        rw [varL_big h, List.append_assoc]; rfl
    · refine Ev.step (f := fun k => some (strOfNums (acc ++ varL n), true)) (fun k => ?_) (Ev.now _)
      simp only [impl_VarText.l0]
      rw [if_neg (by omega), if_pos (by omega), varL_small h]
      congr 5
      omega
theorem impl_VarText_ev (n : Int) : Ev (fun k => impl_VarText.f k n) (varText n) := by
  unfold impl_VarText.f
  refine Ev.bind0 (impl_within_is _ _ _) ?_
  by_cases h : 0 ≤ n ∧ n ≤ 1000000000
  · refine Ev.pos (inR_iff.2 h) ?_
    have := impl_VarText_l0 n.toNat [] (by simp; omega)
    rw [Int.toNat_of_nonneg h.1] at this
    refine this.eq ?_
    rw [varText, if_pos h]; rfl
  · refine Ev.neg (fun e => h (inR_iff.1 e)) (Ev.is ?_)
    rw [varText, if_neg h]
theorem impl_ReadVar_l0 (s : ByteArray) (hs : s.size ≤ 140737488351232) (a : Nat) : ∀ (f i n : Nat), i + f = 5 → n < 128 ^ i → a + i ≤ s.size →
    Ev (fun k => impl_ReadVar.l0 k s (a : Int) (n : Int) (i : Int))
      (match rvL f i n ((bytesOf s).drop (a + i)) with | some (n, m) => ((n : Int), (a : Int) + m, true) | none => (0, 0, false))
  | 0, i, n, hi, hn, h1 => by
    refine Ev.step (f := fun k => impl_ReadVar.j1 k s (a : Int) (n : Int) (i : Int) false) (fun k => ?_) ?_
    · simp only [impl_ReadVar.l0]
      rw [if_neg (by omega)]
    · refine Ev.step (f := fun _ => some (0, 0, false)) (fun k => ?_) (Ev.now _)
      simp only [impl_ReadVar.j1]; rfl
  | f + 1, i, n, hi, hn, h1 => by
    by_cases hlt : a + i < s.size
    · have hr := bt_range s ((a + i : Nat) : Int)
      have hp := pow_bound (i := i) (by omega)
      have hm := mul_bound (bt s ((a + i : Nat) : Int)).toNat (128 ^ i) hp.1
      have ei : (a : Int) + (i : Int) = ((a + i : Nat) : Int) := by omega
      rw [bytes_drop hlt]
      refine Ev.step (f := fun k => impl_ReadVar.j1 k s (a : Int) (n : Int) (i : Int) true) (fun k => ?_) ?_
      · simp only [impl_ReadVar.l0]
        rw [if_pos (by omega), w64 (x := (a : Int) + i) (by omega) (by omega)]
        rw [show decide ((a : Int) + i < (s.size : Int)) = true from by simp; omega]
      have hb : wrap64 (bt s ((a + i : Nat) : Int)) = bt s ((a + i : Nat) : Int) := w64 (by omega) (by omega)
      have e0 : shl .i64 (Int.tmod (bt s ((a + i : Nat) : Int)) 128) (7 * (i : Int)) = (((bt s ((a + i : Nat) : Int)).toNat % 128 * 128 ^ i : Nat) : Int) := by
        unfold shl
        rw [tm (by omega), i64_w, show (7 * (i : Int)).toNat = 7 * i from by omega, show min (7 * i) IntKind.i64.bits = 7 * i from by simp [IntKind.bits]; omega]
        have e7 : (2 : Int) ^ (7 * i) = ((128 ^ i : Nat) : Int) := by
          rw [show (128 : Nat) = 2 ^ 7 from rfl, ← Nat.pow_mul]; simp
        rw [e7, Int.natCast_mul, w64]
        · congr 1; omega
        · have := Int.mul_nonneg (a := bt s ((a + i : Nat) : Int) % 128) (b := ((128 ^ i : Nat) : Int)) (by omega) (by omega)
          omega
        · have e8 : bt s ((a + i : Nat) : Int) % 128 = (((bt s ((a + i : Nat) : Int)).toNat % 128 : Nat) : Int) := by omega
          rw [e8, ← Int.natCast_mul]; omega
      generalize hc : (bt s ((a + i : Nat) : Int)).toNat % 128 * 128 ^ i = q at *
      have e2 : wrap64 ((n : Int) + shl .i64 (Int.tmod (wrap64 (bt s ((a + i : Nat) : Int))) 128) (wrap64 (7 * (i : Int)))) = ((n + q : Nat) : Int) := by
        rw [hb, w64 (x := 7 * (i : Int)) (by omega) (by omega), e0, w64 (by omega) (by omega)]; omega
      by_cases hb' : bt s ((a + i : Nat) : Int) < 128
      · simp only [rvL, if_pos hb', hc]
        refine Ev.step (f := fun k => (impl_VarText.f k ((n + q : Nat) : Int)).bind fun bt => (if bt.2 = true then (if (bt.1.size : Int) = (i : Int) + 1 then some (((n + q : Nat) : Int), ((a + i + 1 : Nat) : Int), true) else some (0, 0, false)) else some (0, 0, false))) (fun k => ?_) ?_
        · simp only [impl_ReadVar.j1, if_true]
          rw [w64 (x := (a : Int) + i) (by omega) (by omega), ei, if_pos (by omega), if_pos (by omega), if_pos (by rw [w64 (by omega) (by omega)]; omega), hb, if_pos hb']
          rw [hb] at e2
          rw [e2, w64 (x := (i : Int) + 1) (by omega) (by omega), w64 (x := ((a + i : Nat) : Int) + 1) (by omega) (by omega)]
          rfl
        · refine Ev.bind (impl_VarText_ev _) (Ev.is ?_)
          by_cases hM : n + q ≤ 1000000000
          · rw [varText_ok (by omega) (by omega), Int.toNat_natCast]
            simp only [if_true, vt_size]
            by_cases hq : (varL (n + q)).length = i + 1
            · rw [if_pos (by omega), if_pos ⟨hM, hq⟩]
              simp only [Option.some.injEq, Prod.mk.injEq, and_true, true_and]; omega
            · rw [if_neg (by omega), if_neg (fun e => hq e.2)]
          · rw [varText_no (by omega), if_neg (c := _ ∧ _) (fun e => hM e.1)]; simp
      · simp only [rvL, if_neg hb', hc]
        refine Ev.step (f := fun k => impl_ReadVar.l0 k s (a : Int) ((n + q : Nat) : Int) ((i + 1 : Nat) : Int)) (fun k => ?_) (impl_ReadVar_l0 s hs a f (i + 1) (n + q) (by omega) ?_ (by omega))
        · simp only [impl_ReadVar.j1, if_true]
          rw [w64 (x := (a : Int) + i) (by omega) (by omega), ei, if_pos (by omega), if_pos (by omega), if_pos (by rw [w64 (by omega) (by omega)]; omega), hb, if_neg hb']
          rw [hb] at e2
          rw [e2, w64 (x := (i : Int) + 1) (by omega) (by omega)]
          rfl
        · rw [Nat.pow_succ, ← hc]
          have h2 : (bt s ((a + i : Nat) : Int)).toNat % 128 ≤ 127 := by omega
          have h3 := Nat.mul_le_mul_right (128 ^ i) h2
          omega
    · rw [List.drop_of_length_le (by rw [bytesOf_length]; omega)]
      refine Ev.step (f := fun k => impl_ReadVar.j1 k s (a : Int) (n : Int) (i : Int) false) (fun k => ?_) ?_
      · simp only [impl_ReadVar.l0]
        rw [if_pos (by omega), w64 (x := (a : Int) + i) (by omega) (by omega)]
        rw [show decide ((a : Int) + i < (s.size : Int)) = false from by simp; omega]
      · refine Ev.step (f := fun _ => some (0, 0, false)) (fun k => ?_) (Ev.now _)
        simp only [impl_ReadVar.j1]; rfl
theorem impl_ReadVar_ev (s : ByteArray) (hs : s.size ≤ 140737488351232) (a : Int) : Ev (fun k => impl_ReadVar.f k s a) (readVar s a) := by
  unfold impl_ReadVar.f readVar
  refine Ev.bind0 (impl_within_is _ _ _) ?_
  by_cases h : 0 ≤ a ∧ a ≤ (s.size : Int)
  · rw [if_pos h]
    refine Ev.pos (inR_iff.2 h) ?_
    have := impl_ReadVar_l0 s hs a.toNat 5 0 0 rfl (by simp) (by omega)
    simp only [Nat.add_zero, Int.toNat_of_nonneg h.1] at this
    exact this
  · rw [if_neg h]
    exact Ev.neg (fun e => h (inR_iff.1 e)) (Ev.now _)
theorem impl_reader_num_ev (s : ByteArray) (hs : s.size ≤ 140737488351232) (a : Int) (b : Bool) : Ev (fun k => impl_reader_num.f k s a b) (varC s a b) := by
  unfold impl_reader_num.f varC
  refine Ev.bind (impl_ReadVar_ev s hs a) (Ev.is ?_)
  split <;> (try split) <;> simp_all
theorem impl_ConfOk_l0 (l : List Int) (hl : l.length ≤ 35184372088832) : ∀ (d i : Nat) (p : Int), i + d = l.length → (i = 0 → p = 0) → (0 < i → p = rd l ((i - 1 : Nat) : Int)) →
    Ev (fun k => impl_ConfOk.l0 k l l (l.length : Int) (i : Int)) (decide (1 ≤ l.length ∧ l.length ≤ 4) && riseF p (l.drop i))
  | 0, i, p, h, h0, h1 => by
    refine Ev.step (f := fun k => some (decide (1 ≤ l.length ∧ l.length ≤ 4))) (fun k => ?_) ((Ev.now _).eq ?_)
    · simp only [impl_ConfOk.l0]; rw [if_neg (by omega), impl_within_is, Option.bind_some]
      congr 1
      unfold inR
      congr 1
      simp only [eq_iff_iff]
      omega
    · rw [List.drop_of_length_le (by omega)]; simp [riseF]
  | d + 1, i, p, h, h0, h1 => by
    rw [rd_drop (l := l) (by omega)]
    have ih := impl_ConfOk_l0 l hl d (i + 1) (rd l (i : Int)) (by omega) (by omega) (fun _ => by simp)
    by_cases hin : 1 ≤ rd l (i : Int) ∧ rd l (i : Int) ≤ 4
    · by_cases hi : 0 < i
      · have hp := h1 hi
        have ei : wrap64 ((i : Int) - 1) = ((i - 1 : Nat) : Int) := by rw [w64 (by omega) (by omega)]; omega
        by_cases hlt : p < rd l (i : Int)
        · refine Ev.step (f := fun k => impl_ConfOk.l0 k l l (l.length : Int) ((i + 1 : Nat) : Int)) (fun k => ?_) (ih.eq ?_)
          · simp only [impl_ConfOk.l0]
            rw [if_pos (by omega), if_pos (by omega), if_pos (by omega), impl_within_is, Option.bind_some, if_pos (inR_iff.2 hin), if_pos (by omega), ei, if_pos (by omega), if_pos (by omega), if_neg (by omega)]
            rw [w64 (x := (i : Int) + 1) (by omega) (by omega)]; rfl
          · simp only [riseF]; rw [decide_eq_true (p := _ ∧ _ ∧ _) ⟨hin.1, hin.2, hlt⟩, Bool.true_and]
        · refine Ev.step (f := fun k => some false) (fun k => ?_) ((Ev.now _).eq ?_)
          · simp only [impl_ConfOk.l0]
            rw [if_pos (by omega), if_pos (by omega), if_pos (by omega), impl_within_is, Option.bind_some, if_pos (inR_iff.2 hin), if_pos (by omega), ei, if_pos (by omega), if_pos (by omega), if_pos (by omega)]
          · simp only [riseF]; rw [decide_eq_false (p := _ ∧ _ ∧ _) (fun e => hlt e.2.2), Bool.false_and, Bool.and_false]
      · have hp := h0 (by omega)
        refine Ev.step (f := fun k => impl_ConfOk.l0 k l l (l.length : Int) ((i + 1 : Nat) : Int)) (fun k => ?_) (ih.eq ?_)
        · simp only [impl_ConfOk.l0]
          rw [if_pos (by omega), if_pos (by omega), if_pos (by omega), impl_within_is, Option.bind_some, if_pos (inR_iff.2 hin), if_neg (by omega)]
          rw [w64 (x := (i : Int) + 1) (by omega) (by omega)]; rfl
        · simp only [riseF]; rw [decide_eq_true (p := _ ∧ _ ∧ _) ⟨hin.1, hin.2, by omega⟩, Bool.true_and]
    · refine Ev.step (f := fun k => some false) (fun k => ?_) ((Ev.now _).eq ?_)
      · simp only [impl_ConfOk.l0]
        rw [if_pos (by omega), if_pos (by omega), if_pos (by omega), impl_within_is, Option.bind_some, if_neg (fun e => hin (inR_iff.1 e))]
      · simp only [riseF]; rw [decide_eq_false (p := _ ∧ _ ∧ _) (fun e => hin ⟨e.1, e.2.1⟩), Bool.false_and, Bool.and_false]
theorem impl_ConfOk_ev (l : List Int) (hl : l.length ≤ 35184372088832) : Ev (fun k => impl_ConfOk.f k l) (confOk l) := by
  have := impl_ConfOk_l0 l hl l.length 0 0 (by omega) (fun _ => rfl) (fun h => absurd h (by omega))
  exact this
theorem impl_ReadConf_l0 (s : ByteArray) (hs : s.size ≤ 17592186044416) : ∀ (d i : Nat), i + d = s.size →
    Ev (fun k => impl_ReadConf.l0 k s ((bytesOf s).take i) (i : Int)) (readConf s)
  | 0, i, h => by
    have e : (bytesOf s).take i = bytesOf s := List.take_of_length_le (by rw [bytesOf_length]; omega)
    rw [e]
    refine Ev.step (f := fun k => (impl_ConfOk.f k (bytesOf s)).bind fun t => if t = true then some (bytesOf s, true) else some ([], false)) (fun k => ?_) (Ev.bind (impl_ConfOk_ev _ (by rw [bytesOf_length]; omega)) (Ev.is ?_))
    · simp only [impl_ReadConf.l0]; rw [if_neg (by omega)]
    · unfold readConf
      by_cases h : confOk (bytesOf s) = true
      · rw [if_pos h, if_pos h]
      · rw [if_neg h, if_neg h]
  | d + 1, i, h => by
    have hr := bt_range s (i : Int)
    have hl : ((bytesOf s).take i).length = i := by rw [List.length_take, bytesOf_length]; omega
    refine Ev.step (f := fun k => impl_ReadConf.l0 k s ((bytesOf s).take (i + 1)) ((i + 1 : Nat) : Int)) (fun k => ?_) (impl_ReadConf_l0 s hs d (i + 1) (by omega))
    simp only [impl_ReadConf.l0]
    rw [if_pos (by omega), if_pos (by omega), if_pos (by omega), w64 (x := (i : Int) + 1) (by omega) (by omega), w64 (x := bt s i) (by omega) (by omega)]
    have e := Led.take_succ (s := s) (a := 0) (i := i) (by omega)
    rw [List.drop_zero, Nat.zero_add] at e
    rw [e]; rfl
theorem impl_ReadConf_ev (s : ByteArray) (hs : s.size ≤ 17592186044416) : Ev (fun k => impl_ReadConf.f k s) (readConf s) := by
  have := impl_ReadConf_l0 s hs s.size 0 (by omega)
  rw [List.take_zero] at this
  exact this
theorem impl_ReadShort_ev (s : ByteArray) (hs : s.size ≤ 140737488351232) (a : Int) : Ev (fun k => impl_ReadShort.f k s a) (readShort s a) := by
  unfold impl_ReadShort.f readShort
  refine Ev.bind (impl_ReadVar_ev s hs a) (Ev.is ?_)
  rcases readVar_cases s a with h | ⟨n, m, h, hn, hm, ha, hb, _⟩
  · rw [h]; rfl
  · rw [h]
    simp only [if_true, true_and]
    rw [w64 (x := (s.size : Int) - (a + m)) (by omega) (by omega), w64 (x := a + (m : Int) + n) (by omega) (by omega)]
    by_cases h1 : (n : Int) ≤ 20000
    · by_cases h2 : (n : Int) ≤ (s.size : Int) - (a + m)
      · rw [if_neg (by omega), if_neg (by omega), if_pos (by omega), if_pos (by omega), if_pos (by omega), if_pos ⟨h1, h2⟩]
      · rw [if_neg (by omega), if_pos (by omega), if_neg (fun e => h2 e.2)]
    · rw [if_pos (by omega), if_neg (fun e => h1 e.1)]
theorem impl_reader_text_ev (s : ByteArray) (hs : s.size ≤ 140737488351232) (a : Int) (b : Bool) : Ev (fun k => impl_reader_text.f k s a b) (textC s a b) := by
  unfold impl_reader_text.f textC
  refine Ev.bind (impl_ReadShort_ev s hs a) (Ev.is ?_)
  split <;> (try split) <;> simp_all
theorem impl_ConfText_l0 (l : List Int) (hl : l.length ≤ 35184372088832) : ∀ (d i : Nat) (acc : List Int), i + d = l.length → acc.length ≤ i →
    Ev (fun k => impl_ConfText.l0 k acc l (l.length : Int) (i : Int)) (strOfNums (acc ++ (l.drop i).map (· % 256)), true)
  | 0, i, acc, h, ha => by
    refine Ev.step (f := fun k => some (strOfNums acc, true)) (fun k => ?_) ((Ev.now _).eq ?_)
    · simp only [impl_ConfText.l0]; rw [if_neg (by omega)]
    · rw [List.drop_of_length_le (by omega)]; simp
  | d + 1, i, acc, h, ha => by
    refine Ev.step (f := fun k => impl_ConfText.l0 k (acc ++ [rd l i % 256]) l (l.length : Int) ((i + 1 : Nat) : Int)) (fun k => ?_) ((impl_ConfText_l0 l hl d (i + 1) _ (by omega) (by simp; omega)).eq ?_)
    · simp only [impl_ConfText.l0]
      rw [if_pos (by omega), if_pos (by omega), if_pos (by omega), if_pos (by omega), w64 (x := (i : Int) + 1) (by omega) (by omega)]
      rfl
    · rw [rd_drop (l := l) (i := i) (by omega)]; simp
theorem impl_ConfText_ev (l : List Int) (hl : l.length ≤ 35184372088832) : Ev (fun k => impl_ConfText.f k l) (confT l) := by
  unfold impl_ConfText.f confT
  refine Ev.bind (impl_ConfOk_ev l hl) ?_
  by_cases h : confOk l = true
  · rw [if_pos h]
    refine Ev.pos h ?_
    exact impl_ConfText_l0 l hl l.length 0 [] (by omega) (by simp)
  · rw [if_neg h]; exact Ev.neg h (Ev.now _)
theorem impl_vars_l0 (l : List Int) (hl : l.length ≤ 1048576) : ∀ (d i : Nat) (acc : List Int), i + d = l.length → acc.length ≤ 5 * i →
    Ev (fun k => impl_vars.l0 k acc l (l.length : Int) (i : Int)) (match varsL (l.drop i) with | some m => (strOfNums (acc ++ m), true) | none => (⟨#[]⟩, false))
  | 0, i, acc, h, ha => by
    refine Ev.step (f := fun k => some (strOfNums acc, true)) (fun k => ?_) ((Ev.now _).eq ?_)
    · simp only [impl_vars.l0]; rw [if_neg (by omega)]
    · rw [List.drop_of_length_le (by omega)]; simp [varsL]
  | d + 1, i, acc, h, ha => by
    rw [rd_drop (l := l) (i := i) (by omega)]
    generalize hx : rd l (i : Int) = x
    refine Ev.step (f := fun k => (impl_VarText.f k x).bind fun bt => (if bt.2 = true then (if acc.length + bt.1.size < 140737488355328 then (impl_vars.l0 k (acc ++ bytesOf bt.1) l (l.length : Int) ((i + 1 : Nat) : Int)) else none) else some (⟨#[]⟩, false))) (fun k => ?_) (Ev.bind (impl_VarText_ev x) ?_)
    · simp only [impl_vars.l0]
      rw [if_pos (by omega), if_pos (by omega), if_pos (by omega), hx, w64 (x := (i : Int) + 1) (by omega) (by omega)]; rfl
    · by_cases hr : 0 ≤ x ∧ x ≤ 1000000000
      · have h5 := vt_size5 x.toNat (by omega)
        have hv : (varL x.toNat).length ≤ 5 := by rw [← vt_size]; exact h5
        rw [varText_ok hr.1 hr.2]
        refine Ev.pos rfl (Ev.pos (by show acc.length + (vt x.toNat).size < _; omega) ((impl_vars_l0 l hl d (i + 1) (acc ++ bytesOf (vt x.toNat)) (by omega) (by rw [List.length_append, bytes_vt]; omega)).eq ?_))
        simp only [varsL, if_pos hr]
        cases varsL (l.drop (i + 1)) with
        | none => rfl
        | some m => simp [bytes_vt]
      · rw [varText_no hr]
        refine Ev.neg (by simp) ((Ev.now _).eq ?_)
        simp only [varsL, if_neg hr]
theorem impl_vars_two {a b : Int} (ha : 0 ≤ a ∧ a ≤ 1000000000) (hb : 0 ≤ b ∧ b ≤ 1000000000) : Ev (fun k => impl_vars.f k ([a, b] : List Int)) (vt a.toNat ++ vt b.toNat, true) := by
  have := impl_vars_l0 [a, b] (by simp) 2 0 [] (by simp) (by simp)
  rw [List.drop_zero, varsL_two ha hb] at this
  simp only [List.nil_append, str_append] at this
  exact this
theorem impl_ShortText_ev (s : ByteArray) : Ev (fun k => impl_ShortText.f k s) (shortText s) := by
  unfold impl_ShortText.f shortText
  by_cases h : s.size ≤ 20000
  · rw [if_pos h]
    refine Ev.neg (by omega) (Ev.bind (impl_VarText_ev (s.size : Int)) (Ev.is ?_))
    have := vt_size5 s.size (by omega)
    rw [varText_ok (by omega) (by omega), Int.toNat_natCast]
    simp only
    rw [if_pos (by omega)]
  · rw [if_neg h]; exact Ev.pos (by omega) (Ev.now _)
theorem impl_SnapText_ev (i t : Int) (l : List Int) (body : ByteArray) (hl : l.length ≤ 35184372088832) (hb : body.size ≤ 1048576) : Ev (fun k => impl_SnapText.f k i t l body) (snapText i t l body) := by
  have no : ∀ c x, ¬ (confOk l = true ∧ (0 ≤ i ∧ i ≤ 1000000) ∧ (0 ≤ t ∧ t ≤ 100000) ∧ body.size ≤ 20000) → x = true → Ev (fun k => impl_SnapText.j0 k c x i t l body) (snapText i t l body) := by
    intro c x h hx
    rw [snapText, if_neg (fun e => h e.1), hx]
    exact Ev.step (fun k => rfl) (Ev.now _)
  unfold impl_SnapText.f
  refine Ev.bind (impl_ConfText_ev l hl) ?_
  by_cases h0 : confOk l = true
  · refine Ev.pos (by rw [confT_ok h0]) (Ev.bind0 (impl_within_is _ _ _) ?_)
    by_cases h1 : 0 ≤ i ∧ i ≤ 1000000
    · refine Ev.pos (inR_iff.2 h1) (Ev.bind0 (impl_within_is _ _ _) ?_)
      by_cases h2 : 0 ≤ t ∧ t ≤ 100000
      · refine Ev.pos (inR_iff.2 h2) ?_
        by_cases h3 : body.size ≤ 20000
        · rw [decide_eq_false (p := (body.size : Int) > 20000) (by omega)]
          have hc := confT_size h0
          have v1 := vt_size5 i.toNat (by omega)
          have v2 := vt_size5 t.toNat (by omega)
          have v3 := vt_size5 (confT l).1.size (by omega)
          have v4 := vt_size5 body.size (by omega)
          have s1 : shortText (confT l).1 = (vt (confT l).1.size ++ (confT l).1, true) := by rw [shortText, if_pos (by omega)]
          have s2 : shortText body = (vt body.size ++ body, true) := by rw [shortText, if_pos (by omega)]
          have hz : (snapIn i t (confT l).1 body).size = (vt i.toNat).size + (vt t.toNat).size + ((vt (confT l).1.size).size + (confT l).1.size) + ((vt body.size).size + body.size) := by
            simp only [snapIn, size_append]
          refine Ev.step (fun k => rfl) (Ev.bind (impl_vars_two (by omega) (by omega)) (Ev.bind (impl_ShortText_ev _) (Ev.bind (impl_ShortText_ev body) ?_)))
          rw [s1, s2]
          refine Ev.pos (by simp only [size_append]; omega) (Ev.pos (by simp only [size_append]; omega) ?_)
          change Ev (fun k => (impl_Sealed.f k (snapIn i t (confT l).1 body)).bind fun bt => (if bt.2 = true then (if (bt.1.size : Int) > 20000 then some ((⟨#[]⟩ : ByteArray), false) else some (bt.1, true)) else some ((⟨#[]⟩ : ByteArray), false))) _
          refine Ev.bind (impl_Sealed_ev _) (Ev.is ?_)
          by_cases h4 : (snapIn i t (confT l).1 body).size + 4 ≤ 20000
          · have e : snapText i t l body = (snapIn i t (confT l).1 body ++ four (sumOf (snapIn i t (confT l).1 body)), true) := by rw [snapText, if_pos ⟨⟨h0, h1, h2, h3⟩, h4⟩]
            rw [e, sealed_ok (by omega)]
            simp only [if_true]
            rw [if_neg (by rw [size_append, four_size]; omega)]
          · have e : snapText i t l body = (⟨#[]⟩, false) := by rw [snapText, if_neg (fun e => h4 e.2)]
            rw [e]
            by_cases h5 : (snapIn i t (confT l).1 body).size ≤ 20000
            · rw [sealed_ok h5]
              simp only [if_true]
              rw [if_pos (by rw [size_append, four_size]; omega)]
            · rw [sealed_no h5]; simp
        · exact no _ _ (fun e => h3 e.2.2.2) (decide_eq_true (by omega))
      · exact Ev.neg (fun e => h2 (inR_iff.1 e)) (no _ _ (fun e => h2 e.2.2.1) rfl)
    · exact Ev.neg (fun e => h1 (inR_iff.1 e)) (no _ _ (fun e => h1 e.2.1) rfl)
  · exact Ev.neg (by rw [confT_no h0]; simp) (no _ _ (fun e => h0 e.1) rfl)
theorem conf_len' (s : ByteArray) : (readConf s).1.length ≤ 4 := by
  unfold readConf
  split
  · rename_i h; exact (confOk_len h).2
  · simp
theorem textC_at {s : ByteArray} {a : Int} (b : Bool) (h : 0 ≤ a ∧ a ≤ (s.size : Int)) : (textC s a b).2.1 = s ∧ (textC s a b).1.size ≤ s.size ∧ (0 ≤ (textC s a b).2.2.1 ∧ (textC s a b).2.2.1 ≤ (s.size : Int)) := by
  have z0 : (⟨#[]⟩ : ByteArray).size = 0 := rfl
  unfold textC readShort
  cases b with
  | true => simp [z0]; exact h
  | false =>
    rcases readVar_cases s a with e | ⟨n, m, e, hn, hm, ha, hb, _⟩
    · rw [e]; simp [z0]; exact h
    · rw [e]
      simp only [Bool.false_eq_true, if_false, true_and]
      by_cases h1 : (n : Int) ≤ 20000 ∧ (n : Int) ≤ (s.size : Int) - (a + m)
      · rw [if_pos h1]
        simp only [if_true, true_and]
        rw [size_extract _ _ _ (by omega) (by omega)]; omega
      · rw [if_neg h1]
        simp [z0]; exact h
theorem impl_ReadSnap_ev (text : ByteArray) (hs : text.size ≤ 140737488351232) : Ev (fun k => impl_ReadSnap.f k text) (implSnap text) := by
  unfold impl_ReadSnap.f implSnap
  simp only
  have hz := uns_size text
  refine Ev.bind (impl_Unsealed_ev text hs) ?_
  generalize (unsealed text).1 = s at *
  generalize (unsealed text).2 = ok at *
  cases ok with
  | false => rw [if_neg (by simp)]; exact Ev.neg (by simp) (Ev.now _)
  | true =>
    rw [if_pos rfl]
    refine Ev.pos rfl ?_
    have h1 := varC_at (s := s) (a := 0) false ⟨by omega, by omega⟩
    refine Ev.bind (impl_reader_num_ev s (by omega) 0 false) ?_
    rw [h1.1]
    generalize varC s 0 false = v1 at *
    have h2 := varC_at (s := s) v1.2.2.2 h1.2.2
    refine Ev.bind (impl_reader_num_ev s (by omega) _ _) ?_
    rw [h2.1]
    generalize varC s v1.2.2.1 v1.2.2.2 = v2 at *
    have h3 := textC_at (s := s) v2.2.2.2 h2.2.2
    refine Ev.bind (impl_reader_text_ev s (by omega) _ _) ?_
    rw [h3.1]
    generalize textC s v2.2.2.1 v2.2.2.2 = v3 at *
    refine Ev.bind (impl_ReadConf_ev v3.1 (by omega)) ?_
    have h4 := textC_at (s := s) v3.2.2.2 h3.2.2
    refine Ev.bind (impl_reader_text_ev s (by omega) _ _) ?_
    generalize textC s v3.2.2.1 v3.2.2.2 = v4 at *
    have hc := conf_len' v3.1
    refine Ev.bind (impl_SnapText_ev _ _ _ _ (by omega) (by omega)) (Ev.is ?_)
    unfold finSnap noSnap
    split <;> (try split) <;> (try split) <;> rfl
theorem laws_eqIntS_l0 (l m : List Int) (hl : l.length ≤ 35184372088832) (hm : l.length = m.length) : ∀ (d i : Nat), i + d = l.length →
    Ev (fun k => laws_eqIntS.l0 k l m (i : Int)) (decide (l.drop i = m.drop i))
  | 0, i, h => by
    refine Ev.step (f := fun k => some true) (fun k => ?_) ((Ev.now _).eq ?_)
    · simp only [laws_eqIntS.l0]; rw [if_neg (by omega)]
    · rw [List.drop_of_length_le (by omega), List.drop_of_length_le (by omega)]; rfl
  | d + 1, i, h => by
    rw [rd_drop (l := l) (by omega), rd_drop (l := m) (by omega)]
    by_cases e : rd l (i : Int) = rd m (i : Int)
    · refine Ev.step (f := fun k => laws_eqIntS.l0 k l m ((i + 1 : Nat) : Int)) (fun k => ?_) ((laws_eqIntS_l0 l m hl hm d (i + 1) (by omega)).eq ?_)
      · simp only [laws_eqIntS.l0]
        rw [if_pos (by omega), if_pos (by omega), if_pos (by omega), if_pos e, w64 (x := (i : Int) + 1) (by omega) (by omega)]
        rfl
      · simp [e]
    · refine Ev.step (f := fun k => some false) (fun k => ?_) ((Ev.now _).eq ?_)
      · simp only [laws_eqIntS.l0]
        rw [if_pos (by omega), if_pos (by omega), if_pos (by omega), if_neg e]
      · simp [e]
theorem laws_eqIntS_ev (l m : List Int) (hl : l.length ≤ 35184372088832) : Ev (fun k => laws_eqIntS.f k l m) (decide (l = m)) := by
  unfold laws_eqIntS.f
  by_cases h : l.length = m.length
  · refine Ev.pos (by omega) ((laws_eqIntS_l0 l m hl h l.length 0 (by omega)).eq (by simp))
  · refine Ev.neg (by omega) ((Ev.now _).eq ?_)
    rw [eq_comm, decide_eq_false_iff_not]
    intro e; exact h (by rw [e])
theorem laws_eqSnap_ev (a b : Int) (l : List Int) (s : ByteArray) (hl : l.length ≤ 1048576) : Ev (fun k => laws_eqSnap.f k a b l s a b l s) true := by
  unfold laws_eqSnap.f
  exact Ev.pos rfl (Ev.pos rfl (Ev.bind (laws_eqIntS_ev l l (by omega)) (Ev.pos (by simp) (Ev.pos rfl (Ev.now _)))))
theorem laws_markIntS_l0 (l : List Int) (hl : l.length ≤ 35184372088832) (m : Int) (h0 : 0 ≤ m) (hm : m ≤ 1000000000000000) : ∀ (d i : Nat), i + d = l.length →
    Ev (fun k => laws_markIntS.l0 k ((seqI m l.length).take i ++ l.drop i) (m + i) (i : Int)) (m + l.length, seqI m l.length)
  | 0, i, h => by
    obtain rfl : i = l.length := by omega
    have e : (seqI m l.length).take l.length ++ l.drop l.length = seqI m l.length := by rw [List.drop_length, List.append_nil, List.take_of_length_le (by rw [seqI_length]; omega)]
    rw [e]
    refine Ev.step (f := fun k => some (m + (l.length : Int), seqI m l.length)) (fun k => ?_) (Ev.now _)
    simp only [laws_markIntS.l0]; rw [if_neg (by rw [seqI_length]; omega)]
  | d + 1, i, h => by
    have hL : ((seqI m l.length).take i ++ l.drop i).length = l.length := by rw [List.length_append, List.length_take, List.length_drop, seqI_length]; omega
    refine Ev.step (f := fun k => laws_markIntS.l0 k ((seqI m l.length).take (i + 1) ++ l.drop (i + 1)) (m + ((i + 1 : Nat) : Int)) ((i + 1 : Nat) : Int)) (fun k => ?_) (laws_markIntS_l0 l hl m h0 hm d (i + 1) (by omega))
    simp only [laws_markIntS.l0]
    rw [if_pos (by rw [hL]; omega), if_pos (by omega), w64 (x := (i : Int) + 1) (by omega) (by omega), w64 (x := m + (i : Int) + 1) (by omega) (by omega)]
    rw [Int.toNat_natCast, List.set_append_right _ _ (by rw [List.length_take]; omega), List.length_take, seqI_length, show i - min i l.length = 0 from by omega]
    rw [List.drop_eq_getElem_cons (show i < l.length by omega), List.set_cons_zero, seqI_take m l.length i (by omega), List.append_assoc]
    congr 1
    omega
theorem laws_markIntS_ev (l : List Int) (hl : l.length ≤ 35184372088832) (m : Int) (h0 : 0 ≤ m) (hm : m ≤ 1000000000000000) :
    Ev (fun k => laws_markIntS.f k l m) (m + l.length, seqI m l.length) := by
  have := laws_markIntS_l0 l hl m h0 hm l.length 0 (by omega)
  show Ev (fun k => laws_markIntS.l0 k l m 0) _
  simpa using this
theorem laws_markSnap_ev (a b : Int) (l : List Int) (s : ByteArray) (hl : l.length ≤ 1048576) : Ev (fun k => laws_markSnap.f k a b l s 1) (1 + (l.length : Int), seqI 1 l.length) := by
  unfold laws_markSnap.f
  exact Ev.bind (laws_markIntS_ev _ (by omega) 1 (by omega) (by omega)) (Ev.now _)
theorem laws_heldIntS_l0 (n : Nat) (hl : n ≤ 35184372088832) (m : Int) (h0 : 0 ≤ m) (hm : m ≤ 1000000000000000) : ∀ (d i : Nat), i + d = n →
    Ev (fun k => laws_heldIntS.l0 k (seqI m n) (m + i) (i : Int)) (m + n)
  | 0, i, h => by
    obtain rfl : i = n := by omega
    refine Ev.step (f := fun k => some (m + (i : Int))) (fun k => ?_) (Ev.now _)
    simp only [laws_heldIntS.l0]; rw [if_neg (by rw [seqI_length]; omega)]
  | d + 1, i, h => by
    refine Ev.step (f := fun k => laws_heldIntS.l0 k (seqI m n) (m + ((i + 1 : Nat) : Int)) ((i + 1 : Nat) : Int)) (fun k => ?_) (laws_heldIntS_l0 n hl m h0 hm d (i + 1) (by omega))
    simp only [laws_heldIntS.l0]
    rw [if_pos (by rw [seqI_length]; omega), if_pos (by omega), rd_nat _ i (by rw [seqI_length]; omega), seqI_get, if_pos rfl, w64 (x := (i : Int) + 1) (by omega) (by omega), w64 (x := m + (i : Int) + 1) (by omega) (by omega)]
    congr 1
    omega
theorem laws_heldIntS_ev (n : Nat) (hl : n ≤ 35184372088832) (m : Int) (h0 : 0 ≤ m) (hm : m ≤ 1000000000000000) : Ev (fun k => laws_heldIntS.f k (seqI m n) m) (m + n) := by
  have := laws_heldIntS_l0 n hl m h0 hm n 0 (by omega)
  show Ev (fun k => laws_heldIntS.l0 k (seqI m n) m 0) _
  simpa using this
theorem laws_heldSnap_ev (a b : Int) (n : Nat) (s : ByteArray) (hl : n ≤ 1048576) : Ev (fun k => laws_heldSnap.f k a b (seqI 1 n) s 1) (1 + (n : Int)) := by
  unfold laws_heldSnap.f
  refine Ev.bind (laws_heldIntS_ev _ (by omega) 1 (by omega) (by omega)) (Ev.neg (by omega) (Ev.now _))
theorem finSnap_len (text : ByteArray) (i t : Int) (l : List Int) (body : ByteArray) (bad : Bool) (h : l.length ≤ 4) : (finSnap text i t l body bad).2.2.1.length ≤ 4 := by
  unfold finSnap noSnap
  split
  · simp
  · split
    · split
      · exact h
      · simp
    · simp
theorem implSnap_len (text : ByteArray) : (implSnap text).2.2.1.length ≤ 4 := by
  unfold implSnap
  simp only
  split
  · exact finSnap_len _ _ _ _ _ _ (conf_len' _)
  · simp [noSnap]
theorem FnExactReadSnap : laws_FnExactReadSnap.Pure := by
  intro s hs
  apply Ev.rounds
  unfold laws_FnExactReadSnap.f
  by_cases h : (s.size : Int) > 1048576
  · exact Ev.pos h (Ev.now _)
  · have hz := implSnap_len s
    refine Ev.neg h (Ev.bind (spec_ReadSnap_ev s hs) (Ev.bind (impl_ReadSnap_ev s hs) ?_))
    rw [snap_same]
    refine Ev.bind (laws_eqSnap_ev _ _ _ _ (by omega)) (Ev.pos (by simp) ?_)
    refine Ev.step (fun k => rfl) (Ev.neg (by simp) (Ev.bind (laws_markSnap_ev _ _ _ _ (by omega)) (Ev.bind (laws_heldSnap_ev _ _ _ _ (by omega)) (Ev.neg (by omega) (Ev.pos rfl ?_)))))
    refine Ev.bind (impl_ReadSnap_ev s hs) (Ev.bind (laws_eqSnap_ev _ _ _ _ (by omega)) (Ev.pos (by simp) ?_))
    exact Ev.step (fun k => rfl) (Ev.neg (by simp) (Ev.bind (laws_heldSnap_ev _ _ _ _ (by omega)) (Ev.neg (by omega) (Ev.pos rfl (Ev.now _)))))

end Go.Proofs.Ytcbfdokmkhmabaa.Pure
