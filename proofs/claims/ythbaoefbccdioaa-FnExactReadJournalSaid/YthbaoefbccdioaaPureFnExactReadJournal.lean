/- The law FnExactReadJournal answers true at every input; no condition. -/
import Derived.Test.YthbaoefbccdioaaQFnExactReadJournalx16
import Derived.Test.YthbaoefbccdioaaTM
namespace Go.Proofs.Ythbaoefbccdioaa.Pure
open Go.RowKit Go.Proofs.Ythbaoefbccdioaa.QFnExactReadJournal Go.Proofs.YthbaoefbccdioaaW.PrintWords Go.Proofs.YthbaoefbccdioaaW.PrintLast Go.Proofs.YthbaoefbccdioaaW.PrintMore Go.Proofs.Ythbaoefbccdioaa.M
set_option linter.unusedVariables false
set_option linter.unusedSimpArgs false
set_option maxRecDepth 4000

theorem spec_l01In_is (a b c : Int) : spec_l01In.f a b c = some (inR a b c) := by
  unfold spec_l01In.f inR
  by_cases h : a ≥ b
  · rw [if_pos h]; congr 1; simp; omega
  · rw [if_neg h]; congr 1; simp; omega
theorem spec_l01Var_l0 : ∀ (n : Nat) (acc : List Int), acc.length + n < 140737488355328 → Ev (fun k => spec_l01Var.l0 k (n : Int) acc) (strOfNums (acc ++ varL n)) := by
  intro n
  induction n using Nat.strongRecOn with
  | _ n ih =>
    intro acc ha
    by_cases h : 127 < n
    · refine Ev.step (f := fun k => spec_l01Var.l0 k ((n / 128 : Nat) : Int) (acc ++ [((n % 128 + 128 : Nat) : Int)])) (fun k => ?_) ?_
      · simp only [spec_l01Var.l0]
        rw [if_pos (by omega), if_pos (by omega), td (by omega), tm (by omega)]
        rw [w64 (x := (n : Int) / 128) (by omega) (by omega), w64 (x := (n : Int) % 128 + 128) (by omega) (by omega)]
        congr 3
        omega
      · refine (ih (n / 128) (by omega) _ (by simp; omega)).eq ?_
        rw [varL_big h, List.append_assoc]; rfl
    · refine Ev.step (f := fun k => some (strOfNums (acc ++ varL n))) (fun k => ?_) (Ev.now _)
      simp only [spec_l01Var.l0]
      rw [if_neg (by omega), if_pos (by omega), varL_small h]
      congr 4
      omega
theorem spec_l01Var_ev (n : Nat) (h : n < 140737488355328) : Ev (fun k => spec_l01Var.f k (n : Int)) (vt n) := by
  have := spec_l01Var_l0 n [] (by simpa using h)
  exact this
theorem spec_l01Var_evi (n : Int) (h0 : 0 ≤ n) (h : n < 140737488355328) : Ev (fun k => spec_l01Var.f k n) (vt n.toNat) := by
  have := spec_l01Var_ev n.toNat (by omega)
  rwa [Int.toNat_of_nonneg h0] at this
theorem spec_l02Four_is (x : Int) : spec_l02Four.f x = some (four x) := rfl
theorem spec_SumMore_l1 {s : ByteArray} {i r : Int} : ∀ (d : Nat) (j x0 : Int), 0 ≤ j → j + d = 8 → Ev (fun k => spec_SumMore.l0 k (halves d x0) s (wrap64 (i + 1))) r → Ev (fun k => spec_SumMore.l1 k x0 s i j) r
  | 0, j, x0, h0, h, hk => by
    refine Ev.step (f := fun k => spec_SumMore.l0 k x0 s (wrap64 (i + 1))) (fun k => ?_) hk
    simp only [spec_SumMore.l1]; rw [if_neg (by omega)]
  | d + 1, j, x0, h0, h, hk => by
    refine Ev.step (f := fun k => spec_SumMore.l1 k (half x0) s i (j + 1)) (fun k => ?_) (spec_SumMore_l1 d (j + 1) (half x0) (by omega) (by omega) hk)
    simp only [spec_SumMore.l1]; rw [if_pos (by omega), w64 (x := j + 1) (by omega) (by omega)]
    unfold half
    split <;> rfl
theorem spec_SumMore_l0 (s : ByteArray) (hs : s.size ≤ 140737488351232) : ∀ (d i : Nat) (x0 : Int), i + d = s.size → Ev (fun k => spec_SumMore.l0 k x0 s i) (sumL x0 ((bytesOf s).drop i))
  | 0, i, x0, h => by
    refine Ev.step (f := fun k => some x0) (fun k => ?_) ((Ev.now _).eq ?_)
    · simp only [spec_SumMore.l0]; rw [if_neg (by omega)]
    · rw [List.drop_of_length_le (by rw [bytesOf_length]; omega)]; rfl
  | d + 1, i, x0, h => by
    refine Ev.step (f := fun k => spec_SumMore.l1 k (Go.bits .xor .u32 x0 (bt s i % 4294967296)) s i 0) (fun k => ?_) (spec_SumMore_l1 8 0 _ (by omega) (by omega) ?_)
    · simp only [spec_SumMore.l0]; rw [if_pos (by omega), if_pos (by omega)]
    · rw [w64 (x := (i : Int) + 1) (by omega) (by omega)]
      have := spec_SumMore_l0 s hs d (i + 1) (halves 8 (Go.bits .xor .u32 x0 (bt s i % 4294967296))) (by omega)
      rw [bytes_drop (by omega)]
      exact this
theorem spec_SumMore_ev (x : Int) (s : ByteArray) (hs : s.size ≤ 140737488351232) : Ev (fun k => spec_SumMore.f k x s) (sumL x (bytesOf s)) := by
  have := spec_SumMore_l0 s hs s.size 0 x (by omega)
  exact this
theorem spec_SumOf_ev (s : ByteArray) (hs : s.size ≤ 140737488351232) : Ev (fun k => spec_SumOf.f k s) (sumOf s) := by
  unfold spec_SumOf.f
  exact Ev.bind (spec_SumMore_ev _ s hs) (Ev.now _)
theorem spec_Frame_ev (s : ByteArray) (hs : s.size ≤ 140737488351232) : Ev (fun k => spec_Frame.f k s) (frame s) := by
  unfold spec_Frame.f frame
  refine Ev.bind0 (spec_l01In_is _ _ _) ?_
  by_cases h : 1 ≤ s.size ∧ s.size ≤ 9000
  · rw [if_pos h]
    refine Ev.pos (inR_iff.2 (by omega)) (Ev.bind (spec_l01Var_ev s.size (by omega)) (Ev.bind (spec_SumOf_ev s hs) (Ev.bind0 (spec_l02Four_is _) (Ev.is ?_))))
    have := vt_size5 s.size (by omega)
    rw [if_pos (by rw [four_size]; omega), if_pos (by rw [size_append, four_size]; omega)]
  · rw [if_neg h]
    exact Ev.neg (fun e => h (by have := inR_iff.1 e; omega)) (Ev.now _)
theorem spec_ReadVar_l0 (s : ByteArray) (hs : s.size ≤ 140737488351232) (a : Nat) : ∀ (f i n : Nat), i + f = 5 → Led s a i n →
    Ev (fun k => spec_ReadVar.l0 k s (a : Int) (n : Int) ((128 ^ i : Nat) : Int) ((a + i : Nat) : Int))
      (match rvL f i n ((bytesOf s).drop (a + i)) with | some (n, m) => ((n : Int), (a : Int) + m, true) | none => (0, 0, false))
  | 0, i, n, hi, hl => by
    have h1 := hl.1
    refine Ev.step (f := fun k => spec_ReadVar.j1 k s (a : Int) (n : Int) ((128 ^ i : Nat) : Int) ((a + i : Nat) : Int) false) (fun k => ?_) ?_
    · simp only [spec_ReadVar.l0]
      rw [w64 (x := (a : Int) + 5) (by omega) (by omega)]
      split
      · rw [show decide (((a + i : Nat) : Int) < (a : Int) + 5) = false from by simp; omega]
      · rfl
    · refine Ev.step (f := fun _ => some (0, 0, false)) (fun k => ?_) (Ev.now _)
      simp only [spec_ReadVar.j1]; rfl
  | f + 1, i, n, hi, hl => by
    have h1 := hl.1
    by_cases hlt : a + i < s.size
    · have hr := bt_range s ((a + i : Nat) : Int)
      have hp := pow_bound (i := i) (by omega)
      have hm := mul_bound (bt s ((a + i : Nat) : Int)).toNat (128 ^ i) hp.1
      have hn := hl.lt
      rw [bytes_drop hlt]
      refine Ev.step (f := fun k => spec_ReadVar.j1 k s (a : Int) (n : Int) ((128 ^ i : Nat) : Int) ((a + i : Nat) : Int) true) (fun k => ?_) ?_
      · simp only [spec_ReadVar.l0]
        rw [w64 (x := (a : Int) + 5) (by omega) (by omega), if_pos (by omega)]
        rw [show decide (((a + i : Nat) : Int) < (a : Int) + 5) = true from by simp; omega]
      have hb : wrap64 (bt s ((a + i : Nat) : Int)) = bt s ((a + i : Nat) : Int) := w64 (by omega) (by omega)
      have e1 : Int.tmod (bt s ((a + i : Nat) : Int)) 128 * ((128 ^ i : Nat) : Int) = (((bt s ((a + i : Nat) : Int)).toNat % 128 * 128 ^ i : Nat) : Int) := by
        rw [tm (by omega), Int.natCast_mul]; congr 1; omega
      generalize hc : (bt s ((a + i : Nat) : Int)).toNat % 128 * 128 ^ i = q at *
      have e2 : wrap64 ((n : Int) + wrap64 (Int.tmod (wrap64 (bt s ((a + i : Nat) : Int))) 128 * ((128 ^ i : Nat) : Int))) = ((n + q : Nat) : Int) := by
        rw [hb, e1, w64 (x := (q : Int)) (by omega) (by omega), w64 (by omega) (by omega)]; omega
      by_cases hb : bt s ((a + i : Nat) : Int) < 128
      · have hsame := hl.same hlt hb
        rw [hc] at hsame
        simp only [rvL, if_pos hb, hc]
        by_cases hM : n + q ≤ 1000000000
        · refine Ev.step (f := fun k => (spec_l01Var.f k ((n + q : Nat) : Int)).bind fun t => (if t.toList = (s.extract a (a + i + 1)).toList then some (((n + q : Nat) : Int), ((a + i + 1 : Nat) : Int), true) else some (0, 0, false))) (fun k => ?_) ?_
          · simp only [spec_ReadVar.j1, if_true]
            rw [if_pos (by omega), if_pos (by omega), if_pos hb, e2, if_neg (by omega)]
            rw [w64 (x := ((a + i : Nat) : Int) + 1) (by omega) (by omega)]
            simp only [if_pos (show (0 : Int) ≤ (a : Int) from by omega), if_pos (show (a : Int) ≤ ((a + i : Nat) : Int) + 1 from by omega), if_pos (show ((a + i : Nat) : Int) + 1 ≤ (s.size : Int) from by omega)]
            rw [show ((a : Int)).toNat = a from by omega, show (((a + i : Nat) : Int) + 1).toNat = a + i + 1 from by omega, show ((a + i : Nat) : Int) + 1 = ((a + i + 1 : Nat) : Int) from by omega]
          · refine Ev.bind (spec_l01Var_ev (n + q) (by omega)) (Ev.is ?_)
            by_cases hq : (varL (n + q)).length = i + 1
            · rw [if_pos (hsame.2 hq), if_pos ⟨hM, hq⟩]
              simp only [Option.some.injEq, Prod.mk.injEq, and_true, true_and]; omega
            · rw [if_neg (fun e => hq (hsame.1 e)), if_neg (fun e => hq e.2)]
        · refine Ev.step (f := fun k => some (0, 0, false)) (fun k => ?_) ((Ev.now _).eq ?_)
          · simp only [spec_ReadVar.j1, if_true]
            rw [if_pos (by omega), if_pos (by omega), if_pos hb, e2, if_pos (by omega)]
          · rw [if_neg (fun e => hM e.1)]
      · simp only [rvL, if_neg hb, hc]
        have hnext := hl.next hlt (by omega)
        rw [hc] at hnext
        have e3 : wrap64 (((128 ^ i : Nat) : Int) * 128) = ((128 ^ (i + 1) : Nat) : Int) := by
          rw [w64 (by omega) (by omega), Nat.pow_succ, Int.natCast_mul]; rfl
        refine Ev.step (f := fun k => spec_ReadVar.l0 k s (a : Int) ((n + q : Nat) : Int) ((128 ^ (i + 1) : Nat) : Int) ((a + (i + 1) : Nat) : Int)) (fun k => ?_) (spec_ReadVar_l0 s hs a f (i + 1) (n + q) (by omega) hnext)
        simp only [spec_ReadVar.j1, if_true]
        rw [if_pos (by omega), if_pos (by omega), if_neg hb, e2, e3]
        rw [w64 (x := ((a + i : Nat) : Int) + 1) (by omega) (by omega), show ((a + i : Nat) : Int) + 1 = ((a + (i + 1) : Nat) : Int) from by omega]
    · rw [List.drop_of_length_le (by rw [bytesOf_length]; omega)]
      refine Ev.step (f := fun k => spec_ReadVar.j1 k s (a : Int) (n : Int) ((128 ^ i : Nat) : Int) ((a + i : Nat) : Int) false) (fun k => ?_) ?_
      · simp only [spec_ReadVar.l0]
        rw [if_neg (by omega)]
      · refine Ev.step (f := fun _ => some (0, 0, false)) (fun k => ?_) (Ev.now _)
        simp only [spec_ReadVar.j1]; rfl
theorem spec_ReadVar_ev (s : ByteArray) (hs : s.size ≤ 140737488351232) (a : Int) : Ev (fun k => spec_ReadVar.f k s a) (readVar s a) := by
  unfold spec_ReadVar.f readVar
  refine Ev.bind0 (spec_l01In_is _ _ _) ?_
  by_cases h : 0 ≤ a ∧ a ≤ (s.size : Int)
  · rw [if_pos h]
    refine Ev.pos (inR_iff.2 h) ?_
    have := spec_ReadVar_l0 s hs a.toNat 5 0 0 rfl (Led.start s a.toNat (by omega))
    simp only [Nat.add_zero, Int.toNat_of_nonneg h.1] at this
    exact this
  · rw [if_neg h]
    exact Ev.neg (fun e => h (inR_iff.1 e)) (Ev.now _)
theorem spec_Unframe_l0 (s : ByteArray) (hs : s.size ≤ 20000) : ∀ (f a : Nat) (acc : List ByteArray), a + f = s.size → acc.length ≤ a →
    Ev (fun k => spec_Unframe.l0 k s acc (a : Int)) ((unf f s acc a).1, ((unf f s acc a).2 : Int)) := by
  intro f
  induction f using Nat.strongRecOn with
  | _ f ih =>
    intro a acc hf ha
    cases f with
    | zero =>
      refine Ev.step (f := fun k => some (acc, (a : Int))) (fun k => ?_) (Ev.now _)
      simp only [spec_Unframe.l0]; rw [if_neg (by omega)]
    | succ f =>
      refine Ev.step (fun k => by simp only [spec_Unframe.l0]; rw [if_pos (by omega)]) (Ev.bind (spec_ReadVar_ev s (by omega) (a : Int)) ?_)
      simp only [unf, nextF]
      rcases readVar_cases s (a : Int) with h | ⟨n, m, h, hn, hm, _, hb, hv⟩
      · rw [h]
        have hv : rvar ((bytesOf s).drop a) = none := by
          unfold readVar at h
          rw [if_pos (by omega), Int.toNat_natCast] at h
          cases e : rvar ((bytesOf s).drop a) with
          | none => rfl
          | some p => obtain ⟨n, m⟩ := p; rw [e] at h; simp at h
        rw [hv]
        refine Ev.neg (by simp) (Ev.step (fun k => rfl) (Ev.now _))
      · rw [h]
        rw [Int.toNat_natCast] at hv
        rw [hv]
        refine Ev.pos rfl ?_
        simp only
        rw [w64 (x := (s.size : Int) - ((a : Int) + (m : Int))) (by omega) (by omega), w64 (x := (s.size : Int) - ((a : Int) + (m : Int)) - 4) (by omega) (by omega)]
        by_cases h1 : n + (a + m + 4) ≤ s.size
        · rw [decide_eq_false (p := (n : Int) > (s.size : Int) - ((a : Int) + (m : Int)) - 4) (by omega), if_pos h1]
          refine Ev.step (fun k => by simp only [spec_Unframe.j1, Bool.false_eq_true, if_false]; rfl) ?_
          rw [w64 (x := (a : Int) + (m : Int) + 4) (by omega) (by omega), w64 (x := (a : Int) + (m : Int) + 4 + (n : Int)) (by omega) (by omega)]
          have e1 : ((a : Int) + (m : Int) + 4).toNat = a + m + 4 := by omega
          have e2 : ((a : Int) + (m : Int) + 4 + (n : Int)).toNat = a + m + 4 + n := by omega
          rw [e1, e2]
          have hz := size_extract s (a + m + 4) (a + m + 4 + n) (by omega) (by omega)
          refine Ev.pos (by omega) (Ev.pos (by omega) (Ev.pos (by omega) (Ev.bind (spec_Frame_ev _ (by omega)) ?_)))
          by_cases h2 : (frame (s.extract (a + m + 4) (a + m + 4 + n))).2 = true
          · refine Ev.pos h2 (Ev.pos (by omega) (Ev.pos (by omega) ?_))
            rw [Int.toNat_natCast]
            by_cases h3 : (frame (s.extract (a + m + 4) (a + m + 4 + n))).1 = s.extract a (a + m + 4 + n)
            · refine Ev.pos ((toList_iff _ _).2 h3) (Ev.pos (by omega) ?_)
              rw [if_pos ⟨h2, h3⟩]
              have e3 : (a : Int) + (m : Int) + 4 + (n : Int) = ((a + m + 4 + n : Nat) : Int) := by omega
              rw [e3]
              refine (ih (s.size - (a + m + 4 + n)) (by omega) (a + m + 4 + n) (acc ++ [s.extract (a + m + 4) (a + m + 4 + n)]) (by omega) (by simp; omega)).eq ?_
              rw [unf_enough s (s.size - (a + m + 4 + n)) f _ _ (by omega) (by omega) (by omega)]
            · refine Ev.neg (fun e => h3 ((toList_iff _ _).1 e)) ((Ev.now _).eq ?_)
              rw [if_neg (fun e => h3 e.2)]
          · refine Ev.neg h2 ((Ev.now _).eq ?_)
            rw [if_neg (fun e => h2 e.1)]
        · rw [decide_eq_true (p := (n : Int) > (s.size : Int) - ((a : Int) + (m : Int)) - 4) (by omega), if_neg h1]
          exact Ev.step (fun k => rfl) (Ev.now _)
theorem spec_Unframe_ev (s : ByteArray) : Ev (fun k => spec_Unframe.f k s) ((unframe s).1, ((unframe s).2 : Int)) := by
  unfold spec_Unframe.f unframe
  refine Ev.bind0 rfl ?_
  by_cases h : s.size ≤ 20000
  · rw [if_pos h]; exact Ev.neg (by omega) (spec_Unframe_l0 s h s.size 0 [] (by omega) (by simp))
  · rw [if_neg h]; exact Ev.pos (by omega) (Ev.now _)
def varC (s : ByteArray) (a : Int) (b : Bool) : Int × ByteArray × Int × Bool :=
  if b = true then (0, s, a, true) else if (readVar s a).2.2 = true then ((readVar s a).1, s, (readVar s a).2.1, b) else (0, s, a, true)
theorem varC_bad (s : ByteArray) (a : Int) : varC s a true = (0, s, a, true) := by simp [varC]
theorem readVar_nat {s : ByteArray} {a : Nat} (h : a ≤ s.size) : readVar s (a : Int) = (match rvar ((bytesOf s).drop a) with | some (n, m) => ((n : Int), (a : Int) + m, true) | none => (0, 0, false)) := by
  rw [readVar, if_pos ⟨by omega, by omega⟩, Int.toNat_natCast]; cases rvar ((bytesOf s).drop a) <;> rfl
theorem varC_none {s : ByteArray} {a : Nat} (h : a ≤ s.size) (e : rvar ((bytesOf s).drop a) = none) : varC s (a : Int) false = (0, s, (a : Int), true) := by
  rw [varC, if_neg (by simp), readVar_nat h, e]; rfl
theorem varC_some {s : ByteArray} {a n m : Nat} (h : a ≤ s.size) (e : rvar ((bytesOf s).drop a) = some (n, m)) : varC s (a : Int) false = ((n : Int), s, ((a + m : Nat) : Int), false) := by
  rw [varC, if_neg (by simp), readVar_nat h, e]; simp
theorem rvar_nil {s : ByteArray} {a : Nat} (h : s.size ≤ a) : rvar ((bytesOf s).drop a) = none := by
  rw [List.drop_of_length_le (by rw [bytesOf_length]; exact h)]; rfl
theorem extract_one {s : ByteArray} {a : Nat} (h : a < s.size) : s.extract a (a + 1) = strOfNums [bt s (a : Int)] := bytes_inj (by
  have hr := bt_range s (a : Int)
  rw [bytes_extract, bytes_str (by simp; omega), bytes_drop h]
  simp)
theorem bt_one {s : ByteArray} {a : Nat} (h : a < s.size) : bt (s.extract a (a + 1)) 0 = bt s (a : Int) := by
  have hr := bt_range s (a : Int)
  have hz : 0 < (bytesOf (s.extract a (a + 1))).length := by rw [bytesOf_length, size_extract s a (a + 1) (by omega) (by omega)]; omega
  have := bytes_get (s.extract a (a + 1)) 0 hz
  rw [show ((0 : Nat) : Int) = 0 from rfl] at this
  rw [← this]
  simp only [extract_one h]
  simp only [bytes_str (xs := [bt s (a : Int)]) (by simp; omega), List.getElem_cons_zero]
theorem spec_l05Take_bad (s : ByteArray) (a n : Int) : spec_l05Take.f s a true n = some (⟨#[]⟩, s, a, true) := by
  unfold spec_l05Take.f; rw [if_pos rfl]
theorem spec_l05Take_no {s : ByteArray} (hs : s.size ≤ 140737488351232) {a : Nat} (ha : a ≤ s.size) {n : Int} (h0 : 0 ≤ n) (h : (s.size : Int) < a + n) : spec_l05Take.f s (a : Int) false n = some (⟨#[]⟩, s, (a : Int), true) := by
  unfold spec_l05Take.f
  rw [if_neg (by simp), w64 (x := (s.size : Int) - a) (by omega) (by omega), if_pos (by omega)]
theorem spec_l05Take_ok {s : ByteArray} (hs : s.size ≤ 140737488351232) {a n : Nat} (h : a + n ≤ s.size) : spec_l05Take.f s (a : Int) false (n : Int) = some (s.extract a (a + n), s, ((a + n : Nat) : Int), false) := by
  unfold spec_l05Take.f
  rw [if_neg (by simp), w64 (x := (s.size : Int) - a) (by omega) (by omega), if_neg (by omega), w64 (x := (a : Int) + n) (by omega) (by omega), w64 (x := (a : Int) + n - n) (by omega) (by omega), if_pos (by omega), if_pos (by omega), if_pos (by omega)]
  have e1 : ((a : Int) + n - n).toNat = a := by omega
  have e2 : ((a : Int) + n).toNat = a + n := by omega
  rw [e1, e2, ← Int.natCast_add]
theorem spec_l05Var_ev (s : ByteArray) (hs : s.size ≤ 140737488351232) (a : Int) (b : Bool) : Ev (fun k => spec_l05Var.f k s a b) (varC s a b) := by
  unfold spec_l05Var.f varC
  refine Ev.bind (spec_ReadVar_ev s hs a) (Ev.is ?_)
  split <;> (try split) <;> simp_all
/-- Two numbers behind a letter, and nothing more. -/
def twoN (s : ByteArray) (c : Int) : Int × Int × Bool :=
  match rvar ((bytesOf s).drop 1) with
  | none => (0, 0, false)
  | some (n, m) => match rvar ((bytesOf s).drop (1 + m)) with
    | none => (0, 0, false)
    | some (t, m2) => if bt s 0 = c ∧ 1 + m + m2 = s.size then ((n : Int), (t : Int), true) else (0, 0, false)
theorem two_text {s a1 : ByteArray} {n m t m2 : Nat} {c : Int} (hc : bytesOf a1 = [c]) (h0 : 1 ≤ s.size) (h1 : rvar ((bytesOf s).drop 1) = some (n, m)) (h2 : rvar ((bytesOf s).drop (1 + m)) = some (t, m2)) :
    a1 ++ vt n ++ vt t = s ↔ bt s 0 = c ∧ 1 + m + m2 = s.size := by
  have b1 := rvar_some h1
  have b2 := rvar_some h2
  have hr0 := bt_range s 0
  have e0 : s.extract 0 1 = strOfNums [bt s 0] := extract_one (a := 0) (by omega)
  have key : s.extract 0 (1 + m + m2) = strOfNums [bt s 0] ++ vt n ++ vt t := by
    rw [← e0, rvar_vt h1, rvar_vt h2, extract_extract_append _ _ _ _ (by omega) (by omega), extract_extract_append _ _ _ _ (by omega) (by omega)]
  have hz1 : (vt n).size = m := by rw [rvar_vt h1, size_extract _ _ _ (by omega) (by omega)]; omega
  have hz2 : (vt t).size = m2 := by rw [rvar_vt h2, size_extract _ _ _ (by omega) (by omega)]; omega
  have ha1 : a1.size = 1 := by rw [← bytesOf_length, hc]; rfl
  constructor
  · intro e
    have hz := congrArg ByteArray.size e
    simp only [ByteArray.size_append] at hz
    have hz' : 1 + m + m2 = s.size := by omega
    refine ⟨?_, hz'⟩
    rw [hz', extract_all] at key
    have e' := e.trans key
    have := congrArg bytesOf e'
    simp only [bytes_append] at this
    rw [bytes_str (xs := [bt s 0]) (by simp; omega), hc] at this
    simp only [List.singleton_append, List.cons_append, List.cons.injEq] at this
    exact this.1.symm
  · rintro ⟨e, hz⟩
    rw [hz, extract_all] at key
    have ea : a1 = strOfNums [bt s 0] := bytes_inj (by rw [bytes_str (xs := [bt s 0]) (by simp; omega), hc, e])
    rw [ea]
    exact key.symm
theorem spec_l07Two_ev (s a1 : ByteArray) (c : Int) (hc : bytesOf a1 = [c]) (hs : s.size ≤ 17592186044416) : Ev (fun k => spec_l07Two.f k s a1) (twoN s c) := by
  have ha1 : a1.size = 1 := by rw [← bytesOf_length, hc]; rfl
  unfold spec_l07Two.f twoN
  by_cases h0 : s.size = 0
  · rw [rvar_nil (by omega)]
    refine Ev.bind0 (spec_l05Take_no (a := 0) (by omega) (by omega) (by omega) (by omega)) ?_
    refine Ev.bind (spec_l05Var_ev s (by omega) _ true) ?_
    rw [varC_bad]
    refine Ev.bind (spec_l05Var_ev s (by omega) _ true) ?_
    rw [varC_bad]
    exact Ev.pos rfl (Ev.now _)
  · refine Ev.bind0 (spec_l05Take_ok (a := 0) (n := 1) (by omega) (by omega)) ?_
    refine Ev.bind (spec_l05Var_ev s (by omega) ((1 : Nat) : Int) false) ?_
    cases e1 : rvar ((bytesOf s).drop 1) with
    | none =>
      rw [varC_none (by omega) e1]
      refine Ev.bind (spec_l05Var_ev s (by omega) _ true) ?_
      rw [varC_bad]
      exact Ev.pos rfl (Ev.now _)
    | some p =>
      obtain ⟨n, m⟩ := p
      have b1 := rvar_some e1
      rw [varC_some (by omega) e1]
      refine Ev.bind (spec_l05Var_ev s (by omega) ((1 + m : Nat) : Int) false) ?_
      simp only
      cases e2 : rvar ((bytesOf s).drop (1 + m)) with
      | none =>
        rw [varC_none (by omega) e2]
        exact Ev.pos rfl (Ev.now _)
      | some q =>
        obtain ⟨t, m2⟩ := q
        have b2 := rvar_some e2
        rw [varC_some (by omega) e2]
        simp only
        have z1 := vt_size5 n (by omega)
        have z2 := vt_size5 t (by omega)
        refine Ev.neg (by simp) (Ev.bind (spec_l01Var_ev n (by omega)) (Ev.pos (by omega) (Ev.bind (spec_l01Var_ev t (by omega)) (Ev.pos (by rw [ByteArray.size_append]; omega) ?_))))
        by_cases hq : bt s 0 = c ∧ 1 + m + m2 = s.size
        · rw [if_pos hq]
          exact Ev.pos ((toList_iff _ _).2 ((two_text hc (by omega) e1 e2).2 hq)) (Ev.now _)
        · rw [if_neg hq]
          exact Ev.neg (fun e => hq ((two_text hc (by omega) e1 e2).1 ((toList_iff _ _).1 e))) (Ev.now _)
theorem spec_l05Rise_l0 (l : List Int) (hl : l.length ≤ 35184372088832) : ∀ (d i : Nat) (p : Int), i + d = l.length → (i = 0 → p = 0) → (0 < i → p = rd l ((i - 1 : Nat) : Int)) →
    Ev (fun k => spec_l05Rise.l0 k l 1 4 (i : Int)) (riseF p (l.drop i))
  | 0, i, p, h, h0, h1 => by
    refine Ev.step (f := fun k => some true) (fun k => ?_) ((Ev.now _).eq ?_)
    · simp only [spec_l05Rise.l0]; rw [if_neg (by omega)]
    · rw [List.drop_of_length_le (by omega)]; rfl
  | d + 1, i, p, h, h0, h1 => by
    rw [rd_drop (l := l) (by omega)]
    have ih := spec_l05Rise_l0 l hl d (i + 1) (rd l (i : Int)) (by omega) (by omega) (fun _ => by simp)
    by_cases hin : 1 ≤ rd l (i : Int) ∧ rd l (i : Int) ≤ 4
    · by_cases hi : 0 < i
      · have hp := h1 hi
        have ei : wrap64 ((i : Int) - 1) = ((i - 1 : Nat) : Int) := by rw [w64 (by omega) (by omega)]; omega
        by_cases hlt : p < rd l (i : Int)
        · refine Ev.step (f := fun k => spec_l05Rise.l0 k l 1 4 ((i + 1 : Nat) : Int)) (fun k => ?_) (ih.eq ?_)
          · simp only [spec_l05Rise.l0]
            rw [if_pos (by omega), if_pos (by omega), spec_l01In_is, Option.bind_some, if_pos (inR_iff.2 hin), if_pos (by omega), ei, if_pos (by omega), if_pos (by omega), if_neg (by omega)]
            rw [w64 (x := (i : Int) + 1) (by omega) (by omega)]; rfl
          · simp only [riseF]; rw [decide_eq_true ⟨hin.1, hin.2, hlt⟩, Bool.true_and]
        · refine Ev.step (f := fun k => some false) (fun k => ?_) ((Ev.now _).eq ?_)
          · simp only [spec_l05Rise.l0]
            rw [if_pos (by omega), if_pos (by omega), spec_l01In_is, Option.bind_some, if_pos (inR_iff.2 hin), if_pos (by omega), ei, if_pos (by omega), if_pos (by omega), if_pos (by omega)]
          · simp only [riseF]; rw [decide_eq_false (fun e => hlt e.2.2), Bool.false_and]
      · have hp := h0 (by omega)
        refine Ev.step (f := fun k => spec_l05Rise.l0 k l 1 4 ((i + 1 : Nat) : Int)) (fun k => ?_) (ih.eq ?_)
        · simp only [spec_l05Rise.l0]
          rw [if_pos (by omega), if_pos (by omega), spec_l01In_is, Option.bind_some, if_pos (inR_iff.2 hin), if_neg (by omega)]
          rw [w64 (x := (i : Int) + 1) (by omega) (by omega)]; rfl
        · simp only [riseF]; rw [decide_eq_true ⟨hin.1, hin.2, by omega⟩, Bool.true_and]
    · refine Ev.step (f := fun k => some false) (fun k => ?_) ((Ev.now _).eq ?_)
      · simp only [spec_l05Rise.l0]
        rw [if_pos (by omega), if_pos (by omega), spec_l01In_is, Option.bind_some, if_neg (fun e => hin (inR_iff.1 e))]
      · simp only [riseF]; rw [decide_eq_false (fun e => hin ⟨e.1, e.2.1⟩), Bool.false_and]
theorem spec_l05Rise_ev (l : List Int) (hl : l.length ≤ 35184372088832) : Ev (fun k => spec_l05Rise.f k l 1 4) (riseF 0 l) := by
  have := spec_l05Rise_l0 l hl l.length 0 0 (by omega) (fun _ => rfl) (fun h => absurd h (by omega))
  exact this
theorem spec_ConfOk_ev (l : List Int) (hl : l.length ≤ 35184372088832) : Ev (fun k => spec_ConfOk.f k l) (confOk l) := by
  unfold spec_ConfOk.f confOk
  refine Ev.bind0 (spec_l01In_is _ _ _) ?_
  by_cases h : 1 ≤ l.length ∧ l.length ≤ 4
  · rw [decide_eq_true h, Bool.true_and]
    exact Ev.pos (inR_iff.2 (by omega)) (Ev.bind (spec_l05Rise_ev l hl) (Ev.now _))
  · rw [decide_eq_false h, Bool.false_and]
    exact Ev.neg (fun e => h (by have := inR_iff.1 e; omega)) (Ev.now _)
theorem spec_ReadConf_end (s : ByteArray) (acc : List Int) (n : Nat) (hn : n ≤ 5) (hs : s.size ≤ 140737488351232) (ha : acc = (bytesOf s).take n) (hx : n = s.size ∨ n = 5) :
    Ev (fun k => if (acc.length : Int) = (s.size : Int) then ((spec_ConfOk.f k acc).bind fun t => if t = true then some (acc, true) else some ([], false)) else some ([], false)) (readConf s) := by
  have hl : acc.length = min n s.size := by rw [ha, List.length_take, bytesOf_length]
  by_cases e : acc.length = s.size
  · have : acc = bytesOf s := by rw [ha]; exact List.take_of_length_le (by rw [bytesOf_length]; omega)
    subst this
    refine Ev.pos (by omega) (Ev.bind (spec_ConfOk_ev _ (by omega)) (Ev.is ?_))
    unfold readConf
    by_cases h : confOk (bytesOf s) = true
    · rw [if_pos h, if_pos h]
    · rw [if_neg h, if_neg h]
  · refine Ev.neg (by omega) (Ev.is ?_)
    unfold readConf
    rw [if_neg]
    intro h
    have := confOk_len h
    rw [bytesOf_length] at this
    omega
theorem spec_ReadConf_l0 (s : ByteArray) (hs : s.size ≤ 140737488351232) : ∀ (d i : Nat), i + d = 5 → i ≤ s.size →
    Ev (fun k => spec_ReadConf.l0 k s ((bytesOf s).take i) (i : Int)) (readConf s)
  | d, i, h, hi => by
    have hl : ((bytesOf s).take i).length = i := by rw [List.length_take, bytesOf_length]; omega
    by_cases hlt : i < s.size
    · cases d with
      | zero =>
        refine Ev.step (fun k => ?_) (spec_ReadConf_end s ((bytesOf s).take i) i (by omega) hs rfl (by omega))
        simp only [spec_ReadConf.l0]
        rw [if_pos (by omega), if_neg (by omega)]
      | succ d =>
        have hr := bt_range s (i : Int)
        refine Ev.step (f := fun k => spec_ReadConf.l0 k s ((bytesOf s).take (i + 1)) ((i + 1 : Nat) : Int)) (fun k => ?_) (spec_ReadConf_l0 s hs d (i + 1) (by omega) (by omega))
        simp only [spec_ReadConf.l0]
        rw [if_pos (by omega), if_pos (by omega), if_pos (by omega), if_pos (by omega), w64 (x := (i : Int) + 1) (by omega) (by omega), w64 (x := bt s i) (by omega) (by omega)]
        have e := Led.take_succ (s := s) (a := 0) (i := i) (by omega)
        rw [List.drop_zero, Nat.zero_add] at e
        rw [e]; rfl
    · refine Ev.step (fun k => ?_) (spec_ReadConf_end s ((bytesOf s).take i) i (by omega) hs rfl (by omega))
      simp only [spec_ReadConf.l0]
      rw [if_neg (by omega)]
theorem spec_ReadConf_ev (s : ByteArray) (hs : s.size ≤ 140737488351232) : Ev (fun k => spec_ReadConf.f k s) (readConf s) := by
  have := spec_ReadConf_l0 s hs 5 0 (by omega) (by omega)
  rw [List.take_zero] at this
  exact this
def entryOk (a b : Int) (c : ByteArray) : Bool :=
  decide (0 ≤ a ∧ a ≤ 100000) && (if b = 1 then (c.toList == ([] : List UInt8)) else if b = 2 then (readConf c).2 else if b = 3 then decide ((c.size : Int) ≤ 120) else false)
theorem entryOk_term {t k : Int} {d : ByteArray} (h : entryOk t k d = true) : 0 ≤ t ∧ t ≤ 100000 := by
  simp [entryOk] at h; omega
theorem spec_EntryOk_ev (a b : Int) (c : ByteArray) (hc : c.size ≤ 17592186044416) : Ev (fun k => spec_EntryOk.f k a b c) (entryOk a b c) := by
  unfold spec_EntryOk.f entryOk
  refine Ev.bind0 (spec_l01In_is _ _ _) ?_
  by_cases h : 0 ≤ a ∧ a ≤ 100000
  · refine Ev.pos (inR_iff.2 h) ?_
    rw [decide_eq_true h, Bool.true_and]
    by_cases h1 : b = 1
    · refine Ev.pos h1 (Ev.is ?_); rw [if_pos h1]
    · refine Ev.neg h1 ?_
      rw [if_neg h1]
      by_cases h2 : b = 2
      · refine Ev.pos h2 (Ev.bind (spec_ReadConf_ev c (by omega)) (Ev.is ?_)); rw [if_pos h2]
      · refine Ev.neg h2 ?_
        rw [if_neg h2]
        by_cases h3 : b = 3
        · refine Ev.pos h3 (Ev.is ?_); rw [if_pos h3]
        · refine Ev.neg h3 (Ev.is ?_); rw [if_neg h3]
  · refine Ev.neg (fun e => h (inR_iff.1 e)) (Ev.is ?_)
    rw [decide_eq_false h, Bool.false_and]
abbrev LEn := S135
abbrev IEn := S135
def toEn (x : LEn) : IEn := ⟨x.f0, x.f1, x.f2⟩
theorem rd_LEn {l : List LEn} {i : Nat} (h : i < l.length) : rd_T135 l (i : Int) = l[i] := by
  simp [rd_T135, List.getD_eq_getElem?_getD, List.getElem?_eq_getElem h]
theorem rd_IEn {l : List IEn} {i : Nat} (h : i < l.length) : rd_T135 l (i : Int) = l[i] := by
  simp [rd_T135, List.getD_eq_getElem?_getD, List.getElem?_eq_getElem h]
def entriesOk : Int → List IEn → Bool
  | _, [] => true
  | t, x :: l => entryOk x.f0 x.f1 x.f2 && decide (t ≤ x.f0) && entriesOk x.f0 l
def logOk (a b : Int) (l : List IEn) : Bool :=
  decide (0 ≤ a ∧ a ≤ 1000000) && (decide (0 ≤ b ∧ b ≤ 100000) && (decide (l.length ≤ 60 ∧ a + l.length ≤ 1000000) && entriesOk b l))
theorem rd_IEn_drop {l : List IEn} {i : Nat} (h : i < l.length) : l.drop i = rd_T135 l (i : Int) :: l.drop (i + 1) := by
  rw [List.drop_eq_getElem_cons h, rd_IEn h]
theorem logOk_iff {a b : Int} {l : List IEn} : logOk a b l = true ↔ (0 ≤ a ∧ a ≤ 1000000) ∧ (0 ≤ b ∧ b ≤ 100000) ∧ (l.length ≤ 60 ∧ a + l.length ≤ 1000000) ∧ entriesOk b l = true := by
  simp [logOk]
theorem spec_LogOk_l0 (a b : Int) (l : List IEn) (hl : l.length ≤ 1048577) (hs : ∀ x ∈ l, x.f2.size ≤ 17592186044416) : ∀ (d i : Nat) (t : Int), i + d = l.length →
    Ev (fun k => spec_LogOk.l0 k t (i : Int) a b l) (entriesOk t (l.drop i))
  | 0, i, t, h => by
    refine Ev.step (f := fun k => some true) (fun k => ?_) ((Ev.now _).eq ?_)
    · simp only [spec_LogOk.l0]; rw [if_neg (by omega)]
    · rw [List.drop_of_length_le (by omega)]; rfl
  | d + 1, i, t, h => by
    have hx := hs (rd_T135 l (i : Int)) (by rw [rd_IEn (by omega)]; exact List.getElem_mem _)
    rw [rd_IEn_drop (l := l) (i := i) (by omega)]
    have ih := spec_LogOk_l0 a b l hl hs d (i + 1) (rd_T135 l (i : Int)).f0 (by omega)
    refine Ev.step (f := fun k => (spec_EntryOk.f k (rd_T135 l (i : Int)).f0 (rd_T135 l (i : Int)).f1 (rd_T135 l (i : Int)).f2).bind fun t142 => (if t142 = true then (if (rd_T135 l (i : Int)).f0 < t then some false else spec_LogOk.l0 k (rd_T135 l (i : Int)).f0 ((i + 1 : Nat) : Int) a b l) else some false)) (fun k => ?_) (Ev.bind (spec_EntryOk_ev _ _ _ hx) ?_)
    · simp only [spec_LogOk.l0]
      rw [if_pos (by omega), if_pos (by omega), w64 (x := (i : Int) + 1) (by omega) (by omega)]; rfl
    · generalize rd_T135 l (i : Int) = x at *
      simp only [entriesOk]
      by_cases h1 : entryOk x.f0 x.f1 x.f2 = true
      · refine Ev.pos h1 ?_
        by_cases h2 : x.f0 < t
        · refine Ev.pos h2 ((Ev.now _).eq ?_)
          rw [decide_eq_false (p := t ≤ x.f0) (by omega)]; simp
        · refine Ev.neg h2 (ih.eq ?_)
          rw [h1, decide_eq_true (p := t ≤ x.f0) (by omega)]; simp
      · refine Ev.neg h1 ((Ev.now _).eq ?_)
        rw [Bool.not_eq_true _ |>.mp h1]; simp
theorem spec_LogOk_ev (a b : Int) (l : List IEn) (hl : l.length ≤ 1048577) (hs : ∀ x ∈ l, x.f2.size ≤ 17592186044416) : Ev (fun k => spec_LogOk.f k a b l) (logOk a b l) := by
  have no : ∀ x, logOk a b l = false → x = true → Ev (fun k => spec_LogOk.j0 k x a b l) (logOk a b l) := by
    intro x h hx
    rw [h, hx]
    exact Ev.step (fun k => rfl) (Ev.now _)
  have nf : ¬ logOk a b l = true → logOk a b l = false := fun h => Bool.not_eq_true _ |>.mp h
  unfold spec_LogOk.f
  refine Ev.bind0 (spec_l01In_is _ _ _) ?_
  by_cases h1 : 0 ≤ a ∧ a ≤ 1000000
  · refine Ev.pos (inR_iff.2 h1) (Ev.bind0 (spec_l01In_is _ _ _) ?_)
    by_cases h2 : 0 ≤ b ∧ b ≤ 100000
    · refine Ev.pos (inR_iff.2 h2) ?_
      by_cases h3 : l.length ≤ 60
      · refine Ev.neg (by omega) ?_
        rw [w64 (x := a + (l.length : Int)) (by omega) (by omega)]
        by_cases h4 : a + (l.length : Int) ≤ 1000000
        · rw [decide_eq_false (p := a + (l.length : Int) > 1000000) (by omega)]
          refine Ev.step (fun k => rfl) ?_
          refine (spec_LogOk_l0 a b l hl hs l.length 0 b (by omega)).eq ?_
          unfold logOk
          rw [decide_eq_true h1, decide_eq_true h2, decide_eq_true (p := l.length ≤ 60 ∧ a + (l.length : Int) ≤ 1000000) ⟨h3, h4⟩]; simp
        · exact no _ (nf fun e => h4 (logOk_iff.1 e).2.2.1.2) (decide_eq_true (by omega))
      · exact Ev.pos (by omega) (no _ (nf fun e => h3 (logOk_iff.1 e).2.2.1.1) rfl)
    · exact Ev.neg (fun e => h2 (inR_iff.1 e)) (no _ (nf fun e => h2 (logOk_iff.1 e).2.1) rfl)
  · exact Ev.neg (fun e => h1 (inR_iff.1 e)) (no _ (nf fun e => h1 (logOk_iff.1 e).1) rfl)
def entryText (i t k : Int) (d : ByteArray) : ByteArray × Bool :=
  if entryOk t k d = true ∧ 1 ≤ i ∧ i ≤ 1000000 then ((⟨#[69]⟩ : ByteArray) ++ vt i.toNat ++ vt t.toNat ++ strOfNums [k % 256] ++ d, true) else (⟨#[]⟩, false)
theorem size_e : (⟨#[69]⟩ : ByteArray).size = 1 := rfl
theorem spec_EntryText_ev (i t k : Int) (d : ByteArray) (hd : d.size ≤ 17592186044416) : Ev (fun n => spec_EntryText.f n i t k d) (entryText i t k d) := by
  unfold spec_EntryText.f
  refine Ev.bind (spec_EntryOk_ev t k d hd) ?_
  by_cases h : entryOk t k d = true
  · refine Ev.pos h (Ev.bind0 (spec_l01In_is _ _ _) ?_)
    have ht := entryOk_term h
    by_cases hi : 1 ≤ i ∧ i ≤ 1000000
    · have e : (!inR i 1 1000000) = false := by rw [inR_iff.2 hi]; rfl
      rw [e]
      refine Ev.step (fun n => rfl) (Ev.bind (spec_l01Var_evi i (by omega) (by omega)) ?_)
      have h5 := vt_size5 i.toNat (by omega)
      have h6 := vt_size5 t.toNat (by omega)
      refine Ev.pos (by omega) (Ev.bind (spec_l01Var_evi t (by omega) (by omega)) (Ev.pos (by rw [size_append, size_e]; omega) (Ev.bind0 rfl (Ev.is ?_))))
      rw [if_pos (by rw [size_append, size_append, size_e, str_size]; simp; omega), if_pos (by rw [size_append, size_append, size_append, size_e, str_size]; simp; omega)]
      rw [entryText, if_pos ⟨h, hi.1, hi.2⟩]
    · have e : (!inR i 1 1000000) = true := by
        cases e : inR i 1 1000000 with
        | true => exact absurd (inR_iff.1 e) hi
        | false => rfl
      rw [e]
      refine Ev.step (fun n => rfl) ((Ev.now _).eq ?_)
      rw [entryText, if_neg (fun e => hi e.2)]
  · refine Ev.neg h (Ev.step (fun n => rfl) ((Ev.now _).eq ?_))
    rw [entryText, if_neg (fun e => h e.1)]
def rEnt (s : ByteArray) (n t a : Nat) : Int × Int × Int × ByteArray × Bool :=
  if bt s 0 = 69 ∧ entryOk t (bt s (a : Int)) (s.extract (a + 1) s.size) = true ∧ 1 ≤ n ∧ n ≤ 1000000 then ((n : Int), (t : Int), bt s (a : Int), s.extract (a + 1) s.size, true) else (0, 0, 0, ⟨#[]⟩, false)
def readEntry (s : ByteArray) : Int × Int × Int × ByteArray × Bool :=
  match rvar ((bytesOf s).drop 1) with
  | none => (0, 0, 0, ⟨#[]⟩, false)
  | some (n, m) => match rvar ((bytesOf s).drop (1 + m)) with
    | none => (0, 0, 0, ⟨#[]⟩, false)
    | some (t, m2) => if 1 + m + m2 < s.size then rEnt s n t (1 + m + m2) else (0, 0, 0, ⟨#[]⟩, false)
theorem rEnt_text {s : ByteArray} {n m t m2 : Nat} (h1 : rvar ((bytesOf s).drop 1) = some (n, m)) (h2 : rvar ((bytesOf s).drop (1 + m)) = some (t, m2)) (h : 1 + m + m2 < s.size) :
    (⟨#[69]⟩ : ByteArray) ++ vt n ++ vt t ++ strOfNums [bt s ((1 + m + m2 : Nat) : Int) % 256] ++ s.extract (1 + m + m2 + 1) s.size = s ↔ bt s 0 = 69 := by
  have hr := bt_range s ((1 + m + m2 : Nat) : Int)
  have hr0 := bt_range s 0
  have e0 : s.extract 0 1 = strOfNums [bt s 0] := extract_one (a := 0) (by omega)
  have key : s = strOfNums [bt s 0] ++ vt n ++ vt t ++ strOfNums [bt s ((1 + m + m2 : Nat) : Int) % 256] ++ s.extract (1 + m + m2 + 1) s.size := by
    rw [← e0, rvar_vt h1, rvar_vt h2, Int.emod_eq_of_lt (by omega) (by omega), ← extract_one h]
    rw [extract_extract_append _ _ _ _ (by omega) (by omega), extract_extract_append _ _ _ _ (by omega) (by omega), extract_extract_append _ _ _ _ (by omega) (by omega), extract_extract_append _ _ _ _ (by omega) (by omega), extract_all]
  constructor
  · intro e
    have e' : (⟨#[69]⟩ : ByteArray) ++ (vt n ++ (vt t ++ (strOfNums [bt s ((1 + m + m2 : Nat) : Int) % 256] ++ s.extract (1 + m + m2 + 1) s.size))) = strOfNums [bt s 0] ++ (vt n ++ (vt t ++ (strOfNums [bt s ((1 + m + m2 : Nat) : Int) % 256] ++ s.extract (1 + m + m2 + 1) s.size))) := by
      simp only [append_assoc] at e key
      rw [e]; exact key
    have := congrArg bytesOf e'
    simp only [bytes_append] at this
    rw [bytes_str (xs := [bt s 0]) (by simp; omega)] at this
    have h69 : bytesOf (⟨#[69]⟩ : ByteArray) = [69] := rfl
    rw [h69] at this
    simp only [List.singleton_append, List.cons.injEq] at this
    omega
  · intro e
    rw [e] at key
    exact key.symm
theorem spec_ReadEntry_bad1 (s : ByteArray) (hs : s.size ≤ 140737488351232) (r : ByteArray) (a : Int) :
    Ev (fun k => (spec_l05Var.f k s a true).bind fun bt158 => ((spec_l05Var.f k bt158.2.1 bt158.2.2.1 bt158.2.2.2).bind fun bt163 => ((spec_l05Take.f bt163.2.1 bt163.2.2.1 bt163.2.2.2 1).bind fun bt167 => (if bt167.2.2.2 = true then (some ((0 : Int), (0 : Int), (0 : Int), (⟨#[]⟩ : ByteArray), false)) else none)))) (0, 0, 0, ⟨#[]⟩, false) := by
  refine Ev.bind (spec_l05Var_ev s hs a true) ?_
  rw [varC_bad]
  refine Ev.bind (spec_l05Var_ev s hs a true) ?_
  rw [varC_bad]
  refine Ev.is ?_
  simp only [spec_l05Take_bad, Option.bind_some, if_true]
theorem spec_ReadEntry_ev (s : ByteArray) (hs : s.size ≤ 17592186044416) : Ev (fun k => spec_ReadEntry.f k s) (readEntry s) := by
  unfold spec_ReadEntry.f readEntry
  by_cases h0 : s.size = 0
  · rw [rvar_nil (by omega)]
    refine Ev.bind0 (spec_l05Take_no (a := 0) (by omega) (by omega) (by omega) (by omega)) ?_
    refine Ev.bind (spec_l05Var_ev s (by omega) _ true) ?_
    rw [varC_bad]
    refine Ev.bind (spec_l05Var_ev s (by omega) _ true) ?_
    rw [varC_bad]
    exact Ev.bind0 (spec_l05Take_bad _ _ _) (Ev.pos rfl (Ev.now _))
  · refine Ev.bind0 (spec_l05Take_ok (a := 0) (n := 1) (by omega) (by omega)) ?_
    refine Ev.bind (spec_l05Var_ev s (by omega) ((1 : Nat) : Int) false) ?_
    cases e1 : rvar ((bytesOf s).drop 1) with
    | none =>
      rw [varC_none (by omega) e1]
      refine Ev.bind (spec_l05Var_ev s (by omega) _ true) ?_
      rw [varC_bad]
      exact Ev.bind0 (spec_l05Take_bad _ _ _) (Ev.pos rfl (Ev.now _))
    | some p =>
      obtain ⟨n, m⟩ := p
      have b1 := rvar_some e1
      rw [varC_some (by omega) e1]
      refine Ev.bind (spec_l05Var_ev s (by omega) ((1 + m : Nat) : Int) false) ?_
      simp only
      cases e2 : rvar ((bytesOf s).drop (1 + m)) with
      | none =>
        rw [varC_none (by omega) e2]
        exact Ev.bind0 (spec_l05Take_bad _ _ _) (Ev.pos rfl (Ev.now _))
      | some q =>
        obtain ⟨t, m2⟩ := q
        have b2 := rvar_some e2
        rw [varC_some (by omega) e2]
        simp only
        by_cases h3 : 1 + m + m2 < s.size
        · rw [if_pos h3]
          refine Ev.bind0 (spec_l05Take_ok (a := 1 + m + m2) (n := 1) (by omega) (by omega)) ?_
          have hx : (s.extract (1 + m + m2) (1 + m + m2 + 1)).size = 1 := by rw [size_extract _ _ _ (by omega) (by omega)]; omega
          have hr := bt_range s ((1 + m + m2 : Nat) : Int)
          refine Ev.neg (by simp) (Ev.pos (by simp only; omega) (Ev.pos (by simp only; omega) (Ev.pos (by simp only; omega) ?_)))
          simp only [Int.toNat_natCast]
          rw [bt_one h3, w64 (by omega) (by omega)]
          refine Ev.bind (spec_EntryText_ev _ _ _ _ (by rw [size_extract _ _ _ (by omega) (by omega)]; omega)) ?_
          unfold entryText rEnt
          by_cases hk : entryOk (t : Int) (bt s ((1 + m + m2 : Nat) : Int)) (s.extract (1 + m + m2 + 1) s.size) = true ∧ (1 : Int) ≤ n ∧ (n : Int) ≤ 1000000
          · rw [if_pos hk]
            refine Ev.pos rfl ?_
            simp only [Int.toNat_natCast]
            by_cases hq : bt s 0 = 69
            · refine Ev.pos ((toList_iff _ _).2 ((rEnt_text e1 e2 h3).2 hq)) ((Ev.now _).eq ?_)
              rw [if_pos ⟨hq, hk.1, by omega, by omega⟩]
            · refine Ev.neg (fun e => hq ((rEnt_text e1 e2 h3).1 ((toList_iff _ _).1 e))) ((Ev.now _).eq ?_)
              rw [if_neg (fun e => hq e.1)]
          · have hk' : ¬ (bt s 0 = 69 ∧ entryOk (t : Int) (bt s ((1 + m + m2 : Nat) : Int)) (s.extract (1 + m + m2 + 1) s.size) = true ∧ 1 ≤ n ∧ n ≤ 1000000) := fun e => hk ⟨e.2.1, by omega, by omega⟩
            rw [if_neg hk, if_neg hk']
            exact Ev.neg (by simp) (Ev.now _)
        · rw [if_neg h3]
          exact Ev.bind0 (spec_l05Take_no (a := 1 + m + m2) (by omega) (by omega) (by omega) (by omega)) (Ev.pos rfl (Ev.now _))
theorem spec_l06Last_is (a b : Int) (l : List IEn) (h : 0 ≤ a ∧ a ≤ 1000000) (hl : l.length ≤ 60) : spec_l06Last.f a b l = some (a + (l.length : Int)) := by
  unfold spec_l06Last.f; rw [w64 (by omega) (by omega)]
def putL (a : Int) (l : List IEn) (i : Int) (e : IEn) : List IEn := l.take (i - a - 1).toNat ++ [e]
def putF (a b : Int) (l : List IEn) (i : Int) (e : IEn) : Int × Int × List IEn × Bool :=
  if logOk a b l = true ∧ (a + 1 ≤ i ∧ i ≤ a + (l.length : Int) + 1) ∧ logOk a b (putL a l i e) = true then (a, b, putL a l i e, true) else (0, 0, [], false)
theorem putF_len (a b : Int) (l : List IEn) (i : Int) (e : IEn) : (putF a b l i e).2.2.1.length ≤ 60 := by
  unfold putF
  split
  · rename_i h; exact (logOk_iff.1 h.2.2).2.2.1.1
  · exact Nat.zero_le _
theorem putL_small {a : Int} {l : List IEn} {i : Int} {e : IEn} (hs : ∀ x ∈ l, x.f2.size ≤ 17592186044416) (he : e.f2.size ≤ 17592186044416) : ∀ x ∈ putL a l i e, x.f2.size ≤ 17592186044416 := by
  intro x hx
  rcases List.mem_append.1 hx with hx | hx
  · exact hs x (List.mem_of_mem_take hx)
  · rw [List.mem_singleton.1 hx]; exact he
def logTermF (a b : Int) (l : List IEn) (i : Int) : Int := if i = a then b else if a < i ∧ i ≤ a + (l.length : Int) then (rd_T135 l (i - a - 1)).f0 else -1
theorem entriesOk_terms : ∀ (l : List IEn) (t : Int), entriesOk t l = true → ∀ x ∈ l, 0 ≤ x.f0
  | [], _, _ => by simp
  | y :: l, t, h => by
    simp only [entriesOk, Bool.and_eq_true] at h
    intro x hx
    rcases List.mem_cons.1 hx with rfl | hx
    · exact (entryOk_term h.1.1).1
    · exact entriesOk_terms l _ h.2 x hx
theorem logTermF_low {a b : Int} {l : List IEn} (h : logOk a b l = true) (i : Int) : logTermF a b l i = -1 ∨ 0 ≤ logTermF a b l i := by
  have hk := logOk_iff.1 h
  unfold logTermF
  split
  · omega
  · split
    · rename_i h1
      right
      have hi : (i - a - 1) = (((i - a - 1).toNat : Nat) : Int) := by omega
      rw [hi, rd_IEn (by omega)]
      exact entriesOk_terms l _ hk.2.2.2 _ (List.getElem_mem _)
    · left; rfl
theorem spec_LogPut_ev (a b : Int) (l : List IEn) (hl : l.length ≤ 1048577) (hs : ∀ x ∈ l, x.f2.size ≤ 17592186044416) (i e0 e1 : Int) (e2 : ByteArray) (he : e2.size ≤ 17592186044416) : Ev (fun k => spec_LogPut.f k a b l i e0 e1 e2) (putF a b l i ⟨e0, e1, e2⟩) := by
  have no : ¬ (logOk a b l = true ∧ (a + 1 ≤ i ∧ i ≤ a + (l.length : Int) + 1) ∧ logOk a b (putL a l i ⟨e0, e1, e2⟩) = true) → Ev (fun k => spec_LogPut.j0 k i true a b l e0 e1 e2) (putF a b l i ⟨e0, e1, e2⟩) := by
    intro h
    rw [putF, if_neg h]
    exact Ev.step (f := fun k => some (0, 0, [], false)) (fun k => by simp only [spec_LogPut.j0, if_true]) (Ev.now _)
  unfold spec_LogPut.f
  refine Ev.bind (spec_LogOk_ev a b l hl hs) ?_
  by_cases h1 : logOk a b l = true
  · have k1 := logOk_iff.1 h1
    refine Ev.pos h1 (Ev.bind0 (spec_l06Last_is a b l k1.1 k1.2.2.1.1) (Ev.bind0 (spec_l01In_is _ _ _) ?_))
    rw [w64 (x := a + 1) (by omega) (by omega), w64 (x := a + (l.length : Int) + 1) (by omega) (by omega)]
    by_cases h2 : a + 1 ≤ i ∧ i ≤ a + (l.length : Int) + 1
    · rw [inR_iff.2 h2]
      show Ev (fun k => spec_LogPut.j0 k i false a b l e0 e1 e2) _
      refine Ev.step (f := fun k => (spec_LogOk.f k a b (putL a l i ⟨e0, e1, e2⟩)).bind fun t => if t = true then some (a, b, putL a l i ⟨e0, e1, e2⟩, true) else some (0, 0, [], false)) (fun k => ?_) (Ev.bind (spec_LogOk_ev a b _ (by simp [putL]; omega) (putL_small hs he)) ?_)
      · simp only [spec_LogPut.j0, Bool.false_eq_true, if_false, Option.bind_some, List.nil_append]
        rw [w64 (x := i - a) (by omega) (by omega), w64 (x := i - a - 1) (by omega) (by omega), if_pos (by omega), if_pos (by omega), if_pos (by simp; omega), if_pos (by simp; omega)]
        rfl
      · by_cases h3 : logOk a b (putL a l i ⟨e0, e1, e2⟩) = true
        · exact Ev.pos h3 ((Ev.now _).eq (by rw [putF, if_pos ⟨h1, h2, h3⟩]))
        · exact Ev.neg h3 ((Ev.now _).eq (by rw [putF, if_neg (fun e => h3 e.2.2)]))
    · have e : inR i (a + 1) (a + (l.length : Int) + 1) = false := by
        cases e : inR i (a + 1) (a + (l.length : Int) + 1) with
        | true => exact absurd (inR_iff.1 e) h2
        | false => rfl
      rw [e]
      exact no (fun e => h2 e.2.1)
  · exact Ev.neg h1 (no (fun e => h1 e.1))
def journalOk (p q s a b : Int) (l : List IEn) : Bool := decide (0 ≤ p ∧ p ≤ 999) && (decide (0 ≤ q ∧ q ≤ 100000) && (decide (0 ≤ s ∧ s ≤ 4) && logOk a b l))
abbrev JSt := Int × Int × Int × Int × Int × List IEn
/-- A journal with what one more record tells. -/
def moreF (p : JSt) (t : ByteArray) : Option JSt :=
  if (twoN t 72).2.2 = true then (if (0 ≤ (twoN t 72).1 ∧ (twoN t 72).1 ≤ 100000) ∧ (0 ≤ (twoN t 72).2.1 ∧ (twoN t 72).2.1 ≤ 4) then some (p.1, (twoN t 72).1, (twoN t 72).2.1, p.2.2.2.1, p.2.2.2.2.1, p.2.2.2.2.2) else none)
  else if (readEntry t).2.2.2.2 = true then
    (if (putF p.2.2.2.1 p.2.2.2.2.1 p.2.2.2.2.2 (readEntry t).1 ⟨(readEntry t).2.1, (readEntry t).2.2.1, (readEntry t).2.2.2.1⟩).2.2.2 = true then some (p.1, p.2.1, p.2.2.1, (putF p.2.2.2.1 p.2.2.2.2.1 p.2.2.2.2.2 (readEntry t).1 ⟨(readEntry t).2.1, (readEntry t).2.2.1, (readEntry t).2.2.2.1⟩).1, (putF p.2.2.2.1 p.2.2.2.2.1 p.2.2.2.2.2 (readEntry t).1 ⟨(readEntry t).2.1, (readEntry t).2.2.1, (readEntry t).2.2.2.1⟩).2.1, (putF p.2.2.2.1 p.2.2.2.2.1 p.2.2.2.2.2 (readEntry t).1 ⟨(readEntry t).2.1, (readEntry t).2.2.1, (readEntry t).2.2.2.1⟩).2.2.1) else none)
  else none
/-- What holds of a journal as it is read. -/
def jInv (p : JSt) : Prop := (0 ≤ p.1 ∧ p.1 ≤ 999) ∧ logOk p.2.2.2.1 p.2.2.2.2.1 p.2.2.2.2.2 = true ∧ ∀ x ∈ p.2.2.2.2.2, x.f2.size ≤ 17592186044416
theorem readEntry_small (t : ByteArray) (ht : t.size ≤ 20000) : (readEntry t).2.2.2.1.size ≤ 17592186044416 := by
  have hz : ∀ a, (t.extract a t.size).size ≤ 20000 := by
    intro a
    by_cases h : a ≤ t.size
    · rw [size_extract _ _ _ h (Nat.le_refl _)]; omega
    · rw [ByteArray.size_extract]; omega
  unfold readEntry
  cases rvar ((bytesOf t).drop 1) with
  | none => exact Nat.zero_le _
  | some p =>
    obtain ⟨n, m⟩ := p
    simp only
    cases rvar ((bytesOf t).drop (1 + m)) with
    | none => exact Nat.zero_le _
    | some q =>
      obtain ⟨u, m2⟩ := q
      simp only
      split
      · unfold rEnt
        split
        · have := hz (1 + m + m2 + 1); simp only; omega
        · exact Nat.zero_le _
      · exact Nat.zero_le _
theorem putF_true {a b : Int} {l : List IEn} {i : Int} {e : IEn} (h : (putF a b l i e).2.2.2 = true) : putF a b l i e = (a, b, putL a l i e, true) ∧ logOk a b (putL a l i e) = true := by
  unfold putF at h ⊢
  split
  · rename_i hh; exact ⟨rfl, hh.2.2⟩
  · rename_i hh; rw [if_neg hh] at h; cases h
theorem moreF_inv {p q : JSt} {t : ByteArray} (hp : jInv p) (ht : t.size ≤ 20000) (h : moreF p t = some q) : jInv q ∧ q.1 = p.1 := by
  unfold moreF at h
  obtain ⟨h1, h2, h3⟩ := hp
  split at h
  · split at h
    · cases h; exact ⟨⟨h1, h2, h3⟩, rfl⟩
    · cases h
  · split at h
    · split at h
      · rename_i hh
        have k := putF_true hh
        rw [k.1] at h
        cases h
        exact ⟨⟨h1, k.2, putL_small h3 (readEntry_small t ht)⟩, rfl⟩
      · cases h
    · cases h
theorem jInv_len {p : JSt} (h : jInv p) : p.2.2.2.2.2.length ≤ 60 := (logOk_iff.1 h.2.1).2.2.1.1
/-- All records behind the first, as far as they are taken, and where they end. -/
def foldJ : JSt → Int → List ByteArray → JSt × Int
  | p, e, [] => (p, e)
  | p, e, t :: ts => match moreF p t with | none => (p, e) | some q => foldJ q (e + ((frame t).1.size : Int)) ts
theorem foldJ_inv : ∀ (l : List ByteArray) (p : JSt) (e : Int), jInv p → (∀ t ∈ l, t.size ≤ 20000) → jInv (foldJ p e l).1 ∧ (foldJ p e l).1.1 = p.1
  | [], p, e, hp, _ => ⟨hp, rfl⟩
  | t :: ts, p, e, hp, hl => by
    simp only [foldJ]
    cases hm : moreF p t with
    | none => exact ⟨hp, rfl⟩
    | some q =>
      have k := moreF_inv hp (hl t (List.mem_cons_self ..)) hm
      have r := foldJ_inv ts q (e + ((frame t).1.size : Int)) k.1 (fun x hx => hl x (List.mem_cons_of_mem _ hx))
      exact ⟨r.1, r.2.trans k.2⟩
theorem frame_len (t : ByteArray) : (frame t).1.size ≤ 10000 := by
  unfold frame
  split
  · rename_i h
    have z1 := vt_size5 t.size (by omega)
    have z2 : (four (sumOf t)).size ≤ 4 := by rw [four, str_size]; first | exact Nat.le_refl _ | decide | (simp; done)
    rw [ByteArray.size_append, ByteArray.size_append]; omega
  · exact Nat.zero_le _
theorem unf_small (s : ByteArray) : ∀ (f : Nat) (acc : List ByteArray) (a : Nat), (∀ t ∈ acc, t.size ≤ 20000) → ∀ t ∈ (unf f s acc a).1, t.size ≤ 20000
  | 0, acc, a, h => h
  | f + 1, acc, a, h => by
    simp only [unf]
    cases e : nextF s a with
    | none => exact h
    | some p =>
      obtain ⟨t, b⟩ := p
      refine unf_small s f _ b (fun x hx => ?_)
      rcases List.mem_append.1 hx with hx | hx
      · exact h x hx
      · rw [List.mem_singleton.1 hx]; have := (nextF_some e).2.2.2; omega
theorem unframe_small (s : ByteArray) : ∀ t ∈ (unframe s).1, t.size ≤ 20000 := by
  unfold unframe
  split
  · exact unf_small s s.size [] 0 (by simp)
  · simp
/-- A journal out of its records. -/
def readR (n : Int) (t : ByteArray) (ts : List ByteArray) : Int × Int × Int × Int × Int × List IEn × Int × Bool :=
  if (twoN t 66).2.2 = true then (if logOk (twoN t 66).1 (twoN t 66).2.1 [] = true then ((foldJ (n, 0, 0, (twoN t 66).1, (twoN t 66).2.1, []) ((frame t).1.size : Int) ts).1.1, (foldJ (n, 0, 0, (twoN t 66).1, (twoN t 66).2.1, []) ((frame t).1.size : Int) ts).1.2.1, (foldJ (n, 0, 0, (twoN t 66).1, (twoN t 66).2.1, []) ((frame t).1.size : Int) ts).1.2.2.1, (foldJ (n, 0, 0, (twoN t 66).1, (twoN t 66).2.1, []) ((frame t).1.size : Int) ts).1.2.2.2.1, (foldJ (n, 0, 0, (twoN t 66).1, (twoN t 66).2.1, []) ((frame t).1.size : Int) ts).1.2.2.2.2.1, (foldJ (n, 0, 0, (twoN t 66).1, (twoN t 66).2.1, []) ((frame t).1.size : Int) ts).1.2.2.2.2.2, (foldJ (n, 0, 0, (twoN t 66).1, (twoN t 66).2.1, []) ((frame t).1.size : Int) ts).2, true) else (0, 0, 0, 0, 0, [], 0, false)) else (0, 0, 0, 0, 0, [], 0, false)
/-- A journal out of a text. -/
def readJ (n : Int) (s : ByteArray) : Int × Int × Int × Int × Int × List IEn × Int × Bool :=
  if 0 ≤ n ∧ n ≤ 999 then (match (unframe s).1 with | [] => (0, 0, 0, 0, 0, [], 0, false) | t :: ts => readR n t ts) else (0, 0, 0, 0, 0, [], 0, false)
theorem jInv_first {n : Int} (h : 0 ≤ n ∧ n ≤ 999) {a b : Int} (hl : logOk a b [] = true) : jInv (n, 0, 0, a, b, []) := ⟨h, hl, fun x hx => by cases hx⟩
theorem readJ_len (n : Int) (s : ByteArray) : (readJ n s).2.2.2.2.2.1.length ≤ 60 := by
  unfold readJ
  split
  · rename_i hn
    have hs := unframe_small s
    cases e : (unframe s).1 with
    | nil => exact Nat.zero_le _
    | cons t ts =>
      rw [e] at hs
      simp only
      unfold readR
      split
      · split
        · rename_i hl
          exact jInv_len (foldJ_inv ts _ _ (jInv_first hn hl) (fun x hx => hs x (List.mem_cons_of_mem _ hx))).1
        · exact Nat.zero_le _
      · exact Nat.zero_le _
  · exact Nat.zero_le _
theorem spec_l07More_ev (p : JSt) (hp : jInv p) (t : ByteArray) (ht : t.size ≤ 20000) : Ev (fun k => spec_l07More.f k p.2.1 p.2.2.1 p.2.2.2.1 p.2.2.2.2.1 p.2.2.2.2.2 t) (match moreF p t with | some q => (q.2, true) | none => (p.2, false)) := by
  have hlen := jInv_len hp
  unfold spec_l07More.f moreF
  refine Ev.bind (spec_l07Two_ev t _ 72 rfl (by omega)) ?_
  by_cases h : (twoN t 72).2.2 = true
  · refine Ev.pos h (Ev.bind0 (spec_l01In_is _ _ _) ?_)
    by_cases h1 : 0 ≤ (twoN t 72).1 ∧ (twoN t 72).1 ≤ 100000
    · refine Ev.pos (inR_iff.2 h1) (Ev.bind0 (spec_l01In_is _ _ _) ?_)
      by_cases h2 : 0 ≤ (twoN t 72).2.1 ∧ (twoN t 72).2.1 ≤ 4
      · refine (Ev.pos (inR_iff.2 h2) (Ev.now _)).eq ?_
        simp only [h, h1, h2, and_self, if_true]
      · refine (Ev.neg (fun e => h2 (inR_iff.1 e)) (Ev.now _)).eq ?_
        simp only [h, h2, and_false, if_true, if_false]
    · refine (Ev.neg (fun e => h1 (inR_iff.1 e)) (Ev.now _)).eq ?_
      simp only [h, h1, false_and, if_true, if_false]
  · refine Ev.neg h (Ev.bind (spec_ReadEntry_ev t (by omega)) ?_)
    by_cases h1 : (readEntry t).2.2.2.2 = true
    · refine Ev.pos h1 (Ev.bind (spec_LogPut_ev _ _ _ (by omega) hp.2.2 _ _ _ _ (readEntry_small t ht)) ?_)
      generalize putF p.2.2.2.1 p.2.2.2.2.1 p.2.2.2.2.2 (readEntry t).1 ⟨(readEntry t).2.1, (readEntry t).2.2.1, (readEntry t).2.2.2.1⟩ = z
      by_cases h2 : z.2.2.2 = true
      · refine (Ev.pos h2 (Ev.now _)).eq ?_
        simp only [h, h1, h2, if_true, if_false, Bool.false_eq_true]
      · refine (Ev.neg h2 (Ev.now _)).eq ?_
        simp only [h, h1, h2, if_true, if_false, Bool.false_eq_true]
    · refine (Ev.neg h1 (Ev.now _)).eq ?_
      simp only [h, h1, if_false, Bool.false_eq_true]
theorem spec_ReadJournal_l0 (ls : List ByteArray) (hl : ls.length ≤ 20000) (hs : ∀ t ∈ ls, t.size ≤ 20000) : ∀ (d i : Nat) (p : JSt) (e : Int), i + d = ls.length → 1 ≤ i → jInv p → 0 ≤ e → e ≤ 10000 * (i : Int) →
    Ev (fun k => spec_ReadJournal.l0 ls k (i : Int) p.2.1 p.2.2.1 p.2.2.2.1 p.2.2.2.2.1 p.2.2.2.2.2 e) ((foldJ p e (ls.drop i)).1.2.1, (foldJ p e (ls.drop i)).1.2.2.1, (foldJ p e (ls.drop i)).1.2.2.2.1, (foldJ p e (ls.drop i)).1.2.2.2.2.1, (foldJ p e (ls.drop i)).1.2.2.2.2.2, (foldJ p e (ls.drop i)).2)
  | 0, i, p, e, h, h1, hp, h2, h3 => by
    rw [List.drop_of_length_le (by omega)]
    refine Ev.step (f := fun k => some (p.2.1, p.2.2.1, p.2.2.2.1, p.2.2.2.2.1, p.2.2.2.2.2, e)) (fun k => ?_) (Ev.now _)
    simp only [spec_ReadJournal.l0]; rw [if_neg (by omega)]
  | d + 1, i, p, e, h, h1, hp, h2, h3 => by
    have hi : i < ls.length := by omega
    have ht := hs ls[i] (List.getElem_mem hi)
    have hF := frame_len ls[i]
    rw [List.drop_eq_getElem_cons hi]
    refine Ev.step (f := fun k => (spec_l07More.f k p.2.1 p.2.2.1 p.2.2.2.1 p.2.2.2.2.1 p.2.2.2.2.2 ls[i]).bind fun m => if m.2 = true then ((spec_Frame.f k ls[i]).bind fun f => spec_ReadJournal.l0 ls k ((i + 1 : Nat) : Int) m.1.1 m.1.2.1 m.1.2.2.1 m.1.2.2.2.1 m.1.2.2.2.2 (wrap64 (e + (f.1.size : Int)))) else some (m.1.1, m.1.2.1, m.1.2.2.1, m.1.2.2.2.1, m.1.2.2.2.2, e)) (fun k => ?_) (Ev.bind (spec_l07More_ev p hp ls[i] ht) ?_)
    · simp only [spec_ReadJournal.l0]
      rw [if_pos (by omega), if_pos (by omega), rdOf_nat _ _ i hi, w64 (x := (i : Int) + 1) (by omega) (by omega)]
      rfl
    · simp only [foldJ]
      cases hm : moreF p ls[i] with
      | none => exact Ev.neg (by simp) (Ev.now _)
      | some q =>
        have k := moreF_inv hp ht hm
        refine Ev.pos rfl (Ev.bind (spec_Frame_ev _ (by omega)) ?_)
        rw [w64 (x := e + ((frame ls[i]).1.size : Int)) (by omega) (by omega)]
        exact spec_ReadJournal_l0 ls hl hs d (i + 1) q _ (by omega) (by omega) k.1 (by omega) (by omega)
theorem spec_ReadJournal_ev (n : Int) (s : ByteArray) : Ev (fun k => spec_ReadJournal.f k n s) (readJ n s) := by
  have hlen := (unframe_length s).1
  have hsm := unframe_small s
  unfold spec_ReadJournal.f readJ
  refine Ev.bind (spec_Unframe_ev s) (Ev.bind0 (spec_l01In_is _ _ _) ?_)
  by_cases h : 0 ≤ n ∧ n ≤ 999
  · rw [if_pos h]
    refine Ev.pos (inR_iff.2 h) ?_
    simp only
    cases e : (unframe s).1 with
    | nil => exact Ev.pos (by simp) (Ev.now _)
    | cons t ts =>
      rw [e] at hlen hsm
      have ht := hsm t (List.mem_cons_self ..)
      have hF := frame_len t
      have r0 : rdOf ByteArray.empty (t :: ts) 0 = t := rdOf_nat _ (t :: ts) 0 (by simp)
      show Ev _ (readR n t ts)
      rw [r0]
      refine Ev.neg (by simp; omega) (Ev.bind (spec_l07Two_ev t _ 66 rfl (by omega)) ?_)
      by_cases h2 : (twoN t 66).2.2 = true
      · refine Ev.pos h2 (Ev.bind (spec_LogOk_ev _ _ [] (by simp) (by simp)) ?_)
        by_cases h3 : logOk (twoN t 66).1 (twoN t 66).2.1 [] = true
        · have hp := jInv_first h h3
          have k0 := (foldJ_inv ts _ ((frame t).1.size : Int) hp (fun x hx => hsm x (List.mem_cons_of_mem _ hx))).2
          have l1 := spec_ReadJournal_l0 (t :: ts) hlen hsm ts.length 1 (n, 0, 0, (twoN t 66).1, (twoN t 66).2.1, []) ((frame t).1.size : Int) (by simp; omega) (by omega) hp (by omega) (by omega)
          rw [show (t :: ts).drop 1 = ts from rfl] at l1
          have hv : readR n t ts = ((foldJ (n, 0, 0, (twoN t 66).1, (twoN t 66).2.1, []) ((frame t).1.size : Int) ts).1.1, (foldJ (n, 0, 0, (twoN t 66).1, (twoN t 66).2.1, []) ((frame t).1.size : Int) ts).1.2.1, (foldJ (n, 0, 0, (twoN t 66).1, (twoN t 66).2.1, []) ((frame t).1.size : Int) ts).1.2.2.1, (foldJ (n, 0, 0, (twoN t 66).1, (twoN t 66).2.1, []) ((frame t).1.size : Int) ts).1.2.2.2.1, (foldJ (n, 0, 0, (twoN t 66).1, (twoN t 66).2.1, []) ((frame t).1.size : Int) ts).1.2.2.2.2.1, (foldJ (n, 0, 0, (twoN t 66).1, (twoN t 66).2.1, []) ((frame t).1.size : Int) ts).1.2.2.2.2.2, (foldJ (n, 0, 0, (twoN t 66).1, (twoN t 66).2.1, []) ((frame t).1.size : Int) ts).2, true) := by unfold readR; rw [if_pos h2, if_pos h3]
          rw [hv, k0]
          have l2 : Ev (fun k => spec_ReadJournal.l0 (t :: ts) k 0 0 0 (twoN t 66).1 (twoN t 66).2.1 [] 0) ((foldJ (n, 0, 0, (twoN t 66).1, (twoN t 66).2.1, []) ((frame t).1.size : Int) ts).1.2.1, (foldJ (n, 0, 0, (twoN t 66).1, (twoN t 66).2.1, []) ((frame t).1.size : Int) ts).1.2.2.1, (foldJ (n, 0, 0, (twoN t 66).1, (twoN t 66).2.1, []) ((frame t).1.size : Int) ts).1.2.2.2.1, (foldJ (n, 0, 0, (twoN t 66).1, (twoN t 66).2.1, []) ((frame t).1.size : Int) ts).1.2.2.2.2.1, (foldJ (n, 0, 0, (twoN t 66).1, (twoN t 66).2.1, []) ((frame t).1.size : Int) ts).1.2.2.2.2.2, (foldJ (n, 0, 0, (twoN t 66).1, (twoN t 66).2.1, []) ((frame t).1.size : Int) ts).2) := by
            refine Ev.step (f := fun k => (spec_Frame.f k t).bind fun f => spec_ReadJournal.l0 (t :: ts) k ((1 : Nat) : Int) 0 0 (twoN t 66).1 (twoN t 66).2.1 [] (wrap64 (0 + (f.1.size : Int)))) (fun k => ?_) (Ev.bind (spec_Frame_ev t (by omega)) ?_)
            · simp only [spec_ReadJournal.l0]
              rw [if_pos (by simp only [List.length_cons]; omega), if_neg (by omega), if_pos (by omega), r0, w64 (x := (0 : Int) + 1) (by omega) (by omega)]
              rfl
            · rw [w64 (x := 0 + ((frame t).1.size : Int)) (by omega) (by omega), Int.zero_add]
              exact l1
          exact Ev.pos h3 (Ev.bind l2 (Ev.now _))
        · refine (Ev.neg h3 (Ev.now _)).eq ?_
          unfold readR
          rw [if_pos h2, if_neg h3]
      · refine (Ev.neg h2 (Ev.now _)).eq ?_
        unfold readR
        rw [if_neg h2]
  · rw [if_neg h]
    exact Ev.neg (fun e => h (inR_iff.1 e)) (Ev.now _)
theorem impl_within_is (a b c : Int) : impl_within.f a b c = some (inR a b c) := by
  unfold impl_within.f inR
  by_cases h : a ≥ b
  · rw [if_pos h]; congr 1; simp; omega
  · rw [if_neg h]; congr 1; simp; omega
theorem impl_VarText_l0 : ∀ (n : Nat) (acc : List Int), acc.length + n < 140737488355328 → Ev (fun k => impl_VarText.l0 k (n : Int) acc) (strOfNums (acc ++ varL n), true) := by
  intro n
  induction n using Nat.strongRecOn with
  | _ n ih =>
    intro acc ha
    by_cases h : 127 < n
    · refine Ev.step (f := fun k => impl_VarText.l0 k ((n / 128 : Nat) : Int) (acc ++ [((n % 128 + 128 : Nat) : Int)])) (fun k => ?_) ?_
      · simp only [impl_VarText.l0]
        rw [if_pos (by omega), if_pos (by omega), td (by omega), tm (by omega)]
        rw [w64 (x := (n : Int) / 128) (by omega) (by omega), w64 (x := (n : Int) % 128 + 128) (by omega) (by omega)]
        congr 3
        omega
      · refine (ih (n / 128) (by omega) _ (by simp; omega)).eq ?_
        rw [varL_big h, List.append_assoc]; rfl
    · refine Ev.step (f := fun k => some (strOfNums (acc ++ varL n), true)) (fun k => ?_) (Ev.now _)
      simp only [impl_VarText.l0]
      rw [if_neg (by omega), if_pos (by omega), varL_small h]
      congr 5
      omega
theorem impl_VarText_ev (n : Int) : Ev (fun k => impl_VarText.f k n) (varText n) := by
  unfold impl_VarText.f
  refine Ev.bind0 (impl_within_is _ _ _) ?_
  by_cases h : 0 ≤ n ∧ n ≤ 1000000000
  · refine Ev.pos (inR_iff.2 h) ?_
    have := impl_VarText_l0 n.toNat [] (by simp; omega)
    rw [Int.toNat_of_nonneg h.1] at this
    refine this.eq ?_
    rw [varText, if_pos h]; rfl
  · refine Ev.neg (fun e => h (inR_iff.1 e)) (Ev.is ?_)
    rw [varText, if_neg h]
theorem impl_SumMore_l1 {s : ByteArray} {i r : Int} : ∀ (d : Nat) (j x0 : Int), 0 ≤ j → j + d = 8 → Ev (fun k => impl_SumMore.l0 k (halves d x0) s (wrap64 (i + 1))) r → Ev (fun k => impl_SumMore.l1 k x0 s i j) r
  | 0, j, x0, h0, h, hk => by
    refine Ev.step (f := fun k => impl_SumMore.l0 k x0 s (wrap64 (i + 1))) (fun k => ?_) hk
    simp only [impl_SumMore.l1]; rw [if_neg (by omega)]
  | d + 1, j, x0, h0, h, hk => by
    refine Ev.step (f := fun k => impl_SumMore.l1 k (half x0) s i (j + 1)) (fun k => ?_) (impl_SumMore_l1 d (j + 1) (half x0) (by omega) (by omega) hk)
    simp only [impl_SumMore.l1]; rw [if_pos (by omega), w64 (x := j + 1) (by omega) (by omega)]
    unfold half
    split <;> rfl
theorem impl_SumMore_l0 (s : ByteArray) (hs : s.size ≤ 140737488351232) : ∀ (d i : Nat) (x0 : Int), i + d = s.size → Ev (fun k => impl_SumMore.l0 k x0 s i) (sumL x0 ((bytesOf s).drop i))
  | 0, i, x0, h => by
    refine Ev.step (f := fun k => some x0) (fun k => ?_) ((Ev.now _).eq ?_)
    · simp only [impl_SumMore.l0]; rw [if_neg (by omega)]
    · rw [List.drop_of_length_le (by rw [bytesOf_length]; omega)]; rfl
  | d + 1, i, x0, h => by
    refine Ev.step (f := fun k => impl_SumMore.l1 k (Go.bits .xor .u32 x0 (bt s i % 4294967296)) s i 0) (fun k => ?_) (impl_SumMore_l1 8 0 _ (by omega) (by omega) ?_)
    · simp only [impl_SumMore.l0]; rw [if_pos (by omega), if_pos (by omega)]
    · rw [w64 (x := (i : Int) + 1) (by omega) (by omega)]
      have := impl_SumMore_l0 s hs d (i + 1) (halves 8 (Go.bits .xor .u32 x0 (bt s i % 4294967296))) (by omega)
      rw [bytes_drop (by omega)]
      exact this
theorem impl_SumMore_ev (x : Int) (s : ByteArray) (hs : s.size ≤ 140737488351232) : Ev (fun k => impl_SumMore.f k x s) (sumL x (bytesOf s)) := by
  have := impl_SumMore_l0 s hs s.size 0 x (by omega)
  exact this
theorem impl_SumOf_ev (s : ByteArray) (hs : s.size ≤ 140737488351232) : Ev (fun k => impl_SumOf.f k s) (sumOf s) := by
  unfold impl_SumOf.f
  exact Ev.bind (impl_SumMore_ev _ s hs) (Ev.now _)
theorem impl_Frame_ev (s : ByteArray) (hs : s.size ≤ 140737488351232) : Ev (fun k => impl_Frame.f k s) (frame s) := by
  unfold impl_Frame.f frame
  refine Ev.bind0 (impl_within_is _ _ _) ?_
  by_cases h : 1 ≤ s.size ∧ s.size ≤ 9000
  · rw [if_pos h]
    refine Ev.pos (inR_iff.2 (by omega)) (Ev.bind (impl_VarText_ev (s.size : Int)) (Ev.bind (impl_SumOf_ev s hs) (Ev.bind0 (a := fourL (sumOf s)) rfl (Ev.is ?_))))
    have := vt_size5 s.size (by omega)
    rw [varText_ok (by omega) (by omega), Int.toNat_natCast]
    simp only
    show (if (vt s.size).size + (four (sumOf s)).size ≤ _ then (if (vt s.size ++ four (sumOf s)).size + s.size ≤ _ then some (vt s.size ++ four (sumOf s) ++ s, true) else none) else none) = _
    rw [if_pos (by rw [four_size]; omega), if_pos (by rw [size_append, four_size]; omega)]
  · rw [if_neg h]
    exact Ev.neg (fun e => h (by have := inR_iff.1 e; omega)) (Ev.now _)
theorem impl_ReadVar_l0 (s : ByteArray) (hs : s.size ≤ 140737488351232) (a : Nat) : ∀ (f i n : Nat), i + f = 5 → n < 128 ^ i → a + i ≤ s.size →
    Ev (fun k => impl_ReadVar.l0 k s (a : Int) (n : Int) (i : Int))
      (match rvL f i n ((bytesOf s).drop (a + i)) with | some (n, m) => ((n : Int), (a : Int) + m, true) | none => (0, 0, false))
  | 0, i, n, hi, hn, h1 => by
    refine Ev.step (f := fun k => impl_ReadVar.j1 k s (a : Int) (n : Int) (i : Int) false) (fun k => ?_) ?_
    · simp only [impl_ReadVar.l0]
      rw [if_neg (by omega)]
    · refine Ev.step (f := fun _ => some (0, 0, false)) (fun k => ?_) (Ev.now _)
      simp only [impl_ReadVar.j1]; rfl
  | f + 1, i, n, hi, hn, h1 => by
    by_cases hlt : a + i < s.size
    · have hr := bt_range s ((a + i : Nat) : Int)
      have hp := pow_bound (i := i) (by omega)
      have hm := mul_bound (bt s ((a + i : Nat) : Int)).toNat (128 ^ i) hp.1
      have ei : (a : Int) + (i : Int) = ((a + i : Nat) : Int) := by omega
      rw [bytes_drop hlt]
      refine Ev.step (f := fun k => impl_ReadVar.j1 k s (a : Int) (n : Int) (i : Int) true) (fun k => ?_) ?_
      · simp only [impl_ReadVar.l0]
        rw [if_pos (by omega), w64 (x := (a : Int) + i) (by omega) (by omega)]
        rw [show decide ((a : Int) + i < (s.size : Int)) = true from by simp; omega]
      have hb : wrap64 (bt s ((a + i : Nat) : Int)) = bt s ((a + i : Nat) : Int) := w64 (by omega) (by omega)
      have e0 : shl .i64 (Int.tmod (bt s ((a + i : Nat) : Int)) 128) (7 * (i : Int)) = (((bt s ((a + i : Nat) : Int)).toNat % 128 * 128 ^ i : Nat) : Int) := by
        unfold shl
        rw [tm (by omega), i64_w, show (7 * (i : Int)).toNat = 7 * i from by omega, show min (7 * i) IntKind.i64.bits = 7 * i from by simp [IntKind.bits]; omega]
        have e7 : (2 : Int) ^ (7 * i) = ((128 ^ i : Nat) : Int) := by
          rw [show (128 : Nat) = 2 ^ 7 from rfl, ← Nat.pow_mul]; simp
        rw [e7, Int.natCast_mul, w64]
        · congr 1; omega
        · have := Int.mul_nonneg (a := bt s ((a + i : Nat) : Int) % 128) (b := ((128 ^ i : Nat) : Int)) (by omega) (by omega)
          omega
        · have e8 : bt s ((a + i : Nat) : Int) % 128 = (((bt s ((a + i : Nat) : Int)).toNat % 128 : Nat) : Int) := by omega
          rw [e8, ← Int.natCast_mul]; omega
      generalize hc : (bt s ((a + i : Nat) : Int)).toNat % 128 * 128 ^ i = q at *
      have e2 : wrap64 ((n : Int) + shl .i64 (Int.tmod (wrap64 (bt s ((a + i : Nat) : Int))) 128) (wrap64 (7 * (i : Int)))) = ((n + q : Nat) : Int) := by
        rw [hb, w64 (x := 7 * (i : Int)) (by omega) (by omega), e0, w64 (by omega) (by omega)]; omega
      by_cases hb' : bt s ((a + i : Nat) : Int) < 128
      · simp only [rvL, if_pos hb', hc]
        refine Ev.step (f := fun k => (impl_VarText.f k ((n + q : Nat) : Int)).bind fun bt => (if bt.2 = true then (if (bt.1.size : Int) = (i : Int) + 1 then some (((n + q : Nat) : Int), ((a + i + 1 : Nat) : Int), true) else some (0, 0, false)) else some (0, 0, false))) (fun k => ?_) ?_
        · simp only [impl_ReadVar.j1, if_true]
          rw [w64 (x := (a : Int) + i) (by omega) (by omega), ei, if_pos (by omega), if_pos (by omega), if_pos (by rw [w64 (by omega) (by omega)]; omega), hb, if_pos hb']
          rw [hb] at e2
          rw [e2, w64 (x := (i : Int) + 1) (by omega) (by omega), w64 (x := ((a + i : Nat) : Int) + 1) (by omega) (by omega)]
          rfl
        · refine Ev.bind (impl_VarText_ev _) (Ev.is ?_)
          by_cases hM : n + q ≤ 1000000000
          · rw [varText_ok (by omega) (by omega), Int.toNat_natCast]
            simp only [if_true, vt_size]
            by_cases hq : (varL (n + q)).length = i + 1
            · rw [if_pos (by omega), if_pos ⟨hM, hq⟩]
              simp only [Option.some.injEq, Prod.mk.injEq, and_true, true_and]; omega
            · rw [if_neg (by omega), if_neg (fun e => hq e.2)]
          · rw [varText_no (by omega), if_neg (c := _ ∧ _) (fun e => hM e.1)]; simp
      · simp only [rvL, if_neg hb', hc]
        refine Ev.step (f := fun k => impl_ReadVar.l0 k s (a : Int) ((n + q : Nat) : Int) ((i + 1 : Nat) : Int)) (fun k => ?_) (impl_ReadVar_l0 s hs a f (i + 1) (n + q) (by omega) ?_ (by omega))
        · simp only [impl_ReadVar.j1, if_true]
          rw [w64 (x := (a : Int) + i) (by omega) (by omega), ei, if_pos (by omega), if_pos (by omega), if_pos (by rw [w64 (by omega) (by omega)]; omega), hb, if_neg hb']
          rw [hb] at e2
          rw [e2, w64 (x := (i : Int) + 1) (by omega) (by omega)]
          rfl
        · rw [Nat.pow_succ, ← hc]
          have h2 : (bt s ((a + i : Nat) : Int)).toNat % 128 ≤ 127 := by omega
          have h3 := Nat.mul_le_mul_right (128 ^ i) h2
          omega
    · rw [List.drop_of_length_le (by rw [bytesOf_length]; omega)]
      refine Ev.step (f := fun k => impl_ReadVar.j1 k s (a : Int) (n : Int) (i : Int) false) (fun k => ?_) ?_
      · simp only [impl_ReadVar.l0]
        rw [if_pos (by omega), w64 (x := (a : Int) + i) (by omega) (by omega)]
        rw [show decide ((a : Int) + i < (s.size : Int)) = false from by simp; omega]
      · refine Ev.step (f := fun _ => some (0, 0, false)) (fun k => ?_) (Ev.now _)
        simp only [impl_ReadVar.j1]; rfl
theorem impl_ReadVar_ev (s : ByteArray) (hs : s.size ≤ 140737488351232) (a : Int) : Ev (fun k => impl_ReadVar.f k s a) (readVar s a) := by
  unfold impl_ReadVar.f readVar
  refine Ev.bind0 (impl_within_is _ _ _) ?_
  by_cases h : 0 ≤ a ∧ a ≤ (s.size : Int)
  · rw [if_pos h]
    refine Ev.pos (inR_iff.2 h) ?_
    have := impl_ReadVar_l0 s hs a.toNat 5 0 0 rfl (by simp) (by omega)
    simp only [Nat.add_zero, Int.toNat_of_nonneg h.1] at this
    exact this
  · rw [if_neg h]
    exact Ev.neg (fun e => h (inR_iff.1 e)) (Ev.now _)
theorem impl_Unframe_l0 (s : ByteArray) (hs : s.size ≤ 20000) : ∀ (f a : Nat) (acc : List ByteArray), a + f = s.size → acc.length ≤ a →
    Ev (fun k => impl_Unframe.l0 k s acc (a : Int)) ((unf (f + 1) s acc a).1, ((unf (f + 1) s acc a).2 : Int)) := by
  intro f
  induction f using Nat.strongRecOn with
  | _ f ih =>
    intro a acc hf ha
    refine Ev.step (fun k => by simp only [impl_Unframe.l0]; rfl) (Ev.bind (impl_ReadVar_ev s (by omega) (a : Int)) ?_)
    simp only [unf, nextF]
    rcases readVar_cases s (a : Int) with h | ⟨n, m, h, hn, hm, _, hb, hv⟩
    · rw [h]
      have hv : rvar ((bytesOf s).drop a) = none := by
        unfold readVar at h
        rw [if_pos (by omega), Int.toNat_natCast] at h
        cases e : rvar ((bytesOf s).drop a) with
        | none => rfl
        | some p => obtain ⟨n, m⟩ := p; rw [e] at h; simp at h
      rw [hv]
      refine Ev.neg (by simp) (Ev.step (fun k => rfl) (Ev.now _))
    · rw [h]
      rw [Int.toNat_natCast] at hv
      rw [hv]
      refine Ev.pos rfl ?_
      simp only
      rw [w64 (x := (s.size : Int) - ((a : Int) + (m : Int))) (by omega) (by omega), w64 (x := (s.size : Int) - ((a : Int) + (m : Int)) - 4) (by omega) (by omega)]
      by_cases h1 : n + (a + m + 4) ≤ s.size
      · rw [decide_eq_false (p := (n : Int) > (s.size : Int) - ((a : Int) + (m : Int)) - 4) (by omega), if_pos h1]
        refine Ev.step (fun k => by simp only [impl_Unframe.j1, Bool.false_eq_true, if_false]; rfl) ?_
        rw [w64 (x := (a : Int) + (m : Int) + 4) (by omega) (by omega), w64 (x := (a : Int) + (m : Int) + 4 + (n : Int)) (by omega) (by omega)]
        have e1 : ((a : Int) + (m : Int) + 4).toNat = a + m + 4 := by omega
        have e2 : ((a : Int) + (m : Int) + 4 + (n : Int)).toNat = a + m + 4 + n := by omega
        rw [e1, e2]
        have hz := size_extract s (a + m + 4) (a + m + 4 + n) (by omega) (by omega)
        refine Ev.pos (by omega) (Ev.pos (by omega) (Ev.pos (by omega) (Ev.bind (impl_Frame_ev _ (by omega)) ?_)))
        by_cases h2 : (frame (s.extract (a + m + 4) (a + m + 4 + n))).2 = true
        · refine Ev.pos h2 (Ev.pos (by omega) (Ev.pos (by omega) ?_))
          rw [Int.toNat_natCast]
          by_cases h3 : (frame (s.extract (a + m + 4) (a + m + 4 + n))).1 = s.extract a (a + m + 4 + n)
          · refine Ev.pos ((toList_iff _ _).2 h3) (Ev.pos (by omega) ?_)
            rw [if_pos ⟨h2, h3⟩]
            have e3 : (a : Int) + (m : Int) + 4 + (n : Int) = ((a + m + 4 + n : Nat) : Int) := by omega
            rw [e3]
            refine (ih (s.size - (a + m + 4 + n)) (by omega) (a + m + 4 + n) (acc ++ [s.extract (a + m + 4) (a + m + 4 + n)]) (by omega) (by simp; omega)).eq ?_
            rw [unf_enough s (s.size - (a + m + 4 + n) + 1) f _ _ (by omega) (by omega) (by omega)]
          · refine Ev.neg (fun e => h3 ((toList_iff _ _).1 e)) ((Ev.now _).eq ?_)
            rw [if_neg (fun e => h3 e.2)]
        · refine Ev.neg h2 ((Ev.now _).eq ?_)
          rw [if_neg (fun e => h2 e.1)]
      · rw [decide_eq_true (p := (n : Int) > (s.size : Int) - ((a : Int) + (m : Int)) - 4) (by omega), if_neg h1]
        exact Ev.step (fun k => rfl) (Ev.now _)
theorem impl_Unframe_ev (s : ByteArray) : Ev (fun k => impl_Unframe.f k s) ((unframe s).1, ((unframe s).2 : Int)) := by
  unfold impl_Unframe.f unframe
  by_cases h : s.size ≤ 20000
  · rw [if_pos h]
    refine Ev.neg (by omega) ((impl_Unframe_l0 s h s.size 0 [] (by omega) (by simp)).eq ?_)
    rw [unf_enough s (s.size + 1) s.size _ _ (by omega) (by omega) (by omega)]
  · rw [if_neg h]; exact Ev.pos (by omega) (Ev.now _)
theorem impl_reader_byte_bad (s : ByteArray) (a : Int) : impl_reader_byte.f s a true = some (0, s, a, true) := by
  unfold impl_reader_byte.f; rw [if_pos rfl]
theorem impl_reader_byte_no {s : ByteArray} {a : Nat} (h : s.size ≤ a) : impl_reader_byte.f s (a : Int) false = some (0, s, (a : Int), true) := by
  unfold impl_reader_byte.f; rw [if_neg (by simp), if_pos (by omega)]
theorem impl_reader_byte_ok {s : ByteArray} (hs : s.size ≤ 140737488351232) {a : Nat} (h : a < s.size) : impl_reader_byte.f s (a : Int) false = some (bt s (a : Int), s, ((a + 1 : Nat) : Int), false) := by
  have hr := bt_range s (a : Int)
  unfold impl_reader_byte.f
  rw [if_neg (by simp), if_neg (by omega), w64 (x := (a : Int) + 1) (by omega) (by omega), w64 (x := (a : Int) + 1 - 1) (by omega) (by omega), if_pos (by omega), if_pos (by omega)]
  have e : (a : Int) + 1 - 1 = a := by omega
  rw [e, w64 (by omega) (by omega), Int.natCast_add]; rfl
theorem impl_reader_num_ev (s : ByteArray) (hs : s.size ≤ 140737488351232) (a : Int) (b : Bool) : Ev (fun k => impl_reader_num.f k s a b) (varC s a b) := by
  unfold impl_reader_num.f varC
  refine Ev.bind (impl_ReadVar_ev s hs a) (Ev.is ?_)
  split <;> (try split) <;> simp_all
theorem impl_head_ev (s : ByteArray) (c : Int) (hc : 0 ≤ c ∧ c ≤ 255) (hs : s.size ≤ 17592186044416) : ∃ r, Ev (fun k => impl_head.f k s c) r ∧ r.2.2 = (twoN s c).2.2 ∧ (r.2.2 = true → r = twoN s c) := by
  unfold impl_head.f twoN
  have hw : wrap64 c = c := w64 (by omega) (by omega)
  by_cases h0 : s.size = 0
  · rw [rvar_nil (by omega)]
    refine ⟨(0, 0, false), ?_, rfl, fun e => by cases e⟩
    refine Ev.bind0 (impl_reader_byte_no (a := 0) (by omega)) ?_
    refine Ev.bind (impl_reader_num_ev s (by omega) _ true) ?_
    rw [varC_bad]
    refine Ev.bind (impl_reader_num_ev s (by omega) _ true) ?_
    rw [varC_bad]
    exact Ev.bind0 rfl (Ev.neg (by simp) (Ev.now _))
  · cases e1 : rvar ((bytesOf s).drop 1) with
    | none =>
      refine ⟨(0, 0, false), ?_, rfl, fun e => by cases e⟩
      refine Ev.bind0 (impl_reader_byte_ok (a := 0) (by omega) (by omega)) ?_
      refine Ev.bind (impl_reader_num_ev s (by omega) ((1 : Nat) : Int) false) ?_
      rw [varC_none (by omega) e1]
      refine Ev.bind (impl_reader_num_ev s (by omega) _ true) ?_
      rw [varC_bad]
      exact Ev.bind0 rfl (Ev.neg (by simp) (Ev.now _))
    | some p =>
      obtain ⟨n, m⟩ := p
      have b1 := rvar_some e1
      simp only
      cases e2 : rvar ((bytesOf s).drop (1 + m)) with
      | none =>
        refine ⟨((n : Int), 0, false), ?_, rfl, fun e => by cases e⟩
        refine Ev.bind0 (impl_reader_byte_ok (a := 0) (by omega) (by omega)) ?_
        refine Ev.bind (impl_reader_num_ev s (by omega) ((1 : Nat) : Int) false) ?_
        rw [varC_some (by omega) e1]
        refine Ev.bind (impl_reader_num_ev s (by omega) ((1 + m : Nat) : Int) false) ?_
        rw [varC_none (by omega) e2]
        exact Ev.bind0 rfl (Ev.neg (by simp) (Ev.now _))
      | some q =>
        obtain ⟨t, m2⟩ := q
        have b2 := rvar_some e2
        simp only
        refine ⟨((n : Int), (t : Int), decide (bt s 0 = c ∧ 1 + m + m2 = s.size)), ?_, ?_, ?_⟩
        · refine Ev.bind0 (impl_reader_byte_ok (a := 0) (by omega) (by omega)) ?_
          refine Ev.bind (impl_reader_num_ev s (by omega) ((1 : Nat) : Int) false) ?_
          rw [varC_some (by omega) e1]
          refine Ev.bind (impl_reader_num_ev s (by omega) ((1 + m : Nat) : Int) false) ?_
          rw [varC_some (by omega) e2]
          refine Ev.bind0 rfl ?_
          simp only [hw]
          by_cases hz : 1 + m + m2 = s.size
          · refine Ev.pos (by simp only [beq_iff_eq]; omega) ((Ev.now _).eq ?_)
            by_cases hb : bt s 0 = c
            · rw [decide_eq_true ⟨hb, hz⟩, show (bt s ((0 : Nat) : Int) == c) = true from by simpa using hb]
            · rw [decide_eq_false (fun e => hb e.1), show (bt s ((0 : Nat) : Int) == c) = false from by simpa using hb]
          · refine Ev.neg (by simp only [beq_iff_eq]; omega) ((Ev.now _).eq ?_)
            rw [decide_eq_false (fun e => hz e.2)]
        · by_cases hq : bt s 0 = c ∧ 1 + m + m2 = s.size
          · rw [if_pos hq, decide_eq_true hq]
          · rw [if_neg hq, decide_eq_false hq]
        · intro e
          have hq := of_decide_eq_true e
          rw [if_pos hq, decide_eq_true hq]
theorem impl_ConfOk_l0 (l : List Int) (hl : l.length ≤ 35184372088832) : ∀ (d i : Nat) (p : Int), i + d = l.length → (i = 0 → p = 0) → (0 < i → p = rd l ((i - 1 : Nat) : Int)) →
    Ev (fun k => impl_ConfOk.l0 k l l (l.length : Int) (i : Int)) (decide (1 ≤ l.length ∧ l.length ≤ 4) && riseF p (l.drop i))
  | 0, i, p, h, h0, h1 => by
    refine Ev.step (f := fun k => some (decide (1 ≤ l.length ∧ l.length ≤ 4))) (fun k => ?_) ((Ev.now _).eq ?_)
    · simp only [impl_ConfOk.l0]; rw [if_neg (by omega), impl_within_is, Option.bind_some]
      congr 1
      unfold inR
      congr 1
      simp only [eq_iff_iff]
      omega
    · rw [List.drop_of_length_le (by omega)]; simp [riseF]
  | d + 1, i, p, h, h0, h1 => by
    rw [rd_drop (l := l) (by omega)]
    have ih := impl_ConfOk_l0 l hl d (i + 1) (rd l (i : Int)) (by omega) (by omega) (fun _ => by simp)
    by_cases hin : 1 ≤ rd l (i : Int) ∧ rd l (i : Int) ≤ 4
    · by_cases hi : 0 < i
      · have hp := h1 hi
        have ei : wrap64 ((i : Int) - 1) = ((i - 1 : Nat) : Int) := by rw [w64 (by omega) (by omega)]; omega
        by_cases hlt : p < rd l (i : Int)
        · refine Ev.step (f := fun k => impl_ConfOk.l0 k l l (l.length : Int) ((i + 1 : Nat) : Int)) (fun k => ?_) (ih.eq ?_)
          · simp only [impl_ConfOk.l0]
            rw [if_pos (by omega), if_pos (by omega), if_pos (by omega), impl_within_is, Option.bind_some, if_pos (inR_iff.2 hin), if_pos (by omega), ei, if_pos (by omega), if_pos (by omega), if_neg (by omega)]
            rw [w64 (x := (i : Int) + 1) (by omega) (by omega)]; rfl
          · simp only [riseF]; rw [decide_eq_true (p := _ ∧ _ ∧ _) ⟨hin.1, hin.2, hlt⟩, Bool.true_and]
        · refine Ev.step (f := fun k => some false) (fun k => ?_) ((Ev.now _).eq ?_)
          · simp only [impl_ConfOk.l0]
            rw [if_pos (by omega), if_pos (by omega), if_pos (by omega), impl_within_is, Option.bind_some, if_pos (inR_iff.2 hin), if_pos (by omega), ei, if_pos (by omega), if_pos (by omega), if_pos (by omega)]
          · simp only [riseF]; rw [decide_eq_false (p := _ ∧ _ ∧ _) (fun e => hlt e.2.2), Bool.false_and, Bool.and_false]
      · have hp := h0 (by omega)
        refine Ev.step (f := fun k => impl_ConfOk.l0 k l l (l.length : Int) ((i + 1 : Nat) : Int)) (fun k => ?_) (ih.eq ?_)
        · simp only [impl_ConfOk.l0]
          rw [if_pos (by omega), if_pos (by omega), if_pos (by omega), impl_within_is, Option.bind_some, if_pos (inR_iff.2 hin), if_neg (by omega)]
          rw [w64 (x := (i : Int) + 1) (by omega) (by omega)]; rfl
        · simp only [riseF]; rw [decide_eq_true (p := _ ∧ _ ∧ _) ⟨hin.1, hin.2, by omega⟩, Bool.true_and]
    · refine Ev.step (f := fun k => some false) (fun k => ?_) ((Ev.now _).eq ?_)
      · simp only [impl_ConfOk.l0]
        rw [if_pos (by omega), if_pos (by omega), if_pos (by omega), impl_within_is, Option.bind_some, if_neg (fun e => hin (inR_iff.1 e))]
      · simp only [riseF]; rw [decide_eq_false (p := _ ∧ _ ∧ _) (fun e => hin ⟨e.1, e.2.1⟩), Bool.false_and, Bool.and_false]
theorem impl_ConfOk_ev (l : List Int) (hl : l.length ≤ 35184372088832) : Ev (fun k => impl_ConfOk.f k l) (confOk l) := by
  have := impl_ConfOk_l0 l hl l.length 0 0 (by omega) (fun _ => rfl) (fun h => absurd h (by omega))
  exact this
theorem impl_ReadConf_l0 (s : ByteArray) (hs : s.size ≤ 17592186044416) : ∀ (d i : Nat), i + d = s.size →
    Ev (fun k => impl_ReadConf.l0 k s ((bytesOf s).take i) (i : Int)) (readConf s)
  | 0, i, h => by
    have e : (bytesOf s).take i = bytesOf s := List.take_of_length_le (by rw [bytesOf_length]; omega)
    rw [e]
    refine Ev.step (f := fun k => (impl_ConfOk.f k (bytesOf s)).bind fun t => if t = true then some (bytesOf s, true) else some ([], false)) (fun k => ?_) (Ev.bind (impl_ConfOk_ev _ (by rw [bytesOf_length]; omega)) (Ev.is ?_))
    · simp only [impl_ReadConf.l0]; rw [if_neg (by omega)]
    · unfold readConf
      by_cases h : confOk (bytesOf s) = true
      · rw [if_pos h, if_pos h]
      · rw [if_neg h, if_neg h]
  | d + 1, i, h => by
    have hr := bt_range s (i : Int)
    have hl : ((bytesOf s).take i).length = i := by rw [List.length_take, bytesOf_length]; omega
    refine Ev.step (f := fun k => impl_ReadConf.l0 k s ((bytesOf s).take (i + 1)) ((i + 1 : Nat) : Int)) (fun k => ?_) (impl_ReadConf_l0 s hs d (i + 1) (by omega))
    simp only [impl_ReadConf.l0]
    rw [if_pos (by omega), if_pos (by omega), if_pos (by omega), w64 (x := (i : Int) + 1) (by omega) (by omega), w64 (x := bt s i) (by omega) (by omega)]
    have e := Led.take_succ (s := s) (a := 0) (i := i) (by omega)
    rw [List.drop_zero, Nat.zero_add] at e
    rw [e]; rfl
theorem impl_ReadConf_ev (s : ByteArray) (hs : s.size ≤ 17592186044416) : Ev (fun k => impl_ReadConf.f k s) (readConf s) := by
  have := impl_ReadConf_l0 s hs s.size 0 (by omega)
  rw [List.take_zero] at this
  exact this
theorem impl_EntryOk_ev (a b : Int) (c : ByteArray) (hc : c.size ≤ 17592186044416) : Ev (fun k => impl_EntryOk.f k a b c) (entryOk a b c) := by
  unfold impl_EntryOk.f entryOk
  refine Ev.bind0 (impl_within_is _ _ _) ?_
  by_cases h : 0 ≤ a ∧ a ≤ 100000
  · refine Ev.pos (inR_iff.2 h) ?_
    rw [decide_eq_true h, Bool.true_and]
    by_cases h1 : b = 1
    · refine Ev.pos h1 (Ev.is ?_); rw [if_pos h1]
    · refine Ev.neg h1 ?_
      rw [if_neg h1]
      by_cases h2 : b = 2
      · refine Ev.pos h2 (Ev.bind (impl_ReadConf_ev c (by omega)) (Ev.is ?_)); rw [if_pos h2]
      · refine Ev.neg h2 ?_
        rw [if_neg h2]
        by_cases h3 : b = 3
        · refine Ev.pos h3 (Ev.is ?_); rw [if_pos h3]
        · refine Ev.neg h3 (Ev.is ?_); rw [if_neg h3]
  · refine Ev.neg (fun e => h (inR_iff.1 e)) (Ev.is ?_)
    rw [decide_eq_false h, Bool.false_and]
theorem impl_LogOk_l0 (l : List IEn) (hl : l.length ≤ 1048577) (hs : ∀ x ∈ l, x.f2.size ≤ 17592186044416) : ∀ (d i : Nat) (t : Int), i + d = l.length →
    Ev (fun k => impl_LogOk.l0 k t l (l.length : Int) (i : Int)) (entriesOk t (l.drop i))
  | 0, i, t, h => by
    refine Ev.step (f := fun k => some true) (fun k => ?_) ((Ev.now _).eq ?_)
    · simp only [impl_LogOk.l0]; rw [if_neg (by omega)]
    · rw [List.drop_of_length_le (by omega)]; rfl
  | d + 1, i, t, h => by
    have hx := hs (rd_T135 l (i : Int)) (by rw [rd_IEn (by omega)]; exact List.getElem_mem _)
    rw [rd_IEn_drop (l := l) (i := i) (by omega)]
    have ih := impl_LogOk_l0 l hl hs d (i + 1) (rd_T135 l (i : Int)).f0 (by omega)
    refine Ev.step (f := fun k => (impl_EntryOk.f k (rd_T135 l (i : Int)).f0 (rd_T135 l (i : Int)).f1 (rd_T135 l (i : Int)).f2).bind fun t142 => (if t142 = true then (if (rd_T135 l (i : Int)).f0 < t then some false else impl_LogOk.l0 k (rd_T135 l (i : Int)).f0 l (l.length : Int) ((i + 1 : Nat) : Int)) else some false)) (fun k => ?_) (Ev.bind (impl_EntryOk_ev _ _ _ hx) ?_)
    · simp only [impl_LogOk.l0]
      rw [if_pos (by omega), if_pos (by omega), if_pos (by omega), w64 (x := (i : Int) + 1) (by omega) (by omega)]; rfl
    · generalize rd_T135 l (i : Int) = x at *
      simp only [entriesOk]
      by_cases h1 : entryOk x.f0 x.f1 x.f2 = true
      · refine Ev.pos h1 ?_
        by_cases h2 : x.f0 < t
        · refine Ev.pos h2 ((Ev.now _).eq ?_)
          rw [decide_eq_false (p := t ≤ x.f0) (by omega)]; simp
        · refine Ev.neg h2 (ih.eq ?_)
          rw [h1, decide_eq_true (p := t ≤ x.f0) (by omega)]; simp
      · refine Ev.neg h1 ((Ev.now _).eq ?_)
        rw [Bool.not_eq_true _ |>.mp h1]; simp
theorem impl_LogOk_ev (a b : Int) (l : List IEn) (hl : l.length ≤ 1048577) (hs : ∀ x ∈ l, x.f2.size ≤ 17592186044416) : Ev (fun k => impl_LogOk.f k a b l) (logOk a b l) := by
  have no : ∀ x, logOk a b l = false → x = true → Ev (fun k => impl_LogOk.j0 k x a b l) (logOk a b l) := by
    intro x h hx
    rw [h, hx]
    exact Ev.step (fun k => rfl) (Ev.now _)
  have nf : ¬ logOk a b l = true → logOk a b l = false := fun h => Bool.not_eq_true _ |>.mp h
  unfold impl_LogOk.f
  refine Ev.bind0 (impl_within_is _ _ _) ?_
  by_cases h1 : 0 ≤ a ∧ a ≤ 1000000
  · refine Ev.pos (inR_iff.2 h1) (Ev.bind0 (impl_within_is _ _ _) ?_)
    by_cases h2 : 0 ≤ b ∧ b ≤ 100000
    · refine Ev.pos (inR_iff.2 h2) ?_
      by_cases h3 : l.length ≤ 60
      · refine Ev.neg (by omega) ?_
        rw [w64 (x := a + (l.length : Int)) (by omega) (by omega)]
        by_cases h4 : a + (l.length : Int) ≤ 1000000
        · rw [decide_eq_false (p := a + (l.length : Int) > 1000000) (by omega)]
          refine Ev.step (fun k => rfl) ?_
          refine (impl_LogOk_l0 l hl hs l.length 0 b (by omega)).eq ?_
          unfold logOk
          rw [decide_eq_true h1, decide_eq_true h2, decide_eq_true (p := l.length ≤ 60 ∧ a + (l.length : Int) ≤ 1000000) ⟨h3, h4⟩]; simp
        · exact no _ (nf fun e => h4 (logOk_iff.1 e).2.2.1.2) (decide_eq_true (by omega))
      · exact Ev.pos (by omega) (no _ (nf fun e => h3 (logOk_iff.1 e).2.2.1.1) rfl)
    · exact Ev.neg (fun e => h2 (inR_iff.1 e)) (no _ (nf fun e => h2 (logOk_iff.1 e).2.1) rfl)
  · exact Ev.neg (fun e => h1 (inR_iff.1 e)) (no _ (nf fun e => h1 (logOk_iff.1 e).1) rfl)
theorem impl_JournalOk_ev (p q s a b : Int) (l : List IEn) (hl : l.length ≤ 1048577) (hs : ∀ x ∈ l, x.f2.size ≤ 17592186044416) : Ev (fun k => impl_JournalOk.f k p q s a b l) (journalOk p q s a b l) := by
  unfold impl_JournalOk.f journalOk
  refine Ev.bind0 (impl_within_is _ _ _) ?_
  by_cases h1 : 0 ≤ p ∧ p ≤ 999
  · rw [decide_eq_true h1, Bool.true_and]
    refine Ev.pos (inR_iff.2 h1) (Ev.bind0 (impl_within_is _ _ _) ?_)
    by_cases h2 : 0 ≤ q ∧ q ≤ 100000
    · rw [decide_eq_true h2, Bool.true_and]
      refine Ev.pos (inR_iff.2 h2) (Ev.bind0 (impl_within_is _ _ _) ?_)
      by_cases h3 : 0 ≤ s ∧ s ≤ 4
      · rw [decide_eq_true h3, Bool.true_and]
        exact Ev.pos (inR_iff.2 h3) (Ev.bind (impl_LogOk_ev a b l hl hs) (Ev.now _))
      · rw [decide_eq_false h3, Bool.false_and]; exact Ev.neg (fun e => h3 (inR_iff.1 e)) (Ev.now _)
    · rw [decide_eq_false h2, Bool.false_and]; exact Ev.neg (fun e => h2 (inR_iff.1 e)) (Ev.now _)
  · rw [decide_eq_false h1, Bool.false_and]; exact Ev.neg (fun e => h1 (inR_iff.1 e)) (Ev.now _)
theorem impl_ReadEntry_ev (s : ByteArray) (hs : s.size ≤ 17592186044416) : Ev (fun k => impl_ReadEntry.f k s) (readEntry s) := by
  unfold impl_ReadEntry.f readEntry
  by_cases h0 : s.size = 0
  · rw [rvar_nil (by omega)]
    refine Ev.bind0 (impl_reader_byte_no (a := 0) (by omega)) ?_
    refine Ev.bind (impl_reader_num_ev s (by omega) _ true) ?_
    rw [varC_bad]
    refine Ev.bind (impl_reader_num_ev s (by omega) _ true) ?_
    rw [varC_bad]
    exact Ev.bind0 (impl_reader_byte_bad _ _) (Ev.pos rfl (Ev.step (fun k => rfl) (Ev.now _)))
  · refine Ev.bind0 (impl_reader_byte_ok (a := 0) (by omega) (by omega)) ?_
    refine Ev.bind (impl_reader_num_ev s (by omega) ((1 : Nat) : Int) false) ?_
    cases e1 : rvar ((bytesOf s).drop 1) with
    | none =>
      rw [varC_none (by omega) e1]
      refine Ev.bind (impl_reader_num_ev s (by omega) _ true) ?_
      rw [varC_bad]
      exact Ev.bind0 (impl_reader_byte_bad _ _) (Ev.pos rfl (Ev.step (fun k => rfl) (Ev.now _)))
    | some p =>
      obtain ⟨n, m⟩ := p
      have b1 := rvar_some e1
      rw [varC_some (by omega) e1]
      refine Ev.bind (impl_reader_num_ev s (by omega) ((1 + m : Nat) : Int) false) ?_
      simp only
      cases e2 : rvar ((bytesOf s).drop (1 + m)) with
      | none =>
        rw [varC_none (by omega) e2]
        exact Ev.bind0 (impl_reader_byte_bad _ _) (Ev.pos rfl (Ev.step (fun k => rfl) (Ev.now _)))
      | some q =>
        obtain ⟨t, m2⟩ := q
        have b2 := rvar_some e2
        rw [varC_some (by omega) e2]
        simp only
        by_cases h3 : 1 + m + m2 < s.size
        · rw [if_pos h3]
          refine Ev.bind0 (impl_reader_byte_ok (a := 1 + m + m2) (by omega) (by omega)) ?_
          refine Ev.neg (by simp) ?_
          unfold rEnt
          by_cases hq : bt s 0 = 69
          · simp only [show (bt s ((0 : Nat) : Int) != 69) = false from by simpa using hq]
            refine Ev.step (f := fun k => (impl_EntryOk.f k t (bt s ((1 + m + m2 : Nat) : Int)) (s.extract (1 + m + m2 + 1) s.size)).bind fun t216 => (if t216 = true then ((impl_within.f n 1 1000000).bind fun t217 => (if t217 = true then (some ((n : Int), (t : Int), bt s ((1 + m + m2 : Nat) : Int), s.extract (1 + m + m2 + 1) s.size, true)) else (some (0, 0, 0, (⟨#[]⟩ : ByteArray), false)))) else (some (0, 0, 0, (⟨#[]⟩ : ByteArray), false)))) (fun k => ?_) ?_
            · simp only [impl_ReadEntry.j0]
              rw [if_neg (by simp), if_pos (by omega), if_pos (by omega), Int.toNat_natCast]
            · refine Ev.bind (impl_EntryOk_ev _ _ _ (by rw [size_extract _ _ _ (by omega) (by omega)]; omega)) ?_
              by_cases hk : entryOk (t : Int) (bt s ((1 + m + m2 : Nat) : Int)) (s.extract (1 + m + m2 + 1) s.size) = true
              · refine Ev.pos hk (Ev.bind0 (impl_within_is _ _ _) ?_)
                by_cases hn : (1 : Int) ≤ n ∧ (n : Int) ≤ 1000000
                · refine Ev.pos (inR_iff.2 hn) ((Ev.now _).eq ?_)
                  rw [if_pos ⟨hq, hk, by omega, by omega⟩]
                · refine Ev.neg (fun e => hn (inR_iff.1 e)) ((Ev.now _).eq ?_)
                  rw [if_neg (fun e => hn ⟨by omega, by omega⟩)]
              · refine Ev.neg hk ((Ev.now _).eq ?_)
                rw [if_neg (fun e => hk e.2.1)]
          · simp only [show (bt s ((0 : Nat) : Int) != 69) = true from by simpa using hq]
            rw [if_neg (fun e => hq e.1)]
            exact Ev.step (fun k => rfl) (Ev.now _)
        · rw [if_neg h3]
          exact Ev.bind0 (impl_reader_byte_no (a := 1 + m + m2) (by omega)) (Ev.pos rfl (Ev.step (fun k => rfl) (Ev.now _)))
theorem impl_last_is (a b : Int) (l : List IEn) (h : 0 ≤ a ∧ a ≤ 1000000) (hl : l.length ≤ 60) : impl_last.f a b l = some (a + (l.length : Int)) := by
  unfold impl_last.f; rw [w64 (by omega) (by omega)]
theorem impl_copyLog_is (a b : Int) (l : List IEn) (hl : l.length ≤ 1048577) : impl_copyLog.f a b l = some (a, b, l) := by
  unfold impl_copyLog.f
  rw [if_pos (by simp; omega), List.nil_append]
theorem impl_LogPut_ev (a b : Int) (l : List IEn) (hl : l.length ≤ 1048577) (hs : ∀ x ∈ l, x.f2.size ≤ 17592186044416) (i e0 e1 : Int) (e2 : ByteArray) (he : e2.size ≤ 17592186044416) : Ev (fun k => impl_LogPut.f k a b l i e0 e1 e2) (putF a b l i ⟨e0, e1, e2⟩) := by
  have no : ¬ (logOk a b l = true ∧ (a + 1 ≤ i ∧ i ≤ a + (l.length : Int) + 1) ∧ logOk a b (putL a l i ⟨e0, e1, e2⟩) = true) → Ev (fun k => impl_LogPut.j0 k i true a b l e0 e1 e2) (putF a b l i ⟨e0, e1, e2⟩) := by
    intro h
    rw [putF, if_neg h]
    exact Ev.step (f := fun k => some (0, 0, [], false)) (fun k => by simp only [impl_LogPut.j0, if_true]) (Ev.now _)
  unfold impl_LogPut.f
  refine Ev.bind (impl_LogOk_ev a b l hl hs) ?_
  by_cases h1 : logOk a b l = true
  · have k1 := logOk_iff.1 h1
    refine Ev.pos h1 (Ev.bind0 (impl_last_is a b l k1.1 k1.2.2.1.1) (Ev.bind0 (impl_within_is _ _ _) ?_))
    rw [w64 (x := a + 1) (by omega) (by omega), w64 (x := a + (l.length : Int) + 1) (by omega) (by omega)]
    by_cases h2 : a + 1 ≤ i ∧ i ≤ a + (l.length : Int) + 1
    · rw [inR_iff.2 h2]
      show Ev (fun k => impl_LogPut.j0 k i false a b l e0 e1 e2) _
      refine Ev.step (f := fun k => (impl_LogOk.f k a b (putL a l i ⟨e0, e1, e2⟩)).bind fun t => if t = true then some (a, b, putL a l i ⟨e0, e1, e2⟩, true) else some (0, 0, [], false)) (fun k => ?_) (Ev.bind (impl_LogOk_ev a b _ (by simp [putL]; omega) (putL_small hs he)) ?_)
      · simp only [impl_LogPut.j0, Bool.false_eq_true, if_false]
        rw [impl_copyLog_is a b l hl]
        simp only [Option.bind_some]
        rw [w64 (x := i - a) (by omega) (by omega), w64 (x := i - a - 1) (by omega) (by omega), if_pos (by omega), if_pos (by omega), if_pos (by simp; omega)]
        rfl
      · by_cases h3 : logOk a b (putL a l i ⟨e0, e1, e2⟩) = true
        · exact Ev.pos h3 ((Ev.now _).eq (by rw [putF, if_pos ⟨h1, h2, h3⟩]))
        · exact Ev.neg h3 ((Ev.now _).eq (by rw [putF, if_neg (fun e => h3 e.2.2)]))
    · have e : inR i (a + 1) (a + (l.length : Int) + 1) = false := by
        cases e : inR i (a + 1) (a + (l.length : Int) + 1) with
        | true => exact absurd (inR_iff.1 e) h2
        | false => rfl
      rw [e]
      exact no (fun e => h2 e.2.1)
  · exact Ev.neg h1 (no (fun e => h1 e.1))
theorem impl_told_ev (p : JSt) (hp : jInv p) (t : ByteArray) (ht : t.size ≤ 20000) : ∃ r, Ev (fun k => impl_told.f k p.1 p.2.1 p.2.2.1 p.2.2.2.1 p.2.2.2.2.1 p.2.2.2.2.2 t) r ∧ (match moreF p t with | some q => r = (q.1, q.2.1, q.2.2.1, q.2.2.2.1, q.2.2.2.2.1, q.2.2.2.2.2, true) | none => r.2.2.2.2.2.2 = false) := by
  have hlen := jInv_len hp
  obtain ⟨r, hr, hb, hq⟩ := impl_head_ev t 72 (by omega) (by omega)
  unfold impl_told.f moreF
  by_cases h : (twoN t 72).2.2 = true
  · have e := hq (hb.trans h)
    subst e
    refine ⟨_, Ev.bind hr (Ev.pos h (Ev.bind (impl_JournalOk_ev _ _ _ _ _ _ (by omega) hp.2.2) (Ev.now _))), ?_⟩
    by_cases h1 : (0 ≤ (twoN t 72).1 ∧ (twoN t 72).1 ≤ 100000) ∧ (0 ≤ (twoN t 72).2.1 ∧ (twoN t 72).2.1 ≤ 4)
    · rw [if_pos h, if_pos h1]
      have : journalOk p.1 (twoN t 72).1 (twoN t 72).2.1 p.2.2.2.1 p.2.2.2.2.1 p.2.2.2.2.2 = true := by
        unfold journalOk
        rw [decide_eq_true hp.1, decide_eq_true h1.1, decide_eq_true h1.2, hp.2.1]; rfl
      rw [this]
    · rw [if_pos h, if_neg h1]
      show journalOk p.1 (twoN t 72).1 (twoN t 72).2.1 p.2.2.2.1 p.2.2.2.2.1 p.2.2.2.2.2 = false
      unfold journalOk
      by_cases g1 : 0 ≤ (twoN t 72).1 ∧ (twoN t 72).1 ≤ 100000
      · rw [decide_eq_false (p := 0 ≤ (twoN t 72).2.1 ∧ (twoN t 72).2.1 ≤ 4) (fun e => h1 ⟨g1, e⟩)]; simp
      · rw [decide_eq_false g1]; simp
  · have hf : ¬ r.2.2 = true := by rw [hb]; exact h
    by_cases h1 : (readEntry t).2.2.2.2 = true
    · have hput := impl_LogPut_ev p.2.2.2.1 p.2.2.2.2.1 p.2.2.2.2.2 (by omega) hp.2.2 (readEntry t).1 (readEntry t).2.1 (readEntry t).2.2.1 (readEntry t).2.2.2.1 (readEntry_small t ht)
      rw [if_neg h, if_pos h1]
      generalize putF p.2.2.2.1 p.2.2.2.2.1 p.2.2.2.2.2 (readEntry t).1 ⟨(readEntry t).2.1, (readEntry t).2.2.1, (readEntry t).2.2.2.1⟩ = z at hput ⊢
      refine ⟨_, Ev.bind hr (Ev.neg hf (Ev.bind (impl_ReadEntry_ev t (by omega)) (Ev.pos h1 (Ev.bind hput (Ev.now _))))), ?_⟩
      by_cases h2 : z.2.2.2 = true
      · rw [if_pos h2]; simp only [h2]
      · rw [if_neg h2]; simpa using h2
    · rw [if_neg h, if_neg h1]
      exact ⟨_, Ev.bind hr (Ev.neg hf (Ev.bind (impl_ReadEntry_ev t (by omega)) (Ev.neg h1 (Ev.now _)))), rfl⟩
theorem impl_ReadJournal_l0 (ls : List ByteArray) (hl : ls.length ≤ 20000) (hs : ∀ t ∈ ls, t.size ≤ 20000) : ∀ (d i : Nat) (p : JSt) (e : Int), i + 1 + d = ls.length → jInv p → 0 ≤ e → e ≤ 10000 * ((i : Int) + 1) →
    Ev (fun k => impl_ReadJournal.l0 ls k (i : Int) p.1 p.2.1 p.2.2.1 p.2.2.2.1 p.2.2.2.2.1 p.2.2.2.2.2 e) ((foldJ p e (ls.drop (i + 1))).1.1, (foldJ p e (ls.drop (i + 1))).1.2.1, (foldJ p e (ls.drop (i + 1))).1.2.2.1, (foldJ p e (ls.drop (i + 1))).1.2.2.2.1, (foldJ p e (ls.drop (i + 1))).1.2.2.2.2.1, (foldJ p e (ls.drop (i + 1))).1.2.2.2.2.2, (foldJ p e (ls.drop (i + 1))).2)
  | 0, i, p, e, h, hp, h2, h3 => by
    rw [List.drop_of_length_le (by omega)]
    refine Ev.step (f := fun k => some (p.1, p.2.1, p.2.2.1, p.2.2.2.1, p.2.2.2.2.1, p.2.2.2.2.2, e)) (fun k => ?_) (Ev.now _)
    simp only [impl_ReadJournal.l0]; rw [if_neg (by omega)]
  | d + 1, i, p, e, h, hp, h2, h3 => by
    have hi : i + 1 < ls.length := by omega
    have ht := hs ls[i + 1] (List.getElem_mem hi)
    have hF := frame_len ls[i + 1]
    rw [List.drop_eq_getElem_cons hi]
    obtain ⟨r, hr, hm⟩ := impl_told_ev p hp ls[i + 1] ht
    refine Ev.step (f := fun k => (impl_told.f k p.1 p.2.1 p.2.2.1 p.2.2.2.1 p.2.2.2.2.1 p.2.2.2.2.2 ls[i + 1]).bind fun m => if m.2.2.2.2.2.2 = true then ((impl_Frame.f k ls[i + 1]).bind fun f => impl_ReadJournal.l0 ls k ((i + 1 : Nat) : Int) m.1 m.2.1 m.2.2.1 m.2.2.2.1 m.2.2.2.2.1 m.2.2.2.2.2.1 (wrap64 (e + (f.1.size : Int)))) else some (p.1, p.2.1, p.2.2.1, p.2.2.2.1, p.2.2.2.2.1, p.2.2.2.2.2, e)) (fun k => ?_) (Ev.bind hr ?_)
    · simp only [impl_ReadJournal.l0]
      have e1 : (i : Int) + 1 = ((i + 1 : Nat) : Int) := by omega
      rw [if_pos (by omega), if_pos (by omega), e1, rdOf_nat _ _ (i + 1) hi, w64 (x := ((i + 1 : Nat) : Int)) (by omega) (by omega)]
    · simp only [foldJ]
      cases hmm : moreF p ls[i + 1] with
      | none =>
        rw [hmm] at hm
        exact Ev.neg (by simp only at hm; rw [hm]; simp) (Ev.now _)
      | some q =>
        rw [hmm] at hm
        simp only at hm
        subst hm
        have k := moreF_inv hp ht hmm
        refine Ev.pos rfl (Ev.bind (impl_Frame_ev _ (by omega)) ?_)
        rw [w64 (x := e + ((frame ls[i + 1]).1.size : Int)) (by omega) (by omega)]
        exact impl_ReadJournal_l0 ls hl hs d (i + 1) q _ (by omega) k.1 (by omega) (by omega)
theorem impl_ReadJournal_ev (n : Int) (s : ByteArray) : Ev (fun k => impl_ReadJournal.f k n s) (readJ n s) := by
  have hlen := (unframe_length s).1
  have hsm := unframe_small s
  unfold impl_ReadJournal.f readJ
  refine Ev.bind (impl_Unframe_ev s) (Ev.bind0 (impl_within_is _ _ _) ?_)
  by_cases h : 0 ≤ n ∧ n ≤ 999
  · rw [if_pos h]
    refine Ev.pos (inR_iff.2 h) ?_
    simp only
    cases e : (unframe s).1 with
    | nil => exact Ev.pos (by simp) (Ev.now _)
    | cons t ts =>
      rw [e] at hlen hsm
      have ht := hsm t (List.mem_cons_self ..)
      have hF := frame_len t
      have r0 : rdOf ByteArray.empty (t :: ts) 0 = t := rdOf_nat _ (t :: ts) 0 (by simp)
      show Ev _ (readR n t ts)
      rw [r0]
      obtain ⟨r, hr, hb, hq⟩ := impl_head_ev t 66 (by omega) (by omega)
      refine Ev.neg (by simp; omega) (Ev.bind hr ?_)
      by_cases h2 : (twoN t 66).2.2 = true
      · have er := hq (hb.trans h2)
        subst er
        refine Ev.pos h2 (Ev.bind (impl_JournalOk_ev _ _ _ _ _ [] (by simp) (by simp)) ?_)
        have hj : journalOk n 0 0 (twoN t 66).1 (twoN t 66).2.1 [] = logOk (twoN t 66).1 (twoN t 66).2.1 [] := by
          unfold journalOk
          rw [decide_eq_true h]; simp
        rw [hj]
        by_cases h3 : logOk (twoN t 66).1 (twoN t 66).2.1 [] = true
        · have hp := jInv_first h h3
          have l1 := impl_ReadJournal_l0 (t :: ts) hlen hsm ts.length 0 (n, 0, 0, (twoN t 66).1, (twoN t 66).2.1, []) ((frame t).1.size : Int) (by simp; omega) hp (by omega) (by omega)
          rw [show (t :: ts).drop (0 + 1) = ts from rfl] at l1
          have hv : readR n t ts = ((foldJ (n, 0, 0, (twoN t 66).1, (twoN t 66).2.1, []) ((frame t).1.size : Int) ts).1.1, (foldJ (n, 0, 0, (twoN t 66).1, (twoN t 66).2.1, []) ((frame t).1.size : Int) ts).1.2.1, (foldJ (n, 0, 0, (twoN t 66).1, (twoN t 66).2.1, []) ((frame t).1.size : Int) ts).1.2.2.1, (foldJ (n, 0, 0, (twoN t 66).1, (twoN t 66).2.1, []) ((frame t).1.size : Int) ts).1.2.2.2.1, (foldJ (n, 0, 0, (twoN t 66).1, (twoN t 66).2.1, []) ((frame t).1.size : Int) ts).1.2.2.2.2.1, (foldJ (n, 0, 0, (twoN t 66).1, (twoN t 66).2.1, []) ((frame t).1.size : Int) ts).1.2.2.2.2.2, (foldJ (n, 0, 0, (twoN t 66).1, (twoN t 66).2.1, []) ((frame t).1.size : Int) ts).2, true) := by unfold readR; rw [if_pos h2, if_pos h3]
          rw [hv]
          exact Ev.pos h3 (Ev.bind (impl_Frame_ev t (by omega)) (Ev.bind l1 (Ev.now _)))
        · refine (Ev.neg h3 (Ev.now _)).eq ?_
          unfold readR
          rw [if_pos h2, if_neg h3]
      · refine (Ev.neg (by rw [hb]; exact h2) (Ev.now _)).eq ?_
        unfold readR
        rw [if_neg h2]
  · rw [if_neg h]
    exact Ev.neg (fun e => h (inR_iff.1 e)) (Ev.now _)
theorem laws_eqEntry_is (a b : Int) (c : ByteArray) : laws_eqEntry.f a b c a b c = some true := by
  unfold laws_eqEntry.f; simp
theorem laws_eqEntryS_l0 (l : List IEn) (hl : l.length ≤ 1048577) : ∀ (d i : Nat), i + d = l.length → Ev (fun k => laws_eqEntryS.l0 k l l (i : Int)) true
  | 0, i, h => by
    refine Ev.step (f := fun k => some true) (fun k => ?_) (Ev.now _)
    simp only [laws_eqEntryS.l0]; rw [if_neg (by omega)]
  | d + 1, i, h => by
    refine Ev.step (f := fun k => laws_eqEntryS.l0 k l l ((i + 1 : Nat) : Int)) (fun k => ?_) (laws_eqEntryS_l0 l hl d (i + 1) (by omega))
    simp only [laws_eqEntryS.l0]
    rw [if_pos (by omega), if_pos (by omega), if_pos (by omega), laws_eqEntry_is, Option.bind_some, if_pos rfl, w64 (x := (i : Int) + 1) (by omega) (by omega)]; rfl
theorem laws_eqEntryS_ev (l : List IEn) (hl : l.length ≤ 1048577) : Ev (fun k => laws_eqEntryS.f k l l) true := by
  unfold laws_eqEntryS.f
  exact Ev.pos rfl (laws_eqEntryS_l0 l hl l.length 0 (by omega))
theorem laws_eqLog_ev (a b : Int) (l : List IEn) (hl : l.length ≤ 1048577) : Ev (fun k => laws_eqLog.f k a b l a b l) true := by
  unfold laws_eqLog.f
  exact Ev.pos rfl (Ev.pos rfl (Ev.bind (laws_eqEntryS_ev l hl) (Ev.pos rfl (Ev.now _))))
theorem laws_eqJournal_ev (p q s a b : Int) (l : List IEn) (hl : l.length ≤ 1048577) : Ev (fun k => laws_eqJournal.f k p q s a b l p q s a b l) true := by
  unfold laws_eqJournal.f
  exact Ev.pos rfl (Ev.pos rfl (Ev.pos rfl (Ev.bind (laws_eqLog_ev a b l hl) (Ev.pos rfl (Ev.now _)))))
theorem laws_markText_l0 : ∀ (n : Nat) (acc : ByteArray), n + acc.size ≤ 1000000000000000 → Ev (fun k => laws_markText.l0 k (n : Int) acc) ((⟨#[109]⟩ : ByteArray) ++ mtD n acc) := by
  intro n
  induction n using Nat.strongRecOn with
  | _ n ih =>
    intro acc ha
    by_cases h : 0 < n
    · have e1 : (wrap64 (48 + Int.tmod (n : Int) 10)) % 256 = ((48 + n % 10 : Nat) : Int) := by
        rw [tm (by omega), w64 (by omega) (by omega)]; omega
      have e2 : wrap64 (Int.tdiv (n : Int) 10) = ((n / 10 : Nat) : Int) := by rw [td (by omega), w64 (by omega) (by omega)]; omega
      have hsz : (strOfNums [((48 + n % 10 : Nat) : Int)]).size = 1 := str_size _
      refine Ev.step (f := fun k => laws_markText.l0 k ((n / 10 : Nat) : Int) (strOfNums [((48 + n % 10 : Nat) : Int)] ++ acc)) (fun k => ?_) ((ih (n / 10) (by omega) _ (by rw [size_append, hsz]; omega)).eq ?_)
      · simp only [laws_markText.l0]
        rw [if_pos (by omega), Option.bind_some, e1, e2, if_pos (by rw [hsz]; omega)]
      · rw [mtD.eq_def n acc, if_pos h]
    · obtain rfl : n = 0 := by omega
      refine Ev.step (f := fun k => some ((⟨#[109]⟩ : ByteArray) ++ acc)) (fun k => ?_) ((Ev.now _).eq ?_)
      · simp only [laws_markText.l0]; rw [if_neg (by omega), if_pos (by omega)]
      · rw [mtD.eq_def 0 acc, if_neg (by omega)]
theorem laws_markText_ev (n : Int) (h : n ≤ 1000000000000000) : Ev (fun k => laws_markText.f k n) (mkT n) := by
  unfold laws_markText.f mkT
  by_cases h0 : n ≤ 0
  · rw [if_pos h0]; exact Ev.pos h0 (Ev.now _)
  · rw [if_neg h0]
    have := laws_markText_l0 n.toNat ⟨#[]⟩ (by show n.toNat + 0 ≤ _; omega)
    rw [Int.toNat_of_nonneg (by omega)] at this
    exact Ev.neg h0 this
def mkEn (m : Int) : IEn := ⟨m, m + 1, mkT (m + 2)⟩
def seq3 (m : Int) : Nat → List IEn
  | 0 => []
  | n + 1 => mkEn m :: seq3 (m + 3) n
theorem seq3_length (m : Int) (n : Nat) : (seq3 m n).length = n := by
  induction n generalizing m with
  | zero => rfl
  | succ n ih => simp [seq3, ih]
theorem seq3_get (m : Int) (n i : Nat) (h : i < (seq3 m n).length) : (seq3 m n)[i] = mkEn (m + 3 * i) := by
  induction n generalizing m i with
  | zero => simp [seq3] at h
  | succ n ih =>
    cases i with
    | zero => simp [seq3]
    | succ i => simp only [seq3, List.getElem_cons_succ]; rw [ih]; congr 1; omega
theorem rd_IEn_set {l : List IEn} {i : Nat} (v : IEn) (h : i < l.length) : rd_T135 (l.set i v) (i : Int) = v := by
  rw [rd_IEn (by simpa using h)]; simp
theorem laws_markEntryS_l0 (l : List IEn) (hl : l.length ≤ 1048577) (m : Int) (h0 : 0 ≤ m) (hm : m ≤ 10000000000000) : ∀ (d i : Nat), i + d = l.length →
    Ev (fun k => laws_markEntryS.l0 k ((seq3 m l.length).take i ++ l.drop i) (m + 3 * i) (i : Int)) (m + 3 * l.length, seq3 m l.length)
  | 0, i, h => by
    obtain rfl : i = l.length := by omega
    have e : (seq3 m l.length).take l.length ++ l.drop l.length = seq3 m l.length := by rw [List.drop_length, List.append_nil, List.take_of_length_le (by rw [seq3_length]; omega)]
    rw [e]
    refine Ev.step (f := fun k => some (m + 3 * (l.length : Int), seq3 m l.length)) (fun k => ?_) (Ev.now _)
    simp only [laws_markEntryS.l0]; rw [if_neg (by rw [seq3_length]; omega)]
  | d + 1, i, h => by
    have hM : (seq3 m l.length).length = l.length := seq3_length _ _
    have hL : ((seq3 m l.length).take i ++ l.drop i).length = l.length := by rw [List.length_append, List.length_take, List.length_drop, hM]; omega
    have em := mark_step (seq3 m l.length) l i (by omega) hM
    rw [seq3_get] at em
    generalize hX : (seq3 m l.length).take i ++ l.drop i = X at hL em ⊢
    have hi : i < X.length := by omega
    refine Ev.step (f := fun k => (laws_markText.f k (m + 3 * i + 2)).bind fun t => laws_markEntryS.l0 k (X.set i ⟨m + 3 * i, m + 3 * i + 1, t⟩) (m + 3 * ((i + 1 : Nat) : Int)) ((i + 1 : Nat) : Int)) (fun k => ?_) (Ev.bind (laws_markText_ev _ (by omega)) ((laws_markEntryS_l0 l hl m h0 hm d (i + 1) (by omega)).congr' ?_))
    · simp only [laws_markEntryS.l0]
      rw [if_pos (by omega), if_pos (by omega)]
      have w1 : wrap64 (m + 3 * (i : Int) + 1) = m + 3 * i + 1 := w64 (by omega) (by omega)
      have w2 : wrap64 (m + 3 * (i : Int) + 1 + 1) = m + 3 * i + 2 := by rw [w64 (by omega) (by omega)]; omega
      have w3 : wrap64 (m + 3 * (i : Int) + 2 + 1) = m + 3 * ((i + 1 : Nat) : Int) := by rw [w64 (by omega) (by omega)]; omega
      have w4 : wrap64 ((i : Int) + 1) = ((i + 1 : Nat) : Int) := by rw [w64 (by omega) (by omega)]; omega
      simp only [Option.bind_some, Int.toNat_natCast, w1, w2, w3, w4]
      have r1 : ∀ v : IEn, rd_T135 (X.set i v) (i : Int) = v := fun v => rd_IEn_set v hi
      have r2 : ∀ v u : IEn, rd_T135 ((X.set i v).set i u) (i : Int) = u := fun v u => rd_IEn_set u (by simpa using hi)
      simp only [r1, r2, List.set_set]
    · intro k
      have e2 : (⟨m + 3 * (i : Int), m + 3 * (i : Int) + 1, mkT (m + 3 * (i : Int) + 2)⟩ : IEn) = mkEn (m + 3 * i) := rfl
      rw [e2, em]
theorem laws_markEntryS_ev (l : List IEn) (hl : l.length ≤ 1048577) (m : Int) (h0 : 0 ≤ m) (hm : m ≤ 10000000000000) : Ev (fun k => laws_markEntryS.f k l m) (m + 3 * l.length, seq3 m l.length) := by
  have := laws_markEntryS_l0 l hl m h0 hm l.length 0 (by omega)
  show Ev (fun k => laws_markEntryS.l0 k l m 0) _
  simpa using this
theorem laws_markLog_ev (a b : Int) (l : List IEn) (hl : l.length ≤ 1048577) : Ev (fun k => laws_markLog.f k a b l 1) (1 + 3 * (l.length : Int), seq3 1 l.length) := by
  unfold laws_markLog.f
  exact Ev.bind (laws_markEntryS_ev l hl 1 (by omega) (by omega)) (Ev.now _)
theorem laws_markJournal_ev (p q s a b : Int) (l : List IEn) (hl : l.length ≤ 1048577) : Ev (fun k => laws_markJournal.f k p q s a b l 1) (1 + 3 * (l.length : Int), seq3 1 l.length) := by
  unfold laws_markJournal.f
  exact Ev.bind (laws_markLog_ev a b l hl) (Ev.now _)
theorem laws_heldEntryS_l0 (n : Nat) (hl : n ≤ 1048577) (m : Int) (h0 : 0 ≤ m) (hm : m ≤ 10000000000000) : ∀ (d i : Nat), i + d = n →
    Ev (fun k => laws_heldEntryS.l0 k (seq3 m n) (m + 3 * i) (i : Int)) (m + 3 * n)
  | 0, i, h => by
    obtain rfl : i = n := by omega
    refine Ev.step (f := fun k => some (m + 3 * (i : Int))) (fun k => ?_) (Ev.now _)
    simp only [laws_heldEntryS.l0]; rw [if_neg (by rw [seq3_length]; omega)]
  | d + 1, i, h => by
    have er : rd_T135 (seq3 m n) (i : Int) = mkEn (m + 3 * i) := by rw [rd_IEn (by rw [seq3_length]; omega), seq3_get]
    refine Ev.step (f := fun k => (laws_markText.f k (m + 3 * i + 2)).bind fun t => if (mkT (m + 3 * i + 2)).toList = t.toList then laws_heldEntryS.l0 k (seq3 m n) (m + 3 * ((i + 1 : Nat) : Int)) ((i + 1 : Nat) : Int) else some (-1)) (fun k => ?_) (Ev.bind (laws_markText_ev _ (by omega)) (Ev.pos rfl (laws_heldEntryS_l0 n hl m h0 hm d (i + 1) (by omega))))
    simp only [laws_heldEntryS.l0]
    have w1 : wrap64 (m + 3 * (i : Int) + 1) = m + 3 * i + 1 := w64 (by omega) (by omega)
    have w2 : wrap64 (m + 3 * (i : Int) + 1 + 1) = m + 3 * i + 2 := by rw [w64 (by omega) (by omega)]; omega
    have w3 : wrap64 (m + 3 * (i : Int) + 2 + 1) = m + 3 * ((i + 1 : Nat) : Int) := by rw [w64 (by omega) (by omega)]; omega
    have w4 : wrap64 ((i : Int) + 1) = ((i + 1 : Nat) : Int) := by rw [w64 (by omega) (by omega)]; omega
    rw [if_pos (by rw [seq3_length]; omega), if_pos (by omega), er]
    simp only [mkEn, w1, w2, w3, w4, if_true]
theorem laws_heldEntryS_ev (n : Nat) (hl : n ≤ 1048577) (m : Int) (h0 : 0 ≤ m) (hm : m ≤ 10000000000000) : Ev (fun k => laws_heldEntryS.f k (seq3 m n) m) (m + 3 * n) := by
  have := laws_heldEntryS_l0 n hl m h0 hm n 0 (by omega)
  show Ev (fun k => laws_heldEntryS.l0 k (seq3 m n) m 0) _
  simpa using this
theorem laws_heldLog_ev (a b : Int) (n : Nat) (hl : n ≤ 1048577) : Ev (fun k => laws_heldLog.f k a b (seq3 1 n) 1) (1 + 3 * (n : Int)) := by
  unfold laws_heldLog.f
  exact Ev.bind (laws_heldEntryS_ev n hl 1 (by omega) (by omega)) (Ev.neg (by omega) (Ev.now _))
theorem laws_heldJournal_ev (p q s a b : Int) (n : Nat) (hl : n ≤ 1048577) : Ev (fun k => laws_heldJournal.f k p q s a b (seq3 1 n) 1) (1 + 3 * (n : Int)) := by
  unfold laws_heldJournal.f
  exact Ev.bind (laws_heldLog_ev a b n hl) (Ev.neg (by omega) (Ev.now _))
theorem FnExactReadJournal : laws_FnExactReadJournal.Pure := by
  intro n s hn hs
  apply Ev.rounds
  unfold laws_FnExactReadJournal.f
  by_cases h : (s.size : Int) > 1048576
  · exact Ev.pos h (Ev.now _)
  · have es := spec_ReadJournal_ev n s
    have ei := impl_ReadJournal_ev n s
    have hz := readJ_len n s
    generalize readJ n s = z at es ei hz
    have eq := laws_eqJournal_ev z.1 z.2.1 z.2.2.1 z.2.2.2.1 z.2.2.2.2.1 z.2.2.2.2.2.1 (by omega)
    have mk := laws_markJournal_ev z.1 z.2.1 z.2.2.1 z.2.2.2.1 z.2.2.2.2.1 z.2.2.2.2.2.1 (by omega)
    have held := laws_heldJournal_ev z.1 z.2.1 z.2.2.1 z.2.2.2.1 z.2.2.2.2.1 z.2.2.2.2.2.1.length (by omega)
    refine Ev.neg h (Ev.bind es (Ev.bind ei (Ev.bind eq (Ev.pos rfl (Ev.pos rfl ?_)))))
    rw [show (z.2.2.2.2.2.2.2 != z.2.2.2.2.2.2.2) = false from by simp]
    refine Ev.step (fun k => rfl) (Ev.bind mk (Ev.bind held (Ev.neg (by omega) (Ev.pos rfl (Ev.bind ei (Ev.bind eq (Ev.pos rfl (Ev.pos rfl ?_))))))))
    rw [show (z.2.2.2.2.2.2.2 != z.2.2.2.2.2.2.2) = false from by simp]
    exact Ev.step (fun k => rfl) (Ev.bind held (Ev.neg (by omega) (Ev.pos rfl (Ev.now _))))

end Go.Proofs.Ythbaoefbccdioaa.Pure
