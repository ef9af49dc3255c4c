/- The law FnExactUnframe answers true at every input; no condition. -/
import Derived.Test.YthddngmncmhkoaaPFnExactUnframex5
import Derived.Test.YthddngmncmhkoaaMath
namespace Go.Proofs.Ythddngmncmhkoaa.Pure
open Go.RowKit Go.Proofs.Ythddngmncmhkoaa.PFnExactUnframe Go.Proofs.YthddngmncmhkoaaW.PrintWords Go.Proofs.YthddngmncmhkoaaW.PrintLast Go.Proofs.YthddngmncmhkoaaW.PrintMore Go.Proofs.Ythddngmncmhkoaa.M
set_option linter.unusedVariables false
set_option linter.unusedSimpArgs false
set_option maxRecDepth 4000

theorem impl_within_is (a b c : Int) : impl_within.f a b c = some (inR a b c) := by
  unfold impl_within.f inR
  by_cases h : a ≥ b
  · rw [if_pos h]; congr 1; simp; omega
  · rw [if_neg h]; congr 1; simp; omega
theorem impl_VarText_l0 : ∀ (n : Nat) (acc : List Int), acc.length + n < 140737488355328 → Ev (fun k => impl_VarText.l0 k (n : Int) acc) (strOfNums (acc ++ varL n), true) := by
  intro n
  induction n using Nat.strongRecOn with
  | _ n ih =>
    intro acc ha
    by_cases h : 127 < n
    · refine Ev.step (f := fun k => impl_VarText.l0 k ((n / 128 : Nat) : Int) (acc ++ [((n % 128 + 128 : Nat) : Int)])) (fun k => ?_) ?_
      · simp only [impl_VarText.l0]
        rw [if_pos (by omega), if_pos (by omega), td (by omega), tm (by omega)]
        rw [w64 (x := (n : Int) / 128) (by omega) (by omega), w64 (x := (n : Int) % 128 + 128) (by omega) (by omega)]
        congr 3
        omega
      · refine (ih (n / 128) (by omega) _ (by simp; omega)).eq ?_
        rw [varL_big h, List.append_assoc]; rfl
    · refine Ev.step (f := fun k => some (strOfNums (acc ++ varL n), true)) (fun k => ?_) (Ev.now _)
      simp only [impl_VarText.l0]
      rw [if_neg (by omega), if_pos (by omega), varL_small h]
      congr 5
      omega
theorem impl_VarText_ev (n : Int) : Ev (fun k => impl_VarText.f k n) (varText n) := by
  unfold impl_VarText.f
  refine Ev.bind0 (impl_within_is _ _ _) ?_
  by_cases h : 0 ≤ n ∧ n ≤ 1000000000
  · refine Ev.pos (inR_iff.2 h) ?_
    have := impl_VarText_l0 n.toNat [] (by simp; omega)
    rw [Int.toNat_of_nonneg h.1] at this
    refine this.eq ?_
    rw [varText, if_pos h]; rfl
  · refine Ev.neg (fun e => h (inR_iff.1 e)) (Ev.is ?_)
    rw [varText, if_neg h]
theorem impl_SumMore_l1 {s : ByteArray} {i r : Int} : ∀ (d : Nat) (j x0 : Int), 0 ≤ j → j + d = 8 → Ev (fun k => impl_SumMore.l0 k (halves d x0) s (wrap64 (i + 1))) r → Ev (fun k => impl_SumMore.l1 k x0 s i j) r
  | 0, j, x0, h0, h, hk => by
    refine Ev.step (f := fun k => impl_SumMore.l0 k x0 s (wrap64 (i + 1))) (fun k => ?_) hk
    simp only [impl_SumMore.l1]; rw [if_neg (by omega)]
  | d + 1, j, x0, h0, h, hk => by
    refine Ev.step (f := fun k => impl_SumMore.l1 k (half x0) s i (j + 1)) (fun k => ?_) (impl_SumMore_l1 d (j + 1) (half x0) (by omega) (by omega) hk)
    simp only [impl_SumMore.l1]; rw [if_pos (by omega), w64 (x := j + 1) (by omega) (by omega)]
    unfold half
    split <;> rfl
theorem impl_SumMore_l0 (s : ByteArray) (hs : s.size ≤ 140737488351232) : ∀ (d i : Nat) (x0 : Int), i + d = s.size → Ev (fun k => impl_SumMore.l0 k x0 s i) (sumL x0 ((bytesOf s).drop i))
  | 0, i, x0, h => by
    refine Ev.step (f := fun k => some x0) (fun k => ?_) ((Ev.now _).eq ?_)
    · simp only [impl_SumMore.l0]; rw [if_neg (by omega)]
    · rw [List.drop_of_length_le (by rw [bytesOf_length]; omega)]; rfl
  | d + 1, i, x0, h => by
    refine Ev.step (f := fun k => impl_SumMore.l1 k (Go.bits .xor .u32 x0 (bt s i % 4294967296)) s i 0) (fun k => ?_) (impl_SumMore_l1 8 0 _ (by omega) (by omega) ?_)
    · simp only [impl_SumMore.l0]; rw [if_pos (by omega), if_pos (by omega)]
    · rw [w64 (x := (i : Int) + 1) (by omega) (by omega)]
      have := impl_SumMore_l0 s hs d (i + 1) (halves 8 (Go.bits .xor .u32 x0 (bt s i % 4294967296))) (by omega)
      rw [bytes_drop (by omega)]
      exact this
theorem impl_SumMore_ev (x : Int) (s : ByteArray) (hs : s.size ≤ 140737488351232) : Ev (fun k => impl_SumMore.f k x s) (sumL x (bytesOf s)) := by
  have := impl_SumMore_l0 s hs s.size 0 x (by omega)
  exact this
theorem impl_SumOf_ev (s : ByteArray) (hs : s.size ≤ 140737488351232) : Ev (fun k => impl_SumOf.f k s) (sumOf s) := by
  unfold impl_SumOf.f
  exact Ev.bind (impl_SumMore_ev _ s hs) (Ev.now _)
theorem impl_Frame_ev (s : ByteArray) (hs : s.size ≤ 140737488351232) : Ev (fun k => impl_Frame.f k s) (frame s) := by
  unfold impl_Frame.f frame
  refine Ev.bind0 (impl_within_is _ _ _) ?_
  by_cases h : 1 ≤ s.size ∧ s.size ≤ 9000
  · rw [if_pos h]
    refine Ev.pos (inR_iff.2 (by omega)) (Ev.bind (impl_VarText_ev (s.size : Int)) (Ev.bind (impl_SumOf_ev s hs) (Ev.bind0 (a := fourL (sumOf s)) rfl (Ev.is ?_))))
    have := vt_size5 s.size (by omega)
    rw [varText_ok (by omega) (by omega), Int.toNat_natCast]
    simp only
    show (if (vt s.size).size + (four (sumOf s)).size ≤ _ then (if (vt s.size ++ four (sumOf s)).size + s.size ≤ _ then some (vt s.size ++ four (sumOf s) ++ s, true) else none) else none) = _
    rw [if_pos (by rw [four_size]; omega), if_pos (by rw [size_append, four_size]; omega)]
  · rw [if_neg h]
    exact Ev.neg (fun e => h (by have := inR_iff.1 e; omega)) (Ev.now _)
theorem impl_ReadVar_l0 (s : ByteArray) (hs : s.size ≤ 140737488351232) (a : Nat) : ∀ (f i n : Nat), i + f = 5 → n < 128 ^ i → a + i ≤ s.size →
    Ev (fun k => impl_ReadVar.l0 k s (a : Int) (n : Int) (i : Int))
      (match rvL f i n ((bytesOf s).drop (a + i)) with | some (n, m) => ((n : Int), (a : Int) + m, true) | none => (0, 0, false))
  | 0, i, n, hi, hn, h1 => by
    refine Ev.step (f := fun k => impl_ReadVar.j1 k s (a : Int) (n : Int) (i : Int) false) (fun k => ?_) ?_
    · simp only [impl_ReadVar.l0]
      rw [if_neg (by omega)]
    · refine Ev.step (f := fun _ => some (0, 0, false)) (fun k => ?_) (Ev.now _)
      simp only [impl_ReadVar.j1]; rfl
  | f + 1, i, n, hi, hn, h1 => by
    by_cases hlt : a + i < s.size
    · have hr := bt_range s ((a + i : Nat) : Int)
      have hp := pow_bound (i := i) (by omega)
      have hm := mul_bound (bt s ((a + i : Nat) : Int)).toNat (128 ^ i) hp.1
      have ei : (a : Int) + (i : Int) = ((a + i : Nat) : Int) := by omega
      rw [bytes_drop hlt]
      refine Ev.step (f := fun k => impl_ReadVar.j1 k s (a : Int) (n : Int) (i : Int) true) (fun k => ?_) ?_
      · simp only [impl_ReadVar.l0]
        rw [if_pos (by omega), w64 (x := (a : Int) + i) (by omega) (by omega)]
        rw [show decide ((a : Int) + i < (s.size : Int)) = true from by simp; omega]
      have hb : wrap64 (bt s ((a + i : Nat) : Int)) = bt s ((a + i : Nat) : Int) := w64 (by omega) (by omega)
      have e0 : shl .i64 (Int.tmod (bt s ((a + i : Nat) : Int)) 128) (7 * (i : Int)) = (((bt s ((a + i : Nat) : Int)).toNat % 128 * 128 ^ i : Nat) : Int) := by
        unfold shl
        rw [tm (by omega), i64_w, show (7 * (i : Int)).toNat = 7 * i from by omega, show min (7 * i) IntKind.i64.bits = 7 * i from by simp [IntKind.bits]; omega]
        have e7 : (2 : Int) ^ (7 * i) = ((128 ^ i : Nat) : Int) := by
          rw [show (128 : Nat) = 2 ^ 7 from rfl, ← Nat.pow_mul]; simp
        rw [e7, Int.natCast_mul, w64]
        · congr 1; omega
        · have := Int.mul_nonneg (a := bt s ((a + i : Nat) : Int) % 128) (b := ((128 ^ i : Nat) : Int)) (by omega) (by omega)
          omega
        · have e8 : bt s ((a + i : Nat) : Int) % 128 = (((bt s ((a + i : Nat) : Int)).toNat % 128 : Nat) : Int) := by omega
          rw [e8, ← Int.natCast_mul]; omega
      generalize hc : (bt s ((a + i : Nat) : Int)).toNat % 128 * 128 ^ i = q at *
      have e2 : wrap64 ((n : Int) + shl .i64 (Int.tmod (wrap64 (bt s ((a + i : Nat) : Int))) 128) (wrap64 (7 * (i : Int)))) = ((n + q : Nat) : Int) := by
        rw [hb, w64 (x := 7 * (i : Int)) (by omega) (by omega), e0, w64 (by omega) (by omega)]; omega
      by_cases hb' : bt s ((a + i : Nat) : Int) < 128
      · simp only [rvL, if_pos hb', hc]
        refine Ev.step (f := fun k => (impl_VarText.f k ((n + q : Nat) : Int)).bind fun bt => (if bt.2 = true then (if (bt.1.size : Int) = (i : Int) + 1 then some (((n + q : Nat) : Int), ((a + i + 1 : Nat) : Int), true) else some (0, 0, false)) else some (0, 0, false))) (fun k => ?_) ?_
        · simp only [impl_ReadVar.j1, if_true]
          rw [w64 (x := (a : Int) + i) (by omega) (by omega), ei, if_pos (by omega), if_pos (by omega), if_pos (by rw [w64 (by omega) (by omega)]; omega), hb, if_pos hb']
          rw [hb] at e2
          rw [e2, w64 (x := (i : Int) + 1) (by omega) (by omega), w64 (x := ((a + i : Nat) : Int) + 1) (by omega) (by omega)]
          rfl
        · refine Ev.bind (impl_VarText_ev _) (Ev.is ?_)
          by_cases hM : n + q ≤ 1000000000
          · rw [varText_ok (by omega) (by omega), Int.toNat_natCast]
            simp only [if_true, vt_size]
            by_cases hq : (varL (n + q)).length = i + 1
            · rw [if_pos (by omega), if_pos ⟨hM, hq⟩]
              simp only [Option.some.injEq, Prod.mk.injEq, and_true, true_and]; omega
            · rw [if_neg (by omega), if_neg (fun e => hq e.2)]
          · rw [varText_no (by omega), if_neg (c := _ ∧ _) (fun e => hM e.1)]; simp
      · simp only [rvL, if_neg hb', hc]
        refine Ev.step (f := fun k => impl_ReadVar.l0 k s (a : Int) ((n + q : Nat) : Int) ((i + 1 : Nat) : Int)) (fun k => ?_) (impl_ReadVar_l0 s hs a f (i + 1) (n + q) (by omega) ?_ (by omega))
        · simp only [impl_ReadVar.j1, if_true]
          rw [w64 (x := (a : Int) + i) (by omega) (by omega), ei, if_pos (by omega), if_pos (by omega), if_pos (by rw [w64 (by omega) (by omega)]; omega), hb, if_neg hb']
          rw [hb] at e2
          rw [e2, w64 (x := (i : Int) + 1) (by omega) (by omega)]
          rfl
        · rw [Nat.pow_succ, ← hc]
          have h2 : (bt s ((a + i : Nat) : Int)).toNat % 128 ≤ 127 := by omega
          have h3 := Nat.mul_le_mul_right (128 ^ i) h2
          omega
    · rw [List.drop_of_length_le (by rw [bytesOf_length]; omega)]
      refine Ev.step (f := fun k => impl_ReadVar.j1 k s (a : Int) (n : Int) (i : Int) false) (fun k => ?_) ?_
      · simp only [impl_ReadVar.l0]
        rw [if_pos (by omega), w64 (x := (a : Int) + i) (by omega) (by omega)]
        rw [show decide ((a : Int) + i < (s.size : Int)) = false from by simp; omega]
      · refine Ev.step (f := fun _ => some (0, 0, false)) (fun k => ?_) (Ev.now _)
        simp only [impl_ReadVar.j1]; rfl
theorem impl_ReadVar_ev (s : ByteArray) (hs : s.size ≤ 140737488351232) (a : Int) : Ev (fun k => impl_ReadVar.f k s a) (readVar s a) := by
  unfold impl_ReadVar.f readVar
  refine Ev.bind0 (impl_within_is _ _ _) ?_
  by_cases h : 0 ≤ a ∧ a ≤ (s.size : Int)
  · rw [if_pos h]
    refine Ev.pos (inR_iff.2 h) ?_
    have := impl_ReadVar_l0 s hs a.toNat 5 0 0 rfl (by simp) (by omega)
    simp only [Nat.add_zero, Int.toNat_of_nonneg h.1] at this
    exact this
  · rw [if_neg h]
    exact Ev.neg (fun e => h (inR_iff.1 e)) (Ev.now _)
theorem impl_Unframe_l0 (s : ByteArray) (hs : s.size ≤ 20000) : ∀ (f a : Nat) (acc : List ByteArray), a + f = s.size → acc.length ≤ a →
    Ev (fun k => impl_Unframe.l0 k s acc (a : Int)) ((unf (f + 1) s acc a).1, ((unf (f + 1) s acc a).2 : Int)) := by
  intro f
  induction f using Nat.strongRecOn with
  | _ f ih =>
    intro a acc hf ha
    refine Ev.step (fun k => by simp only [impl_Unframe.l0]; rfl) (Ev.bind (impl_ReadVar_ev s (by omega) (a : Int)) ?_)
    simp only [unf, nextF]
    rcases readVar_cases s (a : Int) with h | ⟨n, m, h, hn, hm, _, hb, hv⟩
    · rw [h]
      have hv : rvar ((bytesOf s).drop a) = none := by
        unfold readVar at h
        rw [if_pos (by omega), Int.toNat_natCast] at h
        cases e : rvar ((bytesOf s).drop a) with
        | none => rfl
        | some p => obtain ⟨n, m⟩ := p; rw [e] at h; simp at h
      rw [hv]
      refine Ev.neg (by simp) (Ev.step (fun k => rfl) (Ev.now _))
    · rw [h]
      rw [Int.toNat_natCast] at hv
      rw [hv]
      refine Ev.pos rfl ?_
      simp only
      rw [w64 (x := (s.size : Int) - ((a : Int) + (m : Int))) (by omega) (by omega), w64 (x := (s.size : Int) - ((a : Int) + (m : Int)) - 4) (by omega) (by omega)]
      by_cases h1 : n + (a + m + 4) ≤ s.size
      · rw [decide_eq_false (p := (n : Int) > (s.size : Int) - ((a : Int) + (m : Int)) - 4) (by omega), if_pos h1]
        refine Ev.step (fun k => by simp only [impl_Unframe.j1, Bool.false_eq_true, if_false]; rfl) ?_
        rw [w64 (x := (a : Int) + (m : Int) + 4) (by omega) (by omega), w64 (x := (a : Int) + (m : Int) + 4 + (n : Int)) (by omega) (by omega)]
        have e1 : ((a : Int) + (m : Int) + 4).toNat = a + m + 4 := by omega
        have e2 : ((a : Int) + (m : Int) + 4 + (n : Int)).toNat = a + m + 4 + n := by omega
        rw [e1, e2]
        have hz := size_extract s (a + m + 4) (a + m + 4 + n) (by omega) (by omega)
        refine Ev.pos (by omega) (Ev.pos (by omega) (Ev.pos (by omega) (Ev.bind (impl_Frame_ev _ (by omega)) ?_)))
        by_cases h2 : (frame (s.extract (a + m + 4) (a + m + 4 + n))).2 = true
        · refine Ev.pos h2 (Ev.pos (by omega) (Ev.pos (by omega) ?_))
          rw [Int.toNat_natCast]
          by_cases h3 : (frame (s.extract (a + m + 4) (a + m + 4 + n))).1 = s.extract a (a + m + 4 + n)
          · refine Ev.pos ((toList_iff _ _).2 h3) (Ev.pos (by omega) ?_)
            rw [if_pos ⟨h2, h3⟩]
            have e3 : (a : Int) + (m : Int) + 4 + (n : Int) = ((a + m + 4 + n : Nat) : Int) := by omega
            rw [e3]
            refine (ih (s.size - (a + m + 4 + n)) (by omega) (a + m + 4 + n) (acc ++ [s.extract (a + m + 4) (a + m + 4 + n)]) (by omega) (by simp; omega)).eq ?_
            rw [unf_enough s (s.size - (a + m + 4 + n) + 1) f _ _ (by omega) (by omega) (by omega)]
          · refine Ev.neg (fun e => h3 ((toList_iff _ _).1 e)) ((Ev.now _).eq ?_)
            rw [if_neg (fun e => h3 e.2)]
        · refine Ev.neg h2 ((Ev.now _).eq ?_)
          rw [if_neg (fun e => h2 e.1)]
      · rw [decide_eq_true (p := (n : Int) > (s.size : Int) - ((a : Int) + (m : Int)) - 4) (by omega), if_neg h1]
        exact Ev.step (fun k => rfl) (Ev.now _)
theorem impl_Unframe_ev (s : ByteArray) : Ev (fun k => impl_Unframe.f k s) ((unframe s).1, ((unframe s).2 : Int)) := by
  unfold impl_Unframe.f unframe
  by_cases h : s.size ≤ 20000
  · rw [if_pos h]
    refine Ev.neg (by omega) ((impl_Unframe_l0 s h s.size 0 [] (by omega) (by simp)).eq ?_)
    rw [unf_enough s (s.size + 1) s.size _ _ (by omega) (by omega) (by omega)]
  · rw [if_neg h]; exact Ev.pos (by omega) (Ev.now _)
theorem spec_l01In_is (a b c : Int) : spec_l01In.f a b c = some (inR a b c) := by
  unfold spec_l01In.f inR
  by_cases h : a ≥ b
  · rw [if_pos h]; congr 1; simp; omega
  · rw [if_neg h]; congr 1; simp; omega
theorem spec_l01Var_l0 : ∀ (n : Nat) (acc : List Int), acc.length + n < 140737488355328 → Ev (fun k => spec_l01Var.l0 k (n : Int) acc) (strOfNums (acc ++ varL n)) := by
  intro n
  induction n using Nat.strongRecOn with
  | _ n ih =>
    intro acc ha
    by_cases h : 127 < n
    · refine Ev.step (f := fun k => spec_l01Var.l0 k ((n / 128 : Nat) : Int) (acc ++ [((n % 128 + 128 : Nat) : Int)])) (fun k => ?_) ?_
      · simp only [spec_l01Var.l0]
        rw [if_pos (by omega), if_pos (by omega), td (by omega), tm (by omega)]
        rw [w64 (x := (n : Int) / 128) (by omega) (by omega), w64 (x := (n : Int) % 128 + 128) (by omega) (by omega)]
        congr 3
        omega
      · refine (ih (n / 128) (by omega) _ (by simp; omega)).eq ?_
        rw [varL_big h, List.append_assoc]; rfl
    · refine Ev.step (f := fun k => some (strOfNums (acc ++ varL n))) (fun k => ?_) (Ev.now _)
      simp only [spec_l01Var.l0]
      rw [if_neg (by omega), if_pos (by omega), varL_small h]
      congr 4
      omega
theorem spec_l01Var_ev (n : Nat) (h : n < 140737488355328) : Ev (fun k => spec_l01Var.f k (n : Int)) (vt n) := by
  have := spec_l01Var_l0 n [] (by simpa using h)
  exact this
theorem spec_l01Var_evi (n : Int) (h0 : 0 ≤ n) (h : n < 140737488355328) : Ev (fun k => spec_l01Var.f k n) (vt n.toNat) := by
  have := spec_l01Var_ev n.toNat (by omega)
  rwa [Int.toNat_of_nonneg h0] at this
theorem spec_ReadVar_l0 (s : ByteArray) (hs : s.size ≤ 140737488351232) (a : Nat) : ∀ (f i n : Nat), i + f = 5 → Led s a i n →
    Ev (fun k => spec_ReadVar.l0 k s (a : Int) (n : Int) ((128 ^ i : Nat) : Int) ((a + i : Nat) : Int))
      (match rvL f i n ((bytesOf s).drop (a + i)) with | some (n, m) => ((n : Int), (a : Int) + m, true) | none => (0, 0, false))
  | 0, i, n, hi, hl => by
    have h1 := hl.1
    refine Ev.step (f := fun k => spec_ReadVar.j1 k s (a : Int) (n : Int) ((128 ^ i : Nat) : Int) ((a + i : Nat) : Int) false) (fun k => ?_) ?_
    · simp only [spec_ReadVar.l0]
      rw [w64 (x := (a : Int) + 5) (by omega) (by omega)]
      split
      · rw [show decide (((a + i : Nat) : Int) < (a : Int) + 5) = false from by simp; omega]
      · rfl
    · refine Ev.step (f := fun _ => some (0, 0, false)) (fun k => ?_) (Ev.now _)
      simp only [spec_ReadVar.j1]; rfl
  | f + 1, i, n, hi, hl => by
    have h1 := hl.1
    by_cases hlt : a + i < s.size
    · have hr := bt_range s ((a + i : Nat) : Int)
      have hp := pow_bound (i := i) (by omega)
      have hm := mul_bound (bt s ((a + i : Nat) : Int)).toNat (128 ^ i) hp.1
      have hn := hl.lt
      rw [bytes_drop hlt]
      refine Ev.step (f := fun k => spec_ReadVar.j1 k s (a : Int) (n : Int) ((128 ^ i : Nat) : Int) ((a + i : Nat) : Int) true) (fun k => ?_) ?_
      · simp only [spec_ReadVar.l0]
        rw [w64 (x := (a : Int) + 5) (by omega) (by omega), if_pos (by omega)]
        rw [show decide (((a + i : Nat) : Int) < (a : Int) + 5) = true from by simp; omega]
      have hb : wrap64 (bt s ((a + i : Nat) : Int)) = bt s ((a + i : Nat) : Int) := w64 (by omega) (by omega)
      have e1 : Int.tmod (bt s ((a + i : Nat) : Int)) 128 * ((128 ^ i : Nat) : Int) = (((bt s ((a + i : Nat) : Int)).toNat % 128 * 128 ^ i : Nat) : Int) := by
        rw [tm (by omega), Int.natCast_mul]; congr 1; omega
      generalize hc : (bt s ((a + i : Nat) : Int)).toNat % 128 * 128 ^ i = q at *
      have e2 : wrap64 ((n : Int) + wrap64 (Int.tmod (wrap64 (bt s ((a + i : Nat) : Int))) 128 * ((128 ^ i : Nat) : Int))) = ((n + q : Nat) : Int) := by
        rw [hb, e1, w64 (x := (q : Int)) (by omega) (by omega), w64 (by omega) (by omega)]; omega
      by_cases hb : bt s ((a + i : Nat) : Int) < 128
      · have hsame := hl.same hlt hb
        rw [hc] at hsame
        simp only [rvL, if_pos hb, hc]
        by_cases hM : n + q ≤ 1000000000
        · refine Ev.step (f := fun k => (spec_l01Var.f k ((n + q : Nat) : Int)).bind fun t => (if t.toList = (s.extract a (a + i + 1)).toList then some (((n + q : Nat) : Int), ((a + i + 1 : Nat) : Int), true) else some (0, 0, false))) (fun k => ?_) ?_
          · simp only [spec_ReadVar.j1, if_true]
            rw [if_pos (by omega), if_pos (by omega), if_pos hb, e2, if_neg (by omega)]
            rw [w64 (x := ((a + i : Nat) : Int) + 1) (by omega) (by omega)]
            simp only [if_pos (show (0 : Int) ≤ (a : Int) from by omega), if_pos (show (a : Int) ≤ ((a + i : Nat) : Int) + 1 from by omega), if_pos (show ((a + i : Nat) : Int) + 1 ≤ (s.size : Int) from by omega)]
            rw [show ((a : Int)).toNat = a from by omega, show (((a + i : Nat) : Int) + 1).toNat = a + i + 1 from by omega, show ((a + i : Nat) : Int) + 1 = ((a + i + 1 : Nat) : Int) from by omega]
          · refine Ev.bind (spec_l01Var_ev (n + q) (by omega)) (Ev.is ?_)
            by_cases hq : (varL (n + q)).length = i + 1
            · rw [if_pos (hsame.2 hq), if_pos ⟨hM, hq⟩]
              simp only [Option.some.injEq, Prod.mk.injEq, and_true, true_and]; omega
            · rw [if_neg (fun e => hq (hsame.1 e)), if_neg (fun e => hq e.2)]
        · refine Ev.step (f := fun k => some (0, 0, false)) (fun k => ?_) ((Ev.now _).eq ?_)
          · simp only [spec_ReadVar.j1, if_true]
            rw [if_pos (by omega), if_pos (by omega), if_pos hb, e2, if_pos (by omega)]
          · rw [if_neg (fun e => hM e.1)]
      · simp only [rvL, if_neg hb, hc]
        have hnext := hl.next hlt (by omega)
        rw [hc] at hnext
        have e3 : wrap64 (((128 ^ i : Nat) : Int) * 128) = ((128 ^ (i + 1) : Nat) : Int) := by
          rw [w64 (by omega) (by omega), Nat.pow_succ, Int.natCast_mul]; rfl
        refine Ev.step (f := fun k => spec_ReadVar.l0 k s (a : Int) ((n + q : Nat) : Int) ((128 ^ (i + 1) : Nat) : Int) ((a + (i + 1) : Nat) : Int)) (fun k => ?_) (spec_ReadVar_l0 s hs a f (i + 1) (n + q) (by omega) hnext)
        simp only [spec_ReadVar.j1, if_true]
        rw [if_pos (by omega), if_pos (by omega), if_neg hb, e2, e3]
        rw [w64 (x := ((a + i : Nat) : Int) + 1) (by omega) (by omega), show ((a + i : Nat) : Int) + 1 = ((a + (i + 1) : Nat) : Int) from by omega]
    · rw [List.drop_of_length_le (by rw [bytesOf_length]; omega)]
      refine Ev.step (f := fun k => spec_ReadVar.j1 k s (a : Int) (n : Int) ((128 ^ i : Nat) : Int) ((a + i : Nat) : Int) false) (fun k => ?_) ?_
      · simp only [spec_ReadVar.l0]
        rw [if_neg (by omega)]
      · refine Ev.step (f := fun _ => some (0, 0, false)) (fun k => ?_) (Ev.now _)
        simp only [spec_ReadVar.j1]; rfl
theorem spec_ReadVar_ev (s : ByteArray) (hs : s.size ≤ 140737488351232) (a : Int) : Ev (fun k => spec_ReadVar.f k s a) (readVar s a) := by
  unfold spec_ReadVar.f readVar
  refine Ev.bind0 (spec_l01In_is _ _ _) ?_
  by_cases h : 0 ≤ a ∧ a ≤ (s.size : Int)
  · rw [if_pos h]
    refine Ev.pos (inR_iff.2 h) ?_
    have := spec_ReadVar_l0 s hs a.toNat 5 0 0 rfl (Led.start s a.toNat (by omega))
    simp only [Nat.add_zero, Int.toNat_of_nonneg h.1] at this
    exact this
  · rw [if_neg h]
    exact Ev.neg (fun e => h (inR_iff.1 e)) (Ev.now _)
theorem spec_l02Four_is (x : Int) : spec_l02Four.f x = some (four x) := rfl
theorem spec_SumMore_l1 {s : ByteArray} {i r : Int} : ∀ (d : Nat) (j x0 : Int), 0 ≤ j → j + d = 8 → Ev (fun k => spec_SumMore.l0 k (halves d x0) s (wrap64 (i + 1))) r → Ev (fun k => spec_SumMore.l1 k x0 s i j) r
  | 0, j, x0, h0, h, hk => by
    refine Ev.step (f := fun k => spec_SumMore.l0 k x0 s (wrap64 (i + 1))) (fun k => ?_) hk
    simp only [spec_SumMore.l1]; rw [if_neg (by omega)]
  | d + 1, j, x0, h0, h, hk => by
    refine Ev.step (f := fun k => spec_SumMore.l1 k (half x0) s i (j + 1)) (fun k => ?_) (spec_SumMore_l1 d (j + 1) (half x0) (by omega) (by omega) hk)
    simp only [spec_SumMore.l1]; rw [if_pos (by omega), w64 (x := j + 1) (by omega) (by omega)]
    unfold half
    split <;> rfl
theorem spec_SumMore_l0 (s : ByteArray) (hs : s.size ≤ 140737488351232) : ∀ (d i : Nat) (x0 : Int), i + d = s.size → Ev (fun k => spec_SumMore.l0 k x0 s i) (sumL x0 ((bytesOf s).drop i))
  | 0, i, x0, h => by
    refine Ev.step (f := fun k => some x0) (fun k => ?_) ((Ev.now _).eq ?_)
    · simp only [spec_SumMore.l0]; rw [if_neg (by omega)]
    · rw [List.drop_of_length_le (by rw [bytesOf_length]; omega)]; rfl
  | d + 1, i, x0, h => by
    refine Ev.step (f := fun k => spec_SumMore.l1 k (Go.bits .xor .u32 x0 (bt s i % 4294967296)) s i 0) (fun k => ?_) (spec_SumMore_l1 8 0 _ (by omega) (by omega) ?_)
    · simp only [spec_SumMore.l0]; rw [if_pos (by omega), if_pos (by omega)]
    · rw [w64 (x := (i : Int) + 1) (by omega) (by omega)]
      have := spec_SumMore_l0 s hs d (i + 1) (halves 8 (Go.bits .xor .u32 x0 (bt s i % 4294967296))) (by omega)
      rw [bytes_drop (by omega)]
      exact this
theorem spec_SumMore_ev (x : Int) (s : ByteArray) (hs : s.size ≤ 140737488351232) : Ev (fun k => spec_SumMore.f k x s) (sumL x (bytesOf s)) := by
  have := spec_SumMore_l0 s hs s.size 0 x (by omega)
  exact this
theorem spec_SumOf_ev (s : ByteArray) (hs : s.size ≤ 140737488351232) : Ev (fun k => spec_SumOf.f k s) (sumOf s) := by
  unfold spec_SumOf.f
  exact Ev.bind (spec_SumMore_ev _ s hs) (Ev.now _)
theorem spec_Frame_ev (s : ByteArray) (hs : s.size ≤ 140737488351232) : Ev (fun k => spec_Frame.f k s) (frame s) := by
  unfold spec_Frame.f frame
  refine Ev.bind0 (spec_l01In_is _ _ _) ?_
  by_cases h : 1 ≤ s.size ∧ s.size ≤ 9000
  · rw [if_pos h]
    refine Ev.pos (inR_iff.2 (by omega)) (Ev.bind (spec_l01Var_ev s.size (by omega)) (Ev.bind (spec_SumOf_ev s hs) (Ev.bind0 (spec_l02Four_is _) (Ev.is ?_))))
    have := vt_size5 s.size (by omega)
    rw [if_pos (by rw [four_size]; omega), if_pos (by rw [size_append, four_size]; omega)]
  · rw [if_neg h]
    exact Ev.neg (fun e => h (by have := inR_iff.1 e; omega)) (Ev.now _)
theorem spec_Unframe_l0 (s : ByteArray) (hs : s.size ≤ 20000) : ∀ (f a : Nat) (acc : List ByteArray), a + f = s.size → acc.length ≤ a →
    Ev (fun k => spec_Unframe.l0 k s acc (a : Int)) ((unf f s acc a).1, ((unf f s acc a).2 : Int)) := by
  intro f
  induction f using Nat.strongRecOn with
  | _ f ih =>
    intro a acc hf ha
    cases f with
    | zero =>
      refine Ev.step (f := fun k => some (acc, (a : Int))) (fun k => ?_) (Ev.now _)
      simp only [spec_Unframe.l0]; rw [if_neg (by omega)]
    | succ f =>
      refine Ev.step (fun k => by simp only [spec_Unframe.l0]; rw [if_pos (by omega)]) (Ev.bind (spec_ReadVar_ev s (by omega) (a : Int)) ?_)
      simp only [unf, nextF]
      rcases readVar_cases s (a : Int) with h | ⟨n, m, h, hn, hm, _, hb, hv⟩
      · rw [h]
        have hv : rvar ((bytesOf s).drop a) = none := by
          unfold readVar at h
          rw [if_pos (by omega), Int.toNat_natCast] at h
          cases e : rvar ((bytesOf s).drop a) with
          | none => rfl
          | some p => obtain ⟨n, m⟩ := p; rw [e] at h; simp at h
        rw [hv]
        refine Ev.neg (by simp) (Ev.step (fun k => rfl) (Ev.now _))
      · rw [h]
        rw [Int.toNat_natCast] at hv
        rw [hv]
        refine Ev.pos rfl ?_
        simp only
        rw [w64 (x := (s.size : Int) - ((a : Int) + (m : Int))) (by omega) (by omega), w64 (x := (s.size : Int) - ((a : Int) + (m : Int)) - 4) (by omega) (by omega)]
        by_cases h1 : n + (a + m + 4) ≤ s.size
        · rw [decide_eq_false (p := (n : Int) > (s.size : Int) - ((a : Int) + (m : Int)) - 4) (by omega), if_pos h1]
          refine Ev.step (fun k => by simp only [spec_Unframe.j1, Bool.false_eq_true, if_false]; rfl) ?_
          rw [w64 (x := (a : Int) + (m : Int) + 4) (by omega) (by omega), w64 (x := (a : Int) + (m : Int) + 4 + (n : Int)) (by omega) (by omega)]
          have e1 : ((a : Int) + (m : Int) + 4).toNat = a + m + 4 := by omega
          have e2 : ((a : Int) + (m : Int) + 4 + (n : Int)).toNat = a + m + 4 + n := by omega
          rw [e1, e2]
          have hz := size_extract s (a + m + 4) (a + m + 4 + n) (by omega) (by omega)
          refine Ev.pos (by omega) (Ev.pos (by omega) (Ev.pos (by omega) (Ev.bind (spec_Frame_ev _ (by omega)) ?_)))
          by_cases h2 : (frame (s.extract (a + m + 4) (a + m + 4 + n))).2 = true
          · refine Ev.pos h2 (Ev.pos (by omega) (Ev.pos (by omega) ?_))
            rw [Int.toNat_natCast]
            by_cases h3 : (frame (s.extract (a + m + 4) (a + m + 4 + n))).1 = s.extract a (a + m + 4 + n)
            · refine Ev.pos ((toList_iff _ _).2 h3) (Ev.pos (by omega) ?_)
              rw [if_pos ⟨h2, h3⟩]
              have e3 : (a : Int) + (m : Int) + 4 + (n : Int) = ((a + m + 4 + n : Nat) : Int) := by omega
              rw [e3]
              refine (ih (s.size - (a + m + 4 + n)) (by omega) (a + m + 4 + n) (acc ++ [s.extract (a + m + 4) (a + m + 4 + n)]) (by omega) (by simp; omega)).eq ?_
              rw [unf_enough s (s.size - (a + m + 4 + n)) f _ _ (by omega) (by omega) (by omega)]
            · refine Ev.neg (fun e => h3 ((toList_iff _ _).1 e)) ((Ev.now _).eq ?_)
              rw [if_neg (fun e => h3 e.2)]
          · refine Ev.neg h2 ((Ev.now _).eq ?_)
            rw [if_neg (fun e => h2 e.1)]
        · rw [decide_eq_true (p := (n : Int) > (s.size : Int) - ((a : Int) + (m : Int)) - 4) (by omega), if_neg h1]
          exact Ev.step (fun k => rfl) (Ev.now _)
theorem spec_Unframe_ev (s : ByteArray) : Ev (fun k => spec_Unframe.f k s) ((unframe s).1, ((unframe s).2 : Int)) := by
  unfold spec_Unframe.f unframe
  refine Ev.bind0 rfl ?_
  by_cases h : s.size ≤ 20000
  · rw [if_pos h]; exact Ev.neg (by omega) (spec_Unframe_l0 s h s.size 0 [] (by omega) (by simp))
  · rw [if_neg h]; exact Ev.pos (by omega) (Ev.now _)
theorem laws_eqStringS_l0 (l : List ByteArray) (hl : l.length ≤ 1048577) : ∀ (d i : Nat), i + d = l.length → Ev (fun k => laws_eqStringS.l0 k l l (i : Int)) true
  | 0, i, h => by
    refine Ev.step (f := fun k => some true) (fun k => ?_) (Ev.now _)
    simp only [laws_eqStringS.l0]; rw [if_neg (by omega)]
  | d + 1, i, h => by
    refine Ev.step (f := fun k => laws_eqStringS.l0 k l l ((i + 1 : Nat) : Int)) (fun k => ?_) (laws_eqStringS_l0 l hl d (i + 1) (by omega))
    simp only [laws_eqStringS.l0]
    rw [if_pos (by omega), if_pos (by omega), if_pos (by omega), if_true, w64 (x := (i : Int) + 1) (by omega) (by omega)]; rfl
theorem laws_eqStringS_ev (l : List ByteArray) (hl : l.length ≤ 1048577) : Ev (fun k => laws_eqStringS.f k l l) true := by
  unfold laws_eqStringS.f
  exact Ev.pos rfl (laws_eqStringS_l0 l hl l.length 0 (by omega))
theorem laws_markText_l0 : ∀ (n : Nat) (acc : ByteArray), n + acc.size ≤ 1000000000000000 → Ev (fun k => laws_markText.l0 k (n : Int) acc) ((⟨#[109]⟩ : ByteArray) ++ mtD n acc) := by
  intro n
  induction n using Nat.strongRecOn with
  | _ n ih =>
    intro acc ha
    by_cases h : 0 < n
    · have e1 : (wrap64 (48 + Int.tmod (n : Int) 10)) % 256 = ((48 + n % 10 : Nat) : Int) := by
        rw [tm (by omega), w64 (by omega) (by omega)]; omega
      have e2 : wrap64 (Int.tdiv (n : Int) 10) = ((n / 10 : Nat) : Int) := by rw [td (by omega), w64 (by omega) (by omega)]; omega
      have hsz : (strOfNums [((48 + n % 10 : Nat) : Int)]).size = 1 := str_size _
      refine Ev.step (f := fun k => laws_markText.l0 k ((n / 10 : Nat) : Int) (strOfNums [((48 + n % 10 : Nat) : Int)] ++ acc)) (fun k => ?_) ((ih (n / 10) (by omega) _ (by rw [size_append, hsz]; omega)).eq ?_)
      · simp only [laws_markText.l0]
        rw [if_pos (by omega), Option.bind_some, e1, e2, if_pos (by rw [hsz]; omega)]
      · rw [mtD.eq_def n acc, if_pos h]
    · obtain rfl : n = 0 := by omega
      refine Ev.step (f := fun k => some ((⟨#[109]⟩ : ByteArray) ++ acc)) (fun k => ?_) ((Ev.now _).eq ?_)
      · simp only [laws_markText.l0]; rw [if_neg (by omega), if_pos (by omega)]
      · rw [mtD.eq_def 0 acc, if_neg (by omega)]
theorem laws_markText_ev (n : Int) (h : n ≤ 1000000000000000) : Ev (fun k => laws_markText.f k n) (mkT n) := by
  unfold laws_markText.f mkT
  by_cases h0 : n ≤ 0
  · rw [if_pos h0]; exact Ev.pos h0 (Ev.now _)
  · rw [if_neg h0]
    have := laws_markText_l0 n.toNat ⟨#[]⟩ (by show n.toNat + 0 ≤ _; omega)
    rw [Int.toNat_of_nonneg (by omega)] at this
    exact Ev.neg h0 this
theorem laws_markStringS_l0 (l : List ByteArray) (hl : l.length ≤ 1048577) (m : Int) (h0 : 0 ≤ m) (hm : m ≤ 100000000000000) : ∀ (d i : Nat), i + d = l.length →
    Ev (fun k => laws_markStringS.l0 k (((seqI m l.length).map mkT).take i ++ l.drop i) (m + i) (i : Int)) (m + l.length, (seqI m l.length).map mkT)
  | 0, i, h => by
    obtain rfl : i = l.length := by omega
    have e : ((seqI m l.length).map mkT).take l.length ++ l.drop l.length = (seqI m l.length).map mkT := by rw [List.drop_length, List.append_nil, List.take_of_length_le (by rw [List.length_map, seqI_length]; omega)]
    rw [e]
    refine Ev.step (f := fun k => some (m + (l.length : Int), (seqI m l.length).map mkT)) (fun k => ?_) (Ev.now _)
    simp only [laws_markStringS.l0]; rw [if_neg (by rw [List.length_map, seqI_length]; omega)]
  | d + 1, i, h => by
    have hM : ((seqI m l.length).map mkT).length = l.length := by rw [List.length_map, seqI_length]
    have hL : (((seqI m l.length).map mkT).take i ++ l.drop i).length = l.length := by rw [List.length_append, List.length_take, List.length_drop, hM]; omega
    refine Ev.step (f := fun k => (laws_markText.f k (m + i)).bind fun t => laws_markStringS.l0 k ((((seqI m l.length).map mkT).take i ++ l.drop i).set i t) (m + ((i + 1 : Nat) : Int)) ((i + 1 : Nat) : Int)) (fun k => ?_) (Ev.bind (laws_markText_ev _ (by omega)) ((laws_markStringS_l0 l hl m h0 hm d (i + 1) (by omega)).congr' ?_))
    · simp only [laws_markStringS.l0]
      rw [if_pos (by rw [hL]; omega), w64 (x := (i : Int) + 1) (by omega) (by omega), w64 (x := m + (i : Int) + 1) (by omega) (by omega), Int.toNat_natCast]
      simp only [if_pos (show (0 : Int) ≤ (i : Int) from by omega)]
      have e : m + (i : Int) + 1 = m + ((i + 1 : Nat) : Int) := by omega
      rw [e]; rfl
    · intro k
      have e := mark_step ((seqI m l.length).map mkT) l i (by omega) hM
      rw [List.getElem_map, seqI_get] at e
      rw [e]
theorem laws_markStringS_ev (l : List ByteArray) (hl : l.length ≤ 1048577) (m : Int) (h0 : 0 ≤ m) (hm : m ≤ 100000000000000) : Ev (fun k => laws_markStringS.f k l m) (m + l.length, (seqI m l.length).map mkT) := by
  have := laws_markStringS_l0 l hl m h0 hm l.length 0 (by omega)
  show Ev (fun k => laws_markStringS.l0 k l m 0) _
  simpa using this
theorem laws_heldStringS_l0 (n : Nat) (hl : n ≤ 1048577) (m : Int) (h0 : 0 ≤ m) (hm : m ≤ 100000000000000) : ∀ (d i : Nat), i + d = n →
    Ev (fun k => laws_heldStringS.l0 k ((seqI m n).map mkT) (m + i) (i : Int)) (m + n)
  | 0, i, h => by
    obtain rfl : i = n := by omega
    refine Ev.step (f := fun k => some (m + (i : Int))) (fun k => ?_) (Ev.now _)
    simp only [laws_heldStringS.l0]; rw [if_neg (by rw [List.length_map, seqI_length]; omega)]
  | d + 1, i, h => by
    refine Ev.step (f := fun k => (laws_markText.f k (m + i)).bind fun t => if (mkT (m + i)).toList = t.toList then laws_heldStringS.l0 k ((seqI m n).map mkT) (m + ((i + 1 : Nat) : Int)) ((i + 1 : Nat) : Int) else some (-1)) (fun k => ?_) (Ev.bind (laws_markText_ev _ (by omega)) (Ev.pos rfl (laws_heldStringS_l0 n hl m h0 hm d (i + 1) (by omega))))
    simp only [laws_heldStringS.l0]
    rw [if_pos (by rw [List.length_map, seqI_length]; omega), if_pos (by omega), rdOf_nat _ _ i (by rw [List.length_map, seqI_length]; omega), List.getElem_map, seqI_get, w64 (x := (i : Int) + 1) (by omega) (by omega), w64 (x := m + (i : Int) + 1) (by omega) (by omega)]
    have e : m + (i : Int) + 1 = m + ((i + 1 : Nat) : Int) := by omega
    rw [e]; rfl
theorem laws_heldStringS_ev (n : Nat) (hl : n ≤ 1048577) (m : Int) (h0 : 0 ≤ m) (hm : m ≤ 100000000000000) : Ev (fun k => laws_heldStringS.f k ((seqI m n).map mkT) m) (m + n) := by
  have := laws_heldStringS_l0 n hl m h0 hm n 0 (by omega)
  show Ev (fun k => laws_heldStringS.l0 k ((seqI m n).map mkT) m 0) _
  simpa using this
theorem FnExactUnframe : laws_FnExactUnframe.Pure := by
  intro s hs
  apply Ev.rounds
  unfold laws_FnExactUnframe.f
  by_cases h : (s.size : Int) > 1048576
  · exact Ev.pos h (Ev.now _)
  · have hz := (unframe_length s).1
    refine Ev.neg h (Ev.bind (spec_Unframe_ev s) (Ev.bind (impl_Unframe_ev s) (Ev.bind (laws_eqStringS_ev (unframe s).1 (by omega)) (Ev.pos rfl ?_))))
    refine Ev.step (fun k => rfl) (Ev.neg (by simp) (Ev.bind (laws_markStringS_ev (unframe s).1 (by omega) 1 (by omega) (by omega)) (Ev.bind (laws_heldStringS_ev (unframe s).1.length (by omega) 1 (by omega) (by omega)) (Ev.neg (by omega) (Ev.pos rfl ?_)))))
    refine Ev.bind (impl_Unframe_ev s) (Ev.bind (laws_eqStringS_ev (unframe s).1 (by omega)) (Ev.pos rfl ?_))
    exact Ev.step (fun k => rfl) (Ev.neg (by simp) (Ev.bind (laws_heldStringS_ev (unframe s).1.length (by omega) 1 (by omega) (by omega)) (Ev.neg (by omega) (Ev.pos rfl (Ev.now _)))))

end Go.Proofs.Ythddngmncmhkoaa.Pure
