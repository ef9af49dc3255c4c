/- The law FnExactReadShort answers true at every input; no condition. -/
import Derived.Test.YtbdjdobockghhaaPFnExactReadShortx2
import Derived.Test.YtbdjdobockghhaaMath
namespace Go.Proofs.Ytbdjdobockghhaa.Pure
open Go.RowKit Go.Proofs.Ytbdjdobockghhaa.PFnExactReadShort Go.Proofs.YtbdjdobockghhaaW.PrintWords Go.Proofs.YtbdjdobockghhaaW.PrintLast Go.Proofs.Ytbdjdobockghhaa.M
set_option linter.unusedVariables false
set_option linter.unusedSimpArgs false
set_option maxRecDepth 4000

theorem spec_l01In_is (a b c : Int) : spec_l01In.f a b c = some (inR a b c) := by
  unfold spec_l01In.f inR
  by_cases h : a ≥ b
  · rw [if_pos h]; congr 1; simp; omega
  · rw [if_neg h]; congr 1; simp; omega
theorem spec_l01Var_l0 : ∀ (n : Nat) (acc : List Int), acc.length + n < 140737488355328 → Ev (fun k => spec_l01Var.l0 k (n : Int) acc) (strOfNums (acc ++ varL n)) := by
  intro n
  induction n using Nat.strongRecOn with
  | _ n ih =>
    intro acc ha
    by_cases h : 127 < n
    · refine Ev.step (f := fun k => spec_l01Var.l0 k ((n / 128 : Nat) : Int) (acc ++ [((n % 128 + 128 : Nat) : Int)])) (fun k => ?_) ?_
      · simp only [spec_l01Var.l0]
        rw [if_pos (by omega), if_pos (by omega), td (by omega), tm (by omega)]
        rw [w64 (x := (n : Int) / 128) (by omega) (by omega), w64 (x := (n : Int) % 128 + 128) (by omega) (by omega)]
        congr 3
        omega
      · refine (ih (n / 128) (by omega) _ (by simp; omega)).eq ?_
        rw [varL_big h, List.append_assoc]; rfl
    · refine Ev.step (f := fun k => some (strOfNums (acc ++ varL n))) (fun k => ?_) (Ev.now _)
      simp only [spec_l01Var.l0]
      rw [if_neg (by omega), if_pos (by omega), varL_small h]
      congr 4
      omega
theorem spec_l01Var_ev (n : Nat) (h : n < 140737488355328) : Ev (fun k => spec_l01Var.f k (n : Int)) (vt n) := by
  have := spec_l01Var_l0 n [] (by simpa using h)
  exact this
theorem spec_l01Var_evi (n : Int) (h0 : 0 ≤ n) (h : n < 140737488355328) : Ev (fun k => spec_l01Var.f k n) (vt n.toNat) := by
  have := spec_l01Var_ev n.toNat (by omega)
  rwa [Int.toNat_of_nonneg h0] at this
theorem spec_ReadVar_l0 (s : ByteArray) (hs : s.size ≤ 140737488351232) (a : Nat) : ∀ (f i n : Nat), i + f = 5 → Led s a i n →
    Ev (fun k => spec_ReadVar.l0 k s (a : Int) (n : Int) ((128 ^ i : Nat) : Int) ((a + i : Nat) : Int))
      (match rvL f i n ((bytesOf s).drop (a + i)) with | some (n, m) => ((n : Int), (a : Int) + m, true) | none => (0, 0, false))
  | 0, i, n, hi, hl => by
    have h1 := hl.1
    refine Ev.step (f := fun k => spec_ReadVar.j1 k s (a : Int) (n : Int) ((128 ^ i : Nat) : Int) ((a + i : Nat) : Int) false) (fun k => ?_) ?_
    · simp only [spec_ReadVar.l0]
      rw [w64 (x := (a : Int) + 5) (by omega) (by omega)]
      split
      · rw [show decide (((a + i : Nat) : Int) < (a : Int) + 5) = false from by simp; omega]
      · rfl
    · refine Ev.step (f := fun _ => some (0, 0, false)) (fun k => ?_) (Ev.now _)
      simp only [spec_ReadVar.j1]; rfl
  | f + 1, i, n, hi, hl => by
    have h1 := hl.1
    by_cases hlt : a + i < s.size
    · have hr := bt_range s ((a + i : Nat) : Int)
      have hp := pow_bound (i := i) (by omega)
      have hm := mul_bound (bt s ((a + i : Nat) : Int)).toNat (128 ^ i) hp.1
      have hn := hl.lt
      rw [bytes_drop hlt]
      refine Ev.step (f := fun k => spec_ReadVar.j1 k s (a : Int) (n : Int) ((128 ^ i : Nat) : Int) ((a + i : Nat) : Int) true) (fun k => ?_) ?_
      · simp only [spec_ReadVar.l0]
        rw [w64 (x := (a : Int) + 5) (by omega) (by omega), if_pos (by omega)]
        rw [show decide (((a + i : Nat) : Int) < (a : Int) + 5) = true from by simp; omega]
      have hb : wrap64 (bt s ((a + i : Nat) : Int)) = bt s ((a + i : Nat) : Int) := w64 (by omega) (by omega)
      have e1 : Int.tmod (bt s ((a + i : Nat) : Int)) 128 * ((128 ^ i : Nat) : Int) = (((bt s ((a + i : Nat) : Int)).toNat % 128 * 128 ^ i : Nat) : Int) := by
        rw [tm (by omega), Int.natCast_mul]; congr 1; omega
      generalize hc : (bt s ((a + i : Nat) : Int)).toNat % 128 * 128 ^ i = q at *
      have e2 : wrap64 ((n : Int) + wrap64 (Int.tmod (wrap64 (bt s ((a + i : Nat) : Int))) 128 * ((128 ^ i : Nat) : Int))) = ((n + q : Nat) : Int) := by
        rw [hb, e1, w64 (x := (q : Int)) (by omega) (by omega), w64 (by omega) (by omega)]; omega
      by_cases hb : bt s ((a + i : Nat) : Int) < 128
      · have hsame := hl.same hlt hb
        rw [hc] at hsame
        simp only [rvL, if_pos hb, hc]
        by_cases hM : n + q ≤ 1000000000
        · refine Ev.step (f := fun k => (spec_l01Var.f k ((n + q : Nat) : Int)).bind fun t => (if t.toList = (s.extract a (a + i + 1)).toList then some (((n + q : Nat) : Int), ((a + i + 1 : Nat) : Int), true) else some (0, 0, false))) (fun k => ?_) ?_
          · simp only [spec_ReadVar.j1, if_true]
            rw [if_pos (by omega), if_pos (by omega), if_pos hb, e2, if_neg (by omega)]
            rw [w64 (x := ((a + i : Nat) : Int) + 1) (by omega) (by omega)]
            simp only [if_pos (show (0 : Int) ≤ (a : Int) from by omega), if_pos (show (a : Int) ≤ ((a + i : Nat) : Int) + 1 from by omega), if_pos (show ((a + i : Nat) : Int) + 1 ≤ (s.size : Int) from by omega)]
            rw [show ((a : Int)).toNat = a from by omega, show (((a + i : Nat) : Int) + 1).toNat = a + i + 1 from by omega, show ((a + i : Nat) : Int) + 1 = ((a + i + 1 : Nat) : Int) from by omega]
          · refine Ev.bind (spec_l01Var_ev (n + q) (by omega)) (Ev.is ?_)
            by_cases hq : (varL (n + q)).length = i + 1
            · rw [if_pos (hsame.2 hq), if_pos ⟨hM, hq⟩]
              simp only [Option.some.injEq, Prod.mk.injEq, and_true, true_and]; omega
            · rw [if_neg (fun e => hq (hsame.1 e)), if_neg (fun e => hq e.2)]
        · refine Ev.step (f := fun k => some (0, 0, false)) (fun k => ?_) ((Ev.now _).eq ?_)
          · simp only [spec_ReadVar.j1, if_true]
            rw [if_pos (by omega), if_pos (by omega), if_pos hb, e2, if_pos (by omega)]
          · rw [if_neg (fun e => hM e.1)]
      · simp only [rvL, if_neg hb, hc]
        have hnext := hl.next hlt (by omega)
        rw [hc] at hnext
        have e3 : wrap64 (((128 ^ i : Nat) : Int) * 128) = ((128 ^ (i + 1) : Nat) : Int) := by
          rw [w64 (by omega) (by omega), Nat.pow_succ, Int.natCast_mul]; rfl
        refine Ev.step (f := fun k => spec_ReadVar.l0 k s (a : Int) ((n + q : Nat) : Int) ((128 ^ (i + 1) : Nat) : Int) ((a + (i + 1) : Nat) : Int)) (fun k => ?_) (spec_ReadVar_l0 s hs a f (i + 1) (n + q) (by omega) hnext)
        simp only [spec_ReadVar.j1, if_true]
        rw [if_pos (by omega), if_pos (by omega), if_neg hb, e2, e3]
        rw [w64 (x := ((a + i : Nat) : Int) + 1) (by omega) (by omega), show ((a + i : Nat) : Int) + 1 = ((a + (i + 1) : Nat) : Int) from by omega]
    · rw [List.drop_of_length_le (by rw [bytesOf_length]; omega)]
      refine Ev.step (f := fun k => spec_ReadVar.j1 k s (a : Int) (n : Int) ((128 ^ i : Nat) : Int) ((a + i : Nat) : Int) false) (fun k => ?_) ?_
      · simp only [spec_ReadVar.l0]
        rw [if_neg (by omega)]
      · refine Ev.step (f := fun _ => some (0, 0, false)) (fun k => ?_) (Ev.now _)
        simp only [spec_ReadVar.j1]; rfl
theorem spec_ReadVar_ev (s : ByteArray) (hs : s.size ≤ 140737488351232) (a : Int) : Ev (fun k => spec_ReadVar.f k s a) (readVar s a) := by
  unfold spec_ReadVar.f readVar
  refine Ev.bind0 (spec_l01In_is _ _ _) ?_
  by_cases h : 0 ≤ a ∧ a ≤ (s.size : Int)
  · rw [if_pos h]
    refine Ev.pos (inR_iff.2 h) ?_
    have := spec_ReadVar_l0 s hs a.toNat 5 0 0 rfl (Led.start s a.toNat (by omega))
    simp only [Nat.add_zero, Int.toNat_of_nonneg h.1] at this
    exact this
  · rw [if_neg h]
    exact Ev.neg (fun e => h (inR_iff.1 e)) (Ev.now _)
theorem spec_ReadShort_ev (s : ByteArray) (hs : s.size ≤ 140737488351232) (a : Int) : Ev (fun k => spec_ReadShort.f k s a) (readShort s a) := by
  unfold spec_ReadShort.f readShort
  refine Ev.bind (spec_ReadVar_ev s hs a) (Ev.is ?_)
  rcases readVar_cases s a with h | ⟨n, m, h, hn, hm, ha, hb, _⟩
  · rw [h]; rfl
  · rw [h]
    simp only [if_true, true_and]
    rw [w64 (x := (s.size : Int) - (a + m)) (by omega) (by omega), w64 (x := a + (m : Int) + n) (by omega) (by omega)]
    by_cases h1 : (n : Int) ≤ 20000
    · by_cases h2 : (n : Int) ≤ (s.size : Int) - (a + m)
      · rw [if_neg (by omega), if_neg (by omega), if_pos (by omega), if_pos (by omega), if_pos (by omega), if_pos ⟨h1, h2⟩]
      · rw [if_neg (by omega), if_pos (by omega), if_neg (fun e => h2 e.2)]
    · rw [if_pos (by omega), if_neg (fun e => h1 e.1)]
theorem impl_within_is (a b c : Int) : impl_within.f a b c = some (inR a b c) := by
  unfold impl_within.f inR
  by_cases h : a ≥ b
  · rw [if_pos h]; congr 1; simp; omega
  · rw [if_neg h]; congr 1; simp; omega
theorem impl_VarText_l0 : ∀ (n : Nat) (acc : List Int), acc.length + n < 140737488355328 → Ev (fun k => impl_VarText.l0 k (n : Int) acc) (strOfNums (acc ++ varL n), true) := by
  intro n
  induction n using Nat.strongRecOn with
  | _ n ih =>
    intro acc ha
    by_cases h : 127 < n
    · refine Ev.step (f := fun k => impl_VarText.l0 k ((n / 128 : Nat) : Int) (acc ++ [((n % 128 + 128 : Nat) : Int)])) (fun k => ?_) ?_
      · simp only [impl_VarText.l0]
        rw [if_pos (by omega), if_pos (by omega), td (by omega), tm (by omega)]
        rw [w64 (x := (n : Int) / 128) (by omega) (by omega), w64 (x := (n : Int) % 128 + 128) (by omega) (by omega)]
        congr 3
        omega
      · refine (ih (n / 128) (by omega) _ (by simp; omega)).eq ?_
        rw [varL_big h, List.append_assoc]; rfl
    · refine Ev.step (f := fun k => some (strOfNums (acc ++ varL n), true)) (fun k => ?_) (Ev.now _)
      simp only [impl_VarText.l0]
      rw [if_neg (by omega), if_pos (by omega), varL_small h]
      congr 5
      omega
theorem impl_VarText_ev (n : Int) : Ev (fun k => impl_VarText.f k n) (varText n) := by
  unfold impl_VarText.f
  refine Ev.bind0 (impl_within_is _ _ _) ?_
  by_cases h : 0 ≤ n ∧ n ≤ 1000000000
  · refine Ev.pos (inR_iff.2 h) ?_
    have := impl_VarText_l0 n.toNat [] (by simp; omega)
    rw [Int.toNat_of_nonneg h.1] at this
    refine this.eq ?_
    rw [varText, if_pos h]; rfl
  · refine Ev.neg (fun e => h (inR_iff.1 e)) (Ev.is ?_)
    rw [varText, if_neg h]
theorem impl_ReadVar_l0 (s : ByteArray) (hs : s.size ≤ 140737488351232) (a : Nat) : ∀ (f i n : Nat), i + f = 5 → n < 128 ^ i → a + i ≤ s.size →
    Ev (fun k => impl_ReadVar.l0 k s (a : Int) (n : Int) (i : Int))
      (match rvL f i n ((bytesOf s).drop (a + i)) with | some (n, m) => ((n : Int), (a : Int) + m, true) | none => (0, 0, false))
  | 0, i, n, hi, hn, h1 => by
    refine Ev.step (f := fun k => impl_ReadVar.j1 k s (a : Int) (n : Int) (i : Int) false) (fun k => ?_) ?_
    · simp only [impl_ReadVar.l0]
      rw [if_neg (by omega)]
    · refine Ev.step (f := fun _ => some (0, 0, false)) (fun k => ?_) (Ev.now _)
      simp only [impl_ReadVar.j1]; rfl
  | f + 1, i, n, hi, hn, h1 => by
    by_cases hlt : a + i < s.size
    · have hr := bt_range s ((a + i : Nat) : Int)
      have hp := pow_bound (i := i) (by omega)
      have hm := mul_bound (bt s ((a + i : Nat) : Int)).toNat (128 ^ i) hp.1
      have ei : (a : Int) + (i : Int) = ((a + i : Nat) : Int) := by omega
      rw [bytes_drop hlt]
      refine Ev.step (f := fun k => impl_ReadVar.j1 k s (a : Int) (n : Int) (i : Int) true) (fun k => ?_) ?_
      · simp only [impl_ReadVar.l0]
        rw [if_pos (by omega), w64 (x := (a : Int) + i) (by omega) (by omega)]
        rw [show decide ((a : Int) + i < (s.size : Int)) = true from by simp; omega]
      have hb : wrap64 (bt s ((a + i : Nat) : Int)) = bt s ((a + i : Nat) : Int) := w64 (by omega) (by omega)
      have e0 : shl .i64 (Int.tmod (bt s ((a + i : Nat) : Int)) 128) (7 * (i : Int)) = (((bt s ((a + i : Nat) : Int)).toNat % 128 * 128 ^ i : Nat) : Int) := by
        unfold shl
        rw [tm (by omega), i64_w, show (7 * (i : Int)).toNat = 7 * i from by omega, show min (7 * i) IntKind.i64.bits = 7 * i from by simp [IntKind.bits]; omega]
        have e7 : (2 : Int) ^ (7 * i) = ((128 ^ i : Nat) : Int) := by
          rw [show (128 : Nat) = 2 ^ 7 from rfl, ← Nat.pow_mul]; simp
        rw [e7, Int.natCast_mul, w64]
        · congr 1; omega
        · have := Int.mul_nonneg (a := bt s ((a + i : Nat) : Int) % 128) (b := ((128 ^ i : Nat) : Int)) (by omega) (by omega)
          omega
        · have e8 : bt s ((a + i : Nat) : Int) % 128 = (((bt s ((a + i : Nat) : Int)).toNat % 128 : Nat) : Int) := by omega
          rw [e8, ← Int.natCast_mul]; omega
      generalize hc : (bt s ((a + i : Nat) : Int)).toNat % 128 * 128 ^ i = q at *
      have e2 : wrap64 ((n : Int) + shl .i64 (Int.tmod (wrap64 (bt s ((a + i : Nat) : Int))) 128) (wrap64 (7 * (i : Int)))) = ((n + q : Nat) : Int) := by
        rw [hb, w64 (x := 7 * (i : Int)) (by omega) (by omega), e0, w64 (by omega) (by omega)]; omega
      by_cases hb' : bt s ((a + i : Nat) : Int) < 128
      · simp only [rvL, if_pos hb', hc]
        refine Ev.step (f := fun k => (impl_VarText.f k ((n + q : Nat) : Int)).bind fun bt => (if bt.2 = true then (if (bt.1.size : Int) = (i : Int) + 1 then some (((n + q : Nat) : Int), ((a + i + 1 : Nat) : Int), true) else some (0, 0, false)) else some (0, 0, false))) (fun k => ?_) ?_
        · simp only [impl_ReadVar.j1, if_true]
          rw [w64 (x := (a : Int) + i) (by omega) (by omega), ei, if_pos (by omega), if_pos (by omega), if_pos (by rw [w64 (by omega) (by omega)]; omega), hb, if_pos hb']
          rw [hb] at e2
          rw [e2, w64 (x := (i : Int) + 1) (by omega) (by omega), w64 (x := ((a + i : Nat) : Int) + 1) (by omega) (by omega)]
          rfl
        · refine Ev.bind (impl_VarText_ev _) (Ev.is ?_)
          by_cases hM : n + q ≤ 1000000000
          · rw [varText_ok (by omega) (by omega), Int.toNat_natCast]
            simp only [if_true, vt_size]
            by_cases hq : (varL (n + q)).length = i + 1
            · rw [if_pos (by omega), if_pos ⟨hM, hq⟩]
              simp only [Option.some.injEq, Prod.mk.injEq, and_true, true_and]; omega
            · rw [if_neg (by omega), if_neg (fun e => hq e.2)]
          · rw [varText_no (by omega), if_neg (c := _ ∧ _) (fun e => hM e.1)]; simp
      · simp only [rvL, if_neg hb', hc]
        refine Ev.step (f := fun k => impl_ReadVar.l0 k s (a : Int) ((n + q : Nat) : Int) ((i + 1 : Nat) : Int)) (fun k => ?_) (impl_ReadVar_l0 s hs a f (i + 1) (n + q) (by omega) ?_ (by omega))
        · simp only [impl_ReadVar.j1, if_true]
          rw [w64 (x := (a : Int) + i) (by omega) (by omega), ei, if_pos (by omega), if_pos (by omega), if_pos (by rw [w64 (by omega) (by omega)]; omega), hb, if_neg hb']
          rw [hb] at e2
          rw [e2, w64 (x := (i : Int) + 1) (by omega) (by omega)]
          rfl
        · rw [Nat.pow_succ, ← hc]
          have h2 : (bt s ((a + i : Nat) : Int)).toNat % 128 ≤ 127 := by omega
          have h3 := Nat.mul_le_mul_right (128 ^ i) h2
          omega
    · rw [List.drop_of_length_le (by rw [bytesOf_length]; omega)]
      refine Ev.step (f := fun k => impl_ReadVar.j1 k s (a : Int) (n : Int) (i : Int) false) (fun k => ?_) ?_
      · simp only [impl_ReadVar.l0]
        rw [if_pos (by omega), w64 (x := (a : Int) + i) (by omega) (by omega)]
        rw [show decide ((a : Int) + i < (s.size : Int)) = false from by simp; omega]
      · refine Ev.step (f := fun _ => some (0, 0, false)) (fun k => ?_) (Ev.now _)
        simp only [impl_ReadVar.j1]; rfl
theorem impl_ReadVar_ev (s : ByteArray) (hs : s.size ≤ 140737488351232) (a : Int) : Ev (fun k => impl_ReadVar.f k s a) (readVar s a) := by
  unfold impl_ReadVar.f readVar
  refine Ev.bind0 (impl_within_is _ _ _) ?_
  by_cases h : 0 ≤ a ∧ a ≤ (s.size : Int)
  · rw [if_pos h]
    refine Ev.pos (inR_iff.2 h) ?_
    have := impl_ReadVar_l0 s hs a.toNat 5 0 0 rfl (by simp) (by omega)
    simp only [Nat.add_zero, Int.toNat_of_nonneg h.1] at this
    exact this
  · rw [if_neg h]
    exact Ev.neg (fun e => h (inR_iff.1 e)) (Ev.now _)
theorem impl_ReadShort_ev (s : ByteArray) (hs : s.size ≤ 140737488351232) (a : Int) : Ev (fun k => impl_ReadShort.f k s a) (readShort s a) := by
  unfold impl_ReadShort.f readShort
  refine Ev.bind (impl_ReadVar_ev s hs a) (Ev.is ?_)
  rcases readVar_cases s a with h | ⟨n, m, h, hn, hm, ha, hb, _⟩
  · rw [h]; rfl
  · rw [h]
    simp only [if_true, true_and]
    rw [w64 (x := (s.size : Int) - (a + m)) (by omega) (by omega), w64 (x := a + (m : Int) + n) (by omega) (by omega)]
    by_cases h1 : (n : Int) ≤ 20000
    · by_cases h2 : (n : Int) ≤ (s.size : Int) - (a + m)
      · rw [if_neg (by omega), if_neg (by omega), if_pos (by omega), if_pos (by omega), if_pos (by omega), if_pos ⟨h1, h2⟩]
      · rw [if_neg (by omega), if_pos (by omega), if_neg (fun e => h2 e.2)]
    · rw [if_pos (by omega), if_neg (fun e => h1 e.1)]
theorem FnExactReadShort : laws_FnExactReadShort.Pure := by
  intro s a hs ha
  apply Ev.rounds
  unfold laws_FnExactReadShort.f
  by_cases h : (s.size : Int) > 1048576
  · exact Ev.pos h (Ev.now _)
  · exact Ev.neg h (Ev.bind (spec_ReadShort_ev s hs a) (Ev.bind (impl_ReadShort_ev s hs a) (Ev.pos rfl (Ev.pos rfl (Ev.neg (by simp) (Ev.now _))))))

end Go.Proofs.Ytbdjdobockghhaa.Pure
