/- The law FnExactSnapText answers true at every input; no condition. -/
import Derived.Test.YthddngmncmhkoaaQFnExactSnapTextx5
import Derived.Test.YthddngmncmhkoaaMath
namespace Go.Proofs.Ythddngmncmhkoaa.QFnExactSnapText
open Go.RowKit
/-- What is left to be shown of the law: over numbers, texts and lists alone. -/
def laws_FnExactSnapText.Pure : Prop := ∀ (a0_0 : Int) (a0_1 : Int) (l0_2 : List (Int)) (a0_3 : ByteArray), ((Lit.int .i64 a0_0).wf = true ∧ (Lit.int .i64 a0_1).wf = true ∧ (l0_2.length ≤ maxLen ∧ ∀ x ∈ l0_2, (Lit.int .i64 x).wf = true) ∧ a0_3.size ≤ maxLen) → ∃ k, laws_FnExactSnapText.f k a0_0 a0_1 l0_2 a0_3 = some true
end Go.Proofs.Ythddngmncmhkoaa.QFnExactSnapText
namespace Go.Proofs.Ythddngmncmhkoaa.Pure
open Go.RowKit Go.Proofs.Ythddngmncmhkoaa.QFnExactSnapText Go.Proofs.YthddngmncmhkoaaW.PrintWords Go.Proofs.YthddngmncmhkoaaW.PrintLast Go.Proofs.YthddngmncmhkoaaW.PrintMore Go.Proofs.Ythddngmncmhkoaa.M
set_option linter.unusedVariables false
set_option linter.unusedSimpArgs false
set_option maxRecDepth 4000

theorem laws_szIntS_is (l : List Int) (left : Int) (h0 : 0 ≤ left) (h1 : left ≤ 1048576) (hl : l.length ≤ maxLen) :
    ∃ r, laws_szIntS.f l left = some r ∧ (r < 0 ∨ 0 ≤ r ∧ r ≤ left ∧ (l.length : Int) ≤ left) := by
  unfold laws_szIntS.f
  simp only [maxLen] at hl
  rw [w64 (x := left - (l.length : Int)) (by omega) (by omega)]
  by_cases h : left - (l.length : Int) < 0
  · exact ⟨-1, by rw [if_pos h], .inl (by omega)⟩
  · exact ⟨_, by rw [if_neg h], .inr (by omega)⟩
theorem laws_szSnap_is (a b : Int) (l : List Int) (s : ByteArray) (hl : l.length ≤ maxLen) (hs : s.size ≤ maxLen) :
    ∃ r, laws_szSnap.f a b l s 1048576 = some r ∧ (r < 0 ∨ 0 ≤ r ∧ r ≤ 1048576 ∧ l.length ≤ 1048576 ∧ s.size ≤ 1048576) := by
  unfold laws_szSnap.f
  obtain ⟨r, hr, hx⟩ := laws_szIntS_is l 1048576 (by omega) (by omega) hl
  rw [hr, Option.bind_some]
  simp only [maxLen] at hs
  rcases hx with hx | ⟨hx0, hx1, hx2⟩
  · exact ⟨-1, by rw [if_pos hx], .inl (by omega)⟩
  · rw [if_neg (by omega), w64 (x := r - (s.size : Int)) (by omega) (by omega)]
    by_cases h : r - (s.size : Int) < 0
    · exact ⟨-1, by rw [if_pos h], .inl (by omega)⟩
    · exact ⟨_, by rw [if_neg h], .inr (by omega)⟩
theorem spec_l01In_is (a b c : Int) : spec_l01In.f a b c = some (inR a b c) := by
  unfold spec_l01In.f inR
  by_cases h : a ≥ b
  · rw [if_pos h]; congr 1; simp; omega
  · rw [if_neg h]; congr 1; simp; omega
theorem spec_l01Var_l0 : ∀ (n : Nat) (acc : List Int), acc.length + n < 140737488355328 → Ev (fun k => spec_l01Var.l0 k (n : Int) acc) (strOfNums (acc ++ varL n)) := by
  intro n
  induction n using Nat.strongRecOn with
  | _ n ih =>
    intro acc ha
    by_cases h : 127 < n
    · refine Ev.step (f := fun k => spec_l01Var.l0 k ((n / 128 : Nat) : Int) (acc ++ [((n % 128 + 128 : Nat) : Int)])) (fun k => ?_) ?_
      · simp only [spec_l01Var.l0]
        rw [if_pos (by omega), if_pos (by omega), td (by omega), tm (by omega)]
        rw [w64 (x := (n : Int) / 128) (by omega) (by omega), w64 (x := (n : Int) % 128 + 128) (by omega) (by omega)]
        congr 3
        omega
      · refine (ih (n / 128) (by omega) _ (by simp; omega)).eq ?_
        rw [varL_big h, List.append_assoc]; rfl
    · refine Ev.step (f := fun k => some (strOfNums (acc ++ varL n))) (fun k => ?_) (Ev.now _)
      simp only [spec_l01Var.l0]
      rw [if_neg (by omega), if_pos (by omega), varL_small h]
      congr 4
      omega
theorem spec_l01Var_ev (n : Nat) (h : n < 140737488355328) : Ev (fun k => spec_l01Var.f k (n : Int)) (vt n) := by
  have := spec_l01Var_l0 n [] (by simpa using h)
  exact this
theorem spec_l01Var_evi (n : Int) (h0 : 0 ≤ n) (h : n < 140737488355328) : Ev (fun k => spec_l01Var.f k n) (vt n.toNat) := by
  have := spec_l01Var_ev n.toNat (by omega)
  rwa [Int.toNat_of_nonneg h0] at this
theorem spec_l05Rise_l0 (l : List Int) (hl : l.length ≤ 35184372088832) : ∀ (d i : Nat) (p : Int), i + d = l.length → (i = 0 → p = 0) → (0 < i → p = rd l ((i - 1 : Nat) : Int)) →
    Ev (fun k => spec_l05Rise.l0 k l 1 4 (i : Int)) (riseF p (l.drop i))
  | 0, i, p, h, h0, h1 => by
    refine Ev.step (f := fun k => some true) (fun k => ?_) ((Ev.now _).eq ?_)
    · simp only [spec_l05Rise.l0]; rw [if_neg (by omega)]
    · rw [List.drop_of_length_le (by omega)]; rfl
  | d + 1, i, p, h, h0, h1 => by
    rw [rd_drop (l := l) (by omega)]
    have ih := spec_l05Rise_l0 l hl d (i + 1) (rd l (i : Int)) (by omega) (by omega) (fun _ => by simp)
    by_cases hin : 1 ≤ rd l (i : Int) ∧ rd l (i : Int) ≤ 4
    · by_cases hi : 0 < i
      · have hp := h1 hi
        have ei : wrap64 ((i : Int) - 1) = ((i - 1 : Nat) : Int) := by rw [w64 (by omega) (by omega)]; omega
        by_cases hlt : p < rd l (i : Int)
        · refine Ev.step (f := fun k => spec_l05Rise.l0 k l 1 4 ((i + 1 : Nat) : Int)) (fun k => ?_) (ih.eq ?_)
          · simp only [spec_l05Rise.l0]
            rw [if_pos (by omega), if_pos (by omega), spec_l01In_is, Option.bind_some, if_pos (inR_iff.2 hin), if_pos (by omega), ei, if_pos (by omega), if_pos (by omega), if_neg (by omega)]
            rw [w64 (x := (i : Int) + 1) (by omega) (by omega)]; rfl
          · simp only [riseF]; rw [decide_eq_true ⟨hin.1, hin.2, hlt⟩, Bool.true_and]
        · refine Ev.step (f := fun k => some false) (fun k => ?_) ((Ev.now _).eq ?_)
          · simp only [spec_l05Rise.l0]
            rw [if_pos (by omega), if_pos (by omega), spec_l01In_is, Option.bind_some, if_pos (inR_iff.2 hin), if_pos (by omega), ei, if_pos (by omega), if_pos (by omega), if_pos (by omega)]
          · simp only [riseF]; rw [decide_eq_false (fun e => hlt e.2.2), Bool.false_and]
      · have hp := h0 (by omega)
        refine Ev.step (f := fun k => spec_l05Rise.l0 k l 1 4 ((i + 1 : Nat) : Int)) (fun k => ?_) (ih.eq ?_)
        · simp only [spec_l05Rise.l0]
          rw [if_pos (by omega), if_pos (by omega), spec_l01In_is, Option.bind_some, if_pos (inR_iff.2 hin), if_neg (by omega)]
          rw [w64 (x := (i : Int) + 1) (by omega) (by omega)]; rfl
        · simp only [riseF]; rw [decide_eq_true ⟨hin.1, hin.2, by omega⟩, Bool.true_and]
    · refine Ev.step (f := fun k => some false) (fun k => ?_) ((Ev.now _).eq ?_)
      · simp only [spec_l05Rise.l0]
        rw [if_pos (by omega), if_pos (by omega), spec_l01In_is, Option.bind_some, if_neg (fun e => hin (inR_iff.1 e))]
      · simp only [riseF]; rw [decide_eq_false (fun e => hin ⟨e.1, e.2.1⟩), Bool.false_and]
theorem spec_l05Rise_ev (l : List Int) (hl : l.length ≤ 35184372088832) : Ev (fun k => spec_l05Rise.f k l 1 4) (riseF 0 l) := by
  have := spec_l05Rise_l0 l hl l.length 0 0 (by omega) (fun _ => rfl) (fun h => absurd h (by omega))
  exact this
theorem spec_ConfOk_ev (l : List Int) (hl : l.length ≤ 35184372088832) : Ev (fun k => spec_ConfOk.f k l) (confOk l) := by
  unfold spec_ConfOk.f confOk
  refine Ev.bind0 (spec_l01In_is _ _ _) ?_
  by_cases h : 1 ≤ l.length ∧ l.length ≤ 4
  · rw [decide_eq_true h, Bool.true_and]
    exact Ev.pos (inR_iff.2 (by omega)) (Ev.bind (spec_l05Rise_ev l hl) (Ev.now _))
  · rw [decide_eq_false h, Bool.false_and]
    exact Ev.neg (fun e => h (by have := inR_iff.1 e; omega)) (Ev.now _)
theorem spec_ConfText_l0 (l : List Int) (hl : l.length ≤ 35184372088832) : ∀ (d i : Nat) (acc : List Int), i + d = l.length → acc.length ≤ i →
    Ev (fun k => spec_ConfText.l0 k l acc (i : Int)) (strOfNums (acc ++ (l.drop i).map (· % 256)), true)
  | 0, i, acc, h, ha => by
    refine Ev.step (f := fun k => some (strOfNums acc, true)) (fun k => ?_) ((Ev.now _).eq ?_)
    · simp only [spec_ConfText.l0]; rw [if_neg (by omega)]
    · rw [List.drop_of_length_le (by omega)]; simp
  | d + 1, i, acc, h, ha => by
    refine Ev.step (f := fun k => spec_ConfText.l0 k l (acc ++ [rd l i % 256]) ((i + 1 : Nat) : Int)) (fun k => ?_) ((spec_ConfText_l0 l hl d (i + 1) _ (by omega) (by simp; omega)).eq ?_)
    · simp only [spec_ConfText.l0]
      rw [if_pos (by omega), if_pos (by omega), if_pos (by omega), w64 (x := (i : Int) + 1) (by omega) (by omega)]
      rfl
    · rw [rd_drop (l := l) (i := i) (by omega)]; simp
theorem spec_ConfText_ev (l : List Int) (hl : l.length ≤ 35184372088832) : Ev (fun k => spec_ConfText.f k l) (confT l) := by
  unfold spec_ConfText.f confT
  refine Ev.bind (spec_ConfOk_ev l hl) ?_
  by_cases h : confOk l = true
  · rw [if_pos h]
    refine Ev.pos h ?_
    exact spec_ConfText_l0 l hl l.length 0 [] (by omega) (by simp)
  · rw [if_neg h]; exact Ev.neg h (Ev.now _)
theorem spec_l05Short_ev (s : ByteArray) (hs : s.size ≤ 140737488351232) : Ev (fun k => spec_l05Short.f k s) (vt s.size ++ s) := by
  unfold spec_l05Short.f
  refine Ev.bind (spec_l01Var_ev s.size (by omega)) (Ev.is ?_)
  have hv : (vt s.size).size ≤ 100 := by rw [vt_size]; exact Nat.le_trans (varL_len s.size 6 (by omega)) (by omega)
  rw [if_pos (by omega)]
theorem spec_l02Four_is (x : Int) : spec_l02Four.f x = some (four x) := rfl
theorem spec_SumMore_l1 {s : ByteArray} {i r : Int} : ∀ (d : Nat) (j x0 : Int), 0 ≤ j → j + d = 8 → Ev (fun k => spec_SumMore.l0 k (halves d x0) s (wrap64 (i + 1))) r → Ev (fun k => spec_SumMore.l1 k x0 s i j) r
  | 0, j, x0, h0, h, hk => by
    refine Ev.step (f := fun k => spec_SumMore.l0 k x0 s (wrap64 (i + 1))) (fun k => ?_) hk
    simp only [spec_SumMore.l1]; rw [if_neg (by omega)]
  | d + 1, j, x0, h0, h, hk => by
    refine Ev.step (f := fun k => spec_SumMore.l1 k (half x0) s i (j + 1)) (fun k => ?_) (spec_SumMore_l1 d (j + 1) (half x0) (by omega) (by omega) hk)
    simp only [spec_SumMore.l1]; rw [if_pos (by omega), w64 (x := j + 1) (by omega) (by omega)]
    unfold half
    split <;> rfl
theorem spec_SumMore_l0 (s : ByteArray) (hs : s.size ≤ 140737488351232) : ∀ (d i : Nat) (x0 : Int), i + d = s.size → Ev (fun k => spec_SumMore.l0 k x0 s i) (sumL x0 ((bytesOf s).drop i))
  | 0, i, x0, h => by
    refine Ev.step (f := fun k => some x0) (fun k => ?_) ((Ev.now _).eq ?_)
    · simp only [spec_SumMore.l0]; rw [if_neg (by omega)]
    · rw [List.drop_of_length_le (by rw [bytesOf_length]; omega)]; rfl
  | d + 1, i, x0, h => by
    refine Ev.step (f := fun k => spec_SumMore.l1 k (Go.bits .xor .u32 x0 (bt s i % 4294967296)) s i 0) (fun k => ?_) (spec_SumMore_l1 8 0 _ (by omega) (by omega) ?_)
    · simp only [spec_SumMore.l0]; rw [if_pos (by omega), if_pos (by omega)]
    · rw [w64 (x := (i : Int) + 1) (by omega) (by omega)]
      have := spec_SumMore_l0 s hs d (i + 1) (halves 8 (Go.bits .xor .u32 x0 (bt s i % 4294967296))) (by omega)
      rw [bytes_drop (by omega)]
      exact this
theorem spec_SumMore_ev (x : Int) (s : ByteArray) (hs : s.size ≤ 140737488351232) : Ev (fun k => spec_SumMore.f k x s) (sumL x (bytesOf s)) := by
  have := spec_SumMore_l0 s hs s.size 0 x (by omega)
  exact this
theorem spec_SumOf_ev (s : ByteArray) (hs : s.size ≤ 140737488351232) : Ev (fun k => spec_SumOf.f k s) (sumOf s) := by
  unfold spec_SumOf.f
  exact Ev.bind (spec_SumMore_ev _ s hs) (Ev.now _)
theorem spec_Sealed_ev (s : ByteArray) : Ev (fun k => spec_Sealed.f k s) (sealed s) := by
  unfold spec_Sealed.f sealed
  by_cases h : s.size ≤ 20000
  · rw [if_pos h]
    refine Ev.neg (by omega) (Ev.bind (spec_SumOf_ev s (by omega)) (Ev.bind0 (spec_l02Four_is _) (Ev.is ?_)))
    rw [if_pos (by rw [four_size]; omega)]
  · rw [if_neg h]; exact Ev.pos (by omega) (Ev.now _)
def snapIn (i t : Int) (c body : ByteArray) : ByteArray := vt i.toNat ++ vt t.toNat ++ (vt c.size ++ c) ++ (vt body.size ++ body)
def snapText (i t : Int) (conf : List Int) (body : ByteArray) : ByteArray × Bool :=
  if (confOk conf = true ∧ (0 ≤ i ∧ i ≤ 1000000) ∧ (0 ≤ t ∧ t ≤ 100000) ∧ body.size ≤ 20000) ∧ (snapIn i t (confT conf).1 body).size + 4 ≤ 20000 then
    (snapIn i t (confT conf).1 body ++ four (sumOf (snapIn i t (confT conf).1 body)), true) else (⟨#[]⟩, false)
theorem confT_ok {l : List Int} (h : confOk l = true) : confT l = (strOfNums (l.map (· % 256)), true) := by rw [confT, if_pos h]
theorem confT_size {l : List Int} (h : confOk l = true) : (confT l).1.size ≤ 4 := by
  rw [confT_ok h, str_size, List.length_map]; exact (confOk_len h).2
theorem confT_no {l : List Int} (h : ¬ confOk l = true) : confT l = (⟨#[]⟩, false) := by rw [confT, if_neg h]
theorem spec_SnapText_ev (i t : Int) (l : List Int) (body : ByteArray) (hl : l.length ≤ 35184372088832) (hb : body.size ≤ 1048576) : Ev (fun k => spec_SnapText.f k i t l body) (snapText i t l body) := by
  have no : ∀ c x, ¬ (confOk l = true ∧ (0 ≤ i ∧ i ≤ 1000000) ∧ (0 ≤ t ∧ t ≤ 100000) ∧ body.size ≤ 20000) → x = true → Ev (fun k => spec_SnapText.j0 k c x i t l body) (snapText i t l body) := by
    intro c x h hx
    rw [snapText, if_neg (fun e => h e.1), hx]
    exact Ev.step (fun k => rfl) (Ev.now _)
  unfold spec_SnapText.f
  refine Ev.bind (spec_ConfText_ev l hl) ?_
  by_cases h0 : confOk l = true
  · refine Ev.pos (by rw [confT_ok h0]) (Ev.bind0 (spec_l01In_is _ _ _) ?_)
    by_cases h1 : 0 ≤ i ∧ i ≤ 1000000
    · refine Ev.pos (inR_iff.2 h1) (Ev.bind0 (spec_l01In_is _ _ _) ?_)
      by_cases h2 : 0 ≤ t ∧ t ≤ 100000
      · refine Ev.pos (inR_iff.2 h2) ?_
        by_cases h3 : body.size ≤ 20000
        · rw [decide_eq_false (p := (body.size : Int) > 20000) (by omega)]
          have hc := confT_size h0
          have v1 := vt_size5 i.toNat (by omega)
          have v2 := vt_size5 t.toNat (by omega)
          have v3 := vt_size5 (confT l).1.size (by omega)
          have v4 := vt_size5 body.size (by omega)
          have hz : (snapIn i t (confT l).1 body).size = (vt i.toNat).size + (vt t.toNat).size + ((vt (confT l).1.size).size + (confT l).1.size) + ((vt body.size).size + body.size) := by
            simp only [snapIn, size_append]
          refine Ev.step (fun k => rfl) (Ev.bind (spec_l01Var_evi i (by omega) (by omega)) (Ev.bind (spec_l01Var_evi t (by omega) (by omega)) (Ev.pos (by omega) (Ev.bind (spec_l05Short_ev _ (by omega)) (Ev.pos (by simp only [size_append]; omega)
            (Ev.bind (spec_l05Short_ev body (by omega)) (Ev.pos (by simp only [size_append]; omega) ?_)))))))
          change Ev (fun k => if wrap64 (((snapIn i t (confT l).1 body).size : Int) + 4) > 20000 then some ((⟨#[]⟩ : ByteArray), false) else (spec_Sealed.f k (snapIn i t (confT l).1 body)).bind fun bt => some (bt.1, bt.2)) _
          rw [w64 (by omega) (by omega)]
          by_cases h4 : (snapIn i t (confT l).1 body).size + 4 ≤ 20000
          · refine Ev.neg (by omega) (Ev.bind (spec_Sealed_ev _) (Ev.is ?_))
            rw [snapText, if_pos ⟨⟨h0, h1, h2, h3⟩, h4⟩, sealed_ok (by omega)]
          · refine Ev.pos (by omega) (Ev.is ?_)
            rw [snapText, if_neg (fun e => h4 e.2)]
        · exact no _ _ (fun e => h3 e.2.2.2) (decide_eq_true (by omega))
      · exact Ev.neg (fun e => h2 (inR_iff.1 e)) (no _ _ (fun e => h2 e.2.2.1) rfl)
    · exact Ev.neg (fun e => h1 (inR_iff.1 e)) (no _ _ (fun e => h1 e.2.1) rfl)
  · exact Ev.neg (by rw [confT_no h0]; simp) (no _ _ (fun e => h0 e.1) rfl)
theorem laws_toIntS_l0 (l : List Int) (hl : l.length ≤ 35184372088832) : ∀ (d i : Nat), i + d = l.length →
    Ev (fun k => laws_toIntS.l0 k l (l.take i ++ List.replicate (l.length - i) 0) (i : Int)) l
  | 0, i, h => by
    refine Ev.step (f := fun k => some (l.take i ++ List.replicate (l.length - i) 0)) (fun k => ?_) ((Ev.now _).eq ?_)
    · simp only [laws_toIntS.l0]; rw [if_neg (by omega)]
    · obtain rfl : i = l.length := by omega
      simp
  | d + 1, i, h => by
    refine Ev.step (f := fun k => laws_toIntS.l0 k l (l.take (i + 1) ++ List.replicate (l.length - (i + 1)) 0) ((i + 1 : Nat) : Int)) (fun k => ?_) (laws_toIntS_l0 l hl d (i + 1) (by omega))
    simp only [laws_toIntS.l0]
    rw [if_pos (by omega), if_pos (by omega), if_pos (by simp [List.length_take]; omega), w64 (x := (i : Int) + 1) (by omega) (by omega)]
    rw [Int.toNat_natCast, rd_nat l i (by omega), fill_step l 0 i l.length (by omega) rfl]
    rfl
theorem laws_toIntS_ev (l : List Int) (hl : l.length ≤ 35184372088832) : Ev (fun k => laws_toIntS.f k l) l := by
  unfold laws_toIntS.f
  refine Ev.pos (by omega) (Ev.pos (by omega) ?_)
  have := laws_toIntS_l0 l hl l.length 0 (by omega)
  simpa using this
theorem laws_toSnap_ev (a b : Int) (l : List Int) (s : ByteArray) (hl : l.length ≤ 1048576) : Ev (fun k => laws_toSnap.f k a b l s) (a, b, l, s) := by
  unfold laws_toSnap.f
  exact Ev.bind (laws_toIntS_ev l (by omega)) (Ev.now _)
theorem impl_within_is (a b c : Int) : impl_within.f a b c = some (inR a b c) := by
  unfold impl_within.f inR
  by_cases h : a ≥ b
  · rw [if_pos h]; congr 1; simp; omega
  · rw [if_neg h]; congr 1; simp; omega
theorem impl_VarText_l0 : ∀ (n : Nat) (acc : List Int), acc.length + n < 140737488355328 → Ev (fun k => impl_VarText.l0 k (n : Int) acc) (strOfNums (acc ++ varL n), true) := by
  intro n
  induction n using Nat.strongRecOn with
  | _ n ih =>
    intro acc ha
    by_cases h : 127 < n
    · refine Ev.step (f := fun k => impl_VarText.l0 k ((n / 128 : Nat) : Int) (acc ++ [((n % 128 + 128 : Nat) : Int)])) (fun k => ?_) ?_
      · simp only [impl_VarText.l0]
        rw [if_pos (by omega), if_pos (by omega), td (by omega), tm (by omega)]
        rw [w64 (x := (n : Int) / 128) (by omega) (by omega), w64 (x := (n : Int) % 128 + 128) (by omega) (by omega)]
        congr 3
        omega
      · refine (ih (n / 128) (by omega) _ (by simp; omega)).eq ?_
        rw [varL_big h, List.append_assoc]; rfl
    · refine Ev.step (f := fun k => some (strOfNums (acc ++ varL n), true)) (fun k => ?_) (Ev.now _)
      simp only [impl_VarText.l0]
      rw [if_neg (by omega), if_pos (by omega), varL_small h]
      congr 5
      omega
theorem impl_VarText_ev (n : Int) : Ev (fun k => impl_VarText.f k n) (varText n) := by
  unfold impl_VarText.f
  refine Ev.bind0 (impl_within_is _ _ _) ?_
  by_cases h : 0 ≤ n ∧ n ≤ 1000000000
  · refine Ev.pos (inR_iff.2 h) ?_
    have := impl_VarText_l0 n.toNat [] (by simp; omega)
    rw [Int.toNat_of_nonneg h.1] at this
    refine this.eq ?_
    rw [varText, if_pos h]; rfl
  · refine Ev.neg (fun e => h (inR_iff.1 e)) (Ev.is ?_)
    rw [varText, if_neg h]
theorem impl_vars_l0 (l : List Int) (hl : l.length ≤ 1048576) : ∀ (d i : Nat) (acc : List Int), i + d = l.length → acc.length ≤ 5 * i →
    Ev (fun k => impl_vars.l0 k acc l (l.length : Int) (i : Int)) (match varsL (l.drop i) with | some m => (strOfNums (acc ++ m), true) | none => (⟨#[]⟩, false))
  | 0, i, acc, h, ha => by
    refine Ev.step (f := fun k => some (strOfNums acc, true)) (fun k => ?_) ((Ev.now _).eq ?_)
    · simp only [impl_vars.l0]; rw [if_neg (by omega)]
    · rw [List.drop_of_length_le (by omega)]; simp [varsL]
  | d + 1, i, acc, h, ha => by
    rw [rd_drop (l := l) (i := i) (by omega)]
    generalize hx : rd l (i : Int) = x
    refine Ev.step (f := fun k => (impl_VarText.f k x).bind fun bt => (if bt.2 = true then (if acc.length + bt.1.size < 140737488355328 then (impl_vars.l0 k (acc ++ bytesOf bt.1) l (l.length : Int) ((i + 1 : Nat) : Int)) else none) else some (⟨#[]⟩, false))) (fun k => ?_) (Ev.bind (impl_VarText_ev x) ?_)
    · simp only [impl_vars.l0]
      rw [if_pos (by omega), if_pos (by omega), if_pos (by omega), hx, w64 (x := (i : Int) + 1) (by omega) (by omega)]; rfl
    · by_cases hr : 0 ≤ x ∧ x ≤ 1000000000
      · have h5 := vt_size5 x.toNat (by omega)
        have hv : (varL x.toNat).length ≤ 5 := by rw [← vt_size]; exact h5
        rw [varText_ok hr.1 hr.2]
        refine Ev.pos rfl (Ev.pos (by show acc.length + (vt x.toNat).size < _; omega) ((impl_vars_l0 l hl d (i + 1) (acc ++ bytesOf (vt x.toNat)) (by omega) (by rw [List.length_append, bytes_vt]; omega)).eq ?_))
        simp only [varsL, if_pos hr]
        cases varsL (l.drop (i + 1)) with
        | none => rfl
        | some m => simp [bytes_vt]
      · rw [varText_no hr]
        refine Ev.neg (by simp) ((Ev.now _).eq ?_)
        simp only [varsL, if_neg hr]
theorem impl_vars_two {a b : Int} (ha : 0 ≤ a ∧ a ≤ 1000000000) (hb : 0 ≤ b ∧ b ≤ 1000000000) : Ev (fun k => impl_vars.f k ([a, b] : List Int)) (vt a.toNat ++ vt b.toNat, true) := by
  have := impl_vars_l0 [a, b] (by simp) 2 0 [] (by simp) (by simp)
  rw [List.drop_zero, varsL_two ha hb] at this
  simp only [List.nil_append, str_append] at this
  exact this
theorem impl_ConfOk_l0 (l : List Int) (hl : l.length ≤ 35184372088832) : ∀ (d i : Nat) (p : Int), i + d = l.length → (i = 0 → p = 0) → (0 < i → p = rd l ((i - 1 : Nat) : Int)) →
    Ev (fun k => impl_ConfOk.l0 k l l (l.length : Int) (i : Int)) (decide (1 ≤ l.length ∧ l.length ≤ 4) && riseF p (l.drop i))
  | 0, i, p, h, h0, h1 => by
    refine Ev.step (f := fun k => some (decide (1 ≤ l.length ∧ l.length ≤ 4))) (fun k => ?_) ((Ev.now _).eq ?_)
    · simp only [impl_ConfOk.l0]; rw [if_neg (by omega), impl_within_is, Option.bind_some]
      congr 1
      unfold inR
      congr 1
      simp only [eq_iff_iff]
      omega
    · rw [List.drop_of_length_le (by omega)]; simp [riseF]
  | d + 1, i, p, h, h0, h1 => by
    rw [rd_drop (l := l) (by omega)]
    have ih := impl_ConfOk_l0 l hl d (i + 1) (rd l (i : Int)) (by omega) (by omega) (fun _ => by simp)
    by_cases hin : 1 ≤ rd l (i : Int) ∧ rd l (i : Int) ≤ 4
    · by_cases hi : 0 < i
      · have hp := h1 hi
        have ei : wrap64 ((i : Int) - 1) = ((i - 1 : Nat) : Int) := by rw [w64 (by omega) (by omega)]; omega
        by_cases hlt : p < rd l (i : Int)
        · refine Ev.step (f := fun k => impl_ConfOk.l0 k l l (l.length : Int) ((i + 1 : Nat) : Int)) (fun k => ?_) (ih.eq ?_)
          · simp only [impl_ConfOk.l0]
            rw [if_pos (by omega), if_pos (by omega), if_pos (by omega), impl_within_is, Option.bind_some, if_pos (inR_iff.2 hin), if_pos (by omega), ei, if_pos (by omega), if_pos (by omega), if_neg (by omega)]
            rw [w64 (x := (i : Int) + 1) (by omega) (by omega)]; rfl
          · simp only [riseF]; rw [decide_eq_true (p := _ ∧ _ ∧ _) ⟨hin.1, hin.2, hlt⟩, Bool.true_and]
        · refine Ev.step (f := fun k => some false) (fun k => ?_) ((Ev.now _).eq ?_)
          · simp only [impl_ConfOk.l0]
            rw [if_pos (by omega), if_pos (by omega), if_pos (by omega), impl_within_is, Option.bind_some, if_pos (inR_iff.2 hin), if_pos (by omega), ei, if_pos (by omega), if_pos (by omega), if_pos (by omega)]
          · simp only [riseF]; rw [decide_eq_false (p := _ ∧ _ ∧ _) (fun e => hlt e.2.2), Bool.false_and, Bool.and_false]
      · have hp := h0 (by omega)
        refine Ev.step (f := fun k => impl_ConfOk.l0 k l l (l.length : Int) ((i + 1 : Nat) : Int)) (fun k => ?_) (ih.eq ?_)
        · simp only [impl_ConfOk.l0]
          rw [if_pos (by omega), if_pos (by omega), if_pos (by omega), impl_within_is, Option.bind_some, if_pos (inR_iff.2 hin), if_neg (by omega)]
          rw [w64 (x := (i : Int) + 1) (by omega) (by omega)]; rfl
        · simp only [riseF]; rw [decide_eq_true (p := _ ∧ _ ∧ _) ⟨hin.1, hin.2, by omega⟩, Bool.true_and]
    · refine Ev.step (f := fun k => some false) (fun k => ?_) ((Ev.now _).eq ?_)
      · simp only [impl_ConfOk.l0]
        rw [if_pos (by omega), if_pos (by omega), if_pos (by omega), impl_within_is, Option.bind_some, if_neg (fun e => hin (inR_iff.1 e))]
      · simp only [riseF]; rw [decide_eq_false (p := _ ∧ _ ∧ _) (fun e => hin ⟨e.1, e.2.1⟩), Bool.false_and, Bool.and_false]
theorem impl_ConfOk_ev (l : List Int) (hl : l.length ≤ 35184372088832) : Ev (fun k => impl_ConfOk.f k l) (confOk l) := by
  have := impl_ConfOk_l0 l hl l.length 0 0 (by omega) (fun _ => rfl) (fun h => absurd h (by omega))
  exact this
theorem impl_ConfText_l0 (l : List Int) (hl : l.length ≤ 35184372088832) : ∀ (d i : Nat) (acc : List Int), i + d = l.length → acc.length ≤ i →
    Ev (fun k => impl_ConfText.l0 k acc l (l.length : Int) (i : Int)) (strOfNums (acc ++ (l.drop i).map (· % 256)), true)
  | 0, i, acc, h, ha => by
    refine Ev.step (f := fun k => some (strOfNums acc, true)) (fun k => ?_) ((Ev.now _).eq ?_)
    · simp only [impl_ConfText.l0]; rw [if_neg (by omega)]
    · rw [List.drop_of_length_le (by omega)]; simp
  | d + 1, i, acc, h, ha => by
    refine Ev.step (f := fun k => impl_ConfText.l0 k (acc ++ [rd l i % 256]) l (l.length : Int) ((i + 1 : Nat) : Int)) (fun k => ?_) ((impl_ConfText_l0 l hl d (i + 1) _ (by omega) (by simp; omega)).eq ?_)
    · simp only [impl_ConfText.l0]
      rw [if_pos (by omega), if_pos (by omega), if_pos (by omega), if_pos (by omega), w64 (x := (i : Int) + 1) (by omega) (by omega)]
      rfl
    · rw [rd_drop (l := l) (i := i) (by omega)]; simp
theorem impl_ConfText_ev (l : List Int) (hl : l.length ≤ 35184372088832) : Ev (fun k => impl_ConfText.f k l) (confT l) := by
  unfold impl_ConfText.f confT
  refine Ev.bind (impl_ConfOk_ev l hl) ?_
  by_cases h : confOk l = true
  · rw [if_pos h]
    refine Ev.pos h ?_
    exact impl_ConfText_l0 l hl l.length 0 [] (by omega) (by simp)
  · rw [if_neg h]; exact Ev.neg h (Ev.now _)
theorem impl_ShortText_ev (s : ByteArray) : Ev (fun k => impl_ShortText.f k s) (shortText s) := by
  unfold impl_ShortText.f shortText
  by_cases h : s.size ≤ 20000
  · rw [if_pos h]
    refine Ev.neg (by omega) (Ev.bind (impl_VarText_ev (s.size : Int)) (Ev.is ?_))
    have := vt_size5 s.size (by omega)
    rw [varText_ok (by omega) (by omega), Int.toNat_natCast]
    simp only
    rw [if_pos (by omega)]
  · rw [if_neg h]; exact Ev.pos (by omega) (Ev.now _)
theorem impl_SumMore_l1 {s : ByteArray} {i r : Int} : ∀ (d : Nat) (j x0 : Int), 0 ≤ j → j + d = 8 → Ev (fun k => impl_SumMore.l0 k (halves d x0) s (wrap64 (i + 1))) r → Ev (fun k => impl_SumMore.l1 k x0 s i j) r
  | 0, j, x0, h0, h, hk => by
    refine Ev.step (f := fun k => impl_SumMore.l0 k x0 s (wrap64 (i + 1))) (fun k => ?_) hk
    simp only [impl_SumMore.l1]; rw [if_neg (by omega)]
  | d + 1, j, x0, h0, h, hk => by
    refine Ev.step (f := fun k => impl_SumMore.l1 k (half x0) s i (j + 1)) (fun k => ?_) (impl_SumMore_l1 d (j + 1) (half x0) (by omega) (by omega) hk)
    simp only [impl_SumMore.l1]; rw [if_pos (by omega), w64 (x := j + 1) (by omega) (by omega)]
    unfold half
    split <;> rfl
theorem impl_SumMore_l0 (s : ByteArray) (hs : s.size ≤ 140737488351232) : ∀ (d i : Nat) (x0 : Int), i + d = s.size → Ev (fun k => impl_SumMore.l0 k x0 s i) (sumL x0 ((bytesOf s).drop i))
  | 0, i, x0, h => by
    refine Ev.step (f := fun k => some x0) (fun k => ?_) ((Ev.now _).eq ?_)
    · simp only [impl_SumMore.l0]; rw [if_neg (by omega)]
    · rw [List.drop_of_length_le (by rw [bytesOf_length]; omega)]; rfl
  | d + 1, i, x0, h => by
    refine Ev.step (f := fun k => impl_SumMore.l1 k (Go.bits .xor .u32 x0 (bt s i % 4294967296)) s i 0) (fun k => ?_) (impl_SumMore_l1 8 0 _ (by omega) (by omega) ?_)
    · simp only [impl_SumMore.l0]; rw [if_pos (by omega), if_pos (by omega)]
    · rw [w64 (x := (i : Int) + 1) (by omega) (by omega)]
      have := impl_SumMore_l0 s hs d (i + 1) (halves 8 (Go.bits .xor .u32 x0 (bt s i % 4294967296))) (by omega)
      rw [bytes_drop (by omega)]
      exact this
theorem impl_SumMore_ev (x : Int) (s : ByteArray) (hs : s.size ≤ 140737488351232) : Ev (fun k => impl_SumMore.f k x s) (sumL x (bytesOf s)) := by
  have := impl_SumMore_l0 s hs s.size 0 x (by omega)
  exact this
theorem impl_SumOf_ev (s : ByteArray) (hs : s.size ≤ 140737488351232) : Ev (fun k => impl_SumOf.f k s) (sumOf s) := by
  unfold impl_SumOf.f
  exact Ev.bind (impl_SumMore_ev _ s hs) (Ev.now _)
theorem impl_Sealed_ev (s : ByteArray) : Ev (fun k => impl_Sealed.f k s) (sealed s) := by
  unfold impl_Sealed.f sealed
  by_cases h : s.size ≤ 20000
  · rw [if_pos h]
    refine Ev.neg (by omega) (Ev.bind (impl_SumOf_ev s (by omega)) (Ev.bind0 (a := fourL (sumOf s)) rfl (Ev.is ?_)))
    show (if s.size + (four (sumOf s)).size ≤ _ then some (s ++ four (sumOf s), true) else none) = _
    rw [if_pos (by rw [four_size]; omega)]
  · rw [if_neg h]; exact Ev.pos (by omega) (Ev.now _)
theorem impl_SnapText_ev (i t : Int) (l : List Int) (body : ByteArray) (hl : l.length ≤ 35184372088832) (hb : body.size ≤ 1048576) : Ev (fun k => impl_SnapText.f k i t l body) (snapText i t l body) := by
  have no : ∀ c x, ¬ (confOk l = true ∧ (0 ≤ i ∧ i ≤ 1000000) ∧ (0 ≤ t ∧ t ≤ 100000) ∧ body.size ≤ 20000) → x = true → Ev (fun k => impl_SnapText.j0 k c x i t l body) (snapText i t l body) := by
    intro c x h hx
    rw [snapText, if_neg (fun e => h e.1), hx]
    exact Ev.step (fun k => rfl) (Ev.now _)
  unfold impl_SnapText.f
  refine Ev.bind (impl_ConfText_ev l hl) ?_
  by_cases h0 : confOk l = true
  · refine Ev.pos (by rw [confT_ok h0]) (Ev.bind0 (impl_within_is _ _ _) ?_)
    by_cases h1 : 0 ≤ i ∧ i ≤ 1000000
    · refine Ev.pos (inR_iff.2 h1) (Ev.bind0 (impl_within_is _ _ _) ?_)
      by_cases h2 : 0 ≤ t ∧ t ≤ 100000
      · refine Ev.pos (inR_iff.2 h2) ?_
        by_cases h3 : body.size ≤ 20000
        · rw [decide_eq_false (p := (body.size : Int) > 20000) (by omega)]
          have hc := confT_size h0
          have v1 := vt_size5 i.toNat (by omega)
          have v2 := vt_size5 t.toNat (by omega)
          have v3 := vt_size5 (confT l).1.size (by omega)
          have v4 := vt_size5 body.size (by omega)
          have s1 : shortText (confT l).1 = (vt (confT l).1.size ++ (confT l).1, true) := by rw [shortText, if_pos (by omega)]
          have s2 : shortText body = (vt body.size ++ body, true) := by rw [shortText, if_pos (by omega)]
          have hz : (snapIn i t (confT l).1 body).size = (vt i.toNat).size + (vt t.toNat).size + ((vt (confT l).1.size).size + (confT l).1.size) + ((vt body.size).size + body.size) := by
            simp only [snapIn, size_append]
          refine Ev.step (fun k => rfl) (Ev.bind (impl_vars_two (by omega) (by omega)) (Ev.bind (impl_ShortText_ev _) (Ev.bind (impl_ShortText_ev body) ?_)))
          rw [s1, s2]
          refine Ev.pos (by simp only [size_append]; omega) (Ev.pos (by simp only [size_append]; omega) ?_)
          change Ev (fun k => (impl_Sealed.f k (snapIn i t (confT l).1 body)).bind fun bt => (if bt.2 = true then (if (bt.1.size : Int) > 20000 then some ((⟨#[]⟩ : ByteArray), false) else some (bt.1, true)) else some ((⟨#[]⟩ : ByteArray), false))) _
          refine Ev.bind (impl_Sealed_ev _) (Ev.is ?_)
          by_cases h4 : (snapIn i t (confT l).1 body).size + 4 ≤ 20000
          · have e : snapText i t l body = (snapIn i t (confT l).1 body ++ four (sumOf (snapIn i t (confT l).1 body)), true) := by rw [snapText, if_pos ⟨⟨h0, h1, h2, h3⟩, h4⟩]
            rw [e, sealed_ok (by omega)]
            simp only [if_true]
            rw [if_neg (by rw [size_append, four_size]; omega)]
          · have e : snapText i t l body = (⟨#[]⟩, false) := by rw [snapText, if_neg (fun e => h4 e.2)]
            rw [e]
            by_cases h5 : (snapIn i t (confT l).1 body).size ≤ 20000
            · rw [sealed_ok h5]
              simp only [if_true]
              rw [if_pos (by rw [size_append, four_size]; omega)]
            · rw [sealed_no h5]; simp
        · exact no _ _ (fun e => h3 e.2.2.2) (decide_eq_true (by omega))
      · exact Ev.neg (fun e => h2 (inR_iff.1 e)) (no _ _ (fun e => h2 e.2.2.1) rfl)
    · exact Ev.neg (fun e => h1 (inR_iff.1 e)) (no _ _ (fun e => h1 e.2.1) rfl)
  · exact Ev.neg (by rw [confT_no h0]; simp) (no _ _ (fun e => h0 e.1) rfl)
theorem laws_eqIntS_l0 (l m : List Int) (hl : l.length ≤ 35184372088832) (hm : l.length = m.length) : ∀ (d i : Nat), i + d = l.length →
    Ev (fun k => laws_eqIntS.l0 k l m (i : Int)) (decide (l.drop i = m.drop i))
  | 0, i, h => by
    refine Ev.step (f := fun k => some true) (fun k => ?_) ((Ev.now _).eq ?_)
    · simp only [laws_eqIntS.l0]; rw [if_neg (by omega)]
    · rw [List.drop_of_length_le (by omega), List.drop_of_length_le (by omega)]; rfl
  | d + 1, i, h => by
    rw [rd_drop (l := l) (by omega), rd_drop (l := m) (by omega)]
    by_cases e : rd l (i : Int) = rd m (i : Int)
    · refine Ev.step (f := fun k => laws_eqIntS.l0 k l m ((i + 1 : Nat) : Int)) (fun k => ?_) ((laws_eqIntS_l0 l m hl hm d (i + 1) (by omega)).eq ?_)
      · simp only [laws_eqIntS.l0]
        rw [if_pos (by omega), if_pos (by omega), if_pos (by omega), if_pos e, w64 (x := (i : Int) + 1) (by omega) (by omega)]
        rfl
      · simp [e]
    · refine Ev.step (f := fun k => some false) (fun k => ?_) ((Ev.now _).eq ?_)
      · simp only [laws_eqIntS.l0]
        rw [if_pos (by omega), if_pos (by omega), if_pos (by omega), if_neg e]
      · simp [e]
theorem laws_eqIntS_ev (l m : List Int) (hl : l.length ≤ 35184372088832) : Ev (fun k => laws_eqIntS.f k l m) (decide (l = m)) := by
  unfold laws_eqIntS.f
  by_cases h : l.length = m.length
  · refine Ev.pos (by omega) ((laws_eqIntS_l0 l m hl h l.length 0 (by omega)).eq (by simp))
  · refine Ev.neg (by omega) ((Ev.now _).eq ?_)
    rw [eq_comm, decide_eq_false_iff_not]
    intro e; exact h (by rw [e])
theorem laws_eqSnap_ev (a b : Int) (l : List Int) (s : ByteArray) (hl : l.length ≤ 1048576) : Ev (fun k => laws_eqSnap.f k a b l s a b l s) true := by
  unfold laws_eqSnap.f
  exact Ev.pos rfl (Ev.pos rfl (Ev.bind (laws_eqIntS_ev l l (by omega)) (Ev.pos (by simp) (Ev.pos rfl (Ev.now _)))))
theorem FnExactSnapText : laws_FnExactSnapText.Pure := by
  intro a b l s hg
  obtain ⟨_, _, hl, hs⟩ := hg
  apply Ev.rounds
  unfold laws_FnExactSnapText.f
  obtain ⟨r, hr, hx⟩ := laws_szSnap_is a b l s hl.1 hs
  refine Ev.bind0 hr ?_
  rcases hx with hx | ⟨hx0, hx1, hx2, hx3⟩
  · exact Ev.pos hx (Ev.now _)
  · refine Ev.neg (by omega) (Ev.bind (laws_toSnap_ev a b l s hx2) (Ev.bind (spec_SnapText_ev a b l s (by omega) hx3) (Ev.bind (laws_toSnap_ev a b l s hx2) (Ev.bind (impl_SnapText_ev a b l s (by omega) hx3) (Ev.pos rfl ?_)))))
    exact Ev.step (fun k => rfl) (Ev.neg (by simp) (Ev.bind (laws_toSnap_ev a b l s hx2) (Ev.bind (laws_eqSnap_ev a b l s hx2) (Ev.pos rfl (Ev.now _)))))

end Go.Proofs.Ythddngmncmhkoaa.Pure
