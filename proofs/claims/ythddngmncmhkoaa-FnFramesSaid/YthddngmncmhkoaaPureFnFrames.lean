/- The law FnFrames answers true at every input; no condition. -/
import Derived.Test.YthddngmncmhkoaaQFnFramesx4
import Derived.Test.YthddngmncmhkoaaMath
namespace Go.Proofs.Ythddngmncmhkoaa.Pure
open Go.RowKit Go.Proofs.Ythddngmncmhkoaa.QFnFrames Go.Proofs.YthddngmncmhkoaaW.PrintWords Go.Proofs.YthddngmncmhkoaaW.PrintLast Go.Proofs.YthddngmncmhkoaaW.PrintMore Go.Proofs.Ythddngmncmhkoaa.M
set_option linter.unusedVariables false
set_option linter.unusedSimpArgs false
set_option maxRecDepth 4000

theorem laws_big_is (l : List Int) : laws_big.f l = some (decide ((l.length : Int) > 1048576)) := rfl
theorem spec_l01New_l0 (s : List Int) (hs : s.length ≤ 140737488355328) : ∀ (d : Nat) (i h : Int), 0 ≤ i → 4000 ≤ i + d → ∃ h', Ev (fun k => spec_l01New.l0 k s h i) (s, 0, h')
  | 0, i, h, h0, h1 => by
    refine ⟨h, Ev.step (f := fun k => some (s, 0, h)) (fun k => ?_) (Ev.now _)⟩
    simp only [spec_l01New.l0]
    rw [if_neg (show ¬ i < 4000 by omega)]
    split <;> rfl
  | d + 1, i, h, h0, h1 => by
    by_cases e : i < (s.length : Int)
    · by_cases e2 : i < 4000
      · obtain ⟨h', hh⟩ := spec_l01New_l0 s hs d (i + 1) (Go.bits .and .i64 (wrap64 ((wrap64 ((wrap64 (h * 131)) + (wrap64 (rd s i)))) + 7)) 1073741823) (by omega) (by omega)
        refine ⟨h', Ev.step (f := fun k => spec_l01New.l0 k s (Go.bits .and .i64 (wrap64 ((wrap64 ((wrap64 (h * 131)) + (wrap64 (rd s i)))) + 7)) 1073741823) (i + 1)) (fun k => ?_) hh⟩
        simp only [spec_l01New.l0]
        rw [if_pos e, if_pos e2, if_pos h0, w64 (x := i + 1) (by omega) (by omega)]
      · refine ⟨h, Ev.step (f := fun k => some (s, 0, h)) (fun k => ?_) (Ev.now _)⟩
        simp only [spec_l01New.l0]
        rw [if_pos e, if_neg e2]
    · refine ⟨h, Ev.step (f := fun k => some (s, 0, h)) (fun k => ?_) (Ev.now _)⟩
      simp only [spec_l01New.l0]
      rw [if_neg e]
theorem spec_l01New_ev (s : List Int) (hs : s.length ≤ 140737488355328) : ∃ h, Ev (fun k => spec_l01New.f k s) (s, 0, h) := by
  unfold spec_l01New.f
  exact spec_l01New_l0 s hs 4000 0 _ (by omega) (by omega)
theorem and255 (x : Int) : 0 ≤ Go.bits .and .i64 x 255 ∧ Go.bits .and .i64 x 255 ≤ 255 := by
  have h : (BitVec.ofInt 64 x &&& BitVec.ofInt 64 255).toNat ≤ 255 := by rw [BitVec.toNat_and]; exact Nat.le_trans Nat.and_le_right (by decide)
  change 0 ≤ IntKind.i64.wrap ((BitVec.ofInt 64 x &&& BitVec.ofInt 64 255).toNat : Int) ∧ IntKind.i64.wrap ((BitVec.ofInt 64 x &&& BitVec.ofInt 64 255).toNat : Int) ≤ 255
  generalize (BitVec.ofInt 64 x &&& BitVec.ofInt 64 255).toNat = v at h ⊢
  rw [IntKind.wrap_i64]
  omega
def DR (s : List Int) (i : Int) : Prop := 0 ≤ i ∧ i ≤ (s.length : Int)
theorem spec_l01Byte_is (s : List Int) (hs : s.length ≤ 140737488355328) (i h : Int) (hd : DR s i) : ∃ r i' h', spec_l01Byte.f s i h = some (r, i', h') ∧ (0 ≤ r ∧ r ≤ 255) ∧ DR s i' := by
  obtain ⟨h0, h1⟩ := hd
  unfold spec_l01Byte.f
  by_cases e : i < (s.length : Int)
  · rw [if_pos e, if_pos h0]
    exact ⟨_, _, _, rfl, and255 _, by rw [w64 (by omega) (by omega)]; exact ⟨by omega, by omega⟩⟩
  · rw [if_neg e]
    exact ⟨_, _, _, rfl, and255 _, h0, h1⟩
theorem spec_l01Below_is (s : List Int) (hs : s.length ≤ 140737488355328) (i h n : Int) (hd : DR s i) (hn : 0 < n ∧ n ≤ 1000000000) : ∃ r i' h', spec_l01Below.f s i h n = some (r, i', h') ∧ (0 ≤ r ∧ r < n) ∧ DR s i' := by
  unfold spec_l01Below.f
  rw [if_neg (by omega)]
  obtain ⟨x, i1, h1, e1, hx, d1⟩ := spec_l01Byte_is s hs i h hd
  by_cases e : n ≤ 256
  · rw [if_pos e, e1, Option.bind_some, if_neg (by omega), tm (by simp only; omega)]
    refine ⟨_, _, _, rfl, ⟨Int.emod_nonneg _ (by omega), Int.emod_lt_of_pos _ (by omega)⟩, d1⟩
  · rw [if_neg e, e1, Option.bind_some]
    obtain ⟨y, i2, h2, e2, hy, d2⟩ := spec_l01Byte_is s hs i1 h1 d1
    obtain ⟨z, i3, h3, e3, hz, d3⟩ := spec_l01Byte_is s hs i2 h2 d2
    obtain ⟨v, i4, h4, e4, hv, d4⟩ := spec_l01Byte_is s hs i3 h3 d3
    simp only [e2, e3, e4, Option.bind_some]
    rw [if_neg (by omega), w64 (x := x * 16777216) (by omega) (by omega), w64 (x := y * 65536) (by omega) (by omega), w64 (x := z * 256) (by omega) (by omega), w64 (x := x * 16777216 + y * 65536) (by omega) (by omega), w64 (x := x * 16777216 + y * 65536 + z * 256) (by omega) (by omega), w64 (by omega) (by omega), tm (by omega)]
    refine ⟨_, _, _, rfl, ⟨Int.emod_nonneg _ (by omega), Int.emod_lt_of_pos _ (by omega)⟩, d4⟩
theorem spec_DrawPlaces_l0 (s : List Int) (hs : s.length ≤ 140737488355328) : ∀ (d : Nat) (acc : List Int) (i a b : Int), 0 ≤ i → i + d = 12 → (acc.length : Int) = i → (∀ x ∈ acc, 0 ≤ x ∧ x < 10000) → DR s a → ∃ p, Ev (fun k => spec_DrawPlaces.l0 k acc i s a b) p ∧ p.length = 12 ∧ ∀ x ∈ p, 0 ≤ x ∧ x < 10000
  | 0, acc, i, a, b, h0, h1, h2, h3, hd => by
    refine ⟨acc, Ev.step (f := fun k => some acc) (fun k => ?_) (Ev.now _), by omega, h3⟩
    simp only [spec_DrawPlaces.l0]
    rw [if_neg (by omega)]
  | d + 1, acc, i, a, b, h0, h1, h2, h3, hd => by
    obtain ⟨x, a1, b1, e1, hx, d1⟩ := spec_l01Below_is s hs a b 10000 hd (by omega)
    obtain ⟨p, hp, hq⟩ := spec_DrawPlaces_l0 s hs d (acc ++ [x]) (i + 1) a1 b1 (by omega) (by omega) (by simp; omega) (by
      intro y hy
      rcases List.mem_append.1 hy with hy | hy
      · exact h3 y hy
      · rw [List.mem_singleton.1 hy]; exact hx) d1
    refine ⟨p, Ev.step (f := fun k => spec_DrawPlaces.l0 k (acc ++ [x]) (i + 1) s a1 b1) (fun k => ?_) hp, hq⟩
    simp only [spec_DrawPlaces.l0]
    rw [if_pos (by omega), e1, Option.bind_some, if_pos (by omega), w64 (x := i + 1) (by omega) (by omega)]
theorem spec_DrawPlaces_ev (s : List Int) (hs : s.length ≤ 140737488355328) : ∃ p, Ev (fun k => spec_DrawPlaces.f k s) p ∧ p.length = 12 ∧ ∀ x ∈ p, 0 ≤ x ∧ x < 10000 := by
  obtain ⟨h, hh⟩ := spec_l01New_ev s hs
  obtain ⟨x, a1, b1, e1, hx, d1⟩ := spec_l01Byte_is s hs 0 h ⟨by omega, by omega⟩
  obtain ⟨p, hp, hq⟩ := spec_DrawPlaces_l0 s hs 12 [] 0 a1 b1 (by omega) (by omega) (by simp) (by simp) d1
  refine ⟨p, ?_, hq⟩
  unfold spec_DrawPlaces.f
  exact Ev.bind hh (Ev.bind0 e1 hp)
theorem spec_l01Text_l0 (s : List Int) (hs : s.length ≤ 140737488355328) (n : Int) : ∀ (d : Nat) (acc : List Int) (i a b : Int), 0 ≤ i → i ≤ 5000 → n ≤ i + d → n ≤ 5000 → acc.length ≤ i → DR s a → ∃ t a' b', Ev (fun k => spec_l01Text.l0 k n acc i s a b) (t, a', b') ∧ DR s a'
  | 0, acc, i, a, b, h0, h1, h2, h3, h4, hd => by
    refine ⟨_, _, _, Ev.step (f := fun k => some (strOfNums acc, a, b)) (fun k => ?_) (Ev.now _), hd⟩
    simp only [spec_l01Text.l0]
    rw [if_neg (by omega)]
  | d + 1, acc, i, a, b, h0, h1, h2, h3, h4, hd => by
    by_cases e : i < n
    · obtain ⟨x, a1, b1, e1, hx, d1⟩ := spec_l01Byte_is s hs a b hd
      obtain ⟨t, a', b', ht, d2⟩ := spec_l01Text_l0 s hs n d (acc ++ [x % 256]) (i + 1) a1 b1 (by omega) (by omega) (by omega) h3 (by simp; omega) d1
      refine ⟨t, a', b', Ev.step (f := fun k => spec_l01Text.l0 k n (acc ++ [x % 256]) (i + 1) s a1 b1) (fun k => ?_) ht, d2⟩
      simp only [spec_l01Text.l0]
      rw [if_pos e, e1, Option.bind_some, if_pos (by omega), w64 (x := i + 1) (by omega) (by omega)]
    · refine ⟨_, _, _, Ev.step (f := fun k => some (strOfNums acc, a, b)) (fun k => ?_) (Ev.now _), hd⟩
      simp only [spec_l01Text.l0]
      rw [if_neg e]
theorem spec_l01Text_ev (s : List Int) (hs : s.length ≤ 140737488355328) (a b n : Int) (hn : n ≤ 5000) (hd : DR s a) : ∃ t a' b', Ev (fun k => spec_l01Text.f k s a b n) (t, a', b') ∧ DR s a' := by
  obtain ⟨t, a', b', ht, d2⟩ := spec_l01Text_l0 s hs n 5000 [] 0 a b (by omega) (by omega) (by omega) hn (by simp) hd
  refine ⟨t, a', b', ?_, d2⟩
  unfold spec_l01Text.f
  exact Ev.neg (by omega) (Ev.step (f := fun k => spec_l01Text.l0 k n [] 0 s a b) (fun k => by simp only [spec_l01Text.j0]) ht)
theorem spec_l01Once_is (s : List Int) (hs : s.length ≤ 140737488355328) (i h n : Int) (hd : DR s i) (hn : 0 < n ∧ n ≤ 1000000000) : ∃ r i' h', spec_l01Once.f s i h n = some (r, i', h') ∧ DR s i' := by
  obtain ⟨x, i1, h1, e1, hx, d1⟩ := spec_l01Below_is s hs i h n hd hn
  unfold spec_l01Once.f
  rw [e1, Option.bind_some]
  exact ⟨_, _, _, rfl, d1⟩
theorem spec_l01Long_l0 (n x : Int) (hn : 0 ≤ n ∧ n ≤ 100000) : ∀ (d : Nat) (acc : List Int) (i : Int), 0 ≤ i → n ≤ i + d → i ≤ n → acc.length = n.toNat → ∃ t, Ev (fun k => spec_l01Long.l0 k n x acc i) t
  | 0, acc, i, h0, h1, h2, h3 => by
    refine ⟨_, Ev.step (f := fun k => some (strOfNums acc)) (fun k => ?_) (Ev.now _)⟩
    simp only [spec_l01Long.l0]
    rw [if_neg (by omega)]
  | d + 1, acc, i, h0, h1, h2, h3 => by
    by_cases e : i < n
    · obtain ⟨t, ht⟩ := spec_l01Long_l0 n x hn d (acc.set i.toNat x) (i + 1) (by omega) (by omega) (by omega) (by simpa using h3)
      refine ⟨t, Ev.step (f := fun k => spec_l01Long.l0 k n x (acc.set i.toNat x) (i + 1)) (fun k => ?_) ht⟩
      simp only [spec_l01Long.l0]
      rw [if_pos e, if_pos h0, if_pos (by omega), w64 (x := i + 1) (by omega) (by omega)]
    · refine ⟨_, Ev.step (f := fun k => some (strOfNums acc)) (fun k => ?_) (Ev.now _)⟩
      simp only [spec_l01Long.l0]
      rw [if_neg e]
theorem spec_l01Long_ev (n x : Int) (hn : 0 ≤ n ∧ n ≤ 100000) : ∃ t, Ev (fun k => spec_l01Long.f k n x) t := by
  obtain ⟨t, ht⟩ := spec_l01Long_l0 n x hn n.toNat (List.replicate n.toNat 0) 0 (by omega) (by omega) (by omega) (by simp)
  refine ⟨t, ?_⟩
  unfold spec_l01Long.f
  exact Ev.pos hn.1 (Ev.pos (by omega) ht)
theorem spec_DrawHex_ev (s : List Int) (hs : s.length ≤ 140737488355328) : ∃ t, Ev (fun k => spec_DrawHex.f k s) t := by
  obtain ⟨h, hh⟩ := spec_l01New_ev s hs
  obtain ⟨r, a1, b1, e1, d1⟩ := spec_l01Once_is s hs 0 h 60 ⟨by omega, by omega⟩ (by omega)
  unfold spec_DrawHex.f
  cases r with
  | true =>
    obtain ⟨x, a2, b2, e2, hx, d2⟩ := spec_l01Below_is s hs a1 b1 2 d1 (by omega)
    obtain ⟨t, ht⟩ := spec_l01Long_ev (wrap64 (20000 + x)) 200 (by rw [w64 (by omega) (by omega)]; omega)
    exact ⟨t, Ev.bind hh (Ev.bind0 e1 (Ev.pos rfl (Ev.bind0 e2 (Ev.bind ht (Ev.now _)))))⟩
  | false =>
    obtain ⟨x, a2, b2, e2, hx, d2⟩ := spec_l01Below_is s hs a1 b1 30 d1 (by omega)
    obtain ⟨t, a', b', ht, d3⟩ := spec_l01Text_ev s hs a2 b2 x (by omega) d2
    exact ⟨t, Ev.bind hh (Ev.bind0 e1 (Ev.neg (by simp) (Ev.bind0 e2 (Ev.bind ht (Ev.now _)))))⟩
theorem impl_within_is (a b c : Int) : impl_within.f a b c = some (inR a b c) := by
  unfold impl_within.f inR
  by_cases h : a ≥ b
  · rw [if_pos h]; congr 1; simp; omega
  · rw [if_neg h]; congr 1; simp; omega
theorem impl_VarText_l0 : ∀ (n : Nat) (acc : List Int), acc.length + n < 140737488355328 → Ev (fun k => impl_VarText.l0 k (n : Int) acc) (strOfNums (acc ++ varL n), true) := by
  intro n
  induction n using Nat.strongRecOn with
  | _ n ih =>
    intro acc ha
    by_cases h : 127 < n
    · refine Ev.step (f := fun k => impl_VarText.l0 k ((n / 128 : Nat) : Int) (acc ++ [((n % 128 + 128 : Nat) : Int)])) (fun k => ?_) ?_
      · simp only [impl_VarText.l0]
        rw [if_pos (by omega), if_pos (by omega), td (by omega), tm (by omega)]
        rw [w64 (x := (n : Int) / 128) (by omega) (by omega), w64 (x := (n : Int) % 128 + 128) (by omega) (by omega)]
        congr 3
        omega
      · refine (ih (n / 128) (by omega) _ (by simp; omega)).eq ?_
        rw [varL_big h, List.append_assoc]; rfl
    · refine Ev.step (f := fun k => some (strOfNums (acc ++ varL n), true)) (fun k => ?_) (Ev.now _)
      simp only [impl_VarText.l0]
      rw [if_neg (by omega), if_pos (by omega), varL_small h]
      congr 5
      omega
theorem impl_VarText_ev (n : Int) : Ev (fun k => impl_VarText.f k n) (varText n) := by
  unfold impl_VarText.f
  refine Ev.bind0 (impl_within_is _ _ _) ?_
  by_cases h : 0 ≤ n ∧ n ≤ 1000000000
  · refine Ev.pos (inR_iff.2 h) ?_
    have := impl_VarText_l0 n.toNat [] (by simp; omega)
    rw [Int.toNat_of_nonneg h.1] at this
    refine this.eq ?_
    rw [varText, if_pos h]; rfl
  · refine Ev.neg (fun e => h (inR_iff.1 e)) (Ev.is ?_)
    rw [varText, if_neg h]
theorem impl_SumMore_l1 {s : ByteArray} {i r : Int} : ∀ (d : Nat) (j x0 : Int), 0 ≤ j → j + d = 8 → Ev (fun k => impl_SumMore.l0 k (halves d x0) s (wrap64 (i + 1))) r → Ev (fun k => impl_SumMore.l1 k x0 s i j) r
  | 0, j, x0, h0, h, hk => by
    refine Ev.step (f := fun k => impl_SumMore.l0 k x0 s (wrap64 (i + 1))) (fun k => ?_) hk
    simp only [impl_SumMore.l1]; rw [if_neg (by omega)]
  | d + 1, j, x0, h0, h, hk => by
    refine Ev.step (f := fun k => impl_SumMore.l1 k (half x0) s i (j + 1)) (fun k => ?_) (impl_SumMore_l1 d (j + 1) (half x0) (by omega) (by omega) hk)
    simp only [impl_SumMore.l1]; rw [if_pos (by omega), w64 (x := j + 1) (by omega) (by omega)]
    unfold half
    split <;> rfl
theorem impl_SumMore_l0 (s : ByteArray) (hs : s.size ≤ 140737488351232) : ∀ (d i : Nat) (x0 : Int), i + d = s.size → Ev (fun k => impl_SumMore.l0 k x0 s i) (sumL x0 ((bytesOf s).drop i))
  | 0, i, x0, h => by
    refine Ev.step (f := fun k => some x0) (fun k => ?_) ((Ev.now _).eq ?_)
    · simp only [impl_SumMore.l0]; rw [if_neg (by omega)]
    · rw [List.drop_of_length_le (by rw [bytesOf_length]; omega)]; rfl
  | d + 1, i, x0, h => by
    refine Ev.step (f := fun k => impl_SumMore.l1 k (Go.bits .xor .u32 x0 (bt s i % 4294967296)) s i 0) (fun k => ?_) (impl_SumMore_l1 8 0 _ (by omega) (by omega) ?_)
    · simp only [impl_SumMore.l0]; rw [if_pos (by omega), if_pos (by omega)]
    · rw [w64 (x := (i : Int) + 1) (by omega) (by omega)]
      have := impl_SumMore_l0 s hs d (i + 1) (halves 8 (Go.bits .xor .u32 x0 (bt s i % 4294967296))) (by omega)
      rw [bytes_drop (by omega)]
      exact this
theorem impl_SumMore_ev (x : Int) (s : ByteArray) (hs : s.size ≤ 140737488351232) : Ev (fun k => impl_SumMore.f k x s) (sumL x (bytesOf s)) := by
  have := impl_SumMore_l0 s hs s.size 0 x (by omega)
  exact this
theorem impl_SumOf_ev (s : ByteArray) (hs : s.size ≤ 140737488351232) : Ev (fun k => impl_SumOf.f k s) (sumOf s) := by
  unfold impl_SumOf.f
  exact Ev.bind (impl_SumMore_ev _ s hs) (Ev.now _)
theorem impl_Frame_ev (s : ByteArray) (hs : s.size ≤ 140737488351232) : Ev (fun k => impl_Frame.f k s) (frame s) := by
  unfold impl_Frame.f frame
  refine Ev.bind0 (impl_within_is _ _ _) ?_
  by_cases h : 1 ≤ s.size ∧ s.size ≤ 9000
  · rw [if_pos h]
    refine Ev.pos (inR_iff.2 (by omega)) (Ev.bind (impl_VarText_ev (s.size : Int)) (Ev.bind (impl_SumOf_ev s hs) (Ev.bind0 (a := fourL (sumOf s)) rfl (Ev.is ?_))))
    have := vt_size5 s.size (by omega)
    rw [varText_ok (by omega) (by omega), Int.toNat_natCast]
    simp only
    show (if (vt s.size).size + (four (sumOf s)).size ≤ _ then (if (vt s.size ++ four (sumOf s)).size + s.size ≤ _ then some (vt s.size ++ four (sumOf s) ++ s, true) else none) else none) = _
    rw [if_pos (by rw [four_size]; omega), if_pos (by rw [size_append, four_size]; omega)]
  · rw [if_neg h]
    exact Ev.neg (fun e => h (by have := inR_iff.1 e; omega)) (Ev.now _)
theorem impl_ReadVar_l0 (s : ByteArray) (hs : s.size ≤ 140737488351232) (a : Nat) : ∀ (f i n : Nat), i + f = 5 → n < 128 ^ i → a + i ≤ s.size →
    Ev (fun k => impl_ReadVar.l0 k s (a : Int) (n : Int) (i : Int))
      (match rvL f i n ((bytesOf s).drop (a + i)) with | some (n, m) => ((n : Int), (a : Int) + m, true) | none => (0, 0, false))
  | 0, i, n, hi, hn, h1 => by
    refine Ev.step (f := fun k => impl_ReadVar.j1 k s (a : Int) (n : Int) (i : Int) false) (fun k => ?_) ?_
    · simp only [impl_ReadVar.l0]
      rw [if_neg (by omega)]
    · refine Ev.step (f := fun _ => some (0, 0, false)) (fun k => ?_) (Ev.now _)
      simp only [impl_ReadVar.j1]; rfl
  | f + 1, i, n, hi, hn, h1 => by
    by_cases hlt : a + i < s.size
    · have hr := bt_range s ((a + i : Nat) : Int)
      have hp := pow_bound (i := i) (by omega)
      have hm := mul_bound (bt s ((a + i : Nat) : Int)).toNat (128 ^ i) hp.1
      have ei : (a : Int) + (i : Int) = ((a + i : Nat) : Int) := by omega
      rw [bytes_drop hlt]
      refine Ev.step (f := fun k => impl_ReadVar.j1 k s (a : Int) (n : Int) (i : Int) true) (fun k => ?_) ?_
      · simp only [impl_ReadVar.l0]
        rw [if_pos (by omega), w64 (x := (a : Int) + i) (by omega) (by omega)]
        rw [show decide ((a : Int) + i < (s.size : Int)) = true from by simp; omega]
      have hb : wrap64 (bt s ((a + i : Nat) : Int)) = bt s ((a + i : Nat) : Int) := w64 (by omega) (by omega)
      have e0 : shl .i64 (Int.tmod (bt s ((a + i : Nat) : Int)) 128) (7 * (i : Int)) = (((bt s ((a + i : Nat) : Int)).toNat % 128 * 128 ^ i : Nat) : Int) := by
        unfold shl
        rw [tm (by omega), i64_w, show (7 * (i : Int)).toNat = 7 * i from by omega, show min (7 * i) IntKind.i64.bits = 7 * i from by simp [IntKind.bits]; omega]
        have e7 : (2 : Int) ^ (7 * i) = ((128 ^ i : Nat) : Int) := by
          rw [show (128 : Nat) = 2 ^ 7 from rfl, ← Nat.pow_mul]; simp
        rw [e7, Int.natCast_mul, w64]
        · congr 1; omega
        · have := Int.mul_nonneg (a := bt s ((a + i : Nat) : Int) % 128) (b := ((128 ^ i : Nat) : Int)) (by omega) (by omega)
          omega
        · have e8 : bt s ((a + i : Nat) : Int) % 128 = (((bt s ((a + i : Nat) : Int)).toNat % 128 : Nat) : Int) := by omega
          rw [e8, ← Int.natCast_mul]; omega
      generalize hc : (bt s ((a + i : Nat) : Int)).toNat % 128 * 128 ^ i = q at *
      have e2 : wrap64 ((n : Int) + shl .i64 (Int.tmod (wrap64 (bt s ((a + i : Nat) : Int))) 128) (wrap64 (7 * (i : Int)))) = ((n + q : Nat) : Int) := by
        rw [hb, w64 (x := 7 * (i : Int)) (by omega) (by omega), e0, w64 (by omega) (by omega)]; omega
      by_cases hb' : bt s ((a + i : Nat) : Int) < 128
      · simp only [rvL, if_pos hb', hc]
        refine Ev.step (f := fun k => (impl_VarText.f k ((n + q : Nat) : Int)).bind fun bt => (if bt.2 = true then (if (bt.1.size : Int) = (i : Int) + 1 then some (((n + q : Nat) : Int), ((a + i + 1 : Nat) : Int), true) else some (0, 0, false)) else some (0, 0, false))) (fun k => ?_) ?_
        · simp only [impl_ReadVar.j1, if_true]
          rw [w64 (x := (a : Int) + i) (by omega) (by omega), ei, if_pos (by omega), if_pos (by omega), if_pos (by rw [w64 (by omega) (by omega)]; omega), hb, if_pos hb']
          rw [hb] at e2
          rw [e2, w64 (x := (i : Int) + 1) (by omega) (by omega), w64 (x := ((a + i : Nat) : Int) + 1) (by omega) (by omega)]
          rfl
        · refine Ev.bind (impl_VarText_ev _) (Ev.is ?_)
          by_cases hM : n + q ≤ 1000000000
          · rw [varText_ok (by omega) (by omega), Int.toNat_natCast]
            simp only [if_true, vt_size]
            by_cases hq : (varL (n + q)).length = i + 1
            · rw [if_pos (by omega), if_pos ⟨hM, hq⟩]
              simp only [Option.some.injEq, Prod.mk.injEq, and_true, true_and]; omega
            · rw [if_neg (by omega), if_neg (fun e => hq e.2)]
          · rw [varText_no (by omega), if_neg (c := _ ∧ _) (fun e => hM e.1)]; simp
      · simp only [rvL, if_neg hb', hc]
        refine Ev.step (f := fun k => impl_ReadVar.l0 k s (a : Int) ((n + q : Nat) : Int) ((i + 1 : Nat) : Int)) (fun k => ?_) (impl_ReadVar_l0 s hs a f (i + 1) (n + q) (by omega) ?_ (by omega))
        · simp only [impl_ReadVar.j1, if_true]
          rw [w64 (x := (a : Int) + i) (by omega) (by omega), ei, if_pos (by omega), if_pos (by omega), if_pos (by rw [w64 (by omega) (by omega)]; omega), hb, if_neg hb']
          rw [hb] at e2
          rw [e2, w64 (x := (i : Int) + 1) (by omega) (by omega)]
          rfl
        · rw [Nat.pow_succ, ← hc]
          have h2 : (bt s ((a + i : Nat) : Int)).toNat % 128 ≤ 127 := by omega
          have h3 := Nat.mul_le_mul_right (128 ^ i) h2
          omega
    · rw [List.drop_of_length_le (by rw [bytesOf_length]; omega)]
      refine Ev.step (f := fun k => impl_ReadVar.j1 k s (a : Int) (n : Int) (i : Int) false) (fun k => ?_) ?_
      · simp only [impl_ReadVar.l0]
        rw [if_pos (by omega), w64 (x := (a : Int) + i) (by omega) (by omega)]
        rw [show decide ((a : Int) + i < (s.size : Int)) = false from by simp; omega]
      · refine Ev.step (f := fun _ => some (0, 0, false)) (fun k => ?_) (Ev.now _)
        simp only [impl_ReadVar.j1]; rfl
theorem impl_ReadVar_ev (s : ByteArray) (hs : s.size ≤ 140737488351232) (a : Int) : Ev (fun k => impl_ReadVar.f k s a) (readVar s a) := by
  unfold impl_ReadVar.f readVar
  refine Ev.bind0 (impl_within_is _ _ _) ?_
  by_cases h : 0 ≤ a ∧ a ≤ (s.size : Int)
  · rw [if_pos h]
    refine Ev.pos (inR_iff.2 h) ?_
    have := impl_ReadVar_l0 s hs a.toNat 5 0 0 rfl (by simp) (by omega)
    simp only [Nat.add_zero, Int.toNat_of_nonneg h.1] at this
    exact this
  · rw [if_neg h]
    exact Ev.neg (fun e => h (inR_iff.1 e)) (Ev.now _)
theorem impl_Unframe_l0 (s : ByteArray) (hs : s.size ≤ 20000) : ∀ (f a : Nat) (acc : List ByteArray), a + f = s.size → acc.length ≤ a →
    Ev (fun k => impl_Unframe.l0 k s acc (a : Int)) ((unf (f + 1) s acc a).1, ((unf (f + 1) s acc a).2 : Int)) := by
  intro f
  induction f using Nat.strongRecOn with
  | _ f ih =>
    intro a acc hf ha
    refine Ev.step (fun k => by simp only [impl_Unframe.l0]; rfl) (Ev.bind (impl_ReadVar_ev s (by omega) (a : Int)) ?_)
    simp only [unf, nextF]
    rcases readVar_cases s (a : Int) with h | ⟨n, m, h, hn, hm, _, hb, hv⟩
    · rw [h]
      have hv : rvar ((bytesOf s).drop a) = none := by
        unfold readVar at h
        rw [if_pos (by omega), Int.toNat_natCast] at h
        cases e : rvar ((bytesOf s).drop a) with
        | none => rfl
        | some p => obtain ⟨n, m⟩ := p; rw [e] at h; simp at h
      rw [hv]
      refine Ev.neg (by simp) (Ev.step (fun k => rfl) (Ev.now _))
    · rw [h]
      rw [Int.toNat_natCast] at hv
      rw [hv]
      refine Ev.pos rfl ?_
      simp only
      rw [w64 (x := (s.size : Int) - ((a : Int) + (m : Int))) (by omega) (by omega), w64 (x := (s.size : Int) - ((a : Int) + (m : Int)) - 4) (by omega) (by omega)]
      by_cases h1 : n + (a + m + 4) ≤ s.size
      · rw [decide_eq_false (p := (n : Int) > (s.size : Int) - ((a : Int) + (m : Int)) - 4) (by omega), if_pos h1]
        refine Ev.step (fun k => by simp only [impl_Unframe.j1, Bool.false_eq_true, if_false]; rfl) ?_
        rw [w64 (x := (a : Int) + (m : Int) + 4) (by omega) (by omega), w64 (x := (a : Int) + (m : Int) + 4 + (n : Int)) (by omega) (by omega)]
        have e1 : ((a : Int) + (m : Int) + 4).toNat = a + m + 4 := by omega
        have e2 : ((a : Int) + (m : Int) + 4 + (n : Int)).toNat = a + m + 4 + n := by omega
        rw [e1, e2]
        have hz := size_extract s (a + m + 4) (a + m + 4 + n) (by omega) (by omega)
        refine Ev.pos (by omega) (Ev.pos (by omega) (Ev.pos (by omega) (Ev.bind (impl_Frame_ev _ (by omega)) ?_)))
        by_cases h2 : (frame (s.extract (a + m + 4) (a + m + 4 + n))).2 = true
        · refine Ev.pos h2 (Ev.pos (by omega) (Ev.pos (by omega) ?_))
          rw [Int.toNat_natCast]
          by_cases h3 : (frame (s.extract (a + m + 4) (a + m + 4 + n))).1 = s.extract a (a + m + 4 + n)
          · refine Ev.pos ((toList_iff _ _).2 h3) (Ev.pos (by omega) ?_)
            rw [if_pos ⟨h2, h3⟩]
            have e3 : (a : Int) + (m : Int) + 4 + (n : Int) = ((a + m + 4 + n : Nat) : Int) := by omega
            rw [e3]
            refine (ih (s.size - (a + m + 4 + n)) (by omega) (a + m + 4 + n) (acc ++ [s.extract (a + m + 4) (a + m + 4 + n)]) (by omega) (by simp; omega)).eq ?_
            rw [unf_enough s (s.size - (a + m + 4 + n) + 1) f _ _ (by omega) (by omega) (by omega)]
          · refine Ev.neg (fun e => h3 ((toList_iff _ _).1 e)) ((Ev.now _).eq ?_)
            rw [if_neg (fun e => h3 e.2)]
        · refine Ev.neg h2 ((Ev.now _).eq ?_)
          rw [if_neg (fun e => h2 e.1)]
      · rw [decide_eq_true (p := (n : Int) > (s.size : Int) - ((a : Int) + (m : Int)) - 4) (by omega), if_neg h1]
        exact Ev.step (fun k => rfl) (Ev.now _)
theorem impl_Unframe_ev (s : ByteArray) : Ev (fun k => impl_Unframe.f k s) ((unframe s).1, ((unframe s).2 : Int)) := by
  unfold impl_Unframe.f unframe
  by_cases h : s.size ≤ 20000
  · rw [if_pos h]
    refine Ev.neg (by omega) ((impl_Unframe_l0 s h s.size 0 [] (by omega) (by simp)).eq ?_)
    rw [unf_enough s (s.size + 1) s.size _ _ (by omega) (by omega) (by omega)]
  · rw [if_neg h]; exact Ev.pos (by omega) (Ev.now _)
theorem laws_sameTexts_l0 (l : List ByteArray) (hl : l.length ≤ 35184372088832) : ∀ (d i : Nat), i + d = l.length → Ev (fun k => laws_sameTexts.l0 k l l (i : Int)) true
  | 0, i, h => by
    refine Ev.step (f := fun k => some true) (fun k => ?_) (Ev.now _)
    simp only [laws_sameTexts.l0]; rw [if_neg (by omega)]
  | d + 1, i, h => by
    refine Ev.step (f := fun k => laws_sameTexts.l0 k l l ((i + 1 : Nat) : Int)) (fun k => ?_) (laws_sameTexts_l0 l hl d (i + 1) (by omega))
    simp only [laws_sameTexts.l0]
    rw [if_pos (by omega), if_pos (by omega), if_pos (by omega), if_pos trivial, w64 (x := (i : Int) + 1) (by omega) (by omega)]; rfl
theorem laws_sameTexts_ev (l : List ByteArray) (hl : l.length ≤ 35184372088832) : Ev (fun k => laws_sameTexts.f k l l) true := by
  unfold laws_sameTexts.f
  exact Ev.pos rfl (laws_sameTexts_l0 l hl l.length 0 (by omega))
/-! the bytes of a number, read -/
theorem varL_parts (n : Nat) : ∀ (p : List Int) (c : Int) (q : List Int), varL n = p ++ c :: q → (q = [] → 0 ≤ c ∧ c < 128) ∧ (q ≠ [] → 128 ≤ c ∧ c < 256) := by
  induction n using Nat.strongRecOn with
  | _ n ih =>
    intro p c q h
    by_cases hn : 127 < n
    · rw [varL_big hn] at h
      cases p with
      | nil =>
        simp only [List.nil_append, List.cons.injEq] at h
        have hq : q ≠ [] := by
          intro e
          have := varL_pos (n / 128)
          rw [h.2, e] at this
          simp at this
        exact ⟨fun e => absurd e hq, fun _ => by omega⟩
      | cons a p =>
        simp only [List.cons_append, List.cons.injEq] at h
        exact ih (n / 128) (by omega) p c q h.2
    · rw [varL_small hn] at h
      cases p with
      | nil =>
        simp only [List.nil_append, List.cons.injEq] at h
        exact ⟨fun _ => by omega, fun e => absurd h.2.symm e⟩
      | cons a p => simp at h
theorem rvL_varL (n : Nat) (hn : n ≤ 1000000000) (rest : List Int) : ∀ (q p : List Int) (f : Nat), varL n = p ++ q → q ≠ [] → q.length ≤ f → rvL f p.length (valL p) (q ++ rest) = some (n, (varL n).length)
  | [], _, _, _, h, _ => absurd rfl h
  | c :: q, p, 0, _, _, hf => by simp at hf
  | c :: q, p, f + 1, h, _, hf => by
    have hc := varL_parts n p c q h
    simp only [List.cons_append, rvL]
    rw [← valL_snoc]
    by_cases hq : q = []
    · subst hq
      have hv : valL (p ++ [c]) = n := by rw [← h, valL_varL]
      rw [if_pos (hc.1 rfl).2, hv, if_pos ⟨hn, by rw [h]; simp⟩, h]
      simp
    · have h1 := hc.2 hq
      rw [if_neg (by omega)]
      have := rvL_varL n hn rest q (p ++ [c]) f (by rw [h]; simp) hq (by simpa using hf)
      rw [List.length_append] at this
      exact this
theorem rvar_varL (n : Nat) (hn : n ≤ 1000000000) (rest : List Int) : rvar (varL n ++ rest) = some (n, (varL n).length) := by
  have hl := varL_len n 4 (by omega)
  exact rvL_varL n hn rest (varL n) [] 5 rfl (by intro e; have := varL_pos n; rw [e] at this; simp at this) hl
theorem rvL_none : ∀ (f i n : Nat) (l : List Int), (∀ x ∈ l, 128 ≤ x) → rvL f i n l = none
  | 0, _, _, _, _ => rfl
  | _ + 1, _, _, [], _ => rfl
  | f + 1, i, n, c :: l, h => by
    have hc := h c (by simp)
    simp only [rvL]
    rw [if_neg (by omega)]
    exact rvL_none f _ _ l (fun x hx => h x (by simp [hx]))
theorem varL_head (n j : Nat) (h : j < (varL n).length) : ∀ x ∈ (varL n).take j, 128 ≤ x := by
  intro x hx
  obtain ⟨p, q, e⟩ := List.append_of_mem hx
  have e2 : varL n = p ++ x :: (q ++ (varL n).drop j) :=
    calc varL n = (varL n).take j ++ (varL n).drop j := (List.take_append_drop j _).symm
      _ = p ++ x :: (q ++ (varL n).drop j) := by rw [e]; simp
  refine ((varL_parts n p x _ e2).2 ?_).1
  intro e3
  have : ((varL n).drop j).length = 0 := by rw [List.append_eq_nil_iff.1 e3 |>.2]; rfl
  rw [List.length_drop] at this
  omega
/-! frames, one behind the other -/
def fr (t : ByteArray) : ByteArray := vt t.size ++ four (sumOf t) ++ t
def cat : List ByteArray → ByteArray
  | [] => ⟨#[]⟩
  | t :: l => fr t ++ cat l
def fits : List ByteArray → Nat → Nat
  | [], _ => 0
  | t :: l, j => if (fr t).size ≤ j then fits l (j - (fr t).size) + 1 else 0
theorem frame_fr {t : ByteArray} (h : 1 ≤ t.size ∧ t.size ≤ 9000) : frame t = (fr t, true) := by rw [frame, if_pos h]; rfl
theorem fr_size (t : ByteArray) : (fr t).size = (varL t.size).length + 4 + t.size := by
  unfold fr; rw [size_append, size_append, vt_size, four_size]
theorem bytes_fr (t : ByteArray) : bytesOf (fr t) = varL t.size ++ (fourL (sumOf t) ++ bytesOf t) := by
  unfold fr; rw [bytes_append, bytes_append, bytes_vt, bytes_four, List.append_assoc]
theorem extract_bytes_eq {s t : ByteArray} {a b : Nat} (h : ((bytesOf s).drop a).take (b - a) = bytesOf t) : s.extract a b = t := bytes_inj (by rw [bytes_extract]; exact h)
theorem next_fit (P t R : ByteArray) (k : Nat) (ht : 1 ≤ t.size ∧ t.size ≤ 9000) (hk : P.size + (fr t).size ≤ k) (hk2 : k ≤ (P ++ (fr t ++ R)).size) :
    nextF ((P ++ (fr t ++ R)).extract 0 k) P.size = some (t, P.size + (fr t).size) := by
  have hs : ((P ++ (fr t ++ R)).extract 0 k).size = k := by rw [size_extract _ _ _ (by omega) hk2]; omega
  have hb : (bytesOf ((P ++ (fr t ++ R)).extract 0 k)).drop P.size = varL t.size ++ ((fourL (sumOf t) ++ bytesOf t) ++ (bytesOf R).take (k - P.size - (fr t).size)) := by
    rw [bytes_extract, List.drop_zero, Nat.sub_zero, bytes_append, bytes_append, List.drop_take, List.drop_append_of_le_length (by rw [bytesOf_length]; exact Nat.le_refl _), List.drop_of_length_le (by rw [bytesOf_length]; exact Nat.le_refl _), List.nil_append, List.take_append, List.take_of_length_le (by rw [bytesOf_length]; omega), bytesOf_length, bytes_fr, List.append_assoc]
  have hf := fr_size t
  unfold nextF
  rw [hb, rvar_varL _ (by omega)]
  simp only
  rw [if_pos (by rw [hs]; omega)]
  have e1 : ((P ++ (fr t ++ R)).extract 0 k).extract (P.size + (varL t.size).length + 4) (P.size + (varL t.size).length + 4 + t.size) = t := by
    apply extract_bytes_eq
    rw [show (P.size + (varL t.size).length + 4 + t.size - (P.size + (varL t.size).length + 4)) = t.size from by omega, show P.size + (varL t.size).length + 4 = P.size + ((varL t.size).length + 4) from by omega, ← List.drop_drop, hb]
    have hl : (fourL (sumOf t)).length = 4 := rfl
    rw [← List.append_assoc, ← List.append_assoc, List.append_assoc (varL t.size ++ fourL (sumOf t)), List.drop_left' (by rw [List.length_append, hl])]
    rw [List.take_left' (by rw [bytesOf_length])]
  have e2 : ((P ++ (fr t ++ R)).extract 0 k).extract P.size (P.size + (varL t.size).length + 4 + t.size) = fr t := by
    apply extract_bytes_eq
    rw [hb, bytes_fr, ← List.append_assoc, List.take_left' (by rw [← bytes_fr, bytesOf_length, hf]; omega)]
  rw [e1, e2, frame_fr ht, if_pos ⟨rfl, rfl⟩, hf]
  congr 2; omega
theorem next_short (P t R : ByteArray) (k : Nat) (ht : t.size ≤ 9000) (h0 : P.size ≤ k) (hk : k < P.size + (fr t).size) :
    nextF ((P ++ (fr t ++ R)).extract 0 k) P.size = none := by
  have hf := fr_size t
  have hs : ((P ++ (fr t ++ R)).extract 0 k).size = k := by rw [size_extract _ _ _ (by omega) (by simp only [size_append]; omega)]; omega
  have hb : (bytesOf ((P ++ (fr t ++ R)).extract 0 k)).drop P.size = (varL t.size ++ (fourL (sumOf t) ++ bytesOf t)).take (k - P.size) := by
    rw [bytes_extract, List.drop_zero, Nat.sub_zero, bytes_append, bytes_append, List.drop_take, List.drop_append_of_le_length (by rw [bytesOf_length]; exact Nat.le_refl _), List.drop_of_length_le (by rw [bytesOf_length]; exact Nat.le_refl _), List.nil_append, List.take_append_of_le_length (by rw [bytesOf_length]; omega), bytes_fr]
  unfold nextF
  rw [hb]
  by_cases hj : k - P.size < (varL t.size).length
  · rw [List.take_append_of_le_length (by omega)]
    have : rvar ((varL t.size).take (k - P.size)) = none := rvL_none 5 0 0 _ (varL_head _ _ hj)
    rw [this]
  · rw [List.take_append, List.take_of_length_le (by omega), rvar_varL _ (by omega)]
    simp only
    rw [if_neg (by rw [hs]; omega)]
theorem unf_cut : ∀ (l : List ByteArray) (f : Nat) (P : ByteArray) (acc : List ByteArray) (k : Nat), (∀ t ∈ l, 1 ≤ t.size ∧ t.size ≤ 9000) → P.size ≤ k → k ≤ (P ++ cat l).size → k ≤ P.size + f →
    unf f ((P ++ cat l).extract 0 k) acc P.size = (acc ++ l.take (fits l (k - P.size)), P.size + (cat (l.take (fits l (k - P.size)))).size)
  | [], f, P, acc, k, _, h0, h1, h2 => by
    have hk : k = P.size := by simp only [cat, append_nil] at h1; omega
    have hn : nextF ((P ++ cat []).extract 0 k) P.size = none := by
      unfold nextF
      rw [List.drop_of_length_le (by rw [bytesOf_length, size_extract _ _ _ (by omega) h1]; omega)]
      rfl
    have hc : (cat []).size = 0 := rfl
    cases f with
    | zero => simp [unf, hc]
    | succ f => simp only [unf, hn]; simp [hc]
  | t :: l, f, P, acc, k, ht, h0, h1, h2 => by
    have hf := fr_size t
    have h1t := ht t (by simp)
    by_cases hk : (fr t).size ≤ k - P.size
    · cases f with
      | zero => omega
      | succ f =>
        simp only [unf]
        rw [show cat (t :: l) = fr t ++ cat l from rfl] at h1 ⊢
        rw [next_fit P t (cat l) k h1t (by omega) h1]
        simp only [fits]
        rw [if_pos hk]
        have ih := unf_cut l f (P ++ fr t) (acc ++ [t]) k (fun x hx => ht x (by simp [hx])) (by rw [size_append]; omega) (by rw [append_assoc]; exact h1) (by rw [size_append]; omega)
        rw [append_assoc, size_append] at ih
        rw [ih, show k - (P.size + (fr t).size) = k - P.size - (fr t).size from by omega, List.take_succ_cons, show cat (t :: l.take (fits l (k - P.size - (fr t).size))) = fr t ++ cat (l.take (fits l (k - P.size - (fr t).size))) from rfl, size_append]
        refine Prod.ext ?_ ?_
        · simp
        · simp only; omega
    · have hn : nextF ((P ++ cat (t :: l)).extract 0 k) P.size = none := next_short P t (cat l) k h1t.2 h0 (by omega)
      simp only [fits]
      rw [if_neg hk]
      have hc : (cat []).size = 0 := rfl
      cases f with
      | zero => simp [unf, hc]
      | succ f => simp only [unf, hn]; simp [hc]
theorem fits_le : ∀ (l : List ByteArray) (j : Nat), fits l j ≤ l.length ∧ (cat (l.take (fits l j))).size ≤ j ∧ (fits l j < l.length → j < (cat (l.take (fits l j + 1))).size)
  | [], j => ⟨Nat.le_refl _, Nat.zero_le _, fun h => absurd h (by simp [fits])⟩
  | t :: l, j => by
    have hc : (cat []).size = 0 := rfl
    simp only [fits]
    by_cases h : (fr t).size ≤ j
    · rw [if_pos h]
      have ih := fits_le l (j - (fr t).size)
      have e : ∀ n, (cat ((t :: l).take (n + 1))).size = (fr t).size + (cat (l.take n)).size := fun n => by rw [List.take_succ_cons, cat, size_append]
      rw [e, e]
      simp only [List.length_cons]
      refine ⟨by omega, by omega, fun h2 => ?_⟩
      have := ih.2.2 (by omega)
      omega
    · rw [if_neg h]
      refine ⟨Nat.zero_le _, by rw [List.take_zero, hc]; omega, fun _ => ?_⟩
      rw [List.take_succ_cons, List.take_zero, cat, size_append, hc]; omega
theorem fits_all : ∀ l : List ByteArray, fits l (cat l).size = l.length
  | [] => rfl
  | t :: l => by
    simp only [fits, cat, size_append]
    rw [if_pos (by omega), show (fr t).size + (cat l).size - (fr t).size = (cat l).size from by omega, fits_all l]; rfl
theorem unframe_cut {l : List ByteArray} (hl : ∀ t ∈ l, 1 ≤ t.size ∧ t.size ≤ 9000) (hs : (cat l).size ≤ 20000) {q : Nat} (hq : q ≤ (cat l).size) :
    unframe ((cat l).extract 0 q) = (l.take (fits l q), (cat (l.take (fits l q))).size) := by
  have hz : ((cat l).extract 0 q).size = q := by rw [size_extract _ _ _ (by omega) hq]; omega
  unfold unframe
  rw [if_pos (by omega), hz]
  have := unf_cut l q ⟨#[]⟩ [] q hl (Nat.zero_le _) (by rw [nil_append]; exact hq) (by omega)
  rw [nil_append] at this
  have z0 : (⟨#[]⟩ : ByteArray).size = 0 := rfl
  rw [z0] at this
  simpa using this
theorem FnFrames_round (p : List Int) (L : List ByteArray) (file : ByteArray) (ends : List Int) (i : Int) (x : ByteArray) (hi : 0 ≤ i ∧ i < (L.length : Int)) (hi2 : i ≤ 100) (hx : rdOf ByteArray.empty L i = x) (hz : 1 ≤ x.size ∧ x.size ≤ 9000) (hf : file.size ≤ 1000000) (he : ends.length ≤ 100) {r : Bool}
    (hr : Ev (fun k => laws_FnFrames.l0 k p L (file ++ fr x) (ends ++ [((file ++ fr x).size : Int)]) (i + 1)) r) : Ev (fun k => laws_FnFrames.l0 k p L file ends i) r := by
  refine Ev.step (f := fun k => (impl_Frame.f k x).bind fun bt => if bt.2 = true then (if file.size + bt.1.size ≤ 9223372036854775807 then (if ends.length < 17592186044416 then laws_FnFrames.l0 k p L (file ++ bt.1) (ends ++ [((file ++ bt.1).size : Int)]) (i + 1) else none) else none) else some false) (fun k => ?_) ?_
  · simp only [laws_FnFrames.l0]
    rw [if_pos hi.2, if_pos hi.1, hx, w64 (x := i + 1) (by omega) (by omega)]
  · refine Ev.bind (impl_Frame_ev x (by omega)) ?_
    rw [frame_fr hz]
    have hv : (varL x.size).length ≤ 5 := varL_len _ 4 (by omega)
    have hw := fr_size x
    exact Ev.pos rfl (Ev.pos (by simp only; omega) (Ev.pos (by omega) hr))
theorem FnFrames_end (p : List Int) (hp : p.length = 12) (hp2 : ∀ x ∈ p, 0 ≤ x ∧ x < 10000) (L : List ByteArray) (hL : L.length = 3) (hl : ∀ t ∈ L, 1 ≤ t.size ∧ t.size ≤ 9000) (hs : (cat L).size ≤ 20000) (ends : List Int) (he : ends.length = 4)
    (hE : ∀ m : Nat, m ≤ 3 → rd ends (m : Int) = ((cat (L.take m)).size : Int)) : Ev (fun k => laws_FnFrames.l0 k p L (cat L) ends 3) true := by
  have hall : unframe (cat L) = (L, (cat L).size) := by
    have := unframe_cut hl hs (Nat.le_refl _)
    rw [extract_all, fits_all, List.take_length] at this
    exact this
  refine Ev.step (f := fun k => (impl_Unframe.f k (cat L)).bind fun bt217 => (if bt217.2 = ((cat L).size : Int) then ((laws_sameTexts.f k bt217.1 L).bind fun t221 => (laws_FnFrames.j3 k p L (cat L) ends (!t221))) else (laws_FnFrames.j3 k p L (cat L) ends true))) (fun k => ?_) ?_
  · simp only [laws_FnFrames.l0]
    rw [if_neg (by omega)]
  · refine Ev.bind (impl_Unframe_ev _) ?_
    rw [hall]
    refine Ev.pos rfl (Ev.bind (laws_sameTexts_ev L (by omega)) ?_)
    have h0 := hp2 (rd p 0) (by rw [show (0 : Int) = ((0 : Nat) : Int) from rfl, rd_nat p 0 (by omega)]; exact List.getElem_mem _)
    have hw : wrap64 (((cat L).size : Int) + 1) = ((cat L).size : Int) + 1 := w64 (by omega) (by omega)
    have hq0 : 0 ≤ Int.tmod (rd p 0) (((cat L).size : Int) + 1) := by rw [tm h0.1]; exact Int.emod_nonneg _ (by omega)
    have hq1 : Int.tmod (rd p 0) (((cat L).size : Int) + 1) < ((cat L).size : Int) + 1 := by rw [tm h0.1]; exact Int.emod_lt_of_pos _ (by omega)
    obtain ⟨q, hq⟩ : ∃ q : Nat, Int.tmod (rd p 0) (((cat L).size : Int) + 1) = (q : Int) := ⟨(Int.tmod (rd p 0) (((cat L).size : Int) + 1)).toNat, by omega⟩
    rw [hq] at hq0 hq1
    have hcut := unframe_cut hl hs (q := q) (by omega)
    have hfit := fits_le L q
    rw [hL] at hfit
    generalize hm : fits L q = m at hcut hfit
    have hlen : (L.take m).length = m := by rw [List.length_take]; omega
    refine Ev.step (f := fun k => (impl_Unframe.f k ((cat L).extract 0 q)).bind fun bt223 => (if (bt223.1.length : Int) ≤ 3 then (if 0 ≤ (bt223.1.length : Int) then (if (bt223.1.length : Int) < (ends.length : Int) then (if bt223.2 = (rd ends (bt223.1.length : Int)) then (if bt223.2 ≤ (q : Int) then (if (bt223.1.length : Int) ≤ (L.length : Int) then ((laws_sameTexts.f k bt223.1 (L.take ((bt223.1.length : Int) : Int).toNat)).bind fun t232 => (if t232 = true then (if (bt223.1.length : Int) = 3 then (some true) else (if 0 ≤ (wrap64 ((bt223.1.length : Int) + 1)) then (if (wrap64 ((bt223.1.length : Int) + 1)) < (ends.length : Int) then (some (decide ((rd ends (wrap64 ((bt223.1.length : Int) + 1))) > (q : Int)))) else (none)) else (none))) else (some false))) else (none)) else (some false)) else (some false)) else (none)) else (none)) else (some false))) (fun k => ?_) ?_
    · simp only [laws_FnFrames.j3, Bool.not_true, Bool.false_eq_true, if_false]
      rw [if_pos (by omega), hw, if_neg (by omega), hq, if_pos (by omega), if_pos (by omega), Int.toNat_natCast]
    · refine Ev.bind (impl_Unframe_ev _) ?_
      rw [hcut]
      simp only [hlen, Int.toNat_natCast]
      refine Ev.pos (by omega) (Ev.pos (by omega) (Ev.pos (by omega) (Ev.pos (hE m hfit.1).symm (Ev.pos (by omega) (Ev.pos (by omega) (Ev.bind (laws_sameTexts_ev _ (by omega)) (Ev.pos rfl ?_)))))))
      by_cases h3 : (m : Int) = 3
      · exact Ev.pos h3 (Ev.now _)
      · have hx := hfit.2.2 (by omega)
        have hy := hE (m + 1) (by omega)
        refine Ev.neg h3 ?_
        rw [w64 (x := (m : Int) + 1) (by omega) (by omega), show (m : Int) + 1 = ((m + 1 : Nat) : Int) from by omega]
        refine Ev.pos (by omega) (Ev.pos (by omega) (Ev.is ?_))
        rw [hy, decide_eq_true (by omega)]
theorem FnFrames : laws_FnFrames.Pure := by
  intro l hl _ _
  simp only [maxLen] at hl
  apply Ev.rounds
  unfold laws_FnFrames.f
  refine Ev.bind0 (laws_big_is l) ?_
  by_cases hb : (l.length : Int) > 1048576
  · exact Ev.pos (decide_eq_true hb) (Ev.now _)
  · refine Ev.neg (by simpa using hb) ?_
    obtain ⟨p, hp, hp1, hp2⟩ := spec_DrawPlaces_ev l (by omega)
    obtain ⟨t0, ht⟩ := spec_DrawHex_ev l (by omega)
    refine Ev.bind hp (Ev.bind ht (Ev.bind0 rfl (Ev.pos (by simp) ?_)))
    have go : ∀ a b c : ByteArray, 1 ≤ a.size ∧ a.size ≤ 900 → 1 ≤ b.size ∧ b.size ≤ 900 → 1 ≤ c.size ∧ c.size ≤ 900 → Ev (fun k => laws_FnFrames.j1 k p [a, b, c]) true := by
      intro a b c ha hb hc
      have ea : (varL a.size).length ≤ 5 := varL_len _ 4 (by omega)
      have eb : (varL b.size).length ≤ 5 := varL_len _ 4 (by omega)
      have ec : (varL c.size).length ≤ 5 := varL_len _ 4 (by omega)
      have fa := fr_size a
      have fb := fr_size b
      have fc := fr_size c
      refine Ev.step (f := fun k => laws_FnFrames.l0 k p [a, b, c] ⟨#[]⟩ [0] 0) (fun k => by simp only [laws_FnFrames.j1]) ?_
      refine FnFrames_round p [a, b, c] _ _ 0 a (by simp) (by omega) rfl ⟨ha.1, by omega⟩ (Nat.zero_le _) (by simp) ?_
      refine FnFrames_round p [a, b, c] _ _ _ b (by simp) (by omega) rfl ⟨hb.1, by omega⟩ (by rw [nil_append]; omega) (by simp) ?_
      refine FnFrames_round p [a, b, c] _ _ _ c (by simp) (by omega) rfl ⟨hc.1, by omega⟩ (by rw [nil_append, size_append]; omega) (by simp) ?_
      have e1 : (⟨#[]⟩ : ByteArray) ++ fr a ++ fr b ++ fr c = cat [a, b, c] := by rw [nil_append, append_assoc]; simp only [cat, append_nil]
      have s3 : (cat [a, b, c]).size = (fr a).size + (fr b).size + (fr c).size := by rw [← e1, nil_append, size_append, size_append]
      have s2 : (cat [a, b]).size = (fr a).size + (fr b).size := by simp only [cat, append_nil, size_append]
      have s1 : (cat [a]).size = (fr a).size := by simp only [cat, append_nil]
      rw [e1]
      refine FnFrames_end p hp1 hp2 [a, b, c] rfl (by
        intro t ht
        simp only [List.mem_cons, List.not_mem_nil, or_false] at ht
        rcases ht with rfl | rfl | rfl <;> omega) (by omega) _ rfl ?_
      intro m hm
      have hm' : m = 0 ∨ m = 1 ∨ m = 2 ∨ m = 3 := by omega
      rcases hm' with rfl | rfl | rfl | rfl
      · rfl
      · show ((⟨#[]⟩ ++ fr a).size : Int) = ((cat [a]).size : Int)
        rw [nil_append, s1]
      · show ((⟨#[]⟩ ++ fr a ++ fr b).size : Int) = ((cat [a, b]).size : Int)
        rw [nil_append, s2, size_append]
      · rfl
    have r0 : ∀ x y : ByteArray, rdOf ByteArray.empty [t0, x, y] 0 = t0 := fun _ _ => rfl
    rw [r0]
    by_cases h0 : (t0.size : Int) = 0
    · refine Ev.pos h0 (Ev.step (f := fun k => laws_FnFrames.j1 k p [⟨#[111, 110, 101]⟩, ⟨#[116, 119, 111]⟩, ⟨#[116, 104, 114, 101, 101, 32, 97, 110, 100, 32, 109, 111, 114, 101]⟩]) (fun k => ?_) (go _ _ _ (by decide) (by decide) (by decide)))
      simp only [laws_FnFrames.j0, if_true]
      rw [if_pos (by simp)]; rfl
    · refine Ev.neg h0 ?_
      by_cases h9 : (t0.size : Int) > 900
      · rw [decide_eq_true h9]
        refine Ev.step (f := fun k => laws_FnFrames.j1 k p [⟨#[111, 110, 101]⟩, ⟨#[116, 119, 111]⟩, ⟨#[116, 104, 114, 101, 101, 32, 97, 110, 100, 32, 109, 111, 114, 101]⟩]) (fun k => ?_) (go _ _ _ (by decide) (by decide) (by decide))
        simp only [laws_FnFrames.j0, if_true]
        rw [if_pos (by simp)]; rfl
      · rw [decide_eq_false h9]
        exact Ev.step (f := fun k => laws_FnFrames.j1 k p [t0, ⟨#[116, 119, 111]⟩, ⟨#[116, 104, 114, 101, 101, 32, 97, 110, 100, 32, 109, 111, 114, 101]⟩]) (fun k => by simp only [laws_FnFrames.j0]; rfl) (go _ _ _ (by omega) (by decide) (by decide))

end Go.Proofs.Ythddngmncmhkoaa.Pure
