/- The law FnTurned answers true at every input; no condition. -/
import Derived.Test.YtknbkjajfiediaaQFnTurnedx2
import Derived.Test.YtknbkjajfiediaaTM
namespace Go.Proofs.Ytknbkjajfiediaa.QFnTurned
open Go.RowKit
/-- What is left to be shown of the law: over numbers, texts and lists alone. -/
def laws_FnTurned.Pure : Prop := ∀ (l0 : List (Int)), (l0.length ≤ maxLen ∧ ∀ x ∈ l0, (Lit.int .u8 x).wf = true) → ∃ k, laws_FnTurned.f k l0 = some true
end Go.Proofs.Ytknbkjajfiediaa.QFnTurned
namespace Go.Proofs.Ytknbkjajfiediaa.Pure
open Go.RowKit Go.Proofs.Ytknbkjajfiediaa.QFnTurned Go.Proofs.YtknbkjajfiediaaW.PrintWords Go.Proofs.YtknbkjajfiediaaW.PrintLast Go.Proofs.YtknbkjajfiediaaW.PrintMore Go.Proofs.Ytknbkjajfiediaa.M
set_option linter.unusedVariables false
set_option linter.unusedSimpArgs false
set_option maxRecDepth 4000

theorem laws_big_is (l : List Int) : laws_big.f l = some (decide ((l.length : Int) > 1048576)) := rfl
theorem spec_l01New_l0 (s : List Int) (hs : s.length ≤ 140737488355328) : ∀ (d : Nat) (i h : Int), 0 ≤ i → 4000 ≤ i + d → ∃ h', Ev (fun k => spec_l01New.l0 k s h i) (s, 0, h')
  | 0, i, h, h0, h1 => by
    refine ⟨h, Ev.step (f := fun k => some (s, 0, h)) (fun k => ?_) (Ev.now _)⟩
    simp only [spec_l01New.l0]
    rw [if_neg (show ¬ i < 4000 by omega)]
    split <;> rfl
  | d + 1, i, h, h0, h1 => by
    by_cases e : i < (s.length : Int)
    · by_cases e2 : i < 4000
      · obtain ⟨h', hh⟩ := spec_l01New_l0 s hs d (i + 1) (Go.bits .and .i64 (wrap64 ((wrap64 ((wrap64 (h * 131)) + (wrap64 (rd s i)))) + 7)) 1073741823) (by omega) (by omega)
        refine ⟨h', Ev.step (f := fun k => spec_l01New.l0 k s (Go.bits .and .i64 (wrap64 ((wrap64 ((wrap64 (h * 131)) + (wrap64 (rd s i)))) + 7)) 1073741823) (i + 1)) (fun k => ?_) hh⟩
        simp only [spec_l01New.l0]
        rw [if_pos e, if_pos e2, if_pos h0, w64 (x := i + 1) (by omega) (by omega)]
      · refine ⟨h, Ev.step (f := fun k => some (s, 0, h)) (fun k => ?_) (Ev.now _)⟩
        simp only [spec_l01New.l0]
        rw [if_pos e, if_neg e2]
    · refine ⟨h, Ev.step (f := fun k => some (s, 0, h)) (fun k => ?_) (Ev.now _)⟩
      simp only [spec_l01New.l0]
      rw [if_neg e]
theorem spec_l01New_ev (s : List Int) (hs : s.length ≤ 140737488355328) : ∃ h, Ev (fun k => spec_l01New.f k s) (s, 0, h) := by
  unfold spec_l01New.f
  exact spec_l01New_l0 s hs 4000 0 _ (by omega) (by omega)
theorem and255 (x : Int) : 0 ≤ Go.bits .and .i64 x 255 ∧ Go.bits .and .i64 x 255 ≤ 255 := by
  have h : (BitVec.ofInt 64 x &&& BitVec.ofInt 64 255).toNat ≤ 255 := by rw [BitVec.toNat_and]; exact Nat.le_trans Nat.and_le_right (by decide)
  change 0 ≤ IntKind.i64.wrap ((BitVec.ofInt 64 x &&& BitVec.ofInt 64 255).toNat : Int) ∧ IntKind.i64.wrap ((BitVec.ofInt 64 x &&& BitVec.ofInt 64 255).toNat : Int) ≤ 255
  generalize (BitVec.ofInt 64 x &&& BitVec.ofInt 64 255).toNat = v at h ⊢
  rw [IntKind.wrap_i64]
  omega
def DR (s : List Int) (i : Int) : Prop := 0 ≤ i ∧ i ≤ (s.length : Int)
theorem spec_l01Byte_is (s : List Int) (hs : s.length ≤ 140737488355328) (i h : Int) (hd : DR s i) : ∃ r i' h', spec_l01Byte.f s i h = some (r, i', h') ∧ (0 ≤ r ∧ r ≤ 255) ∧ DR s i' := by
  obtain ⟨h0, h1⟩ := hd
  unfold spec_l01Byte.f
  by_cases e : i < (s.length : Int)
  · rw [if_pos e, if_pos h0]
    exact ⟨_, _, _, rfl, and255 _, by rw [w64 (by omega) (by omega)]; exact ⟨by omega, by omega⟩⟩
  · rw [if_neg e]
    exact ⟨_, _, _, rfl, and255 _, h0, h1⟩
theorem spec_l01Text_l0 (s : List Int) (hs : s.length ≤ 140737488355328) (n : Int) : ∀ (d : Nat) (acc : List Int) (i a b : Int), 0 ≤ i → i ≤ 5000 → n ≤ i + d → n ≤ 5000 → acc.length ≤ i → DR s a → ∃ t a' b', Ev (fun k => spec_l01Text.l0 k n acc i s a b) (t, a', b') ∧ DR s a'
  | 0, acc, i, a, b, h0, h1, h2, h3, h4, hd => by
    refine ⟨_, _, _, Ev.step (f := fun k => some (strOfNums acc, a, b)) (fun k => ?_) (Ev.now _), hd⟩
    simp only [spec_l01Text.l0]
    rw [if_neg (by omega)]
  | d + 1, acc, i, a, b, h0, h1, h2, h3, h4, hd => by
    by_cases e : i < n
    · obtain ⟨x, a1, b1, e1, hx, d1⟩ := spec_l01Byte_is s hs a b hd
      obtain ⟨t, a', b', ht, d2⟩ := spec_l01Text_l0 s hs n d (acc ++ [x % 256]) (i + 1) a1 b1 (by omega) (by omega) (by omega) h3 (by simp; omega) d1
      refine ⟨t, a', b', Ev.step (f := fun k => spec_l01Text.l0 k n (acc ++ [x % 256]) (i + 1) s a1 b1) (fun k => ?_) ht, d2⟩
      simp only [spec_l01Text.l0]
      rw [if_pos e, e1, Option.bind_some, if_pos (by omega), w64 (x := i + 1) (by omega) (by omega)]
    · refine ⟨_, _, _, Ev.step (f := fun k => some (strOfNums acc, a, b)) (fun k => ?_) (Ev.now _), hd⟩
      simp only [spec_l01Text.l0]
      rw [if_neg e]
theorem spec_l01Text_ev (s : List Int) (hs : s.length ≤ 140737488355328) (a b n : Int) (hn : n ≤ 5000) (hd : DR s a) : ∃ t a' b', Ev (fun k => spec_l01Text.f k s a b n) (t, a', b') ∧ DR s a' := by
  obtain ⟨t, a', b', ht, d2⟩ := spec_l01Text_l0 s hs n 5000 [] 0 a b (by omega) (by omega) (by omega) hn (by simp) hd
  refine ⟨t, a', b', ?_, d2⟩
  unfold spec_l01Text.f
  exact Ev.neg (by omega) (Ev.step (f := fun k => spec_l01Text.l0 k n [] 0 s a b) (fun k => by simp only [spec_l01Text.j0]) ht)
theorem spec_l01Below_is (s : List Int) (hs : s.length ≤ 140737488355328) (i h n : Int) (hd : DR s i) (hn : 0 < n ∧ n ≤ 1000000000) : ∃ r i' h', spec_l01Below.f s i h n = some (r, i', h') ∧ (0 ≤ r ∧ r < n) ∧ DR s i' := by
  unfold spec_l01Below.f
  rw [if_neg (by omega)]
  obtain ⟨x, i1, h1, e1, hx, d1⟩ := spec_l01Byte_is s hs i h hd
  by_cases e : n ≤ 256
  · rw [if_pos e, e1, Option.bind_some, if_neg (by omega), tm (by simp only; omega)]
    refine ⟨_, _, _, rfl, ⟨Int.emod_nonneg _ (by omega), Int.emod_lt_of_pos _ (by omega)⟩, d1⟩
  · rw [if_neg e, e1, Option.bind_some]
    obtain ⟨y, i2, h2, e2, hy, d2⟩ := spec_l01Byte_is s hs i1 h1 d1
    obtain ⟨z, i3, h3, e3, hz, d3⟩ := spec_l01Byte_is s hs i2 h2 d2
    obtain ⟨v, i4, h4, e4, hv, d4⟩ := spec_l01Byte_is s hs i3 h3 d3
    simp only [e2, e3, e4, Option.bind_some]
    rw [if_neg (by omega), w64 (x := x * 16777216) (by omega) (by omega), w64 (x := y * 65536) (by omega) (by omega), w64 (x := z * 256) (by omega) (by omega), w64 (x := x * 16777216 + y * 65536) (by omega) (by omega), w64 (x := x * 16777216 + y * 65536 + z * 256) (by omega) (by omega), w64 (by omega) (by omega), tm (by omega)]
    refine ⟨_, _, _, rfl, ⟨Int.emod_nonneg _ (by omega), Int.emod_lt_of_pos _ (by omega)⟩, d4⟩
theorem spec_l01Text_z0 (s : List Int) (hs : s.length ≤ 140737488355328) (n : Int) : ∀ (d : Nat) (acc : List Int) (i a b : Int), 0 ≤ i → i ≤ 5000 → n ≤ i + d → n ≤ 5000 → acc.length ≤ i → DR s a → ∃ t a' b', Ev (fun k => spec_l01Text.l0 k n acc i s a b) (t, a', b') ∧ DR s a' ∧ t.size ≤ 5000
  | 0, acc, i, a, b, h0, h1, h2, h3, h4, hd => by
    refine ⟨_, _, _, Ev.step (f := fun k => some (strOfNums acc, a, b)) (fun k => ?_) (Ev.now _), hd, by rw [str_size]; omega⟩
    simp only [spec_l01Text.l0]
    rw [if_neg (by omega)]
  | d + 1, acc, i, a, b, h0, h1, h2, h3, h4, hd => by
    by_cases e : i < n
    · obtain ⟨x, a1, b1, e1, hx, d1⟩ := spec_l01Byte_is s hs a b hd
      obtain ⟨t, a', b', ht, d2⟩ := spec_l01Text_z0 s hs n d (acc ++ [x % 256]) (i + 1) a1 b1 (by omega) (by omega) (by omega) h3 (by simp; omega) d1
      refine ⟨t, a', b', Ev.step (f := fun k => spec_l01Text.l0 k n (acc ++ [x % 256]) (i + 1) s a1 b1) (fun k => ?_) ht, d2⟩
      simp only [spec_l01Text.l0]
      rw [if_pos e, e1, Option.bind_some, if_pos (by omega), w64 (x := i + 1) (by omega) (by omega)]
    · refine ⟨_, _, _, Ev.step (f := fun k => some (strOfNums acc, a, b)) (fun k => ?_) (Ev.now _), hd, by rw [str_size]; omega⟩
      simp only [spec_l01Text.l0]
      rw [if_neg e]
theorem spec_l01Text_sz (s : List Int) (hs : s.length ≤ 140737488355328) (a b n : Int) (hn : n ≤ 5000) (hd : DR s a) : ∃ t a' b', Ev (fun k => spec_l01Text.f k s a b n) (t, a', b') ∧ DR s a' ∧ t.size ≤ 5000 := by
  obtain ⟨t, a', b', ht, d2⟩ := spec_l01Text_z0 s hs n 5000 [] 0 a b (by omega) (by omega) (by omega) hn (by simp) hd
  refine ⟨t, a', b', ?_, d2⟩
  unfold spec_l01Text.f
  exact Ev.neg (by omega) (Ev.step (f := fun k => spec_l01Text.l0 k n [] 0 s a b) (fun k => by simp only [spec_l01Text.j0]) ht)
theorem spec_DrawSumOf_ev (s : List Int) (hs : s.length ≤ 140737488355328) : ∃ t, Ev (fun k => spec_DrawSumOf.f k s) t ∧ t.size ≤ 5000 := by
  obtain ⟨h, hh⟩ := spec_l01New_ev s hs
  obtain ⟨r, a1, b1, e1, hr, d1⟩ := spec_l01Below_is s hs 0 h 40 ⟨by omega, by omega⟩ (by omega)
  obtain ⟨t, a2, b2, ht, d2, hz⟩ := spec_l01Text_sz s hs a1 b1 r (by omega) d1
  refine ⟨t, ?_, hz⟩
  unfold spec_DrawSumOf.f
  exact Ev.bind hh (Ev.bind0 e1 (Ev.bind ht (Ev.now _)))
theorem spec_DrawPlaces_l0 (s : List Int) (hs : s.length ≤ 140737488355328) : ∀ (d : Nat) (acc : List Int) (i a b : Int), 0 ≤ i → i + d = 12 → (acc.length : Int) = i → (∀ x ∈ acc, 0 ≤ x ∧ x < 10000) → DR s a → ∃ p, Ev (fun k => spec_DrawPlaces.l0 k acc i s a b) p ∧ p.length = 12 ∧ ∀ x ∈ p, 0 ≤ x ∧ x < 10000
  | 0, acc, i, a, b, h0, h1, h2, h3, hd => by
    refine ⟨acc, Ev.step (f := fun k => some acc) (fun k => ?_) (Ev.now _), by omega, h3⟩
    simp only [spec_DrawPlaces.l0]
    rw [if_neg (by omega)]
  | d + 1, acc, i, a, b, h0, h1, h2, h3, hd => by
    obtain ⟨x, a1, b1, e1, hx, d1⟩ := spec_l01Below_is s hs a b 10000 hd (by omega)
    obtain ⟨p, hp, hq⟩ := spec_DrawPlaces_l0 s hs d (acc ++ [x]) (i + 1) a1 b1 (by omega) (by omega) (by simp; omega) (by
      intro y hy
      rcases List.mem_append.1 hy with hy | hy
      · exact h3 y hy
      · rw [List.mem_singleton.1 hy]; exact hx) d1
    refine ⟨p, Ev.step (f := fun k => spec_DrawPlaces.l0 k (acc ++ [x]) (i + 1) s a1 b1) (fun k => ?_) hp, hq⟩
    simp only [spec_DrawPlaces.l0]
    rw [if_pos (by omega), e1, Option.bind_some, if_pos (by omega), w64 (x := i + 1) (by omega) (by omega)]
theorem spec_DrawPlaces_ev (s : List Int) (hs : s.length ≤ 140737488355328) : ∃ p, Ev (fun k => spec_DrawPlaces.f k s) p ∧ p.length = 12 ∧ ∀ x ∈ p, 0 ≤ x ∧ x < 10000 := by
  obtain ⟨h, hh⟩ := spec_l01New_ev s hs
  obtain ⟨x, a1, b1, e1, hx, d1⟩ := spec_l01Byte_is s hs 0 h ⟨by omega, by omega⟩
  obtain ⟨p, hp, hq⟩ := spec_DrawPlaces_l0 s hs 12 [] 0 a1 b1 (by omega) (by omega) (by simp) (by simp) d1
  refine ⟨p, ?_, hq⟩
  unfold spec_DrawPlaces.f
  exact Ev.bind hh (Ev.bind0 e1 hp)
theorem impl_SumMore_l1 {s : ByteArray} {i r : Int} : ∀ (d : Nat) (j x0 : Int), 0 ≤ j → j + d = 8 → Ev (fun k => impl_SumMore.l0 k (halves d x0) s (wrap64 (i + 1))) r → Ev (fun k => impl_SumMore.l1 k x0 s i j) r
  | 0, j, x0, h0, h, hk => by
    refine Ev.step (f := fun k => impl_SumMore.l0 k x0 s (wrap64 (i + 1))) (fun k => ?_) hk
    simp only [impl_SumMore.l1]; rw [if_neg (by omega)]
  | d + 1, j, x0, h0, h, hk => by
    refine Ev.step (f := fun k => impl_SumMore.l1 k (half x0) s i (j + 1)) (fun k => ?_) (impl_SumMore_l1 d (j + 1) (half x0) (by omega) (by omega) hk)
    simp only [impl_SumMore.l1]; rw [if_pos (by omega), w64 (x := j + 1) (by omega) (by omega)]
    unfold half
    split <;> rfl
theorem impl_SumMore_l0 (s : ByteArray) (hs : s.size ≤ 140737488351232) : ∀ (d i : Nat) (x0 : Int), i + d = s.size → Ev (fun k => impl_SumMore.l0 k x0 s i) (sumL x0 ((bytesOf s).drop i))
  | 0, i, x0, h => by
    refine Ev.step (f := fun k => some x0) (fun k => ?_) ((Ev.now _).eq ?_)
    · simp only [impl_SumMore.l0]; rw [if_neg (by omega)]
    · rw [List.drop_of_length_le (by rw [bytesOf_length]; omega)]; rfl
  | d + 1, i, x0, h => by
    refine Ev.step (f := fun k => impl_SumMore.l1 k (Go.bits .xor .u32 x0 (bt s i % 4294967296)) s i 0) (fun k => ?_) (impl_SumMore_l1 8 0 _ (by omega) (by omega) ?_)
    · simp only [impl_SumMore.l0]; rw [if_pos (by omega), if_pos (by omega)]
    · rw [w64 (x := (i : Int) + 1) (by omega) (by omega)]
      have := impl_SumMore_l0 s hs d (i + 1) (halves 8 (Go.bits .xor .u32 x0 (bt s i % 4294967296))) (by omega)
      rw [bytes_drop (by omega)]
      exact this
theorem impl_SumMore_ev (x : Int) (s : ByteArray) (hs : s.size ≤ 140737488351232) : Ev (fun k => impl_SumMore.f k x s) (sumL x (bytesOf s)) := by
  have := impl_SumMore_l0 s hs s.size 0 x (by omega)
  exact this
theorem impl_SumOf_ev (s : ByteArray) (hs : s.size ≤ 140737488351232) : Ev (fun k => impl_SumOf.f k s) (sumOf s) := by
  unfold impl_SumOf.f
  exact Ev.bind (impl_SumMore_ev _ s hs) (Ev.now _)
theorem impl_Sealed_ev (s : ByteArray) : Ev (fun k => impl_Sealed.f k s) (sealed s) := by
  unfold impl_Sealed.f sealed
  by_cases h : s.size ≤ 20000
  · rw [if_pos h]
    refine Ev.neg (by omega) (Ev.bind (impl_SumOf_ev s (by omega)) (Ev.bind0 (a := fourL (sumOf s)) rfl (Ev.is ?_)))
    show (if s.size + (four (sumOf s)).size ≤ _ then some (s ++ four (sumOf s), true) else none) = _
    rw [if_pos (by rw [four_size]; omega)]
  · rw [if_neg h]; exact Ev.pos (by omega) (Ev.now _)
theorem impl_Unsealed_ev (s : ByteArray) (hs : s.size ≤ 140737488351232) : Ev (fun k => impl_Unsealed.f k s) (unsealed s) := by
  unfold impl_Unsealed.f
  rw [w64 (x := (s.size : Int) - 4) (by omega) (by omega)]
  by_cases h1 : 4 ≤ s.size
  · refine Ev.neg (by omega) (Ev.pos (by omega) (Ev.pos (by omega) ?_))
    have e : ((s.size : Int) - 4).toNat = s.size - 4 := by omega
    rw [e]
    have hz := size_extract s 0 (s.size - 4) (by omega) (by omega)
    refine Ev.bind (impl_Sealed_ev _) (Ev.is ?_)
    unfold unsealed
    by_cases h2 : s.size ≤ 20004
    · rw [sealed_ok (by omega)]
      simp only [if_true]
      have hc := cut_at s (s.size - 4) (by omega)
      by_cases h3 : s.extract (s.size - 4) s.size = four (sumOf (s.extract 0 (s.size - 4)))
      · rw [if_pos, if_pos ⟨h1, h2, h3⟩]
        rw [toList_iff, ← h3, hc]
      · rw [if_neg, if_neg (fun e => h3 e.2.2)]
        intro e
        rw [toList_iff] at e
        exact h3 (append_left_inj (hc.trans e.symm))
    · rw [sealed_no (by omega), if_neg (c := _ ∧ _) (fun e => h2 e.2.1)]; simp
  · refine Ev.pos (by omega) (Ev.is ?_)
    rw [unsealed, if_neg (by omega)]
theorem bx32 (a b : Int) (ha : 0 ≤ a ∧ a < 4294967296) (hb : 0 ≤ b ∧ b < 4294967296) : Go.bits .xor .u32 a b = ((a.toNat ^^^ b.toNat : Nat) : Int) := by
  have hx : a.toNat ^^^ b.toNat < 2 ^ 32 := Nat.xor_lt_two_pow (by omega) (by omega)
  have h1 : (BitVec.ofInt 32 a).toNat = a.toNat := by
    rw [show a = ((a.toNat : Nat) : Int) by omega, BitVec.ofInt_natCast, BitVec.toNat_ofNat]; exact Nat.mod_eq_of_lt (by omega)
  have h2 : (BitVec.ofInt 32 b).toNat = b.toNat := by
    rw [show b = ((b.toNat : Nat) : Int) by omega, BitVec.ofInt_natCast, BitVec.toNat_ofNat]; exact Nat.mod_eq_of_lt (by omega)
  show IntKind.u32.wrap ((BitVec.ofInt 32 a ^^^ BitVec.ofInt 32 b).toNat : Int) = _
  rw [BitVec.toNat_xor, h1, h2, IntKind.wrap_u32]
  omega
theorem bx8 (a b : Int) (ha : 0 ≤ a ∧ a < 256) (hb : 0 ≤ b ∧ b < 256) : Go.bits .xor .u8 a b = ((a.toNat ^^^ b.toNat : Nat) : Int) := by
  have hx : a.toNat ^^^ b.toNat < 2 ^ 8 := Nat.xor_lt_two_pow (by omega) (by omega)
  have h1 : (BitVec.ofInt 8 a).toNat = a.toNat := by
    rw [show a = ((a.toNat : Nat) : Int) by omega, BitVec.ofInt_natCast, BitVec.toNat_ofNat]; exact Nat.mod_eq_of_lt (by omega)
  have h2 : (BitVec.ofInt 8 b).toNat = b.toNat := by
    rw [show b = ((b.toNat : Nat) : Int) by omega, BitVec.ofInt_natCast, BitVec.toNat_ofNat]; exact Nat.mod_eq_of_lt (by omega)
  show IntKind.u8.wrap ((BitVec.ofInt 8 a ^^^ BitVec.ofInt 8 b).toNat : Int) = _
  rw [BitVec.toNat_xor, h1, h2, IntKind.wrap_u8]
  omega
theorem xor_canc {a b c : Nat} (h : a ^^^ c = b ^^^ c) : a = b := by
  have : (a ^^^ c) ^^^ c = (b ^^^ c) ^^^ c := by rw [h]
  rwa [Nat.xor_assoc, Nat.xor_self, Nat.xor_zero, Nat.xor_assoc, Nat.xor_self, Nat.xor_zero] at this
def R32 (x : Int) : Prop := 0 ≤ x ∧ x < 4294967296
theorem half_even {x : Int} (h : R32 x) (e : x % 2 = 0) : half x = x / 2 := by
  unfold half R32 at *
  rw [Int.tmod_eq_emod_of_nonneg h.1, if_neg (by omega), Int.tdiv_eq_ediv_of_nonneg h.1]; omega
theorem half_odd {x : Int} (h : R32 x) (e : x % 2 = 1) : half x = (((x / 2).toNat ^^^ 3558460437 : Nat) : Int) := by
  unfold half R32 at *
  rw [Int.tmod_eq_emod_of_nonneg h.1, if_pos e, Int.tdiv_eq_ediv_of_nonneg h.1, bx32 _ _ (by omega) (by omega)]
  rw [show (x / 2 % 4294967296) = x / 2 by omega]; rfl
theorem half_R {x : Int} (h : R32 x) : R32 (half x) := by
  have h' := h
  unfold R32 at h
  by_cases e : x % 2 = 0
  · rw [half_even h' e]; unfold R32; omega
  · rw [half_odd h' (by omega)]
    have hx : (x / 2).toNat ^^^ 3558460437 < 2 ^ 32 := Nat.xor_lt_two_pow (by omega) (by decide)
    unfold R32; omega
theorem half_mix {x y : Int} (hx : R32 x) (hy : R32 y) (ex : x % 2 = 1) (ey : y % 2 = 0) : half x ≠ half y := by
  rw [half_odd hx ex, half_even hy ey]
  unfold R32 at *
  intro h
  have h1 : (x / 2).toNat ^^^ 3558460437 = (y / 2).toNat := by omega
  have h2 : (x / 2).toNat ^^^ (y / 2).toNat = 3558460437 := by rw [← h1, ← Nat.xor_assoc, Nat.xor_self, Nat.zero_xor]
  have h3 : (x / 2).toNat ^^^ (y / 2).toNat < 2 ^ 31 := Nat.xor_lt_two_pow (by omega) (by omega)
  omega
theorem half_inj {x y : Int} (hx : R32 x) (hy : R32 y) (h : half x = half y) : x = y := by
  by_cases ex : x % 2 = 0
  · by_cases ey : y % 2 = 0
    · rw [half_even hx ex, half_even hy ey] at h; omega
    · exact absurd h.symm (half_mix hy hx (by omega) ex)
  · by_cases ey : y % 2 = 0
    · exact absurd h (half_mix hx hy (by omega) ey)
    · rw [half_odd hx (by omega), half_odd hy (by omega)] at h
      have := xor_canc (Int.ofNat_inj.1 h)
      unfold R32 at hx hy; omega
theorem halves_inj : ∀ (n : Nat) {x y : Int}, R32 x → R32 y → halves n x = halves n y → x = y
  | 0, _, _, _, _, h => h
  | n + 1, _, _, hx, hy, h => half_inj hx hy (halves_inj n (half_R hx) (half_R hy) h)
theorem halves_R : ∀ (n : Nat) {x : Int}, R32 x → R32 (halves n x)
  | 0, _, h => h
  | n + 1, _, h => halves_R n (half_R h)
theorem bx_R {s b : Int} (hs : R32 s) (hb : 0 ≤ b ∧ b ≤ 255) : R32 (Go.bits .xor .u32 s (b % 4294967296)) := by
  unfold R32 at *
  rw [bx32 _ _ hs (by omega)]
  have hx : s.toNat ^^^ (b % 4294967296).toNat < 2 ^ 32 := Nat.xor_lt_two_pow (by omega) (by omega)
  omega
theorem sumL_R : ∀ (l : List Int) {s : Int}, R32 s → (∀ x ∈ l, 0 ≤ x ∧ x ≤ 255) → R32 (sumL s l)
  | [], _, h, _ => h
  | b :: l, _, h, hl => sumL_R l (halves_R 8 (bx_R h (hl b (by simp)))) (fun x hx => hl x (by simp [hx]))
theorem sumL_inj : ∀ (l : List Int) {s s' : Int}, R32 s → R32 s' → (∀ x ∈ l, 0 ≤ x ∧ x ≤ 255) → sumL s l = sumL s' l → s = s'
  | [], _, _, _, _, _, h => h
  | b :: l, s, s', hs, hs', hl, h => by
    have hb := hl b (by simp)
    have e := halves_inj 8 (bx_R hs hb) (bx_R hs' hb) (sumL_inj l (halves_R 8 (bx_R hs hb)) (halves_R 8 (bx_R hs' hb)) (fun x hx => hl x (by simp [hx])) h)
    unfold R32 at hs hs'
    rw [bx32 _ _ hs (by omega), bx32 _ _ hs' (by omega)] at e
    have := xor_canc (Int.ofNat_inj.1 e)
    omega
theorem sumL_set {l : List Int} {s v : Int} (i : Nat) (hs : R32 s) (hl : ∀ x ∈ l, 0 ≤ x ∧ x ≤ 255) (hi : i < l.length) (hv : 0 ≤ v ∧ v ≤ 255) (h : sumL s (l.set i v) = sumL s l) : v = l[i] := by
  have e1 : l = l.take i ++ l[i] :: l.drop (i + 1) := by rw [← List.drop_eq_getElem_cons hi, List.take_append_drop]
  have hm := hl l[i] (List.getElem_mem hi)
  rw [List.set_eq_take_append_cons_drop, if_pos hi] at h
  have h2 : sumL s (l.take i ++ l[i] :: l.drop (i + 1)) = sumL s (l.take i ++ v :: l.drop (i + 1)) := by rw [← e1]; exact h.symm
  rw [sumL_append, sumL_append] at h2
  have hR := sumL_R (l.take i) hs (fun x hx => hl x (List.mem_of_mem_take hx))
  have h3 := halves_inj 8 (bx_R hR hm) (bx_R hR hv) (sumL_inj (l.drop (i + 1)) (halves_R 8 (bx_R hR hm)) (halves_R 8 (bx_R hR hv)) (fun x hx => hl x (List.mem_of_mem_drop hx)) h2)
  unfold R32 at hR
  rw [bx32 _ _ hR (by omega), bx32 _ _ hR (by omega), Nat.xor_comm, Nat.xor_comm _ (v % 4294967296).toNat] at h3
  have := xor_canc (Int.ofNat_inj.1 h3)
  omega
theorem fourL_inj {x y : Int} (hx : R32 x) (hy : R32 y) (h : fourL x = fourL y) : x = y := by
  unfold R32 at *
  simp only [fourL, List.cons.injEq, and_true] at h
  omega
theorem sumOf_R (s : ByteArray) : R32 (sumOf s) := sumL_R _ ⟨by omega, by omega⟩ (bytes_range s)
theorem unsealed_sealed (s : ByteArray) (h : s.size ≤ 20000) : unsealed (s ++ four (sumOf s)) = (s, true) := by
  have hz : (s ++ four (sumOf s)).size = s.size + 4 := by rw [size_append, four_size]
  have e1 : (s ++ four (sumOf s)).extract 0 s.size = s := bytes_inj (by
    rw [bytes_extract, bytes_append, List.drop_zero, Nat.sub_zero, List.take_append_of_le_length (by rw [bytesOf_length]; omega), List.take_of_length_le (by rw [bytesOf_length]; omega)])
  have e2 : (s ++ four (sumOf s)).extract s.size (s.size + 4) = four (sumOf s) := bytes_inj (by
    rw [bytes_extract, bytes_append, List.drop_append, List.drop_of_length_le (by rw [bytesOf_length]; omega), bytesOf_length, Nat.sub_self, List.drop_zero, List.nil_append, List.take_of_length_le (by rw [bytesOf_length, four_size]; omega)])
  unfold unsealed
  rw [hz, show s.size + 4 - 4 = s.size by omega, e1, e2, if_pos ⟨by omega, by omega, rfl⟩]
theorem unsealed_turned (s : ByteArray) (h : s.size ≤ 20000) (i : Nat) (v : Int) (hi : i < s.size + 4) (hv : 0 ≤ v ∧ v ≤ 255) (hne : v ≠ rd (bytesOf (s ++ four (sumOf s))) (i : Int)) :
    unsealed (strOfNums ((bytesOf (s ++ four (sumOf s))).set i v)) = (⟨#[]⟩, false) := by
  have hL : bytesOf (s ++ four (sumOf s)) = bytesOf s ++ fourL (sumOf s) := by rw [bytes_append, bytes_four]
  have hn : (bytesOf s).length = s.size := bytesOf_length s
  have h4 : (fourL (sumOf s)).length = 4 := rfl
  rw [hL] at hne ⊢
  have hFr := fourL_range (sumOf s)
  obtain ⟨F, hF⟩ : ∃ F, F = fourL (sumOf s) := ⟨_, rfl⟩
  rw [← hF] at hne h4 hFr ⊢
  have hlen : ((bytesOf s ++ F).set i v).length = s.size + 4 := by rw [List.length_set, List.length_append, hn, h4]
  rw [rd_nat _ _ (by rw [List.length_append, hn, h4]; exact hi)] at hne
  have hr : ∀ x ∈ (bytesOf s ++ F).set i v, 0 ≤ x ∧ x ≤ 255 := by
    intro x hx
    rcases List.mem_or_eq_of_mem_set hx with hx | rfl
    · rcases List.mem_append.1 hx with hx | hx
      · exact bytes_range s x hx
      · exact hFr x hx
    · exact hv
  unfold unsealed
  rw [str_size, hlen]
  refine if_neg (fun hc => ?_)
  have h3 := congrArg bytesOf hc.2.2
  rw [show s.size + 4 - 4 = s.size by omega] at h3
  unfold sumOf at h3
  rw [bytes_four, bytes_extract, bytes_extract, bytes_str hr, List.drop_zero, Nat.sub_zero, List.take_of_length_le (l := List.drop _ _) (by rw [List.length_drop, hlen]; omega)] at h3
  by_cases hc : i < s.size
  · rw [List.set_append_left _ _ (by omega)] at h3
    rw [List.drop_left' (by rw [List.length_set]; exact hn), List.take_left' (by rw [List.length_set]; exact hn)] at h3
    rw [hF] at h3
    have e := fourL_inj (sumOf_R s) (sumL_R _ ⟨by omega, by omega⟩ (fun x hx => by
      rcases List.mem_or_eq_of_mem_set hx with hx | rfl
      · exact bytes_range s x hx
      · exact hv)) h3
    have := sumL_set i ⟨by omega, by omega⟩ (bytes_range s) (by omega) hv e.symm
    rw [List.getElem_append_left (by omega)] at hne
    exact hne this
  · rw [List.set_append_right _ _ (by omega)] at h3
    rw [List.drop_left' hn, List.take_left' hn] at h3
    have e := congrArg (fun l => l[i - (bytesOf s).length]?) h3
    rw [List.getElem?_set_self (by rw [h4]; omega)] at e
    rw [List.getElem_append_right (by omega)] at hne
    have e2 := List.getElem?_eq_some_iff.1 e.symm
    obtain ⟨_, e2⟩ := e2
    exact hne (e2.symm.trans (by subst hF; rfl))
theorem FnTurned : laws_FnTurned.Pure := by
  intro l ⟨hm, hw⟩
  apply Ev.rounds
  unfold laws_FnTurned.f
  by_cases hb : 1048576 < l.length
  · exact Ev.pos hb (Ev.now _)
  · refine Ev.neg hb ?_
    obtain ⟨s, hs, hz⟩ := spec_DrawSumOf_ev l (by omega)
    obtain ⟨p, hp, hp1, hp2⟩ := spec_DrawPlaces_ev l (by omega)
    have hsl : sealed s = (s ++ four (sumOf s), true) := sealed_ok (by omega)
    have htz : (s ++ four (sumOf s)).size = s.size + 4 := by rw [size_append, four_size]
    have h3 : Ev (fun k => impl_Sealed.f k s) (s ++ four (sumOf s), true) := (impl_Sealed_ev s).eq hsl
    have h4 : Ev (fun k => impl_Unsealed.f k (s ++ four (sumOf s))) (s, true) := (impl_Unsealed_ev _ (by omega)).eq (unsealed_sealed s (by omega))
    have q0 := hp2 (rd p 0) (by rw [show (0 : Int) = ((0 : Nat) : Int) from rfl, rd_nat _ _ (by omega)]; exact List.getElem_mem _)
    have q1 := hp2 (rd p 1) (by rw [show (1 : Int) = ((1 : Nat) : Int) from rfl, rd_nat _ _ (by omega)]; exact List.getElem_mem _)
    have hg : laws_FnTurned.good (s ++ four (sumOf s)) p s = true := by
      simp only [laws_FnTurned.good, decide_eq_true_eq]; exact ⟨q0.1, q1.1, by omega, by omega, by omega, htz⟩
    obtain ⟨I, hI⟩ : ∃ I : Nat, laws_FnTurned.at_ (s ++ four (sumOf s)) p = (I : Int) ∧ I < s.size + 4 := by
      have h1 := Int.emod_nonneg (rd p 0) (show ((s ++ four (sumOf s)).size : Int) ≠ 0 by rw [htz]; omega)
      have h2 := Int.emod_lt_of_pos (rd p 0) (show (0 : Int) < ((s ++ four (sumOf s)).size : Int) by rw [htz]; omega)
      refine ⟨(laws_FnTurned.at_ (s ++ four (sumOf s)) p).toNat, ?_⟩
      unfold laws_FnTurned.at_
      rw [Int.tmod_eq_emod_of_nonneg q0.1]
      constructor <;> omega
    have hb0 : 0 ≤ rd (bytesOf (s ++ four (sumOf s))) (I : Int) ∧ rd (bytesOf (s ++ four (sumOf s))) (I : Int) ≤ 255 := by
      rw [rd_nat _ _ (by rw [bytesOf_length]; omega)]; exact bytes_range _ _ (List.getElem_mem _)
    have h5 : Ev (fun k => impl_Unsealed.f k (strOfNums (laws_FnTurned.turn (s ++ four (sumOf s)) p))) (⟨#[]⟩, false) := by
      refine (impl_Unsealed_ev _ (by rw [str_size]; unfold laws_FnTurned.turn; rw [List.length_set, bytesOf_length]; omega)).eq ?_
      unfold laws_FnTurned.turn
      rw [hI.1, Int.toNat_natCast]
      generalize hb : rd (bytesOf (s ++ four (sumOf s))) (I : Int) = b at hb0
      have hy : 0 ≤ laws_FnTurned.by_ p ∧ laws_FnTurned.by_ p < 256 ∧ laws_FnTurned.by_ p ≠ 0 := by unfold laws_FnTurned.by_; omega
      have hx : b.toNat ^^^ (laws_FnTurned.by_ p).toNat < 2 ^ 8 := Nat.xor_lt_two_pow (by omega) (by omega)
      have hxe := bx8 b (laws_FnTurned.by_ p) (by omega) ⟨hy.1, hy.2.1⟩
      rw [hxe]
      refine unsealed_turned s (by omega) I _ hI.2 (by omega) (fun e => ?_)
      rw [hb] at e
      have e2 : (laws_FnTurned.by_ p).toNat ^^^ b.toNat = 0 ^^^ b.toNat := by rw [Nat.zero_xor, Nat.xor_comm]; omega
      have := xor_canc e2
      omega
    have h7 : Ev (fun k => impl_SumMore.f k (sumOf s) (⟨#[120]⟩ : ByteArray)) (sumOf (s ++ (⟨#[120]⟩ : ByteArray))) := by
      refine (impl_SumMore_ev _ _ (by decide)).eq ?_
      unfold sumOf
      rw [bytes_append, sumL_append]
    refine Ev.bind hs (Ev.bind hp (Ev.bind h3 (Ev.bind h4 (Ev.pos rfl (Ev.pos rfl (Ev.pos rfl (Ev.pos hg (Ev.bind h5 (Ev.pos rfl (Ev.bind (impl_SumOf_ev s (by omega)) (Ev.bind h7 (Ev.bind (impl_SumOf_ev _ (by rw [size_append]; show s.size + 1 ≤ _; omega)) (Ev.pos rfl (Ev.now _))))))))))))))

end Go.Proofs.Ytknbkjajfiediaa.Pure
