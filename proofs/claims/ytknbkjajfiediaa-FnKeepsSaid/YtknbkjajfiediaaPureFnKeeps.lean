/- The law FnKeeps answers true at every input; no condition. -/
import Derived.Test.YtknbkjajfiediaaQFnKeepsx6
import Derived.Test.YtknbkjajfiediaaTM
namespace Go.Proofs.Ytknbkjajfiediaa.Pure
open Go.RowKit Go.Proofs.Ytknbkjajfiediaa.QFnKeeps Go.Proofs.YtknbkjajfiediaaW.PrintWords Go.Proofs.YtknbkjajfiediaaW.PrintLast Go.Proofs.YtknbkjajfiediaaW.PrintMore Go.Proofs.Ytknbkjajfiediaa.M
set_option linter.unusedVariables false
set_option linter.unusedSimpArgs false
set_option maxRecDepth 4000

theorem laws_big_is (l : List Int) : laws_big.f l = some (decide ((l.length : Int) > 1048576)) := rfl
theorem spec_l01New_l0 (s : List Int) (hs : s.length ≤ 140737488355328) : ∀ (d : Nat) (i h : Int), 0 ≤ i → 4000 ≤ i + d → ∃ h', Ev (fun k => spec_l01New.l0 k s h i) (s, 0, h')
  | 0, i, h, h0, h1 => by
    refine ⟨h, Ev.step (f := fun k => some (s, 0, h)) (fun k => ?_) (Ev.now _)⟩
    simp only [spec_l01New.l0]
    rw [if_neg (show ¬ i < 4000 by omega)]
    split <;> rfl
  | d + 1, i, h, h0, h1 => by
    by_cases e : i < (s.length : Int)
    · by_cases e2 : i < 4000
      · obtain ⟨h', hh⟩ := spec_l01New_l0 s hs d (i + 1) (Go.bits .and .i64 (wrap64 ((wrap64 ((wrap64 (h * 131)) + (wrap64 (rd s i)))) + 7)) 1073741823) (by omega) (by omega)
        refine ⟨h', Ev.step (f := fun k => spec_l01New.l0 k s (Go.bits .and .i64 (wrap64 ((wrap64 ((wrap64 (h * 131)) + (wrap64 (rd s i)))) + 7)) 1073741823) (i + 1)) (fun k => ?_) hh⟩
        simp only [spec_l01New.l0]
        rw [if_pos e, if_pos e2, if_pos h0, w64 (x := i + 1) (by omega) (by omega)]
      · refine ⟨h, Ev.step (f := fun k => some (s, 0, h)) (fun k => ?_) (Ev.now _)⟩
        simp only [spec_l01New.l0]
        rw [if_pos e, if_neg e2]
    · refine ⟨h, Ev.step (f := fun k => some (s, 0, h)) (fun k => ?_) (Ev.now _)⟩
      simp only [spec_l01New.l0]
      rw [if_neg e]
theorem spec_l01New_ev (s : List Int) (hs : s.length ≤ 140737488355328) : ∃ h, Ev (fun k => spec_l01New.f k s) (s, 0, h) := by
  unfold spec_l01New.f
  exact spec_l01New_l0 s hs 4000 0 _ (by omega) (by omega)
theorem and255 (x : Int) : 0 ≤ Go.bits .and .i64 x 255 ∧ Go.bits .and .i64 x 255 ≤ 255 := by
  have h : (BitVec.ofInt 64 x &&& BitVec.ofInt 64 255).toNat ≤ 255 := by rw [BitVec.toNat_and]; exact Nat.le_trans Nat.and_le_right (by decide)
  change 0 ≤ IntKind.i64.wrap ((BitVec.ofInt 64 x &&& BitVec.ofInt 64 255).toNat : Int) ∧ IntKind.i64.wrap ((BitVec.ofInt 64 x &&& BitVec.ofInt 64 255).toNat : Int) ≤ 255
  generalize (BitVec.ofInt 64 x &&& BitVec.ofInt 64 255).toNat = v at h ⊢
  rw [IntKind.wrap_i64]
  omega
def DR (s : List Int) (i : Int) : Prop := 0 ≤ i ∧ i ≤ (s.length : Int)
theorem spec_l01Byte_is (s : List Int) (hs : s.length ≤ 140737488355328) (i h : Int) (hd : DR s i) : ∃ r i' h', spec_l01Byte.f s i h = some (r, i', h') ∧ (0 ≤ r ∧ r ≤ 255) ∧ DR s i' := by
  obtain ⟨h0, h1⟩ := hd
  unfold spec_l01Byte.f
  by_cases e : i < (s.length : Int)
  · rw [if_pos e, if_pos h0]
    exact ⟨_, _, _, rfl, and255 _, by rw [w64 (by omega) (by omega)]; exact ⟨by omega, by omega⟩⟩
  · rw [if_neg e]
    exact ⟨_, _, _, rfl, and255 _, h0, h1⟩
theorem spec_l01Below_is (s : List Int) (hs : s.length ≤ 140737488355328) (i h n : Int) (hd : DR s i) (hn : 0 < n ∧ n ≤ 1000000000) : ∃ r i' h', spec_l01Below.f s i h n = some (r, i', h') ∧ (0 ≤ r ∧ r < n) ∧ DR s i' := by
  unfold spec_l01Below.f
  rw [if_neg (by omega)]
  obtain ⟨x, i1, h1, e1, hx, d1⟩ := spec_l01Byte_is s hs i h hd
  by_cases e : n ≤ 256
  · rw [if_pos e, e1, Option.bind_some, if_neg (by omega), tm (by simp only; omega)]
    refine ⟨_, _, _, rfl, ⟨Int.emod_nonneg _ (by omega), Int.emod_lt_of_pos _ (by omega)⟩, d1⟩
  · rw [if_neg e, e1, Option.bind_some]
    obtain ⟨y, i2, h2, e2, hy, d2⟩ := spec_l01Byte_is s hs i1 h1 d1
    obtain ⟨z, i3, h3, e3, hz, d3⟩ := spec_l01Byte_is s hs i2 h2 d2
    obtain ⟨v, i4, h4, e4, hv, d4⟩ := spec_l01Byte_is s hs i3 h3 d3
    simp only [e2, e3, e4, Option.bind_some]
    rw [if_neg (by omega), w64 (x := x * 16777216) (by omega) (by omega), w64 (x := y * 65536) (by omega) (by omega), w64 (x := z * 256) (by omega) (by omega), w64 (x := x * 16777216 + y * 65536) (by omega) (by omega), w64 (x := x * 16777216 + y * 65536 + z * 256) (by omega) (by omega), w64 (by omega) (by omega), tm (by omega)]
    refine ⟨_, _, _, rfl, ⟨Int.emod_nonneg _ (by omega), Int.emod_lt_of_pos _ (by omega)⟩, d4⟩
theorem spec_DrawPlaces_l0 (s : List Int) (hs : s.length ≤ 140737488355328) : ∀ (d : Nat) (acc : List Int) (i a b : Int), 0 ≤ i → i + d = 12 → (acc.length : Int) = i → (∀ x ∈ acc, 0 ≤ x ∧ x < 10000) → DR s a → ∃ p, Ev (fun k => spec_DrawPlaces.l0 k acc i s a b) p ∧ p.length = 12 ∧ ∀ x ∈ p, 0 ≤ x ∧ x < 10000
  | 0, acc, i, a, b, h0, h1, h2, h3, hd => by
    refine ⟨acc, Ev.step (f := fun k => some acc) (fun k => ?_) (Ev.now _), by omega, h3⟩
    simp only [spec_DrawPlaces.l0]
    rw [if_neg (by omega)]
  | d + 1, acc, i, a, b, h0, h1, h2, h3, hd => by
    obtain ⟨x, a1, b1, e1, hx, d1⟩ := spec_l01Below_is s hs a b 10000 hd (by omega)
    obtain ⟨p, hp, hq⟩ := spec_DrawPlaces_l0 s hs d (acc ++ [x]) (i + 1) a1 b1 (by omega) (by omega) (by simp; omega) (by
      intro y hy
      rcases List.mem_append.1 hy with hy | hy
      · exact h3 y hy
      · rw [List.mem_singleton.1 hy]; exact hx) d1
    refine ⟨p, Ev.step (f := fun k => spec_DrawPlaces.l0 k (acc ++ [x]) (i + 1) s a1 b1) (fun k => ?_) hp, hq⟩
    simp only [spec_DrawPlaces.l0]
    rw [if_pos (by omega), e1, Option.bind_some, if_pos (by omega), w64 (x := i + 1) (by omega) (by omega)]
theorem spec_DrawPlaces_ev (s : List Int) (hs : s.length ≤ 140737488355328) : ∃ p, Ev (fun k => spec_DrawPlaces.f k s) p ∧ p.length = 12 ∧ ∀ x ∈ p, 0 ≤ x ∧ x < 10000 := by
  obtain ⟨h, hh⟩ := spec_l01New_ev s hs
  obtain ⟨x, a1, b1, e1, hx, d1⟩ := spec_l01Byte_is s hs 0 h ⟨by omega, by omega⟩
  obtain ⟨p, hp, hq⟩ := spec_DrawPlaces_l0 s hs 12 [] 0 a1 b1 (by omega) (by omega) (by simp) (by simp) d1
  refine ⟨p, ?_, hq⟩
  unfold spec_DrawPlaces.f
  exact Ev.bind hh (Ev.bind0 e1 hp)
theorem spec_l01Text_l0 (s : List Int) (hs : s.length ≤ 140737488355328) (n : Int) : ∀ (d : Nat) (acc : List Int) (i a b : Int), 0 ≤ i → i ≤ 5000 → n ≤ i + d → n ≤ 5000 → acc.length ≤ i → DR s a → ∃ t a' b', Ev (fun k => spec_l01Text.l0 k n acc i s a b) (t, a', b') ∧ DR s a'
  | 0, acc, i, a, b, h0, h1, h2, h3, h4, hd => by
    refine ⟨_, _, _, Ev.step (f := fun k => some (strOfNums acc, a, b)) (fun k => ?_) (Ev.now _), hd⟩
    simp only [spec_l01Text.l0]
    rw [if_neg (by omega)]
  | d + 1, acc, i, a, b, h0, h1, h2, h3, h4, hd => by
    by_cases e : i < n
    · obtain ⟨x, a1, b1, e1, hx, d1⟩ := spec_l01Byte_is s hs a b hd
      obtain ⟨t, a', b', ht, d2⟩ := spec_l01Text_l0 s hs n d (acc ++ [x % 256]) (i + 1) a1 b1 (by omega) (by omega) (by omega) h3 (by simp; omega) d1
      refine ⟨t, a', b', Ev.step (f := fun k => spec_l01Text.l0 k n (acc ++ [x % 256]) (i + 1) s a1 b1) (fun k => ?_) ht, d2⟩
      simp only [spec_l01Text.l0]
      rw [if_pos e, e1, Option.bind_some, if_pos (by omega), w64 (x := i + 1) (by omega) (by omega)]
    · refine ⟨_, _, _, Ev.step (f := fun k => some (strOfNums acc, a, b)) (fun k => ?_) (Ev.now _), hd⟩
      simp only [spec_l01Text.l0]
      rw [if_neg e]
theorem spec_l01Text_ev (s : List Int) (hs : s.length ≤ 140737488355328) (a b n : Int) (hn : n ≤ 5000) (hd : DR s a) : ∃ t a' b', Ev (fun k => spec_l01Text.f k s a b n) (t, a', b') ∧ DR s a' := by
  obtain ⟨t, a', b', ht, d2⟩ := spec_l01Text_l0 s hs n 5000 [] 0 a b (by omega) (by omega) (by omega) hn (by simp) hd
  refine ⟨t, a', b', ?_, d2⟩
  unfold spec_l01Text.f
  exact Ev.neg (by omega) (Ev.step (f := fun k => spec_l01Text.l0 k n [] 0 s a b) (fun k => by simp only [spec_l01Text.j0]) ht)
abbrev IFi := S60
theorem rd_IFi {l : List IFi} {i : Nat} (h : i < l.length) : rd_T60 l (i : Int) = l[i] := by
  simp [rd_T60, List.getD_eq_getElem?_getD, List.getElem?_eq_getElem h]
theorem rd_IFi_drop {l : List IFi} {i : Nat} (h : i < l.length) : l.drop i = rd_T60 l (i : Int) :: l.drop (i + 1) := by
  rw [List.drop_eq_getElem_cons h, rd_IFi h]
def bLess (a b : ByteArray) : Bool := Go.Op.bytesLess a.toList b.toList
def fileOk (x : IFi) : Bool := decide (1 ≤ x.f0.size ∧ x.f0.size ≤ 8) && decide (x.f1.size ≤ 20000) && decide (0 ≤ x.f2 ∧ x.f2 ≤ (x.f1.size : Int))
def above : Option ByteArray → ByteArray → Bool
  | none, _ => true
  | some q, s => bLess q s
def filesOk : Option ByteArray → List IFi → Bool
  | _, [] => true
  | p, x :: l => fileOk x && above p x.f0 && filesOk (some x.f0) l
def diskOk (l : List IFi) : Bool := decide (l.length ≤ 30) && filesOk none l
open Go.Proofs.Ytknbkjajfiediaa.Sem (less_irrefl less_trans less_total)
theorem less_asymm {a b : List UInt8} (h : Go.Op.bytesLess a b = true) : Go.Op.bytesLess b a = false := Go.Proofs.Ytknbkjajfiediaa.Sem.less_no h
def Sd (l : List IFi) : Prop := l.Pairwise (fun x y => bLess x.f0 y.f0 = true)
theorem filesOk_iff : ∀ (l : List IFi) (p : Option ByteArray), filesOk p l = true ↔ (∀ x ∈ l, fileOk x = true) ∧ (∀ x ∈ l, above p x.f0 = true) ∧ Sd l
  | [], p => by simp [filesOk, Sd]
  | x :: l, p => by
    simp only [filesOk, Bool.and_eq_true, filesOk_iff l (some x.f0), Sd, List.pairwise_cons, List.mem_cons, forall_eq_or_imp, above]
    constructor
    · rintro ⟨⟨h1, h2⟩, h3, h4, h5⟩
      refine ⟨⟨h1, h3⟩, ⟨h2, fun y hy => ?_⟩, h4, h5⟩
      cases p with
      | none => rfl
      | some q => exact less_trans _ _ _ h2 (h4 y hy)
    · rintro ⟨⟨h1, h3⟩, ⟨h2, _⟩, h4, h5⟩
      exact ⟨⟨h1, h2⟩, h3, h4, h5⟩
theorem diskOk_iff (l : List IFi) : diskOk l = true ↔ l.length ≤ 30 ∧ (∀ x ∈ l, fileOk x = true) ∧ Sd l := by
  unfold diskOk
  rw [Bool.and_eq_true, decide_eq_true_eq, filesOk_iff]
  constructor
  · rintro ⟨h, h1, _, h2⟩; exact ⟨h, h1, h2⟩
  · rintro ⟨h, h1, h2⟩; exact ⟨h, h1, fun _ _ => rfl, h2⟩
theorem fileOk_iff (x : IFi) : fileOk x = true ↔ (1 ≤ x.f0.size ∧ x.f0.size ≤ 8) ∧ x.f1.size ≤ 20000 ∧ 0 ≤ x.f2 ∧ x.f2 ≤ (x.f1.size : Int) := by
  unfold fileOk; simp only [Bool.and_eq_true, decide_eq_true_eq]; exact ⟨fun h => ⟨h.1.1, h.1.2, h.2⟩, fun h => ⟨⟨h.1, h.2.1⟩, h.2.2⟩⟩
/-- A file in its place among files in order: in the place of that of its name, where there is one. -/
def putL (l : List IFi) (f : IFi) : List IFi := l.filter (fun x => bLess x.f0 f.f0) ++ f :: l.filter (fun x => bLess f.f0 x.f0)
theorem putL_len (l : List IFi) (f : IFi) : (putL l f).length ≤ l.length + 1 := by
  unfold putL
  rw [List.length_append, List.length_cons]
  have : ∀ l : List IFi, (l.filter (fun x => bLess x.f0 f.f0)).length + (l.filter (fun x => bLess f.f0 x.f0)).length ≤ l.length := by
    intro l
    induction l with
    | nil => simp
    | cons x l ih =>
      simp only [List.filter_cons, List.length_cons]
      cases h1 : bLess x.f0 f.f0 with
      | true => rw [show bLess f.f0 x.f0 = false from less_asymm h1]; simp; omega
      | false =>
        cases h2 : bLess f.f0 x.f0 with
        | true => simp; omega
        | false => simp; omega
  have := this l
  omega
theorem putL_sd {l : List IFi} (h : Sd l) (f : IFi) : Sd (putL l f) := by
  unfold putL Sd
  rw [List.pairwise_append, List.pairwise_cons]
  refine ⟨h.sublist List.filter_sublist, ⟨fun x hx => ?_, h.sublist List.filter_sublist⟩, fun x hx y hy => ?_⟩
  · simpa using (List.mem_filter.1 hx).2
  · have h1 := (List.mem_filter.1 hx).2
    rcases List.mem_cons.1 hy with rfl | hy
    · exact h1
    · exact less_trans _ _ _ h1 (List.mem_filter.1 hy).2
theorem putL_ok {l : List IFi} {f : IFi} (h : ∀ x ∈ l, fileOk x = true) (hf : fileOk f = true) : ∀ x ∈ putL l f, fileOk x = true := by
  intro x hx
  unfold putL at hx
  rcases List.mem_append.1 hx with hx | hx
  · exact h x (List.mem_filter.1 hx).1
  · rcases List.mem_cons.1 hx with rfl | hx
    · exact hf
    · exact h x (List.mem_filter.1 hx).1
theorem spec_l03Put_l1 (l : List IFi) (hl : l.length ≤ 1048577) (f : IFi) : ∀ (d i : Nat) (acc : List IFi), i + d = l.length → acc.length ≤ l.length + 1 + i →
    Ev (fun k => spec_l03Put.l1 k (i : Int) l f.f0 f.f1 f.f2 acc) (acc ++ (l.drop i).filter (fun x => bLess f.f0 x.f0))
  | 0, i, acc, h, ha => by
    refine Ev.step (f := fun k => some acc) (fun k => ?_) ((Ev.now _).eq ?_)
    · simp only [spec_l03Put.l1]; rw [if_neg (by omega)]
    · rw [List.drop_of_length_le (by omega)]; simp
  | d + 1, i, acc, h, ha => by
    rw [rd_IFi_drop (by omega : i < l.length)]
    generalize hX : rd_T60 l (i : Int) = x
    have w4 : wrap64 ((i : Int) + 1) = ((i + 1 : Nat) : Int) := by rw [w64 (by omega) (by omega)]; omega
    by_cases hb : bLess f.f0 x.f0 = true
    · rw [List.filter_cons_of_pos (by simpa using hb)]
      refine Ev.step (f := fun k => spec_l03Put.l1 k ((i + 1 : Nat) : Int) l f.f0 f.f1 f.f2 (acc ++ [x])) (fun k => ?_) ((spec_l03Put_l1 l hl f d (i + 1) (acc ++ [x]) (by omega) (by simp; omega)).eq (by simp))
      simp only [spec_l03Put.l1, hX, w4]
      rw [if_pos (by omega), if_pos (by omega), if_pos (show Go.Op.bytesLess f.f0.toList x.f0.toList = true from hb), if_pos (by omega)]
    · rw [List.filter_cons_of_neg (by simpa using hb)]
      refine Ev.step (f := fun k => spec_l03Put.l1 k ((i + 1 : Nat) : Int) l f.f0 f.f1 f.f2 acc) (fun k => ?_) (spec_l03Put_l1 l hl f d (i + 1) acc (by omega) (by omega))
      simp only [spec_l03Put.l1, hX, w4]
      rw [if_pos (by omega), if_pos (by omega), if_neg (show ¬ Go.Op.bytesLess f.f0.toList x.f0.toList = true from hb)]
theorem spec_l03Put_l0 (l : List IFi) (hl : l.length ≤ 1048577) (f : IFi) : ∀ (d i : Nat) (acc : List IFi), i + d = l.length → acc.length ≤ i →
    Ev (fun k => spec_l03Put.l0 k (i : Int) l f.f0 f.f1 f.f2 acc) (acc ++ ((l.drop i).filter (fun x => bLess x.f0 f.f0) ++ f :: l.filter (fun x => bLess f.f0 x.f0)))
  | 0, i, acc, h, ha => by
    have := spec_l03Put_l1 l hl f l.length 0 (acc ++ [f]) (by omega) (by simp; omega)
    refine Ev.step (f := fun k => spec_l03Put.l1 k ((0 : Nat) : Int) l f.f0 f.f1 f.f2 (acc ++ [f])) (fun k => ?_) (this.eq ?_)
    · simp only [spec_l03Put.l0]; rw [if_neg (by omega), if_pos (by omega)]; rfl
    · rw [List.drop_of_length_le (by omega : l.length ≤ i)]; simp
  | d + 1, i, acc, h, ha => by
    rw [rd_IFi_drop (by omega : i < l.length)]
    generalize hX : rd_T60 l (i : Int) = x
    have w4 : wrap64 ((i : Int) + 1) = ((i + 1 : Nat) : Int) := by rw [w64 (by omega) (by omega)]; omega
    by_cases hb : bLess x.f0 f.f0 = true
    · rw [List.filter_cons_of_pos (by simpa using hb)]
      refine Ev.step (f := fun k => spec_l03Put.l0 k ((i + 1 : Nat) : Int) l f.f0 f.f1 f.f2 (acc ++ [x])) (fun k => ?_) ((spec_l03Put_l0 l hl f d (i + 1) (acc ++ [x]) (by omega) (by simp; omega)).eq (by simp))
      simp only [spec_l03Put.l0, hX, w4]
      rw [if_pos (by omega), if_pos (by omega), if_pos (show Go.Op.bytesLess x.f0.toList f.f0.toList = true from hb), if_pos (by omega)]
    · rw [List.filter_cons_of_neg (by simpa using hb)]
      refine Ev.step (f := fun k => spec_l03Put.l0 k ((i + 1 : Nat) : Int) l f.f0 f.f1 f.f2 acc) (fun k => ?_) (spec_l03Put_l0 l hl f d (i + 1) acc (by omega) (by omega))
      simp only [spec_l03Put.l0, hX, w4]
      rw [if_pos (by omega), if_pos (by omega), if_neg (show ¬ Go.Op.bytesLess x.f0.toList f.f0.toList = true from hb)]
theorem spec_l03Put_ev (l : List IFi) (hl : l.length ≤ 1048577) (f : IFi) : Ev (fun k => spec_l03Put.f k l f.f0 f.f1 f.f2) (putL l f) := by
  unfold spec_l03Put.f putL
  have := spec_l03Put_l0 l hl f l.length 0 [] (by omega) (by simp)
  simpa using this
theorem rdOf_nat {α : Type} (d : α) (l : List α) (i : Nat) (h : i < l.length) : rdOf d l (i : Int) = l[i] := by
  simp [rdOf, List.getD_eq_getElem?_getD, List.getElem?_eq_getElem h]
theorem spec_l01Pick_is (s : List Int) (hs : s.length ≤ 140737488355328) (i h : Int) (l : List ByteArray) (hd : DR s i) (hl : 0 < l.length ∧ l.length ≤ 1000) : ∃ r i' h', spec_l01Pick.f s i h l = some (r, i', h') ∧ r ∈ l ∧ DR s i' := by
  obtain ⟨x, i1, h1, e1, hx, d1⟩ := spec_l01Below_is s hs i h (l.length : Int) hd (by omega)
  unfold spec_l01Pick.f
  rw [e1, Option.bind_some, if_pos (by simp only; omega), if_pos (by simp only; omega)]
  refine ⟨_, _, _, rfl, ?_, d1⟩
  obtain ⟨n, rfl⟩ : ∃ n : Nat, x = n := ⟨x.toNat, by omega⟩
  rw [rdOf_nat _ l n (by omega)]
  exact List.getElem_mem _
theorem spec_l03Named_is (s : List Int) (hs : s.length ≤ 140737488355328) (i h : Int) (hd : DR s i) : ∃ r i' h', spec_l03Named.f s i h = some (r, i', h') ∧ (1 ≤ r.size ∧ r.size ≤ 8) ∧ DR s i' := by
  obtain ⟨r, i1, h1, e1, hr, d1⟩ := spec_l01Pick_is s hs i h [(⟨#[97]⟩ : ByteArray), (⟨#[98]⟩ : ByteArray), (⟨#[99]⟩ : ByteArray), (⟨#[106, 48]⟩ : ByteArray), (⟨#[106, 49]⟩ : ByteArray), (⟨#[106, 43]⟩ : ByteArray), (⟨#[115, 48]⟩ : ByteArray), (⟨#[115, 43]⟩ : ByteArray)] hd (by simp)
  unfold spec_l03Named.f
  rw [e1, Option.bind_some]
  refine ⟨_, _, _, rfl, ?_, d1⟩
  simp only [List.mem_cons, List.not_mem_nil, or_false] at hr
  rcases hr with rfl | rfl | rfl | rfl | rfl | rfl | rfl | rfl <;> (refine ⟨?_, ?_⟩ <;> simp only <;> decide)
theorem spec_l01Text_z0 (s : List Int) (hs : s.length ≤ 140737488355328) (n : Int) : ∀ (d : Nat) (acc : List Int) (i a b : Int), 0 ≤ i → i ≤ 5000 → n ≤ i + d → n ≤ 5000 → acc.length ≤ i → DR s a → ∃ t a' b', Ev (fun k => spec_l01Text.l0 k n acc i s a b) (t, a', b') ∧ DR s a' ∧ t.size ≤ 5000
  | 0, acc, i, a, b, h0, h1, h2, h3, h4, hd => by
    refine ⟨_, _, _, Ev.step (f := fun k => some (strOfNums acc, a, b)) (fun k => ?_) (Ev.now _), hd, by rw [str_size]; omega⟩
    simp only [spec_l01Text.l0]
    rw [if_neg (by omega)]
  | d + 1, acc, i, a, b, h0, h1, h2, h3, h4, hd => by
    by_cases e : i < n
    · obtain ⟨x, a1, b1, e1, hx, d1⟩ := spec_l01Byte_is s hs a b hd
      obtain ⟨t, a', b', ht, d2⟩ := spec_l01Text_z0 s hs n d (acc ++ [x % 256]) (i + 1) a1 b1 (by omega) (by omega) (by omega) h3 (by simp; omega) d1
      refine ⟨t, a', b', Ev.step (f := fun k => spec_l01Text.l0 k n (acc ++ [x % 256]) (i + 1) s a1 b1) (fun k => ?_) ht, d2⟩
      simp only [spec_l01Text.l0]
      rw [if_pos e, e1, Option.bind_some, if_pos (by omega), w64 (x := i + 1) (by omega) (by omega)]
    · refine ⟨_, _, _, Ev.step (f := fun k => some (strOfNums acc, a, b)) (fun k => ?_) (Ev.now _), hd, by rw [str_size]; omega⟩
      simp only [spec_l01Text.l0]
      rw [if_neg e]
theorem spec_l01Text_sz (s : List Int) (hs : s.length ≤ 140737488355328) (a b n : Int) (hn : n ≤ 5000) (hd : DR s a) : ∃ t a' b', Ev (fun k => spec_l01Text.f k s a b n) (t, a', b') ∧ DR s a' ∧ t.size ≤ 5000 := by
  obtain ⟨t, a', b', ht, d2⟩ := spec_l01Text_z0 s hs n 5000 [] 0 a b (by omega) (by omega) (by omega) hn (by simp) hd
  refine ⟨t, a', b', ?_, d2⟩
  unfold spec_l01Text.f
  exact Ev.neg (by omega) (Ev.step (f := fun k => spec_l01Text.l0 k n [] 0 s a b) (fun k => by simp only [spec_l01Text.j0]) ht)
theorem spec_DrawRightDisk_l0 (s : List Int) (hs : s.length ≤ 140737488355328) : ∀ (d i : Nat) (a b : Int) (l : List IFi), i + d = 6 → DR s a → l.length ≤ i → (∀ x ∈ l, fileOk x = true) → Sd l →
    ∃ t, Ev (fun k => spec_DrawRightDisk.l0 k (i : Int) s a b l) t ∧ diskOk t = true := by
  intro d
  induction d with
  | zero =>
    intro i a b l h hd hl ho hS
    obtain ⟨x, a1, b1, e1, hx, d1⟩ := spec_l01Below_is s hs a b 6 hd (by omega)
    refine ⟨l, Ev.step (f := fun k => some l) (fun k => ?_) (Ev.now _), (diskOk_iff l).2 ⟨by omega, ho, hS⟩⟩
    simp only [spec_DrawRightDisk.l0]
    rw [e1, Option.bind_some, if_neg (by simp only; omega)]
  | succ d ih =>
    intro i a b l h hd hl ho hS
    obtain ⟨x, a1, b1, e1, hx, d1⟩ := spec_l01Below_is s hs a b 6 hd (by omega)
    by_cases hi : (i : Int) < x
    · obtain ⟨y, a2, b2, e2, hy, d2⟩ := spec_l01Below_is s hs a1 b1 30 d1 (by omega)
      obtain ⟨t, a3, b3, e3, d3, ht⟩ := spec_l01Text_sz s hs a2 b2 y (by omega) d2
      obtain ⟨nm, a4, b4, e4, hn, d4⟩ := spec_l03Named_is s hs a3 b3 d3
      obtain ⟨z, a5, b5, e5, hz, d5⟩ := spec_l01Below_is s hs a4 b4 ((t.size : Int) + 1) d4 (by omega)
      have hf : fileOk (⟨nm, t, z⟩ : IFi) = true := (fileOk_iff _).2 ⟨hn, by simp only; omega, by simp only; omega, by simp only; omega⟩
      have hp := putL_len l ⟨nm, t, z⟩
      obtain ⟨u, hu, hk⟩ := ih (i + 1) a5 b5 (putL l ⟨nm, t, z⟩) (by omega) d5 (by omega) (putL_ok ho hf) (putL_sd hS _)
      refine ⟨u, Ev.step (f := fun k => (spec_l01Text.f k s a2 b2 y).bind fun bt184 => (spec_l03Named.f s bt184.2.1 bt184.2.2).bind fun bt187 => (spec_l01Below.f s bt187.2.1 bt187.2.2 (wrap64 ((bt184.1.size : Int) + 1))).bind fun bt190 => (spec_l03Put.f k l bt187.1 bt184.1 bt190.1).bind fun t193 => spec_DrawRightDisk.l0 k ((i + 1 : Nat) : Int) s bt190.2.1 bt190.2.2 t193) (fun k => ?_) ?_, hk⟩
      · simp only [spec_DrawRightDisk.l0]
        rw [e1, Option.bind_some, if_pos (by simp only; exact hi)]
        have w4 : wrap64 ((i : Int) + 1) = ((i + 1 : Nat) : Int) := by rw [w64 (by omega) (by omega)]; omega
        simp only [e2, Option.bind_some, w4]
      · have e6 : spec_l01Below.f s a4 b4 (wrap64 ((t.size : Int) + 1)) = some (z, a5, b5) := by rw [w64 (by omega) (by omega)]; exact e5
        have hp2 : Ev (fun k => spec_l03Put.f k l nm t z) (putL l ⟨nm, t, z⟩) := spec_l03Put_ev l (by omega) ⟨nm, t, z⟩
        exact Ev.bind e3 (Ev.bind0 e4 (Ev.bind0 e6 (Ev.bind hp2 hu)))
    · refine ⟨l, Ev.step (f := fun k => some l) (fun k => ?_) (Ev.now _), (diskOk_iff l).2 ⟨by omega, ho, hS⟩⟩
      simp only [spec_DrawRightDisk.l0]
      rw [e1, Option.bind_some, if_neg (by simp only; exact hi)]
theorem spec_DrawRightDisk_ev (s : List Int) (hs : s.length ≤ 140737488355328) : ∃ t, Ev (fun k => spec_DrawRightDisk.f k s) t ∧ diskOk t = true := by
  obtain ⟨h, hh⟩ := spec_l01New_ev s hs
  obtain ⟨t, ht, hk⟩ := spec_DrawRightDisk_l0 s hs 6 0 0 h [] (by omega) ⟨by omega, by omega⟩ (by simp) (by simp) List.Pairwise.nil
  refine ⟨t, ?_, hk⟩
  unfold spec_DrawRightDisk.f
  exact Ev.bind hh ht
theorem laws_lefts_l0 (p : List Int) (hp : p.length = 12) : ∀ (d i : Nat) (acc : List Int), i + d = 6 → acc.length = i → ∃ t, Ev (fun k => laws_lefts.l0 k p acc (i : Int)) t
  | 0, i, acc, h, ha => by
    refine ⟨acc, Ev.step (f := fun k => some acc) (fun k => ?_) (Ev.now _)⟩
    simp only [laws_lefts.l0]; rw [if_neg (by omega)]
  | d + 1, i, acc, h, ha => by
    obtain ⟨t, ht⟩ := laws_lefts_l0 p hp d (i + 1) (acc ++ [Int.tmod (rd p (i : Int)) 300]) (by omega) (by simp; omega)
    refine ⟨t, Ev.step (f := fun k => laws_lefts.l0 k p (acc ++ [Int.tmod (rd p (i : Int)) 300]) ((i + 1 : Nat) : Int)) (fun k => ?_) ht⟩
    simp only [laws_lefts.l0]
    rw [if_pos (by omega), if_pos (by omega), if_pos (by omega), if_pos (by omega), w64 (x := (i : Int) + 1) (by omega) (by omega)]; rfl
theorem laws_lefts_ev (p : List Int) (hp : p.length = 12) : ∃ t, Ev (fun k => laws_lefts.f k p) t := laws_lefts_l0 p hp 6 0 [] (by omega) rfl
theorem impl_within_is (a b c : Int) : impl_within.f a b c = some (inR a b c) := by
  unfold impl_within.f inR
  by_cases h : a ≥ b
  · rw [if_pos h]; congr 1; simp; omega
  · rw [if_neg h]; congr 1; simp; omega
theorem impl_DiskOk_l0 (l : List IFi) (hl : l.length ≤ 1048577) : ∀ (d i : Nat) (p : Option ByteArray), i + d = l.length → (i = 0 → p = none) → (0 < i → p = some (rd_T60 l ((i - 1 : Nat) : Int)).f0) →
    Ev (fun k => impl_DiskOk.l0 k l (l.length : Int) (i : Int) l) (decide (l.length ≤ 30) && filesOk p (l.drop i))
  | 0, i, p, h, h0, h1 => by
    refine Ev.step (f := fun k => some (decide ((l.length : Int) ≤ 30))) (fun k => ?_) ((Ev.now _).eq ?_)
    · simp only [impl_DiskOk.l0]; rw [if_neg (by omega)]
    · rw [List.drop_of_length_le (by omega)]
      simp only [filesOk, Bool.and_true]
      congr 1
      simp only [eq_iff_iff]; omega
  | d + 1, i, p, h, h0, h1 => by
    rw [rd_IFi_drop (l := l) (i := i) (by omega)]
    have ih := impl_DiskOk_l0 l hl d (i + 1) (some (rd_T60 l (i : Int)).f0) (by omega) (by omega) (fun _ => by simp)
    have a1i : ∀ s : ByteArray, inR (s.size : Int) 1 8 = decide (1 ≤ s.size ∧ s.size ≤ 8) := by
      intro s; unfold inR; congr 1; simp only [eq_iff_iff]; omega
    generalize hx : rd_T60 l (i : Int) = x at *
    simp only [filesOk, fileOk]
    by_cases a1 : 1 ≤ x.f0.size ∧ x.f0.size ≤ 8
    · by_cases a2 : x.f1.size ≤ 20000
      · by_cases a3 : 0 ≤ x.f2 ∧ x.f2 ≤ (x.f1.size : Int)
        · rw [decide_eq_true a1, decide_eq_true a2, decide_eq_true a3, Bool.true_and, Bool.true_and, Bool.true_and]
          by_cases hi : 0 < i
          · rw [h1 hi]
            have ei : wrap64 ((i : Int) - 1) = ((i - 1 : Nat) : Int) := by rw [w64 (by omega) (by omega)]; omega
            by_cases hb : bLess (rd_T60 l ((i - 1 : Nat) : Int)).f0 x.f0 = true
            · refine Ev.step (f := fun k => impl_DiskOk.l0 k l (l.length : Int) ((i + 1 : Nat) : Int) l) (fun k => ?_) (ih.eq ?_)
              · simp only [impl_DiskOk.l0]
                rw [if_pos (by omega), if_pos (by omega), if_pos (by omega), hx, impl_within_is, Option.bind_some, a1i, if_pos (decide_eq_true a1), if_neg (by omega), impl_within_is, Option.bind_some, if_pos (inR_iff.2 a3), if_pos (by omega), ei, if_pos (by omega), if_pos (by omega), if_pos (show Go.Op.bytesLess _ _ = true from hb)]
                rw [w64 (x := (i : Int) + 1) (by omega) (by omega)]; rfl
              · simp only [above]; rw [hb, Bool.true_and]
            · refine Ev.step (f := fun k => some false) (fun k => ?_) ((Ev.now _).eq ?_)
              · simp only [impl_DiskOk.l0]
                rw [if_pos (by omega), if_pos (by omega), if_pos (by omega), hx, impl_within_is, Option.bind_some, a1i, if_pos (decide_eq_true a1), if_neg (by omega), impl_within_is, Option.bind_some, if_pos (inR_iff.2 a3), if_pos (by omega), ei, if_pos (by omega), if_pos (by omega), if_neg (show ¬ Go.Op.bytesLess _ _ = true from hb)]
              · simp only [above]; rw [Bool.not_eq_true _ |>.mp hb, Bool.false_and, Bool.and_false]
          · rw [h0 (by omega)]
            refine Ev.step (f := fun k => impl_DiskOk.l0 k l (l.length : Int) ((i + 1 : Nat) : Int) l) (fun k => ?_) (ih.eq ?_)
            · simp only [impl_DiskOk.l0]
              rw [if_pos (by omega), if_pos (by omega), if_pos (by omega), hx, impl_within_is, Option.bind_some, a1i, if_pos (decide_eq_true a1), if_neg (by omega), impl_within_is, Option.bind_some, if_pos (inR_iff.2 a3), if_neg (by omega)]
              rw [w64 (x := (i : Int) + 1) (by omega) (by omega)]; rfl
            · simp only [above]; rw [Bool.true_and]
        · refine Ev.step (f := fun k => some false) (fun k => ?_) ((Ev.now _).eq ?_)
          · simp only [impl_DiskOk.l0]
            rw [if_pos (by omega), if_pos (by omega), if_pos (by omega), hx, impl_within_is, Option.bind_some, a1i, if_pos (decide_eq_true a1), if_neg (by omega), impl_within_is, Option.bind_some, if_neg (fun e => a3 (inR_iff.1 e))]
          · rw [decide_eq_false a3]; simp
      · refine Ev.step (f := fun k => some false) (fun k => ?_) ((Ev.now _).eq ?_)
        · simp only [impl_DiskOk.l0]
          rw [if_pos (by omega), if_pos (by omega), if_pos (by omega), hx, impl_within_is, Option.bind_some, a1i, if_pos (decide_eq_true a1), if_pos (by omega)]
        · rw [decide_eq_false a2]; simp
    · refine Ev.step (f := fun k => some false) (fun k => ?_) ((Ev.now _).eq ?_)
      · simp only [impl_DiskOk.l0]
        rw [if_pos (by omega), if_pos (by omega), if_pos (by omega), hx, impl_within_is, Option.bind_some, a1i, if_neg (by rw [decide_eq_true_eq]; exact a1)]
      · rw [decide_eq_false a1]; simp
theorem impl_DiskOk_ev (l : List IFi) (hl : l.length ≤ 1048577) : Ev (fun k => impl_DiskOk.f k l) (diskOk l) :=
  impl_DiskOk_l0 l hl l.length 0 none (by omega) (fun _ => rfl) (fun h => absurd h (by omega))
/-- How much of a file is left: what is kept, and of the rest as much as 'left' has at its place. -/
def leftN (x : IFi) (n : Int) : Int := max x.f2 (min n (x.f1.size : Int))
def loseF (x : IFi) (n : Int) : IFi := ⟨x.f0, x.f1.extract 0 (leftN x n).toNat, leftN x n⟩
def loseL : List IFi → List Int → List IFi
  | [], _ => []
  | x :: l, [] => loseF x 0 :: loseL l []
  | x :: l, n :: r => loseF x n :: loseL l r
def loseDisk (l : List IFi) (r : List Int) : List IFi × Bool := if diskOk l = true then (loseL l r, true) else ([], false)
theorem loseL_length : ∀ (l : List IFi) (r : List Int), (loseL l r).length = l.length
  | [], _ => rfl
  | x :: l, [] => by simp [loseL, loseL_length l []]
  | x :: l, n :: r => by simp [loseL, loseL_length l r]
theorem filesOk_range : ∀ (l : List IFi) (p : Option ByteArray), filesOk p l = true → ∀ x ∈ l, 0 ≤ x.f2 ∧ x.f2 ≤ (x.f1.size : Int) ∧ x.f1.size ≤ 20000
  | [], _, _ => by simp
  | y :: l, p, h => by
    simp only [filesOk, Bool.and_eq_true] at h
    intro x hx
    rcases List.mem_cons.1 hx with rfl | hx
    · have := h.1.1
      simp only [fileOk, Bool.and_eq_true, decide_eq_true_eq] at this
      exact ⟨this.2.1, this.2.2, this.1.2⟩
    · exact filesOk_range l _ h.2 x hx
theorem diskOk_range {l : List IFi} (h : diskOk l = true) : l.length ≤ 30 ∧ ∀ x ∈ l, 0 ≤ x.f2 ∧ x.f2 ≤ (x.f1.size : Int) ∧ x.f1.size ≤ 20000 := by
  unfold diskOk at h
  simp only [Bool.and_eq_true, decide_eq_true_eq] at h
  exact ⟨h.1, filesOk_range l _ h.2⟩
theorem impl_LoseDisk_row : ∀ (l : List IFi) (r : List Int), impl_LoseDisk.row l r = loseL l r
  | [], _ => rfl
  | x :: l, [] => by simp only [impl_LoseDisk.row, loseL]; rw [impl_LoseDisk_row l []]; rfl
  | x :: l, n :: r => by simp only [impl_LoseDisk.row, loseL]; rw [impl_LoseDisk_row l r]; rfl
theorem impl_LoseDisk_ev (l : List IFi) (hl : l.length ≤ 1048577) (r : List Int) : Ev (fun k => impl_LoseDisk.f k l r) (loseDisk l r) := by
  by_cases h : diskOk l = true
  · have e : loseDisk l r = (loseL l r, true) := by rw [loseDisk, if_pos h]
    rw [e]
    unfold impl_LoseDisk.f
    simp only [impl_LoseDisk_row]
    have hr := diskOk_range h
    refine Ev.bind (impl_DiskOk_ev l hl) (Ev.pos h (Ev.pos ⟨by have := hr.1; omega, ?_⟩ (Ev.now _)))
    refine List.all_eq_true.2 (fun x hx => decide_eq_true ?_)
    have := hr.2 x hx
    exact ⟨this.1, this.2.1, by omega⟩
  · have e : loseDisk l r = ([], false) := by rw [loseDisk, if_neg h]
    rw [e]
    unfold impl_LoseDisk.f
    exact Ev.bind (impl_DiskOk_ev l hl) (Ev.neg h (Ev.now _))
theorem loseDisk_len (l : List IFi) (r : List Int) : (loseDisk l r).1.length ≤ l.length := by
  unfold loseDisk
  split
  · simp only; rw [loseL_length]; exact Nat.le_refl _
  · exact Nat.zero_le _
theorem laws_sameDisk_l0 (l : List IFi) (hl : l.length ≤ 1048577) : ∀ (d i : Nat), i + d = l.length → Ev (fun k => laws_sameDisk.l0 k (i : Int) l l) true
  | 0, i, h => by
    refine Ev.step (f := fun k => some true) (fun k => ?_) (Ev.now _)
    simp only [laws_sameDisk.l0]; rw [if_neg (by omega)]
  | d + 1, i, h => by
    refine Ev.step (f := fun k => laws_sameDisk.l0 k ((i + 1 : Nat) : Int) l l) (fun k => ?_) (laws_sameDisk_l0 l hl d (i + 1) (by omega))
    simp only [laws_sameDisk.l0]
    rw [if_pos (by omega), if_pos (by omega), if_pos (by omega), if_neg (by simp), w64 (x := (i : Int) + 1) (by omega) (by omega)]; rfl
theorem laws_sameDisk_ev (l : List IFi) (hl : l.length ≤ 1048577) : Ev (fun k => laws_sameDisk.f k l l) true := by
  unfold laws_sameDisk.f
  exact Ev.pos rfl (laws_sameDisk_l0 l hl l.length 0 (by omega))
def lessKept (x : IFi) : Bool := x.f2 != (x.f1.size : Int)
def allKept (l : List IFi) : Bool := diskOk l && !decide (0 ≤ M.idxP lessKept l 0)
theorem idxP_drop {p : IFi → Bool} : ∀ (l : List IFi) (i : Int), 0 ≤ i → decide (0 ≤ M.idxP p l i) = l.any p
  | [], _, _ => by simp [M.idxP]
  | x :: l, i, h => by
    by_cases e : p x = true
    · have e1 : M.idxP p (x :: l) i = i := if_pos e
      have h0 : 0 ≤ M.idxP p (x :: l) i := by rw [e1]; exact h
      rw [decide_eq_true h0, List.any_cons, e]; rfl
    · have e1 : M.idxP p (x :: l) i = M.idxP p l (i + 1) := if_neg e
      rw [List.any_cons, Bool.not_eq_true _ |>.mp e, Bool.false_or, ← idxP_drop l (i + 1) (by omega)]
      exact decide_eq_decide.2 (by rw [e1])
theorem impl_AllKept_ev (l : List IFi) (hl : l.length ≤ 1048577) : Ev (fun k => impl_AllKept.f k l) (allKept l) := by
  unfold impl_AllKept.f allKept
  refine Ev.bind (impl_DiskOk_ev l hl) ?_
  by_cases h : diskOk l = true
  · refine Ev.pos h ((Ev.now _).eq ?_)
    rw [h]; rfl
  · refine Ev.neg h ((Ev.now _).eq ?_)
    rw [Bool.not_eq_true _ |>.mp h]; simp
theorem laws_begins_is (t : ByteArray) (n : Nat) (h : n ≤ t.size) (u : ByteArray) (hu : u = t.extract 0 n) : laws_begins.f u t = some true := by
  subst hu
  have hz : (t.extract 0 n).size = n := by rw [size_extract _ _ _ (by omega) h]; omega
  unfold laws_begins.f
  rw [if_pos (by omega), if_pos (by omega), hz, Int.toNat_natCast]
  simp
theorem loseL_get : ∀ (l : List IFi) (r : List Int) (i : Nat) (h : i < l.length) (h' : i < (loseL l r).length), (loseL l r)[i] = loseF l[i] (r.getD i 0)
  | x :: l, [], 0, _, _ => rfl
  | x :: l, n :: r, 0, _, _ => rfl
  | x :: l, [], i + 1, h, h' => by
    simp only [loseL, List.getElem_cons_succ]
    rw [loseL_get l [] i (by simpa using h)]; rfl
  | x :: l, n :: r, i + 1, h, h' => by
    simp only [loseL, List.getElem_cons_succ]
    rw [loseL_get l r i (by simpa using h)]; rfl
theorem leftN_range {x : IFi} (h : 0 ≤ x.f2 ∧ x.f2 ≤ (x.f1.size : Int)) (n : Int) : x.f2 ≤ leftN x n ∧ 0 ≤ leftN x n ∧ leftN x n ≤ (x.f1.size : Int) := by
  unfold leftN; omega
theorem loseF_size {x : IFi} (h : 0 ≤ x.f2 ∧ x.f2 ≤ (x.f1.size : Int)) (n : Int) : (((loseF x n).f1.size : Nat) : Int) = leftN x n := by
  have := leftN_range h n
  unfold loseF; simp only
  rw [size_extract _ _ _ (by omega) (by omega)]; omega
theorem lose_twice {x : IFi} (h : 0 ≤ x.f2 ∧ x.f2 ≤ (x.f1.size : Int)) (n : Int) : loseF (loseF x n) 0 = loseF x n := by
  have hr := leftN_range h n
  have hs := loseF_size h n
  have e : leftN (loseF x n) 0 = leftN x n := by
    unfold leftN at hr hs ⊢
    have e2 : (loseF x n).f2 = max x.f2 (min n (x.f1.size : Int)) := rfl
    rw [e2, hs]; omega
  have e3 : loseF (loseF x n) 0 = ⟨(loseF x n).f0, (loseF x n).f1.extract 0 (leftN (loseF x n) 0).toNat, leftN (loseF x n) 0⟩ := rfl
  rw [e3, e]
  have e4 : (leftN x n).toNat = (loseF x n).f1.size := by omega
  rw [e4, extract_all]; rfl
theorem loseL_twice : ∀ (l : List IFi) (r : List Int), (∀ x ∈ l, 0 ≤ x.f2 ∧ x.f2 ≤ (x.f1.size : Int)) → loseL (loseL l r) [] = loseL l r
  | [], _, _ => by simp [loseL]
  | x :: l, [], h => by simp only [loseL]; rw [lose_twice (h x (by simp)), loseL_twice l [] (fun y hy => h y (by simp [hy]))]
  | x :: l, n :: r, h => by simp only [loseL]; rw [lose_twice (h x (by simp)), loseL_twice l r (fun y hy => h y (by simp [hy]))]
theorem loseL_mem : ∀ (l : List IFi) (r : List Int) (y : IFi), y ∈ loseL l r → ∃ x ∈ l, ∃ n, y = loseF x n
  | [], _, _, h => by simp [loseL] at h
  | x :: l, [], y, h => by
    rcases List.mem_cons.1 h with rfl | h
    · exact ⟨x, by simp, 0, rfl⟩
    · obtain ⟨z, hz, n, e⟩ := loseL_mem l [] y h; exact ⟨z, by simp [hz], n, e⟩
  | x :: l, m :: r, y, h => by
    rcases List.mem_cons.1 h with rfl | h
    · exact ⟨x, by simp, m, rfl⟩
    · obtain ⟨z, hz, n, e⟩ := loseL_mem l r y h; exact ⟨z, by simp [hz], n, e⟩
theorem loseL_filesOk : ∀ (l : List IFi) (r : List Int) (p : Option ByteArray), filesOk p l = true → filesOk p (loseL l r) = true
  | [], _, _, _ => by simp [loseL, filesOk]
  | x :: l, r, p, h => by
    simp only [filesOk, Bool.and_eq_true] at h
    have hx : ∀ n, fileOk (loseF x n) = true := by
      intro n
      have h1 := h.1.1
      unfold fileOk at h1 ⊢
      simp only [Bool.and_eq_true, decide_eq_true_eq] at h1 ⊢
      have hs := loseF_size h1.2 n
      have hr := leftN_range h1.2 n
      have e2 : (loseF x n).f2 = leftN x n := rfl
      have e0 : (loseF x n).f0 = x.f0 := rfl
      rw [e0, e2]
      exact ⟨⟨h1.1.1, by omega⟩, by omega, by omega⟩
    cases r with
    | nil => simp only [loseL, filesOk, Bool.and_eq_true]; exact ⟨⟨hx 0, h.1.2⟩, loseL_filesOk l [] _ h.2⟩
    | cons n r => simp only [loseL, filesOk, Bool.and_eq_true]; exact ⟨⟨hx n, h.1.2⟩, loseL_filesOk l r _ h.2⟩
theorem loseL_diskOk {l : List IFi} (r : List Int) (h : diskOk l = true) : diskOk (loseL l r) = true := by
  unfold diskOk at h ⊢
  simp only [Bool.and_eq_true, decide_eq_true_eq] at h ⊢
  exact ⟨by rw [loseL_length]; exact h.1, loseL_filesOk l r none h.2⟩
theorem loseL_allKept {l : List IFi} (r : List Int) (h : diskOk l = true) : allKept (loseL l r) = true := by
  unfold allKept
  rw [loseL_diskOk r h, idxP_drop _ _ (by omega)]
  simp only [Bool.true_and, Bool.not_eq_true', List.any_eq_false]
  intro y hy
  obtain ⟨x, hx, n, rfl⟩ := loseL_mem l r y hy
  have := (diskOk_range h).2 x hx
  have hs := loseF_size ⟨this.1, this.2.1⟩ n
  unfold lessKept
  have e2 : (loseF x n).f2 = leftN x n := rfl
  rw [e2, hs]; simp
theorem keeps_l0 (l : List IFi) (r : List Int) (hl : l.length ≤ 30) (hx : ∀ x ∈ l, 0 ≤ x.f2 ∧ x.f2 ≤ (x.f1.size : Int) ∧ x.f1.size ≤ 20000) : ∀ (d i : Nat), i + d = l.length → Ev (fun k => laws_FnKeeps.l0 k (i : Int) l (loseL l r)) true
  | 0, i, h => by
    refine Ev.step (f := fun k => some true) (fun k => ?_) (Ev.now _)
    simp only [laws_FnKeeps.l0]; rw [if_neg (by omega)]
  | d + 1, i, h => by
    refine Ev.step (f := fun k => laws_FnKeeps.l0 k ((i + 1 : Nat) : Int) l (loseL l r)) (fun k => ?_) (keeps_l0 l r hl hx d (i + 1) (by omega))
    have hi : i < l.length := by omega
    have hi' : i < (loseL l r).length := by rw [loseL_length]; omega
    have e1 : rd_T60 l (i : Int) = l[i] := rd_IFi hi
    have e2 : rd_T60 (loseL l r) (i : Int) = loseF l[i] (r.getD i 0) := by rw [rd_IFi hi', loseL_get l r i hi hi']
    have hm := hx l[i] (List.getElem_mem _)
    simp only [laws_FnKeeps.l0, e1, e2]
    generalize l[i] = x at hm
    generalize r.getD i 0 = n
    have hr := leftN_range ⟨hm.1, hm.2.1⟩ n
    have hs := loseF_size ⟨hm.1, hm.2.1⟩ n
    have b1 : laws_begins.f (loseF x n).f1 x.f1 = some true := laws_begins_is x.f1 (leftN x n).toNat (by omega) _ rfl
    have b2 : laws_begins.f (x.f1.extract 0 x.f2.toNat) (loseF x n).f1 = some true := by
      refine laws_begins_is _ x.f2.toNat (by omega) _ ?_
      apply bytes_inj
      have e5 : (loseF x n).f1 = x.f1.extract 0 (leftN x n).toNat := rfl
      rw [e5, bytes_extract, bytes_extract, bytes_extract]
      simp only [List.drop_zero, Nat.sub_zero, List.take_take]
      congr 1; omega
    have e0 : (loseF x n).f0 = x.f0 := rfl
    rw [if_pos (by omega), if_pos (by omega), if_pos (by omega), e0, if_pos rfl, b1, Option.bind_some, if_pos rfl, if_pos hm.1, if_pos hm.2.1, b2, Option.bind_some, if_pos rfl, w64 (x := (i : Int) + 1) (by omega) (by omega)]; rfl
theorem FnKeeps : laws_FnKeeps.Pure := by
  intro l hm hl hw
  apply Ev.rounds
  unfold laws_FnKeeps.f
  refine Ev.bind0 (laws_big_is l) ?_
  by_cases hb : (l.length : Int) > 1048576
  · exact Ev.pos (by simpa using hb) (Ev.now _)
  · refine Ev.neg (by simpa using hb) ?_
    obtain ⟨t, ht, hk⟩ := spec_DrawRightDisk_ev l (by omega)
    obtain ⟨p, hp, hp1, hp2⟩ := spec_DrawPlaces_ev l (by omega)
    obtain ⟨r, hr⟩ := laws_lefts_ev p hp1
    have hk30 := (diskOk_range hk).1
    have hkx := (diskOk_range hk).2
    have e1 : loseDisk t r = (loseL t r, true) := by rw [loseDisk, if_pos hk]
    have hk2 := loseL_diskOk r hk
    have hlen := loseL_length t r
    have e2 : loseDisk (loseL t r) [] = (loseL t r, true) := by rw [loseDisk, if_pos hk2, loseL_twice t r (fun x hx => ⟨(hkx x hx).1, (hkx x hx).2.1⟩)]
    have h1 : Ev (fun k => impl_LoseDisk.f k t r) (loseL t r, true) := (impl_LoseDisk_ev t (by omega) r).eq e1
    have h2 : Ev (fun k => impl_LoseDisk.f k (loseL t r) []) (loseL t r, true) := (impl_LoseDisk_ev (loseL t r) (by omega) []).eq e2
    have h4 : Ev (fun k => impl_AllKept.f k (loseL t r)) true := (impl_AllKept_ev (loseL t r) (by omega)).eq (loseL_allKept r hk)
    have h5 : Ev (fun k => impl_DiskOk.f k t) true := (impl_DiskOk_ev t (by omega)).eq hk
    refine Ev.bind ht (Ev.bind hp (Ev.bind hr (Ev.bind h1 (Ev.bind h2 (Ev.pos rfl (Ev.pos rfl (Ev.pos (by simp only; omega) (Ev.bind (laws_sameDisk_ev (loseL t r) (by omega)) (Ev.pos rfl (Ev.bind h4 (Ev.pos rfl (Ev.bind h5 ?_))))))))))))
    exact Ev.step (fun k => rfl) (keeps_l0 t r hk30 hkx t.length 0 (by omega))

end Go.Proofs.Ytknbkjajfiediaa.Pure
