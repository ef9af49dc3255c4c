/- Laws of no program: rows of elements of several cells that a call owns: cells written in place; 'copy' and 'clear' at such elements. -/
import Derived.Test.YthbaoefbccdioaaTWords
import Derived.Test.YthbaoefbccdioaaTMore
import Derived.Shelf.Spec.SlicesInsert
import Derived.Lib.AppendZerosOnto
namespace Go.Proofs.Ythbaoefbccdioaa.Ins
open Go Go.RowKit Go.Lib Go.Proofs.YthbaoefbccdioaaW.PrintWords
set_option linter.unusedVariables false
set_option linter.unusedSimpArgs false

theorem run_copy_sz {P : Program} (w : World) (dT sT ty elem : TypeId) (b o dLen dCap : Nat) (a : Addr) (sLen sCap : Nat) (cs : List Value) (sz m : Nat)
    (hu : P.underlying dT = some (.slice elem)) (hs : (P.info? elem).map (·.size) = some sz) (hm : Nat.min sLen dLen = m) (hn : cs.length = m * sz)
    (hsrc : ∀ j v, cs[j]? = some v → w.cell? (a.add j) = some v) (hc : ∀ j, j < cs.length → (w.cell? ⟨b, o + j, none⟩).isSome = true) (hf : ∀ j, j < cs.length → w.frozen? ⟨b, o + j, none⟩ = false) (h1 : ∀ v ∈ cs, v.oneCell' = true) :
    (Builtin.copy_ #[dT, sT] ty #[.slice (some ⟨b, o, none⟩) dLen dCap, .slice (some a) sLen sCap]).run P w = .ok (goInt m) (w.setCells b o cs) := by
  have hl := run_firstCells_some (P := P) w sz m a sLen sCap cs hn hsrc
  have hst := run_storeCells_cells (P := P) b o cs 0 w (by simpa using hc) (by simpa using hf) h1
  cases hq : P.info? elem with
  | none => simp [hq] at hs
  | some i =>
    have hi : i.size = sz := by simpa [hq] using hs
    simp [Builtin.copy_, run_underlying hu, Builtin.lenOf, sizeOf, typeInfo, hq, hi, hm, hl, hst]

theorem run_clear_sz {P : Program} (w : World) (t e ty : TypeId) (z : Value) (ht : P.underlying t = some (.slice e)) (hv : ∀ w, (zeroValue e).run P w = .ok z w) (b o n c : Nat) (zs : List Value) (hn : 0 < n) (hz : (Builtin.zeroCells z.cells n).toList = zs)
    (hc : ∀ j, j < zs.length → (w.cell? ⟨b, o + j, none⟩).isSome = true) (hf : ∀ j, j < zs.length → w.frozen? ⟨b, o + j, none⟩ = false) (h1 : ∀ v ∈ zs, v.oneCell' = true) :
    (Builtin.clear_ #[t] ty #[.slice (some ⟨b, o, none⟩) n c]).run P w = .ok (.tuple #[]) (w.setCells b o zs) := by
  have hst := run_storeCells_cells (P := P) b o zs 0 w (by simpa using hc) (by simpa using hf) h1
  simp only [Nat.add_zero] at hst
  obtain ⟨m, rfl⟩ : ∃ m, n = m + 1 := ⟨n - 1, by omega⟩
  simp [Builtin.clear_, run_underlying ht, hv, hz, hst]

/-- Cells of an own row's block written in place: what the row holds then. -/
theorem own_setCells {w : World} {base : Nat} {e : TypeId} {size g n cap : Nat} {xs : List Value} (h : w.ownsRow base e size (.slice (some ⟨g, 0, none⟩) n cap) n xs) (o : Nat) (vs : List Value) (m : Nat) (ys : List Value)
    (hm : m ≤ cap) (hl : ys.length = m * size) (hfit : o + vs.length ≤ cap * size)
    (hy : ∀ cur : List Value, cur.length = cap * size → cur.take (n * size) = xs → (cur.take o ++ vs ++ cur.drop (o + vs.length)).take (m * size) = ys) :
    (w.setCells g o vs).ownsRow base e size (.slice (some ⟨g, 0, none⟩) m cap) m ys ∧ w.grownBy (w.setCells g o vs) (some g) := by
  obtain ⟨h1, h2⟩ := h
  rcases h2 with ⟨hv, _⟩ | ⟨g', cap', cur, hv, hb, hh, hnc', hcm, hcs, ht⟩
  · cases hv
  injection hv with ha _ hc
  injection ha with ha
  injection ha with hg
  subst hg; subst hc
  obtain ⟨cur', h3, h4, h5⟩ := setCells_row vs o w cur hh (by omega)
  obtain ⟨s1, s2, s3, s4⟩ := setCells_same g vs o w
  refine ⟨⟨hl, .inr ⟨g, cap, cur', rfl, hb, h3, hm, hcm, by rw [h4, hcs], ?_⟩⟩, ⟨s1, s2, s3, by rw [s4]; exact Nat.le_refl _, fun k _ hk => setCells_far vs o k (fun he => hk (by rw [he]))⟩⟩
  rw [h5]
  exact hy cur.toList (by rw [Array.length_toList]; exact hcs) ht
/-- Every cell of an own row's block is there and may be written. -/
theorem own_there {w : World} {base : Nat} {e : TypeId} {size g n cap : Nat} {xs : List Value} (h : w.ownsRow base e size (.slice (some ⟨g, 0, none⟩) n cap) n xs) :
    (∀ j, j < cap * size → (w.cell? ⟨g, j, none⟩).isSome = true) ∧ (∀ j, w.frozen? ⟨g, j, none⟩ = false) ∧ (∀ j v, xs[j]? = some v → w.cell? ⟨g, j, none⟩ = some v) ∧ n ≤ cap ∧ cap ≤ maxLen ∧ base ≤ g ∧ g < w.heap.size := by
  obtain ⟨h1, h2⟩ := h
  rcases h2 with ⟨hv, _⟩ | ⟨g', cap', cur, hv, hb, hh, hnc', hcm, hcs, ht⟩
  · cases hv
  injection hv with ha _ hc
  injection ha with ha
  injection ha with hg
  subst hg; subst hc
  refine ⟨fun j hj => ?_, fun j => blk_frozen hh j, fun j v hv => ?_, hnc', hcm, hb, blk_lt hh⟩
  · rw [blk_cell hh, Array.getElem?_eq_getElem (by omega)]; rfl
  · rw [blk_cell hh, ← Array.getElem?_toList]
    rw [← ht, List.getElem?_take] at hv
    split at hv
    · exact hv
    · cases hv

section
variable {α : Type} {enc : α → List Value} {sz : Nat}
theorem fl_len (he : ∀ x, (enc x).length = sz) : ∀ l : List α, (l.flatMap enc).length = l.length * sz
  | [] => by simp
  | x :: l => by rw [List.flatMap_cons, List.length_append, he, fl_len he l, List.length_cons, Nat.succ_mul, Nat.add_comm]
theorem fl_take (he : ∀ x, (enc x).length = sz) : ∀ (l : List α) (i : Nat), (l.flatMap enc).take (i * sz) = (l.take i).flatMap enc
  | [], i => by simp
  | x :: l, 0 => by simp
  | x :: l, i + 1 => by
    rw [List.flatMap_cons, List.take_succ_cons, List.flatMap_cons, List.take_append, he, List.take_of_length_le (by rw [he, Nat.succ_mul]; omega), Nat.succ_mul, Nat.add_sub_cancel, fl_take he l i]
theorem fl_drop (he : ∀ x, (enc x).length = sz) : ∀ (l : List α) (i : Nat), (l.flatMap enc).drop (i * sz) = (l.drop i).flatMap enc
  | [], i => by simp
  | x :: l, 0 => by simp
  | x :: l, i + 1 => by
    rw [List.flatMap_cons, List.drop_succ_cons, List.drop_append, he, List.drop_of_length_le (by rw [he, Nat.succ_mul]; omega), Nat.succ_mul, Nat.add_sub_cancel, fl_drop he l i, List.nil_append]
theorem fl_of_reps {R : α → List Value → Prop} (hR : ∀ x cs, R x cs → cs = enc x) : ∀ (l : List α) (cs : List Value), Reps R sz l cs → cs = l.flatMap enc
  | [], cs, h => by
    have := h.1
    rw [List.length_nil, Nat.zero_mul] at this
    rw [List.eq_nil_of_length_eq_zero this]; rfl
  | x :: l, cs, h => by
    have h0 := hR _ _ (h.2 0 x rfl)
    rw [Nat.zero_mul, List.drop_zero] at h0
    have ht := fl_of_reps hR l (cs.drop sz) ⟨by rw [List.length_drop, h.1, List.length_cons, Nat.succ_mul]; omega, fun j p hj => by
      have := h.2 (j + 1) p (by simpa using hj)
      rw [Nat.succ_mul, Nat.add_comm] at this
      rwa [List.drop_drop]⟩
    rw [List.flatMap_cons, ← h0, ← ht, List.take_append_drop]
theorem reps_fl {R : α → List Value → Prop} (he : ∀ x, (enc x).length = sz) (hR : ∀ x, R x (enc x)) : ∀ l : List α, Reps R sz l (l.flatMap enc)
  | [] => Reps.none _ _
  | x :: l => by
    have h1 : Reps R sz [x] (enc x) := by simpa using Reps.snoc (Reps.none R sz) (hR x) (he x)
    exact Kd.reps_append (ps := [x]) h1 (reps_fl he hR l)
theorem own_of_Rk {d : Kd α} {e : Nat} {w : World} {base : Nat} {ok : Nat → Prop} {v : Value} {l : List α} (hM : ∀ {w base ok x cs}, d.M w base ok x cs → cs = enc x) (h : d.R e w base ok v l) : w.ownsRow base e d.sz v l.length (l.flatMap enc) := by
  obtain ⟨_, inner, ho, hr⟩ := h
  rw [← fl_of_reps (fun _ _ h => hM h) l inner hr]; exact ho
theorem Rk_of_own {d : Kd α} {e : Nat} {w : World} {base : Nat} {ok : Nat → Prop} {v : Value} {l : List α} (hM : ∀ w base ok x, d.M w base ok x (enc x)) (he : ∀ x, (enc x).length = d.sz) (hok : ∀ k, v.ownBlock = some k → ok k) (h : w.ownsRow base e d.sz v l.length (l.flatMap enc)) : d.R e w base ok v l :=
  ⟨hok, _, h, reps_fl he (fun x => hM _ _ _ x) l⟩
end
section
variable {α : Type} {enc : α → List Value} {sz : Nat} {w : World} {base : Nat} {e : TypeId} {g cap : Nat}
/-- The row behind the writes of slices.Delete: the first .. -/
theorem own_cut (he : ∀ x, (enc x).length = sz) {l : List α} {i : Nat} (hi : i < l.length) (h : w.ownsRow base e sz (.slice (some ⟨g, 0, none⟩) l.length cap) l.length (l.flatMap enc)) :
    (w.setCells g (i * sz) ((l.drop (i + 1)).flatMap enc)).ownsRow base e sz (.slice (some ⟨g, 0, none⟩) (l.length - 1) cap) (l.length - 1) ((l.take i ++ l.drop (i + 1)).flatMap enc) ∧ w.grownBy (w.setCells g (i * sz) ((l.drop (i + 1)).flatMap enc)) (some g) := by
  obtain ⟨_, _, _, hc, _⟩ := own_there h
  have hv : ((l.drop (i + 1)).flatMap enc).length = (l.length - (i + 1)) * sz := by rw [fl_len he, List.length_drop]
  have hs : i * sz + (l.length - (i + 1)) * sz = (l.length - 1) * sz := by rw [← Nat.add_mul]; congr 1; omega
  have hle : (l.length - 1) * sz ≤ cap * sz := Nat.mul_le_mul_right _ (by omega)
  refine own_setCells h _ _ _ _ (by omega) ?_ (by rw [hv, hs]; exact hle) (fun cur hcur ht => ?_)
  · rw [fl_len he, List.length_append, List.length_take, List.length_drop]; congr 1; omega
  · have h1 : cur.take (i * sz) = (l.take i).flatMap enc := by
      rw [← fl_take he, ← ht, List.take_take, Nat.min_eq_left (Nat.mul_le_mul_right _ (by omega))]
    have h2 : (cur.take (i * sz) ++ (l.drop (i + 1)).flatMap enc).length = (l.length - 1) * sz := by
      rw [h1, List.length_append, fl_len he, hv, List.length_take, Nat.min_eq_left (by omega), hs]
    rw [← h2, List.take_left, h1, List.flatMap_append]
/-- .. and the second, behind the row's elements. -/
theorem own_behind {n : Nat} {xs : List Value} (h : w.ownsRow base e sz (.slice (some ⟨g, 0, none⟩) n cap) n xs) (vs : List Value) (hv : n * sz + vs.length ≤ cap * sz) :
    (w.setCells g (n * sz) vs).ownsRow base e sz (.slice (some ⟨g, 0, none⟩) n cap) n xs ∧ w.grownBy (w.setCells g (n * sz) vs) (some g) := by
  obtain ⟨_, _, _, hc, _⟩ := own_there h
  refine own_setCells h _ _ _ _ hc h.1 hv (fun cur hcur ht => ?_)
  have hl : (cur.take (n * sz)).length = n * sz := by rw [ht, h.1]
  rw [List.append_assoc, List.take_append_of_le_length (by rw [hl]; exact Nat.le_refl _), List.take_take, Nat.min_self, ht]
/-- The row behind the writes of slices.Insert where there is room: the first .. -/
theorem own_shift (he : ∀ x, (enc x).length = sz) {l : List α} {i : Nat} (hi : i < l.length) (hroom : l.length + 1 ≤ cap) (h : w.ownsRow base e sz (.slice (some ⟨g, 0, none⟩) l.length cap) l.length (l.flatMap enc)) :
    (w.setCells g ((i + 1) * sz) ((l.drop i).flatMap enc)).ownsRow base e sz (.slice (some ⟨g, 0, none⟩) (l.length + 1) cap) (l.length + 1) ((l.take (i + 1) ++ l.drop i).flatMap enc) ∧ w.grownBy (w.setCells g ((i + 1) * sz) ((l.drop i).flatMap enc)) (some g) := by
  have hv : ((l.drop i).flatMap enc).length = (l.length - i) * sz := by rw [fl_len he, List.length_drop]
  have hs : (i + 1) * sz + (l.length - i) * sz = (l.length + 1) * sz := by rw [← Nat.add_mul]; congr 1; omega
  have hle : (l.length + 1) * sz ≤ cap * sz := Nat.mul_le_mul_right _ (by omega)
  refine own_setCells h _ _ _ _ (by omega) ?_ (by rw [hv, hs]; exact hle) (fun cur hcur ht => ?_)
  · rw [fl_len he, List.length_append, List.length_take, List.length_drop]; congr 1; omega
  · have h1 : cur.take ((i + 1) * sz) = (l.take (i + 1)).flatMap enc := by
      rw [← fl_take he, ← ht, List.take_take, Nat.min_eq_left (Nat.mul_le_mul_right _ (by omega))]
    have h2 : (cur.take ((i + 1) * sz) ++ (l.drop i).flatMap enc).length = (l.length + 1) * sz := by
      rw [h1, List.length_append, fl_len he, hv, List.length_take, Nat.min_eq_left (by omega), hs]
    rw [← h2, List.take_left, h1, List.flatMap_append]
/-- .. and the second: one element is put over another. -/
theorem own_over (he : ∀ x, (enc x).length = sz) {l : List α} {i : Nat} (hi : i < l.length) (x : α) (h : w.ownsRow base e sz (.slice (some ⟨g, 0, none⟩) l.length cap) l.length (l.flatMap enc)) :
    (w.setCells g (i * sz) (enc x)).ownsRow base e sz (.slice (some ⟨g, 0, none⟩) l.length cap) l.length ((l.set i x).flatMap enc) ∧ w.grownBy (w.setCells g (i * sz) (enc x)) (some g) := by
  obtain ⟨_, _, _, hc, _⟩ := own_there h
  have hs : i * sz + sz = (i + 1) * sz := (Nat.succ_mul _ _).symm
  have hle : (i + 1) * sz ≤ l.length * sz := Nat.mul_le_mul_right _ (by omega)
  have hle2 : l.length * sz ≤ cap * sz := Nat.mul_le_mul_right _ hc
  refine own_setCells h _ _ _ _ hc (by rw [fl_len he, List.length_set]) (by rw [he, hs]; omega) (fun cur hcur ht => ?_)
  have h1 : cur.take (i * sz) = (l.take i).flatMap enc := by
    rw [← fl_take he, ← ht, List.take_take, Nat.min_eq_left (Nat.mul_le_mul_right _ (by omega))]
  have h2 : (cur.drop (i * sz + sz)).take (l.length * sz - (i + 1) * sz) = (l.drop (i + 1)).flatMap enc := by
    rw [← fl_drop he, ← ht, hs, List.drop_take]
  have h3 : (cur.take (i * sz) ++ enc x).length = (i + 1) * sz := by
    rw [h1, List.length_append, fl_len he, he, List.length_take, Nat.min_eq_left (by omega), hs]
  rw [he, List.take_append, h3, List.take_of_length_le (by rw [h3]; exact hle), h2, h1, List.set_eq_take_append_cons_drop, if_pos hi, List.flatMap_append, List.flatMap_cons, List.append_assoc]
/-- A row whose end is written. -/
theorem own_tail (he : ∀ x, (enc x).length = sz) {l : List α} {j : Nat} (ys : List α) (hj : j + ys.length = l.length) (h : w.ownsRow base e sz (.slice (some ⟨g, 0, none⟩) l.length cap) l.length (l.flatMap enc)) :
    (w.setCells g (j * sz) (ys.flatMap enc)).ownsRow base e sz (.slice (some ⟨g, 0, none⟩) l.length cap) l.length ((l.take j ++ ys).flatMap enc) ∧ w.grownBy (w.setCells g (j * sz) (ys.flatMap enc)) (some g) := by
  obtain ⟨_, _, _, hc, _⟩ := own_there h
  have hs : j * sz + ys.length * sz = l.length * sz := by rw [← Nat.add_mul, hj]
  have hle : l.length * sz ≤ cap * sz := Nat.mul_le_mul_right _ hc
  refine own_setCells h _ _ _ _ hc ?_ (by rw [fl_len he, hs]; exact hle) (fun cur hcur ht => ?_)
  · rw [fl_len he, List.length_append, List.length_take]; congr 1; omega
  · have h1 : cur.take (j * sz) = (l.take j).flatMap enc := by
      rw [← fl_take he, ← ht, List.take_take, Nat.min_eq_left (Nat.mul_le_mul_right _ (by omega))]
    have h2 : (cur.take (j * sz) ++ ys.flatMap enc).length = l.length * sz := by
      rw [h1, List.length_append, fl_len he, fl_len he, List.length_take, Nat.min_eq_left (by omega), hs]
    rw [← h2, List.take_left, h1, List.flatMap_append]
theorem zero_fl (he : ∀ x, (enc x).length = sz) (hs : 0 < sz) {z : Value} {z0 : α} (hz : z.cells.toList = enc z0) (n : Nat) : (Builtin.zeroCells z.cells n).toList = (List.replicate n z0).flatMap enc := by
  have hsz : z.cells.size = sz := by rw [← Array.length_toList, hz, he]
  have hr := Kd.reps_made (R := fun x cs => cs = enc x) (z0 := z0) hsz hs hz n
  have := fl_of_reps (fun _ _ h => h) _ _ hr
  rw [← this]
  unfold Builtin.zeroCells madeCells
  rw [hsz]
/-- A new row that is made with some elements, zeros behind them, and room. -/
theorem own_grown (he : ∀ x, (enc x).length = sz) (hs : 0 < sz) {z : Value} {z0 : α} (hz : z.cells.toList = enc z0) (l : List α) (k n G : Nat) (hk : l.length + k = n) (hG : n ≤ G) (hm : G ≤ maxLen) (hb : base ≤ w.heap.size) :
    (w.alloc (.cells ((l.flatMap enc).toArray ++ Builtin.zeroCells z.cells k ++ Builtin.zeroCells z.cells (G - n)) e)).ownsRow base e sz (.slice (some ⟨w.heap.size, 0, none⟩) n G) n ((l ++ List.replicate k z0).flatMap enc) := by
  have hl : ((l ++ List.replicate k z0).flatMap enc).length = n * sz := by rw [fl_len he, List.length_append, List.length_replicate, hk]
  have hc : ((l.flatMap enc).toArray ++ Builtin.zeroCells z.cells k ++ Builtin.zeroCells z.cells (G - n)).toList = (l ++ List.replicate k z0).flatMap enc ++ (List.replicate (G - n) z0).flatMap enc := by
    rw [Array.toList_append, Array.toList_append, zero_fl he hs hz, zero_fl he hs hz, List.flatMap_append]
  refine ⟨hl, .inr ⟨w.heap.size, G, _, rfl, hb, heap_alloc_new w _, hG, hm, ?_, ?_⟩⟩
  · rw [← Array.length_toList, hc, List.length_append, hl, fl_len he, List.length_replicate, ← Nat.add_mul]; congr 1; omega
  · rw [hc, ← hl, List.take_left]
end
theorem ins_list {α : Type} (l : List α) (i : Nat) (hi : i < l.length) (x : α) : (l.take (i + 1) ++ l.drop i).set i x = l.take i ++ x :: l.drop i := by
  have h : (l.take i).length = i := by rw [List.length_take]; omega
  rw [List.take_succ_eq_append_getElem hi, List.append_assoc, List.set_append_right _ _ (by rw [h]; exact Nat.le_refl _), h, Nat.sub_self]
  rfl
theorem ins_grown {α : Type} (l : List α) (i k : Nat) (hi : i < l.length) (hk : i + k = l.length + 1) (x z : α) : ((l.take i ++ List.replicate k z).set i x).take (i + 1) ++ l.drop i = l.take i ++ x :: l.drop i := by
  have h : (l.take i).length = i := by rw [List.length_take]; omega
  obtain ⟨m, rfl⟩ : ∃ m, k = m + 1 := ⟨k - 1, by omega⟩
  rw [List.set_append_right _ _ (by rw [h]; exact Nat.le_refl _), h, Nat.sub_self, List.replicate_succ, List.set_cons_zero, List.take_append, h, show i + 1 - i = 1 from by omega, List.take_of_length_le (by rw [h]; omega)]
  simp
end Go.Proofs.Ythbaoefbccdioaa.Ins
