/- Written by this session's own program (wip/tpl/pp.py): what the law's functions come to, and that the machine's calls do just that. -/
import Derived.Test.YthbaoefbccdioaaQFnExactCutActsx0
import Derived.Test.YthbaoefbccdioaaQFnExactCutActsx5
namespace Go.Proofs.Ythbaoefbccdioaa.QFnExactCutActs
open Go.RowKit Go.Proofs.YthbaoefbccdioaaW.PrintWords Go.Proofs.YthbaoefbccdioaaW.PrintLast Go.Proofs.YthbaoefbccdioaaW.PrintMore
attribute [local go_sem] Go.Proofs.Ythbaoefbccdioaa.Sem.string_geq Go.Proofs.Ythbaoefbccdioaa.Sem.string_leq Go.Proofs.Ythbaoefbccdioaa.Sem.string_gtr
attribute [local go_sem] max2_int min2_int max_two min_two max_three min_three max_four min_four   -- for this text's walks alone
set_option linter.unusedVariables false
set_option linter.unusedSimpArgs false

/-! ### impl_File_81: function 81 -/
set_option maxHeartbeats 4000000 in
set_option maxRecDepth 100000 in
theorem fileInsert_end (base : Nat) (ok : Nat → Prop) (A : Option Addr) (c vb : Nat) (l : List S76) (x : S76) (w : World) (hl : l.length < 3518437208000) (h : k76.R 76 w base ok (.slice A l.length c) l) (hb : base ≤ w.heap.size) (hfresh : ∀ k, w.heap.size ≤ k → ok k)
  (hx : w.heap[vb]? = some (.cells #[.string x.f0, .string x.f1, .int .i64 x.f2] 76 (0, 0))) :
  Calls Try.prog 81 #[.slice A l.length c, .int .i64 l.length, .slice (some ⟨vb, 0, none⟩) 1 1] w fun e w' => ∃ v', e = .returned v' ∧ k76.R 76 w' base ok v' (l ++ [x]) ∧ w.grownBy w' (Value.slice A l.length c).ownBlock ∧ (v'.ownBlock = (Value.slice A l.length c).ownBlock ∨ ∃ b, v'.ownBlock = some b ∧ w.heap.size ≤ b) := by
 have hu29 := Try.underlying29
 have hu76 := Try.underlying76
 have hR : ReadsRow (fun (p : S76) (cs : List Value) => cs = enc76 p) k76.sz w (some ⟨vb, 0, none⟩) 1 [x] := by
  refine ⟨rfl, by omega, fun _ => ⟨⟨vb, 0, none⟩, rfl, fun j p hj => ?_⟩⟩
  cases j with
  | zero =>
   obtain rfl : x = p := by simpa using hj
   refine ⟨enc76 x, rfl, rfl, fun q u hu => ?_⟩
   rw [Addr.add_lit, blk_cell hx]
   have e : (#[Value.string x.f0, Value.string x.f1, Value.int IntKind.i64 x.f2] : Array Value)[0 + (0 * k76.sz + q)]? = (enc76 x)[q]? := by
    rw [Nat.zero_mul, Nat.zero_add, Nat.zero_add]; simp [enc76]
   rw [e]; exact hu
  | succ j => simp at hj
 have hhi : l.length ≤ c := (Kd.R_reads' h).2.1
 have HR := Aside0.mk hR
 have HO := Aside0.mk h
 have HB := Aside0.mk hb
 have HF := Aside0.mk hfresh
 have HL := Aside0.mk hl
 clear hR h hb hfresh hx hl
 generalize hn : l.length = n at *
 have HN := Aside0.mk hn
 clear hn
 obtain ⟨ob, hob⟩ : ∃ ob, ob = (Value.slice A n c).ownBlock := ⟨_, rfl⟩
 rw [← hob]
 have HOB := Aside0.mk hob
 clear hob
 go_enter Try.func81, Try.ntmps81
 go_wp2_with (at_builtin; refine Kd.R_append_rows k76 (w0 := w) base rfl (.tmp 23) (.tmp 24) 29 76 (.agg #[(.string ⟨#[]⟩), (.string ⟨#[]⟩), (.int .i64 0)]) 40 rfl hu29 info76 rfl (by decide) (by omega) (.slice A n c) l [x] _ _ _ ok (fun _ => False) rfl rfl HO.out HR.out (fun p cs h => by rw [h]; exact k76_mkM _ _ _ p) (fun _ h => h.elim) HF.out (Below.refl _ _) HB.out (by rw [HN.out]; have := HL.out; omega) ?_; intro v1 w1 h1 h2 h3 h4; rw [← HOB.out] at h3 h4)
 all_goals (go_ret; exact ⟨_, rfl, h1, h3, h4⟩)
set_option maxHeartbeats 4000000 in
set_option maxRecDepth 100000 in
theorem fileInsert_shift (base g cap i vb : Nat) (l : List S76) (x : S76) (w : World) (hi : i < l.length) (hl : l.length < 3518437208000) (hroom : l.length + 1 ≤ cap)
  (h : w.ownsRow base 76 3 (.slice (some ⟨g, 0, none⟩) l.length cap) l.length (l.flatMap enc76)) (hx : w.heap[vb]? = some (.cells #[.string x.f0, .string x.f1, .int .i64 x.f2] 76 (0, 0))) (hvb : vb ≠ g) :
  Calls Try.prog 81 #[.slice (some ⟨g, 0, none⟩) l.length cap, .int .i64 i, .slice (some ⟨vb, 0, none⟩) 1 1] w fun e w' =>
   e = .returned (.slice (some ⟨g, 0, none⟩) (l.length + 1) cap) ∧ w'.ownsRow base 76 3 (.slice (some ⟨g, 0, none⟩) (l.length + 1) cap) (l.length + 1) ((l.take i ++ x :: l.drop i).flatMap enc76) ∧ w.grownBy w' (some g) := by
 have hu29 := Try.underlying29
 have hu76 := Try.underlying76
 obtain ⟨t1, t2, t3, hnc, hcm, hb, hgl⟩ := Ins.own_there h
 obtain ⟨i0, hi0, hz0, hz1, hz2⟩ := info_parts info76
 have hsz : (Try.prog.info? 76).map (·.size) = some 3 := by rw [hi0]; simp [hz1]
 obtain ⟨cur, hcur⟩ : ∃ cur, w.heap[g]? = some (.cells cur 76 (0, 0)) := by
  rcases h.2 with ⟨hv, _⟩ | ⟨g', cap', cur, hv, hb, hh, _⟩
  ·cases hv
  ·injection hv with ha _ _; injection ha with ha; injection ha with hg; subst hg; exact ⟨cur, hh⟩
 have hcz : cur.size ≠ 0 := by
  intro e
  have := t1 0 (by omega)
  rw [blk_cell hcur, Array.getElem?_eq_none (by omega)] at this
  simp at this
 have hov : ∀ lb cb, (callFunc 113 #[.slice (some ⟨vb, 0, none⟩) 1 1, .slice (some ⟨g, (i + 1) * 3, none⟩) lb cb]).run Try.prog w = .ok (.value (.bool false)) w := fun lb cb => by
  rw [run_callFunc_extern Try.func113 (by kernel_rfl) (by kernel_rfl) (by kernel_rfl) (e := Extern.SlicesOverlaps.overlaps #[29, 29] #[4]) (by kernel_rfl),
   Lib.run_overlaps_apart w 29 4 76 hu29 3 (fun w => by simp [sizeOf, typeInfo, hi0, hz1]) ⟨vb, 0, none⟩ ⟨g, (i + 1) * 3, none⟩ 1 1 lb cb hvb 76 76 3 cur.size (by unfold World.shape?; rw [hx]; rfl) (by unfold World.shape?; rw [hcur]) hcz (blk_frozen hx 0) (blk_frozen hx 3)]
  rfl
 have hlen : ((l.drop i).flatMap enc76).length = (l.length - i) * 3 := by rw [len76, List.length_drop]
 have hcap3 : (l.length + 1) * 3 ≤ cap * 3 := Nat.mul_le_mul_right _ hroom
 have hsp1 := Ins.own_shift (w := w.drew) (enc := enc76) (fun _ => rfl) hi hroom h
 have hlen2 : (l.take (i + 1) ++ l.drop i).length = l.length + 1 := by rw [List.length_append, List.length_take, List.length_drop]; omega
 obtain ⟨W1, hW1⟩ : ∃ W1, W1 = w.drew.setCells g ((i + 1) * 3) ((l.drop i).flatMap enc76) := ⟨_, rfl⟩
 have hcp1 : ∀ ty dc sc, (Builtin.copy_ #[29, 29] ty #[.slice (some ⟨g, (i + 1) * 3, none⟩) (l.length - i) dc, .slice (some ⟨g, i * 3, none⟩) (l.length + 1 - i) sc]).run Try.prog w.drew = .ok (goInt ((l.length - i : Nat) : Int)) W1 := fun ty dc sc => by
  rw [hW1]
  exact Ins.run_copy_sz w.drew 29 29 ty 76 g ((i + 1) * 3) (l.length - i) dc ⟨g, i * 3, none⟩ (l.length + 1 - i) sc ((l.drop i).flatMap enc76) 3 (l.length - i) hu29 hsz (by simp only [Nat.min_def]; split <;> omega) hlen
   (fun j v hj => by rw [Addr.add_lit]; refine t3 _ v ?_; rw [← Ins.fl_drop (enc := enc76) (sz := 3) (fun _ => rfl), List.getElem?_drop] at hj; exact hj)
   (fun j hj => by rw [hlen] at hj; refine t1 _ ?_; omega) (fun j hj => t2 _) (one76 _)
 rw [← hW1] at hsp1
 have hsp2 : W1.ownsRow base 76 3 (.slice (some ⟨g, 0, none⟩) (l.take (i + 1) ++ l.drop i).length cap) (l.take (i + 1) ++ l.drop i).length ((l.take (i + 1) ++ l.drop i).flatMap enc76) := by rw [hlen2]; exact hsp1.1
 have hov2 := Ins.own_over (enc := enc76) (fun _ => rfl) (i := i) (by rw [hlen2]; omega) x hsp2
 rw [hlen2, Ins.ins_list l i hi x] at hov2
 obtain ⟨u1, u2, u3, _⟩ := Ins.own_there hsp1.1
 have hxW : W1.heap[vb]? = some (.cells #[.string x.f0, .string x.f1, .int .i64 x.f2] 76 (0, 0)) := (hsp1.2.block vb (blk_lt hx) (by simpa using hvb)).trans hx
 have hcp2 : ∀ ty dc, (Builtin.copy_ #[29, 29] ty #[.slice (some ⟨g, i * 3, none⟩) (l.length + 1 - i) dc, .slice (some ⟨vb, 0, none⟩) 1 1]).run Try.prog W1 = .ok (goInt 1) (W1.setCells g (i * 3) (enc76 x)) := fun ty dc =>
  Ins.run_copy_sz W1 29 29 ty 76 g (i * 3) (l.length + 1 - i) dc ⟨vb, 0, none⟩ 1 1 (enc76 x) 3 1 hu29 hsz (by simp only [Nat.min_def]; split <;> omega) rfl
   (fun j v hj => by
    rw [Addr.add_lit, blk_cell hxW, Nat.zero_add, ← hj]
    simp [enc76])
   (fun j hj => by have e : (enc76 x).length = 3 := rfl; rw [e] at hj; refine u1 _ ?_; omega) (fun j hj => u2 _) (fun v hv => one76 [x] v (by simpa using hv))
 have HE : Aside0 ((W1.setCells g (i * 3) (enc76 x)).ownsRow base 76 3 (.slice (some ⟨g, 0, none⟩) (l.length + 1) cap) (l.length + 1) ((l.take i ++ x :: l.drop i).flatMap enc76) ∧ w.grownBy (W1.setCells g (i * 3) (enc76 x)) (some g)) := ⟨hov2.1, ⟨hov2.2.os.trans hsp1.2.os, hov2.2.tape.trans hsp1.2.tape, hov2.2.output.trans hsp1.2.output, Nat.le_trans hsp1.2.size hov2.2.size, fun k hk hne => (hov2.2.block k (Nat.lt_of_lt_of_le hk hsp1.2.size) hne).trans (hsp1.2.block k hk hne)⟩⟩
 have hq1 : ¬ (l.length : Int) + 1 ≤ (i : Int) := by omega
 have hq2 : ¬ ((i : Int) = (l.length : Int)) := by omega
 have hq3 : ¬ ((cap : Int) < (l.length : Int) + 1) := by omega
 have hq4 : (l.length : Int) + 1 ≤ (cap : Int) := by omega
 have hq5 : (i : Int) ≤ (l.length : Int) := by omega
 have hq6 : (i : Int) + 1 ≤ (l.length : Int) + 1 := by omega
 have hq7 : (0 : Int) ≤ (i : Int) + 1 := by omega
 have hq8 : ¬ (cap = i + 1) := by omega
 have hq9 : ¬ (cap = i) := by omega
 have hq10 : (i : Int) ≤ (l.length : Int) + 1 := by omega
 have hq11 : (0 : Int) ≤ (l.length : Int) + 1 := by omega
 have hw1 : IntKind.i64.wrap ((l.length : Int) + 1) = (l.length : Int) + 1 := by rw [IntKind.wrap_i64]; omega
 have hw2 : IntKind.i64.wrap ((i : Int) + 1) = (i : Int) + 1 := by rw [IntKind.wrap_i64]; omega
 clear h hsp1 hsp2 hov2 u1 u2 u3 hxW hx t1 t2 t3 hlen hlen2 hcap3 hW1 hcur hcz
 generalize l.length = n at *
 go_enter Try.func81, Try.ntmps81
 go_wp2_with (simp only [hov])
 go_region_law (refine step_copy_runI rfl _ _ 29 29 rfl _ _ (by simp [Act.eval, Act.put]) (by simp [Act.eval, Act.put]) (hcp1 _ _ _) ?_)
 go_wp2_with (at_builtin; refine wpList_copy_runI _ rfl _ _ 29 29 rfl _ _ rfl rfl (hcp2 _ _) ?_)
 go_ret
 exact ⟨rfl, HE.out⟩
set_option maxHeartbeats 4000000 in
set_option maxRecDepth 100000 in
theorem fileInsert_grow (base g cap i vb : Nat) (l : List S76) (x : S76) (w : World) (hi : i < l.length) (hl : l.length < 3518437208000) (hroom : cap < l.length + 1) (hbs : base ≤ w.heap.size)
  (h : w.ownsRow base 76 3 (.slice (some ⟨g, 0, none⟩) l.length cap) l.length (l.flatMap enc76)) (hx : w.heap[vb]? = some (.cells #[.string x.f0, .string x.f1, .int .i64 x.f2] 76 (0, 0))) :
  Calls Try.prog 81 #[.slice (some ⟨g, 0, none⟩) l.length cap, .int .i64 i, .slice (some ⟨vb, 0, none⟩) 1 1] w fun e w' => ∃ G,
   e = .returned (.slice (some ⟨w.heap.size, 0, none⟩) (l.length + 1) G) ∧ w'.ownsRow base 76 3 (.slice (some ⟨w.heap.size, 0, none⟩) (l.length + 1) G) (l.length + 1) ((l.take i ++ x :: l.drop i).flatMap enc76) ∧ w.grownBy w' (some g) := by
 have hu29 := Try.underlying29
 have hu76 := Try.underlying76
 have hu3 : Try.prog.underlying 3 = some (.int .i64) := Try.underlying3
 obtain ⟨t1, t2, t3, hnc, hcm, hb, hgl⟩ := Ins.own_there h
 obtain ⟨i0, hi0, hz0, hz1, hz2⟩ := info_parts info76
 have hsz : (Try.prog.info? 76).map (·.size) = some 3 := by rw [hi0]; simp [hz1]
 have hol : ((l.take i).flatMap enc76).length = i * 3 := by rw [len76, List.length_take, Nat.min_eq_left (by omega)]
 have hold : (Builtin.firstCells i0.size i (.slice (some ⟨g, 0, none⟩) i cap)).run Try.prog w.drew = .ok ((l.take i).flatMap enc76).toArray w.drew := by
  rw [hz1]
  exact run_firstCells_some w.drew 3 i ⟨g, 0, none⟩ i cap _ hol (fun j v hj => by
   rw [Addr.add_lit, Nat.zero_add]
   refine t3 _ v ?_
   rw [← Ins.fl_take (enc := enc76) (sz := 3) (fun _ => rfl), List.getElem?_take] at hj
   split at hj
   ·exact hj
   ·cases hj)
 have hkk : (l.length : Int) + 1 - (i : Int) = ((l.length + 1 - i : Nat) : Int) := by omega
 have hik : i + (l.length + 1 - i) = l.length + 1 := by omega
 obtain ⟨z, hz⟩ : ∃ z : Value, z = .agg #[.string ⟨#[]⟩, .string ⟨#[]⟩, .int .i64 0] := ⟨_, rfl⟩
 have hzc : z.cells.toList = enc76 z76 := by rw [hz]; rfl
 have hz0' : i0.zero = some z := by rw [hz]; exact hz0
 have hrz : ∀ ty, (Builtin.append_ #[29, 3] ty #[.slice (some ⟨g, 0, none⟩) i cap, .int .i64 ((l.length : Int) + 1 - (i : Int))]).run Try.prog w =
   .ok (.slice (some ⟨w.heap.size, 0, none⟩) (l.length + 1) (grownCap w (l.length + 1) cap 76)) (w.drew.alloc (.cells (((l.take i).flatMap enc76).toArray ++ Builtin.zeroCells z.cells (l.length + 1 - i) ++ Builtin.zeroCells z.cells (grownCap w (l.length + 1) cap 76 - (l.length + 1))) 76)) := fun ty => by
  have h := Lib.run_append_grow_zeros (P := Try.prog) w 29 3 ty 76 i0 z .i64 .i64 hu29 hu3 hi0 hz0' (some ⟨g, 0, none⟩) i cap ((l.take i).flatMap enc76) hold (l.length + 1 - i) (by omega) (by omega) (by omega) (by omega) (by rw [hz2]; omega) (by rw [hz2, hik]; exact growslice_fits hroom (by omega))
  rw [hik] at h
  rw [hkk]
  exact h
 obtain ⟨G, hG⟩ : ∃ G, G = grownCap w (l.length + 1) cap 76 := ⟨_, rfl⟩
 rw [← hG] at hrz
 have hGn : l.length + 1 ≤ G := by rw [hG]; exact grownCap_ge w _ _ _
 have hGm : G ≤ maxLen := by rw [hG]; exact grownCap_le_maxLen w (l.length + 1) cap 76 (by unfold maxLen; omega)
 obtain ⟨L0, hL0⟩ : ∃ L0 : List S76, L0 = l.take i ++ List.replicate (l.length + 1 - i) z76 := ⟨_, rfl⟩
 have hL0l : L0.length = l.length + 1 := by rw [hL0, List.length_append, List.length_take, List.length_replicate]; omega
 have hown0 := Ins.own_grown (w := w.drew) (base := base) (e := 76) (enc := enc76) (sz := 3) (z := z) (z0 := z76) (fun _ => rfl) (by decide) hzc (l.take i) (l.length + 1 - i) (l.length + 1) G (by rw [List.length_take]; omega) hGn hGm hbs
 rw [← hL0] at hown0
 obtain ⟨ROW, hROW⟩ : ∃ ROW : Array Value, ROW = ((l.take i).flatMap enc76).toArray ++ Builtin.zeroCells z.cells (l.length + 1 - i) ++ Builtin.zeroCells z.cells (G - (l.length + 1)) := ⟨_, rfl⟩
 rw [← hROW] at hrz hown0
 obtain ⟨NB, hNB⟩ : ∃ NB, NB = w.heap.size := ⟨_, rfl⟩
 have hown1 : ((w.alloc (.cells ROW 76)).drew).ownsRow base 76 3 (.slice (some ⟨NB, 0, none⟩) L0.length G) L0.length (L0.flatMap enc76) := by rw [hL0l, hNB]; exact hown0
 have hown2 := Ins.own_over (enc := enc76) (fun _ => rfl) (i := i) (by rw [hL0l]; omega) x hown1
 obtain ⟨W2, hW2⟩ : ∃ W2, W2 = ((w.alloc (.cells ROW 76)).drew.setCells NB (i * 3) (enc76 x)).drew := ⟨_, rfl⟩
 have hown3 : W2.ownsRow base 76 3 (.slice (some ⟨NB, 0, none⟩) (L0.set i x).length G) (L0.set i x).length ((L0.set i x).flatMap enc76) := by rw [hW2, List.length_set]; exact hown2.1
 have hown4 := Ins.own_tail (enc := enc76) (fun _ => rfl) (j := i + 1) (l.drop i) (by rw [List.length_set, hL0l, List.length_drop]; omega) hown3
 rw [List.length_set, hL0l, hL0, Ins.ins_grown l i _ hi (by omega) x z76] at hown4
 have hgw : w.grownBy ((w.alloc (.cells ROW 76)).drew) (some g) := by
  have := World.grownBy_alloc w (.cells ROW 76) (some g)
  exact ⟨this.os, this.tape, this.output, this.size, this.block⟩
 have hNl : NB < (w.alloc (.cells ROW 76)).heap.size := by rw [hNB]; exact blk_lt (blk_new w _)
 have hstep : ∀ (W : World) (o : Nat) (vs : List Value), w.grownBy W (some g) → w.grownBy (W.setCells NB o vs) (some g) := fun W o vs hg => by
  obtain ⟨s1, s2, s3, s4⟩ := setCells_same NB vs o W
  exact ⟨s1.trans hg.os, s2.trans hg.tape, s3.trans hg.output, by rw [s4]; exact hg.size, fun k hk hne => (setCells_far vs o k (by omega)).trans (hg.block k hk hne)⟩
 have hg2 : w.grownBy W2 (some g) := by
  have := hstep _ (i * 3) (enc76 x) hgw
  rw [hW2]
  exact ⟨this.os, this.tape, this.output, this.size, this.block⟩
 have hg2' : W2.heap[g]? = w.heap[g]? := by
  rw [hW2]
  show (((w.alloc (.cells ROW 76)).drew.setCells NB (i * 3) (enc76 x))).heap[g]? = _
  rw [setCells_far (enc76 x) (i * 3) g (by omega)]
  exact Below.heap_alloc w _ g hgl
 have hg4 := hstep W2 ((i + 1) * 3) ((l.drop i).flatMap enc76) hg2
 obtain ⟨u1, u2, u3, _⟩ := Ins.own_there hown1
 obtain ⟨y1, y2, y3, _⟩ := Ins.own_there hown3
 have hcap3 : (l.length + 1) * 3 ≤ G * 3 := Nat.mul_le_mul_right _ hGn
 have hvN : vb ≠ NB := by have := blk_lt hx; omega
 have hgN : g ≠ NB := by omega
 have hxW : (w.alloc (.cells ROW 76)).heap[vb]? = some (.cells #[.string x.f0, .string x.f1, .int .i64 x.f2] 76 (0, 0)) := blk_alloc hx _
 have hcA : ∀ (W : World), (∀ a, W.cell? a = (w.alloc (.cells ROW 76)).drew.cell? a) → (∀ a, W.frozen? a = (w.alloc (.cells ROW 76)).drew.frozen? a) → ∀ ty dc, (Builtin.copy_ #[29, 29] ty #[.slice (some ⟨NB, i * 3, none⟩) (l.length + 1 - i) dc, .slice (some ⟨vb, 0, none⟩) 1 1]).run Try.prog W = .ok (goInt 1) (W.setCells NB (i * 3) (enc76 x)) := fun W hWc hWf ty dc =>
  Ins.run_copy_sz W 29 29 ty 76 NB (i * 3) (l.length + 1 - i) dc ⟨vb, 0, none⟩ 1 1 (enc76 x) 3 1 hu29 hsz (by simp only [Nat.min_def]; split <;> omega) rfl
   (fun j v hj => by
    rw [Addr.add_lit, hWc]
    show (w.alloc (.cells ROW 76)).cell? _ = _
    rw [blk_cell hxW, Nat.zero_add, ← hj]
    simp [enc76])
   (fun j hj => by have e : (enc76 x).length = 3 := rfl; rw [e] at hj; rw [hWc]; refine u1 _ ?_; omega) (fun j hj => by rw [hWf]; exact u2 _) (fun v hv => one76 [x] v (by simpa using hv))
 have hlen : ((l.drop i).flatMap enc76).length = (l.length - i) * 3 := by rw [len76, List.length_drop]
 have hcB : ∀ ty dc sc, (Builtin.copy_ #[29, 29] ty #[.slice (some ⟨NB, (i + 1) * 3, none⟩) (l.length - i) dc, .slice (some ⟨g, i * 3, none⟩) (l.length - i) sc]).run Try.prog W2 = .ok (goInt ((l.length - i : Nat) : Int)) (W2.setCells NB ((i + 1) * 3) ((l.drop i).flatMap enc76)) := fun ty dc sc =>
  Ins.run_copy_sz W2 29 29 ty 76 NB ((i + 1) * 3) (l.length - i) dc ⟨g, i * 3, none⟩ (l.length - i) sc ((l.drop i).flatMap enc76) 3 (l.length - i) hu29 hsz (by simp only [Nat.min_def]; split <;> omega) hlen
   (fun j v hj => by
    rw [Addr.add_lit, World.cell?_of_block (a := ⟨g, i * 3 + j, none⟩) hg2']
    refine t3 _ v ?_
    rw [← Ins.fl_drop (enc := enc76) (sz := 3) (fun _ => rfl), List.getElem?_drop] at hj
    exact hj)
   (fun j hj => by rw [hlen] at hj; refine y1 _ ?_; omega) (fun j hj => y2 _) (one76 _)
 have HE := Aside0.mk hown4.1
 have HG4 := Aside0.mk hg4
 have HW2 := Aside0.mk hW2
 have hq2 : ¬ ((i : Int) = (l.length : Int)) := by omega
 have hq3 : (cap : Int) < (l.length : Int) + 1 := by omega
 have hq5 : (i : Int) ≤ (l.length : Int) := by omega
 have hq6 : (i : Int) + 1 ≤ (l.length : Int) + 1 := by omega
 have hq7 : (0 : Int) ≤ (i : Int) + 1 := by omega
 have hq8 : ¬ (G = i + 1) := by omega
 have hq9 : ¬ (G = i) := by omega
 have hq10 : (i : Int) ≤ (l.length : Int) + 1 := by omega
 have hq12 : ¬ (cap = i) := by omega
 have hq13 : i ≤ cap := by omega
 have hq14 : (0 : Int) ≤ (l.length : Int) + 1 - (i : Int) := by omega
 have hw1 : IntKind.i64.wrap ((l.length : Int) + 1) = (l.length : Int) + 1 := by rw [IntKind.wrap_i64]; omega
 have hw2 : IntKind.i64.wrap ((i : Int) + 1) = (i : Int) + 1 := by rw [IntKind.wrap_i64]; omega
 have hw3 : IntKind.i64.wrap ((l.length : Int) + 1 - (i : Int)) = (l.length : Int) + 1 - (i : Int) := by rw [IntKind.wrap_i64]; omega
 clear h hx t1 t2 t3 hlen hg2' hg2 hg4 hstep hown1 hown2 hown3 hown4 hown0 u1 u2 u3 y1 y2 y3 hcap3 hgw hW2 hxW hROW hkk hold hol hik hL0 hL0l hG hz0' hzc
 generalize l.length = n at *
 subst hNB
 have hcA1 : ∀ ty dc, (Builtin.copy_ #[29, 29] ty #[.slice (some ⟨w.heap.size, i * 3, none⟩) (n + 1 - i) dc, .slice (some ⟨vb, 0, none⟩) 1 1]).run Try.prog ((w.alloc (.cells ROW 76)).drew) = .ok (goInt 1) ((w.alloc (.cells ROW 76)).drew.setCells w.heap.size (i * 3) (enc76 x)) := hcA _ (fun _ => rfl) (fun _ => rfl)
 clear hcA
 rw [HW2.out] at hcB
 go_enter Try.func81, Try.ntmps81
 go_wp2_with (first
  | (at_builtin; refine Lib.wpList_append_run _ rfl _ _ _ _ rfl _ _ rfl rfl _ _ (hrz _) ?_))
 go_region_law (refine step_copy_runI rfl _ _ 29 29 rfl _ _ (by simp [Act.eval, Act.put]) (by simp [Act.eval, Act.put]) (hcB _ _ _) ?_)
 go_wp2
 go_ret
 have h1 := HE.out
 have h2 := HG4.out
 rw [HW2.out] at h1 h2
 exact ⟨G, rfl, h1, h2⟩
theorem own_slice76 {w : World} {base : Nat} {ok : Nat → Prop} {v : Value} {l : List S76} (h : k76.R 76 w base ok v l) (hp : 0 < l.length) : ∃ g cap, v = .slice (some ⟨g, 0, none⟩) l.length cap := by
 obtain ⟨g, cap, e, _⟩ := Kd.R_form h hp
 exact ⟨g, cap, e⟩
theorem fileInsert (base : Nat) (ok : Nat → Prop) (v : Value) (l : List S76) (x : S76) (i vb : Nat) (w : World) (hi : i ≤ l.length) (hl : l.length < 3518437208000) (h : k76.R 76 w base ok v l) (hbs : base ≤ w.heap.size) (hfresh : ∀ k, w.heap.size ≤ k → ok k)
  (hx : w.heap[vb]? = some (.cells #[.string x.f0, .string x.f1, .int .i64 x.f2] 76 (0, 0))) (hvb : some vb ≠ v.ownBlock) :
  Calls Try.prog 81 #[v, .int .i64 i, .slice (some ⟨vb, 0, none⟩) 1 1] w fun e w' => ∃ v', e = .returned v' ∧ k76.R 76 w' base ok v' (l.take i ++ x :: l.drop i) ∧ w.grownBy w' v.ownBlock ∧ (v'.ownBlock = v.ownBlock ∨ ∃ b, v'.ownBlock = some b ∧ w.heap.size ≤ b) := by
 have hlen : (l.take i ++ x :: l.drop i).length = l.length + 1 := by rw [List.length_append, List.length_cons, List.length_take, List.length_drop]; omega
 by_cases he : i = l.length
 ·subst he
  obtain ⟨A, c, rfl⟩ := Kd.R_slice h
  rw [List.take_of_length_le (Nat.le_refl _), List.drop_of_length_le (Nat.le_refl _)]
  exact fileInsert_end base ok A c vb l x w hl h hbs hfresh hx
 ·have hi' : i < l.length := by omega
  obtain ⟨g, cap, rfl⟩ := own_slice76 h (by omega)
  have hvg : vb ≠ g := fun e => hvb (by rw [e]; rfl)
  by_cases hr : l.length + 1 ≤ cap
  ·refine (fileInsert_shift base g cap i vb l x w hi' hl hr (own76 h) hx hvg).mono ?_
   rintro e w' ⟨rfl, h1, h2⟩
   refine ⟨_, rfl, R76 (fun k hk => h.1 k hk) ?_, h2, .inl rfl⟩
   rw [hlen]; exact h1
  ·refine (fileInsert_grow base g cap i vb l x w hi' hl (by omega) hbs (own76 h) hx).mono ?_
   rintro e w' ⟨G, rfl, h1, h2⟩
   refine ⟨_, rfl, R76 (fun k hk => ?_) ?_, h2, .inr ⟨_, rfl, Nat.le_refl _⟩⟩
   ·have : w.heap.size = k := Option.some.inj hk
    exact hfresh k (by omega)
   ·rw [hlen]; exact h1

/-! ### impl_putFile: function 47 -/
def putB (f x : S76) : Bool := !Op.bytesLess x.f0.toList f.f0.toList && !(x.f0.toList == f.f0.toList)
def putE (f x : S76) : Bool := x.f0.toList == f.f0.toList
def putF (l : List S76) (f : S76) : List S76 :=
 if 0 ≤ M.idxP (putE f) l 0 then l.set (M.idxP (putE f) l 0).toNat f
 else if M.idxP (putB f) l 0 < 0 then l.take l.length ++ f :: l.drop l.length else l.take (M.idxP (putB f) l 0).toNat ++ f :: l.drop (M.idxP (putB f) l 0).toNat
set_option maxHeartbeats 4000000 in
set_option maxRecDepth 100000 in
theorem impl_putFile.one (x0 x1 : ByteArray) (x2 : Int) (B : Nat) (s : ByteArray) (w : World) (hB : B < w.heap.size) (hc : w.cell? ⟨B, 0, none⟩ = some (.string s)) :
  Calls Try.prog 80 #[.agg #[.string x0, .string x1, .int .i64 x2], .pointer (some ⟨B, 0, none⟩)] w fun e w' => e = .returned (.bool (!Op.bytesLess x0.toList s.toList && !(x0.toList == s.toList))) ∧ Below w.heap.size w w' := by
 have hu := Try.underlying76
 go_enter Try.func80, Try.ntmps80
 go_wp2
 go_ret
 exact ⟨rfl, by repeat (first | exact Below.refl _ _ | apply below_alloc | apply pw_below_drewN | apply below_drew1)⟩
set_option maxHeartbeats 4000000 in
set_option maxRecDepth 100000 in
theorem impl_putFile.there (base : Nat) (ok : Nat → Prop) (g4 : Nat) (A : Option Addr) (c : Nat) (l : List S76) (f : S76) (w : World) (hl : l.length < 3518437208000) (hB : w.heap[g4]? = some (.cells #[.slice A l.length c] 31 (0, 0)))
  (h : k76.R 76 w base (fun k => ok k ∧ k ≠ g4) (.slice A l.length c) l) (hbs : base ≤ w.heap.size) (hg4 : base ≤ g4) (hq : 0 ≤ M.idxP (putE f) l 0) :
  Calls Try.prog 47 #[.pointer (some ⟨g4, 0, none⟩), .agg #[.string f.f0, .string f.f1, .int .i64 f.f2]] w fun e w' => e = .returned (.tuple #[]) ∧ ∃ v', w'.heap[g4]? = some (.cells #[v'] 31 (0, 0)) ∧ k76.R 76 w' base (fun k => ok k ∧ k ≠ g4) v' (l.set (M.idxP (putE f) l 0).toNat f) ∧ Below base w w' ∧ ∀ k, k < w.heap.size → k ≠ g4 → some k ≠ (Value.slice A l.length c).ownBlock → w'.heap[k]? = w.heap[k]? := by
 have hu31 := Try.underlying31
 have hu29 := Try.underlying29
 have hu76 := Try.underlying76
 obtain ⟨kk, hk1, hk2⟩ : ∃ kk : Nat, kk < l.length ∧ M.idxP (putE f) l 0 = kk := by
  rcases M.idxP_cases (putE f) l 0 with ⟨e, _⟩ | ⟨k, hk, e, _⟩
  ·omega
  ·exact ⟨k, hk, by omega⟩
 rw [hk2]
 obtain ⟨go, cap, ea⟩ := own_slice76 h (by omega)
 injection ea with ea _ ec
 subst ea; subst ec
 have HO := Aside0.mk h
 have BK := Aside0.mk hB
 have HB := mk_ (Below.refl w.heap.size w)
 have HK := Aside0.mk hk1
 have HC := (Kd.R_reads' h).2
 have HCC := Aside0.mk HC.1
 have HG := Aside0.mk hg4
 have HFA : Aside0 (impl_fileAt.f l f.f0 = some (kk : Int)) := ⟨by rw [← hk2]; rfl⟩
 have hkz : (kk : Int) < (l.length : Int) := by omega
 clear h HC hq hB hk2 hg4
 go_enter Try.func47, Try.ntmps47
 go_wp2_with (first
  | ((with_reducible refine gate_dst (N := 3) rfl ?_); refine bx_ (N := 3) (cs := #[.string f.f0, .string f.f1, .int .i64 f.f2]) (t := 76) ?_; intro gf hg w2 hbox hb; have BF := Aside0.mk hbox; have GF : Aside0 (w.heap.size ≤ gf) := bz_ hg; have HNF : Aside0 (∀ k, k < w.heap.size → k ≠ gf) := ⟨fun k hk e => by omega⟩; replace BK := bb_ BK hb; replace HO := rb_ HO hb; replace HB := bs_ HB hb; clear hb hbox hg; have c40 : w2.cell? ⟨g4, 0, none⟩ = some (.slice (some ⟨go, 0, none⟩) l.length c) := (blk_cell BK.out 0).trans rfl; obtain ⟨cf0, cf1, cf2, ff0, ff1, ff2⟩ := b3_ BF))
 have HCD := mk_ (Kd.R_reads' HO.out).2.2
 have HL4 := mk_ (blk_lt BK.out)
 have HLF := mk_ (blk_lt BF.out)
 go_region_held3 (fun w' => w'.cell? ⟨g4, 0, none⟩ = some (.slice (some ⟨go, 0, none⟩) l.length c) ∧ w'.cell? ⟨gf, 0, none⟩ = some (.string f.f0)) (first | go_keep | exact ⟨(hb'.cell (p := ⟨g4, 0, none⟩) HL4.out).trans c40, (hb'.cell (p := ⟨gf, 0, none⟩) HLF.out).trans cf0⟩) (first | (go_at_call 44; refine (impl_fileAt.calls (some ⟨go, 0, none⟩) c l f.f0 kk _ (by repeat (first | exact HCD.out | (with_reducible refine Kd.C_drewN ?_ _) | (with_reducible refine Kd.C_drew ?_))) HCC.out HFA.out).mono ?_; rintro e w5 ⟨rfl, hb'⟩))
 clear c40 cf0 cf1 cf2 ff0 ff1 ff2 HCD HL4 HLF
 replace BK := bb_ BK hb'
 replace BF := bb_ BF hb'
 replace HO := rb_ HO hb'
 replace HB := bs_ HB hb'
 clear hb'
 have hown := own76 HO.out
 obtain ⟨u1, u2, u3, hnc, hcm, hgb, hgl⟩ := Ins.own_there hown
 have hcap3 : (kk + 1) * 3 ≤ c * 3 := Nat.mul_le_mul_right _ (by omega)
 obtain ⟨v0, hy0⟩ := Option.isSome_iff_exists.1 (u1 (kk * 3) (by omega))
 obtain ⟨v1, hy1⟩ := Option.isSome_iff_exists.1 (u1 (kk * 3 + 1) (by omega))
 obtain ⟨v2, hy2⟩ := Option.isSome_iff_exists.1 (u1 (kk * 3 + 2) (by omega))
 have hz0 := u2 (kk * 3)
 have hz1 := u2 (kk * 3 + 1)
 have hz2 := u2 (kk * 3 + 2)
 have hov := mk_ (Ins.own_over (w := w5) (enc := enc76) (fun _ => rfl) (i := kk) HK.out f hown)
 have hne : go ≠ g4 := (HO.out.1 go rfl).2
 have hne2 : g4 ≠ go := Ne.symm hne
 have c40 : w5.cell? ⟨g4, 0, none⟩ = some (.slice (some ⟨go, 0, none⟩) l.length c) := (blk_cell BK.out 0).trans rfl
 obtain ⟨cf0, cf1, cf2, ff0, ff1, ff2⟩ := b3_ BF
 clear u1 u2 u3 hown hcap3 hcm
 go_wp2
 go_region
 go_wp2
 refine bodyPost_ret (results_none rfl _ _ _) rfl ?_
 rw [Int.toNat_natCast]
 have hB5 : Below base w w5 := ⟨HB.out.os, HB.out.tape, HB.out.output, HB.out.size, fun k hk => HB.out.block k (Nat.lt_of_lt_of_le hk hbs)⟩
 refine ⟨rfl, _, blk_drew (blk_far (blk_far (blk_far BK.out hne2 _) hne2 _) hne2 _), R76 (fun k hk => HO.out.1 k hk) ?_, ?_, fun k hk _ h2 => (hov.out.2.block k (Nat.lt_of_lt_of_le hk HB.out.size) (fun e => h2 (by rw [e]; rfl))).trans (HB.out.block k hk)⟩
 ·rw [List.length_set]; exact hov.out.1
 ·exact below_drew (pw_below_grown hB5 (some go) (Nat.le_trans hbs hB5.size) hov.out.2 (fun k e => by rw [← Option.some.inj e]; exact hgb))
set_option maxHeartbeats 4000000 in
set_option maxRecDepth 100000 in
theorem impl_putFile.new_ (base : Nat) (ok : Nat → Prop) (g4 : Nat) (A : Option Addr) (c : Nat) (l : List S76) (f : S76) (w : World) (hl : l.length < 3518437208000) (hB : w.heap[g4]? = some (.cells #[.slice A l.length c] 31 (0, 0)))
  (h : k76.R 76 w base (fun k => ok k ∧ k ≠ g4) (.slice A l.length c) l) (hbs : base ≤ w.heap.size) (hg4 : base ≤ g4) (hfresh : ∀ k, w.heap.size ≤ k → ok k) (hq : M.idxP (putE f) l 0 = -1) (kk : Nat) (hk : kk ≤ l.length) (zB : Int) (hz : M.idxP (putB f) l 0 = zB) (hj : zB = -1 ∧ kk = l.length ∨ zB = kk) :
  Calls Try.prog 47 #[.pointer (some ⟨g4, 0, none⟩), .agg #[.string f.f0, .string f.f1, .int .i64 f.f2]] w fun e w' => e = .returned (.tuple #[]) ∧ ∃ v', w'.heap[g4]? = some (.cells #[v'] 31 (0, 0)) ∧ k76.R 76 w' base (fun k => ok k ∧ k ≠ g4) v' (l.take kk ++ f :: l.drop kk) ∧ Below base w w' ∧ ∀ k, k < w.heap.size → k ≠ g4 → some k ≠ (Value.slice A l.length c).ownBlock → w'.heap[k]? = w.heap[k]? := by
 have hu31 := Try.underlying31
 have hu29 := Try.underlying29
 have hu76 := Try.underlying76
 have eg : ∀ args w, (callFunc 80 args).run Try.prog w = .ok (.enter 80 args) w := enters_of Try.func80 (by kernel_rfl) rfl
 have HO := Aside0.mk h
 have BK := Aside0.mk hB
 have HB := mk_ (Below.refl w.heap.size w)
 have HK := Aside0.mk hk
 have HC := (Kd.R_reads' h).2
 have HCC := Aside0.mk HC.1
 have HG := Aside0.mk hg4
 have HFR := Aside0.mk hfresh
 have HFA : Aside0 (impl_fileAt.f l f.f0 = some (-1)) := ⟨by rw [← hq]; rfl⟩
 have HZ := Aside0.mk hz
 have HE := Aside0.mk eg
 clear h HC hB hq hg4 hk hfresh hz eg
 have hkn : ¬ ((kk : Int) < 0) := by omega
 rcases hj with ⟨hj, rfl⟩ | hj
 all_goals
  go_enter Try.func47, Try.ntmps47
  go_wp2_with (first
   | ((with_reducible refine gate_dst (N := 3) rfl ?_); refine bx_ (N := 3) (cs := #[.string f.f0, .string f.f1, .int .i64 f.f2]) (t := 76) ?_; intro gf hg w2 hbox hb; have BF := Aside0.mk hbox; have GF : Aside0 (w.heap.size ≤ gf) := bz_ hg; have HNF : Aside0 (g4 ≠ gf) := bl_ BK hg; have HGO : Aside0 (some gf ≠ (Value.slice A l.length c).ownBlock) := ⟨fun e => by have := Kd.R_lt HO.out _ e.symm; omega⟩; replace BK := bb_ BK hb; replace HO := rb_ HO hb; replace HB := bs_ HB hb; clear hb hbox hg; have c40 : w2.cell? ⟨g4, 0, none⟩ = some (.slice A l.length c) := (blk_cell BK.out 0).trans rfl; obtain ⟨cf0, cf1, cf2, ff0, ff1, ff2⟩ := b3_ BF))
  have HCD := mk_ (Kd.R_reads' HO.out).2.2
  have HL4 := mk_ (blk_lt BK.out)
  have HLF := mk_ (blk_lt BF.out)
  go_region_held3 (fun w' => w'.cell? ⟨g4, 0, none⟩ = some (.slice A l.length c) ∧ w'.cell? ⟨gf, 0, none⟩ = some (.string f.f0)) (first | go_keep | exact ⟨(hb'.cell (p := ⟨g4, 0, none⟩) HL4.out).trans c40, (hb'.cell (p := ⟨gf, 0, none⟩) HLF.out).trans cf0⟩) (first | (go_at_call 44; refine (impl_fileAt.calls A c l f.f0 (-1) _ (by repeat (first | exact HCD.out | (with_reducible refine Kd.C_drewN ?_ _) | (with_reducible refine Kd.C_drew ?_))) HCC.out HFA.out).mono ?_; rintro e w5 ⟨rfl, hb'⟩))
  clear c40 cf0 cf1 cf2 ff0 ff1 ff2 HCD HL4 HLF
  replace BK := bb_ BK hb'
  replace BF := bb_ BF hb'
  replace HO := rb_ HO hb'
  replace HB := bs_ HB hb'
  clear hb'
  have c40 : w5.cell? ⟨g4, 0, none⟩ = some (.slice A l.length c) := (blk_cell BK.out 0).trans rfl
  obtain ⟨cf0, cf1, cf2, ff0, ff1, ff2⟩ := b3_ BF
  have HL4 := mk_ (blk_lt BK.out)
  have HLF := mk_ (blk_lt BF.out)
  have HX : Aside0 (∀ W, Below w5.heap.size w5 W → Calls Try.prog 78 #[.slice A l.length c, .func (.func 80) #[] #[.pointer (some ⟨gf, 0, none⟩)]] W fun e w' => e = .returned (.int .i64 zB) ∧ Below W.heap.size W w') := ⟨fun W hW => HZ.out ▸
   fileIndexFunc (putB f) 80 #[.pointer (some ⟨gf, 0, none⟩)] HE.out A c l W (Kd.C_below (Kd.R_reads' HO.out).2.2 hW) HCC.out (fun W' x hW' => impl_putFile.one x.f0 x.f1 x.f2 gf f.f0 W' (Nat.lt_of_lt_of_le (Nat.lt_of_lt_of_le HLF.out hW.size) hW'.size) ((hW'.cell (p := ⟨gf, 0, none⟩) (Nat.lt_of_lt_of_le HLF.out hW.size)).trans ((hW.cell (p := ⟨gf, 0, none⟩) HLF.out).trans cf0)))⟩
  go_wp2_with (first | (go_at_call 78; refine (HX.out _ (by repeat (first | exact Below.refl _ _ | (with_reducible apply pw_below_drewN) | (with_reducible apply below_drew)))).mono ?_; rintro e w6 ⟨rfl, hb'⟩; replace BK := bb_ BK hb'; replace BF := bb_ BF hb'; replace HO := rb_ HO hb'; replace HB := bs_ HB hb'; clear hb' HX c40 cf0 cf1 cf2 ff0 ff1 ff2 HL4 HLF; have c40 : w6.cell? ⟨g4, 0, none⟩ = some (.slice A l.length c) := (blk_cell BK.out 0).trans rfl; obtain ⟨cf0, cf1, cf2, ff0, ff1, ff2⟩ := b3_ BF))
  have HFR6 : Aside0 (∀ k, w6.heap.size ≤ k → ok k ∧ k ≠ g4) := ⟨fun k hk => ⟨HFR.out k (Nat.le_trans HB.out.size hk), fun e => by have := blk_lt BK.out; omega⟩⟩
  have HIN : Aside0 (∀ q : Nat, q ≤ l.length → Calls Try.prog 81 #[.slice A l.length c, .int .i64 q, .slice (some ⟨w6.heap.size, 0, none⟩) 1 1] (w6.drew.alloc (.cells #[.string f.f0, .string f.f1, .int .i64 f.f2] 76)) fun e w' => ∃ v', e = .returned v' ∧ k76.R 76 w' base (fun k => ok k ∧ k ≠ g4) v' (l.take q ++ f :: l.drop q) ∧ (w6.drew.alloc (.cells #[.string f.f0, .string f.f1, .int .i64 f.f2] 76)).grownBy w' (Value.slice A l.length c).ownBlock) := ⟨fun q hq =>
   (fileInsert base (fun k => ok k ∧ k ≠ g4) (.slice A l.length c) l f q w6.heap.size _ hq hl (Kd.R_alloc (Kd.R_drew HO.out) _) (Nat.le_trans hbs (Nat.le_trans HB.out.size (below_alloc (Below.refl w6.drew.heap.size w6.drew) _).size)) (fun k hk => HFR6.out k (Nat.le_trans (below_alloc (Below.refl w6.drew.heap.size w6.drew) _).size hk)) (blk_new w6.drew _) (fun e => by have := Kd.R_lt HO.out _ e.symm; omega)).mono (fun e w' ⟨v', h1, h2, h3, _⟩ => ⟨v', h1, h2, h3⟩)⟩
  have HG4O : Aside0 (some g4 ≠ (Value.slice A l.length c).ownBlock) := ⟨fun e => (HO.out.1 g4 e.symm).2 rfl⟩
  have hnf : g4 ≠ gf := HNF.out
  have hnf2 : gf ≠ g4 := Ne.symm HNF.out
  have c40a : ∀ o, (w6.alloc o).cell? ⟨g4, 0, none⟩ = some (.slice A l.length c) := fun o => pw_cell_below (below_alloc (Below.refl _ _) o) c40
  go_region_with (first | (go_at_call 81; refine (HIN.out _ (by first | exact HK.out | exact Nat.le_refl _)).mono ?_; rintro e w7 ⟨v', rfl, h1, h2⟩; obtain ⟨A7, n7, c7, e7⟩ : ∃ A n c, v' = Value.slice A n c := (let ⟨A, c, e⟩ := Kd.R_slice h1; ⟨A, _, c, e⟩); subst e7; have c47 : w7.cell? ⟨g4, 0, none⟩ = some (.slice A l.length c) := (blk_cell (blk_grown (blk_alloc (blk_drew BK.out) _) h2 HG4O.out) 0).trans rfl; have f47 := blk_frozen (blk_grown (blk_alloc (blk_drew BK.out) _) h2 HG4O.out) 0))
  all_goals
   go_end0
   have hB5 : Below base w w6 := ⟨HB.out.os, HB.out.tape, HB.out.output, HB.out.size, fun k hk => HB.out.block k (Nat.lt_of_lt_of_le hk hbs)⟩
   have hB6 : Below base w (w6.drew.alloc (.cells #[.string f.f0, .string f.f1, .int .i64 f.f2] 76)) := (below_drew hB5).alloc (Nat.le_trans hbs hB5.size) _
   have hB7 := pw_below_grown hB6 _ (Nat.le_trans hbs hB6.size) h2 (fun k e => Kd.R_base HO.out k e)
   exact ⟨rfl, _, blk_put (blk_grown (blk_alloc (blk_drew BK.out) _) h2 HG4O.out) 0 _ rfl, Kd.R_far (p := ⟨g4, 0, none⟩) h1 (fun _ hk => hk.2) _, hB7.setCell HG.out _, fun k hk hk4 hko => (Below.heap_setCell w7 ⟨g4, 0, none⟩ _ k hk4).trans ((h2.block k (Nat.lt_of_lt_of_le hk (Nat.le_trans HB.out.size (below_alloc (Below.refl w6.drew.heap.size w6.drew) _).size)) hko).trans ((Below.heap_alloc w6.drew _ k (Nat.lt_of_lt_of_le hk HB.out.size)).trans (HB.out.block k hk)))⟩
theorem impl_putFile.calls (base : Nat) (ok : Nat → Prop) (g4 : Nat) (v : Value) (l : List S76) (f : S76) (w : World) (hl : l.length < 3518437208000) (hB : w.heap[g4]? = some (.cells #[v] 31 (0, 0)))
  (h : k76.R 76 w base (fun k => ok k ∧ k ≠ g4) v l) (hbs : base ≤ w.heap.size) (hg4 : base ≤ g4) (hfresh : ∀ k, w.heap.size ≤ k → ok k) :
  Calls Try.prog 47 #[.pointer (some ⟨g4, 0, none⟩), .agg #[.string f.f0, .string f.f1, .int .i64 f.f2]] w fun e w' => e = .returned (.tuple #[]) ∧ ∃ v', w'.heap[g4]? = some (.cells #[v'] 31 (0, 0)) ∧ k76.R 76 w' base (fun k => ok k ∧ k ≠ g4) v' (putF l f) ∧ Below base w w' ∧ ∀ k, k < w.heap.size → k ≠ g4 → some k ≠ v.ownBlock → w'.heap[k]? = w.heap[k]? := by
 obtain ⟨A, c, rfl⟩ := Kd.R_slice h
 unfold putF
 rcases M.idxP_cases (putE f) l 0 with ⟨e, _⟩ | ⟨k, hk, e, _⟩
 ·rw [if_neg (by omega)]
  rcases M.idxP_cases (putB f) l 0 with ⟨e2, _⟩ | ⟨k2, hk2, e2, _⟩
  ·rw [if_pos (by omega)]
   exact impl_putFile.new_ base ok g4 A c l f w hl hB h hbs hg4 hfresh e l.length (Nat.le_refl _) _ e2 (.inl ⟨rfl, rfl⟩)
  ·rw [if_neg (by omega)]
   exact impl_putFile.new_ base ok g4 A c l f w hl hB h hbs hg4 hfresh e _ (by omega) _ rfl (.inr (by omega))
 ·rw [if_pos (by omega)]
  exact impl_putFile.there base ok g4 A c l f w hl hB h hbs hg4 (by omega)

end Go.Proofs.Ythbaoefbccdioaa.QFnExactCutActs
