/- Written by this session's own program (wip/tpl/pp.py): what the law's functions come to, and that the machine's calls do just that. -/
import Derived.Test.YtknbkjajfiediaaQFnExactLoseDiskx0
import Derived.Test.YtknbkjajfiediaaQFnExactLoseDiskx1
import Derived.Test.YtknbkjajfiediaaQFnExactLoseDiskx3
import Derived.Test.YtknbkjajfiediaaQFnExactLoseDiskx4
import Derived.Test.YtknbkjajfiediaaQFnExactLoseDiskx5
import Derived.Test.YtknbkjajfiediaaQFnExactLoseDiskx6
namespace Go.Proofs.Ytknbkjajfiediaa.QFnExactLoseDisk
open Go.RowKit Go.Proofs.YtknbkjajfiediaaW.PrintWords Go.Proofs.YtknbkjajfiediaaW.PrintLast Go.Proofs.YtknbkjajfiediaaW.PrintMore
attribute [local go_sem] Go.Proofs.Ytknbkjajfiediaa.Sem.string_geq Go.Proofs.Ytknbkjajfiediaa.Sem.string_leq Go.Proofs.Ytknbkjajfiediaa.Sem.string_gtr
attribute [local go_sem] max2_int min2_int max_two min_two max_three min_three max_four min_four   -- for this text's walks alone
set_option linter.unusedVariables false
set_option linter.unusedSimpArgs false

/-! ### laws_FnExactLoseDisk: function 6 -/
mutual
def laws_FnExactLoseDisk.j0 : Nat → List Int → Bool → List Int → Bool → Bool → List (S160) → List (S60) → List (S60) → List (S60) → Option (Bool)
 | 0, _, _, _, _, _, _, _, _, _ => none
 | k + 1, x1, x7, x9, x11, x51, x195000, x207000, x211000, x219000 => if x51 = true then (none) else ((laws_toDisk.f k x195000).bind fun t220 => ((laws_eqDisk.f k x211000 t220).bind fun t223 => (if t223 = true then ((laws_toIntS.f k x1).bind fun t224 => ((laws_eqIntS.f k x9 t224).bind fun t227 => (if t227 = true then ((laws_markDisk.f k x211000 1).bind fun bt228 => ((laws_markIntS.f k x9 bt228.1).bind fun bt230 => (if bt230.1 < 0 then (none) else ((laws_eqDisk.f k x219000 x207000).bind fun t232 => (if t232 = true then (laws_FnExactLoseDisk.j1 k x1 x7 (x11 != x7) x195000 x207000 x219000) else (none)))))) else (none)))) else (none))))
def laws_FnExactLoseDisk.j1 : Nat → List Int → Bool → Bool → List (S160) → List (S60) → List (S60) → Option (Bool)
 | 0, _, _, _, _, _, _ => none
 | k + 1, x1, x7, x80, x195000, x207000, x219000 => if x80 = true then (none) else ((laws_markDisk.f k x219000 1).bind fun bt233 => ((laws_heldDisk.f k bt233.2 1).bind fun t235 => (if t235 < 0 then (none) else (if t235 = bt233.1 then ((laws_toDisk.f k x195000).bind fun t236 => ((laws_toIntS.f k x1).bind fun t239 => ((impl_LoseDisk.f k t236 t239).bind fun bt242 => ((laws_eqDisk.f k bt242.1 x207000).bind fun t247 => (if t247 = true then (laws_FnExactLoseDisk.j2 k bt233.1 (bt242.2 != x7) bt233.2) else (none)))))) else (none)))))
def laws_FnExactLoseDisk.j2 : Nat → Int → Bool → List (S60) → Option (Bool)
 | 0, _, _, _ => none
 | k + 1, x13, x108, x219000 => if x108 = true then (none) else ((laws_heldDisk.f k x219000 1).bind fun t248 => (if t248 < 0 then (none) else (if t248 = x13 then (some true) else (none))))
end
def laws_FnExactLoseDisk.f (k : Nat) (l0_0 : List (S160)) (l1 : List Int) : Option (Bool) := if (l1.length : Int) > 1048576 then (some true) else ((laws_szDisk.f k l0_0 1048576).bind fun t195 => (if t195 < 0 then (some true) else ((laws_toDisk.f k l0_0).bind fun t196 => ((laws_toIntS.f k l1).bind fun t199 => ((spec_LoseDisk.f k t196 t199).bind fun bt202 => ((laws_toDisk.f k l0_0).bind fun t207 => ((laws_toIntS.f k l1).bind fun t211 => ((impl_LoseDisk.f k t207 t211).bind fun bt214 => ((laws_eqDisk.f k bt214.1 bt202.1).bind fun t219 => (if t219 = true then (laws_FnExactLoseDisk.j0 k l1 bt202.2 t211 bt214.2 (bt214.2 != bt202.2) l0_0 bt202.1 t207 bt214.1) else (none)))))))))))
theorem laws_FnExactLoseDisk.mono_l : ∀ k, (∀ y0 y1 y2 y3 y4 y5 y6 y7 y8, LeO (laws_FnExactLoseDisk.j0 k y0 y1 y2 y3 y4 y5 y6 y7 y8) (laws_FnExactLoseDisk.j0 (k + 1) y0 y1 y2 y3 y4 y5 y6 y7 y8)) ∧ (∀ y0 y1 y2 y3 y4 y5, LeO (laws_FnExactLoseDisk.j1 k y0 y1 y2 y3 y4 y5) (laws_FnExactLoseDisk.j1 (k + 1) y0 y1 y2 y3 y4 y5)) ∧ (∀ y0 y1 y2, LeO (laws_FnExactLoseDisk.j2 k y0 y1 y2) (laws_FnExactLoseDisk.j2 (k + 1) y0 y1 y2))
 | 0 => ⟨fun _ _ _ _ _ _ _ _ _ r h => by simp [laws_FnExactLoseDisk.j0] at h, fun _ _ _ _ _ _ r h => by simp [laws_FnExactLoseDisk.j1] at h, fun _ _ _ r h => by simp [laws_FnExactLoseDisk.j2] at h⟩
 | k + 1 => by
  obtain ⟨ih0, ih1, ih2⟩ := laws_FnExactLoseDisk.mono_l k
  refine ⟨?_, ?_, ?_⟩
  ·intro y0 y1 y2 y3 y4 y5 y6 y7 y8
   unfold laws_FnExactLoseDisk.j0
   repeat' first
   | (with_reducible exact ih0 _ _ _ _ _ _ _ _ _)
   | (with_reducible exact ih1 _ _ _ _ _ _)
   | (with_reducible exact ih2 _ _ _)
   | (with_reducible exact impl_LoseDisk.mono _ _ _)
   | (with_reducible exact laws_eqDisk.mono _ _ _)
   | (with_reducible exact laws_eqIntS.mono _ _ _)
   | (with_reducible exact laws_heldDisk.mono _ _ _)
   | (with_reducible exact laws_markDisk.mono _ _ _)
   | (with_reducible exact laws_markIntS.mono _ _ _)
   | (with_reducible exact laws_szDisk.mono _ _ _)
   | (with_reducible exact laws_toDisk.mono _ _)
   | (with_reducible exact laws_toIntS.mono _ _)
   | (with_reducible exact spec_LoseDisk.mono _ _ _)
   | (with_reducible exact LeO.refl _)
   | (with_reducible exact LeO.none _)
   | (with_reducible refine LeO.ite ?_ ?_)
   | (with_reducible refine LeO.bind ?_ (fun _ => ?_))
   | exact ih0 _ _ _ _ _ _ _ _ _
   | exact ih1 _ _ _ _ _ _
   | exact ih2 _ _ _
   | exact impl_LoseDisk.mono _ _ _
   | exact laws_eqDisk.mono _ _ _
   | exact laws_eqIntS.mono _ _ _
   | exact laws_heldDisk.mono _ _ _
   | exact laws_markDisk.mono _ _ _
   | exact laws_markIntS.mono _ _ _
   | exact laws_szDisk.mono _ _ _
   | exact laws_toDisk.mono _ _
   | exact laws_toIntS.mono _ _
   | exact spec_LoseDisk.mono _ _ _
   | exact LeO.none _
   | refine LeO.ite ?_ ?_
   | refine LeO.bind ?_ (fun _ => ?_)
  ·intro y0 y1 y2 y3 y4 y5
   unfold laws_FnExactLoseDisk.j1
   repeat' first
   | (with_reducible exact ih0 _ _ _ _ _ _ _ _ _)
   | (with_reducible exact ih1 _ _ _ _ _ _)
   | (with_reducible exact ih2 _ _ _)
   | (with_reducible exact impl_LoseDisk.mono _ _ _)
   | (with_reducible exact laws_eqDisk.mono _ _ _)
   | (with_reducible exact laws_eqIntS.mono _ _ _)
   | (with_reducible exact laws_heldDisk.mono _ _ _)
   | (with_reducible exact laws_markDisk.mono _ _ _)
   | (with_reducible exact laws_markIntS.mono _ _ _)
   | (with_reducible exact laws_szDisk.mono _ _ _)
   | (with_reducible exact laws_toDisk.mono _ _)
   | (with_reducible exact laws_toIntS.mono _ _)
   | (with_reducible exact spec_LoseDisk.mono _ _ _)
   | (with_reducible exact LeO.refl _)
   | (with_reducible exact LeO.none _)
   | (with_reducible refine LeO.ite ?_ ?_)
   | (with_reducible refine LeO.bind ?_ (fun _ => ?_))
   | exact ih0 _ _ _ _ _ _ _ _ _
   | exact ih1 _ _ _ _ _ _
   | exact ih2 _ _ _
   | exact impl_LoseDisk.mono _ _ _
   | exact laws_eqDisk.mono _ _ _
   | exact laws_eqIntS.mono _ _ _
   | exact laws_heldDisk.mono _ _ _
   | exact laws_markDisk.mono _ _ _
   | exact laws_markIntS.mono _ _ _
   | exact laws_szDisk.mono _ _ _
   | exact laws_toDisk.mono _ _
   | exact laws_toIntS.mono _ _
   | exact spec_LoseDisk.mono _ _ _
   | exact LeO.none _
   | refine LeO.ite ?_ ?_
   | refine LeO.bind ?_ (fun _ => ?_)
  ·intro y0 y1 y2
   unfold laws_FnExactLoseDisk.j2
   repeat' first
   | (with_reducible exact ih0 _ _ _ _ _ _ _ _ _)
   | (with_reducible exact ih1 _ _ _ _ _ _)
   | (with_reducible exact ih2 _ _ _)
   | (with_reducible exact impl_LoseDisk.mono _ _ _)
   | (with_reducible exact laws_eqDisk.mono _ _ _)
   | (with_reducible exact laws_eqIntS.mono _ _ _)
   | (with_reducible exact laws_heldDisk.mono _ _ _)
   | (with_reducible exact laws_markDisk.mono _ _ _)
   | (with_reducible exact laws_markIntS.mono _ _ _)
   | (with_reducible exact laws_szDisk.mono _ _ _)
   | (with_reducible exact laws_toDisk.mono _ _)
   | (with_reducible exact laws_toIntS.mono _ _)
   | (with_reducible exact spec_LoseDisk.mono _ _ _)
   | (with_reducible exact LeO.refl _)
   | (with_reducible exact LeO.none _)
   | (with_reducible refine LeO.ite ?_ ?_)
   | (with_reducible refine LeO.bind ?_ (fun _ => ?_))
   | exact ih0 _ _ _ _ _ _ _ _ _
   | exact ih1 _ _ _ _ _ _
   | exact ih2 _ _ _
   | exact impl_LoseDisk.mono _ _ _
   | exact laws_eqDisk.mono _ _ _
   | exact laws_eqIntS.mono _ _ _
   | exact laws_heldDisk.mono _ _ _
   | exact laws_markDisk.mono _ _ _
   | exact laws_markIntS.mono _ _ _
   | exact laws_szDisk.mono _ _ _
   | exact laws_toDisk.mono _ _
   | exact laws_toIntS.mono _ _
   | exact spec_LoseDisk.mono _ _ _
   | exact LeO.none _
   | refine LeO.ite ?_ ?_
   | refine LeO.bind ?_ (fun _ => ?_)
theorem laws_FnExactLoseDisk.mono : ∀ a0 a1 k, LeO (laws_FnExactLoseDisk.f k a0 a1) (laws_FnExactLoseDisk.f (k + 1) a0 a1) := by
 intro a0 a1 k
 obtain ⟨ih0, ih1, ih2⟩ := laws_FnExactLoseDisk.mono_l k
 unfold laws_FnExactLoseDisk.f
 repeat' first
   | (with_reducible exact ih0 _ _ _ _ _ _ _ _ _)
   | (with_reducible exact ih1 _ _ _ _ _ _)
   | (with_reducible exact ih2 _ _ _)
   | (with_reducible exact impl_LoseDisk.mono _ _ _)
   | (with_reducible exact laws_eqDisk.mono _ _ _)
   | (with_reducible exact laws_eqIntS.mono _ _ _)
   | (with_reducible exact laws_heldDisk.mono _ _ _)
   | (with_reducible exact laws_markDisk.mono _ _ _)
   | (with_reducible exact laws_markIntS.mono _ _ _)
   | (with_reducible exact laws_szDisk.mono _ _ _)
   | (with_reducible exact laws_toDisk.mono _ _)
   | (with_reducible exact laws_toIntS.mono _ _)
   | (with_reducible exact spec_LoseDisk.mono _ _ _)
   | (with_reducible exact LeO.refl _)
   | (with_reducible exact LeO.none _)
   | (with_reducible refine LeO.ite ?_ ?_)
   | (with_reducible refine LeO.bind ?_ (fun _ => ?_))
   | exact ih0 _ _ _ _ _ _ _ _ _
   | exact ih1 _ _ _ _ _ _
   | exact ih2 _ _ _
   | exact impl_LoseDisk.mono _ _ _
   | exact laws_eqDisk.mono _ _ _
   | exact laws_eqIntS.mono _ _ _
   | exact laws_heldDisk.mono _ _ _
   | exact laws_markDisk.mono _ _ _
   | exact laws_markIntS.mono _ _ _
   | exact laws_szDisk.mono _ _ _
   | exact laws_toDisk.mono _ _
   | exact laws_toIntS.mono _ _
   | exact spec_LoseDisk.mono _ _ _
   | exact LeO.none _
   | refine LeO.ite ?_ ?_
   | refine LeO.bind ?_ (fun _ => ?_)
set_option maxHeartbeats 8000000 in
set_option maxRecDepth 100000 in
theorem laws_FnExactLoseDisk.calls (k : Nat) (A0_0 : Option Addr) (c0_0 : Nat) (l0_0 : List (S160)) (A1 : Option Addr) (c1 : Nat) (l1 : List Int) (r : Bool) (w : World) (hr0_0 : Kd.C k160 w A0_0 l0_0.length l0_0) (hc0_0 : l0_0.length ≤ c0_0) (hr1 : Kd.C (Kd.int .i64) w A1 l1.length l1) (hc1 : l1.length ≤ c1) (h : laws_FnExactLoseDisk.f k l0_0 l1 = some r) :
  Calls Try.prog 6 #[.agg #[.slice A0_0 l0_0.length c0_0], .slice A1 l1.length c1] w fun e w' => e = .returned (.bool r) ∧ Below w.heap.size w w' := by
 have hu64 := Try.underlying64
 have hu52 := Try.underlying52
 have HR0_0 := Aside0.mk hr0_0
 have HC0_0 := Aside0.mk hc0_0
 clear hr0_0 hc0_0
 have HR1 := Aside0.mk hr1
 have HC1 := Aside0.mk hc1
 clear hr1 hc1
 have HB := mk_ (Below.refl w.heap.size w)
 have H : (if (l1.length : Int) > 1048576 then (some true) else ((laws_szDisk.f k l0_0 1048576).bind fun t195 => (if t195 < 0 then (some true) else ((laws_toDisk.f k l0_0).bind fun t196 => ((laws_toIntS.f k l1).bind fun t199 => ((spec_LoseDisk.f k t196 t199).bind fun bt202 => ((laws_toDisk.f k l0_0).bind fun t207 => ((laws_toIntS.f k l1).bind fun t211 => ((impl_LoseDisk.f k t207 t211).bind fun bt214 => ((laws_eqDisk.f k bt214.1 bt202.1).bind fun t219 => (if t219 = true then (laws_FnExactLoseDisk.j0 k l1 bt202.2 t211 bt214.2 (bt214.2 != bt202.2) l0_0 bt202.1 t207 bt214.1) else (none)))))))))))) = some r := h
 clear h
 by_cases c3 : (l1.length : Int) > 1048576
 ·rw [if_pos c3] at H
  have c3b0 : decide (1048576 < (l1.length : Int)) = true := decide_eq_true c3
  have c3b1 : decide (1048576 < l1.length) = true := decide_eq_true (by omega)
  clear c3
  obtain rfl := Option.some.inj H
  go_enter Try.func6, Try.ntmps6
  go_wp2_with (first | ((with_reducible refine gate_dst (N := 2) rfl ?_); refine box_event ?hg (N := 2) ?hd (cs := #[.slice A0_0 l0_0.length c0_0]) (t := 64) ?hr ?_; (case hd => rfl); (case hg => rfl); (case hr => first | (go_simp; done) | (go_simp; rfl)); intro gb194 hg w4 hbox hb; have BK194 := mk_ (hbox); have GW194 : Aside0 (w.heap.size ≤ gb194) := bz_ hg; have GE194 : Aside0 (w.heap.size ≤ gb194) := bz_ hg; replace HB := bs_ HB hb; clear hb hbox hg))
  go_ret
  exact ⟨by first | rfl | (simp [errW_none, errW_some] <;> rfl) | (simp [*, errW_none, errW_some] <;> rfl), by repeat (first | (with_reducible first | exact HB.out | apply below_alloc | apply pw_below_drewN | apply below_drew1 | refine below_set ?_ GE194.out) | exact HB.out)⟩
 ·rw [if_neg c3] at H
  have c3b0 : decide (1048576 < (l1.length : Int)) = false := decide_eq_false c3
  have c3b1 : decide (1048576 < l1.length) = false := decide_eq_false (by omega)
  clear c3
  replace H := Option.bind_eq_some_iff.mp H
  obtain ⟨t195, A50, H⟩ := H
  replace H : (if t195 < 0 then (some true) else ((laws_toDisk.f k l0_0).bind fun t196 => ((laws_toIntS.f k l1).bind fun t199 => ((spec_LoseDisk.f k t196 t199).bind fun bt202 => ((laws_toDisk.f k l0_0).bind fun t207 => ((laws_toIntS.f k l1).bind fun t211 => ((impl_LoseDisk.f k t207 t211).bind fun bt214 => ((laws_eqDisk.f k bt214.1 bt202.1).bind fun t219 => (if t219 = true then (laws_FnExactLoseDisk.j0 k l1 bt202.2 t211 bt214.2 (bt214.2 != bt202.2) l0_0 bt202.1 t207 bt214.1) else (none)))))))))) = some r := H
  have A5 := Aside0.mk A50
  clear A50
  by_cases c6 : t195 < 0
  ·rw [if_pos c6] at H
   have c6b0 : decide (t195 < 0) = true := decide_eq_true c6
   clear c6
   obtain rfl := Option.some.inj H
   go_enter Try.func6, Try.ntmps6
   go_wp2_with (first | ((with_reducible refine gate_dst (N := 2) rfl ?_); refine box_event ?hg (N := 2) ?hd (cs := #[.slice A0_0 l0_0.length c0_0]) (t := 64) ?hr ?_; (case hd => rfl); (case hg => rfl); (case hr => first | (go_simp; done) | (go_simp; rfl)); intro gb194 hg w7 hbox hb; have BK194 := mk_ (hbox); have GW194 : Aside0 (w.heap.size ≤ gb194) := bz_ hg; have GE194 : Aside0 (w.heap.size ≤ gb194) := bz_ hg; replace HB := bs_ HB hb; clear hb hbox hg; have hcz8_0 : w7.cell? ⟨gb194, 0, none⟩ = some (.slice A0_0 l0_0.length c0_0) := bc_ BK194 0; have hfz8_0 := blk_frozen BK194.out 0) | ((with_reducible refine gate_callee (f := 36) rfl ?_); refine goesL_ (some 22) rfl rfl Try.func36 (by kernel_rfl) rfl #[.agg #[.slice A0_0 l0_0.length c0_0], .int .i64 1048576] rfl (by (try simp only [List.map_toArray, List.map_cons, List.map_nil]); first | done | rfl | (simp only [List.length_drop, List.length_take]; rfl)) ?_; (with_reducible refine (laws_szDisk.calls k _ _ l0_0 1048576 t195 _ ?side1 ?side2 A5.out).mono ?_); (case side1 => repeat (first | exact (Kd.C_below HR0_0.out HB.out) | (with_reducible refine Kd.C_alloc ?_ _) | (with_reducible refine Kd.C_drewN ?_ _) | (with_reducible refine Kd.C_drew ?_))); (case side2 => exact HC0_0.out); rintro e w9 ⟨rfl, hb⟩; refine ⟨_, rfl, ?_⟩; replace BK194 := bb_ BK194 hb; replace HB := bs_ HB hb; (try clear hb)))
   go_ret
   exact ⟨by first | rfl | (simp [errW_none, errW_some] <;> rfl) | (simp [*, errW_none, errW_some] <;> rfl), by repeat (first | (with_reducible first | exact HB.out | apply below_alloc | apply pw_below_drewN | apply below_drew1 | refine below_set ?_ GE194.out) | exact HB.out)⟩
  ·rw [if_neg c6] at H
   have c6b0 : decide (t195 < 0) = false := decide_eq_false c6
   clear c6
   replace H := Option.bind_eq_some_iff.mp H
   obtain ⟨t196, A100, H⟩ := H
   replace H : ((laws_toIntS.f k l1).bind fun t199 => ((spec_LoseDisk.f k t196 t199).bind fun bt202 => ((laws_toDisk.f k l0_0).bind fun t207 => ((laws_toIntS.f k l1).bind fun t211 => ((impl_LoseDisk.f k t207 t211).bind fun bt214 => ((laws_eqDisk.f k bt214.1 bt202.1).bind fun t219 => (if t219 = true then (laws_FnExactLoseDisk.j0 k l1 bt202.2 t211 bt214.2 (bt214.2 != bt202.2) l0_0 bt202.1 t207 bt214.1) else (none)))))))) = some r := H
   have A10 := Aside0.mk A100
   clear A100
   replace H := Option.bind_eq_some_iff.mp H
   obtain ⟨t199, A110, H⟩ := H
   replace H : ((spec_LoseDisk.f k t196 t199).bind fun bt202 => ((laws_toDisk.f k l0_0).bind fun t207 => ((laws_toIntS.f k l1).bind fun t211 => ((impl_LoseDisk.f k t207 t211).bind fun bt214 => ((laws_eqDisk.f k bt214.1 bt202.1).bind fun t219 => (if t219 = true then (laws_FnExactLoseDisk.j0 k l1 bt202.2 t211 bt214.2 (bt214.2 != bt202.2) l0_0 bt202.1 t207 bt214.1) else (none))))))) = some r := H
   have A11 := Aside0.mk A110
   clear A110
   replace H := Option.bind_eq_some_iff.mp H
   obtain ⟨⟨t202, t205⟩, A120, H⟩ := H
   replace H : ((laws_toDisk.f k l0_0).bind fun t207 => ((laws_toIntS.f k l1).bind fun t211 => ((impl_LoseDisk.f k t207 t211).bind fun bt214 => ((laws_eqDisk.f k bt214.1 t202).bind fun t219 => (if t219 = true then (laws_FnExactLoseDisk.j0 k l1 t205 t211 bt214.2 (bt214.2 != t205) l0_0 t202 t207 bt214.1) else (none)))))) = some r := H
   have A12 := Aside0.mk A120
   clear A120
   replace H := Option.bind_eq_some_iff.mp H
   obtain ⟨t207, A130, H⟩ := H
   replace H : ((laws_toIntS.f k l1).bind fun t211 => ((impl_LoseDisk.f k t207 t211).bind fun bt214 => ((laws_eqDisk.f k bt214.1 t202).bind fun t219 => (if t219 = true then (laws_FnExactLoseDisk.j0 k l1 t205 t211 bt214.2 (bt214.2 != t205) l0_0 t202 t207 bt214.1) else (none))))) = some r := H
   have A13 := Aside0.mk A130
   clear A130
   replace H := Option.bind_eq_some_iff.mp H
   obtain ⟨t211, A140, H⟩ := H
   replace H : ((impl_LoseDisk.f k t207 t211).bind fun bt214 => ((laws_eqDisk.f k bt214.1 t202).bind fun t219 => (if t219 = true then (laws_FnExactLoseDisk.j0 k l1 t205 t211 bt214.2 (bt214.2 != t205) l0_0 t202 t207 bt214.1) else (none)))) = some r := H
   have A14 := Aside0.mk A140
   clear A140
   replace H := Option.bind_eq_some_iff.mp H
   obtain ⟨⟨t214, t217⟩, A150, H⟩ := H
   replace H : ((laws_eqDisk.f k t214 t202).bind fun t219 => (if t219 = true then (laws_FnExactLoseDisk.j0 k l1 t205 t211 t217 (t217 != t205) l0_0 t202 t207 t214) else (none))) = some r := H
   have A15 := Aside0.mk A150
   clear A150
   have HC16 := Aside0.mk H
   clear H
   go_enter Try.func6, Try.ntmps6
   go_upto_region 11 with (first | ((with_reducible refine gate_dst (N := 2) rfl ?_); refine box_event ?hg (N := 2) ?hd (cs := #[.slice A0_0 l0_0.length c0_0]) (t := 64) ?hr ?_; (case hd => rfl); (case hg => rfl); (case hr => first | (go_simp; done) | (go_simp; rfl)); intro gb194 hg w17 hbox hb; have BK194 := mk_ (hbox); have GW194 : Aside0 (w.heap.size ≤ gb194) := bz_ hg; have GE194 : Aside0 (w.heap.size ≤ gb194) := bz_ hg; replace HB := bs_ HB hb; clear hb hbox hg; have hcz18_0 : w17.cell? ⟨gb194, 0, none⟩ = some (.slice A0_0 l0_0.length c0_0) := bc_ BK194 0; have hfz18_0 := blk_frozen BK194.out 0) | ((with_reducible refine gate_callee (f := 36) rfl ?_); refine goesL_ (some 22) rfl rfl Try.func36 (by kernel_rfl) rfl #[.agg #[.slice A0_0 l0_0.length c0_0], .int .i64 1048576] rfl (by (try simp only [List.map_toArray, List.map_cons, List.map_nil]); first | done | rfl | (simp only [List.length_drop, List.length_take]; rfl)) ?_; (with_reducible refine (laws_szDisk.calls k _ _ l0_0 1048576 t195 _ ?side1 ?side2 A5.out).mono ?_); (case side1 => repeat (first | exact (Kd.C_below HR0_0.out HB.out) | (with_reducible refine Kd.C_alloc ?_ _) | (with_reducible refine Kd.C_drewN ?_ _) | (with_reducible refine Kd.C_drew ?_))); (case side2 => exact HC0_0.out); rintro e w19 ⟨rfl, hb⟩; refine ⟨_, rfl, ?_⟩; replace BK194 := bb_ BK194 hb; replace HB := bs_ HB hb; (try clear hb); (try clear hk); have hcz20_0 : w19.cell? ⟨gb194, 0, none⟩ = some (.slice A0_0 l0_0.length c0_0) := bc_ BK194 0; have hfz20_0 := blk_frozen BK194.out 0) | ((with_reducible refine gate_callee (f := 38) rfl ?_); refine goesL_ (some 27) rfl rfl Try.func38 (by kernel_rfl) rfl #[.agg #[.slice A0_0 l0_0.length c0_0]] rfl (by (try simp only [List.map_toArray, List.map_cons, List.map_nil]); first | done | rfl | (simp only [List.length_drop, List.length_take]; rfl)) ?_; (with_reducible refine (laws_toDisk.calls k _ _ l0_0 t196 _ ?side1 ?side2 A10.out).mono ?_); (case side1 => repeat (first | exact (Kd.C_below HR0_0.out HB.out) | (with_reducible refine Kd.C_alloc ?_ _) | (with_reducible refine Kd.C_drewN ?_ _) | (with_reducible refine Kd.C_drew ?_))); (case side2 => exact HC0_0.out); rintro e w21 ⟨v197, rfl, ho0, hb⟩; refine ⟨_, rfl, ?_⟩; have HO198 := mk_ (Kd.R_lower ho0 (below_size (bw_ HB))); replace BK194 := bb_ BK194 hb; replace HB := bs_ HB hb; (try clear hb); (try clear hk); (try clear ho0)) | ((with_reducible refine gate_callee (f := 39) rfl ?_); refine goesL_ (some 29) rfl rfl Try.func39 (by kernel_rfl) rfl #[.slice A1 l1.length c1] rfl (by (try simp only [List.map_toArray, List.map_cons, List.map_nil]); first | done | rfl | (simp only [List.length_drop, List.length_take]; rfl)) ?_; (with_reducible refine (laws_toIntS.calls k _ _ l1 t199 _ ?side1 ?side2 A11.out).mono ?_); (case side1 => repeat (first | exact (Kd.C_below HR1.out HB.out) | (with_reducible refine Kd.C_alloc ?_ _) | (with_reducible refine Kd.C_drewN ?_ _) | (with_reducible refine Kd.C_drew ?_))); (case side2 => exact HC1.out); rintro e w22 ⟨v200, rfl, ho0, hb⟩; refine ⟨_, rfl, ?_⟩; have HO201 := mk_ (Kd.R_lower ho0 (below_size (bw_ HB))); replace HO198 := rb_ HO198 hb; replace BK194 := bb_ BK194 hb; replace HB := bs_ HB hb; (try clear hb); (try clear hk); (try clear ho0); obtain ⟨Ao23, co23, eo23⟩ := Kd.R_slice HO198.out; subst eo23; obtain ⟨Ao24, co24, eo24⟩ := Kd.R_slice HO201.out; subst eo24) | ((with_reducible refine gate_callee (f := 37) rfl ?_); refine goesL_ (some 30) rfl rfl Try.func37 (by kernel_rfl) rfl #[.agg #[.slice Ao23 t196.length co23], .slice Ao24 t199.length co24] rfl (by (try simp only [List.map_toArray, List.map_cons, List.map_nil]); first | done | rfl | (simp only [List.length_drop, List.length_take]; rfl)) ?_; (with_reducible refine (spec_LoseDisk.calls k _ _ t196 _ _ t199 t202 t205 _ ?side1 ?side2 ?side3 ?side4 A12.out).mono ?_); (case side1 => repeat (first | exact (Kd.R_reads' HO198.out).2.2 | (with_reducible refine Kd.C_alloc ?_ _) | (with_reducible refine Kd.C_drewN ?_ _) | (with_reducible refine Kd.C_drew ?_))); (case side2 => exact (Kd.R_reads' HO198.out).2.1); (case side3 => repeat (first | exact (Kd.R_reads' HO201.out).2.2 | (with_reducible refine Kd.C_alloc ?_ _) | (with_reducible refine Kd.C_drewN ?_ _) | (with_reducible refine Kd.C_drew ?_))); (case side4 => exact (Kd.R_reads' HO201.out).2.1); rintro e w25 ⟨v203, rfl, ho0, hb⟩; refine ⟨_, rfl, ?_⟩; have HO204 := mk_ (Kd.R_lower (Kd.R_new' ho0 (Kd.R_lt (rp_ HO198))) (below_size (bw_ HB))); replace HO198 := mk_ (Kd.R_elder' (rp_ HO198) (Kd.R_base ho0) hb); replace HO201 := rb_ HO201 hb; replace BK194 := bb_ BK194 hb; replace HB := bs_ HB hb; (try clear hb); (try clear hk); (try clear ho0)) | ((with_reducible refine gate_dst (N := 6) rfl ?_); refine box_event ?hg (N := 6) ?hd (cs := #[.slice none 0 0]) (t := 52) ?hr ?_; (case hd => rfl); (case hg => rfl); (case hr => first | (go_simp; done) | (go_simp; rfl)); intro gb206 hg w26 hbox hb; have BK206 := mk_ (hbox); have GW206 : Aside0 (w.heap.size ≤ gb206) := bz_ hg; have GE206 : Aside0 (w.heap.size ≤ gb206) := bz_ hg; have NB194_206 : Aside0 (gb194 ≠ gb206) := bl_ BK194 hg; have NB206_194 : Aside0 (gb206 ≠ gb194) := bg_ BK194 hg; replace HO198 := rb_ HO198 hb; replace HO201 := rb_ HO201 hb; replace HO204 := rb_ HO204 hb; replace BK194 := bb_ BK194 hb; replace HB := bs_ HB hb; clear hb hbox hg; obtain ⟨Ao27, co27, eo27⟩ := Kd.R_slice HO204.out; subst eo27; have hnb28 := NB206_194.out; have hnc28 := NB194_206.out; have hcz29_0 : w26.cell? ⟨gb206, 0, none⟩ = some (.slice none 0 0) := bc_ BK206 0; have hfz29_0 := blk_frozen BK206.out 0; have hcz30_0 : w26.cell? ⟨gb194, 0, none⟩ = some (.slice A0_0 l0_0.length c0_0) := bc_ BK194 0; have hfz30_0 := blk_frozen BK194.out 0) | ((with_reducible refine gate_callee (f := 38) rfl ?_); refine goesL_ (some 34) rfl rfl Try.func38 (by kernel_rfl) rfl #[.agg #[.slice A0_0 l0_0.length c0_0]] rfl (by (try simp only [List.map_toArray, List.map_cons, List.map_nil]); first | done | rfl | (simp only [List.length_drop, List.length_take]; rfl)) ?_; (with_reducible refine (laws_toDisk.calls k _ _ l0_0 t207 _ ?side1 ?side2 A13.out).mono ?_); (case side1 => exact Kd.C_below HR0_0.out (bw_ HB)); (case side2 => exact HC0_0.out); rintro e w31 ⟨v208, rfl, ho0, hb⟩; refine ⟨_, rfl, ?_⟩; have HO209 := mk_ (Kd.R_lower (Kd.R_new' (Kd.R_new' ho0 (Kd.R_lt (by (with_reducible repeat (first | apply Kd.R_alloc | apply Kd.R_drewN | apply Kd.R_drew)); exact (Kd.R_mono (Kd.R_far (p := ⟨gb206, 0, none⟩) (Kd.R_types HO198.out BK206.out (by decide)) (fun _ hk => hk.2) (.slice Ao27 t202.length co27)) (fun _ h_ => h_.1))))) (Kd.R_lt (by (with_reducible repeat (first | apply Kd.R_alloc | apply Kd.R_drewN | apply Kd.R_drew)); exact (Kd.R_mono (Kd.R_far (p := ⟨gb206, 0, none⟩) (Kd.R_types HO204.out BK206.out (by decide)) (fun _ hk => hk.2) (.slice Ao27 t202.length co27)) (fun _ h_ => h_.1))))) (below_size (bw_ HB))); replace HO198 := mk_ (Kd.R_elder' (by (with_reducible repeat (first | apply Kd.R_alloc | apply Kd.R_drewN | apply Kd.R_drew)); exact (Kd.R_mono (Kd.R_far (p := ⟨gb206, 0, none⟩) (Kd.R_types HO198.out BK206.out (by decide)) (fun _ hk => hk.2) (.slice Ao27 t202.length co27)) (fun _ h_ => h_.1))) (Kd.R_base ho0) hb); replace HO201 := mk_ (Kd.R_below (by (with_reducible repeat (first | apply Kd.R_alloc | apply Kd.R_drewN | apply Kd.R_drew)); exact (Kd.R_mono (Kd.R_far (p := ⟨gb206, 0, none⟩) (Kd.R_types HO201.out BK206.out (by decide)) (fun _ hk => hk.2) (.slice Ao27 t202.length co27)) (fun _ h_ => h_.1))) hb); replace HO204 := mk_ (Kd.R_elder' (by (with_reducible repeat (first | apply Kd.R_alloc | apply Kd.R_drewN | apply Kd.R_drew)); exact (Kd.R_mono (Kd.R_far (p := ⟨gb206, 0, none⟩) (Kd.R_types HO204.out BK206.out (by decide)) (fun _ hk => hk.2) (.slice Ao27 t202.length co27)) (fun _ h_ => h_.1))) (Kd.R_base ho0) hb); replace BK194 := mk_ (blk_below (g := gb194) (o := .cells #[.slice A0_0 l0_0.length c0_0] 64 (0, 0)) (by (with_reducible repeat (first | refine blk_drewN ?_ _ | refine blk_drew ?_ | refine blk_alloc ?_ _)); refine blk_far ?_ NB194_206.out _; (with_reducible repeat (first | refine blk_drewN ?_ _ | refine blk_drew ?_ | refine blk_alloc ?_ _)); exact BK194.out) hb); replace BK206 := mk_ (blk_below (g := gb206) (o := .cells #[.slice Ao27 t202.length co27] 52 (0, 0)) (by (with_reducible repeat (first | refine blk_drewN ?_ _ | refine blk_drew ?_ | refine blk_alloc ?_ _)); refine blk_put (cs := #[.slice none 0 0]) ?_ 0 _ rfl; (with_reducible repeat (first | refine blk_drewN ?_ _ | refine blk_drew ?_ | refine blk_alloc ?_ _)); exact BK206.out) hb); replace HB := bs_ HB hb; (try clear hb); (try clear hk); (try clear ho0)) | ((with_reducible refine gate_dst (N := 8) rfl ?_); refine box_event ?hg (N := 8) ?hd (cs := #[.slice none 0 0]) (t := 52) ?hr ?_; (case hd => rfl); (case hg => rfl); (case hr => first | (go_simp; done) | (go_simp; rfl)); intro gb210 hg w32 hbox hb; have BK210 := mk_ (hbox); have GW210 : Aside0 (w.heap.size ≤ gb210) := bz_ hg; have GE210 : Aside0 (w.heap.size ≤ gb210) := bz_ hg; have NB194_210 : Aside0 (gb194 ≠ gb210) := bl_ BK194 hg; have NB210_194 : Aside0 (gb210 ≠ gb194) := bg_ BK194 hg; have NB206_210 : Aside0 (gb206 ≠ gb210) := bl_ BK206 hg; have NB210_206 : Aside0 (gb210 ≠ gb206) := bg_ BK206 hg; replace HO198 := rb_ HO198 hb; replace HO201 := rb_ HO201 hb; replace HO204 := rb_ HO204 hb; replace HO209 := rb_ HO209 hb; replace BK194 := bb_ BK194 hb; replace BK206 := bb_ BK206 hb; replace HB := bs_ HB hb; clear hb hbox hg; obtain ⟨Ao33, co33, eo33⟩ := Kd.R_slice HO209.out; subst eo33; have hnb34 := NB210_194.out; have hnc34 := NB194_210.out; have hnb35 := NB210_206.out; have hnc35 := NB206_210.out; have hcz36_0 : w32.cell? ⟨gb210, 0, none⟩ = some (.slice none 0 0) := bc_ BK210 0; have hfz36_0 := blk_frozen BK210.out 0) | ((with_reducible refine gate_callee (f := 39) rfl ?_); refine goesL_ (some 36) rfl rfl Try.func39 (by kernel_rfl) rfl #[.slice A1 l1.length c1] rfl (by (try simp only [List.map_toArray, List.map_cons, List.map_nil]); first | done | rfl | (simp only [List.length_drop, List.length_take]; rfl)) ?_; (with_reducible refine (laws_toIntS.calls k _ _ l1 t211 _ ?side1 ?side2 A14.out).mono ?_); (case side1 => exact Kd.C_below HR1.out (bw_ HB)); (case side2 => exact HC1.out); rintro e w37 ⟨v212, rfl, ho0, hb⟩; refine ⟨_, rfl, ?_⟩; have HO213 := mk_ (Kd.R_lower (Kd.R_new' ho0 (Kd.R_lt (by (with_reducible repeat (first | apply Kd.R_alloc | apply Kd.R_drewN | apply Kd.R_drew)); exact (Kd.R_mono (Kd.R_far (p := ⟨gb210, 0, none⟩) (Kd.R_types HO201.out BK210.out (by decide)) (fun _ hk => hk.2) (.slice Ao33 t207.length co33)) (fun _ h_ => h_.1))))) (below_size (bw_ HB))); replace HO198 := mk_ (Kd.R_below (by (with_reducible repeat (first | apply Kd.R_alloc | apply Kd.R_drewN | apply Kd.R_drew)); exact (Kd.R_mono (Kd.R_far (p := ⟨gb210, 0, none⟩) (Kd.R_types HO198.out BK210.out (by decide)) (fun _ hk => hk.2) (.slice Ao33 t207.length co33)) (fun _ h_ => h_.1))) hb); replace HO201 := mk_ (Kd.R_elder' (by (with_reducible repeat (first | apply Kd.R_alloc | apply Kd.R_drewN | apply Kd.R_drew)); exact (Kd.R_mono (Kd.R_far (p := ⟨gb210, 0, none⟩) (Kd.R_types HO201.out BK210.out (by decide)) (fun _ hk => hk.2) (.slice Ao33 t207.length co33)) (fun _ h_ => h_.1))) (Kd.R_base ho0) hb); replace HO204 := mk_ (Kd.R_below (by (with_reducible repeat (first | apply Kd.R_alloc | apply Kd.R_drewN | apply Kd.R_drew)); exact (Kd.R_mono (Kd.R_far (p := ⟨gb210, 0, none⟩) (Kd.R_types HO204.out BK210.out (by decide)) (fun _ hk => hk.2) (.slice Ao33 t207.length co33)) (fun _ h_ => h_.1))) hb); replace HO209 := mk_ (Kd.R_below (by (with_reducible repeat (first | apply Kd.R_alloc | apply Kd.R_drewN | apply Kd.R_drew)); exact (Kd.R_mono (Kd.R_far (p := ⟨gb210, 0, none⟩) (Kd.R_types HO209.out BK210.out (by decide)) (fun _ hk => hk.2) (.slice Ao33 t207.length co33)) (fun _ h_ => h_.1))) hb); replace BK194 := mk_ (blk_below (g := gb194) (o := .cells #[.slice A0_0 l0_0.length c0_0] 64 (0, 0)) (by (with_reducible repeat (first | refine blk_drewN ?_ _ | refine blk_drew ?_ | refine blk_alloc ?_ _)); refine blk_far ?_ NB194_210.out _; (with_reducible repeat (first | refine blk_drewN ?_ _ | refine blk_drew ?_ | refine blk_alloc ?_ _)); exact BK194.out) hb); replace BK206 := mk_ (blk_below (g := gb206) (o := .cells #[.slice Ao27 t202.length co27] 52 (0, 0)) (by (with_reducible repeat (first | refine blk_drewN ?_ _ | refine blk_drew ?_ | refine blk_alloc ?_ _)); refine blk_far ?_ NB206_210.out _; (with_reducible repeat (first | refine blk_drewN ?_ _ | refine blk_drew ?_ | refine blk_alloc ?_ _)); exact BK206.out) hb); replace BK210 := mk_ (blk_below (g := gb210) (o := .cells #[.slice Ao33 t207.length co33] 52 (0, 0)) (by (with_reducible repeat (first | refine blk_drewN ?_ _ | refine blk_drew ?_ | refine blk_alloc ?_ _)); refine blk_put (cs := #[.slice none 0 0]) ?_ 0 _ rfl; (with_reducible repeat (first | refine blk_drewN ?_ _ | refine blk_drew ?_ | refine blk_alloc ?_ _)); exact BK210.out) hb); replace HB := bs_ HB hb; (try clear hb); (try clear hk); (try clear ho0); have hcz38_0 : w37.cell? ⟨gb210, 0, none⟩ = some (.slice Ao33 t207.length co33) := bc_ BK210 0; have hfz38_0 := blk_frozen BK210.out 0; obtain ⟨Ao39, co39, eo39⟩ := Kd.R_slice HO213.out; subst eo39) | ((with_reducible refine gate_callee (f := 31) rfl ?_); refine goesL_ (some 40) rfl rfl Try.func31 (by kernel_rfl) rfl #[.agg #[.slice Ao33 t207.length co33], .slice Ao39 t211.length co39] rfl (by (try simp only [List.map_toArray, List.map_cons, List.map_nil]); first | done | rfl | (simp only [List.length_drop, List.length_take]; rfl)) ?_; (with_reducible refine (impl_LoseDisk.calls k _ _ t207 _ _ t211 t214 t217 _ ?side1 ?side2 ?side3 ?side4 A15.out).mono ?_); (case side1 => repeat (first | exact (Kd.R_reads' HO209.out).2.2 | (with_reducible refine Kd.C_alloc ?_ _) | (with_reducible refine Kd.C_drewN ?_ _) | (with_reducible refine Kd.C_drew ?_))); (case side2 => exact (Kd.R_reads' HO209.out).2.1); (case side3 => repeat (first | exact (Kd.R_reads' HO213.out).2.2 | (with_reducible refine Kd.C_alloc ?_ _) | (with_reducible refine Kd.C_drewN ?_ _) | (with_reducible refine Kd.C_drew ?_))); (case side4 => exact (Kd.R_reads' HO213.out).2.1); rintro e w40 ⟨v215, rfl, ho0, hb⟩; refine ⟨_, rfl, ?_⟩; have HO216 := mk_ (Kd.R_lower (Kd.R_new' (Kd.R_new' (Kd.R_new' ho0 (Kd.R_lt (rp_ HO198))) (Kd.R_lt (rp_ HO204))) (Kd.R_lt (rp_ HO209))) (below_size (bw_ HB))); replace HO198 := mk_ (Kd.R_elder' (rp_ HO198) (Kd.R_base ho0) hb); replace HO201 := rb_ HO201 hb; replace HO204 := mk_ (Kd.R_elder' (rp_ HO204) (Kd.R_base ho0) hb); replace HO209 := mk_ (Kd.R_elder' (rp_ HO209) (Kd.R_base ho0) hb); replace HO213 := rb_ HO213 hb; replace BK194 := bb_ BK194 hb; replace BK206 := bb_ BK206 hb; replace BK210 := bb_ BK210 hb; replace HB := bs_ HB hb; (try clear hb); (try clear hk); (try clear ho0)) | ((with_reducible refine gate_dst (N := 10) rfl ?_); refine box_event ?hg (N := 10) ?hd (cs := #[.slice none 0 0]) (t := 52) ?hr ?_; (case hd => rfl); (case hg => rfl); (case hr => first | (go_simp; done) | (go_simp; rfl)); intro gb218 hg w41 hbox hb; have BK218 := mk_ (hbox); have GW218 : Aside0 (w.heap.size ≤ gb218) := bz_ hg; have GE218 : Aside0 (w.heap.size ≤ gb218) := bz_ hg; have NB194_218 : Aside0 (gb194 ≠ gb218) := bl_ BK194 hg; have NB218_194 : Aside0 (gb218 ≠ gb194) := bg_ BK194 hg; have NB206_218 : Aside0 (gb206 ≠ gb218) := bl_ BK206 hg; have NB218_206 : Aside0 (gb218 ≠ gb206) := bg_ BK206 hg; have NB210_218 : Aside0 (gb210 ≠ gb218) := bl_ BK210 hg; have NB218_210 : Aside0 (gb218 ≠ gb210) := bg_ BK210 hg; replace HO198 := rb_ HO198 hb; replace HO201 := rb_ HO201 hb; replace HO204 := rb_ HO204 hb; replace HO209 := rb_ HO209 hb; replace HO213 := rb_ HO213 hb; replace HO216 := rb_ HO216 hb; replace BK194 := bb_ BK194 hb; replace BK206 := bb_ BK206 hb; replace BK210 := bb_ BK210 hb; replace HB := bs_ HB hb; clear hb hbox hg; obtain ⟨Ao42, co42, eo42⟩ := Kd.R_slice HO216.out; subst eo42; have hnb43 := NB218_194.out; have hnc43 := NB194_218.out; have hnb44 := NB218_206.out; have hnc44 := NB206_218.out; have hnb45 := NB218_210.out; have hnc45 := NB210_218.out; have hcz46_0 : w41.cell? ⟨gb218, 0, none⟩ = some (.slice none 0 0) := bc_ BK218 0; have hfz46_0 := blk_frozen BK218.out 0))
   (try simp only [Act.put, sia_, scz_, scs_])
   go_cut [51] (fun v51 wc => ∃ (kq : Nat) (x51_15 : Bool), v51 = .bool x51_15 ∧ Aside0 (laws_FnExactLoseDisk.j0 kq l1 t205 t211 t217 x51_15 l0_0 t202 t207 t214 = some r) ∧ Aside0 (kq ≤ k) ∧ Aside0 (Kd.R (Kd.int .i64) 3 wc w.heap.size (fun _ => True) (.slice Ao39 t211.length co39) t211) ∧ Aside0 (Kd.R k60 60 wc w.heap.size (fun k_ => some k_ ≠ ((.slice Ao33 t207.length co33) : Value).ownBlock ∧ some k_ ≠ ((.slice Ao42 t214.length co42) : Value).ownBlock) (.slice Ao27 t202.length co27) t202) ∧ Aside0 (Kd.R k60 60 wc w.heap.size (fun k_ => some k_ ≠ ((.slice Ao27 t202.length co27) : Value).ownBlock ∧ some k_ ≠ ((.slice Ao42 t214.length co42) : Value).ownBlock) (.slice Ao33 t207.length co33) t207) ∧ Aside0 (Kd.R k60 60 wc w.heap.size (fun k_ => some k_ ≠ ((.slice Ao27 t202.length co27) : Value).ownBlock ∧ some k_ ≠ ((.slice Ao33 t207.length co33) : Value).ownBlock) (.slice Ao42 t214.length co42) t214) ∧ Aside0 (wc.heap[gb194]? = some (.cells #[(.slice A0_0 l0_0.length c0_0)] 64 (0, 0))) ∧ Aside0 (wc.heap[gb206]? = some (.cells #[(.slice Ao27 t202.length co27)] 52 (0, 0))) ∧ Aside0 (wc.heap[gb210]? = some (.cells #[(.slice Ao33 t207.length co33)] 52 (0, 0))) ∧ Aside0 (wc.heap[gb218]? = some (.cells #[(.slice Ao42 t214.length co42)] 52 (0, 0))) ∧ Aside0 (Below w.heap.size w wc))
   case first =>
    have H := HC16.out
    clear HC16
    replace H := Option.bind_eq_some_iff.mp H
    obtain ⟨t219, A470, H⟩ := H
    replace H : (if t219 = true then (laws_FnExactLoseDisk.j0 k l1 t205 t211 t217 (t217 != t205) l0_0 t202 t207 t214) else (none)) = some r := H
    have A47 := Aside0.mk A470
    clear A470
    by_cases c48 : t219 = true
    ·subst c48
     have H1 : (laws_FnExactLoseDisk.j0 k l1 t205 t211 t217 (t217 != t205) l0_0 t202 t207 t214) = some r := by rw [if_pos rfl] at H; exact H
     clear H
     have H := H1
     clear H1
     have H' := Aside0.mk H
     clear H
     have hnb49 := NB218_194.out
     have hnc49 := NB194_218.out
     have hnb50 := NB218_206.out
     have hnc50 := NB206_218.out
     have hnb51 := NB218_210.out
     have hnc51 := NB210_218.out
     have hcz52_0 : w41.cell? ⟨gb218, 0, none⟩ = some (.slice none 0 0) := bc_ BK218 0
     have hfz52_0 := blk_frozen BK218.out 0
     have hnb53 := NB206_194.out
     have hnc53 := NB194_206.out
     have hnb54 := NB206_210.out
     have hnc54 := NB210_206.out
     have hcz55_0 : w41.cell? ⟨gb206, 0, none⟩ = some (.slice Ao27 t202.length co27) := bc_ BK206 0
     have hfz55_0 := blk_frozen BK206.out 0
     go_wp2_with (first | ((with_reducible refine gate_callee (f := 40) rfl ?_); refine goesL_ (some 45) rfl rfl Try.func40 (by kernel_rfl) rfl #[.agg #[.slice Ao42 t214.length co42], .agg #[.slice Ao27 t202.length co27]] rfl (by (try simp only [List.map_toArray, List.map_cons, List.map_nil]); first | done | rfl | (simp only [List.length_drop, List.length_take]; rfl)) ?_; (with_reducible refine (laws_eqDisk.calls k _ _ t214 _ _ t202 true _ ?side1 ?side2 ?side3 ?side4 A47.out).mono ?_); (case side1 => refine (Kd.R_reads' (e := 60) (base := w.heap.size) (ok := fun k_ => (((True ∧ some k_ ≠ (.slice Ao23 t196.length co23 : Value).ownBlock) ∧ some k_ ≠ (.slice Ao27 t202.length co27 : Value).ownBlock) ∧ some k_ ≠ (.slice Ao33 t207.length co33 : Value).ownBlock)) (n := t214.length) (c := co42) ?_).2.2; exact (by (with_reducible repeat (first | apply Kd.R_alloc | apply Kd.R_drewN | apply Kd.R_drew)); exact (Kd.R_mono (Kd.R_far (p := ⟨gb218, 0, none⟩) (Kd.R_types HO216.out BK218.out (by decide)) (fun _ hk => hk.2) (.slice Ao42 t214.length co42)) (fun _ h_ => h_.1)))); (case side2 => exact (Kd.R_reads' HO216.out).2.1); (case side3 => refine (Kd.R_reads' (e := 60) (base := w.heap.size) (ok := fun k_ => (((True ∧ some k_ ≠ (.slice Ao23 t196.length co23 : Value).ownBlock) ∧ some k_ ≠ (.slice Ao33 t207.length co33 : Value).ownBlock) ∧ some k_ ≠ (.slice Ao42 t214.length co42 : Value).ownBlock)) (n := t202.length) (c := co27) ?_).2.2; exact (by (with_reducible repeat (first | apply Kd.R_alloc | apply Kd.R_drewN | apply Kd.R_drew)); exact (Kd.R_mono (Kd.R_far (p := ⟨gb218, 0, none⟩) (Kd.R_types HO204.out BK218.out (by decide)) (fun _ hk => hk.2) (.slice Ao42 t214.length co42)) (fun _ h_ => h_.1)))); (case side4 => exact (Kd.R_reads' HO204.out).2.1); rintro e w56 ⟨rfl, hb⟩; refine ⟨_, rfl, ?_⟩; replace HO198 := mk_ (Kd.R_below (by (with_reducible repeat (first | apply Kd.R_alloc | apply Kd.R_drewN | apply Kd.R_drew)); exact (Kd.R_mono (Kd.R_far (p := ⟨gb218, 0, none⟩) (Kd.R_types HO198.out BK218.out (by decide)) (fun _ hk => hk.2) (.slice Ao42 t214.length co42)) (fun _ h_ => h_.1))) hb); replace HO201 := mk_ (Kd.R_below (by (with_reducible repeat (first | apply Kd.R_alloc | apply Kd.R_drewN | apply Kd.R_drew)); exact (Kd.R_mono (Kd.R_far (p := ⟨gb218, 0, none⟩) (Kd.R_types HO201.out BK218.out (by decide)) (fun _ hk => hk.2) (.slice Ao42 t214.length co42)) (fun _ h_ => h_.1))) hb); replace HO204 := mk_ (Kd.R_below (by (with_reducible repeat (first | apply Kd.R_alloc | apply Kd.R_drewN | apply Kd.R_drew)); exact (Kd.R_mono (Kd.R_far (p := ⟨gb218, 0, none⟩) (Kd.R_types HO204.out BK218.out (by decide)) (fun _ hk => hk.2) (.slice Ao42 t214.length co42)) (fun _ h_ => h_.1))) hb); replace HO209 := mk_ (Kd.R_below (by (with_reducible repeat (first | apply Kd.R_alloc | apply Kd.R_drewN | apply Kd.R_drew)); exact (Kd.R_mono (Kd.R_far (p := ⟨gb218, 0, none⟩) (Kd.R_types HO209.out BK218.out (by decide)) (fun _ hk => hk.2) (.slice Ao42 t214.length co42)) (fun _ h_ => h_.1))) hb); replace HO213 := mk_ (Kd.R_below (by (with_reducible repeat (first | apply Kd.R_alloc | apply Kd.R_drewN | apply Kd.R_drew)); exact (Kd.R_mono (Kd.R_far (p := ⟨gb218, 0, none⟩) (Kd.R_types HO213.out BK218.out (by decide)) (fun _ hk => hk.2) (.slice Ao42 t214.length co42)) (fun _ h_ => h_.1))) hb); replace HO216 := mk_ (Kd.R_below (by (with_reducible repeat (first | apply Kd.R_alloc | apply Kd.R_drewN | apply Kd.R_drew)); exact (Kd.R_mono (Kd.R_far (p := ⟨gb218, 0, none⟩) (Kd.R_types HO216.out BK218.out (by decide)) (fun _ hk => hk.2) (.slice Ao42 t214.length co42)) (fun _ h_ => h_.1))) hb); replace BK194 := mk_ (blk_below (g := gb194) (o := .cells #[.slice A0_0 l0_0.length c0_0] 64 (0, 0)) (by (with_reducible repeat (first | refine blk_drewN ?_ _ | refine blk_drew ?_ | refine blk_alloc ?_ _)); refine blk_far ?_ NB194_218.out _; (with_reducible repeat (first | refine blk_drewN ?_ _ | refine blk_drew ?_ | refine blk_alloc ?_ _)); exact BK194.out) hb); replace BK206 := mk_ (blk_below (g := gb206) (o := .cells #[.slice Ao27 t202.length co27] 52 (0, 0)) (by (with_reducible repeat (first | refine blk_drewN ?_ _ | refine blk_drew ?_ | refine blk_alloc ?_ _)); refine blk_far ?_ NB206_218.out _; (with_reducible repeat (first | refine blk_drewN ?_ _ | refine blk_drew ?_ | refine blk_alloc ?_ _)); exact BK206.out) hb); replace BK210 := mk_ (blk_below (g := gb210) (o := .cells #[.slice Ao33 t207.length co33] 52 (0, 0)) (by (with_reducible repeat (first | refine blk_drewN ?_ _ | refine blk_drew ?_ | refine blk_alloc ?_ _)); refine blk_far ?_ NB210_218.out _; (with_reducible repeat (first | refine blk_drewN ?_ _ | refine blk_drew ?_ | refine blk_alloc ?_ _)); exact BK210.out) hb); replace BK218 := mk_ (blk_below (g := gb218) (o := .cells #[.slice Ao42 t214.length co42] 52 (0, 0)) (by (with_reducible repeat (first | refine blk_drewN ?_ _ | refine blk_drew ?_ | refine blk_alloc ?_ _)); refine blk_put (cs := #[.slice none 0 0]) ?_ 0 _ rfl; (with_reducible repeat (first | refine blk_drewN ?_ _ | refine blk_drew ?_ | refine blk_alloc ?_ _)); exact BK218.out) hb); replace HB := bs_ HB hb; (try clear hb); (try clear hk)))
     go_meet
     case rel => exact ⟨_, ((t217 != t205)), (by first | rfl | (simp; done) | (simp [*]; done)), H', ⟨by first | omega | exact Nat.le_refl _⟩, ⟨by (with_reducible repeat (first | apply Kd.R_alloc | apply Kd.R_drewN | apply Kd.R_drew)); exact Kd.R_mono HO213.out (fun _ hk => trivial)⟩, ⟨by (with_reducible repeat (first | apply Kd.R_alloc | apply Kd.R_drewN | apply Kd.R_drew)); exact Kd.R_mono HO204.out (fun _ hk => ⟨hk.1.2, hk.2⟩)⟩, ⟨by (with_reducible repeat (first | apply Kd.R_alloc | apply Kd.R_drewN | apply Kd.R_drew)); exact Kd.R_mono HO209.out (fun _ hk => ⟨hk.1.2, hk.2⟩)⟩, ⟨by (with_reducible repeat (first | apply Kd.R_alloc | apply Kd.R_drewN | apply Kd.R_drew)); exact Kd.R_mono HO216.out (fun _ hk => ⟨hk.1.2, hk.2⟩)⟩, ⟨by (with_reducible repeat (first | refine blk_drewN ?_ _ | refine blk_drew ?_ | refine blk_alloc ?_ _)); exact BK194.out⟩, ⟨by (with_reducible repeat (first | refine blk_drewN ?_ _ | refine blk_drew ?_ | refine blk_alloc ?_ _)); exact BK206.out⟩, ⟨by (with_reducible repeat (first | refine blk_drewN ?_ _ | refine blk_drew ?_ | refine blk_alloc ?_ _)); exact BK210.out⟩, ⟨by (with_reducible repeat (first | refine blk_drewN ?_ _ | refine blk_drew ?_ | refine blk_alloc ?_ _)); exact BK218.out⟩, ⟨by repeat (first | (with_reducible first | exact HB.out | apply below_alloc | apply pw_below_drewN | apply below_drew1 | refine below_set ?_ GE194.out | refine below_set ?_ GE206.out | refine below_set ?_ GE210.out | refine below_set ?_ GE218.out) | exact HB.out)⟩⟩
    ·replace c48 := Bool.eq_false_iff.mpr c48
     subst c48
     have H1 : (none) = some r := by rw [if_neg (show ¬ (false = true) by decide)] at H; exact H
     clear H
     have H := H1
     clear H1
     exact absurd H (by simp)
   case rest =>
    clear HC16
    try clear c1
    try clear c2
    try clear p2
    try clear c3
    try clear c3b0
    try clear c3b1
    try clear c4
    try clear c5
    try clear c6
    try clear c6b0
    try clear c28
    try clear c31
    try clear c34
    try clear c35
    try clear c36
    try clear c37
    try clear c38
    try clear c39
    try clear c40
    try clear c43
    try clear c44
    try clear c45
    try clear c48
    try clear c49
    try clear c50
    try clear c51
    try clear c53
    try clear c54
    try clear hcz18_0
    try clear hcz20_0
    try clear hcz29_0
    try clear hcz30_0
    try clear hcz36_0
    try clear hcz38_0
    try clear hcz46_0
    try clear hcz52_0
    try clear hcz55_0
    try clear hcz8_0
    try clear hfz18_0
    try clear hfz20_0
    try clear hfz29_0
    try clear hfz30_0
    try clear hfz36_0
    try clear hfz38_0
    try clear hfz46_0
    try clear hfz52_0
    try clear hfz55_0
    try clear hfz8_0
    obtain ⟨kq, x51_15, rfl, HA, HJ15, HO_9, HO_207000, HO_211000, HO_219000, BK194, BK206, BK210, BK218, HB⟩ := hcut
    cases kq with
    | zero => exact absurd HA.out (by simp [laws_FnExactLoseDisk.j0])
    | succ kj15 =>
     have H := HA.out
     clear HA
     simp only [laws_FnExactLoseDisk.j0] at H
     by_cases c57 : x51_15 = true
     ·subst c57
      have H1 : (none) = some r := by rw [if_pos rfl] at H; exact H
      clear H
      have H := H1
      clear H1
      exact absurd H (by simp)
     ·replace c57 := Bool.eq_false_iff.mpr c57
      subst c57
      have H1 : ((laws_toDisk.f kj15 l0_0).bind fun t220 => ((laws_eqDisk.f kj15 t207 t220).bind fun t223 => (if t223 = true then ((laws_toIntS.f kj15 l1).bind fun t224 => ((laws_eqIntS.f kj15 t211 t224).bind fun t227 => (if t227 = true then ((laws_markDisk.f kj15 t207 1).bind fun bt228 => ((laws_markIntS.f kj15 t211 bt228.1).bind fun bt230 => (if bt230.1 < 0 then (none) else ((laws_eqDisk.f kj15 t214 t202).bind fun t232 => (if t232 = true then (laws_FnExactLoseDisk.j1 kj15 l1 t205 (t217 != t205) l0_0 t202 t214) else (none)))))) else (none)))) else (none)))) = some r := by rw [if_neg (show ¬ (false = true) by decide)] at H; exact H
      clear H
      have H := H1
      clear H1
      replace H := Option.bind_eq_some_iff.mp H
      obtain ⟨t220, A580, H⟩ := H
      replace H : ((laws_eqDisk.f kj15 t207 t220).bind fun t223 => (if t223 = true then ((laws_toIntS.f kj15 l1).bind fun t224 => ((laws_eqIntS.f kj15 t211 t224).bind fun t227 => (if t227 = true then ((laws_markDisk.f kj15 t207 1).bind fun bt228 => ((laws_markIntS.f kj15 t211 bt228.1).bind fun bt230 => (if bt230.1 < 0 then (none) else ((laws_eqDisk.f kj15 t214 t202).bind fun t232 => (if t232 = true then (laws_FnExactLoseDisk.j1 kj15 l1 t205 (t217 != t205) l0_0 t202 t214) else (none)))))) else (none)))) else (none))) = some r := H
      have A58 := Aside0.mk A580
      clear A580
      replace H := Option.bind_eq_some_iff.mp H
      obtain ⟨t223, A590, H⟩ := H
      replace H : (if t223 = true then ((laws_toIntS.f kj15 l1).bind fun t224 => ((laws_eqIntS.f kj15 t211 t224).bind fun t227 => (if t227 = true then ((laws_markDisk.f kj15 t207 1).bind fun bt228 => ((laws_markIntS.f kj15 t211 bt228.1).bind fun bt230 => (if bt230.1 < 0 then (none) else ((laws_eqDisk.f kj15 t214 t202).bind fun t232 => (if t232 = true then (laws_FnExactLoseDisk.j1 kj15 l1 t205 (t217 != t205) l0_0 t202 t214) else (none)))))) else (none)))) else (none)) = some r := H
      have A59 := Aside0.mk A590
      clear A590
      by_cases c60 : t223 = true
      ·subst c60
       have H1 : ((laws_toIntS.f kj15 l1).bind fun t224 => ((laws_eqIntS.f kj15 t211 t224).bind fun t227 => (if t227 = true then ((laws_markDisk.f kj15 t207 1).bind fun bt228 => ((laws_markIntS.f kj15 t211 bt228.1).bind fun bt230 => (if bt230.1 < 0 then (none) else ((laws_eqDisk.f kj15 t214 t202).bind fun t232 => (if t232 = true then (laws_FnExactLoseDisk.j1 kj15 l1 t205 (t217 != t205) l0_0 t202 t214) else (none)))))) else (none)))) = some r := by rw [if_pos rfl] at H; exact H
       clear H
       have H := H1
       clear H1
       replace H := Option.bind_eq_some_iff.mp H
       obtain ⟨t224, A610, H⟩ := H
       replace H : ((laws_eqIntS.f kj15 t211 t224).bind fun t227 => (if t227 = true then ((laws_markDisk.f kj15 t207 1).bind fun bt228 => ((laws_markIntS.f kj15 t211 bt228.1).bind fun bt230 => (if bt230.1 < 0 then (none) else ((laws_eqDisk.f kj15 t214 t202).bind fun t232 => (if t232 = true then (laws_FnExactLoseDisk.j1 kj15 l1 t205 (t217 != t205) l0_0 t202 t214) else (none)))))) else (none))) = some r := H
       have A61 := Aside0.mk A610
       clear A610
       replace H := Option.bind_eq_some_iff.mp H
       obtain ⟨t227, A620, H⟩ := H
       replace H : (if t227 = true then ((laws_markDisk.f kj15 t207 1).bind fun bt228 => ((laws_markIntS.f kj15 t211 bt228.1).bind fun bt230 => (if bt230.1 < 0 then (none) else ((laws_eqDisk.f kj15 t214 t202).bind fun t232 => (if t232 = true then (laws_FnExactLoseDisk.j1 kj15 l1 t205 (t217 != t205) l0_0 t202 t214) else (none)))))) else (none)) = some r := H
       have A62 := Aside0.mk A620
       clear A620
       by_cases c63 : t227 = true
       ·subst c63
        have H1 : ((laws_markDisk.f kj15 t207 1).bind fun bt228 => ((laws_markIntS.f kj15 t211 bt228.1).bind fun bt230 => (if bt230.1 < 0 then (none) else ((laws_eqDisk.f kj15 t214 t202).bind fun t232 => (if t232 = true then (laws_FnExactLoseDisk.j1 kj15 l1 t205 (t217 != t205) l0_0 t202 t214) else (none)))))) = some r := by rw [if_pos rfl] at H; exact H
        clear H
        have H := H1
        clear H1
        replace H := Option.bind_eq_some_iff.mp H
        obtain ⟨⟨t228, t229⟩, A640, H⟩ := H
        replace H : ((laws_markIntS.f kj15 t211 t228).bind fun bt230 => (if bt230.1 < 0 then (none) else ((laws_eqDisk.f kj15 t214 t202).bind fun t232 => (if t232 = true then (laws_FnExactLoseDisk.j1 kj15 l1 t205 (t217 != t205) l0_0 t202 t214) else (none))))) = some r := H
        have A64 := Aside0.mk A640
        clear A640
        replace H := Option.bind_eq_some_iff.mp H
        obtain ⟨⟨t230, t231⟩, A650, H⟩ := H
        replace H : (if t230 < 0 then (none) else ((laws_eqDisk.f kj15 t214 t202).bind fun t232 => (if t232 = true then (laws_FnExactLoseDisk.j1 kj15 l1 t205 (t217 != t205) l0_0 t202 t214) else (none)))) = some r := H
        have A65 := Aside0.mk A650
        clear A650
        have HC66 := Aside0.mk H
        clear H
        try go_wp2
        have n0_ := mk_ (Kd.R_drew HO_9.out)
        have n1_ := mk_ (Kd.R_drew HO_207000.out)
        have n2_ := mk_ (Kd.R_drew HO_211000.out)
        have n3_ := mk_ (Kd.R_drew HO_219000.out)
        have n4_ := mk_ (blk_drew BK194.out)
        have n5_ := mk_ (blk_drew BK206.out)
        have n6_ := mk_ (blk_drew BK210.out)
        have n7_ := mk_ (blk_drew BK218.out)
        have n8_ := mk_ (below_drew1 HB.out)
        clear HO_9; clear HO_207000; clear HO_211000; clear HO_219000; clear BK194; clear BK206; clear BK210; clear BK218; clear HB; have HO_9 := n0_; have HO_207000 := n1_; have HO_211000 := n2_; have HO_219000 := n3_; have BK194 := n4_; have BK206 := n5_; have BK210 := n6_; have BK218 := n7_; have HB := n8_; clear n0_ n1_ n2_ n3_ n4_ n5_ n6_ n7_ n8_
        refine start_ (n := 5) (S := fun w' => w'.cell? ⟨gb210, 0, none⟩ = some (.slice Ao33 t207.length co33) ∧ w'.cell? ⟨gb194, 0, none⟩ = some (.slice A0_0 l0_0.length c0_0)) (ds := []) #[false, false, false, false, false] (by kernel_rfl) rfl rfl ⟨bc_ BK210 0, bc_ BK194 0⟩ (fun hHeld => ?_)
        generalize wc.drew = w67 at HO_9 HO_207000 HO_211000 HO_219000 BK194 BK206 BK210 BK218 HB hHeld ⊢
        refine take_ (i := 0) (N := some 52) (v := ?_) (a' := ?_) #[true, false, false, false, false] rfl rfl (by kernel_rfl) (fun _ _ _ h => h) (Or.inl ⟨by rfl, ?_⟩) hHeld ?_ ?_
        rotate_left
        ·rintro w' ⟨s0, s1⟩
         go_simp
         with_reducible rfl
        rotate_left
        ·simp only [Act.put, sia_, scz_, scs_, i64_w, i32_w]
         rfl
        refine take_ (i := 1) (N := some 53) (v := ?_) (a' := ?_) #[true, true, false, false, false] rfl rfl (by kernel_rfl) (fun _ _ _ h => h) (Or.inl ⟨by rfl, ?_⟩) hHeld ?_ ?_
        rotate_left
        ·rintro w' ⟨s0, s1⟩
         go_simp
         with_reducible rfl
        rotate_left
        ·simp only [Act.put, sia_, scz_, scs_, i64_w, i32_w]
         rfl
        refine one_ (i := 2) (N := some 54) #[true, true, true, false, false] rfl rfl (by kernel_rfl) (by decide) (fun K hK => ?_)
        refine goes_ Try.func38 (by kernel_rfl) rfl #[.agg #[.slice A0_0 l0_0.length c0_0]] (by rfl) rfl rfl (by (try simp only [List.map_toArray, List.map_cons, List.map_nil]); first | done | rfl | (simp only [List.length_drop, List.length_take]; rfl)) ?_
        with_reducible refine (laws_toDisk.calls kj15 _ _ l0_0 t220 _ ?side1 ?side2 A58.out).mono ?_
        (case side1 => repeat (first | exact (Kd.C_below HR0_0.out HB.out) | (with_reducible refine Kd.C_alloc ?_ _) | (with_reducible refine Kd.C_drewN ?_ _) | (with_reducible refine Kd.C_drew ?_)))
        (case side2 => exact HC0_0.out)
        rintro e w68 ⟨v221, rfl, ho0, hb⟩
        refine ⟨_, rfl, ?_⟩
        have n0_ := rb_ HO_9 hb
        have n1_ := mk_ (Kd.R_elder' (rp_ HO_207000) (Kd.R_base ho0) hb)
        have n2_ := mk_ (Kd.R_elder' (rp_ HO_211000) (Kd.R_base ho0) hb)
        have n3_ := mk_ (Kd.R_elder' (rp_ HO_219000) (Kd.R_base ho0) hb)
        have n4_ := mk_ (Kd.R_lower (Kd.R_new' (Kd.R_new' (Kd.R_new' ho0 (Kd.R_lt (rp_ HO_207000))) (Kd.R_lt (rp_ HO_211000))) (Kd.R_lt (rp_ HO_219000))) (below_size (bw_ HB)))
        have n5_ := bb_ BK194 hb; have n6_ := bb_ BK206 hb; have n7_ := bb_ BK210 hb; have n8_ := bb_ BK218 hb
        have n9_ := bs_ HB hb
        clear HO_9; clear HO_207000; clear HO_211000; clear HO_219000; clear BK194; clear BK206; clear BK210; clear BK218; clear HB; have HO_9 := n0_; have HO_207000 := n1_; have HO_211000 := n2_; have HO_219000 := n3_; have HO222 := n4_; have BK194 := n5_; have BK206 := n6_; have BK210 := n7_; have BK218 := n8_; have HB := n9_; clear n0_ n1_ n2_ n3_ n4_ n5_ n6_ n7_ n8_ n9_; (try clear hb); (try clear hb2); (try clear hk); (try clear hi); (try clear ho0)
        obtain ⟨Ao69, co69, eo69⟩ := Kd.R_slice HO222.out
        (first | subst eo69 | (injection eo69 with f1_ f2_ f3_; have f4_ := f1_.symm; have f5_ := f3_.symm; clear f1_ f2_ f3_; subst f4_; subst f5_))
        refine hK.out _ _ ⟨bc_ BK210 0, bc_ BK194 0⟩ (fun hHeld => ?_)
        clear hK K
        refine norm_ (a' := ?_) ?_ ?_
        rotate_left
        ·show Act.put _ (some 54) _ = _
         simp only [Act.put, sia_, scz_, scs_, i64_w, i32_w]
         rfl
        refine one_ (i := 3) (N := some 55) #[true, true, true, true, false] rfl rfl (by kernel_rfl) (by decide) (fun K hK => ?_)
        refine goes_ Try.func40 (by kernel_rfl) rfl #[.agg #[.slice Ao33 t207.length co33], .agg #[.slice Ao69 t220.length co69]] (by rfl) rfl rfl (by (try simp only [List.map_toArray, List.map_cons, List.map_nil]); first | done | rfl | (simp only [List.length_drop, List.length_take]; rfl)) ?_
        with_reducible refine (laws_eqDisk.calls kj15 _ _ t207 _ _ t220 true _ ?side1 ?side2 ?side3 ?side4 A59.out).mono ?_
        (case side1 => repeat (first | exact (Kd.R_reads' HO_211000.out).2.2 | (with_reducible refine Kd.C_alloc ?_ _) | (with_reducible refine Kd.C_drewN ?_ _) | (with_reducible refine Kd.C_drew ?_)))
        (case side2 => exact (Kd.R_reads' HO_211000.out).2.1)
        (case side3 => repeat (first | exact (Kd.R_reads' HO222.out).2.2 | (with_reducible refine Kd.C_alloc ?_ _) | (with_reducible refine Kd.C_drewN ?_ _) | (with_reducible refine Kd.C_drew ?_)))
        (case side4 => exact (Kd.R_reads' HO222.out).2.1)
        rintro e w70 ⟨rfl, hb⟩
        refine ⟨_, rfl, ?_⟩
        have n0_ := rb_ HO_9 hb
        have n1_ := rb_ HO_207000 hb
        have n2_ := rb_ HO_211000 hb
        have n3_ := rb_ HO_219000 hb
        have n4_ := rb_ HO222 hb
        have n5_ := bb_ BK194 hb; have n6_ := bb_ BK206 hb; have n7_ := bb_ BK210 hb; have n8_ := bb_ BK218 hb
        have n9_ := bs_ HB hb
        clear HO_9; clear HO_207000; clear HO_211000; clear HO_219000; clear HO222; clear BK194; clear BK206; clear BK210; clear BK218; clear HB; have HO_9 := n0_; have HO_207000 := n1_; have HO_211000 := n2_; have HO_219000 := n3_; have HO222 := n4_; have BK194 := n5_; have BK206 := n6_; have BK210 := n7_; have BK218 := n8_; have HB := n9_; clear n0_ n1_ n2_ n3_ n4_ n5_ n6_ n7_ n8_ n9_; (try clear hb); (try clear hb2); (try clear hk); (try clear hi)
        refine hK.out _ _ ⟨bc_ BK210 0, bc_ BK194 0⟩ (fun hHeld => ?_)
        clear hK K
        refine norm_ (a' := ?_) ?_ ?_
        rotate_left
        ·show Act.put _ (some 55) _ = _
         simp only [Act.put, sia_, scz_, scs_, i64_w, i32_w]
         rfl
        refine pure_ (i := 4) (N := some 56) (v := ?_) (a' := ?_) #[true, true, true, true, true] rfl rfl (by kernel_rfl) (fun _ _ _ h => h) (Or.inl ⟨by rfl, ?_⟩) ?_ ?_
        rotate_left
        ·intro w'
         go_simp
         with_reducible rfl
        rotate_left
        ·simp only [Act.put, sia_, scz_, scs_, i64_w, i32_w]
         rfl
        refine done_ (by kernel_rfl) ?_
        go_upto_region 20 with (first | ((with_reducible refine gate_callee (f := 39) rfl ?_); refine goesL_ (some 59) rfl rfl Try.func39 (by kernel_rfl) rfl #[.slice A1 l1.length c1] rfl (by (try simp only [List.map_toArray, List.map_cons, List.map_nil]); first | done | rfl | (simp only [List.length_drop, List.length_take]; rfl)) ?_; (with_reducible refine (laws_toIntS.calls kj15 _ _ l1 t224 _ ?side1 ?side2 A61.out).mono ?_); (case side1 => repeat (first | exact (Kd.C_below HR1.out HB.out) | (with_reducible refine Kd.C_alloc ?_ _) | (with_reducible refine Kd.C_drewN ?_ _) | (with_reducible refine Kd.C_drew ?_))); (case side2 => exact HC1.out); rintro e w71 ⟨v225, rfl, ho0, hb⟩; refine ⟨_, rfl, ?_⟩; have HO226 := mk_ (Kd.R_lower (Kd.R_new' ho0 (Kd.R_lt (rp_ HO_9))) (below_size (bw_ HB))); replace HO_9 := mk_ (Kd.R_elder' (rp_ HO_9) (Kd.R_base ho0) hb); replace HO_207000 := rb_ HO_207000 hb; replace HO_211000 := rb_ HO_211000 hb; replace HO_219000 := rb_ HO_219000 hb; replace HO222 := rb_ HO222 hb; replace BK194 := bb_ BK194 hb; replace BK206 := bb_ BK206 hb; replace BK210 := bb_ BK210 hb; replace BK218 := bb_ BK218 hb; replace HB := bs_ HB hb; (try clear hb); (try clear ho0); obtain ⟨Ao72, co72, eo72⟩ := Kd.R_slice HO226.out; subst eo72) | ((with_reducible refine gate_callee (f := 41) rfl ?_); refine goesL_ (some 60) rfl rfl Try.func41 (by kernel_rfl) rfl #[.slice Ao39 t211.length co39, .slice Ao72 t224.length co72] rfl (by (try simp only [List.map_toArray, List.map_cons, List.map_nil]); first | done | rfl | (simp only [List.length_drop, List.length_take]; rfl)) ?_; (with_reducible refine (laws_eqIntS.calls kj15 _ _ t211 _ _ t224 true _ ?side1 ?side2 ?side3 ?side4 A62.out).mono ?_); (case side1 => repeat (first | exact (Kd.R_reads' HO_9.out).2.2 | (with_reducible refine Kd.C_alloc ?_ _) | (with_reducible refine Kd.C_drewN ?_ _) | (with_reducible refine Kd.C_drew ?_))); (case side2 => exact (Kd.R_reads' HO_9.out).2.1); (case side3 => repeat (first | exact (Kd.R_reads' HO226.out).2.2 | (with_reducible refine Kd.C_alloc ?_ _) | (with_reducible refine Kd.C_drewN ?_ _) | (with_reducible refine Kd.C_drew ?_))); (case side4 => exact (Kd.R_reads' HO226.out).2.1); rintro e w' ⟨rfl, ⟨nd, rfl⟩⟩; refine ⟨_, rfl, ?_⟩; have hnb73 := NB210_194.out; have hnc73 := NB194_210.out; have hnb74 := NB210_206.out; have hnc74 := NB206_210.out; have hnb75 := NB210_218.out; have hnc75 := NB218_210.out; have hcz76_0 : w71.cell? ⟨gb210, 0, none⟩ = some (.slice Ao33 t207.length co33) := bc_ BK210 0; have hfz76_0 := blk_frozen BK210.out 0) | ((with_reducible refine gate_callee (f := 42) rfl ?_); refine goesL_ (some 64) rfl rfl Try.func42 (by kernel_rfl) rfl #[.agg #[.slice Ao33 t207.length co33], .int .i64 1] rfl (by (try simp only [List.map_toArray, List.map_cons, List.map_nil]); first | done | rfl | (simp only [List.length_drop, List.length_take]; rfl)) ?_; (with_reducible refine (laws_markDisk.calls kj15 (fun k_ => some k_ = (.slice Ao33 t207.length co33 : Value).ownBlock) (.slice Ao33 t207.length co33) t207 1 t228 t229 w _ ?side1 ?side2 A64.out).mono ?_); (case side1 => repeat (first | (with_reducible first | exact HB.out | apply below_alloc | apply pw_below_drewN | apply below_drew1 | refine below_set ?_ GE194.out | refine below_set ?_ GE206.out | refine below_set ?_ GE210.out | refine below_set ?_ GE218.out) | exact HB.out)); (case side2 => exact Kd.R_tight rfl HO_211000.out); rintro e w77 ⟨rfl, hy0, hb, hkp⟩; refine ⟨_, rfl, ?_⟩; have n0_ := mk_ (Kd.R_mono (ok' := fun k_ => some k_ ≠ (.slice Ao72 t224.length co72 : Value).ownBlock) (Kd.R_keptB ((Kd.R_apart' HO_9.out (Kd.R_typed HO_211000.out) (by decide))) hkp (fun k_ hk_ hs_ => (hk_.2) hs_)) (fun k_ hk_ => hk_.1.1.2)); have n1_ := mk_ (Kd.R_mono (ok' := fun k_ => some k_ ≠ (.slice Ao33 t207.length co33 : Value).ownBlock ∧ some k_ ≠ (.slice Ao42 t214.length co42 : Value).ownBlock ∧ some k_ ≠ (.slice Ao69 t220.length co69 : Value).ownBlock) (Kd.R_keptB (HO_207000.out) hkp (fun k_ hk_ hs_ => (hk_.1.1) hs_)) (fun k_ hk_ => ⟨hk_.1.1.1, hk_.1.1.2, hk_.1.2⟩)); have n2_ := mk_ (Kd.R_reok rfl hy0 (fun k_ e_ => HO_211000.out.1 k_ e_)); have n3_ := mk_ (Kd.R_mono (ok' := fun k_ => some k_ ≠ (.slice Ao27 t202.length co27 : Value).ownBlock ∧ some k_ ≠ (.slice Ao33 t207.length co33 : Value).ownBlock ∧ some k_ ≠ (.slice Ao69 t220.length co69 : Value).ownBlock) (Kd.R_keptB (HO_219000.out) hkp (fun k_ hk_ hs_ => (hk_.1.2) hs_)) (fun k_ hk_ => ⟨hk_.1.1.1, hk_.1.1.2, hk_.1.2⟩)); have n4_ := mk_ (blk_kept (bp_ BK194) hkp (fun hs_ => (fun e_ => (Kd.R_ne HO_211000.out BK194.out (by decide)) e_) hs_)); have n5_ := mk_ (blk_kept (bp_ BK206) hkp (fun hs_ => (fun e_ => (Kd.R_ne HO_211000.out BK206.out (by decide)) e_) hs_)); have n6_ := mk_ (blk_kept (bp_ BK210) hkp (fun hs_ => (fun e_ => (Kd.R_ne HO_211000.out BK210.out (by decide)) e_) hs_)); have n7_ := mk_ (blk_kept (bp_ BK218) hkp (fun hs_ => (fun e_ => (Kd.R_ne HO_211000.out BK218.out (by decide)) e_) hs_)); have n8_ := mk_ (Kd.R_mono (ok' := fun k_ => some k_ ≠ (.slice Ao27 t202.length co27 : Value).ownBlock ∧ some k_ ≠ (.slice Ao33 t207.length co33 : Value).ownBlock ∧ some k_ ≠ (.slice Ao42 t214.length co42 : Value).ownBlock) (Kd.R_keptB (HO222.out) hkp (fun k_ hk_ hs_ => (hk_.1.2) hs_)) (fun k_ hk_ => ⟨hk_.1.1.1.2, hk_.1.1.2, hk_.1.2⟩)); have n9_ := mk_ (Kd.R_mono (ok' := fun k_ => some k_ ≠ (.slice Ao39 t211.length co39 : Value).ownBlock) (Kd.R_keptB ((Kd.R_apart' HO226.out (Kd.R_typed HO_211000.out) (by decide))) hkp (fun k_ hk_ hs_ => (hk_.2) hs_)) (fun k_ hk_ => hk_.1.1.2)); have n10_ := mk_ (hb); clear HO_9; clear HO_207000; clear HO_211000; clear HO_219000; clear BK194; clear BK206; clear BK210; clear BK218; clear HO222; clear HO226; clear HB; have HO_9 := n0_; have HO_207000 := n1_; have HO_211000 := n2_; have HO_219000 := n3_; have BK194 := n4_; have BK206 := n5_; have BK210 := n6_; have BK218 := n7_; have HO222 := n8_; have HO226 := n9_; have HB := n10_; clear n0_ n1_ n2_ n3_ n4_ n5_ n6_ n7_ n8_ n9_ n10_; (try clear hb); (try clear hkp); (try clear hy0)) | ((with_reducible refine gate_callee (f := 43) rfl ?_); refine goesL_ (some 67) rfl rfl Try.func43 (by kernel_rfl) rfl #[.slice Ao39 t211.length co39, .int .i64 t228] rfl (by (try simp only [List.map_toArray, List.map_cons, List.map_nil]); first | done | rfl | (simp only [List.length_drop, List.length_take]; rfl)) ?_; (with_reducible refine (laws_markIntS.calls kj15 (fun k_ => some k_ = (.slice Ao39 t211.length co39 : Value).ownBlock) (.slice Ao39 t211.length co39) t211 t228 t230 t231 w _ ?side1 ?side2 A65.out).mono ?_); (case side1 => repeat (first | (with_reducible first | exact HB.out | apply below_alloc | apply pw_below_drewN | apply below_drew1 | refine below_set ?_ GE194.out | refine below_set ?_ GE206.out | refine below_set ?_ GE210.out | refine below_set ?_ GE218.out) | exact HB.out)); (case side2 => exact Kd.R_tight rfl HO_9.out); rintro e w78 ⟨rfl, hy0, hb, hkp⟩; refine ⟨_, rfl, ?_⟩; have n0_ := mk_ (Kd.R_reok rfl hy0 (fun k_ e_ => HO_9.out.1 k_ e_)); have n1_ := mk_ (Kd.R_mono (ok' := fun k_ => some k_ ≠ (.slice Ao33 t207.length co33 : Value).ownBlock ∧ some k_ ≠ (.slice Ao42 t214.length co42 : Value).ownBlock ∧ some k_ ≠ (.slice Ao69 t220.length co69 : Value).ownBlock) (Kd.R_keptB ((Kd.R_apart' HO_207000.out (Kd.R_typed HO_9.out) (by decide))) hkp (fun k_ hk_ hs_ => (hk_.2) hs_)) (fun k_ hk_ => ⟨hk_.1.1.1, hk_.1.1.2.1, hk_.1.1.2.2⟩)); have n2_ := mk_ (Kd.R_mono (ok' := fun k_ => some k_ ≠ (.slice Ao27 t202.length co27 : Value).ownBlock ∧ some k_ ≠ (.slice Ao42 t214.length co42 : Value).ownBlock ∧ some k_ ≠ (.slice Ao69 t220.length co69 : Value).ownBlock) (Kd.R_keptB ((Kd.R_apart' HO_211000.out (Kd.R_typed HO_9.out) (by decide))) hkp (fun k_ hk_ hs_ => (hk_.2) hs_)) (fun k_ hk_ => ⟨hk_.1.1.1.1, hk_.1.1.1.2, hk_.1.1.2⟩)); have n3_ := mk_ (Kd.R_mono (ok' := fun k_ => some k_ ≠ (.slice Ao27 t202.length co27 : Value).ownBlock ∧ some k_ ≠ (.slice Ao33 t207.length co33 : Value).ownBlock ∧ some k_ ≠ (.slice Ao69 t220.length co69 : Value).ownBlock) (Kd.R_keptB ((Kd.R_apart' HO_219000.out (Kd.R_typed HO_9.out) (by decide))) hkp (fun k_ hk_ hs_ => (hk_.2) hs_)) (fun k_ hk_ => ⟨hk_.1.1.1, hk_.1.1.2.1, hk_.1.1.2.2⟩)); have n4_ := mk_ (blk_kept (bp_ BK194) hkp (fun hs_ => (fun e_ => (Kd.R_ne HO_9.out BK194.out (by decide)) e_) hs_)); have n5_ := mk_ (blk_kept (bp_ BK206) hkp (fun hs_ => (fun e_ => (Kd.R_ne HO_9.out BK206.out (by decide)) e_) hs_)); have n6_ := mk_ (blk_kept (bp_ BK210) hkp (fun hs_ => (fun e_ => (Kd.R_ne HO_9.out BK210.out (by decide)) e_) hs_)); have n7_ := mk_ (blk_kept (bp_ BK218) hkp (fun hs_ => (fun e_ => (Kd.R_ne HO_9.out BK218.out (by decide)) e_) hs_)); have n8_ := mk_ (Kd.R_mono (ok' := fun k_ => some k_ ≠ (.slice Ao27 t202.length co27 : Value).ownBlock ∧ some k_ ≠ (.slice Ao33 t207.length co33 : Value).ownBlock ∧ some k_ ≠ (.slice Ao42 t214.length co42 : Value).ownBlock) (Kd.R_keptB ((Kd.R_apart' HO222.out (Kd.R_typed HO_9.out) (by decide))) hkp (fun k_ hk_ hs_ => (hk_.2) hs_)) (fun k_ hk_ => ⟨hk_.1.1.1, hk_.1.1.2.1, hk_.1.1.2.2⟩)); have n9_ := mk_ (Kd.R_mono (ok' := fun k_ => some k_ ≠ (.slice Ao39 t211.length co39 : Value).ownBlock) (Kd.R_keptB (HO226.out) hkp (fun k_ hk_ hs_ => (hk_) hs_)) (fun k_ hk_ => hk_.1)); have n10_ := mk_ (hb); clear HO_9; clear HO_207000; clear HO_211000; clear HO_219000; clear BK194; clear BK206; clear BK210; clear BK218; clear HO222; clear HO226; clear HB; have HO_9 := n0_; have HO_207000 := n1_; have HO_211000 := n2_; have HO_219000 := n3_; have BK194 := n4_; have BK206 := n5_; have BK210 := n6_; have BK218 := n7_; have HO222 := n8_; have HO226 := n9_; have HB := n10_; clear n0_ n1_ n2_ n3_ n4_ n5_ n6_ n7_ n8_ n9_ n10_; (try clear hb); (try clear hkp); (try clear hy0)))
        (try simp only [Act.put, sia_, scz_, scs_])
        go_cut [80] (fun v80 wc => ∃ (kq : Nat) (x80_65 : Bool), v80 = .bool x80_65 ∧ Aside0 (laws_FnExactLoseDisk.j1 kq l1 t205 x80_65 l0_0 t202 t214 = some r) ∧ Aside0 (kq ≤ kj15) ∧ Aside0 (Kd.R k60 60 wc w.heap.size (fun k_ => some k_ ≠ ((.slice Ao33 t207.length co33) : Value).ownBlock ∧ some k_ ≠ ((.slice Ao42 t214.length co42) : Value).ownBlock) (.slice Ao27 t202.length co27) t202) ∧ Aside0 (Kd.R k60 60 wc w.heap.size (fun k_ => some k_ ≠ ((.slice Ao27 t202.length co27) : Value).ownBlock ∧ some k_ ≠ ((.slice Ao42 t214.length co42) : Value).ownBlock) (.slice Ao33 t207.length co33) t229) ∧ Aside0 (Kd.R k60 60 wc w.heap.size (fun k_ => some k_ ≠ ((.slice Ao27 t202.length co27) : Value).ownBlock ∧ some k_ ≠ ((.slice Ao33 t207.length co33) : Value).ownBlock) (.slice Ao42 t214.length co42) t214) ∧ Aside0 (wc.heap[gb194]? = some (.cells #[(.slice A0_0 l0_0.length c0_0)] 64 (0, 0))) ∧ Aside0 (wc.heap[gb206]? = some (.cells #[(.slice Ao27 t202.length co27)] 52 (0, 0))) ∧ Aside0 (wc.heap[gb210]? = some (.cells #[(.slice Ao33 t207.length co33)] 52 (0, 0))) ∧ Aside0 (wc.heap[gb218]? = some (.cells #[(.slice Ao42 t214.length co42)] 52 (0, 0))) ∧ Aside0 (Below w.heap.size w wc))
        case first =>
         have H := HC66.out
         clear HC66
         by_cases c79 : t230 < 0
         ·rw [if_pos c79] at H
          exact absurd H (by simp)
         ·rw [if_neg c79] at H
          have c79b0 : decide (t230 < 0) = false := decide_eq_false c79
          clear c79
          (first | rw [c79b0] | (simp only [i64_w, i32_w]; rw [c79b0]) | skip)
          replace H := Option.bind_eq_some_iff.mp H
          obtain ⟨t232, A800, H⟩ := H
          replace H : (if t232 = true then (laws_FnExactLoseDisk.j1 kj15 l1 t205 (t217 != t205) l0_0 t202 t214) else (none)) = some r := H
          have A80 := Aside0.mk A800
          clear A800
          by_cases c81 : t232 = true
          ·subst c81
           have H1 : (laws_FnExactLoseDisk.j1 kj15 l1 t205 (t217 != t205) l0_0 t202 t214) = some r := by rw [if_pos rfl] at H; exact H
           clear H
           have H := H1
           clear H1
           have H' := Aside0.mk H
           clear H
           have hnb82 := NB218_194.out
           have hnc82 := NB194_218.out
           have hnb83 := NB218_206.out
           have hnc83 := NB206_218.out
           have hnb84 := NB218_210.out
           have hnc84 := NB210_218.out
           have hcz85_0 : w78.cell? ⟨gb218, 0, none⟩ = some (.slice Ao42 t214.length co42) := bc_ BK218 0
           have hfz85_0 := blk_frozen BK218.out 0
           have hnb86 := NB206_194.out
           have hnc86 := NB194_206.out
           have hnb87 := NB206_210.out
           have hnc87 := NB210_206.out
           have hcz88_0 : w78.cell? ⟨gb206, 0, none⟩ = some (.slice Ao27 t202.length co27) := bc_ BK206 0
           have hfz88_0 := blk_frozen BK206.out 0
           go_wp2_with (first | (go_at_call 40; (with_reducible refine (laws_eqDisk.calls kj15 _ _ t214 _ _ t202 true _ ?side1 ?side2 ?side3 ?side4 A80.out).mono ?_); (case side1 => repeat (first | exact (Kd.R_reads' HO_219000.out).2.2 | (with_reducible refine Kd.C_alloc ?_ _) | (with_reducible refine Kd.C_drewN ?_ _) | (with_reducible refine Kd.C_drew ?_))); (case side2 => exact (Kd.R_reads' HO_219000.out).2.1); (case side3 => repeat (first | exact (Kd.R_reads' HO_207000.out).2.2 | (with_reducible refine Kd.C_alloc ?_ _) | (with_reducible refine Kd.C_drewN ?_ _) | (with_reducible refine Kd.C_drew ?_))); (case side4 => exact (Kd.R_reads' HO_207000.out).2.1); rintro e w89 ⟨rfl, hb⟩; replace HO_9 := rb_ HO_9 hb; replace HO_207000 := rb_ HO_207000 hb; replace HO_211000 := rb_ HO_211000 hb; replace HO_219000 := rb_ HO_219000 hb; replace HO222 := rb_ HO222 hb; replace HO226 := rb_ HO226 hb; replace BK194 := bb_ BK194 hb; replace BK206 := bb_ BK206 hb; replace BK210 := bb_ BK210 hb; replace BK218 := bb_ BK218 hb; replace HB := bs_ HB hb; (try clear hb)))
           go_meet
           case rel => exact ⟨_, ((t217 != t205)), (by first | rfl | (simp; done) | (simp [*]; done)), H', ⟨by have := HJ15.out; first | omega | exact Nat.le_refl _⟩, ⟨by (with_reducible repeat (first | apply Kd.R_alloc | apply Kd.R_drewN | apply Kd.R_drew)); exact Kd.R_mono HO_207000.out (fun _ hk => ⟨hk.1, hk.2.1⟩)⟩, ⟨by (with_reducible repeat (first | apply Kd.R_alloc | apply Kd.R_drewN | apply Kd.R_drew)); exact Kd.R_mono HO_211000.out (fun _ hk => ⟨hk.1, hk.2.1⟩)⟩, ⟨by (with_reducible repeat (first | apply Kd.R_alloc | apply Kd.R_drewN | apply Kd.R_drew)); exact Kd.R_mono HO_219000.out (fun _ hk => ⟨hk.1, hk.2.1⟩)⟩, ⟨by (with_reducible repeat (first | refine blk_drewN ?_ _ | refine blk_drew ?_ | refine blk_alloc ?_ _)); exact BK194.out⟩, ⟨by (with_reducible repeat (first | refine blk_drewN ?_ _ | refine blk_drew ?_ | refine blk_alloc ?_ _)); exact BK206.out⟩, ⟨by (with_reducible repeat (first | refine blk_drewN ?_ _ | refine blk_drew ?_ | refine blk_alloc ?_ _)); exact BK210.out⟩, ⟨by (with_reducible repeat (first | refine blk_drewN ?_ _ | refine blk_drew ?_ | refine blk_alloc ?_ _)); exact BK218.out⟩, ⟨by repeat (first | (with_reducible first | exact HB.out | apply below_alloc | apply pw_below_drewN | apply below_drew1 | refine below_set ?_ GE194.out | refine below_set ?_ GE206.out | refine below_set ?_ GE210.out | refine below_set ?_ GE218.out) | exact HB.out)⟩⟩
          ·replace c81 := Bool.eq_false_iff.mpr c81
           subst c81
           have H1 : (none) = some r := by rw [if_neg (show ¬ (false = true) by decide)] at H; exact H
           clear H
           have H := H1
           clear H1
           exact absurd H (by simp)
        case rest =>
         clear HC66
         try clear c1
         try clear c2
         try clear p2
         try clear c3
         try clear c3b0
         try clear c3b1
         try clear c4
         try clear c5
         try clear c6
         try clear c6b0
         try clear c7
         try clear c8
         try clear c28
         try clear c31
         try clear c34
         try clear c35
         try clear c36
         try clear c37
         try clear c38
         try clear c39
         try clear c40
         try clear c41
         try clear c42
         try clear c43
         try clear c44
         try clear c45
         try clear c48
         try clear c49
         try clear c50
         try clear c51
         try clear c53
         try clear c54
         try clear c57
         try clear c60
         try clear c63
         try clear c73
         try clear c74
         try clear c75
         try clear c79
         try clear c79b0
         try clear c81
         try clear c82
         try clear c83
         try clear c84
         try clear c86
         try clear c87
         try clear hcz18_0
         try clear hcz20_0
         try clear hcz29_0
         try clear hcz30_0
         try clear hcz36_0
         try clear hcz38_0
         try clear hcz46_0
         try clear hcz52_0
         try clear hcz55_0
         try clear hcz76_0
         try clear hcz85_0
         try clear hcz88_0
         try clear hcz8_0
         try clear hfz18_0
         try clear hfz20_0
         try clear hfz29_0
         try clear hfz30_0
         try clear hfz36_0
         try clear hfz38_0
         try clear hfz46_0
         try clear hfz52_0
         try clear hfz55_0
         try clear hfz76_0
         try clear hfz85_0
         try clear hfz88_0
         try clear hfz8_0
         try clear p2
         obtain ⟨kq, x80_65, rfl, HA, HJ65, HO_207000, HO_211000, HO_219000, BK194, BK206, BK210, BK218, HB⟩ := hcut
         have hl211000_65 := (Kd.R_reads' HO_211000.out).1
         rw [hl211000_65] at HO_211000
         (try simp only [hl211000_65])
         (try simp only [hl211000_65] at BK194)
         (try simp only [hl211000_65] at BK206)
         (try simp only [hl211000_65] at BK210)
         (try simp only [hl211000_65] at BK218)
         (try simp only [hl211000_65] at HO_207000)
         (try simp only [hl211000_65] at HO_219000)
         cases kq with
         | zero => exact absurd HA.out (by simp [laws_FnExactLoseDisk.j1])
         | succ kj65 =>
          have H := HA.out
          clear HA
          simp only [laws_FnExactLoseDisk.j1] at H
          by_cases c90 : x80_65 = true
          ·subst c90
           have H1 : (none) = some r := by rw [if_pos rfl] at H; exact H
           clear H
           have H := H1
           clear H1
           exact absurd H (by simp)
          ·replace c90 := Bool.eq_false_iff.mpr c90
           subst c90
           have H1 : ((laws_markDisk.f kj65 t214 1).bind fun bt233 => ((laws_heldDisk.f kj65 bt233.2 1).bind fun t235 => (if t235 < 0 then (none) else (if t235 = bt233.1 then ((laws_toDisk.f kj65 l0_0).bind fun t236 => ((laws_toIntS.f kj65 l1).bind fun t239 => ((impl_LoseDisk.f kj65 t236 t239).bind fun bt242 => ((laws_eqDisk.f kj65 bt242.1 t202).bind fun t247 => (if t247 = true then (laws_FnExactLoseDisk.j2 kj65 bt233.1 (bt242.2 != t205) bt233.2) else (none)))))) else (none))))) = some r := by rw [if_neg (show ¬ (false = true) by decide)] at H; exact H
           clear H
           have H := H1
           clear H1
           replace H := Option.bind_eq_some_iff.mp H
           obtain ⟨⟨t233, t234⟩, A910, H⟩ := H
           replace H : ((laws_heldDisk.f kj65 t234 1).bind fun t235 => (if t235 < 0 then (none) else (if t235 = t233 then ((laws_toDisk.f kj65 l0_0).bind fun t236 => ((laws_toIntS.f kj65 l1).bind fun t239 => ((impl_LoseDisk.f kj65 t236 t239).bind fun bt242 => ((laws_eqDisk.f kj65 bt242.1 t202).bind fun t247 => (if t247 = true then (laws_FnExactLoseDisk.j2 kj65 t233 (bt242.2 != t205) t234) else (none)))))) else (none)))) = some r := H
           have A91 := Aside0.mk A910
           clear A910
           replace H := Option.bind_eq_some_iff.mp H
           obtain ⟨t235, A920, H⟩ := H
           replace H : (if t235 < 0 then (none) else (if t235 = t233 then ((laws_toDisk.f kj65 l0_0).bind fun t236 => ((laws_toIntS.f kj65 l1).bind fun t239 => ((impl_LoseDisk.f kj65 t236 t239).bind fun bt242 => ((laws_eqDisk.f kj65 bt242.1 t202).bind fun t247 => (if t247 = true then (laws_FnExactLoseDisk.j2 kj65 t233 (bt242.2 != t205) t234) else (none)))))) else (none))) = some r := H
           have A92 := Aside0.mk A920
           clear A920
           by_cases c93 : t235 < 0
           ·rw [if_pos c93] at H
            exact absurd H (by simp)
           ·rw [if_neg c93] at H
            have c93b0 : decide (t235 < 0) = false := decide_eq_false c93
            clear c93
            by_cases c94 : t235 = t233
            ·rw [if_pos c94] at H
             have c94b0 : (t235 == t233) = true := beq_iff_eq.mpr c94
             have c94b1 : (t235 != t233) = false := bne_eq_false_iff_eq.mpr c94
             clear c94
             replace H := Option.bind_eq_some_iff.mp H
             obtain ⟨t236, A950, H⟩ := H
             replace H : ((laws_toIntS.f kj65 l1).bind fun t239 => ((impl_LoseDisk.f kj65 t236 t239).bind fun bt242 => ((laws_eqDisk.f kj65 bt242.1 t202).bind fun t247 => (if t247 = true then (laws_FnExactLoseDisk.j2 kj65 t233 (bt242.2 != t205) t234) else (none))))) = some r := H
             have A95 := Aside0.mk A950
             clear A950
             replace H := Option.bind_eq_some_iff.mp H
             obtain ⟨t239, A960, H⟩ := H
             replace H : ((impl_LoseDisk.f kj65 t236 t239).bind fun bt242 => ((laws_eqDisk.f kj65 bt242.1 t202).bind fun t247 => (if t247 = true then (laws_FnExactLoseDisk.j2 kj65 t233 (bt242.2 != t205) t234) else (none)))) = some r := H
             have A96 := Aside0.mk A960
             clear A960
             replace H := Option.bind_eq_some_iff.mp H
             obtain ⟨⟨t242, t245⟩, A970, H⟩ := H
             replace H : ((laws_eqDisk.f kj65 t242 t202).bind fun t247 => (if t247 = true then (laws_FnExactLoseDisk.j2 kj65 t233 (t245 != t205) t234) else (none))) = some r := H
             have A97 := Aside0.mk A970
             clear A970
             have HC98 := Aside0.mk H
             clear H
             have hnb99 := NB218_194.out
             have hnc99 := NB194_218.out
             have hnb100 := NB218_206.out
             have hnc100 := NB206_218.out
             have hnb101 := NB218_210.out
             have hnc101 := NB210_218.out
             have hcz102_0 : wc.cell? ⟨gb218, 0, none⟩ = some (.slice Ao42 t214.length co42) := bc_ BK218 0
             have hfz102_0 := blk_frozen BK218.out 0
             go_upto_region 31 with (first | ((with_reducible refine gate_callee (f := 42) rfl ?_); refine goesL_ (some 83) rfl rfl Try.func42 (by kernel_rfl) rfl #[.agg #[.slice Ao42 t214.length co42], .int .i64 1] rfl (by (try simp only [List.map_toArray, List.map_cons, List.map_nil]); first | done | rfl | (simp only [List.length_drop, List.length_take]; rfl)) ?_; (with_reducible refine (laws_markDisk.calls kj65 (fun k_ => some k_ = (.slice Ao42 t214.length co42 : Value).ownBlock) (.slice Ao42 t214.length co42) t214 1 t233 t234 w _ ?side1 ?side2 A91.out).mono ?_); (case side1 => repeat (first | (with_reducible first | exact HB.out | apply below_alloc | apply pw_below_drewN | apply below_drew1 | refine below_set ?_ GE194.out | refine below_set ?_ GE206.out | refine below_set ?_ GE210.out | refine below_set ?_ GE218.out) | exact HB.out)); (case side2 => exact Kd.R_tight rfl HO_219000.out); rintro e w103 ⟨rfl, hy0, hb, hkp⟩; refine ⟨_, rfl, ?_⟩; have n0_ := mk_ (Kd.R_mono (ok' := fun k_ => some k_ ≠ (.slice Ao33 t229.length co33 : Value).ownBlock ∧ some k_ ≠ (.slice Ao42 t214.length co42 : Value).ownBlock) (Kd.R_keptB (HO_207000.out) hkp (fun k_ hk_ hs_ => (hk_.2) hs_)) (fun k_ hk_ => ⟨hk_.1.1, hk_.1.2⟩)); have n1_ := mk_ (Kd.R_mono (ok' := fun k_ => some k_ ≠ (.slice Ao27 t202.length co27 : Value).ownBlock ∧ some k_ ≠ (.slice Ao42 t214.length co42 : Value).ownBlock) (Kd.R_keptB (HO_211000.out) hkp (fun k_ hk_ hs_ => (hk_.2) hs_)) (fun k_ hk_ => ⟨hk_.1.1, hk_.1.2⟩)); have n2_ := mk_ (Kd.R_reok rfl hy0 (fun k_ e_ => HO_219000.out.1 k_ e_)); have n3_ := mk_ (blk_kept (bp_ BK194) hkp (fun hs_ => (fun e_ => (Kd.R_ne HO_219000.out BK194.out (by decide)) e_) hs_)); have n4_ := mk_ (blk_kept (bp_ BK206) hkp (fun hs_ => (fun e_ => (Kd.R_ne HO_219000.out BK206.out (by decide)) e_) hs_)); have n5_ := mk_ (blk_kept (bp_ BK210) hkp (fun hs_ => (fun e_ => (Kd.R_ne HO_219000.out BK210.out (by decide)) e_) hs_)); have n6_ := mk_ (blk_kept (bp_ BK218) hkp (fun hs_ => (fun e_ => (Kd.R_ne HO_219000.out BK218.out (by decide)) e_) hs_)); have n7_ := mk_ (hb); clear HO_207000; clear HO_211000; clear HO_219000; clear BK194; clear BK206; clear BK210; clear BK218; clear HB; have HO_207000 := n0_; have HO_211000 := n1_; have HO_219000 := n2_; have BK194 := n3_; have BK206 := n4_; have BK210 := n5_; have BK218 := n6_; have HB := n7_; clear n0_ n1_ n2_ n3_ n4_ n5_ n6_ n7_; (try clear hb); (try clear hkp); (try clear hy0); have hcz104_0 : w103.cell? ⟨gb218, 0, none⟩ = some (.slice Ao42 t214.length co42) := bc_ BK218 0; have hfz104_0 := blk_frozen BK218.out 0) | ((with_reducible refine gate_callee (f := 44) rfl ?_); refine goesL_ (some 86) rfl rfl Try.func44 (by kernel_rfl) rfl #[.agg #[.slice Ao42 t234.length co42], .int .i64 1] rfl (by (try simp only [List.map_toArray, List.map_cons, List.map_nil]); first | done | (rw [show t234.length = t214.length from (Kd.R_reads' HO_219000.out).1.symm] <;> rfl) | rfl | (simp only [List.length_drop, List.length_take]; rfl)) ?_; (with_reducible refine (laws_heldDisk.calls kj65 _ _ t234 1 t235 _ ?side1 ?side2 A92.out).mono ?_); (case side1 => repeat (first | exact (Kd.R_reads' HO_219000.out).2.2 | (with_reducible refine Kd.C_alloc ?_ _) | (with_reducible refine Kd.C_drewN ?_ _) | (with_reducible refine Kd.C_drew ?_))); (case side2 => rw [show t234.length = t214.length from (Kd.R_reads' HO_219000.out).1.symm]; exact (Kd.R_reads' HO_219000.out).2.1); rintro e w105 ⟨rfl, hb⟩; refine ⟨_, rfl, ?_⟩; replace HO_207000 := rb_ HO_207000 hb; replace HO_211000 := rb_ HO_211000 hb; replace HO_219000 := rb_ HO_219000 hb; replace BK194 := bb_ BK194 hb; replace BK206 := bb_ BK206 hb; replace BK210 := bb_ BK210 hb; replace BK218 := bb_ BK218 hb; replace HB := bs_ HB hb; (try clear hb); have hnb106 := NB194_206.out; have hnc106 := NB206_194.out; have hnb107 := NB194_210.out; have hnc107 := NB210_194.out; have hcz108_0 : w105.cell? ⟨gb194, 0, none⟩ = some (.slice A0_0 l0_0.length c0_0) := bc_ BK194 0; have hfz108_0 := blk_frozen BK194.out 0) | ((with_reducible refine gate_callee (f := 38) rfl ?_); refine goesL_ (some 94) rfl rfl Try.func38 (by kernel_rfl) rfl #[.agg #[.slice A0_0 l0_0.length c0_0]] rfl (by (try simp only [List.map_toArray, List.map_cons, List.map_nil]); first | done | rfl | (simp only [List.length_drop, List.length_take]; rfl)) ?_; (with_reducible refine (laws_toDisk.calls kj65 _ _ l0_0 t236 _ ?side1 ?side2 A95.out).mono ?_); (case side1 => repeat (first | exact (Kd.C_below HR0_0.out HB.out) | (with_reducible refine Kd.C_alloc ?_ _) | (with_reducible refine Kd.C_drewN ?_ _) | (with_reducible refine Kd.C_drew ?_))); (case side2 => exact HC0_0.out); rintro e w109 ⟨v237, rfl, ho0, hb⟩; refine ⟨_, rfl, ?_⟩; have HO238 := mk_ (Kd.R_lower (Kd.R_new' (Kd.R_new' (Kd.R_new' ho0 (Kd.R_lt (rp_ HO_207000))) (Kd.R_lt (rp_ HO_211000))) (Kd.R_lt (rp_ HO_219000))) (below_size (bw_ HB))); replace HO_207000 := mk_ (Kd.R_elder' (rp_ HO_207000) (Kd.R_base ho0) hb); replace HO_211000 := mk_ (Kd.R_elder' (rp_ HO_211000) (Kd.R_base ho0) hb); replace HO_219000 := mk_ (Kd.R_elder' (rp_ HO_219000) (Kd.R_base ho0) hb); replace BK194 := bb_ BK194 hb; replace BK206 := bb_ BK206 hb; replace BK210 := bb_ BK210 hb; replace BK218 := bb_ BK218 hb; replace HB := bs_ HB hb; (try clear hb); (try clear ho0)) | ((with_reducible refine gate_callee (f := 39) rfl ?_); refine goesL_ (some 96) rfl rfl Try.func39 (by kernel_rfl) rfl #[.slice A1 l1.length c1] rfl (by (try simp only [List.map_toArray, List.map_cons, List.map_nil]); first | done | rfl | (simp only [List.length_drop, List.length_take]; rfl)) ?_; (with_reducible refine (laws_toIntS.calls kj65 _ _ l1 t239 _ ?side1 ?side2 A96.out).mono ?_); (case side1 => repeat (first | exact (Kd.C_below HR1.out HB.out) | (with_reducible refine Kd.C_alloc ?_ _) | (with_reducible refine Kd.C_drewN ?_ _) | (with_reducible refine Kd.C_drew ?_))); (case side2 => exact HC1.out); rintro e w110 ⟨v240, rfl, ho0, hb⟩; refine ⟨_, rfl, ?_⟩; have HO241 := mk_ (Kd.R_lower ho0 (below_size (bw_ HB))); replace HO_207000 := rb_ HO_207000 hb; replace HO_211000 := rb_ HO_211000 hb; replace HO_219000 := rb_ HO_219000 hb; replace HO238 := rb_ HO238 hb; replace BK194 := bb_ BK194 hb; replace BK206 := bb_ BK206 hb; replace BK210 := bb_ BK210 hb; replace BK218 := bb_ BK218 hb; replace HB := bs_ HB hb; (try clear hb); (try clear ho0); obtain ⟨Ao111, co111, eo111⟩ := Kd.R_slice HO238.out; subst eo111; obtain ⟨Ao112, co112, eo112⟩ := Kd.R_slice HO241.out; subst eo112) | ((with_reducible refine gate_callee (f := 31) rfl ?_); refine goesL_ (some 97) rfl rfl Try.func31 (by kernel_rfl) rfl #[.agg #[.slice Ao111 t236.length co111], .slice Ao112 t239.length co112] rfl (by (try simp only [List.map_toArray, List.map_cons, List.map_nil]); first | done | rfl | (simp only [List.length_drop, List.length_take]; rfl)) ?_; (with_reducible refine (impl_LoseDisk.calls kj65 _ _ t236 _ _ t239 t242 t245 _ ?side1 ?side2 ?side3 ?side4 A97.out).mono ?_); (case side1 => repeat (first | exact (Kd.R_reads' HO238.out).2.2 | (with_reducible refine Kd.C_alloc ?_ _) | (with_reducible refine Kd.C_drewN ?_ _) | (with_reducible refine Kd.C_drew ?_))); (case side2 => exact (Kd.R_reads' HO238.out).2.1); (case side3 => repeat (first | exact (Kd.R_reads' HO241.out).2.2 | (with_reducible refine Kd.C_alloc ?_ _) | (with_reducible refine Kd.C_drewN ?_ _) | (with_reducible refine Kd.C_drew ?_))); (case side4 => exact (Kd.R_reads' HO241.out).2.1); rintro e w113 ⟨v243, rfl, ho0, hb⟩; refine ⟨_, rfl, ?_⟩; have HO244 := mk_ (Kd.R_lower (Kd.R_new' (Kd.R_new' (Kd.R_new' (Kd.R_new' ho0 (Kd.R_lt (rp_ HO_207000))) (Kd.R_lt (rp_ HO_211000))) (Kd.R_lt (rp_ HO_219000))) (Kd.R_lt (rp_ HO238))) (below_size (bw_ HB))); replace HO_207000 := mk_ (Kd.R_elder' (rp_ HO_207000) (Kd.R_base ho0) hb); replace HO_211000 := mk_ (Kd.R_elder' (rp_ HO_211000) (Kd.R_base ho0) hb); replace HO_219000 := mk_ (Kd.R_elder' (rp_ HO_219000) (Kd.R_base ho0) hb); replace HO238 := mk_ (Kd.R_elder' (rp_ HO238) (Kd.R_base ho0) hb); replace HO241 := rb_ HO241 hb; replace BK194 := bb_ BK194 hb; replace BK206 := bb_ BK206 hb; replace BK210 := bb_ BK210 hb; replace BK218 := bb_ BK218 hb; replace HB := bs_ HB hb; (try clear hb); (try clear ho0)) | ((with_reducible refine gate_dst (N := 15) rfl ?_); refine box_event ?hg (N := 15) ?hd (cs := #[.slice none 0 0]) (t := 52) ?hr ?_; (case hd => rfl); (case hg => rfl); (case hr => first | (go_simp; done) | (go_simp; rfl)); intro gb246 hg w114 hbox hb; have BK246 := mk_ (hbox); have GW246 : Aside0 (w.heap.size ≤ gb246) := bz_ hg; have GE246 : Aside0 (w.heap.size ≤ gb246) := bz_ hg; have NB194_246 : Aside0 (gb194 ≠ gb246) := bl_ BK194 hg; have NB246_194 : Aside0 (gb246 ≠ gb194) := bg_ BK194 hg; have NB206_246 : Aside0 (gb206 ≠ gb246) := bl_ BK206 hg; have NB246_206 : Aside0 (gb246 ≠ gb206) := bg_ BK206 hg; have NB210_246 : Aside0 (gb210 ≠ gb246) := bl_ BK210 hg; have NB246_210 : Aside0 (gb246 ≠ gb210) := bg_ BK210 hg; have NB218_246 : Aside0 (gb218 ≠ gb246) := bl_ BK218 hg; have NB246_218 : Aside0 (gb246 ≠ gb218) := bg_ BK218 hg; replace HO_207000 := rb_ HO_207000 hb; replace HO_211000 := rb_ HO_211000 hb; replace HO_219000 := rb_ HO_219000 hb; replace HO238 := rb_ HO238 hb; replace HO241 := rb_ HO241 hb; replace HO244 := rb_ HO244 hb; replace BK194 := bb_ BK194 hb; replace BK206 := bb_ BK206 hb; replace BK210 := bb_ BK210 hb; replace BK218 := bb_ BK218 hb; replace HB := bs_ HB hb; clear hb hbox hg; obtain ⟨Ao115, co115, eo115⟩ := Kd.R_slice HO244.out; subst eo115; have hnb116 := NB246_194.out; have hnc116 := NB194_246.out; have hnb117 := NB246_206.out; have hnc117 := NB206_246.out; have hnb118 := NB246_210.out; have hnc118 := NB210_246.out; have hnb119 := NB246_218.out; have hnc119 := NB218_246.out; have hcz120_0 : w114.cell? ⟨gb246, 0, none⟩ = some (.slice none 0 0) := bc_ BK246 0; have hfz120_0 := blk_frozen BK246.out 0))
             (try simp only [Act.put, sia_, scz_, scs_])
             go_cut [108] (fun v108 wc => ∃ (kq : Nat) (x108_97 : Bool), v108 = .bool x108_97 ∧ Aside0 (laws_FnExactLoseDisk.j2 kq t233 x108_97 t234 = some r) ∧ Aside0 (kq ≤ kj65) ∧ Aside0 (Kd.R k60 60 wc w.heap.size (fun k_ => some k_ ≠ ((.slice Ao33 t229.length co33) : Value).ownBlock ∧ some k_ ≠ ((.slice Ao42 t214.length co42) : Value).ownBlock ∧ some k_ ≠ ((.slice Ao115 t242.length co115) : Value).ownBlock) (.slice Ao27 t202.length co27) t202) ∧ Aside0 (Kd.R k60 60 wc w.heap.size (fun k_ => some k_ ≠ ((.slice Ao27 t202.length co27) : Value).ownBlock ∧ some k_ ≠ ((.slice Ao42 t214.length co42) : Value).ownBlock ∧ some k_ ≠ ((.slice Ao115 t242.length co115) : Value).ownBlock) (.slice Ao33 t229.length co33) t229) ∧ Aside0 (Kd.R k60 60 wc w.heap.size (fun k_ => some k_ ≠ ((.slice Ao27 t202.length co27) : Value).ownBlock ∧ some k_ ≠ ((.slice Ao33 t229.length co33) : Value).ownBlock ∧ some k_ ≠ ((.slice Ao115 t242.length co115) : Value).ownBlock) (.slice Ao42 t214.length co42) t234) ∧ Aside0 (Kd.R k60 60 wc w.heap.size (fun k_ => some k_ ≠ ((.slice Ao27 t202.length co27) : Value).ownBlock ∧ some k_ ≠ ((.slice Ao33 t229.length co33) : Value).ownBlock ∧ some k_ ≠ ((.slice Ao42 t214.length co42) : Value).ownBlock) (.slice Ao115 t242.length co115) t242) ∧ Aside0 (wc.heap[gb194]? = some (.cells #[(.slice A0_0 l0_0.length c0_0)] 64 (0, 0))) ∧ Aside0 (wc.heap[gb206]? = some (.cells #[(.slice Ao27 t202.length co27)] 52 (0, 0))) ∧ Aside0 (wc.heap[gb210]? = some (.cells #[(.slice Ao33 t229.length co33)] 52 (0, 0))) ∧ Aside0 (wc.heap[gb218]? = some (.cells #[(.slice Ao42 t214.length co42)] 52 (0, 0))) ∧ Aside0 (wc.heap[gb246]? = some (.cells #[(.slice Ao115 t242.length co115)] 52 (0, 0))) ∧ Aside0 (Below w.heap.size w wc))
             case first =>
              have H := HC98.out
              clear HC98
              replace H := Option.bind_eq_some_iff.mp H
              obtain ⟨t247, A1210, H⟩ := H
              replace H : (if t247 = true then (laws_FnExactLoseDisk.j2 kj65 t233 (t245 != t205) t234) else (none)) = some r := H
              have A121 := Aside0.mk A1210
              clear A1210
              by_cases c122 : t247 = true
              ·subst c122
               have H1 : (laws_FnExactLoseDisk.j2 kj65 t233 (t245 != t205) t234) = some r := by rw [if_pos rfl] at H; exact H
               clear H
               have H := H1
               clear H1
               have H' := Aside0.mk H
               clear H
               have hnb123 := NB246_194.out
               have hnc123 := NB194_246.out
               have hnb124 := NB246_206.out
               have hnc124 := NB206_246.out
               have hnb125 := NB246_210.out
               have hnc125 := NB210_246.out
               have hnb126 := NB246_218.out
               have hnc126 := NB218_246.out
               have hcz127_0 : w114.cell? ⟨gb246, 0, none⟩ = some (.slice none 0 0) := bc_ BK246 0
               have hfz127_0 := blk_frozen BK246.out 0
               have hnb128 := NB206_194.out
               have hnc128 := NB194_206.out
               have hnb129 := NB206_210.out
               have hnc129 := NB210_206.out
               have hnb130 := NB206_218.out
               have hnc130 := NB218_206.out
               have hcz131_0 : w114.cell? ⟨gb206, 0, none⟩ = some (.slice Ao27 t202.length co27) := bc_ BK206 0
               have hfz131_0 := blk_frozen BK206.out 0
               go_wp2_with (first | ((with_reducible refine gate_callee (f := 40) rfl ?_); refine goesL_ (some 102) rfl rfl Try.func40 (by kernel_rfl) rfl #[.agg #[.slice Ao115 t242.length co115], .agg #[.slice Ao27 t202.length co27]] rfl (by (try simp only [List.map_toArray, List.map_cons, List.map_nil]); first | done | rfl | (simp only [List.length_drop, List.length_take]; rfl)) ?_; (with_reducible refine (laws_eqDisk.calls kj65 _ _ t242 _ _ t202 true _ ?side1 ?side2 ?side3 ?side4 A121.out).mono ?_); (case side1 => refine (Kd.R_reads' (e := 60) (base := w.heap.size) (ok := fun k_ => ((((True ∧ some k_ ≠ (.slice Ao27 t202.length co27 : Value).ownBlock) ∧ some k_ ≠ (.slice Ao33 t229.length co33 : Value).ownBlock) ∧ some k_ ≠ (.slice Ao42 t214.length co42 : Value).ownBlock) ∧ some k_ ≠ (.slice Ao111 t236.length co111 : Value).ownBlock)) (n := t242.length) (c := co115) ?_).2.2; exact (by (with_reducible repeat (first | apply Kd.R_alloc | apply Kd.R_drewN | apply Kd.R_drew)); exact (Kd.R_mono (Kd.R_far (p := ⟨gb246, 0, none⟩) (Kd.R_types HO244.out BK246.out (by decide)) (fun _ hk => hk.2) (.slice Ao115 t242.length co115)) (fun _ h_ => h_.1)))); (case side2 => exact (Kd.R_reads' HO244.out).2.1); (case side3 => refine (Kd.R_reads' (e := 60) (base := w.heap.size) (ok := fun k_ => (((some k_ ≠ (.slice Ao33 t229.length co33 : Value).ownBlock ∧ some k_ ≠ (.slice Ao42 t214.length co42 : Value).ownBlock) ∧ some k_ ≠ (.slice Ao111 t236.length co111 : Value).ownBlock) ∧ some k_ ≠ (.slice Ao115 t242.length co115 : Value).ownBlock)) (n := t202.length) (c := co27) ?_).2.2; exact (by (with_reducible repeat (first | apply Kd.R_alloc | apply Kd.R_drewN | apply Kd.R_drew)); exact (Kd.R_mono (Kd.R_far (p := ⟨gb246, 0, none⟩) (Kd.R_types HO_207000.out BK246.out (by decide)) (fun _ hk => hk.2) (.slice Ao115 t242.length co115)) (fun _ h_ => h_.1)))); (case side4 => exact (Kd.R_reads' HO_207000.out).2.1); rintro e w132 ⟨rfl, hb⟩; refine ⟨_, rfl, ?_⟩; replace HO_207000 := mk_ (Kd.R_below (by (with_reducible repeat (first | apply Kd.R_alloc | apply Kd.R_drewN | apply Kd.R_drew)); exact (Kd.R_mono (Kd.R_far (p := ⟨gb246, 0, none⟩) (Kd.R_types HO_207000.out BK246.out (by decide)) (fun _ hk => hk.2) (.slice Ao115 t242.length co115)) (fun _ h_ => h_.1))) hb); replace HO_211000 := mk_ (Kd.R_below (by (with_reducible repeat (first | apply Kd.R_alloc | apply Kd.R_drewN | apply Kd.R_drew)); exact (Kd.R_mono (Kd.R_far (p := ⟨gb246, 0, none⟩) (Kd.R_types HO_211000.out BK246.out (by decide)) (fun _ hk => hk.2) (.slice Ao115 t242.length co115)) (fun _ h_ => h_.1))) hb); replace HO_219000 := mk_ (Kd.R_below (by (with_reducible repeat (first | apply Kd.R_alloc | apply Kd.R_drewN | apply Kd.R_drew)); exact (Kd.R_mono (Kd.R_far (p := ⟨gb246, 0, none⟩) (Kd.R_types HO_219000.out BK246.out (by decide)) (fun _ hk => hk.2) (.slice Ao115 t242.length co115)) (fun _ h_ => h_.1))) hb); replace HO238 := mk_ (Kd.R_below (by (with_reducible repeat (first | apply Kd.R_alloc | apply Kd.R_drewN | apply Kd.R_drew)); exact (Kd.R_mono (Kd.R_far (p := ⟨gb246, 0, none⟩) (Kd.R_types HO238.out BK246.out (by decide)) (fun _ hk => hk.2) (.slice Ao115 t242.length co115)) (fun _ h_ => h_.1))) hb); replace HO241 := mk_ (Kd.R_below (by (with_reducible repeat (first | apply Kd.R_alloc | apply Kd.R_drewN | apply Kd.R_drew)); exact (Kd.R_mono (Kd.R_far (p := ⟨gb246, 0, none⟩) (Kd.R_types HO241.out BK246.out (by decide)) (fun _ hk => hk.2) (.slice Ao115 t242.length co115)) (fun _ h_ => h_.1))) hb); replace HO244 := mk_ (Kd.R_below (by (with_reducible repeat (first | apply Kd.R_alloc | apply Kd.R_drewN | apply Kd.R_drew)); exact (Kd.R_mono (Kd.R_far (p := ⟨gb246, 0, none⟩) (Kd.R_types HO244.out BK246.out (by decide)) (fun _ hk => hk.2) (.slice Ao115 t242.length co115)) (fun _ h_ => h_.1))) hb); replace BK194 := mk_ (blk_below (g := gb194) (o := .cells #[.slice A0_0 l0_0.length c0_0] 64 (0, 0)) (by (with_reducible repeat (first | refine blk_drewN ?_ _ | refine blk_drew ?_ | refine blk_alloc ?_ _)); refine blk_far ?_ NB194_246.out _; (with_reducible repeat (first | refine blk_drewN ?_ _ | refine blk_drew ?_ | refine blk_alloc ?_ _)); exact BK194.out) hb); replace BK206 := mk_ (blk_below (g := gb206) (o := .cells #[.slice Ao27 t202.length co27] 52 (0, 0)) (by (with_reducible repeat (first | refine blk_drewN ?_ _ | refine blk_drew ?_ | refine blk_alloc ?_ _)); refine blk_far ?_ NB206_246.out _; (with_reducible repeat (first | refine blk_drewN ?_ _ | refine blk_drew ?_ | refine blk_alloc ?_ _)); exact BK206.out) hb); replace BK210 := mk_ (blk_below (g := gb210) (o := .cells #[.slice Ao33 t229.length co33] 52 (0, 0)) (by (with_reducible repeat (first | refine blk_drewN ?_ _ | refine blk_drew ?_ | refine blk_alloc ?_ _)); refine blk_far ?_ NB210_246.out _; (with_reducible repeat (first | refine blk_drewN ?_ _ | refine blk_drew ?_ | refine blk_alloc ?_ _)); exact BK210.out) hb); replace BK218 := mk_ (blk_below (g := gb218) (o := .cells #[.slice Ao42 t214.length co42] 52 (0, 0)) (by (with_reducible repeat (first | refine blk_drewN ?_ _ | refine blk_drew ?_ | refine blk_alloc ?_ _)); refine blk_far ?_ NB218_246.out _; (with_reducible repeat (first | refine blk_drewN ?_ _ | refine blk_drew ?_ | refine blk_alloc ?_ _)); exact BK218.out) hb); replace BK246 := mk_ (blk_below (g := gb246) (o := .cells #[.slice Ao115 t242.length co115] 52 (0, 0)) (by (with_reducible repeat (first | refine blk_drewN ?_ _ | refine blk_drew ?_ | refine blk_alloc ?_ _)); refine blk_put (cs := #[.slice none 0 0]) ?_ 0 _ rfl; (with_reducible repeat (first | refine blk_drewN ?_ _ | refine blk_drew ?_ | refine blk_alloc ?_ _)); exact BK246.out) hb); replace HB := bs_ HB hb; (try clear hb); (try clear hk)))
               go_meet
               case rel => exact ⟨_, ((t245 != t205)), (by first | rfl | (simp; done) | (simp [*]; done)), H', ⟨by have := HJ15.out; have := HJ65.out; first | omega | exact Nat.le_refl _⟩, ⟨by (try simp only [hl211000_65]); (with_reducible repeat (first | apply Kd.R_alloc | apply Kd.R_drewN | apply Kd.R_drew)); exact Kd.R_mono HO_207000.out (fun _ hk => ⟨hk.1.1.1, ⟨hk.1.1.2, hk.2⟩⟩)⟩, ⟨by (try simp only [hl211000_65]); (with_reducible repeat (first | apply Kd.R_alloc | apply Kd.R_drewN | apply Kd.R_drew)); exact Kd.R_mono HO_211000.out (fun _ hk => ⟨hk.1.1.1, ⟨hk.1.1.2, hk.2⟩⟩)⟩, ⟨by (try simp only [hl211000_65]); (with_reducible repeat (first | apply Kd.R_alloc | apply Kd.R_drewN | apply Kd.R_drew)); exact Kd.R_mono HO_219000.out (fun _ hk => ⟨hk.1.1.1, ⟨hk.1.1.2, hk.2⟩⟩)⟩, ⟨by (try simp only [hl211000_65]); (with_reducible repeat (first | apply Kd.R_alloc | apply Kd.R_drewN | apply Kd.R_drew)); exact Kd.R_mono HO244.out (fun _ hk => ⟨hk.1.1.1.2, ⟨hk.1.1.2, hk.1.2⟩⟩)⟩, ⟨by (try simp only [hl211000_65]); (with_reducible repeat (first | refine blk_drewN ?_ _ | refine blk_drew ?_ | refine blk_alloc ?_ _)); exact BK194.out⟩, ⟨by (try simp only [hl211000_65]); (with_reducible repeat (first | refine blk_drewN ?_ _ | refine blk_drew ?_ | refine blk_alloc ?_ _)); exact BK206.out⟩, ⟨by (try simp only [hl211000_65]); (with_reducible repeat (first | refine blk_drewN ?_ _ | refine blk_drew ?_ | refine blk_alloc ?_ _)); exact BK210.out⟩, ⟨by (try simp only [hl211000_65]); (with_reducible repeat (first | refine blk_drewN ?_ _ | refine blk_drew ?_ | refine blk_alloc ?_ _)); exact BK218.out⟩, ⟨by (try simp only [hl211000_65]); (with_reducible repeat (first | refine blk_drewN ?_ _ | refine blk_drew ?_ | refine blk_alloc ?_ _)); exact BK246.out⟩, ⟨by repeat (first | (with_reducible first | exact HB.out | apply below_alloc | apply pw_below_drewN | apply below_drew1 | refine below_set ?_ GE194.out | refine below_set ?_ GE206.out | refine below_set ?_ GE210.out | refine below_set ?_ GE218.out | refine below_set ?_ GE246.out) | exact HB.out)⟩⟩
              ·replace c122 := Bool.eq_false_iff.mpr c122
               subst c122
               have H1 : (none) = some r := by rw [if_neg (show ¬ (false = true) by decide)] at H; exact H
               clear H
               have H := H1
               clear H1
               exact absurd H (by simp)
             case rest =>
              clear HC98
              try clear c1
              try clear c2
              try clear p2
              try clear c3
              try clear c3b0
              try clear c3b1
              try clear c4
              try clear c5
              try clear c6
              try clear c6b0
              try clear c7
              try clear c8
              try clear c9
              try clear c10
              try clear c11
              try clear c12
              try clear c13
              try clear c28
              try clear c31
              try clear c34
              try clear c35
              try clear c36
              try clear c37
              try clear c38
              try clear c39
              try clear c40
              try clear c41
              try clear c42
              try clear c43
              try clear c44
              try clear c45
              try clear c48
              try clear c49
              try clear c50
              try clear c51
              try clear c53
              try clear c54
              try clear c57
              try clear c60
              try clear c63
              try clear c73
              try clear c74
              try clear c75
              try clear c79
              try clear c79b0
              try clear c81
              try clear c82
              try clear c83
              try clear c84
              try clear c86
              try clear c87
              try clear c90
              try clear c93
              try clear c93b0
              try clear c94
              try clear c94b0
              try clear c94b1
              try clear c99
              try clear c100
              try clear c101
              try clear c106
              try clear c107
              try clear c116
              try clear c117
              try clear c118
              try clear c119
              try clear c122
              try clear c123
              try clear c124
              try clear c125
              try clear c126
              try clear c128
              try clear c129
              try clear c130
              try clear hcz102_0
              try clear hcz104_0
              try clear hcz108_0
              try clear hcz120_0
              try clear hcz127_0
              try clear hcz131_0
              try clear hcz18_0
              try clear hcz20_0
              try clear hcz29_0
              try clear hcz30_0
              try clear hcz36_0
              try clear hcz38_0
              try clear hcz46_0
              try clear hcz52_0
              try clear hcz55_0
              try clear hcz76_0
              try clear hcz85_0
              try clear hcz88_0
              try clear hcz8_0
              try clear hfz102_0
              try clear hfz104_0
              try clear hfz108_0
              try clear hfz120_0
              try clear hfz127_0
              try clear hfz131_0
              try clear hfz18_0
              try clear hfz20_0
              try clear hfz29_0
              try clear hfz30_0
              try clear hfz36_0
              try clear hfz38_0
              try clear hfz46_0
              try clear hfz52_0
              try clear hfz55_0
              try clear hfz76_0
              try clear hfz85_0
              try clear hfz88_0
              try clear hfz8_0
              try clear p2
              obtain ⟨kq, x108_97, rfl, HA, HJ97, HO_207000, HO_211000, HO_219000, HO_247000, BK194, BK206, BK210, BK218, BK246, HB⟩ := hcut
              have hl219000_97 := (Kd.R_reads' HO_219000.out).1
              rw [hl219000_97] at HO_219000
              (try simp only [hl219000_97])
              (try simp only [hl219000_97] at BK194)
              (try simp only [hl219000_97] at BK206)
              (try simp only [hl219000_97] at BK210)
              (try simp only [hl219000_97] at BK218)
              (try simp only [hl219000_97] at BK246)
              (try simp only [hl219000_97] at HO_207000)
              (try simp only [hl219000_97] at HO_211000)
              (try simp only [hl219000_97] at HO_247000)
              cases kq with
              | zero => exact absurd HA.out (by simp [laws_FnExactLoseDisk.j2])
              | succ kj97 =>
               have H := HA.out
               clear HA
               simp only [laws_FnExactLoseDisk.j2] at H
               by_cases c133 : x108_97 = true
               ·subst c133
                have H1 : (none) = some r := by rw [if_pos rfl] at H; exact H
                clear H
                have H := H1
                clear H1
                exact absurd H (by simp)
               ·replace c133 := Bool.eq_false_iff.mpr c133
                subst c133
                have H1 : ((laws_heldDisk.f kj97 t234 1).bind fun t248 => (if t248 < 0 then (none) else (if t248 = t233 then (some true) else (none)))) = some r := by rw [if_neg (show ¬ (false = true) by decide)] at H; exact H
                clear H
                have H := H1
                clear H1
                replace H := Option.bind_eq_some_iff.mp H
                obtain ⟨t248, A1340, H⟩ := H
                replace H : (if t248 < 0 then (none) else (if t248 = t233 then (some true) else (none))) = some r := H
                have A134 := Aside0.mk A1340
                clear A1340
                by_cases c135 : t248 < 0
                ·rw [if_pos c135] at H
                 exact absurd H (by simp)
                ·rw [if_neg c135] at H
                 have c135b0 : decide (t248 < 0) = false := decide_eq_false c135
                 clear c135
                 by_cases c136 : t248 = t233
                 ·rw [if_pos c136] at H
                  have c136b0 : (t248 == t233) = true := beq_iff_eq.mpr c136
                  have c136b1 : (t248 != t233) = false := bne_eq_false_iff_eq.mpr c136
                  clear c136
                  obtain rfl := Option.some.inj H
                  have hnb137 := NB218_194.out
                  have hnc137 := NB194_218.out
                  have hnb138 := NB218_206.out
                  have hnc138 := NB206_218.out
                  have hnb139 := NB218_210.out
                  have hnc139 := NB210_218.out
                  have hnb140 := NB218_246.out
                  have hnc140 := NB246_218.out
                  have hcz141_0 : wc.cell? ⟨gb218, 0, none⟩ = some (.slice Ao42 t234.length co42) := bc_ BK218 0
                  have hfz141_0 := blk_frozen BK218.out 0
                  go_wp2_with (first | ((with_reducible refine gate_callee (f := 44) rfl ?_); refine goesL_ (some 111) rfl rfl Try.func44 (by kernel_rfl) rfl #[.agg #[.slice Ao42 t234.length co42], .int .i64 1] rfl (by (try simp only [List.map_toArray, List.map_cons, List.map_nil]); first | done | rfl | (simp only [List.length_drop, List.length_take]; rfl)) ?_; (with_reducible refine (laws_heldDisk.calls kj97 _ _ t234 1 t248 _ ?side1 ?side2 A134.out).mono ?_); (case side1 => repeat (first | exact (Kd.R_reads' HO_219000.out).2.2 | (with_reducible refine Kd.C_alloc ?_ _) | (with_reducible refine Kd.C_drewN ?_ _) | (with_reducible refine Kd.C_drew ?_))); (case side2 => exact (Kd.R_reads' HO_219000.out).2.1); rintro e w142 ⟨rfl, hb⟩; refine ⟨_, rfl, ?_⟩; replace HO_207000 := rb_ HO_207000 hb; replace HO_211000 := rb_ HO_211000 hb; replace HO_219000 := rb_ HO_219000 hb; replace HO_247000 := rb_ HO_247000 hb; replace BK194 := bb_ BK194 hb; replace BK206 := bb_ BK206 hb; replace BK210 := bb_ BK210 hb; replace BK218 := bb_ BK218 hb; replace BK246 := bb_ BK246 hb; replace HB := bs_ HB hb; (try clear hb)))
                  go_ret
                  exact ⟨by first | rfl | (simp [errW_none, errW_some] <;> rfl) | (simp [*, errW_none, errW_some] <;> rfl), by repeat (first | (with_reducible first | exact HB.out | apply below_alloc | apply pw_below_drewN | apply below_drew1 | refine below_set ?_ GE194.out | refine below_set ?_ GE206.out | refine below_set ?_ GE210.out | refine below_set ?_ GE218.out | refine below_set ?_ GE246.out) | exact HB.out)⟩
                 ·rw [if_neg c136] at H
                  exact absurd H (by simp)
            ·rw [if_neg c94] at H
             exact absurd H (by simp)
       ·replace c63 := Bool.eq_false_iff.mpr c63
        subst c63
        have H1 : (none) = some r := by rw [if_neg (show ¬ (false = true) by decide)] at H; exact H
        clear H
        have H := H1
        clear H1
        exact absurd H (by simp)
      ·replace c60 := Bool.eq_false_iff.mpr c60
       subst c60
       have H1 : (none) = some r := by rw [if_neg (show ¬ (false = true) by decide)] at H; exact H
       clear H
       have H := H1
       clear H1
       exact absurd H (by simp)

end Go.Proofs.Ytknbkjajfiediaa.QFnExactLoseDisk
