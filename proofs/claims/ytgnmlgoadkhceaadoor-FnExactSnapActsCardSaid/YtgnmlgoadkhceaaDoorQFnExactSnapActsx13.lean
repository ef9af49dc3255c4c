/- Written by this session's own program (wip/tpl/pp.py): what the law's functions come to, and that the machine's calls do just that. -/
import Derived.Test.YtgnmlgoadkhceaaDoorQFnExactSnapActsx0
import Derived.Test.YtgnmlgoadkhceaaDoorQFnExactSnapActsx1
import Derived.Test.YtgnmlgoadkhceaaDoorQFnExactSnapActsx5
import Derived.Test.YtgnmlgoadkhceaaDoorQFnExactSnapActsx6
import Derived.Test.YtgnmlgoadkhceaaDoorQFnExactSnapActsx9
import Derived.Test.YtgnmlgoadkhceaaDoorQFnExactSnapActsx10
import Derived.Test.YtgnmlgoadkhceaaDoorQFnExactSnapActsx11
import Derived.Test.YtgnmlgoadkhceaaDoorQFnExactSnapActsx12
namespace Go.Proofs.YtgnmlgoadkhceaaDoor.QFnExactSnapActs
open Go.RowKit Go.Proofs.YtgnmlgoadkhceaaDoorW.PrintWords Go.Proofs.YtgnmlgoadkhceaaDoorW.PrintLast Go.Proofs.YtgnmlgoadkhceaaDoorW.PrintMore
attribute [local go_sem] Go.Proofs.YtgnmlgoadkhceaaDoor.Sem.string_geq Go.Proofs.YtgnmlgoadkhceaaDoor.Sem.string_leq Go.Proofs.YtgnmlgoadkhceaaDoor.Sem.string_gtr
attribute [local go_sem] max2_int min2_int max_two min_two max_three min_three max_four min_four   -- for this text's walks alone
set_option linter.unusedVariables false
set_option linter.unusedSimpArgs false

/-! ### laws_FnExactSnapActs: function 8 -/
mutual
def laws_FnExactSnapActs.j0 : Nat → List (S82) → Bool → List (S82) → Bool → Bool → List (S99) → Int → Int → List Int → ByteArray → List (S88) → Int → Int → List Int → ByteArray → Option (Bool)
 | 0, _, _, _, _, _, _, _, _, _, _, _, _, _, _, _ => none
 | k + 1, x6, x7, x10, x11, x53, x380000, x381000, x381001, x381002, x381003, x400000, x407000, x407001, x407002, x407003 => if x53 = true then (none) else ((laws_toDisk.f k x380000).bind fun t412 => ((laws_eqDisk.f k x400000 t412).bind fun t415 => (if t415 = true then ((laws_toSnap.f k x381000 x381001 x381002 x381003).bind fun bt416 => ((laws_eqSnap.f k x407000 x407001 x407002 x407003 bt416.1 bt416.2.1 bt416.2.2.1 bt416.2.2.2).bind fun t422 => (if t422 = true then ((laws_markDisk.f k x400000 1).bind fun bt423 => ((laws_markSnap.f k x407000 x407001 x407002 x407003 bt423.1).bind fun bt425 => (if bt425.1 < 0 then (none) else ((laws_eqActS.f k x10 x6).bind fun t427 => (if t427 = true then (laws_FnExactSnapActs.j1 k x6 x7 x10 (x11 != x7) x380000 x381000 x381001 x381002 x381003) else (none)))))) else (none)))) else (none))))
def laws_FnExactSnapActs.j1 : Nat → List (S82) → Bool → List (S82) → Bool → List (S99) → Int → Int → List Int → ByteArray → Option (Bool)
 | 0, _, _, _, _, _, _, _, _, _ => none
 | k + 1, x6, x7, x10, x82, x380000, x381000, x381001, x381002, x381003 => if x82 = true then (none) else ((laws_markActS.f k x10 1).bind fun bt428 => ((laws_heldActS.f k bt428.2 1).bind fun t430 => (if t430 < 0 then (none) else (if t430 = bt428.1 then ((laws_toDisk.f k x380000).bind fun t431 => ((laws_toSnap.f k x381000 x381001 x381002 x381003).bind fun bt434 => ((impl_SnapActs.f k t431 bt434.1 bt434.2.1 bt434.2.2.1 bt434.2.2.2).bind fun bt440 => ((laws_eqActS.f k bt440.1 x6).bind fun t444 => (if t444 = true then (laws_FnExactSnapActs.j2 k bt428.2 bt428.1 (bt440.2 != x7)) else (none)))))) else (none)))))
def laws_FnExactSnapActs.j2 : Nat → List (S82) → Int → Bool → Option (Bool)
 | 0, _, _, _ => none
 | k + 1, x10, x13, x110 => if x110 = true then (none) else ((laws_heldActS.f k x10 1).bind fun t445 => (if t445 < 0 then (none) else (if t445 = x13 then (some true) else (none))))
end
def laws_FnExactSnapActs.f (k : Nat) (l0_0 : List (S99)) (a1_0 : Int) (a1_1 : Int) (l1_2 : List Int) (a1_3 : ByteArray) : Option (Bool) := (laws_szDisk.f k l0_0 1048576).bind fun t381 => (if t381 < 0 then (some true) else ((laws_szSnap.f a1_0 a1_1 l1_2 a1_3 t381).bind fun t382 => (if t382 < 0 then (some true) else ((laws_toDisk.f k l0_0).bind fun t383 => ((laws_toSnap.f k a1_0 a1_1 l1_2 a1_3).bind fun bt386 => ((spec_SnapActs.f k t383 bt386.1 bt386.2.1 bt386.2.2.1 bt386.2.2.2).bind fun bt392 => ((laws_toDisk.f k l0_0).bind fun t396 => ((laws_toSnap.f k a1_0 a1_1 l1_2 a1_3).bind fun bt400 => ((impl_SnapActs.f k t396 bt400.1 bt400.2.1 bt400.2.2.1 bt400.2.2.2).bind fun bt407 => ((laws_eqActS.f k bt407.1 bt392.1).bind fun t411 => (if t411 = true then (laws_FnExactSnapActs.j0 k bt392.1 bt392.2 bt407.1 bt407.2 (bt407.2 != bt392.2) l0_0 a1_0 a1_1 l1_2 a1_3 t396 bt400.1 bt400.2.1 bt400.2.2.1 bt400.2.2.2) else (none))))))))))))
theorem laws_FnExactSnapActs.mono_l : ∀ k, (∀ y0 y1 y2 y3 y4 y5 y6 y7 y8 y9 y10 y11 y12 y13 y14, LeO (laws_FnExactSnapActs.j0 k y0 y1 y2 y3 y4 y5 y6 y7 y8 y9 y10 y11 y12 y13 y14) (laws_FnExactSnapActs.j0 (k + 1) y0 y1 y2 y3 y4 y5 y6 y7 y8 y9 y10 y11 y12 y13 y14)) ∧ (∀ y0 y1 y2 y3 y4 y5 y6 y7 y8, LeO (laws_FnExactSnapActs.j1 k y0 y1 y2 y3 y4 y5 y6 y7 y8) (laws_FnExactSnapActs.j1 (k + 1) y0 y1 y2 y3 y4 y5 y6 y7 y8)) ∧ (∀ y0 y1 y2, LeO (laws_FnExactSnapActs.j2 k y0 y1 y2) (laws_FnExactSnapActs.j2 (k + 1) y0 y1 y2))
 | 0 => ⟨fun _ _ _ _ _ _ _ _ _ _ _ _ _ _ _ r h => by simp [laws_FnExactSnapActs.j0] at h, fun _ _ _ _ _ _ _ _ _ r h => by simp [laws_FnExactSnapActs.j1] at h, fun _ _ _ r h => by simp [laws_FnExactSnapActs.j2] at h⟩
 | k + 1 => by
  obtain ⟨ih0, ih1, ih2⟩ := laws_FnExactSnapActs.mono_l k
  refine ⟨?_, ?_, ?_⟩
  ·intro y0 y1 y2 y3 y4 y5 y6 y7 y8 y9 y10 y11 y12 y13 y14
   unfold laws_FnExactSnapActs.j0
   repeat' first
   | (with_reducible exact ih0 _ _ _ _ _ _ _ _ _ _ _ _ _ _ _)
   | (with_reducible exact ih1 _ _ _ _ _ _ _ _ _)
   | (with_reducible exact ih2 _ _ _)
   | (with_reducible exact impl_SnapActs.mono _ _ _ _ _ _)
   | (with_reducible exact laws_eqActS.mono _ _ _)
   | (with_reducible exact laws_eqDisk.mono _ _ _)
   | (with_reducible exact laws_eqSnap.mono _ _ _ _ _ _ _ _ _)
   | (with_reducible exact laws_heldActS.mono _ _ _)
   | (with_reducible exact laws_markActS.mono _ _ _)
   | (with_reducible exact laws_markDisk.mono _ _ _)
   | (with_reducible exact laws_markSnap.mono _ _ _ _ _ _)
   | (with_reducible exact laws_szDisk.mono _ _ _)
   | (with_reducible exact laws_toDisk.mono _ _)
   | (with_reducible exact laws_toSnap.mono _ _ _ _ _)
   | (with_reducible exact spec_SnapActs.mono _ _ _ _ _ _)
   | (with_reducible exact LeO.refl _)
   | (with_reducible exact LeO.none _)
   | (with_reducible refine LeO.ite ?_ ?_)
   | (with_reducible refine LeO.bind ?_ (fun _ => ?_))
   | exact ih0 _ _ _ _ _ _ _ _ _ _ _ _ _ _ _
   | exact ih1 _ _ _ _ _ _ _ _ _
   | exact ih2 _ _ _
   | exact impl_SnapActs.mono _ _ _ _ _ _
   | exact laws_eqActS.mono _ _ _
   | exact laws_eqDisk.mono _ _ _
   | exact laws_eqSnap.mono _ _ _ _ _ _ _ _ _
   | exact laws_heldActS.mono _ _ _
   | exact laws_markActS.mono _ _ _
   | exact laws_markDisk.mono _ _ _
   | exact laws_markSnap.mono _ _ _ _ _ _
   | exact laws_szDisk.mono _ _ _
   | exact laws_toDisk.mono _ _
   | exact laws_toSnap.mono _ _ _ _ _
   | exact spec_SnapActs.mono _ _ _ _ _ _
   | exact LeO.none _
   | refine LeO.ite ?_ ?_
   | refine LeO.bind ?_ (fun _ => ?_)
  ·intro y0 y1 y2 y3 y4 y5 y6 y7 y8
   unfold laws_FnExactSnapActs.j1
   repeat' first
   | (with_reducible exact ih0 _ _ _ _ _ _ _ _ _ _ _ _ _ _ _)
   | (with_reducible exact ih1 _ _ _ _ _ _ _ _ _)
   | (with_reducible exact ih2 _ _ _)
   | (with_reducible exact impl_SnapActs.mono _ _ _ _ _ _)
   | (with_reducible exact laws_eqActS.mono _ _ _)
   | (with_reducible exact laws_eqDisk.mono _ _ _)
   | (with_reducible exact laws_eqSnap.mono _ _ _ _ _ _ _ _ _)
   | (with_reducible exact laws_heldActS.mono _ _ _)
   | (with_reducible exact laws_markActS.mono _ _ _)
   | (with_reducible exact laws_markDisk.mono _ _ _)
   | (with_reducible exact laws_markSnap.mono _ _ _ _ _ _)
   | (with_reducible exact laws_szDisk.mono _ _ _)
   | (with_reducible exact laws_toDisk.mono _ _)
   | (with_reducible exact laws_toSnap.mono _ _ _ _ _)
   | (with_reducible exact spec_SnapActs.mono _ _ _ _ _ _)
   | (with_reducible exact LeO.refl _)
   | (with_reducible exact LeO.none _)
   | (with_reducible refine LeO.ite ?_ ?_)
   | (with_reducible refine LeO.bind ?_ (fun _ => ?_))
   | exact ih0 _ _ _ _ _ _ _ _ _ _ _ _ _ _ _
   | exact ih1 _ _ _ _ _ _ _ _ _
   | exact ih2 _ _ _
   | exact impl_SnapActs.mono _ _ _ _ _ _
   | exact laws_eqActS.mono _ _ _
   | exact laws_eqDisk.mono _ _ _
   | exact laws_eqSnap.mono _ _ _ _ _ _ _ _ _
   | exact laws_heldActS.mono _ _ _
   | exact laws_markActS.mono _ _ _
   | exact laws_markDisk.mono _ _ _
   | exact laws_markSnap.mono _ _ _ _ _ _
   | exact laws_szDisk.mono _ _ _
   | exact laws_toDisk.mono _ _
   | exact laws_toSnap.mono _ _ _ _ _
   | exact spec_SnapActs.mono _ _ _ _ _ _
   | exact LeO.none _
   | refine LeO.ite ?_ ?_
   | refine LeO.bind ?_ (fun _ => ?_)
  ·intro y0 y1 y2
   unfold laws_FnExactSnapActs.j2
   repeat' first
   | (with_reducible exact ih0 _ _ _ _ _ _ _ _ _ _ _ _ _ _ _)
   | (with_reducible exact ih1 _ _ _ _ _ _ _ _ _)
   | (with_reducible exact ih2 _ _ _)
   | (with_reducible exact impl_SnapActs.mono _ _ _ _ _ _)
   | (with_reducible exact laws_eqActS.mono _ _ _)
   | (with_reducible exact laws_eqDisk.mono _ _ _)
   | (with_reducible exact laws_eqSnap.mono _ _ _ _ _ _ _ _ _)
   | (with_reducible exact laws_heldActS.mono _ _ _)
   | (with_reducible exact laws_markActS.mono _ _ _)
   | (with_reducible exact laws_markDisk.mono _ _ _)
   | (with_reducible exact laws_markSnap.mono _ _ _ _ _ _)
   | (with_reducible exact laws_szDisk.mono _ _ _)
   | (with_reducible exact laws_toDisk.mono _ _)
   | (with_reducible exact laws_toSnap.mono _ _ _ _ _)
   | (with_reducible exact spec_SnapActs.mono _ _ _ _ _ _)
   | (with_reducible exact LeO.refl _)
   | (with_reducible exact LeO.none _)
   | (with_reducible refine LeO.ite ?_ ?_)
   | (with_reducible refine LeO.bind ?_ (fun _ => ?_))
   | exact ih0 _ _ _ _ _ _ _ _ _ _ _ _ _ _ _
   | exact ih1 _ _ _ _ _ _ _ _ _
   | exact ih2 _ _ _
   | exact impl_SnapActs.mono _ _ _ _ _ _
   | exact laws_eqActS.mono _ _ _
   | exact laws_eqDisk.mono _ _ _
   | exact laws_eqSnap.mono _ _ _ _ _ _ _ _ _
   | exact laws_heldActS.mono _ _ _
   | exact laws_markActS.mono _ _ _
   | exact laws_markDisk.mono _ _ _
   | exact laws_markSnap.mono _ _ _ _ _ _
   | exact laws_szDisk.mono _ _ _
   | exact laws_toDisk.mono _ _
   | exact laws_toSnap.mono _ _ _ _ _
   | exact spec_SnapActs.mono _ _ _ _ _ _
   | exact LeO.none _
   | refine LeO.ite ?_ ?_
   | refine LeO.bind ?_ (fun _ => ?_)
theorem laws_FnExactSnapActs.mono : ∀ a0 a1 a2 a3 a4 k, LeO (laws_FnExactSnapActs.f k a0 a1 a2 a3 a4) (laws_FnExactSnapActs.f (k + 1) a0 a1 a2 a3 a4) := by
 intro a0 a1 a2 a3 a4 k
 obtain ⟨ih0, ih1, ih2⟩ := laws_FnExactSnapActs.mono_l k
 unfold laws_FnExactSnapActs.f
 repeat' first
   | (with_reducible exact ih0 _ _ _ _ _ _ _ _ _ _ _ _ _ _ _)
   | (with_reducible exact ih1 _ _ _ _ _ _ _ _ _)
   | (with_reducible exact ih2 _ _ _)
   | (with_reducible exact impl_SnapActs.mono _ _ _ _ _ _)
   | (with_reducible exact laws_eqActS.mono _ _ _)
   | (with_reducible exact laws_eqDisk.mono _ _ _)
   | (with_reducible exact laws_eqSnap.mono _ _ _ _ _ _ _ _ _)
   | (with_reducible exact laws_heldActS.mono _ _ _)
   | (with_reducible exact laws_markActS.mono _ _ _)
   | (with_reducible exact laws_markDisk.mono _ _ _)
   | (with_reducible exact laws_markSnap.mono _ _ _ _ _ _)
   | (with_reducible exact laws_szDisk.mono _ _ _)
   | (with_reducible exact laws_toDisk.mono _ _)
   | (with_reducible exact laws_toSnap.mono _ _ _ _ _)
   | (with_reducible exact spec_SnapActs.mono _ _ _ _ _ _)
   | (with_reducible exact LeO.refl _)
   | (with_reducible exact LeO.none _)
   | (with_reducible refine LeO.ite ?_ ?_)
   | (with_reducible refine LeO.bind ?_ (fun _ => ?_))
   | exact ih0 _ _ _ _ _ _ _ _ _ _ _ _ _ _ _
   | exact ih1 _ _ _ _ _ _ _ _ _
   | exact ih2 _ _ _
   | exact impl_SnapActs.mono _ _ _ _ _ _
   | exact laws_eqActS.mono _ _ _
   | exact laws_eqDisk.mono _ _ _
   | exact laws_eqSnap.mono _ _ _ _ _ _ _ _ _
   | exact laws_heldActS.mono _ _ _
   | exact laws_markActS.mono _ _ _
   | exact laws_markDisk.mono _ _ _
   | exact laws_markSnap.mono _ _ _ _ _ _
   | exact laws_szDisk.mono _ _ _
   | exact laws_toDisk.mono _ _
   | exact laws_toSnap.mono _ _ _ _ _
   | exact spec_SnapActs.mono _ _ _ _ _ _
   | exact LeO.none _
   | refine LeO.ite ?_ ?_
   | refine LeO.bind ?_ (fun _ => ?_)
def laws_FnExactSnapActs.T8 : Bool × List (List Nat × List Nat) := (true, [([], []), ([0], [0]), ([], []), ([2, 1], [2]), ([1, 3, 3], [1, 3]), ([4], [4]), ([5], [5]), ([5], [5]), ([6, 4, 0, 1, 2, 3, 4, 5, 6], [6]), ([7, 8, 0, 1, 2, 3, 4, 5, 6, 7, 8], [7])])
def laws_FnExactSnapActs.B8 : List Nat := [0, 1, 0, 7, 15, 31, 63, 63, 127, 511]
theorem laws_FnExactSnapActs.tab8 : rtab .any (opsOf Tryd.f8 8) = laws_FnExactSnapActs.T8 := by kernel_rfl
theorem laws_FnExactSnapActs.bits8 : waitsOk laws_FnExactSnapActs.T8.2 laws_FnExactSnapActs.B8 = true := by kernel_rfl
def laws_FnExactSnapActs.T31 : Bool × List (List Nat × List Nat) := (true, [([], []), ([0], [0]), ([], []), ([2, 1], [2]), ([1, 3, 3], [1, 3]), ([4], [4]), ([5], [5]), ([5], [5]), ([6, 4, 0, 1, 2, 3, 4, 5, 6], [6]), ([7, 8, 0, 1, 2, 3, 4, 5, 6, 7, 8], [7])])
def laws_FnExactSnapActs.B31 : List Nat := [0, 1, 0, 7, 15, 31, 63, 63, 127, 511]
theorem laws_FnExactSnapActs.tab31 : rtab .any (opsOf Tryd.f8 31) = laws_FnExactSnapActs.T31 := by kernel_rfl
theorem laws_FnExactSnapActs.bits31 : waitsOk laws_FnExactSnapActs.T31.2 laws_FnExactSnapActs.B31 = true := by kernel_rfl
set_option maxHeartbeats 8000000 in
set_option maxRecDepth 100000 in
theorem laws_FnExactSnapActs.calls (k : Nat) (A0_0 : Option Addr) (c0_0 : Nat) (l0_0 : List (S99)) (a1_0 : Int) (a1_1 : Int) (A1_2 : Option Addr) (c1_2 : Nat) (l1_2 : List Int) (a1_3 : ByteArray) (r : Bool) (w : World) (hT : Tab2 w) (hr0_0 : Kd.C k99 w A0_0 l0_0.length l0_0) (hc0_0 : l0_0.length ≤ c0_0) (hr1_2 : Kd.C (Kd.int .i64) w A1_2 l1_2.length l1_2) (hc1_2 : l1_2.length ≤ c1_2) (h : laws_FnExactSnapActs.f k l0_0 a1_0 a1_1 l1_2 a1_3 = some r) :
  Calls Tryd.prog 8 #[.agg #[.slice A0_0 l0_0.length c0_0], .agg #[.int .i64 a1_0, .int .i64 a1_1, .slice A1_2 l1_2.length c1_2, .string a1_3]] w fun e w' => e = .returned (.bool r) ∧ Below w.heap.size w w' := by
 have hu40 := Tryd.underlying40
 have hu43 := Tryd.underlying43
 have hu51 := Tryd.underlying51
 have hu53 := Tryd.underlying53
 have HR0_0 := Aside0.mk hr0_0
 have HC0_0 := Aside0.mk hc0_0
 clear hr0_0 hc0_0
 have HR1_2 := Aside0.mk hr1_2
 have HC1_2 := Aside0.mk hc1_2
 clear hr1_2 hc1_2
 have HT := Aside0.mk hT
 clear hT
 have HB := mk_ (Below.refl w.heap.size w)
 have H : ((laws_szDisk.f k l0_0 1048576).bind fun t381 => (if t381 < 0 then (some true) else ((laws_szSnap.f a1_0 a1_1 l1_2 a1_3 t381).bind fun t382 => (if t382 < 0 then (some true) else ((laws_toDisk.f k l0_0).bind fun t383 => ((laws_toSnap.f k a1_0 a1_1 l1_2 a1_3).bind fun bt386 => ((spec_SnapActs.f k t383 bt386.1 bt386.2.1 bt386.2.2.1 bt386.2.2.2).bind fun bt392 => ((laws_toDisk.f k l0_0).bind fun t396 => ((laws_toSnap.f k a1_0 a1_1 l1_2 a1_3).bind fun bt400 => ((impl_SnapActs.f k t396 bt400.1 bt400.2.1 bt400.2.2.1 bt400.2.2.2).bind fun bt407 => ((laws_eqActS.f k bt407.1 bt392.1).bind fun t411 => (if t411 = true then (laws_FnExactSnapActs.j0 k bt392.1 bt392.2 bt407.1 bt407.2 (bt407.2 != bt392.2) l0_0 a1_0 a1_1 l1_2 a1_3 t396 bt400.1 bt400.2.1 bt400.2.2.1 bt400.2.2.2) else (none))))))))))))) = some r := h
 clear h
 replace H := Option.bind_eq_some_iff.mp H
 obtain ⟨t381, A30, H⟩ := H
 replace H : (if t381 < 0 then (some true) else ((laws_szSnap.f a1_0 a1_1 l1_2 a1_3 t381).bind fun t382 => (if t382 < 0 then (some true) else ((laws_toDisk.f k l0_0).bind fun t383 => ((laws_toSnap.f k a1_0 a1_1 l1_2 a1_3).bind fun bt386 => ((spec_SnapActs.f k t383 bt386.1 bt386.2.1 bt386.2.2.1 bt386.2.2.2).bind fun bt392 => ((laws_toDisk.f k l0_0).bind fun t396 => ((laws_toSnap.f k a1_0 a1_1 l1_2 a1_3).bind fun bt400 => ((impl_SnapActs.f k t396 bt400.1 bt400.2.1 bt400.2.2.1 bt400.2.2.2).bind fun bt407 => ((laws_eqActS.f k bt407.1 bt392.1).bind fun t411 => (if t411 = true then (laws_FnExactSnapActs.j0 k bt392.1 bt392.2 bt407.1 bt407.2 (bt407.2 != bt392.2) l0_0 a1_0 a1_1 l1_2 a1_3 t396 bt400.1 bt400.2.1 bt400.2.2.1 bt400.2.2.2) else (none)))))))))))) = some r := H
 have A3 := Aside0.mk A30
 clear A30
 by_cases c4 : t381 < 0
 ·rw [if_pos c4] at H
  have c4b0 : decide (t381 < 0) = true := decide_eq_true c4
  clear c4
  obtain rfl := Option.some.inj H
  go_enter Tryd.func8, Tryd.ntmps8
  go_wp2_with (first | ((with_reducible refine gate_dst (N := 2) rfl ?_); refine box_event ?hg (N := 2) ?hd (cs := #[.slice A0_0 l0_0.length c0_0]) (t := 40) ?hr ?_; (case hd => rfl); (case hg => rfl); (case hr => first | (go_simp; done) | (go_simp; rfl)); intro gb379 hg w5 hbox hb; have BK379 := mk_ (hbox); have GW379 : Aside0 (w.heap.size ≤ gb379) := bz_ hg; have GE379 : Aside0 (w.heap.size ≤ gb379) := bz_ hg; replace HB := bs_ HB hb; clear hb hbox hg) | ((with_reducible refine gate_dst (N := 3) rfl ?_); refine box_event ?hg (N := 3) ?hd (cs := #[.int .i64 a1_0, .int .i64 a1_1, .slice A1_2 l1_2.length c1_2, .string a1_3]) (t := 43) ?hr ?_; (case hd => rfl); (case hg => rfl); (case hr => first | (go_simp; done) | (go_simp; rfl)); intro gb380 hg w6 hbox hb; have BK380 := mk_ (hbox); have GW380 : Aside0 (w.heap.size ≤ gb380) := bz_ hg; have GE380 : Aside0 (w.heap.size ≤ gb380) := bz_ hg; have NB379_380 : Aside0 (gb379 ≠ gb380) := bl_ BK379 hg; have NB380_379 : Aside0 (gb380 ≠ gb379) := bg_ BK379 hg; replace BK379 := bb_ BK379 hb; replace HB := bs_ HB hb; clear hb hbox hg; have hnb7 := NB379_380.out; have hnc7 := NB380_379.out; have hcz8_0 : w6.cell? ⟨gb379, 0, none⟩ = some (.slice A0_0 l0_0.length c0_0) := bc_ BK379 0; have hfz8_0 := blk_frozen BK379.out 0) | ((with_reducible refine gate_callee (f := 26) rfl ?_); refine goesL_ (some 19) rfl rfl Tryd.func26 (by kernel_rfl) rfl #[.agg #[.slice A0_0 l0_0.length c0_0], .int .i64 1048576] rfl (by (try simp only [List.map_toArray, List.map_cons, List.map_nil]); first | done | rfl | (simp only [List.length_drop, List.length_take]; rfl)) ?_; (with_reducible refine (laws_szDisk.calls k _ _ l0_0 1048576 t381 _ ?side1 ?side2 A3.out).mono ?_); (case side1 => repeat (first | exact (Kd.C_below HR0_0.out HB.out) | (with_reducible refine Kd.C_alloc ?_ _) | (with_reducible refine Kd.C_drewN ?_ _) | (with_reducible refine Kd.C_drew ?_))); (case side2 => exact HC0_0.out); rintro e w9 ⟨rfl, hb⟩; refine ⟨_, rfl, ?_⟩; replace BK379 := bb_ BK379 hb; replace BK380 := bb_ BK380 hb; replace HB := bs_ HB hb; (try clear hb)))
  go_ret
  exact ⟨by first | rfl | (simp [errW_none, errW_some] <;> rfl) | (simp [*, errW_none, errW_some] <;> rfl), by repeat (first | (with_reducible first | exact HB.out | apply below_alloc | apply pw_below_drewN | apply below_drew1 | refine below_set ?_ GE379.out | refine below_set ?_ GE380.out) | exact HB.out)⟩
 ·rw [if_neg c4] at H
  have c4b0 : decide (t381 < 0) = false := decide_eq_false c4
  clear c4
  replace H := Option.bind_eq_some_iff.mp H
  obtain ⟨t382, A100, H⟩ := H
  replace H : (if t382 < 0 then (some true) else ((laws_toDisk.f k l0_0).bind fun t383 => ((laws_toSnap.f k a1_0 a1_1 l1_2 a1_3).bind fun bt386 => ((spec_SnapActs.f k t383 bt386.1 bt386.2.1 bt386.2.2.1 bt386.2.2.2).bind fun bt392 => ((laws_toDisk.f k l0_0).bind fun t396 => ((laws_toSnap.f k a1_0 a1_1 l1_2 a1_3).bind fun bt400 => ((impl_SnapActs.f k t396 bt400.1 bt400.2.1 bt400.2.2.1 bt400.2.2.2).bind fun bt407 => ((laws_eqActS.f k bt407.1 bt392.1).bind fun t411 => (if t411 = true then (laws_FnExactSnapActs.j0 k bt392.1 bt392.2 bt407.1 bt407.2 (bt407.2 != bt392.2) l0_0 a1_0 a1_1 l1_2 a1_3 t396 bt400.1 bt400.2.1 bt400.2.2.1 bt400.2.2.2) else (none)))))))))) = some r := H
  have A10 := Aside0.mk A100
  clear A100
  by_cases c11 : t382 < 0
  ·rw [if_pos c11] at H
   have c11b0 : decide (t382 < 0) = true := decide_eq_true c11
   clear c11
   obtain rfl := Option.some.inj H
   go_enter Tryd.func8, Tryd.ntmps8
   go_wp2_with (first | ((with_reducible refine gate_dst (N := 2) rfl ?_); refine box_event ?hg (N := 2) ?hd (cs := #[.slice A0_0 l0_0.length c0_0]) (t := 40) ?hr ?_; (case hd => rfl); (case hg => rfl); (case hr => first | (go_simp; done) | (go_simp; rfl)); intro gb379 hg w12 hbox hb; have BK379 := mk_ (hbox); have GW379 : Aside0 (w.heap.size ≤ gb379) := bz_ hg; have GE379 : Aside0 (w.heap.size ≤ gb379) := bz_ hg; replace HB := bs_ HB hb; clear hb hbox hg) | ((with_reducible refine gate_dst (N := 3) rfl ?_); refine box_event ?hg (N := 3) ?hd (cs := #[.int .i64 a1_0, .int .i64 a1_1, .slice A1_2 l1_2.length c1_2, .string a1_3]) (t := 43) ?hr ?_; (case hd => rfl); (case hg => rfl); (case hr => first | (go_simp; done) | (go_simp; rfl)); intro gb380 hg w13 hbox hb; have BK380 := mk_ (hbox); have GW380 : Aside0 (w.heap.size ≤ gb380) := bz_ hg; have GE380 : Aside0 (w.heap.size ≤ gb380) := bz_ hg; have NB379_380 : Aside0 (gb379 ≠ gb380) := bl_ BK379 hg; have NB380_379 : Aside0 (gb380 ≠ gb379) := bg_ BK379 hg; replace BK379 := bb_ BK379 hb; replace HB := bs_ HB hb; clear hb hbox hg; have hnb14 := NB379_380.out; have hnc14 := NB380_379.out; have hcz15_0 : w13.cell? ⟨gb379, 0, none⟩ = some (.slice A0_0 l0_0.length c0_0) := bc_ BK379 0; have hfz15_0 := blk_frozen BK379.out 0) | ((with_reducible refine gate_callee (f := 26) rfl ?_); refine goesL_ (some 19) rfl rfl Tryd.func26 (by kernel_rfl) rfl #[.agg #[.slice A0_0 l0_0.length c0_0], .int .i64 1048576] rfl (by (try simp only [List.map_toArray, List.map_cons, List.map_nil]); first | done | rfl | (simp only [List.length_drop, List.length_take]; rfl)) ?_; (with_reducible refine (laws_szDisk.calls k _ _ l0_0 1048576 t381 _ ?side1 ?side2 A3.out).mono ?_); (case side1 => repeat (first | exact (Kd.C_below HR0_0.out HB.out) | (with_reducible refine Kd.C_alloc ?_ _) | (with_reducible refine Kd.C_drewN ?_ _) | (with_reducible refine Kd.C_drew ?_))); (case side2 => exact HC0_0.out); rintro e w16 ⟨rfl, hb⟩; refine ⟨_, rfl, ?_⟩; replace BK379 := bb_ BK379 hb; replace BK380 := bb_ BK380 hb; replace HB := bs_ HB hb; (try clear hb); have hcz17_0 : w16.cell? ⟨gb380, 0, none⟩ = some (.int .i64 a1_0) := bc_ BK380 0; have hcz17_1 : w16.cell? ⟨gb380, 1, none⟩ = some (.int .i64 a1_1) := bc_ BK380 1; have hcz17_2 : w16.cell? ⟨gb380, 2, none⟩ = some (.slice A1_2 l1_2.length c1_2) := bc_ BK380 2; have hcz17_3 : w16.cell? ⟨gb380, 3, none⟩ = some (.string a1_3) := bc_ BK380 3; have hfz17_0 := blk_frozen BK380.out 0; have hfz17_1 := blk_frozen BK380.out 1; have hfz17_2 := blk_frozen BK380.out 2; have hfz17_3 := blk_frozen BK380.out 3) | ((with_reducible refine gate_callee (f := 27) rfl ?_); refine goesL_ (some 24) rfl rfl Tryd.func27 (by kernel_rfl) rfl #[.agg #[.int .i64 a1_0, .int .i64 a1_1, .slice A1_2 l1_2.length c1_2, .string a1_3], .int .i64 t381] rfl (by (try simp only [List.map_toArray, List.map_cons, List.map_nil]); first | done | rfl | (simp only [List.length_drop, List.length_take]; rfl)) ?_; (with_reducible refine (laws_szSnap.calls a1_0 a1_1 _ _ l1_2 a1_3 t381 t382 _ ?side1 ?side2 A10.out).mono ?_); (case side1 => repeat (first | exact (Kd.C_below HR1_2.out HB.out) | (with_reducible refine Kd.C_alloc ?_ _) | (with_reducible refine Kd.C_drewN ?_ _) | (with_reducible refine Kd.C_drew ?_))); (case side2 => exact HC1_2.out); rintro e w18 ⟨rfl, hb⟩; refine ⟨_, rfl, ?_⟩; replace BK379 := bb_ BK379 hb; replace BK380 := bb_ BK380 hb; replace HB := bs_ HB hb; (try clear hb)))
   go_ret
   exact ⟨by first | rfl | (simp [errW_none, errW_some] <;> rfl) | (simp [*, errW_none, errW_some] <;> rfl), by repeat (first | (with_reducible first | exact HB.out | apply below_alloc | apply pw_below_drewN | apply below_drew1 | refine below_set ?_ GE379.out | refine below_set ?_ GE380.out) | exact HB.out)⟩
  ·rw [if_neg c11] at H
   have c11b0 : decide (t382 < 0) = false := decide_eq_false c11
   clear c11
   replace H := Option.bind_eq_some_iff.mp H
   obtain ⟨t383, A190, H⟩ := H
   replace H : ((laws_toSnap.f k a1_0 a1_1 l1_2 a1_3).bind fun bt386 => ((spec_SnapActs.f k t383 bt386.1 bt386.2.1 bt386.2.2.1 bt386.2.2.2).bind fun bt392 => ((laws_toDisk.f k l0_0).bind fun t396 => ((laws_toSnap.f k a1_0 a1_1 l1_2 a1_3).bind fun bt400 => ((impl_SnapActs.f k t396 bt400.1 bt400.2.1 bt400.2.2.1 bt400.2.2.2).bind fun bt407 => ((laws_eqActS.f k bt407.1 bt392.1).bind fun t411 => (if t411 = true then (laws_FnExactSnapActs.j0 k bt392.1 bt392.2 bt407.1 bt407.2 (bt407.2 != bt392.2) l0_0 a1_0 a1_1 l1_2 a1_3 t396 bt400.1 bt400.2.1 bt400.2.2.1 bt400.2.2.2) else (none)))))))) = some r := H
   have A19 := Aside0.mk A190
   clear A190
   replace H := Option.bind_eq_some_iff.mp H
   obtain ⟨⟨t386, t387, t388, t391⟩, A200, H⟩ := H
   replace H : ((spec_SnapActs.f k t383 t386 t387 t388 t391).bind fun bt392 => ((laws_toDisk.f k l0_0).bind fun t396 => ((laws_toSnap.f k a1_0 a1_1 l1_2 a1_3).bind fun bt400 => ((impl_SnapActs.f k t396 bt400.1 bt400.2.1 bt400.2.2.1 bt400.2.2.2).bind fun bt407 => ((laws_eqActS.f k bt407.1 bt392.1).bind fun t411 => (if t411 = true then (laws_FnExactSnapActs.j0 k bt392.1 bt392.2 bt407.1 bt407.2 (bt407.2 != bt392.2) l0_0 a1_0 a1_1 l1_2 a1_3 t396 bt400.1 bt400.2.1 bt400.2.2.1 bt400.2.2.2) else (none))))))) = some r := H
   have A20 := Aside0.mk A200
   clear A200
   replace H := Option.bind_eq_some_iff.mp H
   obtain ⟨⟨t392, t395⟩, A210, H⟩ := H
   replace H : ((laws_toDisk.f k l0_0).bind fun t396 => ((laws_toSnap.f k a1_0 a1_1 l1_2 a1_3).bind fun bt400 => ((impl_SnapActs.f k t396 bt400.1 bt400.2.1 bt400.2.2.1 bt400.2.2.2).bind fun bt407 => ((laws_eqActS.f k bt407.1 t392).bind fun t411 => (if t411 = true then (laws_FnExactSnapActs.j0 k t392 t395 bt407.1 bt407.2 (bt407.2 != t395) l0_0 a1_0 a1_1 l1_2 a1_3 t396 bt400.1 bt400.2.1 bt400.2.2.1 bt400.2.2.2) else (none)))))) = some r := H
   have A21 := Aside0.mk A210
   clear A210
   replace H := Option.bind_eq_some_iff.mp H
   obtain ⟨t396, A220, H⟩ := H
   replace H : ((laws_toSnap.f k a1_0 a1_1 l1_2 a1_3).bind fun bt400 => ((impl_SnapActs.f k t396 bt400.1 bt400.2.1 bt400.2.2.1 bt400.2.2.2).bind fun bt407 => ((laws_eqActS.f k bt407.1 t392).bind fun t411 => (if t411 = true then (laws_FnExactSnapActs.j0 k t392 t395 bt407.1 bt407.2 (bt407.2 != t395) l0_0 a1_0 a1_1 l1_2 a1_3 t396 bt400.1 bt400.2.1 bt400.2.2.1 bt400.2.2.2) else (none))))) = some r := H
   have A22 := Aside0.mk A220
   clear A220
   replace H := Option.bind_eq_some_iff.mp H
   obtain ⟨⟨t400, t401, t402, t405⟩, A230, H⟩ := H
   replace H : ((impl_SnapActs.f k t396 t400 t401 t402 t405).bind fun bt407 => ((laws_eqActS.f k bt407.1 t392).bind fun t411 => (if t411 = true then (laws_FnExactSnapActs.j0 k t392 t395 bt407.1 bt407.2 (bt407.2 != t395) l0_0 a1_0 a1_1 l1_2 a1_3 t396 t400 t401 t402 t405) else (none)))) = some r := H
   have A23 := Aside0.mk A230
   clear A230
   replace H := Option.bind_eq_some_iff.mp H
   obtain ⟨⟨t407, t410⟩, A240, H⟩ := H
   replace H : ((laws_eqActS.f k t407 t392).bind fun t411 => (if t411 = true then (laws_FnExactSnapActs.j0 k t392 t395 t407 t410 (t410 != t395) l0_0 a1_0 a1_1 l1_2 a1_3 t396 t400 t401 t402 t405) else (none))) = some r := H
   have A24 := Aside0.mk A240
   clear A240
   have HC25 := Aside0.mk H
   clear H
   go_enter Tryd.func8, Tryd.ntmps8
   try go_wp2_with (first | ((with_reducible refine gate_dst (N := 2) rfl ?_); refine box_event ?hg (N := 2) ?hd (cs := #[.slice A0_0 l0_0.length c0_0]) (t := 40) ?hr ?_; (case hd => rfl); (case hg => rfl); (case hr => first | (go_simp; done) | (go_simp; rfl)); intro gb379 hg w26 hbox hb; have BK379 := mk_ (hbox); have GW379 : Aside0 (w.heap.size ≤ gb379) := bz_ hg; have GE379 : Aside0 (w.heap.size ≤ gb379) := bz_ hg; replace HB := bs_ HB hb; clear hb hbox hg) | ((with_reducible refine gate_dst (N := 3) rfl ?_); refine box_event ?hg (N := 3) ?hd (cs := #[.int .i64 a1_0, .int .i64 a1_1, .slice A1_2 l1_2.length c1_2, .string a1_3]) (t := 43) ?hr ?_; (case hd => rfl); (case hg => rfl); (case hr => first | (go_simp; done) | (go_simp; rfl)); intro gb380 hg w27 hbox hb; have BK380 := mk_ (hbox); have GW380 : Aside0 (w.heap.size ≤ gb380) := bz_ hg; have GE380 : Aside0 (w.heap.size ≤ gb380) := bz_ hg; have NB379_380 : Aside0 (gb379 ≠ gb380) := bl_ BK379 hg; have NB380_379 : Aside0 (gb380 ≠ gb379) := bg_ BK379 hg; replace BK379 := bb_ BK379 hb; replace HB := bs_ HB hb; clear hb hbox hg; have hnb28 := NB379_380.out; have hnc28 := NB380_379.out; have hcz29_0 : w27.cell? ⟨gb379, 0, none⟩ = some (.slice A0_0 l0_0.length c0_0) := bc_ BK379 0; have hfz29_0 := blk_frozen BK379.out 0) | ((with_reducible refine gate_callee (f := 26) rfl ?_); refine goesL_ (some 19) rfl rfl Tryd.func26 (by kernel_rfl) rfl #[.agg #[.slice A0_0 l0_0.length c0_0], .int .i64 1048576] rfl (by (try simp only [List.map_toArray, List.map_cons, List.map_nil]); first | done | rfl | (simp only [List.length_drop, List.length_take]; rfl)) ?_; (with_reducible refine (laws_szDisk.calls k _ _ l0_0 1048576 t381 _ ?side1 ?side2 A3.out).mono ?_); (case side1 => repeat (first | exact (Kd.C_below HR0_0.out HB.out) | (with_reducible refine Kd.C_alloc ?_ _) | (with_reducible refine Kd.C_drewN ?_ _) | (with_reducible refine Kd.C_drew ?_))); (case side2 => exact HC0_0.out); rintro e w30 ⟨rfl, hb⟩; refine ⟨_, rfl, ?_⟩; replace BK379 := bb_ BK379 hb; replace BK380 := bb_ BK380 hb; replace HB := bs_ HB hb; (try clear hb); have hcz31_0 : w30.cell? ⟨gb380, 0, none⟩ = some (.int .i64 a1_0) := bc_ BK380 0; have hcz31_1 : w30.cell? ⟨gb380, 1, none⟩ = some (.int .i64 a1_1) := bc_ BK380 1; have hcz31_2 : w30.cell? ⟨gb380, 2, none⟩ = some (.slice A1_2 l1_2.length c1_2) := bc_ BK380 2; have hcz31_3 : w30.cell? ⟨gb380, 3, none⟩ = some (.string a1_3) := bc_ BK380 3; have hfz31_0 := blk_frozen BK380.out 0; have hfz31_1 := blk_frozen BK380.out 1; have hfz31_2 := blk_frozen BK380.out 2; have hfz31_3 := blk_frozen BK380.out 3) | ((with_reducible refine gate_callee (f := 27) rfl ?_); refine goesL_ (some 24) rfl rfl Tryd.func27 (by kernel_rfl) rfl #[.agg #[.int .i64 a1_0, .int .i64 a1_1, .slice A1_2 l1_2.length c1_2, .string a1_3], .int .i64 t381] rfl (by (try simp only [List.map_toArray, List.map_cons, List.map_nil]); first | done | rfl | (simp only [List.length_drop, List.length_take]; rfl)) ?_; (with_reducible refine (laws_szSnap.calls a1_0 a1_1 _ _ l1_2 a1_3 t381 t382 _ ?side1 ?side2 A10.out).mono ?_); (case side1 => repeat (first | exact (Kd.C_below HR1_2.out HB.out) | (with_reducible refine Kd.C_alloc ?_ _) | (with_reducible refine Kd.C_drewN ?_ _) | (with_reducible refine Kd.C_drew ?_))); (case side2 => exact HC1_2.out); rintro e w32 ⟨rfl, hb⟩; refine ⟨_, rfl, ?_⟩; replace BK379 := bb_ BK379 hb; replace BK380 := bb_ BK380 hb; replace HB := bs_ HB hb; (try clear hb)))
   have n0_ := mk_ (blk_drew BK379.out)
   have n1_ := mk_ (blk_drew BK380.out)
   have n2_ := mk_ (below_drew1 HB.out)
   clear BK379; clear BK380; clear HB; have BK379 := n0_; have BK380 := n1_; have HB := n2_; clear n0_ n1_ n2_
   refine start_ (n := 10) (S := fun w' => w'.cell? ⟨gb379, 0, none⟩ = some (.slice A0_0 l0_0.length c0_0) ∧ w'.cell? ⟨gb380, 0, none⟩ = some (.int .i64 a1_0) ∧ w'.cell? ⟨gb380, 1, none⟩ = some (.int .i64 a1_1) ∧ w'.cell? ⟨gb380, 2, none⟩ = some (.slice A1_2 l1_2.length c1_2) ∧ w'.cell? ⟨gb380, 3, none⟩ = some (.string a1_3)) (ds := []) #[false, false, false, false, false, false, false, false, false, false] (by kernel_rfl) rfl rfl ⟨bc_ BK379 0, bc_ BK380 0, bc_ BK380 1, bc_ BK380 2, bc_ BK380 3⟩ (fun hHeld => ?_); refine with_tabW laws_FnExactSnapActs.tab8 laws_FnExactSnapActs.bits8 (fun HT_ HW_ => ?_)
   generalize w32.drew = w33 at BK379 BK380 HB hHeld ⊢
   refine take_ (i := 0) (N := some 28) (v := ?_) (a' := ?_) #[true, false, false, false, false, false, false, false, false, false] rfl rfl (take_ofW HT_.out HW_.out (by kernel_rfl)) (fun _ _ _ h => h) (Or.inl ⟨by rfl, ?_⟩) hHeld ?_ ?_
   rotate_left
   ·rintro w' ⟨s0, s1, s2, s3, s4⟩
    go_simp
    with_reducible rfl
   rotate_left
   ·simp only [Act.put, sia_, scz_, scs_, i64_w, i32_w]
    rfl
   refine take_ (i := 2) (N := some 30) (v := ?_) (a' := ?_) #[true, false, true, false, false, false, false, false, false, false] rfl rfl (take_ofW HT_.out HW_.out (by kernel_rfl)) (fun _ _ _ h => h) (Or.inl ⟨by rfl, ?_⟩) hHeld ?_ ?_
   rotate_left
   ·rintro w' ⟨s0, s1, s2, s3, s4⟩
    go_simp
    with_reducible rfl
   rotate_left
   ·simp only [Act.put, sia_, scz_, scs_, i64_w, i32_w]
    rfl
   refine one_ (i := 1) (N := some 29) #[true, true, true, false, false, false, false, false, false, false] rfl rfl (one_of HT_.out (by kernel_rfl)) (by decide) (fun K hK => ?_)
   refine goes_ Tryd.func29 (by kernel_rfl) rfl #[.agg #[.slice A0_0 l0_0.length c0_0]] (by rfl) rfl rfl (by (try simp only [List.map_toArray, List.map_cons, List.map_nil]); first | done | rfl | (simp only [List.length_drop, List.length_take]; rfl)) ?_
   with_reducible refine (laws_toDisk.calls k _ _ l0_0 t383 _ ?side1 ?side2 A19.out).mono ?_
   (case side1 => repeat (first | exact (Kd.C_below HR0_0.out HB.out) | (with_reducible refine Kd.C_alloc ?_ _) | (with_reducible refine Kd.C_drewN ?_ _) | (with_reducible refine Kd.C_drew ?_)))
   (case side2 => exact HC0_0.out)
   rintro e w34 ⟨v384, rfl, ho0, hb⟩
   refine ⟨_, rfl, ?_⟩
   have n0_ := mk_ (Kd.R_lower ho0 (below_size (bw_ HB)))
   have n1_ := bb_ BK379 hb; have n2_ := bb_ BK380 hb
   have n3_ := bs_ HB hb
   clear BK379; clear BK380; clear HB; have HO385 := n0_; have BK379 := n1_; have BK380 := n2_; have HB := n3_; clear n0_ n1_ n2_ n3_; (try clear hb); (try clear hb2); (try clear hk); (try clear hi); (try clear ho0)
   refine hK.out _ _ ⟨bc_ BK379 0, bc_ BK380 0, bc_ BK380 1, bc_ BK380 2, bc_ BK380 3⟩ (fun hHeld => ?_)
   clear hK K
   refine norm_ (a' := ?_) ?_ ?_
   rotate_left
   ·show Act.put _ (some 29) _ = _
    simp only [Act.put, sia_, scz_, scs_, i64_w, i32_w]
    rfl
   refine one_ (i := 3) (N := some 31) #[true, true, true, true, false, false, false, false, false, false] rfl rfl (one_of HT_.out (by kernel_rfl)) (by decide) (fun K hK => ?_)
   refine goes_ Tryd.func30 (by kernel_rfl) rfl #[.agg #[.int .i64 a1_0, .int .i64 a1_1, .slice A1_2 l1_2.length c1_2, .string a1_3]] (by rfl) rfl rfl (by (try simp only [List.map_toArray, List.map_cons, List.map_nil]); first | done | rfl | (simp only [List.length_drop, List.length_take]; rfl)) ?_
   with_reducible refine (laws_toSnap.calls k a1_0 a1_1 _ _ l1_2 a1_3 t386 t387 t388 t391 _ ?side1 ?side2 A20.out).mono ?_
   (case side1 => repeat (first | exact (Kd.C_below HR1_2.out HB.out) | (with_reducible refine Kd.C_alloc ?_ _) | (with_reducible refine Kd.C_drewN ?_ _) | (with_reducible refine Kd.C_drew ?_)))
   (case side2 => exact HC1_2.out)
   rintro e w35 ⟨v389, rfl, ho0, hb⟩
   refine ⟨_, rfl, ?_⟩
   have n0_ := rb_ HO385 hb
   have n1_ := mk_ (Kd.R_lower ho0 (below_size (bw_ HB)))
   have n2_ := bb_ BK379 hb; have n3_ := bb_ BK380 hb
   have n4_ := bs_ HB hb
   clear HO385; clear BK379; clear BK380; clear HB; have HO385 := n0_; have HO390 := n1_; have BK379 := n2_; have BK380 := n3_; have HB := n4_; clear n0_ n1_ n2_ n3_ n4_; (try clear hb); (try clear hb2); (try clear hk); (try clear hi); (try clear ho0)
   obtain ⟨Ao36, co36, eo36⟩ := Kd.R_slice HO385.out
   (first | subst eo36 | (injection eo36 with f1_ f2_ f3_; have f4_ := f1_.symm; have f5_ := f3_.symm; clear f1_ f2_ f3_; subst f4_; subst f5_))
   obtain ⟨Ao37, co37, eo37⟩ := Kd.R_slice HO390.out
   (first | subst eo37 | (injection eo37 with f1_ f2_ f3_; have f4_ := f1_.symm; have f5_ := f3_.symm; clear f1_ f2_ f3_; subst f4_; subst f5_))
   refine hK.out _ _ ⟨bc_ BK379 0, bc_ BK380 0, bc_ BK380 1, bc_ BK380 2, bc_ BK380 3⟩ (fun hHeld => ?_)
   clear hK K
   refine norm_ (a' := ?_) ?_ ?_
   rotate_left
   ·show Act.put _ (some 31) _ = _
    simp only [Act.put, sia_, scz_, scs_, i64_w, i32_w]
    rfl
   refine one_ (i := 4) (N := some 32) #[true, true, true, true, true, false, false, false, false, false] rfl rfl (one_of HT_.out (by kernel_rfl)) (by decide) (fun K hK => ?_)
   refine goes_ Tryd.func28 (by kernel_rfl) rfl #[.agg #[.slice Ao36 t383.length co36], .agg #[.int .i64 t386, .int .i64 t387, .slice Ao37 t388.length co37, .string t391]] (by rfl) rfl rfl (by (try simp only [List.map_toArray, List.map_cons, List.map_nil]); first | done | rfl | (simp only [List.length_drop, List.length_take]; rfl)) ?_
   with_reducible refine (spec_SnapActs.calls k _ _ t383 t386 t387 _ _ t388 t391 t392 t395 _ ?side1 ?side2 ?side3 ?side4 A21.out).mono ?_
   (case side1 => repeat (first | exact (Kd.R_reads' HO385.out).2.2 | (with_reducible refine Kd.C_alloc ?_ _) | (with_reducible refine Kd.C_drewN ?_ _) | (with_reducible refine Kd.C_drew ?_)))
   (case side2 => exact (Kd.R_reads' HO385.out).2.1)
   (case side3 => repeat (first | exact (Kd.R_reads' HO390.out).2.2 | (with_reducible refine Kd.C_alloc ?_ _) | (with_reducible refine Kd.C_drewN ?_ _) | (with_reducible refine Kd.C_drew ?_)))
   (case side4 => exact (Kd.R_reads' HO390.out).2.1)
   rintro e w38 ⟨v393, rfl, ho0, hb⟩
   refine ⟨_, rfl, ?_⟩
   have n0_ := rb_ HO385 hb
   have n1_ := rb_ HO390 hb
   have n2_ := mk_ (Kd.R_lower ho0 (below_size (bw_ HB)))
   have n3_ := bb_ BK379 hb; have n4_ := bb_ BK380 hb
   have n5_ := bs_ HB hb
   clear HO385; clear HO390; clear BK379; clear BK380; clear HB; have HO385 := n0_; have HO390 := n1_; have HO394 := n2_; have BK379 := n3_; have BK380 := n4_; have HB := n5_; clear n0_ n1_ n2_ n3_ n4_ n5_; (try clear hb); (try clear hb2); (try clear hk); (try clear hi); (try clear ho0)
   refine hK.out _ _ ⟨bc_ BK379 0, bc_ BK380 0, bc_ BK380 1, bc_ BK380 2, bc_ BK380 3⟩ (fun hHeld => ?_)
   clear hK K
   refine norm_ (a' := ?_) ?_ ?_
   rotate_left
   ·show Act.put _ (some 32) _ = _
    simp only [Act.put, sia_, scz_, scs_, i64_w, i32_w]
    rfl
   refine pure_ (i := 5) (N := some 27) (v := ?_) (a' := ?_) #[true, true, true, true, true, true, false, false, false, false] rfl rfl (any_of HT_.out (by kernel_rfl)) (fun _ _ _ h => h) (Or.inl ⟨by rfl, ?_⟩) ?_ ?_
   rotate_left
   ·intro w'
    go_simp
    with_reducible rfl
   rotate_left
   ·simp only [Act.put, sia_, scz_, scs_, i64_w, i32_w]
    rfl
   refine pure_ (i := 6) (N := some 33) (v := ?_) (a' := ?_) #[true, true, true, true, true, true, true, false, false, false] rfl rfl (any_of HT_.out (by kernel_rfl)) (fun _ _ _ h => h) (Or.inl ⟨by rfl, ?_⟩) ?_ ?_
   rotate_left
   ·intro w'
    go_simp
    with_reducible rfl
   rotate_left
   ·simp only [Act.put, sia_, scz_, scs_, i64_w, i32_w]
    rfl
   refine pure_ (i := 7) (N := some 34) (v := ?_) (a' := ?_) #[true, true, true, true, true, true, true, true, false, false] rfl rfl (any_of HT_.out (by kernel_rfl)) (fun _ _ _ h => h) (Or.inl ⟨by rfl, ?_⟩) ?_ ?_
   rotate_left
   ·intro w'
    go_simp
    with_reducible rfl
   rotate_left
   ·simp only [Act.put, sia_, scz_, scs_, i64_w, i32_w]
    rfl
   refine pure_ (i := 8) (N := some 6) (v := ?_) (a' := ?_) #[true, true, true, true, true, true, true, true, true, false] rfl rfl (any_of HT_.out (by kernel_rfl)) (fun _ _ _ h => h) (Or.inl ⟨by rfl, ?_⟩) ?_ ?_
   rotate_left
   ·intro w'
    go_simp
    with_reducible rfl
   rotate_left
   ·simp only [Act.put, sia_, scz_, scs_, i64_w, i32_w]
    rfl
   refine pure_ (i := 9) (N := some 7) (v := ?_) (a' := ?_) #[true, true, true, true, true, true, true, true, true, true] rfl rfl (any_of HT_.out (by kernel_rfl)) (fun _ _ _ h => h) (Or.inl ⟨by rfl, ?_⟩) ?_ ?_
   rotate_left
   ·intro w'
    go_simp
    with_reducible rfl
   rotate_left
   ·simp only [Act.put, sia_, scz_, scs_, i64_w, i32_w]
    rfl
   refine done_ (done_of HT_.out (by kernel_rfl)) ?_
   have hcz39_0 : w38.cell? ⟨gb379, 0, none⟩ = some (.slice A0_0 l0_0.length c0_0) := bc_ BK379 0
   have hfz39_0 := blk_frozen BK379.out 0
   go_upto_region 12 with (first | ((with_reducible refine gate_callee (f := 29) rfl ?_); refine goesL_ (some 36) rfl rfl Tryd.func29 (by kernel_rfl) rfl #[.agg #[.slice A0_0 l0_0.length c0_0]] rfl (by (try simp only [List.map_toArray, List.map_cons, List.map_nil]); first | done | rfl | (simp only [List.length_drop, List.length_take]; rfl)) ?_; (with_reducible refine (laws_toDisk.calls k _ _ l0_0 t396 _ ?side1 ?side2 A22.out).mono ?_); (case side1 => repeat (first | exact (Kd.C_below HR0_0.out HB.out) | (with_reducible refine Kd.C_alloc ?_ _) | (with_reducible refine Kd.C_drewN ?_ _) | (with_reducible refine Kd.C_drew ?_))); (case side2 => exact HC0_0.out); rintro e w40 ⟨v397, rfl, ho0, hb⟩; refine ⟨_, rfl, ?_⟩; have HO398 := mk_ (Kd.R_lower (Kd.R_new' ho0 (Kd.R_lt (rp_ HO385))) (below_size (bw_ HB))); replace HO385 := mk_ (Kd.R_elder' (rp_ HO385) (Kd.R_base ho0) hb); replace HO390 := rb_ HO390 hb; replace HO394 := rb_ HO394 hb; replace BK379 := bb_ BK379 hb; replace BK380 := bb_ BK380 hb; replace HB := bs_ HB hb; (try clear hb); (try clear hk); (try clear ho0)) | ((with_reducible refine gate_dst (N := 8) rfl ?_); refine box_event ?hg (N := 8) ?hd (cs := #[.slice none 0 0]) (t := 51) ?hr ?_; (case hd => rfl); (case hg => rfl); (case hr => first | (go_simp; done) | (go_simp; rfl)); intro gb399 hg w41 hbox hb; have BK399 := mk_ (hbox); have GW399 : Aside0 (w.heap.size ≤ gb399) := bz_ hg; have GE399 : Aside0 (w.heap.size ≤ gb399) := bz_ hg; have NB379_399 : Aside0 (gb379 ≠ gb399) := bl_ BK379 hg; have NB399_379 : Aside0 (gb399 ≠ gb379) := bg_ BK379 hg; have NB380_399 : Aside0 (gb380 ≠ gb399) := bl_ BK380 hg; have NB399_380 : Aside0 (gb399 ≠ gb380) := bg_ BK380 hg; replace HO385 := rb_ HO385 hb; replace HO390 := rb_ HO390 hb; replace HO394 := rb_ HO394 hb; replace HO398 := rb_ HO398 hb; replace BK379 := bb_ BK379 hb; replace BK380 := bb_ BK380 hb; replace HB := bs_ HB hb; clear hb hbox hg; obtain ⟨Ao42, co42, eo42⟩ := Kd.R_slice HO398.out; subst eo42; have hnb43 := NB399_379.out; have hnc43 := NB379_399.out; have hnb44 := NB399_380.out; have hnc44 := NB380_399.out; have hcz45_0 : w41.cell? ⟨gb399, 0, none⟩ = some (.slice none 0 0) := bc_ BK399 0; have hfz45_0 := blk_frozen BK399.out 0; have hcz46_0 : w41.cell? ⟨gb380, 0, none⟩ = some (.int .i64 a1_0) := bc_ BK380 0; have hcz46_1 : w41.cell? ⟨gb380, 1, none⟩ = some (.int .i64 a1_1) := bc_ BK380 1; have hcz46_2 : w41.cell? ⟨gb380, 2, none⟩ = some (.slice A1_2 l1_2.length c1_2) := bc_ BK380 2; have hcz46_3 : w41.cell? ⟨gb380, 3, none⟩ = some (.string a1_3) := bc_ BK380 3; have hfz46_0 := blk_frozen BK380.out 0; have hfz46_1 := blk_frozen BK380.out 1; have hfz46_2 := blk_frozen BK380.out 2; have hfz46_3 := blk_frozen BK380.out 3) | ((with_reducible refine gate_callee (f := 30) rfl ?_); refine goesL_ (some 38) rfl rfl Tryd.func30 (by kernel_rfl) rfl #[.agg #[.int .i64 a1_0, .int .i64 a1_1, .slice A1_2 l1_2.length c1_2, .string a1_3]] rfl (by (try simp only [List.map_toArray, List.map_cons, List.map_nil]); first | done | rfl | (simp only [List.length_drop, List.length_take]; rfl)) ?_; (with_reducible refine (laws_toSnap.calls k a1_0 a1_1 _ _ l1_2 a1_3 t400 t401 t402 t405 _ ?side1 ?side2 A23.out).mono ?_); (case side1 => exact Kd.C_below HR1_2.out (bw_ HB)); (case side2 => exact HC1_2.out); rintro e w47 ⟨v403, rfl, ho0, hb⟩; refine ⟨_, rfl, ?_⟩; have HO404 := mk_ (Kd.R_lower (Kd.R_new' ho0 (Kd.R_lt (by (with_reducible repeat (first | apply Kd.R_alloc | apply Kd.R_drewN | apply Kd.R_drew)); exact (Kd.R_mono (Kd.R_far (p := ⟨gb399, 0, none⟩) (Kd.R_types HO390.out BK399.out (by decide)) (fun _ hk => hk.2) (.slice Ao42 t396.length co42)) (fun _ h_ => h_.1))))) (below_size (bw_ HB))); replace HO385 := mk_ (Kd.R_below (by (with_reducible repeat (first | apply Kd.R_alloc | apply Kd.R_drewN | apply Kd.R_drew)); exact (Kd.R_mono (Kd.R_far (p := ⟨gb399, 0, none⟩) (Kd.R_types HO385.out BK399.out (by decide)) (fun _ hk => hk.2) (.slice Ao42 t396.length co42)) (fun _ h_ => h_.1))) hb); replace HO390 := mk_ (Kd.R_elder' (by (with_reducible repeat (first | apply Kd.R_alloc | apply Kd.R_drewN | apply Kd.R_drew)); exact (Kd.R_mono (Kd.R_far (p := ⟨gb399, 0, none⟩) (Kd.R_types HO390.out BK399.out (by decide)) (fun _ hk => hk.2) (.slice Ao42 t396.length co42)) (fun _ h_ => h_.1))) (Kd.R_base ho0) hb); replace HO394 := mk_ (Kd.R_below (by (with_reducible repeat (first | apply Kd.R_alloc | apply Kd.R_drewN | apply Kd.R_drew)); exact (Kd.R_mono (Kd.R_far (p := ⟨gb399, 0, none⟩) (Kd.R_types HO394.out BK399.out (by decide)) (fun _ hk => hk.2) (.slice Ao42 t396.length co42)) (fun _ h_ => h_.1))) hb); replace HO398 := mk_ (Kd.R_below (by (with_reducible repeat (first | apply Kd.R_alloc | apply Kd.R_drewN | apply Kd.R_drew)); exact (Kd.R_mono (Kd.R_far (p := ⟨gb399, 0, none⟩) (Kd.R_types HO398.out BK399.out (by decide)) (fun _ hk => hk.2) (.slice Ao42 t396.length co42)) (fun _ h_ => h_.1))) hb); replace BK379 := mk_ (blk_below (g := gb379) (o := .cells #[.slice A0_0 l0_0.length c0_0] 40 (0, 0)) (by (with_reducible repeat (first | refine blk_drewN ?_ _ | refine blk_drew ?_ | refine blk_alloc ?_ _)); refine blk_far ?_ NB379_399.out _; (with_reducible repeat (first | refine blk_drewN ?_ _ | refine blk_drew ?_ | refine blk_alloc ?_ _)); exact BK379.out) hb); replace BK380 := mk_ (blk_below (g := gb380) (o := .cells #[.int .i64 a1_0, .int .i64 a1_1, .slice A1_2 l1_2.length c1_2, .string a1_3] 43 (0, 0)) (by (with_reducible repeat (first | refine blk_drewN ?_ _ | refine blk_drew ?_ | refine blk_alloc ?_ _)); refine blk_far ?_ NB380_399.out _; (with_reducible repeat (first | refine blk_drewN ?_ _ | refine blk_drew ?_ | refine blk_alloc ?_ _)); exact BK380.out) hb); replace BK399 := mk_ (blk_below (g := gb399) (o := .cells #[.slice Ao42 t396.length co42] 51 (0, 0)) (by (with_reducible repeat (first | refine blk_drewN ?_ _ | refine blk_drew ?_ | refine blk_alloc ?_ _)); refine blk_put (cs := #[.slice none 0 0]) ?_ 0 _ rfl; (with_reducible repeat (first | refine blk_drewN ?_ _ | refine blk_drew ?_ | refine blk_alloc ?_ _)); exact BK399.out) hb); replace HB := bs_ HB hb; (try clear hb); (try clear hk); (try clear ho0)) | ((with_reducible refine gate_dst (N := 9) rfl ?_); refine box_event ?hg (N := 9) ?hd (cs := #[.int .i64 0, .int .i64 0, .slice none 0 0, .string (⟨#[]⟩ : ByteArray)]) (t := 53) ?hr ?_; (case hd => rfl); (case hg => rfl); (case hr => first | (go_simp; done) | (go_simp; rfl)); intro gb406 hg w48 hbox hb; have BK406 := mk_ (hbox); have GW406 : Aside0 (w.heap.size ≤ gb406) := bz_ hg; have GE406 : Aside0 (w.heap.size ≤ gb406) := bz_ hg; have NB379_406 : Aside0 (gb379 ≠ gb406) := bl_ BK379 hg; have NB406_379 : Aside0 (gb406 ≠ gb379) := bg_ BK379 hg; have NB380_406 : Aside0 (gb380 ≠ gb406) := bl_ BK380 hg; have NB406_380 : Aside0 (gb406 ≠ gb380) := bg_ BK380 hg; have NB399_406 : Aside0 (gb399 ≠ gb406) := bl_ BK399 hg; have NB406_399 : Aside0 (gb406 ≠ gb399) := bg_ BK399 hg; replace HO385 := rb_ HO385 hb; replace HO390 := rb_ HO390 hb; replace HO394 := rb_ HO394 hb; replace HO398 := rb_ HO398 hb; replace HO404 := rb_ HO404 hb; replace BK379 := bb_ BK379 hb; replace BK380 := bb_ BK380 hb; replace BK399 := bb_ BK399 hb; replace HB := bs_ HB hb; clear hb hbox hg; have hnb49 := NB406_379.out; have hnc49 := NB379_406.out; have hnb50 := NB406_380.out; have hnc50 := NB380_406.out; have hnb51 := NB406_399.out; have hnc51 := NB399_406.out; have hcz52_0 : w48.cell? ⟨gb406, 0, none⟩ = some (.int .i64 0) := bc_ BK406 0; have hcz52_1 : w48.cell? ⟨gb406, 1, none⟩ = some (.int .i64 0) := bc_ BK406 1; have hcz52_2 : w48.cell? ⟨gb406, 2, none⟩ = some (.slice none 0 0) := bc_ BK406 2; have hcz52_3 : w48.cell? ⟨gb406, 3, none⟩ = some (.string (⟨#[]⟩ : ByteArray)) := bc_ BK406 3; have hfz52_0 := blk_frozen BK406.out 0; have hfz52_1 := blk_frozen BK406.out 1; have hfz52_2 := blk_frozen BK406.out 2; have hfz52_3 := blk_frozen BK406.out 3; obtain ⟨Ao53, co53, eo53⟩ := Kd.R_slice HO404.out; subst eo53; have hcz54_0 : w48.cell? ⟨gb399, 0, none⟩ = some (.slice Ao42 t396.length co42) := bc_ BK399 0; have hfz54_0 := blk_frozen BK399.out 0) | ((with_reducible refine gate_callee (f := 31) rfl ?_); refine goesL_ (some 42) rfl rfl Tryd.func31 (by kernel_rfl) rfl #[.agg #[.slice Ao42 t396.length co42], .agg #[.int .i64 t400, .int .i64 t401, .slice Ao53 t402.length co53, .string t405]] rfl (by (try simp only [List.map_toArray, List.map_cons, List.map_nil]); first | done | rfl | (simp only [List.length_drop, List.length_take]; rfl)) ?_; (with_reducible refine (impl_SnapActs.calls k _ _ t396 t400 t401 _ _ t402 t405 t407 t410 _ (tab22 HT HB) ?side1 ?side2 ?side3 ?side4 A24.out).mono ?_); (case side1 => refine (Kd.R_reads' (e := 88) (base := w.heap.size) (ok := fun k_ => (True ∧ some k_ ≠ (.slice Ao36 t383.length co36 : Value).ownBlock)) (n := t396.length) (c := co42) ?_).2.2; exact (by (with_reducible repeat (first | apply Kd.R_alloc | apply Kd.R_drewN | apply Kd.R_drew)); exact (Kd.R_mono (Kd.R_far (p := ⟨gb406, 3, none⟩) (Kd.R_far (p := ⟨gb406, 2, none⟩) (Kd.R_far (p := ⟨gb406, 1, none⟩) (Kd.R_far (p := ⟨gb406, 0, none⟩) (Kd.R_types HO398.out BK406.out (by decide)) (fun _ hk => hk.2) (.int .i64 t400)) (fun _ hk => hk.2) (.int .i64 t401)) (fun _ hk => hk.2) (.slice Ao53 t402.length co53)) (fun _ hk => hk.2) (.string t405)) (fun _ h_ => h_.1)))); (case side2 => exact (Kd.R_reads' HO398.out).2.1); (case side3 => refine (Kd.R_reads' (e := 3) (base := w.heap.size) (ok := fun k_ => (True ∧ some k_ ≠ (.slice Ao37 t388.length co37 : Value).ownBlock)) (n := t402.length) (c := co53) ?_).2.2; exact (by (with_reducible repeat (first | apply Kd.R_alloc | apply Kd.R_drewN | apply Kd.R_drew)); exact (Kd.R_mono (Kd.R_far (p := ⟨gb406, 3, none⟩) (Kd.R_far (p := ⟨gb406, 2, none⟩) (Kd.R_far (p := ⟨gb406, 1, none⟩) (Kd.R_far (p := ⟨gb406, 0, none⟩) (Kd.R_types HO404.out BK406.out (by decide)) (fun _ hk => hk.2) (.int .i64 t400)) (fun _ hk => hk.2) (.int .i64 t401)) (fun _ hk => hk.2) (.slice Ao53 t402.length co53)) (fun _ hk => hk.2) (.string t405)) (fun _ h_ => h_.1)))); (case side4 => exact (Kd.R_reads' HO404.out).2.1); rintro e w55 ⟨v408, rfl, ho0, hb⟩; refine ⟨_, rfl, ?_⟩; have HO409 := mk_ (Kd.R_lower (Kd.R_new' ho0 (Kd.R_lt (by (with_reducible repeat (first | apply Kd.R_alloc | apply Kd.R_drewN | apply Kd.R_drew)); exact (Kd.R_mono (Kd.R_far (p := ⟨gb406, 3, none⟩) (Kd.R_far (p := ⟨gb406, 2, none⟩) (Kd.R_far (p := ⟨gb406, 1, none⟩) (Kd.R_far (p := ⟨gb406, 0, none⟩) (Kd.R_types HO394.out BK406.out (by decide)) (fun _ hk => hk.2) (.int .i64 t400)) (fun _ hk => hk.2) (.int .i64 t401)) (fun _ hk => hk.2) (.slice Ao53 t402.length co53)) (fun _ hk => hk.2) (.string t405)) (fun _ h_ => h_.1))))) (below_size (bw_ HB))); replace HO385 := mk_ (Kd.R_below (by (with_reducible repeat (first | apply Kd.R_alloc | apply Kd.R_drewN | apply Kd.R_drew)); exact (Kd.R_mono (Kd.R_far (p := ⟨gb406, 3, none⟩) (Kd.R_far (p := ⟨gb406, 2, none⟩) (Kd.R_far (p := ⟨gb406, 1, none⟩) (Kd.R_far (p := ⟨gb406, 0, none⟩) (Kd.R_types HO385.out BK406.out (by decide)) (fun _ hk => hk.2) (.int .i64 t400)) (fun _ hk => hk.2) (.int .i64 t401)) (fun _ hk => hk.2) (.slice Ao53 t402.length co53)) (fun _ hk => hk.2) (.string t405)) (fun _ h_ => h_.1))) hb); replace HO390 := mk_ (Kd.R_below (by (with_reducible repeat (first | apply Kd.R_alloc | apply Kd.R_drewN | apply Kd.R_drew)); exact (Kd.R_mono (Kd.R_far (p := ⟨gb406, 3, none⟩) (Kd.R_far (p := ⟨gb406, 2, none⟩) (Kd.R_far (p := ⟨gb406, 1, none⟩) (Kd.R_far (p := ⟨gb406, 0, none⟩) (Kd.R_types HO390.out BK406.out (by decide)) (fun _ hk => hk.2) (.int .i64 t400)) (fun _ hk => hk.2) (.int .i64 t401)) (fun _ hk => hk.2) (.slice Ao53 t402.length co53)) (fun _ hk => hk.2) (.string t405)) (fun _ h_ => h_.1))) hb); replace HO394 := mk_ (Kd.R_elder' (by (with_reducible repeat (first | apply Kd.R_alloc | apply Kd.R_drewN | apply Kd.R_drew)); exact (Kd.R_mono (Kd.R_far (p := ⟨gb406, 3, none⟩) (Kd.R_far (p := ⟨gb406, 2, none⟩) (Kd.R_far (p := ⟨gb406, 1, none⟩) (Kd.R_far (p := ⟨gb406, 0, none⟩) (Kd.R_types HO394.out BK406.out (by decide)) (fun _ hk => hk.2) (.int .i64 t400)) (fun _ hk => hk.2) (.int .i64 t401)) (fun _ hk => hk.2) (.slice Ao53 t402.length co53)) (fun _ hk => hk.2) (.string t405)) (fun _ h_ => h_.1))) (Kd.R_base ho0) hb); replace HO398 := mk_ (Kd.R_below (by (with_reducible repeat (first | apply Kd.R_alloc | apply Kd.R_drewN | apply Kd.R_drew)); exact (Kd.R_mono (Kd.R_far (p := ⟨gb406, 3, none⟩) (Kd.R_far (p := ⟨gb406, 2, none⟩) (Kd.R_far (p := ⟨gb406, 1, none⟩) (Kd.R_far (p := ⟨gb406, 0, none⟩) (Kd.R_types HO398.out BK406.out (by decide)) (fun _ hk => hk.2) (.int .i64 t400)) (fun _ hk => hk.2) (.int .i64 t401)) (fun _ hk => hk.2) (.slice Ao53 t402.length co53)) (fun _ hk => hk.2) (.string t405)) (fun _ h_ => h_.1))) hb); replace HO404 := mk_ (Kd.R_below (by (with_reducible repeat (first | apply Kd.R_alloc | apply Kd.R_drewN | apply Kd.R_drew)); exact (Kd.R_mono (Kd.R_far (p := ⟨gb406, 3, none⟩) (Kd.R_far (p := ⟨gb406, 2, none⟩) (Kd.R_far (p := ⟨gb406, 1, none⟩) (Kd.R_far (p := ⟨gb406, 0, none⟩) (Kd.R_types HO404.out BK406.out (by decide)) (fun _ hk => hk.2) (.int .i64 t400)) (fun _ hk => hk.2) (.int .i64 t401)) (fun _ hk => hk.2) (.slice Ao53 t402.length co53)) (fun _ hk => hk.2) (.string t405)) (fun _ h_ => h_.1))) hb); replace BK379 := mk_ (blk_below (g := gb379) (o := .cells #[.slice A0_0 l0_0.length c0_0] 40 (0, 0)) (by (with_reducible repeat (first | refine blk_drewN ?_ _ | refine blk_drew ?_ | refine blk_alloc ?_ _)); refine blk_far ?_ NB379_406.out _; (with_reducible repeat (first | refine blk_drewN ?_ _ | refine blk_drew ?_ | refine blk_alloc ?_ _)); refine blk_far ?_ NB379_406.out _; (with_reducible repeat (first | refine blk_drewN ?_ _ | refine blk_drew ?_ | refine blk_alloc ?_ _)); refine blk_far ?_ NB379_406.out _; (with_reducible repeat (first | refine blk_drewN ?_ _ | refine blk_drew ?_ | refine blk_alloc ?_ _)); refine blk_far ?_ NB379_406.out _; (with_reducible repeat (first | refine blk_drewN ?_ _ | refine blk_drew ?_ | refine blk_alloc ?_ _)); exact BK379.out) hb); replace BK380 := mk_ (blk_below (g := gb380) (o := .cells #[.int .i64 a1_0, .int .i64 a1_1, .slice A1_2 l1_2.length c1_2, .string a1_3] 43 (0, 0)) (by (with_reducible repeat (first | refine blk_drewN ?_ _ | refine blk_drew ?_ | refine blk_alloc ?_ _)); refine blk_far ?_ NB380_406.out _; (with_reducible repeat (first | refine blk_drewN ?_ _ | refine blk_drew ?_ | refine blk_alloc ?_ _)); refine blk_far ?_ NB380_406.out _; (with_reducible repeat (first | refine blk_drewN ?_ _ | refine blk_drew ?_ | refine blk_alloc ?_ _)); refine blk_far ?_ NB380_406.out _; (with_reducible repeat (first | refine blk_drewN ?_ _ | refine blk_drew ?_ | refine blk_alloc ?_ _)); refine blk_far ?_ NB380_406.out _; (with_reducible repeat (first | refine blk_drewN ?_ _ | refine blk_drew ?_ | refine blk_alloc ?_ _)); exact BK380.out) hb); replace BK399 := mk_ (blk_below (g := gb399) (o := .cells #[.slice Ao42 t396.length co42] 51 (0, 0)) (by (with_reducible repeat (first | refine blk_drewN ?_ _ | refine blk_drew ?_ | refine blk_alloc ?_ _)); refine blk_far ?_ NB399_406.out _; (with_reducible repeat (first | refine blk_drewN ?_ _ | refine blk_drew ?_ | refine blk_alloc ?_ _)); refine blk_far ?_ NB399_406.out _; (with_reducible repeat (first | refine blk_drewN ?_ _ | refine blk_drew ?_ | refine blk_alloc ?_ _)); refine blk_far ?_ NB399_406.out _; (with_reducible repeat (first | refine blk_drewN ?_ _ | refine blk_drew ?_ | refine blk_alloc ?_ _)); refine blk_far ?_ NB399_406.out _; (with_reducible repeat (first | refine blk_drewN ?_ _ | refine blk_drew ?_ | refine blk_alloc ?_ _)); exact BK399.out) hb); replace BK406 := mk_ (blk_below (g := gb406) (o := .cells #[.int .i64 t400, .int .i64 t401, .slice Ao53 t402.length co53, .string t405] 53 (0, 0)) (by (with_reducible repeat (first | refine blk_drewN ?_ _ | refine blk_drew ?_ | refine blk_alloc ?_ _)); refine blk_put (cs := #[.int .i64 t400, .int .i64 t401, .slice Ao53 t402.length co53, .string (⟨#[]⟩ : ByteArray)]) ?_ 3 _ rfl; (with_reducible repeat (first | refine blk_drewN ?_ _ | refine blk_drew ?_ | refine blk_alloc ?_ _)); refine blk_put (cs := #[.int .i64 t400, .int .i64 t401, .slice none 0 0, .string (⟨#[]⟩ : ByteArray)]) ?_ 2 _ rfl; (with_reducible repeat (first | refine blk_drewN ?_ _ | refine blk_drew ?_ | refine blk_alloc ?_ _)); refine blk_put (cs := #[.int .i64 t400, .int .i64 0, .slice none 0 0, .string (⟨#[]⟩ : ByteArray)]) ?_ 1 _ rfl; (with_reducible repeat (first | refine blk_drewN ?_ _ | refine blk_drew ?_ | refine blk_alloc ?_ _)); refine blk_put (cs := #[.int .i64 0, .int .i64 0, .slice none 0 0, .string (⟨#[]⟩ : ByteArray)]) ?_ 0 _ rfl; (with_reducible repeat (first | refine blk_drewN ?_ _ | refine blk_drew ?_ | refine blk_alloc ?_ _)); exact BK406.out) hb); replace HB := bs_ HB hb; (try clear hb); (try clear hk); (try clear ho0)))
   (try simp only [Act.put, sia_, scz_, scs_])
   go_cut [53] (fun v53 wc => ∃ (kq : Nat) (x53_24 : Bool), v53 = .bool x53_24 ∧ Aside0 (laws_FnExactSnapActs.j0 kq t392 t395 t407 t410 x53_24 l0_0 a1_0 a1_1 l1_2 a1_3 t396 t400 t401 t402 t405 = some r) ∧ Aside0 (kq ≤ k) ∧ Aside0 (Kd.R k82 82 wc w.heap.size (fun k_ => some k_ ≠ (v408 : Value).ownBlock) v393 t392) ∧ Aside0 (Kd.R k82 82 wc w.heap.size (fun k_ => some k_ ≠ (v393 : Value).ownBlock) v408 t407) ∧ Aside0 (Kd.R k88 88 wc w.heap.size (fun _ => True) (.slice Ao42 t396.length co42) t396) ∧ Aside0 (Kd.R (Kd.int .i64) 3 wc w.heap.size (fun _ => True) (.slice Ao53 t402.length co53) t402) ∧ Aside0 (wc.heap[gb379]? = some (.cells #[(.slice A0_0 l0_0.length c0_0)] 40 (0, 0))) ∧ Aside0 (wc.heap[gb380]? = some (.cells #[.int .i64 a1_0, .int .i64 a1_1, (.slice A1_2 l1_2.length c1_2), .string a1_3] 43 (0, 0))) ∧ Aside0 (wc.heap[gb399]? = some (.cells #[(.slice Ao42 t396.length co42)] 51 (0, 0))) ∧ Aside0 (wc.heap[gb406]? = some (.cells #[.int .i64 t400, .int .i64 t401, (.slice Ao53 t402.length co53), .string t405] 53 (0, 0))) ∧ Aside0 (Below w.heap.size w wc))
   case first =>
    have H := HC25.out
    clear HC25
    replace H := Option.bind_eq_some_iff.mp H
    obtain ⟨t411, A560, H⟩ := H
    replace H : (if t411 = true then (laws_FnExactSnapActs.j0 k t392 t395 t407 t410 (t410 != t395) l0_0 a1_0 a1_1 l1_2 a1_3 t396 t400 t401 t402 t405) else (none)) = some r := H
    have A56 := Aside0.mk A560
    clear A560
    by_cases c57 : t411 = true
    ·subst c57
     have H1 : (laws_FnExactSnapActs.j0 k t392 t395 t407 t410 (t410 != t395) l0_0 a1_0 a1_1 l1_2 a1_3 t396 t400 t401 t402 t405) = some r := by rw [if_pos rfl] at H; exact H
     clear H
     have H := H1
     clear H1
     have H' := Aside0.mk H
     clear H
     obtain ⟨Ao58, co58, eo58⟩ := Kd.R_slice HO409.out
     subst eo58
     obtain ⟨Ao59, co59, eo59⟩ := Kd.R_slice HO394.out
     subst eo59
     go_wp2_with (first | ((with_reducible refine gate_callee (f := 32) rfl ?_); refine goesL_ (some 47) rfl rfl Tryd.func32 (by kernel_rfl) rfl #[.slice Ao58 t407.length co58, .slice Ao59 t392.length co59] rfl (by (try simp only [List.map_toArray, List.map_cons, List.map_nil]); first | done | rfl | (simp only [List.length_drop, List.length_take]; rfl)) ?_; (with_reducible refine (laws_eqActS.calls k _ _ t407 _ _ t392 true _ ?side1 ?side2 ?side3 ?side4 A56.out).mono ?_); (case side1 => repeat (first | exact (Kd.R_reads' HO409.out).2.2 | (with_reducible refine Kd.C_alloc ?_ _) | (with_reducible refine Kd.C_drewN ?_ _) | (with_reducible refine Kd.C_drew ?_))); (case side2 => exact (Kd.R_reads' HO409.out).2.1); (case side3 => repeat (first | exact (Kd.R_reads' HO394.out).2.2 | (with_reducible refine Kd.C_alloc ?_ _) | (with_reducible refine Kd.C_drewN ?_ _) | (with_reducible refine Kd.C_drew ?_))); (case side4 => exact (Kd.R_reads' HO394.out).2.1); rintro e w60 ⟨rfl, hb⟩; refine ⟨_, rfl, ?_⟩; replace HO385 := rb_ HO385 hb; replace HO390 := rb_ HO390 hb; replace HO394 := rb_ HO394 hb; replace HO398 := rb_ HO398 hb; replace HO404 := rb_ HO404 hb; replace HO409 := rb_ HO409 hb; replace BK379 := bb_ BK379 hb; replace BK380 := bb_ BK380 hb; replace BK399 := bb_ BK399 hb; replace BK406 := bb_ BK406 hb; replace HB := bs_ HB hb; (try clear hb)))
     go_meet
     case rel => exact ⟨_, ((t410 != t395)), (by first | rfl | (simp; done) | (simp [*]; done)), H', ⟨by first | omega | exact Nat.le_refl _⟩, ⟨by (with_reducible repeat (first | apply Kd.R_alloc | apply Kd.R_drewN | apply Kd.R_drew)); exact Kd.R_mono HO394.out (fun _ hk => hk.2)⟩, ⟨by (with_reducible repeat (first | apply Kd.R_alloc | apply Kd.R_drewN | apply Kd.R_drew)); exact Kd.R_mono HO409.out (fun _ hk => hk.2)⟩, ⟨by (with_reducible repeat (first | apply Kd.R_alloc | apply Kd.R_drewN | apply Kd.R_drew)); exact Kd.R_mono HO398.out (fun _ hk => trivial)⟩, ⟨by (with_reducible repeat (first | apply Kd.R_alloc | apply Kd.R_drewN | apply Kd.R_drew)); exact Kd.R_mono HO404.out (fun _ hk => trivial)⟩, ⟨by (with_reducible repeat (first | refine blk_drewN ?_ _ | refine blk_drew ?_ | refine blk_alloc ?_ _)); exact BK379.out⟩, ⟨by (with_reducible repeat (first | refine blk_drewN ?_ _ | refine blk_drew ?_ | refine blk_alloc ?_ _)); exact BK380.out⟩, ⟨by (with_reducible repeat (first | refine blk_drewN ?_ _ | refine blk_drew ?_ | refine blk_alloc ?_ _)); exact BK399.out⟩, ⟨by (with_reducible repeat (first | refine blk_drewN ?_ _ | refine blk_drew ?_ | refine blk_alloc ?_ _)); exact BK406.out⟩, ⟨by repeat (first | (with_reducible first | exact HB.out | apply below_alloc | apply pw_below_drewN | apply below_drew1 | refine below_set ?_ GE379.out | refine below_set ?_ GE380.out | refine below_set ?_ GE399.out | refine below_set ?_ GE406.out) | exact HB.out)⟩⟩
    ·replace c57 := Bool.eq_false_iff.mpr c57
     subst c57
     have H1 : (none) = some r := by rw [if_neg (show ¬ (false = true) by decide)] at H; exact H
     clear H
     have H := H1
     clear H1
     exact absurd H (by simp)
   case rest =>
    clear HC25
    try clear c1
    try clear c2
    try clear p2
    try clear c3
    try clear c4
    try clear c4b0
    try clear c5
    try clear c7
    try clear c8
    try clear c11
    try clear c11b0
    try clear c14
    try clear c26
    try clear c27
    try clear c28
    try clear c29
    try clear c30
    try clear c31
    try clear c32
    try clear c43
    try clear c44
    try clear c49
    try clear c50
    try clear c51
    try clear c57
    try clear hcz15_0
    try clear hcz17_0
    try clear hcz17_1
    try clear hcz17_2
    try clear hcz17_3
    try clear hcz29_0
    try clear hcz31_0
    try clear hcz31_1
    try clear hcz31_2
    try clear hcz31_3
    try clear hcz39_0
    try clear hcz45_0
    try clear hcz46_0
    try clear hcz46_1
    try clear hcz46_2
    try clear hcz46_3
    try clear hcz52_0
    try clear hcz52_1
    try clear hcz52_2
    try clear hcz52_3
    try clear hcz54_0
    try clear hcz8_0
    try clear hfz15_0
    try clear hfz17_0
    try clear hfz17_1
    try clear hfz17_2
    try clear hfz17_3
    try clear hfz29_0
    try clear hfz31_0
    try clear hfz31_1
    try clear hfz31_2
    try clear hfz31_3
    try clear hfz39_0
    try clear hfz45_0
    try clear hfz46_0
    try clear hfz46_1
    try clear hfz46_2
    try clear hfz46_3
    try clear hfz52_0
    try clear hfz52_1
    try clear hfz52_2
    try clear hfz52_3
    try clear hfz54_0
    try clear hfz8_0
    obtain ⟨kq, x53_24, rfl, HA, HJ24, HO_6, HO_10, HO_400000, HO_407002, BK379, BK380, BK399, BK406, HB⟩ := hcut
    cases kq with
    | zero => exact absurd HA.out (by simp [laws_FnExactSnapActs.j0])
    | succ kj24 =>
     have H := HA.out
     clear HA
     simp only [laws_FnExactSnapActs.j0] at H
     by_cases c61 : x53_24 = true
     ·subst c61
      have H1 : (none) = some r := by rw [if_pos rfl] at H; exact H
      clear H
      have H := H1
      clear H1
      exact absurd H (by simp)
     ·replace c61 := Bool.eq_false_iff.mpr c61
      subst c61
      have H1 : ((laws_toDisk.f kj24 l0_0).bind fun t412 => ((laws_eqDisk.f kj24 t396 t412).bind fun t415 => (if t415 = true then ((laws_toSnap.f kj24 a1_0 a1_1 l1_2 a1_3).bind fun bt416 => ((laws_eqSnap.f kj24 t400 t401 t402 t405 bt416.1 bt416.2.1 bt416.2.2.1 bt416.2.2.2).bind fun t422 => (if t422 = true then ((laws_markDisk.f kj24 t396 1).bind fun bt423 => ((laws_markSnap.f kj24 t400 t401 t402 t405 bt423.1).bind fun bt425 => (if bt425.1 < 0 then (none) else ((laws_eqActS.f kj24 t407 t392).bind fun t427 => (if t427 = true then (laws_FnExactSnapActs.j1 kj24 t392 t395 t407 (t410 != t395) l0_0 a1_0 a1_1 l1_2 a1_3) else (none)))))) else (none)))) else (none)))) = some r := by rw [if_neg (show ¬ (false = true) by decide)] at H; exact H
      clear H
      have H := H1
      clear H1
      replace H := Option.bind_eq_some_iff.mp H
      obtain ⟨t412, A620, H⟩ := H
      replace H : ((laws_eqDisk.f kj24 t396 t412).bind fun t415 => (if t415 = true then ((laws_toSnap.f kj24 a1_0 a1_1 l1_2 a1_3).bind fun bt416 => ((laws_eqSnap.f kj24 t400 t401 t402 t405 bt416.1 bt416.2.1 bt416.2.2.1 bt416.2.2.2).bind fun t422 => (if t422 = true then ((laws_markDisk.f kj24 t396 1).bind fun bt423 => ((laws_markSnap.f kj24 t400 t401 t402 t405 bt423.1).bind fun bt425 => (if bt425.1 < 0 then (none) else ((laws_eqActS.f kj24 t407 t392).bind fun t427 => (if t427 = true then (laws_FnExactSnapActs.j1 kj24 t392 t395 t407 (t410 != t395) l0_0 a1_0 a1_1 l1_2 a1_3) else (none)))))) else (none)))) else (none))) = some r := H
      have A62 := Aside0.mk A620
      clear A620
      replace H := Option.bind_eq_some_iff.mp H
      obtain ⟨t415, A630, H⟩ := H
      replace H : (if t415 = true then ((laws_toSnap.f kj24 a1_0 a1_1 l1_2 a1_3).bind fun bt416 => ((laws_eqSnap.f kj24 t400 t401 t402 t405 bt416.1 bt416.2.1 bt416.2.2.1 bt416.2.2.2).bind fun t422 => (if t422 = true then ((laws_markDisk.f kj24 t396 1).bind fun bt423 => ((laws_markSnap.f kj24 t400 t401 t402 t405 bt423.1).bind fun bt425 => (if bt425.1 < 0 then (none) else ((laws_eqActS.f kj24 t407 t392).bind fun t427 => (if t427 = true then (laws_FnExactSnapActs.j1 kj24 t392 t395 t407 (t410 != t395) l0_0 a1_0 a1_1 l1_2 a1_3) else (none)))))) else (none)))) else (none)) = some r := H
      have A63 := Aside0.mk A630
      clear A630
      by_cases c64 : t415 = true
      ·subst c64
       have H1 : ((laws_toSnap.f kj24 a1_0 a1_1 l1_2 a1_3).bind fun bt416 => ((laws_eqSnap.f kj24 t400 t401 t402 t405 bt416.1 bt416.2.1 bt416.2.2.1 bt416.2.2.2).bind fun t422 => (if t422 = true then ((laws_markDisk.f kj24 t396 1).bind fun bt423 => ((laws_markSnap.f kj24 t400 t401 t402 t405 bt423.1).bind fun bt425 => (if bt425.1 < 0 then (none) else ((laws_eqActS.f kj24 t407 t392).bind fun t427 => (if t427 = true then (laws_FnExactSnapActs.j1 kj24 t392 t395 t407 (t410 != t395) l0_0 a1_0 a1_1 l1_2 a1_3) else (none)))))) else (none)))) = some r := by rw [if_pos rfl] at H; exact H
       clear H
       have H := H1
       clear H1
       replace H := Option.bind_eq_some_iff.mp H
       obtain ⟨⟨t416, t417, t418, t421⟩, A650, H⟩ := H
       replace H : ((laws_eqSnap.f kj24 t400 t401 t402 t405 t416 t417 t418 t421).bind fun t422 => (if t422 = true then ((laws_markDisk.f kj24 t396 1).bind fun bt423 => ((laws_markSnap.f kj24 t400 t401 t402 t405 bt423.1).bind fun bt425 => (if bt425.1 < 0 then (none) else ((laws_eqActS.f kj24 t407 t392).bind fun t427 => (if t427 = true then (laws_FnExactSnapActs.j1 kj24 t392 t395 t407 (t410 != t395) l0_0 a1_0 a1_1 l1_2 a1_3) else (none)))))) else (none))) = some r := H
       have A65 := Aside0.mk A650
       clear A650
       replace H := Option.bind_eq_some_iff.mp H
       obtain ⟨t422, A660, H⟩ := H
       replace H : (if t422 = true then ((laws_markDisk.f kj24 t396 1).bind fun bt423 => ((laws_markSnap.f kj24 t400 t401 t402 t405 bt423.1).bind fun bt425 => (if bt425.1 < 0 then (none) else ((laws_eqActS.f kj24 t407 t392).bind fun t427 => (if t427 = true then (laws_FnExactSnapActs.j1 kj24 t392 t395 t407 (t410 != t395) l0_0 a1_0 a1_1 l1_2 a1_3) else (none)))))) else (none)) = some r := H
       have A66 := Aside0.mk A660
       clear A660
       by_cases c67 : t422 = true
       ·subst c67
        have H1 : ((laws_markDisk.f kj24 t396 1).bind fun bt423 => ((laws_markSnap.f kj24 t400 t401 t402 t405 bt423.1).bind fun bt425 => (if bt425.1 < 0 then (none) else ((laws_eqActS.f kj24 t407 t392).bind fun t427 => (if t427 = true then (laws_FnExactSnapActs.j1 kj24 t392 t395 t407 (t410 != t395) l0_0 a1_0 a1_1 l1_2 a1_3) else (none)))))) = some r := by rw [if_pos rfl] at H; exact H
        clear H
        have H := H1
        clear H1
        replace H := Option.bind_eq_some_iff.mp H
        obtain ⟨⟨t423, t424⟩, A680, H⟩ := H
        replace H : ((laws_markSnap.f kj24 t400 t401 t402 t405 t423).bind fun bt425 => (if bt425.1 < 0 then (none) else ((laws_eqActS.f kj24 t407 t392).bind fun t427 => (if t427 = true then (laws_FnExactSnapActs.j1 kj24 t392 t395 t407 (t410 != t395) l0_0 a1_0 a1_1 l1_2 a1_3) else (none))))) = some r := H
        have A68 := Aside0.mk A680
        clear A680
        replace H := Option.bind_eq_some_iff.mp H
        obtain ⟨⟨t425, t426⟩, A690, H⟩ := H
        replace H : (if t425 < 0 then (none) else ((laws_eqActS.f kj24 t407 t392).bind fun t427 => (if t427 = true then (laws_FnExactSnapActs.j1 kj24 t392 t395 t407 (t410 != t395) l0_0 a1_0 a1_1 l1_2 a1_3) else (none)))) = some r := H
        have A69 := Aside0.mk A690
        clear A690
        have HC70 := Aside0.mk H
        clear H
        try go_wp2
        have n0_ := mk_ (Kd.R_drew HO_6.out)
        have n1_ := mk_ (Kd.R_drew HO_10.out)
        have n2_ := mk_ (Kd.R_drew HO_400000.out)
        have n3_ := mk_ (Kd.R_drew HO_407002.out)
        have n4_ := mk_ (blk_drew BK379.out)
        have n5_ := mk_ (blk_drew BK380.out)
        have n6_ := mk_ (blk_drew BK399.out)
        have n7_ := mk_ (blk_drew BK406.out)
        have n8_ := mk_ (below_drew1 HB.out)
        clear HO_6; clear HO_10; clear HO_400000; clear HO_407002; clear BK379; clear BK380; clear BK399; clear BK406; clear HB; have HO_6 := n0_; have HO_10 := n1_; have HO_400000 := n2_; have HO_407002 := n3_; have BK379 := n4_; have BK380 := n5_; have BK399 := n6_; have BK406 := n7_; have HB := n8_; clear n0_ n1_ n2_ n3_ n4_ n5_ n6_ n7_ n8_
        refine start_ (n := 5) (S := fun w' => w'.cell? ⟨gb399, 0, none⟩ = some (.slice Ao42 t396.length co42) ∧ w'.cell? ⟨gb379, 0, none⟩ = some (.slice A0_0 l0_0.length c0_0)) (ds := []) #[false, false, false, false, false] (by kernel_rfl) rfl rfl ⟨bc_ BK399 0, bc_ BK379 0⟩ (fun hHeld => ?_)
        generalize wc.drew = w71 at HO_6 HO_10 HO_400000 HO_407002 BK379 BK380 BK399 BK406 HB hHeld ⊢
        refine take_ (i := 0) (N := some 54) (v := ?_) (a' := ?_) #[true, false, false, false, false] rfl rfl (by kernel_rfl) (fun _ _ _ h => h) (Or.inl ⟨by rfl, ?_⟩) hHeld ?_ ?_
        rotate_left
        ·rintro w' ⟨s0, s1⟩
         go_simp
         with_reducible rfl
        rotate_left
        ·simp only [Act.put, sia_, scz_, scs_, i64_w, i32_w]
         rfl
        refine take_ (i := 1) (N := some 55) (v := ?_) (a' := ?_) #[true, true, false, false, false] rfl rfl (by kernel_rfl) (fun _ _ _ h => h) (Or.inl ⟨by rfl, ?_⟩) hHeld ?_ ?_
        rotate_left
        ·rintro w' ⟨s0, s1⟩
         go_simp
         with_reducible rfl
        rotate_left
        ·simp only [Act.put, sia_, scz_, scs_, i64_w, i32_w]
         rfl
        refine one_ (i := 2) (N := some 56) #[true, true, true, false, false] rfl rfl (by kernel_rfl) (by decide) (fun K hK => ?_)
        refine goes_ Tryd.func29 (by kernel_rfl) rfl #[.agg #[.slice A0_0 l0_0.length c0_0]] (by rfl) rfl rfl (by (try simp only [List.map_toArray, List.map_cons, List.map_nil]); first | done | rfl | (simp only [List.length_drop, List.length_take]; rfl)) ?_
        with_reducible refine (laws_toDisk.calls kj24 _ _ l0_0 t412 _ ?side1 ?side2 A62.out).mono ?_
        (case side1 => repeat (first | exact (Kd.C_below HR0_0.out HB.out) | (with_reducible refine Kd.C_alloc ?_ _) | (with_reducible refine Kd.C_drewN ?_ _) | (with_reducible refine Kd.C_drew ?_)))
        (case side2 => exact HC0_0.out)
        rintro e w72 ⟨v413, rfl, ho0, hb⟩
        refine ⟨_, rfl, ?_⟩
        have n0_ := rb_ HO_6 hb
        have n1_ := rb_ HO_10 hb
        have n2_ := mk_ (Kd.R_elder' (rp_ HO_400000) (Kd.R_base ho0) hb)
        have n3_ := rb_ HO_407002 hb
        have n4_ := mk_ (Kd.R_lower (Kd.R_new' ho0 (Kd.R_lt (rp_ HO_400000))) (below_size (bw_ HB)))
        have n5_ := bb_ BK379 hb; have n6_ := bb_ BK380 hb; have n7_ := bb_ BK399 hb; have n8_ := bb_ BK406 hb
        have n9_ := bs_ HB hb
        clear HO_6; clear HO_10; clear HO_400000; clear HO_407002; clear BK379; clear BK380; clear BK399; clear BK406; clear HB; have HO_6 := n0_; have HO_10 := n1_; have HO_400000 := n2_; have HO_407002 := n3_; have HO414 := n4_; have BK379 := n5_; have BK380 := n6_; have BK399 := n7_; have BK406 := n8_; have HB := n9_; clear n0_ n1_ n2_ n3_ n4_ n5_ n6_ n7_ n8_ n9_; (try clear hb); (try clear hb2); (try clear hk); (try clear hi); (try clear ho0)
        obtain ⟨Ao73, co73, eo73⟩ := Kd.R_slice HO414.out
        (first | subst eo73 | (injection eo73 with f1_ f2_ f3_; have f4_ := f1_.symm; have f5_ := f3_.symm; clear f1_ f2_ f3_; subst f4_; subst f5_))
        refine hK.out _ _ ⟨bc_ BK399 0, bc_ BK379 0⟩ (fun hHeld => ?_)
        clear hK K
        refine norm_ (a' := ?_) ?_ ?_
        rotate_left
        ·show Act.put _ (some 56) _ = _
         simp only [Act.put, sia_, scz_, scs_, i64_w, i32_w]
         rfl
        refine one_ (i := 3) (N := some 57) #[true, true, true, true, false] rfl rfl (by kernel_rfl) (by decide) (fun K hK => ?_)
        refine goes_ Tryd.func33 (by kernel_rfl) rfl #[.agg #[.slice Ao42 t396.length co42], .agg #[.slice Ao73 t412.length co73]] (by rfl) rfl rfl (by (try simp only [List.map_toArray, List.map_cons, List.map_nil]); first | done | rfl | (simp only [List.length_drop, List.length_take]; rfl)) ?_
        with_reducible refine (laws_eqDisk.calls kj24 _ _ t396 _ _ t412 true _ ?side1 ?side2 ?side3 ?side4 A63.out).mono ?_
        (case side1 => repeat (first | exact (Kd.R_reads' HO_400000.out).2.2 | (with_reducible refine Kd.C_alloc ?_ _) | (with_reducible refine Kd.C_drewN ?_ _) | (with_reducible refine Kd.C_drew ?_)))
        (case side2 => exact (Kd.R_reads' HO_400000.out).2.1)
        (case side3 => repeat (first | exact (Kd.R_reads' HO414.out).2.2 | (with_reducible refine Kd.C_alloc ?_ _) | (with_reducible refine Kd.C_drewN ?_ _) | (with_reducible refine Kd.C_drew ?_)))
        (case side4 => exact (Kd.R_reads' HO414.out).2.1)
        rintro e w74 ⟨rfl, hb⟩
        refine ⟨_, rfl, ?_⟩
        have n0_ := rb_ HO_6 hb
        have n1_ := rb_ HO_10 hb
        have n2_ := rb_ HO_400000 hb
        have n3_ := rb_ HO_407002 hb
        have n4_ := rb_ HO414 hb
        have n5_ := bb_ BK379 hb; have n6_ := bb_ BK380 hb; have n7_ := bb_ BK399 hb; have n8_ := bb_ BK406 hb
        have n9_ := bs_ HB hb
        clear HO_6; clear HO_10; clear HO_400000; clear HO_407002; clear HO414; clear BK379; clear BK380; clear BK399; clear BK406; clear HB; have HO_6 := n0_; have HO_10 := n1_; have HO_400000 := n2_; have HO_407002 := n3_; have HO414 := n4_; have BK379 := n5_; have BK380 := n6_; have BK399 := n7_; have BK406 := n8_; have HB := n9_; clear n0_ n1_ n2_ n3_ n4_ n5_ n6_ n7_ n8_ n9_; (try clear hb); (try clear hb2); (try clear hk); (try clear hi)
        refine hK.out _ _ ⟨bc_ BK399 0, bc_ BK379 0⟩ (fun hHeld => ?_)
        clear hK K
        refine norm_ (a' := ?_) ?_ ?_
        rotate_left
        ·show Act.put _ (some 57) _ = _
         simp only [Act.put, sia_, scz_, scs_, i64_w, i32_w]
         rfl
        refine pure_ (i := 4) (N := some 58) (v := ?_) (a' := ?_) #[true, true, true, true, true] rfl rfl (by kernel_rfl) (fun _ _ _ h => h) (Or.inl ⟨by rfl, ?_⟩) ?_ ?_
        rotate_left
        ·intro w'
         go_simp
         with_reducible rfl
        rotate_left
        ·simp only [Act.put, sia_, scz_, scs_, i64_w, i32_w]
         rfl
        refine done_ (by kernel_rfl) ?_
        try go_wp2
        have n0_ := mk_ (Kd.R_drew HO_6.out)
        have n1_ := mk_ (Kd.R_drew HO_10.out)
        have n2_ := mk_ (Kd.R_drew HO_400000.out)
        have n3_ := mk_ (Kd.R_drew HO_407002.out)
        have n4_ := mk_ (Kd.R_drew HO414.out)
        have n5_ := mk_ (blk_drew BK379.out)
        have n6_ := mk_ (blk_drew BK380.out)
        have n7_ := mk_ (blk_drew BK399.out)
        have n8_ := mk_ (blk_drew BK406.out)
        have n9_ := mk_ (below_drew1 HB.out)
        clear HO_6; clear HO_10; clear HO_400000; clear HO_407002; clear HO414; clear BK379; clear BK380; clear BK399; clear BK406; clear HB; have HO_6 := n0_; have HO_10 := n1_; have HO_400000 := n2_; have HO_407002 := n3_; have HO414 := n4_; have BK379 := n5_; have BK380 := n6_; have BK399 := n7_; have BK406 := n8_; have HB := n9_; clear n0_ n1_ n2_ n3_ n4_ n5_ n6_ n7_ n8_ n9_
        refine start_ (n := 5) (S := fun w' => w'.cell? ⟨gb406, 0, none⟩ = some (.int .i64 t400) ∧ w'.cell? ⟨gb406, 1, none⟩ = some (.int .i64 t401) ∧ w'.cell? ⟨gb406, 2, none⟩ = some (.slice Ao53 t402.length co53) ∧ w'.cell? ⟨gb406, 3, none⟩ = some (.string t405) ∧ w'.cell? ⟨gb380, 0, none⟩ = some (.int .i64 a1_0) ∧ w'.cell? ⟨gb380, 1, none⟩ = some (.int .i64 a1_1) ∧ w'.cell? ⟨gb380, 2, none⟩ = some (.slice A1_2 l1_2.length c1_2) ∧ w'.cell? ⟨gb380, 3, none⟩ = some (.string a1_3)) (ds := []) #[false, false, false, false, false] (by kernel_rfl) rfl rfl ⟨bc_ BK406 0, bc_ BK406 1, bc_ BK406 2, bc_ BK406 3, bc_ BK380 0, bc_ BK380 1, bc_ BK380 2, bc_ BK380 3⟩ (fun hHeld => ?_)
        generalize w74.drew = w75 at HO_6 HO_10 HO_400000 HO_407002 HO414 BK379 BK380 BK399 BK406 HB hHeld ⊢
        refine take_ (i := 0) (N := some 59) (v := ?_) (a' := ?_) #[true, false, false, false, false] rfl rfl (by kernel_rfl) (fun _ _ _ h => h) (Or.inl ⟨by rfl, ?_⟩) hHeld ?_ ?_
        rotate_left
        ·rintro w' ⟨s0, s1, s2, s3, s4, s5, s6, s7⟩
         go_simp
         with_reducible rfl
        rotate_left
        ·simp only [Act.put, sia_, scz_, scs_, i64_w, i32_w]
         rfl
        refine take_ (i := 1) (N := some 60) (v := ?_) (a' := ?_) #[true, true, false, false, false] rfl rfl (by kernel_rfl) (fun _ _ _ h => h) (Or.inl ⟨by rfl, ?_⟩) hHeld ?_ ?_
        rotate_left
        ·rintro w' ⟨s0, s1, s2, s3, s4, s5, s6, s7⟩
         go_simp
         with_reducible rfl
        rotate_left
        ·simp only [Act.put, sia_, scz_, scs_, i64_w, i32_w]
         rfl
        refine one_ (i := 2) (N := some 61) #[true, true, true, false, false] rfl rfl (by kernel_rfl) (by decide) (fun K hK => ?_)
        refine goes_ Tryd.func30 (by kernel_rfl) rfl #[.agg #[.int .i64 a1_0, .int .i64 a1_1, .slice A1_2 l1_2.length c1_2, .string a1_3]] (by rfl) rfl rfl (by (try simp only [List.map_toArray, List.map_cons, List.map_nil]); first | done | rfl | (simp only [List.length_drop, List.length_take]; rfl)) ?_
        with_reducible refine (laws_toSnap.calls kj24 a1_0 a1_1 _ _ l1_2 a1_3 t416 t417 t418 t421 _ ?side1 ?side2 A65.out).mono ?_
        (case side1 => repeat (first | exact (Kd.C_below HR1_2.out HB.out) | (with_reducible refine Kd.C_alloc ?_ _) | (with_reducible refine Kd.C_drewN ?_ _) | (with_reducible refine Kd.C_drew ?_)))
        (case side2 => exact HC1_2.out)
        rintro e w76 ⟨v419, rfl, ho0, hb⟩
        refine ⟨_, rfl, ?_⟩
        have n0_ := rb_ HO_6 hb
        have n1_ := rb_ HO_10 hb
        have n2_ := rb_ HO_400000 hb
        have n3_ := mk_ (Kd.R_elder' (rp_ HO_407002) (Kd.R_base ho0) hb)
        have n4_ := rb_ HO414 hb
        have n5_ := mk_ (Kd.R_lower (Kd.R_new' ho0 (Kd.R_lt (rp_ HO_407002))) (below_size (bw_ HB)))
        have n6_ := bb_ BK379 hb; have n7_ := bb_ BK380 hb; have n8_ := bb_ BK399 hb; have n9_ := bb_ BK406 hb
        have n10_ := bs_ HB hb
        clear HO_6; clear HO_10; clear HO_400000; clear HO_407002; clear HO414; clear BK379; clear BK380; clear BK399; clear BK406; clear HB; have HO_6 := n0_; have HO_10 := n1_; have HO_400000 := n2_; have HO_407002 := n3_; have HO414 := n4_; have HO420 := n5_; have BK379 := n6_; have BK380 := n7_; have BK399 := n8_; have BK406 := n9_; have HB := n10_; clear n0_ n1_ n2_ n3_ n4_ n5_ n6_ n7_ n8_ n9_ n10_; (try clear hb); (try clear hb2); (try clear hk); (try clear hi); (try clear ho0)
        obtain ⟨Ao77, co77, eo77⟩ := Kd.R_slice HO420.out
        (first | subst eo77 | (injection eo77 with f1_ f2_ f3_; have f4_ := f1_.symm; have f5_ := f3_.symm; clear f1_ f2_ f3_; subst f4_; subst f5_))
        refine hK.out _ _ ⟨bc_ BK406 0, bc_ BK406 1, bc_ BK406 2, bc_ BK406 3, bc_ BK380 0, bc_ BK380 1, bc_ BK380 2, bc_ BK380 3⟩ (fun hHeld => ?_)
        clear hK K
        refine norm_ (a' := ?_) ?_ ?_
        rotate_left
        ·show Act.put _ (some 61) _ = _
         simp only [Act.put, sia_, scz_, scs_, i64_w, i32_w]
         rfl
        refine one_ (i := 3) (N := some 62) #[true, true, true, true, false] rfl rfl (by kernel_rfl) (by decide) (fun K hK => ?_)
        refine goes_ Tryd.func34 (by kernel_rfl) rfl #[.agg #[.int .i64 t400, .int .i64 t401, .slice Ao53 t402.length co53, .string t405], .agg #[.int .i64 t416, .int .i64 t417, .slice Ao77 t418.length co77, .string t421]] (by rfl) rfl rfl (by (try simp only [List.map_toArray, List.map_cons, List.map_nil]); first | done | rfl | (simp only [List.length_drop, List.length_take]; rfl)) ?_
        with_reducible refine (laws_eqSnap.calls kj24 t400 t401 _ _ t402 t405 t416 t417 _ _ t418 t421 true _ ?side1 ?side2 ?side3 ?side4 A66.out).mono ?_
        (case side1 => repeat (first | exact (Kd.R_reads' HO_407002.out).2.2 | (with_reducible refine Kd.C_alloc ?_ _) | (with_reducible refine Kd.C_drewN ?_ _) | (with_reducible refine Kd.C_drew ?_)))
        (case side2 => exact (Kd.R_reads' HO_407002.out).2.1)
        (case side3 => repeat (first | exact (Kd.R_reads' HO420.out).2.2 | (with_reducible refine Kd.C_alloc ?_ _) | (with_reducible refine Kd.C_drewN ?_ _) | (with_reducible refine Kd.C_drew ?_)))
        (case side4 => exact (Kd.R_reads' HO420.out).2.1)
        rintro e w78 ⟨rfl, hb⟩
        refine ⟨_, rfl, ?_⟩
        have n0_ := rb_ HO_6 hb
        have n1_ := rb_ HO_10 hb
        have n2_ := rb_ HO_400000 hb
        have n3_ := rb_ HO_407002 hb
        have n4_ := rb_ HO414 hb
        have n5_ := rb_ HO420 hb
        have n6_ := bb_ BK379 hb; have n7_ := bb_ BK380 hb; have n8_ := bb_ BK399 hb; have n9_ := bb_ BK406 hb
        have n10_ := bs_ HB hb
        clear HO_6; clear HO_10; clear HO_400000; clear HO_407002; clear HO414; clear HO420; clear BK379; clear BK380; clear BK399; clear BK406; clear HB; have HO_6 := n0_; have HO_10 := n1_; have HO_400000 := n2_; have HO_407002 := n3_; have HO414 := n4_; have HO420 := n5_; have BK379 := n6_; have BK380 := n7_; have BK399 := n8_; have BK406 := n9_; have HB := n10_; clear n0_ n1_ n2_ n3_ n4_ n5_ n6_ n7_ n8_ n9_ n10_; (try clear hb); (try clear hb2); (try clear hk); (try clear hi)
        refine hK.out _ _ ⟨bc_ BK406 0, bc_ BK406 1, bc_ BK406 2, bc_ BK406 3, bc_ BK380 0, bc_ BK380 1, bc_ BK380 2, bc_ BK380 3⟩ (fun hHeld => ?_)
        clear hK K
        refine norm_ (a' := ?_) ?_ ?_
        rotate_left
        ·show Act.put _ (some 62) _ = _
         simp only [Act.put, sia_, scz_, scs_, i64_w, i32_w]
         rfl
        refine pure_ (i := 4) (N := some 63) (v := ?_) (a' := ?_) #[true, true, true, true, true] rfl rfl (by kernel_rfl) (fun _ _ _ h => h) (Or.inl ⟨by rfl, ?_⟩) ?_ ?_
        rotate_left
        ·intro w'
         go_simp
         with_reducible rfl
        rotate_left
        ·simp only [Act.put, sia_, scz_, scs_, i64_w, i32_w]
         rfl
        refine done_ (by kernel_rfl) ?_
        have hnb79 := NB399_379.out
        have hnc79 := NB379_399.out
        have hnb80 := NB399_380.out
        have hnc80 := NB380_399.out
        have hnb81 := NB399_406.out
        have hnc81 := NB406_399.out
        have hcz82_0 : w78.cell? ⟨gb399, 0, none⟩ = some (.slice Ao42 t396.length co42) := bc_ BK399 0
        have hfz82_0 := blk_frozen BK399.out 0
        go_upto_region 21 with (first | ((with_reducible refine gate_callee (f := 35) rfl ?_); refine goesL_ (some 66) rfl rfl Tryd.func35 (by kernel_rfl) rfl #[.agg #[.slice Ao42 t396.length co42], .int .i64 1] rfl (by (try simp only [List.map_toArray, List.map_cons, List.map_nil]); first | done | rfl | (simp only [List.length_drop, List.length_take]; rfl)) ?_; (with_reducible refine (laws_markDisk.calls kj24 (fun k_ => some k_ = (.slice Ao42 t396.length co42 : Value).ownBlock) (.slice Ao42 t396.length co42) t396 1 t423 t424 w _ ?side1 ?side2 A68.out).mono ?_); (case side1 => repeat (first | (with_reducible first | exact HB.out | apply below_alloc | apply pw_below_drewN | apply below_drew1 | refine below_set ?_ GE379.out | refine below_set ?_ GE380.out | refine below_set ?_ GE399.out | refine below_set ?_ GE406.out) | exact HB.out)); (case side2 => exact Kd.R_tight rfl HO_400000.out); rintro e w83 ⟨rfl, hy0, hb, hkp⟩; refine ⟨_, rfl, ?_⟩; have n0_ := mk_ (Kd.R_mono (ok' := fun k_ => some k_ ≠ (v408 : Value).ownBlock) (Kd.R_keptB ((Kd.R_apart' HO_6.out (Kd.R_typed HO_400000.out) (by decide))) hkp (fun k_ hk_ hs_ => (hk_.2) hs_)) (fun k_ hk_ => hk_.1.1)); have n1_ := mk_ (Kd.R_mono (ok' := fun k_ => some k_ ≠ (v393 : Value).ownBlock) (Kd.R_keptB ((Kd.R_apart' HO_10.out (Kd.R_typed HO_400000.out) (by decide))) hkp (fun k_ hk_ hs_ => (hk_.2) hs_)) (fun k_ hk_ => hk_.1.1)); have n2_ := mk_ (Kd.R_reok rfl hy0 (fun k_ e_ => HO_400000.out.1 k_ e_)); have n3_ := mk_ (Kd.R_mono (ok' := fun k_ => some k_ ≠ (.slice Ao77 t418.length co77 : Value).ownBlock) (Kd.R_keptB ((Kd.R_apart' HO_407002.out (Kd.R_typed HO_400000.out) (by decide))) hkp (fun k_ hk_ hs_ => (hk_.2) hs_)) (fun k_ hk_ => hk_.1.1.2)); have n4_ := mk_ (blk_kept (bp_ BK379) hkp (fun hs_ => (fun e_ => (Kd.R_ne HO_400000.out BK379.out (by decide)) e_) hs_)); have n5_ := mk_ (blk_kept (bp_ BK380) hkp (fun hs_ => (fun e_ => (Kd.R_ne HO_400000.out BK380.out (by decide)) e_) hs_)); have n6_ := mk_ (blk_kept (bp_ BK399) hkp (fun hs_ => (fun e_ => (Kd.R_ne HO_400000.out BK399.out (by decide)) e_) hs_)); have n7_ := mk_ (blk_kept (bp_ BK406) hkp (fun hs_ => (fun e_ => (Kd.R_ne HO_400000.out BK406.out (by decide)) e_) hs_)); have n8_ := mk_ (Kd.R_mono (ok' := fun k_ => some k_ ≠ (.slice Ao42 t396.length co42 : Value).ownBlock) (Kd.R_keptB (HO414.out) hkp (fun k_ hk_ hs_ => (hk_.2) hs_)) (fun k_ hk_ => hk_.1.2)); have n9_ := mk_ (Kd.R_mono (ok' := fun k_ => some k_ ≠ (.slice Ao53 t402.length co53 : Value).ownBlock) (Kd.R_keptB ((Kd.R_apart' HO420.out (Kd.R_typed HO_400000.out) (by decide))) hkp (fun k_ hk_ hs_ => (hk_.2) hs_)) (fun k_ hk_ => hk_.1.1.2)); have n10_ := mk_ (hb); clear HO_6; clear HO_10; clear HO_400000; clear HO_407002; clear BK379; clear BK380; clear BK399; clear BK406; clear HO414; clear HO420; clear HB; have HO_6 := n0_; have HO_10 := n1_; have HO_400000 := n2_; have HO_407002 := n3_; have BK379 := n4_; have BK380 := n5_; have BK399 := n6_; have BK406 := n7_; have HO414 := n8_; have HO420 := n9_; have HB := n10_; clear n0_ n1_ n2_ n3_ n4_ n5_ n6_ n7_ n8_ n9_ n10_; (try clear hb); (try clear hkp); (try clear hy0); have hnb84 := NB406_379.out; have hnc84 := NB379_406.out; have hnb85 := NB406_380.out; have hnc85 := NB380_406.out; have hcz86_0 : w83.cell? ⟨gb406, 0, none⟩ = some (.int .i64 t400) := bc_ BK406 0; have hcz86_1 : w83.cell? ⟨gb406, 1, none⟩ = some (.int .i64 t401) := bc_ BK406 1; have hcz86_2 : w83.cell? ⟨gb406, 2, none⟩ = some (.slice Ao53 t402.length co53) := bc_ BK406 2; have hcz86_3 : w83.cell? ⟨gb406, 3, none⟩ = some (.string t405) := bc_ BK406 3; have hfz86_0 := blk_frozen BK406.out 0; have hfz86_1 := blk_frozen BK406.out 1; have hfz86_2 := blk_frozen BK406.out 2; have hfz86_3 := blk_frozen BK406.out 3) | ((with_reducible refine gate_callee (f := 36) rfl ?_); refine goesL_ (some 69) rfl rfl Tryd.func36 (by kernel_rfl) rfl #[.agg #[.int .i64 t400, .int .i64 t401, .slice Ao53 t402.length co53, .string t405], .int .i64 t423] rfl (by (try simp only [List.map_toArray, List.map_cons, List.map_nil]); first | done | rfl | (simp only [List.length_drop, List.length_take]; rfl)) ?_; (with_reducible refine (laws_markSnap.calls kj24 t400 t401 (fun k_ => some k_ = (.slice Ao53 t402.length co53 : Value).ownBlock) (.slice Ao53 t402.length co53) t402 t405 t423 t425 t426 w _ ?side1 ?side2 A69.out).mono ?_); (case side1 => repeat (first | (with_reducible first | exact HB.out | apply below_alloc | apply pw_below_drewN | apply below_drew1 | refine below_set ?_ GE379.out | refine below_set ?_ GE380.out | refine below_set ?_ GE399.out | refine below_set ?_ GE406.out) | exact HB.out)); (case side2 => exact Kd.R_tight rfl HO_407002.out); rintro e w87 ⟨rfl, hy0, hb, hkp⟩; refine ⟨_, rfl, ?_⟩; have n0_ := mk_ (Kd.R_mono (ok' := fun k_ => some k_ ≠ (v408 : Value).ownBlock) (Kd.R_keptB ((Kd.R_apart' HO_6.out (Kd.R_typed HO_407002.out) (by decide))) hkp (fun k_ hk_ hs_ => (hk_.2) hs_)) (fun k_ hk_ => hk_.1.1)); have n1_ := mk_ (Kd.R_mono (ok' := fun k_ => some k_ ≠ (v393 : Value).ownBlock) (Kd.R_keptB ((Kd.R_apart' HO_10.out (Kd.R_typed HO_407002.out) (by decide))) hkp (fun k_ hk_ hs_ => (hk_.2) hs_)) (fun k_ hk_ => hk_.1.1)); have n2_ := mk_ (Kd.R_mono (ok' := fun k_ => some k_ ≠ (.slice Ao73 t412.length co73 : Value).ownBlock) (Kd.R_keptB ((Kd.R_apart' HO_400000.out (Kd.R_typed HO_407002.out) (by decide))) hkp (fun k_ hk_ hs_ => (hk_.2) hs_)) (fun k_ hk_ => hk_.1.1.2)); have n3_ := mk_ (Kd.R_reok rfl hy0 (fun k_ e_ => HO_407002.out.1 k_ e_)); have n4_ := mk_ (blk_kept (bp_ BK379) hkp (fun hs_ => (fun e_ => (Kd.R_ne HO_407002.out BK379.out (by decide)) e_) hs_)); have n5_ := mk_ (blk_kept (bp_ BK380) hkp (fun hs_ => (fun e_ => (Kd.R_ne HO_407002.out BK380.out (by decide)) e_) hs_)); have n6_ := mk_ (blk_kept (bp_ BK399) hkp (fun hs_ => (fun e_ => (Kd.R_ne HO_407002.out BK399.out (by decide)) e_) hs_)); have n7_ := mk_ (blk_kept (bp_ BK406) hkp (fun hs_ => (fun e_ => (Kd.R_ne HO_407002.out BK406.out (by decide)) e_) hs_)); have n8_ := mk_ (Kd.R_mono (ok' := fun k_ => some k_ ≠ (.slice Ao42 t396.length co42 : Value).ownBlock) (Kd.R_keptB ((Kd.R_apart' HO414.out (Kd.R_typed HO_407002.out) (by decide))) hkp (fun k_ hk_ hs_ => (hk_.2) hs_)) (fun k_ hk_ => hk_.1.1)); have n9_ := mk_ (Kd.R_mono (ok' := fun k_ => some k_ ≠ (.slice Ao53 t402.length co53 : Value).ownBlock) (Kd.R_keptB (HO420.out) hkp (fun k_ hk_ hs_ => (hk_) hs_)) (fun k_ hk_ => hk_.1)); have n10_ := mk_ (hb); clear HO_6; clear HO_10; clear HO_400000; clear HO_407002; clear BK379; clear BK380; clear BK399; clear BK406; clear HO414; clear HO420; clear HB; have HO_6 := n0_; have HO_10 := n1_; have HO_400000 := n2_; have HO_407002 := n3_; have BK379 := n4_; have BK380 := n5_; have BK399 := n6_; have BK406 := n7_; have HO414 := n8_; have HO420 := n9_; have HB := n10_; clear n0_ n1_ n2_ n3_ n4_ n5_ n6_ n7_ n8_ n9_ n10_; (try clear hb); (try clear hkp); (try clear hy0)))
        (try simp only [Act.put, sia_, scz_, scs_])
        go_cut [82] (fun v82 wc => ∃ (kq : Nat) (x82_69 : Bool), v82 = .bool x82_69 ∧ Aside0 (laws_FnExactSnapActs.j1 kq t392 t395 t407 x82_69 l0_0 a1_0 a1_1 l1_2 a1_3 = some r) ∧ Aside0 (kq ≤ kj24) ∧ Aside0 (Kd.R k82 82 wc w.heap.size (fun k_ => some k_ ≠ (v408 : Value).ownBlock) v393 t392) ∧ Aside0 (Kd.R k82 82 wc w.heap.size (fun k_ => some k_ ≠ (v393 : Value).ownBlock) v408 t407) ∧ Aside0 (Kd.R k88 88 wc w.heap.size (fun _ => True) (.slice Ao42 t396.length co42) t424) ∧ Aside0 (Kd.R (Kd.int .i64) 3 wc w.heap.size (fun _ => True) (.slice Ao53 t402.length co53) t426) ∧ Aside0 (wc.heap[gb379]? = some (.cells #[(.slice A0_0 l0_0.length c0_0)] 40 (0, 0))) ∧ Aside0 (wc.heap[gb380]? = some (.cells #[.int .i64 a1_0, .int .i64 a1_1, (.slice A1_2 l1_2.length c1_2), .string a1_3] 43 (0, 0))) ∧ Aside0 (wc.heap[gb399]? = some (.cells #[(.slice Ao42 t396.length co42)] 51 (0, 0))) ∧ Aside0 (wc.heap[gb406]? = some (.cells #[.int .i64 t400, .int .i64 t401, (.slice Ao53 t402.length co53), .string t405] 53 (0, 0))) ∧ Aside0 (Below w.heap.size w wc))
        case first =>
         have H := HC70.out
         clear HC70
         by_cases c88 : t425 < 0
         ·rw [if_pos c88] at H
          exact absurd H (by simp)
         ·rw [if_neg c88] at H
          have c88b0 : decide (t425 < 0) = false := decide_eq_false c88
          clear c88
          (first | rw [c88b0] | (simp only [i64_w, i32_w]; rw [c88b0]) | skip)
          replace H := Option.bind_eq_some_iff.mp H
          obtain ⟨t427, A890, H⟩ := H
          replace H : (if t427 = true then (laws_FnExactSnapActs.j1 kj24 t392 t395 t407 (t410 != t395) l0_0 a1_0 a1_1 l1_2 a1_3) else (none)) = some r := H
          have A89 := Aside0.mk A890
          clear A890
          by_cases c90 : t427 = true
          ·subst c90
           have H1 : (laws_FnExactSnapActs.j1 kj24 t392 t395 t407 (t410 != t395) l0_0 a1_0 a1_1 l1_2 a1_3) = some r := by rw [if_pos rfl] at H; exact H
           clear H
           have H := H1
           clear H1
           have H' := Aside0.mk H
           clear H
           obtain ⟨Ao91, co91, eo91⟩ := Kd.R_slice HO_10.out
           subst eo91
           obtain ⟨Ao92, co92, eo92⟩ := Kd.R_slice HO_6.out
           subst eo92
           go_wp2_with (first | (go_at_call 32; (with_reducible refine (laws_eqActS.calls kj24 _ _ t407 _ _ t392 true _ ?side1 ?side2 ?side3 ?side4 A89.out).mono ?_); (case side1 => repeat (first | exact (Kd.R_reads' HO_10.out).2.2 | (with_reducible refine Kd.C_alloc ?_ _) | (with_reducible refine Kd.C_drewN ?_ _) | (with_reducible refine Kd.C_drew ?_))); (case side2 => exact (Kd.R_reads' HO_10.out).2.1); (case side3 => repeat (first | exact (Kd.R_reads' HO_6.out).2.2 | (with_reducible refine Kd.C_alloc ?_ _) | (with_reducible refine Kd.C_drewN ?_ _) | (with_reducible refine Kd.C_drew ?_))); (case side4 => exact (Kd.R_reads' HO_6.out).2.1); rintro e w93 ⟨rfl, hb⟩; replace HO_6 := rb_ HO_6 hb; replace HO_10 := rb_ HO_10 hb; replace HO_400000 := rb_ HO_400000 hb; replace HO_407002 := rb_ HO_407002 hb; replace HO414 := rb_ HO414 hb; replace HO420 := rb_ HO420 hb; replace BK379 := bb_ BK379 hb; replace BK380 := bb_ BK380 hb; replace BK399 := bb_ BK399 hb; replace BK406 := bb_ BK406 hb; replace HB := bs_ HB hb; (try clear hb)))
           go_meet
           case rel => exact ⟨_, ((t410 != t395)), (by first | rfl | (simp; done) | (simp [*]; done)), H', ⟨by have := HJ24.out; first | omega | exact Nat.le_refl _⟩, ⟨by (with_reducible repeat (first | apply Kd.R_alloc | apply Kd.R_drewN | apply Kd.R_drew)); exact HO_6.out⟩, ⟨by (with_reducible repeat (first | apply Kd.R_alloc | apply Kd.R_drewN | apply Kd.R_drew)); exact HO_10.out⟩, ⟨by (with_reducible repeat (first | apply Kd.R_alloc | apply Kd.R_drewN | apply Kd.R_drew)); exact Kd.R_mono HO_400000.out (fun _ hk => trivial)⟩, ⟨by (with_reducible repeat (first | apply Kd.R_alloc | apply Kd.R_drewN | apply Kd.R_drew)); exact Kd.R_mono HO_407002.out (fun _ hk => trivial)⟩, ⟨by (with_reducible repeat (first | refine blk_drewN ?_ _ | refine blk_drew ?_ | refine blk_alloc ?_ _)); exact BK379.out⟩, ⟨by (with_reducible repeat (first | refine blk_drewN ?_ _ | refine blk_drew ?_ | refine blk_alloc ?_ _)); exact BK380.out⟩, ⟨by (with_reducible repeat (first | refine blk_drewN ?_ _ | refine blk_drew ?_ | refine blk_alloc ?_ _)); exact BK399.out⟩, ⟨by (with_reducible repeat (first | refine blk_drewN ?_ _ | refine blk_drew ?_ | refine blk_alloc ?_ _)); exact BK406.out⟩, ⟨by repeat (first | (with_reducible first | exact HB.out | apply below_alloc | apply pw_below_drewN | apply below_drew1 | refine below_set ?_ GE379.out | refine below_set ?_ GE380.out | refine below_set ?_ GE399.out | refine below_set ?_ GE406.out) | exact HB.out)⟩⟩
          ·replace c90 := Bool.eq_false_iff.mpr c90
           subst c90
           have H1 : (none) = some r := by rw [if_neg (show ¬ (false = true) by decide)] at H; exact H
           clear H
           have H := H1
           clear H1
           exact absurd H (by simp)
        case rest =>
         clear HC70
         try clear c1
         try clear c2
         try clear p2
         try clear c3
         try clear c4
         try clear c4b0
         try clear c5
         try clear c6
         try clear c7
         try clear c8
         try clear c9
         try clear c11
         try clear c11b0
         try clear c14
         try clear c26
         try clear c27
         try clear c28
         try clear c29
         try clear c30
         try clear c31
         try clear c32
         try clear c33
         try clear c34
         try clear c35
         try clear c36
         try clear c43
         try clear c44
         try clear c49
         try clear c50
         try clear c51
         try clear c57
         try clear c61
         try clear c64
         try clear c67
         try clear c79
         try clear c80
         try clear c81
         try clear c84
         try clear c85
         try clear c88
         try clear c88b0
         try clear c90
         try clear hcz15_0
         try clear hcz17_0
         try clear hcz17_1
         try clear hcz17_2
         try clear hcz17_3
         try clear hcz29_0
         try clear hcz31_0
         try clear hcz31_1
         try clear hcz31_2
         try clear hcz31_3
         try clear hcz39_0
         try clear hcz45_0
         try clear hcz46_0
         try clear hcz46_1
         try clear hcz46_2
         try clear hcz46_3
         try clear hcz52_0
         try clear hcz52_1
         try clear hcz52_2
         try clear hcz52_3
         try clear hcz54_0
         try clear hcz82_0
         try clear hcz86_0
         try clear hcz86_1
         try clear hcz86_2
         try clear hcz86_3
         try clear hcz8_0
         try clear hfz15_0
         try clear hfz17_0
         try clear hfz17_1
         try clear hfz17_2
         try clear hfz17_3
         try clear hfz29_0
         try clear hfz31_0
         try clear hfz31_1
         try clear hfz31_2
         try clear hfz31_3
         try clear hfz39_0
         try clear hfz45_0
         try clear hfz46_0
         try clear hfz46_1
         try clear hfz46_2
         try clear hfz46_3
         try clear hfz52_0
         try clear hfz52_1
         try clear hfz52_2
         try clear hfz52_3
         try clear hfz54_0
         try clear hfz82_0
         try clear hfz86_0
         try clear hfz86_1
         try clear hfz86_2
         try clear hfz86_3
         try clear hfz8_0
         try clear p2
         obtain ⟨kq, x82_69, rfl, HA, HJ69, HO_6, HO_10, HO_400000, HO_407002, BK379, BK380, BK399, BK406, HB⟩ := hcut
         have hl400000_69 := (Kd.R_reads' HO_400000.out).1
         rw [hl400000_69] at HO_400000
         (try simp only [hl400000_69])
         (try simp only [hl400000_69] at BK379)
         (try simp only [hl400000_69] at BK380)
         (try simp only [hl400000_69] at BK399)
         (try simp only [hl400000_69] at BK406)
         (try simp only [hl400000_69] at HO_6)
         (try simp only [hl400000_69] at HO_10)
         (try simp only [hl400000_69] at HO_407002)
         have hl407002_69 := (Kd.R_reads' HO_407002.out).1
         rw [hl407002_69] at HO_407002
         (try simp only [hl407002_69])
         (try simp only [hl407002_69] at BK379)
         (try simp only [hl407002_69] at BK380)
         (try simp only [hl407002_69] at BK399)
         (try simp only [hl407002_69] at BK406)
         (try simp only [hl407002_69] at HO_6)
         (try simp only [hl407002_69] at HO_10)
         (try simp only [hl407002_69] at HO_400000)
         cases kq with
         | zero => exact absurd HA.out (by simp [laws_FnExactSnapActs.j1])
         | succ kj69 =>
          have H := HA.out
          clear HA
          simp only [laws_FnExactSnapActs.j1] at H
          by_cases c94 : x82_69 = true
          ·subst c94
           have H1 : (none) = some r := by rw [if_pos rfl] at H; exact H
           clear H
           have H := H1
           clear H1
           exact absurd H (by simp)
          ·replace c94 := Bool.eq_false_iff.mpr c94
           subst c94
           have H1 : ((laws_markActS.f kj69 t407 1).bind fun bt428 => ((laws_heldActS.f kj69 bt428.2 1).bind fun t430 => (if t430 < 0 then (none) else (if t430 = bt428.1 then ((laws_toDisk.f kj69 l0_0).bind fun t431 => ((laws_toSnap.f kj69 a1_0 a1_1 l1_2 a1_3).bind fun bt434 => ((impl_SnapActs.f kj69 t431 bt434.1 bt434.2.1 bt434.2.2.1 bt434.2.2.2).bind fun bt440 => ((laws_eqActS.f kj69 bt440.1 t392).bind fun t444 => (if t444 = true then (laws_FnExactSnapActs.j2 kj69 bt428.2 bt428.1 (bt440.2 != t395)) else (none)))))) else (none))))) = some r := by rw [if_neg (show ¬ (false = true) by decide)] at H; exact H
           clear H
           have H := H1
           clear H1
           replace H := Option.bind_eq_some_iff.mp H
           obtain ⟨⟨t428, t429⟩, A950, H⟩ := H
           replace H : ((laws_heldActS.f kj69 t429 1).bind fun t430 => (if t430 < 0 then (none) else (if t430 = t428 then ((laws_toDisk.f kj69 l0_0).bind fun t431 => ((laws_toSnap.f kj69 a1_0 a1_1 l1_2 a1_3).bind fun bt434 => ((impl_SnapActs.f kj69 t431 bt434.1 bt434.2.1 bt434.2.2.1 bt434.2.2.2).bind fun bt440 => ((laws_eqActS.f kj69 bt440.1 t392).bind fun t444 => (if t444 = true then (laws_FnExactSnapActs.j2 kj69 t429 t428 (bt440.2 != t395)) else (none)))))) else (none)))) = some r := H
           have A95 := Aside0.mk A950
           clear A950
           replace H := Option.bind_eq_some_iff.mp H
           obtain ⟨t430, A960, H⟩ := H
           replace H : (if t430 < 0 then (none) else (if t430 = t428 then ((laws_toDisk.f kj69 l0_0).bind fun t431 => ((laws_toSnap.f kj69 a1_0 a1_1 l1_2 a1_3).bind fun bt434 => ((impl_SnapActs.f kj69 t431 bt434.1 bt434.2.1 bt434.2.2.1 bt434.2.2.2).bind fun bt440 => ((laws_eqActS.f kj69 bt440.1 t392).bind fun t444 => (if t444 = true then (laws_FnExactSnapActs.j2 kj69 t429 t428 (bt440.2 != t395)) else (none)))))) else (none))) = some r := H
           have A96 := Aside0.mk A960
           clear A960
           by_cases c97 : t430 < 0
           ·rw [if_pos c97] at H
            exact absurd H (by simp)
           ·rw [if_neg c97] at H
            have c97b0 : decide (t430 < 0) = false := decide_eq_false c97
            clear c97
            by_cases c98 : t430 = t428
            ·rw [if_pos c98] at H
             have c98b0 : (t430 == t428) = true := beq_iff_eq.mpr c98
             have c98b1 : (t430 != t428) = false := bne_eq_false_iff_eq.mpr c98
             clear c98
             replace H := Option.bind_eq_some_iff.mp H
             obtain ⟨t431, A990, H⟩ := H
             replace H : ((laws_toSnap.f kj69 a1_0 a1_1 l1_2 a1_3).bind fun bt434 => ((impl_SnapActs.f kj69 t431 bt434.1 bt434.2.1 bt434.2.2.1 bt434.2.2.2).bind fun bt440 => ((laws_eqActS.f kj69 bt440.1 t392).bind fun t444 => (if t444 = true then (laws_FnExactSnapActs.j2 kj69 t429 t428 (bt440.2 != t395)) else (none))))) = some r := H
             have A99 := Aside0.mk A990
             clear A990
             replace H := Option.bind_eq_some_iff.mp H
             obtain ⟨⟨t434, t435, t436, t439⟩, A1000, H⟩ := H
             replace H : ((impl_SnapActs.f kj69 t431 t434 t435 t436 t439).bind fun bt440 => ((laws_eqActS.f kj69 bt440.1 t392).bind fun t444 => (if t444 = true then (laws_FnExactSnapActs.j2 kj69 t429 t428 (bt440.2 != t395)) else (none)))) = some r := H
             have A100 := Aside0.mk A1000
             clear A1000
             replace H := Option.bind_eq_some_iff.mp H
             obtain ⟨⟨t440, t443⟩, A1010, H⟩ := H
             replace H : ((laws_eqActS.f kj69 t440 t392).bind fun t444 => (if t444 = true then (laws_FnExactSnapActs.j2 kj69 t429 t428 (t443 != t395)) else (none))) = some r := H
             have A101 := Aside0.mk A1010
             clear A1010
             have HC102 := Aside0.mk H
             clear H
             obtain ⟨Ao103, co103, eo103⟩ := Kd.R_slice HO_10.out
             subst eo103
             try go_wp2_with (first | ((with_reducible refine gate_callee (f := 37) rfl ?_); refine goesL_ (some 85) rfl rfl Tryd.func37 (by kernel_rfl) rfl #[.slice Ao103 t407.length co103, .int .i64 1] rfl (by (try simp only [List.map_toArray, List.map_cons, List.map_nil]); first | done | rfl | (simp only [List.length_drop, List.length_take]; rfl)) ?_; (with_reducible refine (laws_markActS.calls kj69 (fun k_ => some k_ = (.slice Ao103 t407.length co103 : Value).ownBlock) (.slice Ao103 t407.length co103) t407 1 t428 t429 w _ ?side1 ?side2 A95.out).mono ?_); (case side1 => repeat (first | (with_reducible first | exact HB.out | apply below_alloc | apply pw_below_drewN | apply below_drew1 | refine below_set ?_ GE379.out | refine below_set ?_ GE380.out | refine below_set ?_ GE399.out | refine below_set ?_ GE406.out) | exact HB.out)); (case side2 => exact Kd.R_tight rfl HO_10.out); rintro e w104 ⟨rfl, hy0, hb, hkp⟩; refine ⟨_, rfl, ?_⟩; have n0_ := mk_ (Kd.R_mono (ok' := fun k_ => some k_ ≠ (.slice Ao103 t407.length co103 : Value).ownBlock) (Kd.R_keptB (HO_6.out) hkp (fun k_ hk_ hs_ => (hk_) hs_)) (fun k_ hk_ => hk_.1)); have n1_ := mk_ (Kd.R_reok rfl hy0 (fun k_ e_ => HO_10.out.1 k_ e_)); have n2_ := mk_ (Kd.R_mono (ok' := fun k_ => True) (Kd.R_keptB ((Kd.R_apart' HO_400000.out (Kd.R_typed HO_10.out) (by decide))) hkp (fun k_ hk_ hs_ => (hk_.2) hs_)) (fun k_ hk_ => trivial)); have n3_ := mk_ (Kd.R_mono (ok' := fun k_ => True) (Kd.R_keptB ((Kd.R_apart' HO_407002.out (Kd.R_typed HO_10.out) (by decide))) hkp (fun k_ hk_ hs_ => (hk_.2) hs_)) (fun k_ hk_ => trivial)); have n4_ := mk_ (blk_kept (bp_ BK379) hkp (fun hs_ => (fun e_ => (Kd.R_ne HO_10.out BK379.out (by decide)) e_) hs_)); have n5_ := mk_ (blk_kept (bp_ BK380) hkp (fun hs_ => (fun e_ => (Kd.R_ne HO_10.out BK380.out (by decide)) e_) hs_)); have n6_ := mk_ (blk_kept (bp_ BK399) hkp (fun hs_ => (fun e_ => (Kd.R_ne HO_10.out BK399.out (by decide)) e_) hs_)); have n7_ := mk_ (blk_kept (bp_ BK406) hkp (fun hs_ => (fun e_ => (Kd.R_ne HO_10.out BK406.out (by decide)) e_) hs_)); have n8_ := mk_ (hb); clear HO_6; clear HO_10; clear HO_400000; clear HO_407002; clear BK379; clear BK380; clear BK399; clear BK406; clear HB; have HO_6 := n0_; have HO_10 := n1_; have HO_400000 := n2_; have HO_407002 := n3_; have BK379 := n4_; have BK380 := n5_; have BK399 := n6_; have BK406 := n7_; have HB := n8_; clear n0_ n1_ n2_ n3_ n4_ n5_ n6_ n7_ n8_; (try clear hb); (try clear hkp); (try clear hy0)) | ((with_reducible refine gate_callee (f := 38) rfl ?_); refine goesL_ (some 88) rfl rfl Tryd.func38 (by kernel_rfl) rfl #[.slice Ao103 t429.length co103, .int .i64 1] rfl (by (try simp only [List.map_toArray, List.map_cons, List.map_nil]); first | done | (rw [show t429.length = t407.length from (Kd.R_reads' HO_10.out).1.symm] <;> rfl) | rfl | (simp only [List.length_drop, List.length_take]; rfl)) ?_; (with_reducible refine (laws_heldActS.calls kj69 _ _ t429 1 t430 _ ?side1 ?side2 A96.out).mono ?_); (case side1 => repeat (first | exact (Kd.R_reads' HO_10.out).2.2 | (with_reducible refine Kd.C_alloc ?_ _) | (with_reducible refine Kd.C_drewN ?_ _) | (with_reducible refine Kd.C_drew ?_))); (case side2 => rw [show t429.length = t407.length from (Kd.R_reads' HO_10.out).1.symm]; exact (Kd.R_reads' HO_10.out).2.1); rintro e w105 ⟨rfl, hb⟩; refine ⟨_, rfl, ?_⟩; replace HO_6 := rb_ HO_6 hb; replace HO_10 := rb_ HO_10 hb; replace HO_400000 := rb_ HO_400000 hb; replace HO_407002 := rb_ HO_407002 hb; replace BK379 := bb_ BK379 hb; replace BK380 := bb_ BK380 hb; replace BK399 := bb_ BK399 hb; replace BK406 := bb_ BK406 hb; replace HB := bs_ HB hb; (try clear hb)))
             have n0_ := mk_ (Kd.R_drew HO_6.out)
             have n1_ := mk_ (Kd.R_drew HO_10.out)
             have n2_ := mk_ (Kd.R_drew HO_400000.out)
             have n3_ := mk_ (Kd.R_drew HO_407002.out)
             have n4_ := mk_ (blk_drew BK379.out)
             have n5_ := mk_ (blk_drew BK380.out)
             have n6_ := mk_ (blk_drew BK399.out)
             have n7_ := mk_ (blk_drew BK406.out)
             have n8_ := mk_ (below_drew1 HB.out)
             clear HO_6; clear HO_10; clear HO_400000; clear HO_407002; clear BK379; clear BK380; clear BK399; clear BK406; clear HB; have HO_6 := n0_; have HO_10 := n1_; have HO_400000 := n2_; have HO_407002 := n3_; have BK379 := n4_; have BK380 := n5_; have BK399 := n6_; have BK406 := n7_; have HB := n8_; clear n0_ n1_ n2_ n3_ n4_ n5_ n6_ n7_ n8_
             refine start_ (n := 10) (S := fun w' => w'.cell? ⟨gb379, 0, none⟩ = some (.slice A0_0 l0_0.length c0_0) ∧ w'.cell? ⟨gb380, 0, none⟩ = some (.int .i64 a1_0) ∧ w'.cell? ⟨gb380, 1, none⟩ = some (.int .i64 a1_1) ∧ w'.cell? ⟨gb380, 2, none⟩ = some (.slice A1_2 l1_2.length c1_2) ∧ w'.cell? ⟨gb380, 3, none⟩ = some (.string a1_3)) (ds := []) #[false, false, false, false, false, false, false, false, false, false] (by kernel_rfl) rfl rfl ⟨bc_ BK379 0, bc_ BK380 0, bc_ BK380 1, bc_ BK380 2, bc_ BK380 3⟩ (fun hHeld => ?_); refine with_tabW laws_FnExactSnapActs.tab31 laws_FnExactSnapActs.bits31 (fun HT_ HW_ => ?_)
             generalize w105.drew = w106 at HO_6 HO_10 HO_400000 HO_407002 BK379 BK380 BK399 BK406 HB hHeld ⊢
             refine take_ (i := 0) (N := some 95) (v := ?_) (a' := ?_) #[true, false, false, false, false, false, false, false, false, false] rfl rfl (take_ofW HT_.out HW_.out (by kernel_rfl)) (fun _ _ _ h => h) (Or.inl ⟨by rfl, ?_⟩) hHeld ?_ ?_
             rotate_left
             ·rintro w' ⟨s0, s1, s2, s3, s4⟩
              go_simp
              with_reducible rfl
             rotate_left
             ·simp only [Act.put, sia_, scz_, scs_, i64_w, i32_w]
              rfl
             refine take_ (i := 2) (N := some 97) (v := ?_) (a' := ?_) #[true, false, true, false, false, false, false, false, false, false] rfl rfl (take_ofW HT_.out HW_.out (by kernel_rfl)) (fun _ _ _ h => h) (Or.inl ⟨by rfl, ?_⟩) hHeld ?_ ?_
             rotate_left
             ·rintro w' ⟨s0, s1, s2, s3, s4⟩
              go_simp
              with_reducible rfl
             rotate_left
             ·simp only [Act.put, sia_, scz_, scs_, i64_w, i32_w]
              rfl
             refine one_ (i := 1) (N := some 96) #[true, true, true, false, false, false, false, false, false, false] rfl rfl (one_of HT_.out (by kernel_rfl)) (by decide) (fun K hK => ?_)
             refine goes_ Tryd.func29 (by kernel_rfl) rfl #[.agg #[.slice A0_0 l0_0.length c0_0]] (by rfl) rfl rfl (by (try simp only [List.map_toArray, List.map_cons, List.map_nil]); first | done | rfl | (simp only [List.length_drop, List.length_take]; rfl)) ?_
             with_reducible refine (laws_toDisk.calls kj69 _ _ l0_0 t431 _ ?side1 ?side2 A99.out).mono ?_
             (case side1 => repeat (first | exact (Kd.C_below HR0_0.out HB.out) | (with_reducible refine Kd.C_alloc ?_ _) | (with_reducible refine Kd.C_drewN ?_ _) | (with_reducible refine Kd.C_drew ?_)))
             (case side2 => exact HC0_0.out)
             rintro e w107 ⟨v432, rfl, ho0, hb⟩
             refine ⟨_, rfl, ?_⟩
             have n0_ := rb_ HO_6 hb
             have n1_ := rb_ HO_10 hb
             have n2_ := mk_ (Kd.R_elder' (rp_ HO_400000) (Kd.R_base ho0) hb)
             have n3_ := rb_ HO_407002 hb
             have n4_ := mk_ (Kd.R_lower (Kd.R_new' ho0 (Kd.R_lt (rp_ HO_400000))) (below_size (bw_ HB)))
             have n5_ := bb_ BK379 hb; have n6_ := bb_ BK380 hb; have n7_ := bb_ BK399 hb; have n8_ := bb_ BK406 hb
             have n9_ := bs_ HB hb
             clear HO_6; clear HO_10; clear HO_400000; clear HO_407002; clear BK379; clear BK380; clear BK399; clear BK406; clear HB; have HO_6 := n0_; have HO_10 := n1_; have HO_400000 := n2_; have HO_407002 := n3_; have HO433 := n4_; have BK379 := n5_; have BK380 := n6_; have BK399 := n7_; have BK406 := n8_; have HB := n9_; clear n0_ n1_ n2_ n3_ n4_ n5_ n6_ n7_ n8_ n9_; (try clear hb); (try clear hb2); (try clear hk); (try clear hi); (try clear ho0)
             refine hK.out _ _ ⟨bc_ BK379 0, bc_ BK380 0, bc_ BK380 1, bc_ BK380 2, bc_ BK380 3⟩ (fun hHeld => ?_)
             clear hK K
             refine norm_ (a' := ?_) ?_ ?_
             rotate_left
             ·show Act.put _ (some 96) _ = _
              simp only [Act.put, sia_, scz_, scs_, i64_w, i32_w]
              rfl
             refine one_ (i := 3) (N := some 98) #[true, true, true, true, false, false, false, false, false, false] rfl rfl (one_of HT_.out (by kernel_rfl)) (by decide) (fun K hK => ?_)
             refine goes_ Tryd.func30 (by kernel_rfl) rfl #[.agg #[.int .i64 a1_0, .int .i64 a1_1, .slice A1_2 l1_2.length c1_2, .string a1_3]] (by rfl) rfl rfl (by (try simp only [List.map_toArray, List.map_cons, List.map_nil]); first | done | rfl | (simp only [List.length_drop, List.length_take]; rfl)) ?_
             with_reducible refine (laws_toSnap.calls kj69 a1_0 a1_1 _ _ l1_2 a1_3 t434 t435 t436 t439 _ ?side1 ?side2 A100.out).mono ?_
             (case side1 => repeat (first | exact (Kd.C_below HR1_2.out HB.out) | (with_reducible refine Kd.C_alloc ?_ _) | (with_reducible refine Kd.C_drewN ?_ _) | (with_reducible refine Kd.C_drew ?_)))
             (case side2 => exact HC1_2.out)
             rintro e w108 ⟨v437, rfl, ho0, hb⟩
             refine ⟨_, rfl, ?_⟩
             have n0_ := rb_ HO_6 hb
             have n1_ := rb_ HO_10 hb
             have n2_ := rb_ HO_400000 hb
             have n3_ := mk_ (Kd.R_elder' (rp_ HO_407002) (Kd.R_base ho0) hb)
             have n4_ := rb_ HO433 hb
             have n5_ := mk_ (Kd.R_lower (Kd.R_new' ho0 (Kd.R_lt (rp_ HO_407002))) (below_size (bw_ HB)))
             have n6_ := bb_ BK379 hb; have n7_ := bb_ BK380 hb; have n8_ := bb_ BK399 hb; have n9_ := bb_ BK406 hb
             have n10_ := bs_ HB hb
             clear HO_6; clear HO_10; clear HO_400000; clear HO_407002; clear HO433; clear BK379; clear BK380; clear BK399; clear BK406; clear HB; have HO_6 := n0_; have HO_10 := n1_; have HO_400000 := n2_; have HO_407002 := n3_; have HO433 := n4_; have HO438 := n5_; have BK379 := n6_; have BK380 := n7_; have BK399 := n8_; have BK406 := n9_; have HB := n10_; clear n0_ n1_ n2_ n3_ n4_ n5_ n6_ n7_ n8_ n9_ n10_; (try clear hb); (try clear hb2); (try clear hk); (try clear hi); (try clear ho0)
             obtain ⟨Ao109, co109, eo109⟩ := Kd.R_slice HO433.out
             (first | subst eo109 | (injection eo109 with f1_ f2_ f3_; have f4_ := f1_.symm; have f5_ := f3_.symm; clear f1_ f2_ f3_; subst f4_; subst f5_))
             obtain ⟨Ao110, co110, eo110⟩ := Kd.R_slice HO438.out
             (first | subst eo110 | (injection eo110 with f1_ f2_ f3_; have f4_ := f1_.symm; have f5_ := f3_.symm; clear f1_ f2_ f3_; subst f4_; subst f5_))
             refine hK.out _ _ ⟨bc_ BK379 0, bc_ BK380 0, bc_ BK380 1, bc_ BK380 2, bc_ BK380 3⟩ (fun hHeld => ?_)
             clear hK K
             refine norm_ (a' := ?_) ?_ ?_
             rotate_left
             ·show Act.put _ (some 98) _ = _
              simp only [Act.put, sia_, scz_, scs_, i64_w, i32_w]
              rfl
             refine one_ (i := 4) (N := some 99) #[true, true, true, true, true, false, false, false, false, false] rfl rfl (one_of HT_.out (by kernel_rfl)) (by decide) (fun K hK => ?_)
             refine goes_ Tryd.func31 (by kernel_rfl) rfl #[.agg #[.slice Ao109 t431.length co109], .agg #[.int .i64 t434, .int .i64 t435, .slice Ao110 t436.length co110, .string t439]] (by rfl) rfl rfl (by (try simp only [List.map_toArray, List.map_cons, List.map_nil]); first | done | rfl | (simp only [List.length_drop, List.length_take]; rfl)) ?_
             with_reducible refine (impl_SnapActs.calls kj69 _ _ t431 t434 t435 _ _ t436 t439 t440 t443 _ (tab22 HT HB) ?side1 ?side2 ?side3 ?side4 A101.out).mono ?_
             (case side1 => repeat (first | exact (Kd.R_reads' HO433.out).2.2 | (with_reducible refine Kd.C_alloc ?_ _) | (with_reducible refine Kd.C_drewN ?_ _) | (with_reducible refine Kd.C_drew ?_)))
             (case side2 => exact (Kd.R_reads' HO433.out).2.1)
             (case side3 => repeat (first | exact (Kd.R_reads' HO438.out).2.2 | (with_reducible refine Kd.C_alloc ?_ _) | (with_reducible refine Kd.C_drewN ?_ _) | (with_reducible refine Kd.C_drew ?_)))
             (case side4 => exact (Kd.R_reads' HO438.out).2.1)
             rintro e w111 ⟨v441, rfl, ho0, hb⟩
             refine ⟨_, rfl, ?_⟩
             have n0_ := mk_ (Kd.R_elder' (rp_ HO_6) (Kd.R_base ho0) hb)
             have n1_ := mk_ (Kd.R_elder' (rp_ HO_10) (Kd.R_base ho0) hb)
             have n2_ := rb_ HO_400000 hb
             have n3_ := rb_ HO_407002 hb
             have n4_ := rb_ HO433 hb
             have n5_ := rb_ HO438 hb
             have n6_ := mk_ (Kd.R_lower (Kd.R_new' (Kd.R_new' ho0 (Kd.R_lt (rp_ HO_6))) (Kd.R_lt (rp_ HO_10))) (below_size (bw_ HB)))
             have n7_ := bb_ BK379 hb; have n8_ := bb_ BK380 hb; have n9_ := bb_ BK399 hb; have n10_ := bb_ BK406 hb
             have n11_ := bs_ HB hb
             clear HO_6; clear HO_10; clear HO_400000; clear HO_407002; clear HO433; clear HO438; clear BK379; clear BK380; clear BK399; clear BK406; clear HB; have HO_6 := n0_; have HO_10 := n1_; have HO_400000 := n2_; have HO_407002 := n3_; have HO433 := n4_; have HO438 := n5_; have HO442 := n6_; have BK379 := n7_; have BK380 := n8_; have BK399 := n9_; have BK406 := n10_; have HB := n11_; clear n0_ n1_ n2_ n3_ n4_ n5_ n6_ n7_ n8_ n9_ n10_ n11_; (try clear hb); (try clear hb2); (try clear hk); (try clear hi); (try clear ho0)
             refine hK.out _ _ ⟨bc_ BK379 0, bc_ BK380 0, bc_ BK380 1, bc_ BK380 2, bc_ BK380 3⟩ (fun hHeld => ?_)
             clear hK K
             refine norm_ (a' := ?_) ?_ ?_
             rotate_left
             ·show Act.put _ (some 99) _ = _
              simp only [Act.put, sia_, scz_, scs_, i64_w, i32_w]
              rfl
             refine pure_ (i := 5) (N := some 94) (v := ?_) (a' := ?_) #[true, true, true, true, true, true, false, false, false, false] rfl rfl (any_of HT_.out (by kernel_rfl)) (fun _ _ _ h => h) (Or.inl ⟨by rfl, ?_⟩) ?_ ?_
             rotate_left
             ·intro w'
              go_simp
              with_reducible rfl
             rotate_left
             ·simp only [Act.put, sia_, scz_, scs_, i64_w, i32_w]
              rfl
             refine pure_ (i := 6) (N := some 100) (v := ?_) (a' := ?_) #[true, true, true, true, true, true, true, false, false, false] rfl rfl (any_of HT_.out (by kernel_rfl)) (fun _ _ _ h => h) (Or.inl ⟨by rfl, ?_⟩) ?_ ?_
             rotate_left
             ·intro w'
              go_simp
              with_reducible rfl
             rotate_left
             ·simp only [Act.put, sia_, scz_, scs_, i64_w, i32_w]
              rfl
             refine pure_ (i := 7) (N := some 101) (v := ?_) (a' := ?_) #[true, true, true, true, true, true, true, true, false, false] rfl rfl (any_of HT_.out (by kernel_rfl)) (fun _ _ _ h => h) (Or.inl ⟨by rfl, ?_⟩) ?_ ?_
             rotate_left
             ·intro w'
              go_simp
              with_reducible rfl
             rotate_left
             ·simp only [Act.put, sia_, scz_, scs_, i64_w, i32_w]
              rfl
             refine pure_ (i := 8) (N := some 15) (v := ?_) (a' := ?_) #[true, true, true, true, true, true, true, true, true, false] rfl rfl (any_of HT_.out (by kernel_rfl)) (fun _ _ _ h => h) (Or.inl ⟨by rfl, ?_⟩) ?_ ?_
             rotate_left
             ·intro w'
              go_simp
              with_reducible rfl
             rotate_left
             ·simp only [Act.put, sia_, scz_, scs_, i64_w, i32_w]
              rfl
             refine pure_ (i := 9) (N := some 16) (v := ?_) (a' := ?_) #[true, true, true, true, true, true, true, true, true, true] rfl rfl (any_of HT_.out (by kernel_rfl)) (fun _ _ _ h => h) (Or.inl ⟨by rfl, ?_⟩) ?_ ?_
             rotate_left
             ·intro w'
              go_simp
              with_reducible rfl
             rotate_left
             ·simp only [Act.put, sia_, scz_, scs_, i64_w, i32_w]
              rfl
             refine done_ (done_of HT_.out (by kernel_rfl)) ?_
             go_upto_region 32 with (fail)
             go_cut [110] (fun v110 wc => ∃ (kq : Nat) (x110_101 : Bool), v110 = .bool x110_101 ∧ Aside0 (laws_FnExactSnapActs.j2 kq t429 t428 x110_101 = some r) ∧ Aside0 (kq ≤ kj69) ∧ Aside0 (Kd.R k82 82 wc w.heap.size (fun _ => True) (.slice Ao103 t407.length co103) t429) ∧ Aside0 (Kd.R k88 88 wc w.heap.size (fun _ => True) (.slice Ao42 t424.length co42) t424) ∧ Aside0 (Kd.R (Kd.int .i64) 3 wc w.heap.size (fun _ => True) (.slice Ao53 t426.length co53) t426) ∧ Aside0 (wc.heap[gb379]? = some (.cells #[(.slice A0_0 l0_0.length c0_0)] 40 (0, 0))) ∧ Aside0 (wc.heap[gb380]? = some (.cells #[.int .i64 a1_0, .int .i64 a1_1, (.slice A1_2 l1_2.length c1_2), .string a1_3] 43 (0, 0))) ∧ Aside0 (wc.heap[gb399]? = some (.cells #[(.slice Ao42 t424.length co42)] 51 (0, 0))) ∧ Aside0 (wc.heap[gb406]? = some (.cells #[.int .i64 t400, .int .i64 t401, (.slice Ao53 t426.length co53), .string t405] 53 (0, 0))) ∧ Aside0 (Below w.heap.size w wc))
             case first =>
              have H := HC102.out
              clear HC102
              replace H := Option.bind_eq_some_iff.mp H
              obtain ⟨t444, A1120, H⟩ := H
              replace H : (if t444 = true then (laws_FnExactSnapActs.j2 kj69 t429 t428 (t443 != t395)) else (none)) = some r := H
              have A112 := Aside0.mk A1120
              clear A1120
              by_cases c113 : t444 = true
              ·subst c113
               have H1 : (laws_FnExactSnapActs.j2 kj69 t429 t428 (t443 != t395)) = some r := by rw [if_pos rfl] at H; exact H
               clear H
               have H := H1
               clear H1
               have H' := Aside0.mk H
               clear H
               obtain ⟨Ao114, co114, eo114⟩ := Kd.R_slice HO442.out
               subst eo114
               obtain ⟨Ao115, co115, eo115⟩ := Kd.R_slice HO_6.out
               subst eo115
               go_wp2_with (first | ((with_reducible refine gate_callee (f := 32) rfl ?_); refine goesL_ (some 104) rfl rfl Tryd.func32 (by kernel_rfl) rfl #[.slice Ao114 t440.length co114, .slice Ao115 t392.length co115] rfl (by (try simp only [List.map_toArray, List.map_cons, List.map_nil]); first | done | rfl | (simp only [List.length_drop, List.length_take]; rfl)) ?_; (with_reducible refine (laws_eqActS.calls kj69 _ _ t440 _ _ t392 true _ ?side1 ?side2 ?side3 ?side4 A112.out).mono ?_); (case side1 => repeat (first | exact (Kd.R_reads' HO442.out).2.2 | (with_reducible refine Kd.C_alloc ?_ _) | (with_reducible refine Kd.C_drewN ?_ _) | (with_reducible refine Kd.C_drew ?_))); (case side2 => exact (Kd.R_reads' HO442.out).2.1); (case side3 => repeat (first | exact (Kd.R_reads' HO_6.out).2.2 | (with_reducible refine Kd.C_alloc ?_ _) | (with_reducible refine Kd.C_drewN ?_ _) | (with_reducible refine Kd.C_drew ?_))); (case side4 => exact (Kd.R_reads' HO_6.out).2.1); rintro e w116 ⟨rfl, hb⟩; refine ⟨_, rfl, ?_⟩; replace HO_6 := rb_ HO_6 hb; replace HO_10 := rb_ HO_10 hb; replace HO_400000 := rb_ HO_400000 hb; replace HO_407002 := rb_ HO_407002 hb; replace HO433 := rb_ HO433 hb; replace HO438 := rb_ HO438 hb; replace HO442 := rb_ HO442 hb; replace BK379 := bb_ BK379 hb; replace BK380 := bb_ BK380 hb; replace BK399 := bb_ BK399 hb; replace BK406 := bb_ BK406 hb; replace HB := bs_ HB hb; (try clear hb)))
               go_meet
               case rel => exact ⟨_, ((t443 != t395)), (by first | rfl | (simp; done) | (simp [*]; done)), H', ⟨by have := HJ24.out; have := HJ69.out; first | omega | exact Nat.le_refl _⟩, ⟨by (try simp only [hl400000_69]); (try simp only [hl407002_69]); (with_reducible repeat (first | apply Kd.R_alloc | apply Kd.R_drewN | apply Kd.R_drew)); exact Kd.R_mono HO_10.out (fun _ hk => trivial)⟩, ⟨by (try simp only [hl400000_69]); (try simp only [hl407002_69]); (with_reducible repeat (first | apply Kd.R_alloc | apply Kd.R_drewN | apply Kd.R_drew)); exact Kd.R_mono HO_400000.out (fun _ hk => trivial)⟩, ⟨by (try simp only [hl400000_69]); (try simp only [hl407002_69]); (with_reducible repeat (first | apply Kd.R_alloc | apply Kd.R_drewN | apply Kd.R_drew)); exact Kd.R_mono HO_407002.out (fun _ hk => trivial)⟩, ⟨by (try simp only [hl400000_69]); (try simp only [hl407002_69]); (with_reducible repeat (first | refine blk_drewN ?_ _ | refine blk_drew ?_ | refine blk_alloc ?_ _)); exact BK379.out⟩, ⟨by (try simp only [hl400000_69]); (try simp only [hl407002_69]); (with_reducible repeat (first | refine blk_drewN ?_ _ | refine blk_drew ?_ | refine blk_alloc ?_ _)); exact BK380.out⟩, ⟨by (try simp only [hl400000_69]); (try simp only [hl407002_69]); (with_reducible repeat (first | refine blk_drewN ?_ _ | refine blk_drew ?_ | refine blk_alloc ?_ _)); exact BK399.out⟩, ⟨by (try simp only [hl400000_69]); (try simp only [hl407002_69]); (with_reducible repeat (first | refine blk_drewN ?_ _ | refine blk_drew ?_ | refine blk_alloc ?_ _)); exact BK406.out⟩, ⟨by repeat (first | (with_reducible first | exact HB.out | apply below_alloc | apply pw_below_drewN | apply below_drew1 | refine below_set ?_ GE379.out | refine below_set ?_ GE380.out | refine below_set ?_ GE399.out | refine below_set ?_ GE406.out) | exact HB.out)⟩⟩
              ·replace c113 := Bool.eq_false_iff.mpr c113
               subst c113
               have H1 : (none) = some r := by rw [if_neg (show ¬ (false = true) by decide)] at H; exact H
               clear H
               have H := H1
               clear H1
               exact absurd H (by simp)
             case rest =>
              clear HC102
              try clear c1
              try clear c2
              try clear p2
              try clear c3
              try clear c4
              try clear c4b0
              try clear c5
              try clear c6
              try clear c7
              try clear c8
              try clear c9
              try clear c11
              try clear c11b0
              try clear c14
              try clear c26
              try clear c27
              try clear c28
              try clear c29
              try clear c30
              try clear c31
              try clear c32
              try clear c33
              try clear c34
              try clear c35
              try clear c36
              try clear c37
              try clear c38
              try clear c43
              try clear c44
              try clear c49
              try clear c50
              try clear c51
              try clear c57
              try clear c61
              try clear c64
              try clear c67
              try clear c79
              try clear c80
              try clear c81
              try clear c84
              try clear c85
              try clear c88
              try clear c88b0
              try clear c90
              try clear c94
              try clear c97
              try clear c97b0
              try clear c98
              try clear c98b0
              try clear c98b1
              try clear c113
              try clear hcz15_0
              try clear hcz17_0
              try clear hcz17_1
              try clear hcz17_2
              try clear hcz17_3
              try clear hcz29_0
              try clear hcz31_0
              try clear hcz31_1
              try clear hcz31_2
              try clear hcz31_3
              try clear hcz39_0
              try clear hcz45_0
              try clear hcz46_0
              try clear hcz46_1
              try clear hcz46_2
              try clear hcz46_3
              try clear hcz52_0
              try clear hcz52_1
              try clear hcz52_2
              try clear hcz52_3
              try clear hcz54_0
              try clear hcz82_0
              try clear hcz86_0
              try clear hcz86_1
              try clear hcz86_2
              try clear hcz86_3
              try clear hcz8_0
              try clear hfz15_0
              try clear hfz17_0
              try clear hfz17_1
              try clear hfz17_2
              try clear hfz17_3
              try clear hfz29_0
              try clear hfz31_0
              try clear hfz31_1
              try clear hfz31_2
              try clear hfz31_3
              try clear hfz39_0
              try clear hfz45_0
              try clear hfz46_0
              try clear hfz46_1
              try clear hfz46_2
              try clear hfz46_3
              try clear hfz52_0
              try clear hfz52_1
              try clear hfz52_2
              try clear hfz52_3
              try clear hfz54_0
              try clear hfz82_0
              try clear hfz86_0
              try clear hfz86_1
              try clear hfz86_2
              try clear hfz86_3
              try clear hfz8_0
              try clear p2
              obtain ⟨kq, x110_101, rfl, HA, HJ101, HO_10, HO_400000, HO_407002, BK379, BK380, BK399, BK406, HB⟩ := hcut
              have hl10_101 := (Kd.R_reads' HO_10.out).1
              rw [hl10_101] at HO_10
              (try simp only [hl10_101])
              (try simp only [hl10_101] at BK379)
              (try simp only [hl10_101] at BK380)
              (try simp only [hl10_101] at BK399)
              (try simp only [hl10_101] at BK406)
              (try simp only [hl10_101] at HO_400000)
              (try simp only [hl10_101] at HO_407002)
              cases kq with
              | zero => exact absurd HA.out (by simp [laws_FnExactSnapActs.j2])
              | succ kj101 =>
               have H := HA.out
               clear HA
               simp only [laws_FnExactSnapActs.j2] at H
               by_cases c117 : x110_101 = true
               ·subst c117
                have H1 : (none) = some r := by rw [if_pos rfl] at H; exact H
                clear H
                have H := H1
                clear H1
                exact absurd H (by simp)
               ·replace c117 := Bool.eq_false_iff.mpr c117
                subst c117
                have H1 : ((laws_heldActS.f kj101 t429 1).bind fun t445 => (if t445 < 0 then (none) else (if t445 = t428 then (some true) else (none)))) = some r := by rw [if_neg (show ¬ (false = true) by decide)] at H; exact H
                clear H
                have H := H1
                clear H1
                replace H := Option.bind_eq_some_iff.mp H
                obtain ⟨t445, A1180, H⟩ := H
                replace H : (if t445 < 0 then (none) else (if t445 = t428 then (some true) else (none))) = some r := H
                have A118 := Aside0.mk A1180
                clear A1180
                by_cases c119 : t445 < 0
                ·rw [if_pos c119] at H
                 exact absurd H (by simp)
                ·rw [if_neg c119] at H
                 have c119b0 : decide (t445 < 0) = false := decide_eq_false c119
                 clear c119
                 by_cases c120 : t445 = t428
                 ·rw [if_pos c120] at H
                  have c120b0 : (t445 == t428) = true := beq_iff_eq.mpr c120
                  have c120b1 : (t445 != t428) = false := bne_eq_false_iff_eq.mpr c120
                  clear c120
                  obtain rfl := Option.some.inj H
                  go_wp2_with (first | ((with_reducible refine gate_callee (f := 38) rfl ?_); refine goesL_ (some 113) rfl rfl Tryd.func38 (by kernel_rfl) rfl #[.slice Ao103 t429.length co103, .int .i64 1] rfl (by (try simp only [List.map_toArray, List.map_cons, List.map_nil]); first | done | rfl | (simp only [List.length_drop, List.length_take]; rfl)) ?_; (with_reducible refine (laws_heldActS.calls kj101 _ _ t429 1 t445 _ ?side1 ?side2 A118.out).mono ?_); (case side1 => repeat (first | exact (Kd.R_reads' HO_10.out).2.2 | (with_reducible refine Kd.C_alloc ?_ _) | (with_reducible refine Kd.C_drewN ?_ _) | (with_reducible refine Kd.C_drew ?_))); (case side2 => exact (Kd.R_reads' HO_10.out).2.1); rintro e w121 ⟨rfl, hb⟩; refine ⟨_, rfl, ?_⟩; replace HO_10 := rb_ HO_10 hb; replace HO_400000 := rb_ HO_400000 hb; replace HO_407002 := rb_ HO_407002 hb; replace BK379 := bb_ BK379 hb; replace BK380 := bb_ BK380 hb; replace BK399 := bb_ BK399 hb; replace BK406 := bb_ BK406 hb; replace HB := bs_ HB hb; (try clear hb)))
                  go_ret
                  exact ⟨by first | rfl | (simp [errW_none, errW_some] <;> rfl) | (simp [*, errW_none, errW_some] <;> rfl), by repeat (first | (with_reducible first | exact HB.out | apply below_alloc | apply pw_below_drewN | apply below_drew1 | refine below_set ?_ GE379.out | refine below_set ?_ GE380.out | refine below_set ?_ GE399.out | refine below_set ?_ GE406.out) | exact HB.out)⟩
                 ·rw [if_neg c120] at H
                  exact absurd H (by simp)
            ·rw [if_neg c98] at H
             exact absurd H (by simp)
       ·replace c67 := Bool.eq_false_iff.mpr c67
        subst c67
        have H1 : (none) = some r := by rw [if_neg (show ¬ (false = true) by decide)] at H; exact H
        clear H
        have H := H1
        clear H1
        exact absurd H (by simp)
      ·replace c64 := Bool.eq_false_iff.mpr c64
       subst c64
       have H1 : (none) = some r := by rw [if_neg (show ¬ (false = true) by decide)] at H; exact H
       clear H
       have H := H1
       clear H1
       exact absurd H (by simp)

end Go.Proofs.YtgnmlgoadkhceaaDoor.QFnExactSnapActs
