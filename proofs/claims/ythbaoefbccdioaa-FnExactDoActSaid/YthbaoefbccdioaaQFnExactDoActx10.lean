/- Written by this session's own program (wip/tpl/pp.py): what the law's functions come to, and that the machine's calls do just that. -/
import Derived.Test.YthbaoefbccdioaaQFnExactDoActx0
import Derived.Test.YthbaoefbccdioaaQFnExactDoActx1
import Derived.Test.YthbaoefbccdioaaQFnExactDoActx4
import Derived.Test.YthbaoefbccdioaaQFnExactDoActx5
import Derived.Test.YthbaoefbccdioaaQFnExactDoActx7
import Derived.Test.YthbaoefbccdioaaQFnExactDoActx8
import Derived.Test.YthbaoefbccdioaaQFnExactDoActx9
namespace Go.Proofs.Ythbaoefbccdioaa.QFnExactDoAct
open Go.RowKit Go.Proofs.YthbaoefbccdioaaW.PrintWords Go.Proofs.YthbaoefbccdioaaW.PrintLast Go.Proofs.YthbaoefbccdioaaW.PrintMore
attribute [local go_sem] Go.Proofs.Ythbaoefbccdioaa.Sem.string_geq Go.Proofs.Ythbaoefbccdioaa.Sem.string_leq Go.Proofs.Ythbaoefbccdioaa.Sem.string_gtr
attribute [local go_sem] max2_int min2_int max_two min_two max_three min_three max_four min_four   -- for this text's walks alone
set_option linter.unusedVariables false
set_option linter.unusedSimpArgs false

/-! ### laws_FnExactDoAct: function 3 -/
mutual
def laws_FnExactDoAct.j0 : Nat → Bool → Bool → Bool → List (S112) → Int → ByteArray → ByteArray → ByteArray → List (S76) → List (S76) → List (S76) → Option (Bool)
 | 0, _, _, _, _, _, _, _, _, _, _, _ => none
 | k + 1, x7, x10, x51, x228000, x229000, x229001, x229002, x229003, x243000, x247000, x256000 => if x51 = true then (none) else ((laws_toDisk.f k x228000).bind fun t257 => ((laws_eqDisk.f k x247000 t257).bind fun t260 => (if t260 = true then ((laws_markDisk.f k x247000 1).bind fun bt261 => (if bt261.1 < 0 then (none) else ((laws_eqDisk.f k x256000 x243000).bind fun t263 => (if t263 = true then (laws_FnExactDoAct.j1 k x7 (x10 != x7) x228000 x229000 x229001 x229002 x229003 x243000 x256000) else (none))))) else (none))))
def laws_FnExactDoAct.j1 : Nat → Bool → Bool → List (S112) → Int → ByteArray → ByteArray → ByteArray → List (S76) → List (S76) → Option (Bool)
 | 0, _, _, _, _, _, _, _, _, _ => none
 | k + 1, x7, x72, x228000, x229000, x229001, x229002, x229003, x243000, x256000 => if x72 = true then (none) else ((laws_markDisk.f k x256000 1).bind fun bt264 => ((laws_heldDisk.f k bt264.2 1).bind fun t266 => (if t266 < 0 then (none) else (if t266 = bt264.1 then ((laws_toDisk.f k x228000).bind fun t267 => ((laws_toAct.f x229000 x229001 x229002 x229003).bind fun bt270 => ((impl_DoAct.f k t267 bt270.1 bt270.2.1 bt270.2.2.1 bt270.2.2.2).bind fun bt274 => ((laws_eqDisk.f k bt274.1 x243000).bind fun t279 => (if t279 = true then (laws_FnExactDoAct.j2 k bt264.1 (bt274.2 != x7) bt264.2) else (none)))))) else (none)))))
def laws_FnExactDoAct.j2 : Nat → Int → Bool → List (S76) → Option (Bool)
 | 0, _, _, _ => none
 | k + 1, x12, x100, x256000 => if x100 = true then (none) else ((laws_heldDisk.f k x256000 1).bind fun t280 => (if t280 < 0 then (none) else (if t280 = x12 then (some true) else (none))))
end
def laws_FnExactDoAct.f (k : Nat) (l0_0 : List (S112)) (a1_0 : Int) (a1_1 : ByteArray) (a1_2 : ByteArray) (a1_3 : ByteArray) : Option (Bool) := (laws_szDisk.f k l0_0 1048576).bind fun t229 => (if t229 < 0 then (some true) else ((laws_szAct.f a1_0 a1_1 a1_2 a1_3 t229).bind fun t230 => (if t230 < 0 then (some true) else ((laws_toDisk.f k l0_0).bind fun t231 => ((laws_toAct.f a1_0 a1_1 a1_2 a1_3).bind fun bt234 => ((spec_DoAct.f k t231 bt234.1 bt234.2.1 bt234.2.2.1 bt234.2.2.2).bind fun bt238 => ((laws_toDisk.f k l0_0).bind fun t243 => ((laws_toAct.f a1_0 a1_1 a1_2 a1_3).bind fun bt247 => ((impl_DoAct.f k t243 bt247.1 bt247.2.1 bt247.2.2.1 bt247.2.2.2).bind fun bt251 => ((laws_eqDisk.f k bt251.1 bt238.1).bind fun t256 => (if t256 = true then (laws_FnExactDoAct.j0 k bt238.2 bt251.2 (bt251.2 != bt238.2) l0_0 a1_0 a1_1 a1_2 a1_3 bt238.1 t243 bt251.1) else (none))))))))))))
theorem laws_FnExactDoAct.mono_l : ∀ k, (∀ y0 y1 y2 y3 y4 y5 y6 y7 y8 y9 y10, LeO (laws_FnExactDoAct.j0 k y0 y1 y2 y3 y4 y5 y6 y7 y8 y9 y10) (laws_FnExactDoAct.j0 (k + 1) y0 y1 y2 y3 y4 y5 y6 y7 y8 y9 y10)) ∧ (∀ y0 y1 y2 y3 y4 y5 y6 y7 y8, LeO (laws_FnExactDoAct.j1 k y0 y1 y2 y3 y4 y5 y6 y7 y8) (laws_FnExactDoAct.j1 (k + 1) y0 y1 y2 y3 y4 y5 y6 y7 y8)) ∧ (∀ y0 y1 y2, LeO (laws_FnExactDoAct.j2 k y0 y1 y2) (laws_FnExactDoAct.j2 (k + 1) y0 y1 y2))
 | 0 => ⟨fun _ _ _ _ _ _ _ _ _ _ _ r h => by simp [laws_FnExactDoAct.j0] at h, fun _ _ _ _ _ _ _ _ _ r h => by simp [laws_FnExactDoAct.j1] at h, fun _ _ _ r h => by simp [laws_FnExactDoAct.j2] at h⟩
 | k + 1 => by
  obtain ⟨ih0, ih1, ih2⟩ := laws_FnExactDoAct.mono_l k
  refine ⟨?_, ?_, ?_⟩
  ·intro y0 y1 y2 y3 y4 y5 y6 y7 y8 y9 y10
   unfold laws_FnExactDoAct.j0
   repeat' first
   | (with_reducible exact ih0 _ _ _ _ _ _ _ _ _ _ _)
   | (with_reducible exact ih1 _ _ _ _ _ _ _ _ _)
   | (with_reducible exact ih2 _ _ _)
   | (with_reducible exact impl_DoAct.mono _ _ _ _ _ _)
   | (with_reducible exact laws_eqDisk.mono _ _ _)
   | (with_reducible exact laws_heldDisk.mono _ _ _)
   | (with_reducible exact laws_markDisk.mono _ _ _)
   | (with_reducible exact laws_szDisk.mono _ _ _)
   | (with_reducible exact laws_toDisk.mono _ _)
   | (with_reducible exact spec_DoAct.mono _ _ _ _ _ _)
   | (with_reducible exact LeO.refl _)
   | (with_reducible exact LeO.none _)
   | (with_reducible refine LeO.ite ?_ ?_)
   | (with_reducible refine LeO.bind ?_ (fun _ => ?_))
   | exact ih0 _ _ _ _ _ _ _ _ _ _ _
   | exact ih1 _ _ _ _ _ _ _ _ _
   | exact ih2 _ _ _
   | exact impl_DoAct.mono _ _ _ _ _ _
   | exact laws_eqDisk.mono _ _ _
   | exact laws_heldDisk.mono _ _ _
   | exact laws_markDisk.mono _ _ _
   | exact laws_szDisk.mono _ _ _
   | exact laws_toDisk.mono _ _
   | exact spec_DoAct.mono _ _ _ _ _ _
   | exact LeO.none _
   | refine LeO.ite ?_ ?_
   | refine LeO.bind ?_ (fun _ => ?_)
  ·intro y0 y1 y2 y3 y4 y5 y6 y7 y8
   unfold laws_FnExactDoAct.j1
   repeat' first
   | (with_reducible exact ih0 _ _ _ _ _ _ _ _ _ _ _)
   | (with_reducible exact ih1 _ _ _ _ _ _ _ _ _)
   | (with_reducible exact ih2 _ _ _)
   | (with_reducible exact impl_DoAct.mono _ _ _ _ _ _)
   | (with_reducible exact laws_eqDisk.mono _ _ _)
   | (with_reducible exact laws_heldDisk.mono _ _ _)
   | (with_reducible exact laws_markDisk.mono _ _ _)
   | (with_reducible exact laws_szDisk.mono _ _ _)
   | (with_reducible exact laws_toDisk.mono _ _)
   | (with_reducible exact spec_DoAct.mono _ _ _ _ _ _)
   | (with_reducible exact LeO.refl _)
   | (with_reducible exact LeO.none _)
   | (with_reducible refine LeO.ite ?_ ?_)
   | (with_reducible refine LeO.bind ?_ (fun _ => ?_))
   | exact ih0 _ _ _ _ _ _ _ _ _ _ _
   | exact ih1 _ _ _ _ _ _ _ _ _
   | exact ih2 _ _ _
   | exact impl_DoAct.mono _ _ _ _ _ _
   | exact laws_eqDisk.mono _ _ _
   | exact laws_heldDisk.mono _ _ _
   | exact laws_markDisk.mono _ _ _
   | exact laws_szDisk.mono _ _ _
   | exact laws_toDisk.mono _ _
   | exact spec_DoAct.mono _ _ _ _ _ _
   | exact LeO.none _
   | refine LeO.ite ?_ ?_
   | refine LeO.bind ?_ (fun _ => ?_)
  ·intro y0 y1 y2
   unfold laws_FnExactDoAct.j2
   repeat' first
   | (with_reducible exact ih0 _ _ _ _ _ _ _ _ _ _ _)
   | (with_reducible exact ih1 _ _ _ _ _ _ _ _ _)
   | (with_reducible exact ih2 _ _ _)
   | (with_reducible exact impl_DoAct.mono _ _ _ _ _ _)
   | (with_reducible exact laws_eqDisk.mono _ _ _)
   | (with_reducible exact laws_heldDisk.mono _ _ _)
   | (with_reducible exact laws_markDisk.mono _ _ _)
   | (with_reducible exact laws_szDisk.mono _ _ _)
   | (with_reducible exact laws_toDisk.mono _ _)
   | (with_reducible exact spec_DoAct.mono _ _ _ _ _ _)
   | (with_reducible exact LeO.refl _)
   | (with_reducible exact LeO.none _)
   | (with_reducible refine LeO.ite ?_ ?_)
   | (with_reducible refine LeO.bind ?_ (fun _ => ?_))
   | exact ih0 _ _ _ _ _ _ _ _ _ _ _
   | exact ih1 _ _ _ _ _ _ _ _ _
   | exact ih2 _ _ _
   | exact impl_DoAct.mono _ _ _ _ _ _
   | exact laws_eqDisk.mono _ _ _
   | exact laws_heldDisk.mono _ _ _
   | exact laws_markDisk.mono _ _ _
   | exact laws_szDisk.mono _ _ _
   | exact laws_toDisk.mono _ _
   | exact spec_DoAct.mono _ _ _ _ _ _
   | exact LeO.none _
   | refine LeO.ite ?_ ?_
   | refine LeO.bind ?_ (fun _ => ?_)
theorem laws_FnExactDoAct.mono : ∀ a0 a1 a2 a3 a4 k, LeO (laws_FnExactDoAct.f k a0 a1 a2 a3 a4) (laws_FnExactDoAct.f (k + 1) a0 a1 a2 a3 a4) := by
 intro a0 a1 a2 a3 a4 k
 obtain ⟨ih0, ih1, ih2⟩ := laws_FnExactDoAct.mono_l k
 unfold laws_FnExactDoAct.f
 repeat' first
   | (with_reducible exact ih0 _ _ _ _ _ _ _ _ _ _ _)
   | (with_reducible exact ih1 _ _ _ _ _ _ _ _ _)
   | (with_reducible exact ih2 _ _ _)
   | (with_reducible exact impl_DoAct.mono _ _ _ _ _ _)
   | (with_reducible exact laws_eqDisk.mono _ _ _)
   | (with_reducible exact laws_heldDisk.mono _ _ _)
   | (with_reducible exact laws_markDisk.mono _ _ _)
   | (with_reducible exact laws_szDisk.mono _ _ _)
   | (with_reducible exact laws_toDisk.mono _ _)
   | (with_reducible exact spec_DoAct.mono _ _ _ _ _ _)
   | (with_reducible exact LeO.refl _)
   | (with_reducible exact LeO.none _)
   | (with_reducible refine LeO.ite ?_ ?_)
   | (with_reducible refine LeO.bind ?_ (fun _ => ?_))
   | exact ih0 _ _ _ _ _ _ _ _ _ _ _
   | exact ih1 _ _ _ _ _ _ _ _ _
   | exact ih2 _ _ _
   | exact impl_DoAct.mono _ _ _ _ _ _
   | exact laws_eqDisk.mono _ _ _
   | exact laws_heldDisk.mono _ _ _
   | exact laws_markDisk.mono _ _ _
   | exact laws_szDisk.mono _ _ _
   | exact laws_toDisk.mono _ _
   | exact spec_DoAct.mono _ _ _ _ _ _
   | exact LeO.none _
   | refine LeO.ite ?_ ?_
   | refine LeO.bind ?_ (fun _ => ?_)
def laws_FnExactDoAct.T8 : Bool × List (List Nat × List Nat) := (true, [([], []), ([0], [0]), ([], []), ([2, 1], [2]), ([1, 3, 3], [1, 3]), ([4], [4]), ([5], [5]), ([5], [5]), ([], []), ([8, 6, 4, 0, 1, 2, 3, 4, 5, 6, 8], [6, 8]), ([7, 9, 0, 1, 2, 3, 4, 5, 6, 7, 8, 9], [7])])
def laws_FnExactDoAct.B8 : List Nat := [0, 1, 0, 7, 15, 31, 63, 63, 0, 383, 1023]
theorem laws_FnExactDoAct.tab8 : rtab .any (opsOf Try.f3 8) = laws_FnExactDoAct.T8 := by kernel_rfl
theorem laws_FnExactDoAct.bits8 : waitsOk laws_FnExactDoAct.T8.2 laws_FnExactDoAct.B8 = true := by kernel_rfl
def laws_FnExactDoAct.T10 : Bool × List (List Nat × List Nat) := (true, [([], []), ([], []), ([1], [1]), ([0, 2, 2], [0, 2]), ([3], [3]), ([4], [4]), ([4], [4]), ([], []), ([7, 5, 3, 0, 1, 2, 3, 4, 5, 7], [5, 7]), ([6, 8, 0, 1, 2, 3, 4, 5, 6, 7, 8], [6])])
def laws_FnExactDoAct.B10 : List Nat := [0, 0, 2, 7, 15, 31, 31, 0, 191, 511]
theorem laws_FnExactDoAct.tab10 : rtab .any (opsOf Try.f3 10) = laws_FnExactDoAct.T10 := by kernel_rfl
theorem laws_FnExactDoAct.bits10 : waitsOk laws_FnExactDoAct.T10.2 laws_FnExactDoAct.B10 = true := by kernel_rfl
def laws_FnExactDoAct.T27 : Bool × List (List Nat × List Nat) := (true, [([], []), ([0], [0]), ([], []), ([2, 1], [2]), ([1, 3, 3], [1, 3]), ([4], [4]), ([5], [5]), ([5], [5]), ([], []), ([8, 6, 4, 0, 1, 2, 3, 4, 5, 6, 8], [6, 8]), ([7, 9, 0, 1, 2, 3, 4, 5, 6, 7, 8, 9], [7])])
def laws_FnExactDoAct.B27 : List Nat := [0, 1, 0, 7, 15, 31, 63, 63, 0, 383, 1023]
theorem laws_FnExactDoAct.tab27 : rtab .any (opsOf Try.f3 27) = laws_FnExactDoAct.T27 := by kernel_rfl
theorem laws_FnExactDoAct.bits27 : waitsOk laws_FnExactDoAct.T27.2 laws_FnExactDoAct.B27 = true := by kernel_rfl
set_option maxHeartbeats 8000000 in
set_option maxRecDepth 100000 in
theorem laws_FnExactDoAct.calls (k : Nat) (A0_0 : Option Addr) (c0_0 : Nat) (l0_0 : List (S112)) (a1_0 : Int) (a1_1 : ByteArray) (a1_2 : ByteArray) (a1_3 : ByteArray) (r : Bool) (w : World) (hr0_0 : Kd.C k112 w A0_0 l0_0.length l0_0) (hc0_0 : l0_0.length ≤ c0_0) (h : laws_FnExactDoAct.f k l0_0 a1_0 a1_1 a1_2 a1_3 = some r) :
  Calls Try.prog 3 #[.agg #[.slice A0_0 l0_0.length c0_0], .agg #[.int .i64 a1_0, .string a1_1, .string a1_2, .string a1_3]] w fun e w' => e = .returned (.bool r) ∧ Below w.heap.size w w' := by
 have hu24 := Try.underlying24
 have hu26 := Try.underlying26
 have hu31 := Try.underlying31
 have HR0_0 := Aside0.mk hr0_0
 have HC0_0 := Aside0.mk hc0_0
 clear hr0_0 hc0_0
 have HB := mk_ (Below.refl w.heap.size w)
 have H : ((laws_szDisk.f k l0_0 1048576).bind fun t229 => (if t229 < 0 then (some true) else ((laws_szAct.f a1_0 a1_1 a1_2 a1_3 t229).bind fun t230 => (if t230 < 0 then (some true) else ((laws_toDisk.f k l0_0).bind fun t231 => ((laws_toAct.f a1_0 a1_1 a1_2 a1_3).bind fun bt234 => ((spec_DoAct.f k t231 bt234.1 bt234.2.1 bt234.2.2.1 bt234.2.2.2).bind fun bt238 => ((laws_toDisk.f k l0_0).bind fun t243 => ((laws_toAct.f a1_0 a1_1 a1_2 a1_3).bind fun bt247 => ((impl_DoAct.f k t243 bt247.1 bt247.2.1 bt247.2.2.1 bt247.2.2.2).bind fun bt251 => ((laws_eqDisk.f k bt251.1 bt238.1).bind fun t256 => (if t256 = true then (laws_FnExactDoAct.j0 k bt238.2 bt251.2 (bt251.2 != bt238.2) l0_0 a1_0 a1_1 a1_2 a1_3 bt238.1 t243 bt251.1) else (none))))))))))))) = some r := h
 clear h
 replace H := Option.bind_eq_some_iff.mp H
 obtain ⟨t229, A30, H⟩ := H
 replace H : (if t229 < 0 then (some true) else ((laws_szAct.f a1_0 a1_1 a1_2 a1_3 t229).bind fun t230 => (if t230 < 0 then (some true) else ((laws_toDisk.f k l0_0).bind fun t231 => ((laws_toAct.f a1_0 a1_1 a1_2 a1_3).bind fun bt234 => ((spec_DoAct.f k t231 bt234.1 bt234.2.1 bt234.2.2.1 bt234.2.2.2).bind fun bt238 => ((laws_toDisk.f k l0_0).bind fun t243 => ((laws_toAct.f a1_0 a1_1 a1_2 a1_3).bind fun bt247 => ((impl_DoAct.f k t243 bt247.1 bt247.2.1 bt247.2.2.1 bt247.2.2.2).bind fun bt251 => ((laws_eqDisk.f k bt251.1 bt238.1).bind fun t256 => (if t256 = true then (laws_FnExactDoAct.j0 k bt238.2 bt251.2 (bt251.2 != bt238.2) l0_0 a1_0 a1_1 a1_2 a1_3 bt238.1 t243 bt251.1) else (none)))))))))))) = some r := H
 have A3 := Aside0.mk A30
 clear A30
 by_cases c4 : t229 < 0
 ·rw [if_pos c4] at H
  have c4b0 : decide (t229 < 0) = true := decide_eq_true c4
  clear c4
  obtain rfl := Option.some.inj H
  go_enter Try.func3, Try.ntmps3
  go_wp2_with (first | ((with_reducible refine gate_dst (N := 2) rfl ?_); refine bx_ (N := 2) (cs := #[.slice A0_0 l0_0.length c0_0]) (t := 24) ?_; intro gb227 hg w5 hbox hb; have BK227 := mk_ (hbox); have GW227 : Aside0 (w.heap.size ≤ gb227) := bz_ hg; have GE227 := GW227; replace HB := bs_ HB hb; clear hb hbox hg) | ((with_reducible refine gate_dst (N := 3) rfl ?_); refine bx_ (N := 3) (cs := #[.int .i64 a1_0, .string a1_1, .string a1_2, .string a1_3]) (t := 26) ?_; intro gb228 hg w6 hbox hb; have BK228 := mk_ (hbox); have GW228 : Aside0 (w.heap.size ≤ gb228) := bz_ hg; have GE228 := GW228; have NB227_228 := bl_ BK227 hg; have NB228_227 := bg_ BK227 hg; replace BK227 := bb_ BK227 hb; replace HB := bs_ HB hb; clear hb hbox hg; have hnb7 := NB227_228.out; have hnc7 := NB228_227.out; obtain ⟨hcz8_0, hfz8_0⟩ := b1_ BK227) | ((with_reducible refine gate_callee (f := 8) rfl ?_); refine goesL_ (some 18) rfl rfl Try.func8 (by kernel_rfl) rfl #[.agg #[.slice A0_0 l0_0.length c0_0], .int .i64 1048576] rfl ga_ ?_; (with_reducible refine (laws_szDisk.calls k _ _ l0_0 1048576 t229 _ ?side1 ?side2 A3.out).mono ?_); (case side1 => repeat (first | exact (Kd.C_below HR0_0.out HB.out) | (with_reducible refine Kd.C_alloc ?_ _) | (with_reducible refine Kd.C_drewN ?_ _) | (with_reducible refine Kd.C_drew ?_))); (case side2 => exact HC0_0.out); rintro e w9 ⟨rfl, hb⟩; refine ⟨_, rfl, ?_⟩; replace BK227 := bb_ BK227 hb; replace BK228 := bb_ BK228 hb; replace HB := bs_ HB hb; (try clear hb)))
  go_ret
  exact ⟨er_, bw_ HB⟩
 ·rw [if_neg c4] at H
  have c4b0 : decide (t229 < 0) = false := decide_eq_false c4
  clear c4
  replace H := Option.bind_eq_some_iff.mp H
  obtain ⟨t230, A100, H⟩ := H
  replace H : (if t230 < 0 then (some true) else ((laws_toDisk.f k l0_0).bind fun t231 => ((laws_toAct.f a1_0 a1_1 a1_2 a1_3).bind fun bt234 => ((spec_DoAct.f k t231 bt234.1 bt234.2.1 bt234.2.2.1 bt234.2.2.2).bind fun bt238 => ((laws_toDisk.f k l0_0).bind fun t243 => ((laws_toAct.f a1_0 a1_1 a1_2 a1_3).bind fun bt247 => ((impl_DoAct.f k t243 bt247.1 bt247.2.1 bt247.2.2.1 bt247.2.2.2).bind fun bt251 => ((laws_eqDisk.f k bt251.1 bt238.1).bind fun t256 => (if t256 = true then (laws_FnExactDoAct.j0 k bt238.2 bt251.2 (bt251.2 != bt238.2) l0_0 a1_0 a1_1 a1_2 a1_3 bt238.1 t243 bt251.1) else (none)))))))))) = some r := H
  have A10 := Aside0.mk A100
  clear A100
  by_cases c11 : t230 < 0
  ·rw [if_pos c11] at H
   have c11b0 : decide (t230 < 0) = true := decide_eq_true c11
   clear c11
   obtain rfl := Option.some.inj H
   go_enter Try.func3, Try.ntmps3
   go_wp2_with (first | ((with_reducible refine gate_dst (N := 2) rfl ?_); refine bx_ (N := 2) (cs := #[.slice A0_0 l0_0.length c0_0]) (t := 24) ?_; intro gb227 hg w12 hbox hb; have BK227 := mk_ (hbox); have GW227 : Aside0 (w.heap.size ≤ gb227) := bz_ hg; have GE227 := GW227; replace HB := bs_ HB hb; clear hb hbox hg) | ((with_reducible refine gate_dst (N := 3) rfl ?_); refine bx_ (N := 3) (cs := #[.int .i64 a1_0, .string a1_1, .string a1_2, .string a1_3]) (t := 26) ?_; intro gb228 hg w13 hbox hb; have BK228 := mk_ (hbox); have GW228 : Aside0 (w.heap.size ≤ gb228) := bz_ hg; have GE228 := GW228; have NB227_228 := bl_ BK227 hg; have NB228_227 := bg_ BK227 hg; replace BK227 := bb_ BK227 hb; replace HB := bs_ HB hb; clear hb hbox hg; have hnb14 := NB227_228.out; have hnc14 := NB228_227.out; obtain ⟨hcz15_0, hfz15_0⟩ := b1_ BK227) | ((with_reducible refine gate_callee (f := 8) rfl ?_); refine goesL_ (some 18) rfl rfl Try.func8 (by kernel_rfl) rfl #[.agg #[.slice A0_0 l0_0.length c0_0], .int .i64 1048576] rfl ga_ ?_; (with_reducible refine (laws_szDisk.calls k _ _ l0_0 1048576 t229 _ ?side1 ?side2 A3.out).mono ?_); (case side1 => repeat (first | exact (Kd.C_below HR0_0.out HB.out) | (with_reducible refine Kd.C_alloc ?_ _) | (with_reducible refine Kd.C_drewN ?_ _) | (with_reducible refine Kd.C_drew ?_))); (case side2 => exact HC0_0.out); rintro e w16 ⟨rfl, hb⟩; refine ⟨_, rfl, ?_⟩; replace BK227 := bb_ BK227 hb; replace BK228 := bb_ BK228 hb; replace HB := bs_ HB hb; (try clear hb); obtain ⟨hcz17_0, hcz17_1, hcz17_2, hcz17_3, hfz17_0, hfz17_1, hfz17_2, hfz17_3⟩ := b4_ BK228) | ((with_reducible refine gate_callee (f := 9) rfl ?_); refine goesL_ (some 23) rfl rfl Try.func9 (by kernel_rfl) rfl #[.agg #[.int .i64 a1_0, .string a1_1, .string a1_2, .string a1_3], .int .i64 t229] rfl ga_ ?_; (with_reducible refine (laws_szAct.calls a1_0 a1_1 a1_2 a1_3 t229 t230 _ A10.out).mono ?_); rintro e w18 ⟨rfl, hb⟩; refine ⟨_, rfl, ?_⟩; replace BK227 := bb_ BK227 hb; replace BK228 := bb_ BK228 hb; replace HB := bs_ HB hb; (try clear hb)))
   go_ret
   exact ⟨er_, bw_ HB⟩
  ·rw [if_neg c11] at H
   have c11b0 : decide (t230 < 0) = false := decide_eq_false c11
   clear c11
   replace H := Option.bind_eq_some_iff.mp H
   obtain ⟨t231, A190, H⟩ := H
   replace H : ((laws_toAct.f a1_0 a1_1 a1_2 a1_3).bind fun bt234 => ((spec_DoAct.f k t231 bt234.1 bt234.2.1 bt234.2.2.1 bt234.2.2.2).bind fun bt238 => ((laws_toDisk.f k l0_0).bind fun t243 => ((laws_toAct.f a1_0 a1_1 a1_2 a1_3).bind fun bt247 => ((impl_DoAct.f k t243 bt247.1 bt247.2.1 bt247.2.2.1 bt247.2.2.2).bind fun bt251 => ((laws_eqDisk.f k bt251.1 bt238.1).bind fun t256 => (if t256 = true then (laws_FnExactDoAct.j0 k bt238.2 bt251.2 (bt251.2 != bt238.2) l0_0 a1_0 a1_1 a1_2 a1_3 bt238.1 t243 bt251.1) else (none)))))))) = some r := H
   have A19 := Aside0.mk A190
   clear A190
   replace H := Option.bind_eq_some_iff.mp H
   obtain ⟨⟨t234, t235, t236, t237⟩, A200, H⟩ := H
   replace H : ((spec_DoAct.f k t231 t234 t235 t236 t237).bind fun bt238 => ((laws_toDisk.f k l0_0).bind fun t243 => ((laws_toAct.f a1_0 a1_1 a1_2 a1_3).bind fun bt247 => ((impl_DoAct.f k t243 bt247.1 bt247.2.1 bt247.2.2.1 bt247.2.2.2).bind fun bt251 => ((laws_eqDisk.f k bt251.1 bt238.1).bind fun t256 => (if t256 = true then (laws_FnExactDoAct.j0 k bt238.2 bt251.2 (bt251.2 != bt238.2) l0_0 a1_0 a1_1 a1_2 a1_3 bt238.1 t243 bt251.1) else (none))))))) = some r := H
   have A20 := Aside0.mk A200
   clear A200
   replace H := Option.bind_eq_some_iff.mp H
   obtain ⟨⟨t238, t241⟩, A210, H⟩ := H
   replace H : ((laws_toDisk.f k l0_0).bind fun t243 => ((laws_toAct.f a1_0 a1_1 a1_2 a1_3).bind fun bt247 => ((impl_DoAct.f k t243 bt247.1 bt247.2.1 bt247.2.2.1 bt247.2.2.2).bind fun bt251 => ((laws_eqDisk.f k bt251.1 t238).bind fun t256 => (if t256 = true then (laws_FnExactDoAct.j0 k t241 bt251.2 (bt251.2 != t241) l0_0 a1_0 a1_1 a1_2 a1_3 t238 t243 bt251.1) else (none)))))) = some r := H
   have A21 := Aside0.mk A210
   clear A210
   replace H := Option.bind_eq_some_iff.mp H
   obtain ⟨t243, A220, H⟩ := H
   replace H : ((laws_toAct.f a1_0 a1_1 a1_2 a1_3).bind fun bt247 => ((impl_DoAct.f k t243 bt247.1 bt247.2.1 bt247.2.2.1 bt247.2.2.2).bind fun bt251 => ((laws_eqDisk.f k bt251.1 t238).bind fun t256 => (if t256 = true then (laws_FnExactDoAct.j0 k t241 bt251.2 (bt251.2 != t241) l0_0 a1_0 a1_1 a1_2 a1_3 t238 t243 bt251.1) else (none))))) = some r := H
   have A22 := Aside0.mk A220
   clear A220
   replace H := Option.bind_eq_some_iff.mp H
   obtain ⟨⟨t247, t248, t249, t250⟩, A230, H⟩ := H
   replace H : ((impl_DoAct.f k t243 t247 t248 t249 t250).bind fun bt251 => ((laws_eqDisk.f k bt251.1 t238).bind fun t256 => (if t256 = true then (laws_FnExactDoAct.j0 k t241 bt251.2 (bt251.2 != t241) l0_0 a1_0 a1_1 a1_2 a1_3 t238 t243 bt251.1) else (none)))) = some r := H
   have A23 := Aside0.mk A230
   clear A230
   replace H := Option.bind_eq_some_iff.mp H
   obtain ⟨⟨t251, t254⟩, A240, H⟩ := H
   replace H : ((laws_eqDisk.f k t251 t238).bind fun t256 => (if t256 = true then (laws_FnExactDoAct.j0 k t241 t254 (t254 != t241) l0_0 a1_0 a1_1 a1_2 a1_3 t238 t243 t251) else (none))) = some r := H
   have A24 := Aside0.mk A240
   clear A240
   have HC25 := Aside0.mk H
   clear H
   go_enter Try.func3, Try.ntmps3
   try go_wp2_with (first | ((with_reducible refine gate_dst (N := 2) rfl ?_); refine bx_ (N := 2) (cs := #[.slice A0_0 l0_0.length c0_0]) (t := 24) ?_; intro gb227 hg w26 hbox hb; have BK227 := mk_ (hbox); have GW227 : Aside0 (w.heap.size ≤ gb227) := bz_ hg; have GE227 := GW227; replace HB := bs_ HB hb; clear hb hbox hg) | ((with_reducible refine gate_dst (N := 3) rfl ?_); refine bx_ (N := 3) (cs := #[.int .i64 a1_0, .string a1_1, .string a1_2, .string a1_3]) (t := 26) ?_; intro gb228 hg w27 hbox hb; have BK228 := mk_ (hbox); have GW228 : Aside0 (w.heap.size ≤ gb228) := bz_ hg; have GE228 := GW228; have NB227_228 := bl_ BK227 hg; have NB228_227 := bg_ BK227 hg; replace BK227 := bb_ BK227 hb; replace HB := bs_ HB hb; clear hb hbox hg; have hnb28 := NB227_228.out; have hnc28 := NB228_227.out; obtain ⟨hcz29_0, hfz29_0⟩ := b1_ BK227) | ((with_reducible refine gate_callee (f := 8) rfl ?_); refine goesL_ (some 18) rfl rfl Try.func8 (by kernel_rfl) rfl #[.agg #[.slice A0_0 l0_0.length c0_0], .int .i64 1048576] rfl ga_ ?_; (with_reducible refine (laws_szDisk.calls k _ _ l0_0 1048576 t229 _ ?side1 ?side2 A3.out).mono ?_); (case side1 => repeat (first | exact (Kd.C_below HR0_0.out HB.out) | (with_reducible refine Kd.C_alloc ?_ _) | (with_reducible refine Kd.C_drewN ?_ _) | (with_reducible refine Kd.C_drew ?_))); (case side2 => exact HC0_0.out); rintro e w30 ⟨rfl, hb⟩; refine ⟨_, rfl, ?_⟩; replace BK227 := bb_ BK227 hb; replace BK228 := bb_ BK228 hb; replace HB := bs_ HB hb; (try clear hb); obtain ⟨hcz31_0, hcz31_1, hcz31_2, hcz31_3, hfz31_0, hfz31_1, hfz31_2, hfz31_3⟩ := b4_ BK228) | ((with_reducible refine gate_callee (f := 9) rfl ?_); refine goesL_ (some 23) rfl rfl Try.func9 (by kernel_rfl) rfl #[.agg #[.int .i64 a1_0, .string a1_1, .string a1_2, .string a1_3], .int .i64 t229] rfl ga_ ?_; (with_reducible refine (laws_szAct.calls a1_0 a1_1 a1_2 a1_3 t229 t230 _ A10.out).mono ?_); rintro e w32 ⟨rfl, hb⟩; refine ⟨_, rfl, ?_⟩; replace BK227 := bb_ BK227 hb; replace BK228 := bb_ BK228 hb; replace HB := bs_ HB hb; (try clear hb)))
   have n0_ := mk_ (blk_drew BK227.out)
   have n1_ := mk_ (blk_drew BK228.out)
   have n2_ := mk_ (below_drew1 HB.out)
   clear BK227; clear BK228; clear HB; have BK227 := n0_; have BK228 := n1_; have HB := n2_; clear n0_ n1_ n2_
   refine start_ (n := 11) (S := fun w' => w'.cell? ⟨gb227, 0, none⟩ = some (.slice A0_0 l0_0.length c0_0) ∧ w'.cell? ⟨gb228, 0, none⟩ = some (.int .i64 a1_0) ∧ w'.cell? ⟨gb228, 1, none⟩ = some (.string a1_1) ∧ w'.cell? ⟨gb228, 2, none⟩ = some (.string a1_2) ∧ w'.cell? ⟨gb228, 3, none⟩ = some (.string a1_3)) (ds := []) #[false, false, false, false, false, false, false, false, false, false, false] (by kernel_rfl) rfl rfl ⟨bc_ BK227 0, bc_ BK228 0, bc_ BK228 1, bc_ BK228 2, bc_ BK228 3⟩ (fun hHeld => ?_); refine with_tabW laws_FnExactDoAct.tab8 laws_FnExactDoAct.bits8 (fun HT_ HW_ => ?_)
   generalize w32.drew = w33 at BK227 BK228 HB hHeld ⊢
   refine take_ (i := 0) (N := some 27) (v := ?_) (a' := ?_) #[true, false, false, false, false, false, false, false, false, false, false] rfl rfl (take_ofW HT_.out HW_.out (by kernel_rfl)) (fun _ _ _ h => h) (Or.inl ⟨by rfl, ?_⟩) hHeld ?_ ?_
   rotate_left
   ·rintro w' ⟨s0, s1, s2, s3, s4⟩
    go_simp
    with_reducible rfl
   rotate_left
   ·simp only [Act.put, sia_, scz_, scs_, i64_w, i32_w]
    rfl
   refine take_ (i := 2) (N := some 29) (v := ?_) (a' := ?_) #[true, false, true, false, false, false, false, false, false, false, false] rfl rfl (take_ofW HT_.out HW_.out (by kernel_rfl)) (fun _ _ _ h => h) (Or.inl ⟨by rfl, ?_⟩) hHeld ?_ ?_
   rotate_left
   ·rintro w' ⟨s0, s1, s2, s3, s4⟩
    go_simp
    with_reducible rfl
   rotate_left
   ·simp only [Act.put, sia_, scz_, scs_, i64_w, i32_w]
    rfl
   refine join_ (σ := Value × Value × Nat) 2 #[true, true, true, true, true, true, true, true, true, false, false] (fun s_ => [(28, .agg #[s_.1]), (30, .agg #[.int .i64 t234, .string t235, .string t236, .string t237]), (31, .tuple #[.agg #[s_.2.1], .bool t241]), (6, .pointer (some ⟨s_.2.2, 0, none⟩)), (26, .tuple #[.agg #[s_.2.1], .bool t241]), (32, .agg #[s_.2.1]), (33, .bool t241)]) (fun s_ w' => (w'.cell? ⟨gb227, 0, none⟩ = some (.slice A0_0 l0_0.length c0_0) ∧ w'.cell? ⟨gb228, 0, none⟩ = some (.int .i64 a1_0) ∧ w'.cell? ⟨gb228, 1, none⟩ = some (.string a1_1) ∧ w'.cell? ⟨gb228, 2, none⟩ = some (.string a1_2) ∧ w'.cell? ⟨gb228, 3, none⟩ = some (.string a1_3)) ∧ (Kd.R k76 76 w' w.heap.size (fun k_ => some k_ ≠ (s_.2.1 : Value).ownBlock) s_.1 t231) ∧ (Kd.R k76 76 w' w.heap.size (fun k_ => some k_ ≠ (s_.1 : Value).ownBlock) s_.2.1 t238) ∧ (w'.heap[gb227]? = some (.cells #[.slice A0_0 l0_0.length c0_0] 24 (0, 0))) ∧ (w'.heap[gb228]? = some (.cells #[.int .i64 a1_0, .string a1_1, .string a1_2, .string a1_3] 26 (0, 0))) ∧ (w'.heap[s_.2.2]? = some (.cells #[.slice none 0 0] 31 (0, 0))) ∧ (w.heap.size ≤ s_.2.2) ∧ (w.heap.size ≤ s_.2.2) ∧ (gb227 ≠ s_.2.2) ∧ (s_.2.2 ≠ gb227) ∧ (gb228 ≠ s_.2.2) ∧ (s_.2.2 ≠ gb228) ∧ (Below w.heap.size w w')) ?_ ?_
   rotate_left
   ·intro hCont
    refine two_ (i := 1) (j := 8) (Ni := some 28) (Nj := some 6) #[true, true, true, false, false, false, false, false, false, false, false] #[true, false, true, false, false, false, false, false, true, false, false] rfl rfl rfl rfl (two_of HT_.out (by kernel_rfl)) (by decide) (by decide) (fun K hK => ?_) (fun K hK => ?_)
    ·skip
     refine goes_ Try.func11 (by kernel_rfl) rfl #[.agg #[.slice A0_0 l0_0.length c0_0]] (by rfl) rfl rfl ga_ ?_
     with_reducible refine (laws_toDisk.calls k _ _ l0_0 t231 _ ?side1 ?side2 A19.out).mono ?_
     (case side1 => repeat (first | exact (Kd.C_below HR0_0.out HB.out) | (with_reducible refine Kd.C_alloc ?_ _) | (with_reducible refine Kd.C_drewN ?_ _) | (with_reducible refine Kd.C_drew ?_)))
     (case side2 => exact HC0_0.out)
     rintro e w34 ⟨v232, rfl, ho0, hb⟩
     refine ⟨_, rfl, ?_⟩
     have n0_ := mk_ (Kd.R_lower ho0 (below_size (bw_ HB)))
     have n1_ := bb_ BK227 hb; have n2_ := bb_ BK228 hb
     have n3_ := bs_ HB hb
     clear BK227; clear BK228; clear HB; have HO233 := n0_; have BK227 := n1_; have BK228 := n2_; have HB := n3_; clear n0_ n1_ n2_ n3_; (try clear hb); (try clear hb2); (try clear hk); (try clear hi); (try clear ho0)
     refine hK.out _ _ ⟨bc_ BK227 0, bc_ BK228 0, bc_ BK228 1, bc_ BK228 2, bc_ BK228 3⟩ (fun hHeld => ?_)
     clear hK K
     refine norm_ (a' := ?_) ?_ ?_
     rotate_left
     ·show Act.put _ (some 28) _ = _
      simp only [Act.put, sia_, scz_, scs_, i64_w, i32_w]
      rfl
     refine two_ (i := 3) (j := 8) (Ni := some 30) (Nj := some 6) #[true, true, true, true, false, false, false, false, false, false, false] #[true, true, true, false, false, false, false, false, true, false, false] rfl rfl rfl rfl (two_of HT_.out (by kernel_rfl)) (by decide) (by decide) (fun K hK => ?_) (fun K hK => ?_)
     ·skip
      refine goes_ Try.func12 (by kernel_rfl) rfl #[.agg #[.int .i64 a1_0, .string a1_1, .string a1_2, .string a1_3]] (by rfl) rfl rfl ga_ ?_
      with_reducible refine (laws_toAct.calls a1_0 a1_1 a1_2 a1_3 t234 t235 t236 t237 _ A20.out).mono ?_
      rintro e w35 ⟨rfl, hb⟩
      refine ⟨_, rfl, ?_⟩
      have n0_ := rb_ HO233 hb
      have n1_ := bb_ BK227 hb; have n2_ := bb_ BK228 hb
      have n3_ := bs_ HB hb
      clear HO233; clear BK227; clear BK228; clear HB; have HO233 := n0_; have BK227 := n1_; have BK228 := n2_; have HB := n3_; clear n0_ n1_ n2_ n3_; (try clear hb); (try clear hb2); (try clear hk); (try clear hi)
      obtain ⟨Ao36, co36, eo36⟩ := Kd.R_slice HO233.out
      (first | subst eo36 | (injection eo36 with f1_ f2_ f3_; have f4_ := f1_.symm; have f5_ := f3_.symm; clear f1_ f2_ f3_; subst f4_; subst f5_))
      refine hK.out _ _ ⟨bc_ BK227 0, bc_ BK228 0, bc_ BK228 1, bc_ BK228 2, bc_ BK228 3⟩ (fun hHeld => ?_)
      clear hK K
      refine norm_ (a' := ?_) ?_ ?_
      rotate_left
      ·show Act.put _ (some 30) _ = _
       simp only [Act.put, sia_, scz_, scs_, i64_w, i32_w]
       rfl
      refine two_ (i := 4) (j := 8) (Ni := some 31) (Nj := some 6) #[true, true, true, true, true, false, false, false, false, false, false] #[true, true, true, true, false, false, false, false, true, false, false] rfl rfl rfl rfl (two_of HT_.out (by kernel_rfl)) (by decide) (by decide) (fun K hK => ?_) (fun K hK => ?_)
      ·skip
       refine goes_ Try.func10 (by kernel_rfl) rfl #[.agg #[.slice Ao36 t231.length co36], .agg #[.int .i64 t234, .string t235, .string t236, .string t237]] (by rfl) rfl rfl ga_ ?_
       with_reducible refine (spec_DoAct.calls k _ _ t231 t234 t235 t236 t237 t238 t241 _ ?side1 ?side2 A21.out).mono ?_
       (case side1 => repeat (first | exact (Kd.R_reads' HO233.out).2.2 | (with_reducible refine Kd.C_alloc ?_ _) | (with_reducible refine Kd.C_drewN ?_ _) | (with_reducible refine Kd.C_drew ?_)))
       (case side2 => exact (Kd.R_reads' HO233.out).2.1)
       rintro e w37 ⟨v239, rfl, ho0, hb⟩
       refine ⟨_, rfl, ?_⟩
       have n0_ := mk_ (Kd.R_elder' (rp_ HO233) (Kd.R_base ho0) hb)
       have n1_ := mk_ (Kd.R_lower (Kd.R_new' ho0 (Kd.R_lt (rp_ HO233))) (below_size (bw_ HB)))
       have n2_ := bb_ BK227 hb; have n3_ := bb_ BK228 hb
       have n4_ := bs_ HB hb
       clear HO233; clear BK227; clear BK228; clear HB; have HO233 := n0_; have HO240 := n1_; have BK227 := n2_; have BK228 := n3_; have HB := n4_; clear n0_ n1_ n2_ n3_ n4_; (try clear hb); (try clear hb2); (try clear hk); (try clear hi); (try clear ho0)
       refine hK.out _ _ ⟨bc_ BK227 0, bc_ BK228 0, bc_ BK228 1, bc_ BK228 2, bc_ BK228 3⟩ (fun hHeld => ?_)
       clear hK K
       refine norm_ (a' := ?_) ?_ ?_
       rotate_left
       ·show Act.put _ (some 31) _ = _
        simp only [Act.put, sia_, scz_, scs_, i64_w, i32_w]
        rfl
       refine pure_ (i := 5) (N := some 26) (v := ?_) (a' := ?_) #[true, true, true, true, true, true, false, false, false, false, false] rfl rfl (any_of HT_.out (by kernel_rfl)) (fun _ _ _ h => h) (Or.inl ⟨by rfl, ?_⟩) ?_ ?_
       rotate_left
       ·intro w'
        go_simp
        with_reducible rfl
       rotate_left
       ·simp only [Act.put, sia_, scz_, scs_, i64_w, i32_w]
        rfl
       refine pure_ (i := 6) (N := some 32) (v := ?_) (a' := ?_) #[true, true, true, true, true, true, true, false, false, false, false] rfl rfl (any_of HT_.out (by kernel_rfl)) (fun _ _ _ h => h) (Or.inl ⟨by rfl, ?_⟩) ?_ ?_
       rotate_left
       ·intro w'
        go_simp
        with_reducible rfl
       rotate_left
       ·simp only [Act.put, sia_, scz_, scs_, i64_w, i32_w]
        rfl
       refine pure_ (i := 7) (N := some 33) (v := ?_) (a' := ?_) #[true, true, true, true, true, true, true, true, false, false, false] rfl rfl (any_of HT_.out (by kernel_rfl)) (fun _ _ _ h => h) (Or.inl ⟨by rfl, ?_⟩) ?_ ?_
       rotate_left
       ·intro w'
        go_simp
        with_reducible rfl
       rotate_left
       ·simp only [Act.put, sia_, scz_, scs_, i64_w, i32_w]
        rfl
       refine one_ (i := 8) (N := some 6) #[true, true, true, true, true, true, true, true, true, false, false] rfl rfl (one_of HT_.out (by kernel_rfl)) (by decide) (fun K hK => ?_)
       refine box_step ?hg (N := 6) ?hd (cs := #[.slice none 0 0]) (t := 31) ?hr ?_; (case hd => rfl); (case hg => rfl); (case hr => first | (go_simp; done) | (go_simp; rfl))
       intro gb242 hg w38 hbox hb
       have n0_ := rb_ HO233 hb
       have n1_ := rb_ HO240 hb
       have n2_ := bb_ BK227 hb; have n3_ := bb_ BK228 hb
       have n4_ := bs_ HB hb
       have n5_ := mk_ (hbox)
       have n6_ : Aside0 (w.heap.size ≤ gb242) := bz_ hg
       have n7_ : Aside0 (w.heap.size ≤ gb242) := bz_ hg
       have n8_ : Aside0 (gb227 ≠ gb242) := bl_ BK227 hg
       have n9_ : Aside0 (gb242 ≠ gb227) := bg_ BK227 hg
       have n10_ : Aside0 (gb228 ≠ gb242) := bl_ BK228 hg
       have n11_ : Aside0 (gb242 ≠ gb228) := bg_ BK228 hg
       clear HO233; clear HO240; clear BK227; clear BK228; clear HB; have HO233 := n0_; have HO240 := n1_; have BK227 := n2_; have BK228 := n3_; have HB := n4_; have BK242 := n5_; have GW242 := n6_; have GE242 := n7_; have NB227_242 := n8_; have NB242_227 := n9_; have NB228_242 := n10_; have NB242_228 := n11_; clear n0_ n1_ n2_ n3_ n4_ n5_ n6_ n7_ n8_ n9_ n10_ n11_; clear hb hbox hg
       refine hK.out _ _ ⟨bc_ BK227 0, bc_ BK228 0, bc_ BK228 1, bc_ BK228 2, bc_ BK228 3⟩ (fun hHeld => ?_)
       clear hK K
       refine norm_ (a' := ?_) ?_ ?_
       rotate_left
       ·show Act.put _ (some 6) _ = _
        simp only [Act.put, sia_, scz_, scs_, i64_w, i32_w]
        rfl
       exact norm_ (by simp only [putAll, Act.put, sia_, scz_, scs_]) (hCont (.slice Ao36 t231.length co36, v239, gb242) _ ⟨hHeld, (by (with_reducible repeat (first | apply Kd.R_alloc | apply Kd.R_drewN | apply Kd.R_drew)); exact Kd.R_mono HO233.out (fun _ hk => hk.2)), (by (with_reducible repeat (first | apply Kd.R_alloc | apply Kd.R_drewN | apply Kd.R_drew)); exact Kd.R_mono HO240.out (fun _ hk => hk.2)), (bp_ BK227), (bp_ BK228), (bp_ BK242), GW242.out, GE242.out, NB227_242.out, NB242_227.out, NB228_242.out, NB242_228.out, (bw_ HB)⟩)
      ·skip
       refine box_step ?hg (N := 6) ?hd (cs := #[.slice none 0 0]) (t := 31) ?hr ?_; (case hd => rfl); (case hg => rfl); (case hr => first | (go_simp; done) | (go_simp; rfl))
       intro gb242 hg w36 hbox hb
       have n0_ := rb_ HO233 hb
       have n1_ := bb_ BK227 hb; have n2_ := bb_ BK228 hb
       have n3_ := bs_ HB hb
       have n4_ := mk_ (hbox)
       have n5_ : Aside0 (w.heap.size ≤ gb242) := bz_ hg
       have n6_ : Aside0 (w.heap.size ≤ gb242) := bz_ hg
       have n7_ : Aside0 (gb227 ≠ gb242) := bl_ BK227 hg
       have n8_ : Aside0 (gb242 ≠ gb227) := bg_ BK227 hg
       have n9_ : Aside0 (gb228 ≠ gb242) := bl_ BK228 hg
       have n10_ : Aside0 (gb242 ≠ gb228) := bg_ BK228 hg
       clear HO233; clear BK227; clear BK228; clear HB; have HO233 := n0_; have BK227 := n1_; have BK228 := n2_; have HB := n3_; have BK242 := n4_; have GW242 := n5_; have GE242 := n6_; have NB227_242 := n7_; have NB242_227 := n8_; have NB228_242 := n9_; have NB242_228 := n10_; clear n0_ n1_ n2_ n3_ n4_ n5_ n6_ n7_ n8_ n9_ n10_; clear hb hbox hg
       obtain ⟨Ao37, co37, eo37⟩ := Kd.R_slice HO233.out
       (first | subst eo37 | (injection eo37 with f1_ f2_ f3_; have f4_ := f1_.symm; have f5_ := f3_.symm; clear f1_ f2_ f3_; subst f4_; subst f5_))
       refine hK.out _ _ ⟨bc_ BK227 0, bc_ BK228 0, bc_ BK228 1, bc_ BK228 2, bc_ BK228 3⟩ (fun hHeld => ?_)
       clear hK K
       refine norm_ (a' := ?_) ?_ ?_
       rotate_left
       ·show Act.put _ (some 6) _ = _
        simp only [Act.put, sia_, scz_, scs_, i64_w, i32_w]
        rfl
       refine one_ (i := 4) (N := some 31) #[true, true, true, true, true, false, false, false, true, false, false] rfl rfl (one_of HT_.out (by kernel_rfl)) (by decide) (fun K hK => ?_)
       refine goes_ Try.func10 (by kernel_rfl) rfl #[.agg #[.slice Ao37 t231.length co37], .agg #[.int .i64 t234, .string t235, .string t236, .string t237]] (by rfl) rfl rfl ga_ ?_
       with_reducible refine (spec_DoAct.calls k _ _ t231 t234 t235 t236 t237 t238 t241 _ ?side1 ?side2 A21.out).mono ?_
       (case side1 => repeat (first | exact (Kd.R_reads' HO233.out).2.2 | (with_reducible refine Kd.C_alloc ?_ _) | (with_reducible refine Kd.C_drewN ?_ _) | (with_reducible refine Kd.C_drew ?_)))
       (case side2 => exact (Kd.R_reads' HO233.out).2.1)
       rintro e w38 ⟨v239, rfl, ho0, hb⟩
       refine ⟨_, rfl, ?_⟩
       have n0_ := mk_ (Kd.R_elder' (rp_ HO233) (Kd.R_base ho0) hb)
       have n1_ := mk_ (Kd.R_lower (Kd.R_new' ho0 (Kd.R_lt (rp_ HO233))) (below_size (bw_ HB)))
       have n2_ := bb_ BK227 hb; have n3_ := bb_ BK228 hb; have n4_ := bb_ BK242 hb
       have n5_ := bs_ HB hb
       clear HO233; clear BK227; clear BK228; clear BK242; clear HB; have HO233 := n0_; have HO240 := n1_; have BK227 := n2_; have BK228 := n3_; have BK242 := n4_; have HB := n5_; clear n0_ n1_ n2_ n3_ n4_ n5_; (try clear hb); (try clear hb2); (try clear hk); (try clear hi); (try clear ho0)
       refine hK.out _ _ ⟨bc_ BK227 0, bc_ BK228 0, bc_ BK228 1, bc_ BK228 2, bc_ BK228 3⟩ (fun hHeld => ?_)
       clear hK K
       refine norm_ (a' := ?_) ?_ ?_
       rotate_left
       ·show Act.put _ (some 31) _ = _
        simp only [Act.put, sia_, scz_, scs_, i64_w, i32_w]
        rfl
       refine pure_ (i := 5) (N := some 26) (v := ?_) (a' := ?_) #[true, true, true, true, true, true, false, false, true, false, false] rfl rfl (any_of HT_.out (by kernel_rfl)) (fun _ _ _ h => h) (Or.inl ⟨by rfl, ?_⟩) ?_ ?_
       rotate_left
       ·intro w'
        go_simp
        with_reducible rfl
       rotate_left
       ·simp only [Act.put, sia_, scz_, scs_, i64_w, i32_w]
        rfl
       refine pure_ (i := 6) (N := some 32) (v := ?_) (a' := ?_) #[true, true, true, true, true, true, true, false, true, false, false] rfl rfl (any_of HT_.out (by kernel_rfl)) (fun _ _ _ h => h) (Or.inl ⟨by rfl, ?_⟩) ?_ ?_
       rotate_left
       ·intro w'
        go_simp
        with_reducible rfl
       rotate_left
       ·simp only [Act.put, sia_, scz_, scs_, i64_w, i32_w]
        rfl
       refine pure_ (i := 7) (N := some 33) (v := ?_) (a' := ?_) #[true, true, true, true, true, true, true, true, true, false, false] rfl rfl (any_of HT_.out (by kernel_rfl)) (fun _ _ _ h => h) (Or.inl ⟨by rfl, ?_⟩) ?_ ?_
       rotate_left
       ·intro w'
        go_simp
        with_reducible rfl
       rotate_left
       ·simp only [Act.put, sia_, scz_, scs_, i64_w, i32_w]
        rfl
       exact norm_ (by simp only [putAll, Act.put, sia_, scz_, scs_]) (hCont (.slice Ao37 t231.length co37, v239, gb242) _ ⟨hHeld, (by (with_reducible repeat (first | apply Kd.R_alloc | apply Kd.R_drewN | apply Kd.R_drew)); exact Kd.R_mono HO233.out (fun _ hk => hk.2)), (by (with_reducible repeat (first | apply Kd.R_alloc | apply Kd.R_drewN | apply Kd.R_drew)); exact Kd.R_mono HO240.out (fun _ hk => hk.2)), (bp_ BK227), (bp_ BK228), (bp_ BK242), GW242.out, GE242.out, NB227_242.out, NB242_227.out, NB228_242.out, NB242_228.out, (bw_ HB)⟩)
     ·skip
      refine box_step ?hg (N := 6) ?hd (cs := #[.slice none 0 0]) (t := 31) ?hr ?_; (case hd => rfl); (case hg => rfl); (case hr => first | (go_simp; done) | (go_simp; rfl))
      intro gb242 hg w35 hbox hb
      have n0_ := rb_ HO233 hb
      have n1_ := bb_ BK227 hb; have n2_ := bb_ BK228 hb
      have n3_ := bs_ HB hb
      have n4_ := mk_ (hbox)
      have n5_ : Aside0 (w.heap.size ≤ gb242) := bz_ hg
      have n6_ : Aside0 (w.heap.size ≤ gb242) := bz_ hg
      have n7_ : Aside0 (gb227 ≠ gb242) := bl_ BK227 hg
      have n8_ : Aside0 (gb242 ≠ gb227) := bg_ BK227 hg
      have n9_ : Aside0 (gb228 ≠ gb242) := bl_ BK228 hg
      have n10_ : Aside0 (gb242 ≠ gb228) := bg_ BK228 hg
      clear HO233; clear BK227; clear BK228; clear HB; have HO233 := n0_; have BK227 := n1_; have BK228 := n2_; have HB := n3_; have BK242 := n4_; have GW242 := n5_; have GE242 := n6_; have NB227_242 := n7_; have NB242_227 := n8_; have NB228_242 := n9_; have NB242_228 := n10_; clear n0_ n1_ n2_ n3_ n4_ n5_ n6_ n7_ n8_ n9_ n10_; clear hb hbox hg
      refine hK.out _ _ ⟨bc_ BK227 0, bc_ BK228 0, bc_ BK228 1, bc_ BK228 2, bc_ BK228 3⟩ (fun hHeld => ?_)
      clear hK K
      refine norm_ (a' := ?_) ?_ ?_
      rotate_left
      ·show Act.put _ (some 6) _ = _
       simp only [Act.put, sia_, scz_, scs_, i64_w, i32_w]
       rfl
      refine one_ (i := 3) (N := some 30) #[true, true, true, true, false, false, false, false, true, false, false] rfl rfl (one_of HT_.out (by kernel_rfl)) (by decide) (fun K hK => ?_)
      refine goes_ Try.func12 (by kernel_rfl) rfl #[.agg #[.int .i64 a1_0, .string a1_1, .string a1_2, .string a1_3]] (by rfl) rfl rfl ga_ ?_
      with_reducible refine (laws_toAct.calls a1_0 a1_1 a1_2 a1_3 t234 t235 t236 t237 _ A20.out).mono ?_
      rintro e w36 ⟨rfl, hb⟩
      refine ⟨_, rfl, ?_⟩
      have n0_ := rb_ HO233 hb
      have n1_ := bb_ BK227 hb; have n2_ := bb_ BK228 hb; have n3_ := bb_ BK242 hb
      have n4_ := bs_ HB hb
      clear HO233; clear BK227; clear BK228; clear BK242; clear HB; have HO233 := n0_; have BK227 := n1_; have BK228 := n2_; have BK242 := n3_; have HB := n4_; clear n0_ n1_ n2_ n3_ n4_; (try clear hb); (try clear hb2); (try clear hk); (try clear hi)
      obtain ⟨Ao37, co37, eo37⟩ := Kd.R_slice HO233.out
      (first | subst eo37 | (injection eo37 with f1_ f2_ f3_; have f4_ := f1_.symm; have f5_ := f3_.symm; clear f1_ f2_ f3_; subst f4_; subst f5_))
      refine hK.out _ _ ⟨bc_ BK227 0, bc_ BK228 0, bc_ BK228 1, bc_ BK228 2, bc_ BK228 3⟩ (fun hHeld => ?_)
      clear hK K
      refine norm_ (a' := ?_) ?_ ?_
      rotate_left
      ·show Act.put _ (some 30) _ = _
       simp only [Act.put, sia_, scz_, scs_, i64_w, i32_w]
       rfl
      refine one_ (i := 4) (N := some 31) #[true, true, true, true, true, false, false, false, true, false, false] rfl rfl (one_of HT_.out (by kernel_rfl)) (by decide) (fun K hK => ?_)
      refine goes_ Try.func10 (by kernel_rfl) rfl #[.agg #[.slice Ao37 t231.length co37], .agg #[.int .i64 t234, .string t235, .string t236, .string t237]] (by rfl) rfl rfl ga_ ?_
      with_reducible refine (spec_DoAct.calls k _ _ t231 t234 t235 t236 t237 t238 t241 _ ?side1 ?side2 A21.out).mono ?_
      (case side1 => repeat (first | exact (Kd.R_reads' HO233.out).2.2 | (with_reducible refine Kd.C_alloc ?_ _) | (with_reducible refine Kd.C_drewN ?_ _) | (with_reducible refine Kd.C_drew ?_)))
      (case side2 => exact (Kd.R_reads' HO233.out).2.1)
      rintro e w38 ⟨v239, rfl, ho0, hb⟩
      refine ⟨_, rfl, ?_⟩
      have n0_ := mk_ (Kd.R_elder' (rp_ HO233) (Kd.R_base ho0) hb)
      have n1_ := mk_ (Kd.R_lower (Kd.R_new' ho0 (Kd.R_lt (rp_ HO233))) (below_size (bw_ HB)))
      have n2_ := bb_ BK227 hb; have n3_ := bb_ BK228 hb; have n4_ := bb_ BK242 hb
      have n5_ := bs_ HB hb
      clear HO233; clear BK227; clear BK228; clear BK242; clear HB; have HO233 := n0_; have HO240 := n1_; have BK227 := n2_; have BK228 := n3_; have BK242 := n4_; have HB := n5_; clear n0_ n1_ n2_ n3_ n4_ n5_; (try clear hb); (try clear hb2); (try clear hk); (try clear hi); (try clear ho0)
      refine hK.out _ _ ⟨bc_ BK227 0, bc_ BK228 0, bc_ BK228 1, bc_ BK228 2, bc_ BK228 3⟩ (fun hHeld => ?_)
      clear hK K
      refine norm_ (a' := ?_) ?_ ?_
      rotate_left
      ·show Act.put _ (some 31) _ = _
       simp only [Act.put, sia_, scz_, scs_, i64_w, i32_w]
       rfl
      refine pure_ (i := 5) (N := some 26) (v := ?_) (a' := ?_) #[true, true, true, true, true, true, false, false, true, false, false] rfl rfl (any_of HT_.out (by kernel_rfl)) (fun _ _ _ h => h) (Or.inl ⟨by rfl, ?_⟩) ?_ ?_
      rotate_left
      ·intro w'
       go_simp
       with_reducible rfl
      rotate_left
      ·simp only [Act.put, sia_, scz_, scs_, i64_w, i32_w]
       rfl
      refine pure_ (i := 6) (N := some 32) (v := ?_) (a' := ?_) #[true, true, true, true, true, true, true, false, true, false, false] rfl rfl (any_of HT_.out (by kernel_rfl)) (fun _ _ _ h => h) (Or.inl ⟨by rfl, ?_⟩) ?_ ?_
      rotate_left
      ·intro w'
       go_simp
       with_reducible rfl
      rotate_left
      ·simp only [Act.put, sia_, scz_, scs_, i64_w, i32_w]
       rfl
      refine pure_ (i := 7) (N := some 33) (v := ?_) (a' := ?_) #[true, true, true, true, true, true, true, true, true, false, false] rfl rfl (any_of HT_.out (by kernel_rfl)) (fun _ _ _ h => h) (Or.inl ⟨by rfl, ?_⟩) ?_ ?_
      rotate_left
      ·intro w'
       go_simp
       with_reducible rfl
      rotate_left
      ·simp only [Act.put, sia_, scz_, scs_, i64_w, i32_w]
       rfl
      exact norm_ (by simp only [putAll, Act.put, sia_, scz_, scs_]) (hCont (.slice Ao37 t231.length co37, v239, gb242) _ ⟨hHeld, (by (with_reducible repeat (first | apply Kd.R_alloc | apply Kd.R_drewN | apply Kd.R_drew)); exact Kd.R_mono HO233.out (fun _ hk => hk.2)), (by (with_reducible repeat (first | apply Kd.R_alloc | apply Kd.R_drewN | apply Kd.R_drew)); exact Kd.R_mono HO240.out (fun _ hk => hk.2)), (bp_ BK227), (bp_ BK228), (bp_ BK242), GW242.out, GE242.out, NB227_242.out, NB242_227.out, NB228_242.out, NB242_228.out, (bw_ HB)⟩)
    ·skip
     refine box_step ?hg (N := 6) ?hd (cs := #[.slice none 0 0]) (t := 31) ?hr ?_; (case hd => rfl); (case hg => rfl); (case hr => first | (go_simp; done) | (go_simp; rfl))
     intro gb242 hg w34 hbox hb
     have n0_ := bb_ BK227 hb; have n1_ := bb_ BK228 hb
     have n2_ := bs_ HB hb
     have n3_ := mk_ (hbox)
     have n4_ : Aside0 (w.heap.size ≤ gb242) := bz_ hg
     have n5_ : Aside0 (w.heap.size ≤ gb242) := bz_ hg
     have n6_ : Aside0 (gb227 ≠ gb242) := bl_ BK227 hg
     have n7_ : Aside0 (gb242 ≠ gb227) := bg_ BK227 hg
     have n8_ : Aside0 (gb228 ≠ gb242) := bl_ BK228 hg
     have n9_ : Aside0 (gb242 ≠ gb228) := bg_ BK228 hg
     clear BK227; clear BK228; clear HB; have BK227 := n0_; have BK228 := n1_; have HB := n2_; have BK242 := n3_; have GW242 := n4_; have GE242 := n5_; have NB227_242 := n6_; have NB242_227 := n7_; have NB228_242 := n8_; have NB242_228 := n9_; clear n0_ n1_ n2_ n3_ n4_ n5_ n6_ n7_ n8_ n9_; clear hb hbox hg
     refine hK.out _ _ ⟨bc_ BK227 0, bc_ BK228 0, bc_ BK228 1, bc_ BK228 2, bc_ BK228 3⟩ (fun hHeld => ?_)
     clear hK K
     refine norm_ (a' := ?_) ?_ ?_
     rotate_left
     ·show Act.put _ (some 6) _ = _
      simp only [Act.put, sia_, scz_, scs_, i64_w, i32_w]
      rfl
     refine one_ (i := 1) (N := some 28) #[true, true, true, false, false, false, false, false, true, false, false] rfl rfl (one_of HT_.out (by kernel_rfl)) (by decide) (fun K hK => ?_)
     refine goes_ Try.func11 (by kernel_rfl) rfl #[.agg #[.slice A0_0 l0_0.length c0_0]] (by rfl) rfl rfl ga_ ?_
     with_reducible refine (laws_toDisk.calls k _ _ l0_0 t231 _ ?side1 ?side2 A19.out).mono ?_
     (case side1 => repeat (first | exact (Kd.C_below HR0_0.out HB.out) | (with_reducible refine Kd.C_alloc ?_ _) | (with_reducible refine Kd.C_drewN ?_ _) | (with_reducible refine Kd.C_drew ?_)))
     (case side2 => exact HC0_0.out)
     rintro e w35 ⟨v232, rfl, ho0, hb⟩
     refine ⟨_, rfl, ?_⟩
     have n0_ := mk_ (Kd.R_lower ho0 (below_size (bw_ HB)))
     have n1_ := bb_ BK227 hb; have n2_ := bb_ BK228 hb; have n3_ := bb_ BK242 hb
     have n4_ := bs_ HB hb
     clear BK227; clear BK228; clear BK242; clear HB; have HO233 := n0_; have BK227 := n1_; have BK228 := n2_; have BK242 := n3_; have HB := n4_; clear n0_ n1_ n2_ n3_ n4_; (try clear hb); (try clear hb2); (try clear hk); (try clear hi); (try clear ho0)
     refine hK.out _ _ ⟨bc_ BK227 0, bc_ BK228 0, bc_ BK228 1, bc_ BK228 2, bc_ BK228 3⟩ (fun hHeld => ?_)
     clear hK K
     refine norm_ (a' := ?_) ?_ ?_
     rotate_left
     ·show Act.put _ (some 28) _ = _
      simp only [Act.put, sia_, scz_, scs_, i64_w, i32_w]
      rfl
     refine one_ (i := 3) (N := some 30) #[true, true, true, true, false, false, false, false, true, false, false] rfl rfl (one_of HT_.out (by kernel_rfl)) (by decide) (fun K hK => ?_)
     refine goes_ Try.func12 (by kernel_rfl) rfl #[.agg #[.int .i64 a1_0, .string a1_1, .string a1_2, .string a1_3]] (by rfl) rfl rfl ga_ ?_
     with_reducible refine (laws_toAct.calls a1_0 a1_1 a1_2 a1_3 t234 t235 t236 t237 _ A20.out).mono ?_
     rintro e w36 ⟨rfl, hb⟩
     refine ⟨_, rfl, ?_⟩
     have n0_ := rb_ HO233 hb
     have n1_ := bb_ BK227 hb; have n2_ := bb_ BK228 hb; have n3_ := bb_ BK242 hb
     have n4_ := bs_ HB hb
     clear HO233; clear BK227; clear BK228; clear BK242; clear HB; have HO233 := n0_; have BK227 := n1_; have BK228 := n2_; have BK242 := n3_; have HB := n4_; clear n0_ n1_ n2_ n3_ n4_; (try clear hb); (try clear hb2); (try clear hk); (try clear hi)
     obtain ⟨Ao37, co37, eo37⟩ := Kd.R_slice HO233.out
     (first | subst eo37 | (injection eo37 with f1_ f2_ f3_; have f4_ := f1_.symm; have f5_ := f3_.symm; clear f1_ f2_ f3_; subst f4_; subst f5_))
     refine hK.out _ _ ⟨bc_ BK227 0, bc_ BK228 0, bc_ BK228 1, bc_ BK228 2, bc_ BK228 3⟩ (fun hHeld => ?_)
     clear hK K
     refine norm_ (a' := ?_) ?_ ?_
     rotate_left
     ·show Act.put _ (some 30) _ = _
      simp only [Act.put, sia_, scz_, scs_, i64_w, i32_w]
      rfl
     refine one_ (i := 4) (N := some 31) #[true, true, true, true, true, false, false, false, true, false, false] rfl rfl (one_of HT_.out (by kernel_rfl)) (by decide) (fun K hK => ?_)
     refine goes_ Try.func10 (by kernel_rfl) rfl #[.agg #[.slice Ao37 t231.length co37], .agg #[.int .i64 t234, .string t235, .string t236, .string t237]] (by rfl) rfl rfl ga_ ?_
     with_reducible refine (spec_DoAct.calls k _ _ t231 t234 t235 t236 t237 t238 t241 _ ?side1 ?side2 A21.out).mono ?_
     (case side1 => repeat (first | exact (Kd.R_reads' HO233.out).2.2 | (with_reducible refine Kd.C_alloc ?_ _) | (with_reducible refine Kd.C_drewN ?_ _) | (with_reducible refine Kd.C_drew ?_)))
     (case side2 => exact (Kd.R_reads' HO233.out).2.1)
     rintro e w38 ⟨v239, rfl, ho0, hb⟩
     refine ⟨_, rfl, ?_⟩
     have n0_ := mk_ (Kd.R_elder' (rp_ HO233) (Kd.R_base ho0) hb)
     have n1_ := mk_ (Kd.R_lower (Kd.R_new' ho0 (Kd.R_lt (rp_ HO233))) (below_size (bw_ HB)))
     have n2_ := bb_ BK227 hb; have n3_ := bb_ BK228 hb; have n4_ := bb_ BK242 hb
     have n5_ := bs_ HB hb
     clear HO233; clear BK227; clear BK228; clear BK242; clear HB; have HO233 := n0_; have HO240 := n1_; have BK227 := n2_; have BK228 := n3_; have BK242 := n4_; have HB := n5_; clear n0_ n1_ n2_ n3_ n4_ n5_; (try clear hb); (try clear hb2); (try clear hk); (try clear hi); (try clear ho0)
     refine hK.out _ _ ⟨bc_ BK227 0, bc_ BK228 0, bc_ BK228 1, bc_ BK228 2, bc_ BK228 3⟩ (fun hHeld => ?_)
     clear hK K
     refine norm_ (a' := ?_) ?_ ?_
     rotate_left
     ·show Act.put _ (some 31) _ = _
      simp only [Act.put, sia_, scz_, scs_, i64_w, i32_w]
      rfl
     refine pure_ (i := 5) (N := some 26) (v := ?_) (a' := ?_) #[true, true, true, true, true, true, false, false, true, false, false] rfl rfl (any_of HT_.out (by kernel_rfl)) (fun _ _ _ h => h) (Or.inl ⟨by rfl, ?_⟩) ?_ ?_
     rotate_left
     ·intro w'
      go_simp
      with_reducible rfl
     rotate_left
     ·simp only [Act.put, sia_, scz_, scs_, i64_w, i32_w]
      rfl
     refine pure_ (i := 6) (N := some 32) (v := ?_) (a' := ?_) #[true, true, true, true, true, true, true, false, true, false, false] rfl rfl (any_of HT_.out (by kernel_rfl)) (fun _ _ _ h => h) (Or.inl ⟨by rfl, ?_⟩) ?_ ?_
     rotate_left
     ·intro w'
      go_simp
      with_reducible rfl
     rotate_left
     ·simp only [Act.put, sia_, scz_, scs_, i64_w, i32_w]
      rfl
     refine pure_ (i := 7) (N := some 33) (v := ?_) (a' := ?_) #[true, true, true, true, true, true, true, true, true, false, false] rfl rfl (any_of HT_.out (by kernel_rfl)) (fun _ _ _ h => h) (Or.inl ⟨by rfl, ?_⟩) ?_ ?_
     rotate_left
     ·intro w'
      go_simp
      with_reducible rfl
     rotate_left
     ·simp only [Act.put, sia_, scz_, scs_, i64_w, i32_w]
      rfl
     exact norm_ (by simp only [putAll, Act.put, sia_, scz_, scs_]) (hCont (.slice Ao37 t231.length co37, v239, gb242) _ ⟨hHeld, (by (with_reducible repeat (first | apply Kd.R_alloc | apply Kd.R_drewN | apply Kd.R_drew)); exact Kd.R_mono HO233.out (fun _ hk => hk.2)), (by (with_reducible repeat (first | apply Kd.R_alloc | apply Kd.R_drewN | apply Kd.R_drew)); exact Kd.R_mono HO240.out (fun _ hk => hk.2)), (bp_ BK227), (bp_ BK228), (bp_ BK242), GW242.out, GE242.out, NB227_242.out, NB242_227.out, NB228_242.out, NB242_228.out, (bw_ HB)⟩)
   rintro ⟨v232, v239, gb242⟩ w39 ⟨hS_, h0_, h1_, h2_, h3_, h4_, h5_, h6_, h7_, h8_, h9_, h10_, h11_⟩
   have n0_ : Aside0 (Kd.R k76 76 w39 w.heap.size (fun k_ => some k_ ≠ (v239 : Value).ownBlock) v232 t231) := ⟨h0_⟩
   have n1_ : Aside0 (Kd.R k76 76 w39 w.heap.size (fun k_ => some k_ ≠ (v232 : Value).ownBlock) v239 t238) := ⟨h1_⟩
   have n2_ : Aside0 (w39.heap[gb227]? = some (.cells #[.slice A0_0 l0_0.length c0_0] 24 (0, 0))) := ⟨h2_⟩
   have n3_ : Aside0 (w39.heap[gb228]? = some (.cells #[.int .i64 a1_0, .string a1_1, .string a1_2, .string a1_3] 26 (0, 0))) := ⟨h3_⟩
   have n4_ : Aside0 (w39.heap[gb242]? = some (.cells #[.slice none 0 0] 31 (0, 0))) := ⟨h4_⟩
   have n5_ : Aside0 (w.heap.size ≤ gb242) := ⟨h5_⟩
   have n6_ : Aside0 (w.heap.size ≤ gb242) := ⟨h6_⟩
   have n7_ : Aside0 (gb227 ≠ gb242) := ⟨h7_⟩
   have n8_ : Aside0 (gb242 ≠ gb227) := ⟨h8_⟩
   have n9_ : Aside0 (gb228 ≠ gb242) := ⟨h9_⟩
   have n10_ : Aside0 (gb242 ≠ gb228) := ⟨h10_⟩
   have n11_ : Aside0 (Below w.heap.size w w39) := ⟨h11_⟩
   clear BK227; clear BK228; clear HB; clear h0_ h1_ h2_ h3_ h4_ h5_ h6_ h7_ h8_ h9_ h10_ h11_; have HO233 := n0_; have HO240 := n1_; have BK227 := n2_; have BK228 := n3_; have BK242 := n4_; have GW242 := n5_; have GE242 := n6_; have NB227_242 := n7_; have NB242_227 := n8_; have NB228_242 := n9_; have NB242_228 := n10_; have HB := n11_; clear n0_ n1_ n2_ n3_ n4_ n5_ n6_ n7_ n8_ n9_ n10_ n11_
   have hHeld : w39.cell? ⟨gb227, 0, none⟩ = some (.slice A0_0 l0_0.length c0_0) ∧ w39.cell? ⟨gb228, 0, none⟩ = some (.int .i64 a1_0) ∧ w39.cell? ⟨gb228, 1, none⟩ = some (.string a1_1) ∧ w39.cell? ⟨gb228, 2, none⟩ = some (.string a1_2) ∧ w39.cell? ⟨gb228, 3, none⟩ = some (.string a1_3) := hS_
   obtain ⟨Ao40, co40, eo40⟩ := Kd.R_slice HO240.out
   (first | subst eo40 | (injection eo40 with f1_ f2_ f3_; have f4_ := f1_.symm; have f5_ := f3_.symm; clear f1_ f2_ f3_; subst f4_; subst f5_))
   refine norm_ (a' := ?_) ?_ ?_
   rotate_left
   ·simp only [putAll, Act.put, sia_, scz_, scs_]
    rfl
   refine one_ (i := 9) (N := none) #[true, true, true, true, true, true, true, true, true, true, false] rfl rfl (one_of HT_.out (by kernel_rfl)) (by decide) (fun K hK => ?_)
   have hs41 : w39.cell? ⟨gb242, 0, none⟩ = some (.slice none 0 0) := bc_ BK242 0
   have hfs41 := blk_frozen BK242.out 0
   have hns41_0 := NB227_242.out
   have hns41_1 := NB228_242.out
   have hms41_0 := NB242_227.out
   have hms41_1 := NB242_228.out
   refine skip_ (w1 := ?_) (by rfl) rfl ?_ ?_
   rotate_left
   ·go_simp
    rfl
   refine hK.out _ _ ⟨((cell_far (p := ⟨gb242, _, none⟩) NB227_242.out _).trans (hHeld.1)), ((cell_far (p := ⟨gb242, _, none⟩) NB228_242.out _).trans (hHeld.2.1)), ((cell_far (p := ⟨gb242, _, none⟩) NB228_242.out _).trans (hHeld.2.2.1)), ((cell_far (p := ⟨gb242, _, none⟩) NB228_242.out _).trans (hHeld.2.2.2.1)), ((cell_far (p := ⟨gb242, _, none⟩) NB228_242.out _).trans (hHeld.2.2.2.2))⟩ (fun hHeld => ?_)
   clear hK K
   refine pure_ (i := 10) (N := some 7) (v := ?_) (a' := ?_) #[true, true, true, true, true, true, true, true, true, true, true] rfl rfl (any_of HT_.out (by kernel_rfl)) (fun _ _ _ h => h) (Or.inl ⟨by rfl, ?_⟩) ?_ ?_
   rotate_left
   ·intro w'
    go_simp
    with_reducible rfl
   rotate_left
   ·simp only [Act.put, sia_, scz_, scs_, i64_w, i32_w]
    rfl
   refine done_ (done_of HT_.out (by kernel_rfl)) ?_
   have hnb42 := NB227_242.out
   have hnc42 := NB242_227.out
   have hcz43_0 : w39.cell? ⟨gb227, 0, none⟩ = some (.slice A0_0 l0_0.length c0_0) := bc_ BK227 0
   have hfz43_0 := blk_frozen BK227.out 0
   try go_wp2_with (first | ((with_reducible refine gate_callee (f := 11) rfl ?_); refine goesL_ (some 35) rfl rfl Try.func11 (by kernel_rfl) rfl #[.agg #[.slice A0_0 l0_0.length c0_0]] rfl ga_ ?_; (with_reducible refine (laws_toDisk.calls k _ _ l0_0 t243 _ ?side1 ?side2 A22.out).mono ?_); (case side1 => exact Kd.C_below HR0_0.out (bw_ HB)); (case side2 => exact HC0_0.out); rintro e w44 ⟨v244, rfl, ho0, hb⟩; refine ⟨_, rfl, ?_⟩; have HO245 := mk_ (Kd.R_lower (Kd.R_new' (Kd.R_new' ho0 (Kd.R_lt (by (with_reducible repeat (first | apply Kd.R_alloc | apply Kd.R_drewN | apply Kd.R_drew)); exact (Kd.R_mono (Kd.R_far (p := ⟨gb242, 0, none⟩) (Kd.R_types HO233.out BK242.out (by decide)) (fun _ hk => hk.2) (.slice Ao40 t238.length co40)) (fun _ h_ => h_.1))))) (Kd.R_lt (by (with_reducible repeat (first | apply Kd.R_alloc | apply Kd.R_drewN | apply Kd.R_drew)); exact (Kd.R_mono (Kd.R_far (p := ⟨gb242, 0, none⟩) (Kd.R_types HO240.out BK242.out (by decide)) (fun _ hk => hk.2) (.slice Ao40 t238.length co40)) (fun _ h_ => h_.1))))) (below_size (bw_ HB))); replace HO233 := mk_ (Kd.R_elder' (by (with_reducible repeat (first | apply Kd.R_alloc | apply Kd.R_drewN | apply Kd.R_drew)); exact (Kd.R_mono (Kd.R_far (p := ⟨gb242, 0, none⟩) (Kd.R_types HO233.out BK242.out (by decide)) (fun _ hk => hk.2) (.slice Ao40 t238.length co40)) (fun _ h_ => h_.1))) (Kd.R_base ho0) hb); replace HO240 := mk_ (Kd.R_elder' (by (with_reducible repeat (first | apply Kd.R_alloc | apply Kd.R_drewN | apply Kd.R_drew)); exact (Kd.R_mono (Kd.R_far (p := ⟨gb242, 0, none⟩) (Kd.R_types HO240.out BK242.out (by decide)) (fun _ hk => hk.2) (.slice Ao40 t238.length co40)) (fun _ h_ => h_.1))) (Kd.R_base ho0) hb); replace BK227 := mk_ (blk_below (g := gb227) (o := .cells #[.slice A0_0 l0_0.length c0_0] 24 (0, 0)) bf_ hb); replace BK228 := mk_ (blk_below (g := gb228) (o := .cells #[.int .i64 a1_0, .string a1_1, .string a1_2, .string a1_3] 26 (0, 0)) bf_ hb); replace BK242 := mk_ (blk_below (g := gb242) (o := .cells #[.slice Ao40 t238.length co40] 31 (0, 0)) bu_ hb); replace HB := bs_ HB hb; (try clear hb); (try clear hk); (try clear ho0)) | ((with_reducible refine gate_dst (N := 8) rfl ?_); refine bx_ (N := 8) (cs := #[.slice none 0 0]) (t := 31) ?_; intro gb246 hg w45 hbox hb; have BK246 := mk_ (hbox); have GW246 : Aside0 (w.heap.size ≤ gb246) := bz_ hg; have GE246 := GW246; have NB227_246 := bl_ BK227 hg; have NB246_227 := bg_ BK227 hg; have NB228_246 := bl_ BK228 hg; have NB246_228 := bg_ BK228 hg; have NB242_246 := bl_ BK242 hg; have NB246_242 := bg_ BK242 hg; replace HO233 := rb_ HO233 hb; replace HO240 := rb_ HO240 hb; replace HO245 := rb_ HO245 hb; replace BK227 := bb_ BK227 hb; replace BK228 := bb_ BK228 hb; replace BK242 := bb_ BK242 hb; replace HB := bs_ HB hb; clear hb hbox hg; obtain ⟨Ao46, co46, eo46⟩ := Kd.R_slice HO245.out; subst eo46; have hnb47 := NB246_227.out; have hnc47 := NB227_246.out; have hnb48 := NB246_228.out; have hnc48 := NB228_246.out; have hnb49 := NB246_242.out; have hnc49 := NB242_246.out; obtain ⟨hcz50_0, hfz50_0⟩ := b1_ BK246))
   have n0_ : Aside0 (Kd.R k76 76 (w45.setCell ⟨gb246, 0, none⟩ (.slice Ao46 t243.length co46)) w.heap.size (fun k_ => some k_ ≠ (.slice Ao40 t238.length co40 : Value).ownBlock ∧ some k_ ≠ (.slice Ao46 t243.length co46 : Value).ownBlock) v232 t231) := ⟨by (with_reducible repeat (first | apply Kd.R_alloc | apply Kd.R_drewN | apply Kd.R_drew)); exact Kd.R_mono (Kd.R_far (p := ⟨gb246, 0, none⟩) (Kd.R_types HO233.out BK246.out (by decide)) (fun _ hk => hk.2) (.slice Ao46 t243.length co46)) (fun _ hk => ⟨hk.1.1, hk.1.2⟩)⟩
   have n1_ : Aside0 (Kd.R k76 76 (w45.setCell ⟨gb246, 0, none⟩ (.slice Ao46 t243.length co46)) w.heap.size (fun k_ => some k_ ≠ (v232 : Value).ownBlock ∧ some k_ ≠ (.slice Ao46 t243.length co46 : Value).ownBlock) (.slice Ao40 t238.length co40) t238) := ⟨by (with_reducible repeat (first | apply Kd.R_alloc | apply Kd.R_drewN | apply Kd.R_drew)); exact Kd.R_mono (Kd.R_far (p := ⟨gb246, 0, none⟩) (Kd.R_types HO240.out BK246.out (by decide)) (fun _ hk => hk.2) (.slice Ao46 t243.length co46)) (fun _ hk => ⟨hk.1.1, hk.1.2⟩)⟩
   have n2_ : Aside0 (Kd.R k76 76 (w45.setCell ⟨gb246, 0, none⟩ (.slice Ao46 t243.length co46)) w.heap.size (fun k_ => some k_ ≠ (v232 : Value).ownBlock ∧ some k_ ≠ (.slice Ao40 t238.length co40 : Value).ownBlock) (.slice Ao46 t243.length co46) t243) := ⟨by (with_reducible repeat (first | apply Kd.R_alloc | apply Kd.R_drewN | apply Kd.R_drew)); exact Kd.R_mono (Kd.R_far (p := ⟨gb246, 0, none⟩) (Kd.R_types HO245.out BK246.out (by decide)) (fun _ hk => hk.2) (.slice Ao46 t243.length co46)) (fun _ hk => ⟨hk.1.1.2, hk.1.2⟩)⟩
   have n3_ : Aside0 ((w45.setCell ⟨gb246, 0, none⟩ (.slice Ao46 t243.length co46)).heap[gb227]? = some (.cells #[.slice A0_0 l0_0.length c0_0] 24 (0, 0))) := ⟨bf_⟩
   have n4_ : Aside0 ((w45.setCell ⟨gb246, 0, none⟩ (.slice Ao46 t243.length co46)).heap[gb228]? = some (.cells #[.int .i64 a1_0, .string a1_1, .string a1_2, .string a1_3] 26 (0, 0))) := ⟨bf_⟩
   have n5_ : Aside0 ((w45.setCell ⟨gb246, 0, none⟩ (.slice Ao46 t243.length co46)).heap[gb242]? = some (.cells #[.slice Ao40 t238.length co40] 31 (0, 0))) := ⟨bf_⟩
   have n6_ : Aside0 ((w45.setCell ⟨gb246, 0, none⟩ (.slice Ao46 t243.length co46)).heap[gb246]? = some (.cells #[.slice Ao46 t243.length co46] 31 (0, 0))) := ⟨bu_⟩
   have n7_ : Aside0 (Below w.heap.size w (w45.setCell ⟨gb246, 0, none⟩ (.slice Ao46 t243.length co46))) := ⟨bw_ HB⟩
   (try clear HO233); (try clear HO240); (try clear HO245); (try clear BK227); (try clear BK228); (try clear BK242); (try clear BK246); (try clear HB)
   generalize (w45.setCell ⟨gb246, 0, none⟩ (.slice Ao46 t243.length co46)) = w51 at n0_ n1_ n2_ n3_ n4_ n5_ n6_ n7_ ⊢
   have HO233 := n0_; have HO240 := n1_; have HO245 := n2_; have BK227 := n3_; have BK228 := n4_; have BK242 := n5_; have BK246 := n6_; have HB := n7_; clear n0_ n1_ n2_ n3_ n4_ n5_ n6_ n7_
   have n0_ := mk_ (Kd.R_drew HO233.out)
   have n1_ := mk_ (Kd.R_drew HO240.out)
   have n2_ := mk_ (Kd.R_drew HO245.out)
   have n3_ := mk_ (blk_drew BK227.out)
   have n4_ := mk_ (blk_drew BK228.out)
   have n5_ := mk_ (blk_drew BK242.out)
   have n6_ := mk_ (blk_drew BK246.out)
   have n7_ := mk_ (below_drew1 HB.out)
   clear HO233; clear HO240; clear HO245; clear BK227; clear BK228; clear BK242; clear BK246; clear HB; have HO233 := n0_; have HO240 := n1_; have HO245 := n2_; have BK227 := n3_; have BK228 := n4_; have BK242 := n5_; have BK246 := n6_; have HB := n7_; clear n0_ n1_ n2_ n3_ n4_ n5_ n6_ n7_
   refine start_ (n := 10) (S := fun w' => w'.cell? ⟨gb246, 0, none⟩ = some (.slice Ao46 t243.length co46) ∧ w'.cell? ⟨gb228, 0, none⟩ = some (.int .i64 a1_0) ∧ w'.cell? ⟨gb228, 1, none⟩ = some (.string a1_1) ∧ w'.cell? ⟨gb228, 2, none⟩ = some (.string a1_2) ∧ w'.cell? ⟨gb228, 3, none⟩ = some (.string a1_3)) (ds := []) #[false, false, false, false, false, false, false, false, false, false] (by kernel_rfl) rfl rfl ⟨bc_ BK246 0, bc_ BK228 0, bc_ BK228 1, bc_ BK228 2, bc_ BK228 3⟩ (fun hHeld => ?_); refine with_tabW laws_FnExactDoAct.tab10 laws_FnExactDoAct.bits10 (fun HT_ HW_ => ?_)
   generalize w51.drew = w52 at HO233 HO240 HO245 BK227 BK228 BK242 BK246 HB hHeld ⊢
   refine take_ (i := 0) (N := some 37) (v := ?_) (a' := ?_) #[true, false, false, false, false, false, false, false, false, false] rfl rfl (take_ofW HT_.out HW_.out (by kernel_rfl)) (fun _ _ _ h => h) (Or.inl ⟨by rfl, ?_⟩) hHeld ?_ ?_
   rotate_left
   ·rintro w' ⟨s0, s1, s2, s3, s4⟩
    go_simp
    with_reducible rfl
   rotate_left
   ·simp only [Act.put, sia_, scz_, scs_, i64_w, i32_w]
    rfl
   refine take_ (i := 1) (N := some 38) (v := ?_) (a' := ?_) #[true, true, false, false, false, false, false, false, false, false] rfl rfl (take_ofW HT_.out HW_.out (by kernel_rfl)) (fun _ _ _ h => h) (Or.inl ⟨by rfl, ?_⟩) hHeld ?_ ?_
   rotate_left
   ·rintro w' ⟨s0, s1, s2, s3, s4⟩
    go_simp
    with_reducible rfl
   rotate_left
   ·simp only [Act.put, sia_, scz_, scs_, i64_w, i32_w]
    rfl
   refine join_ (σ := Value × Nat) 2 #[true, true, true, true, true, true, true, true, false, false] (fun s_ => [(39, .agg #[.int .i64 t247, .string t248, .string t249, .string t250]), (40, .tuple #[.agg #[s_.1], .bool t254]), (9, .pointer (some ⟨s_.2, 0, none⟩)), (36, .tuple #[.agg #[s_.1], .bool t254]), (41, .agg #[s_.1]), (42, .bool t254)]) (fun s_ w' => (w'.cell? ⟨gb246, 0, none⟩ = some (.slice Ao46 t243.length co46) ∧ w'.cell? ⟨gb228, 0, none⟩ = some (.int .i64 a1_0) ∧ w'.cell? ⟨gb228, 1, none⟩ = some (.string a1_1) ∧ w'.cell? ⟨gb228, 2, none⟩ = some (.string a1_2) ∧ w'.cell? ⟨gb228, 3, none⟩ = some (.string a1_3)) ∧ (Kd.R k76 76 w' w.heap.size (fun k_ => some k_ ≠ (.slice Ao40 t238.length co40 : Value).ownBlock ∧ some k_ ≠ (.slice Ao46 t243.length co46 : Value).ownBlock ∧ some k_ ≠ (s_.1 : Value).ownBlock) v232 t231) ∧ (Kd.R k76 76 w' w.heap.size (fun k_ => some k_ ≠ (v232 : Value).ownBlock ∧ some k_ ≠ (.slice Ao46 t243.length co46 : Value).ownBlock ∧ some k_ ≠ (s_.1 : Value).ownBlock) (.slice Ao40 t238.length co40) t238) ∧ (Kd.R k76 76 w' w.heap.size (fun k_ => some k_ ≠ (v232 : Value).ownBlock ∧ some k_ ≠ (.slice Ao40 t238.length co40 : Value).ownBlock ∧ some k_ ≠ (s_.1 : Value).ownBlock) (.slice Ao46 t243.length co46) t243) ∧ (Kd.R k76 76 w' w.heap.size (fun k_ => some k_ ≠ (v232 : Value).ownBlock ∧ some k_ ≠ (.slice Ao40 t238.length co40 : Value).ownBlock ∧ some k_ ≠ (.slice Ao46 t243.length co46 : Value).ownBlock) s_.1 t251) ∧ (w'.heap[gb227]? = some (.cells #[.slice A0_0 l0_0.length c0_0] 24 (0, 0))) ∧ (w'.heap[gb228]? = some (.cells #[.int .i64 a1_0, .string a1_1, .string a1_2, .string a1_3] 26 (0, 0))) ∧ (w'.heap[gb242]? = some (.cells #[.slice Ao40 t238.length co40] 31 (0, 0))) ∧ (w'.heap[gb246]? = some (.cells #[.slice Ao46 t243.length co46] 31 (0, 0))) ∧ (w'.heap[s_.2]? = some (.cells #[.slice none 0 0] 31 (0, 0))) ∧ (w.heap.size ≤ s_.2) ∧ (w.heap.size ≤ s_.2) ∧ (gb227 ≠ s_.2) ∧ (s_.2 ≠ gb227) ∧ (gb228 ≠ s_.2) ∧ (s_.2 ≠ gb228) ∧ (gb242 ≠ s_.2) ∧ (s_.2 ≠ gb242) ∧ (gb246 ≠ s_.2) ∧ (s_.2 ≠ gb246) ∧ (Below w.heap.size w w')) ?_ ?_
   rotate_left
   ·intro hCont
    refine two_ (i := 2) (j := 7) (Ni := some 39) (Nj := some 9) #[true, true, true, false, false, false, false, false, false, false] #[true, true, false, false, false, false, false, true, false, false] rfl rfl rfl rfl (two_of HT_.out (by kernel_rfl)) (by decide) (by decide) (fun K hK => ?_) (fun K hK => ?_)
    ·skip
     refine goes_ Try.func12 (by kernel_rfl) rfl #[.agg #[.int .i64 a1_0, .string a1_1, .string a1_2, .string a1_3]] (by rfl) rfl rfl ga_ ?_
     with_reducible refine (laws_toAct.calls a1_0 a1_1 a1_2 a1_3 t247 t248 t249 t250 _ A23.out).mono ?_
     rintro e w53 ⟨rfl, hb⟩
     refine ⟨_, rfl, ?_⟩
     have n0_ := rb_ HO233 hb
     have n1_ := rb_ HO240 hb
     have n2_ := rb_ HO245 hb
     have n3_ := bb_ BK227 hb; have n4_ := bb_ BK228 hb; have n5_ := bb_ BK242 hb; have n6_ := bb_ BK246 hb
     have n7_ := bs_ HB hb
     clear HO233; clear HO240; clear HO245; clear BK227; clear BK228; clear BK242; clear BK246; clear HB; have HO233 := n0_; have HO240 := n1_; have HO245 := n2_; have BK227 := n3_; have BK228 := n4_; have BK242 := n5_; have BK246 := n6_; have HB := n7_; clear n0_ n1_ n2_ n3_ n4_ n5_ n6_ n7_; (try clear hb); (try clear hb2); (try clear hk); (try clear hi)
     refine hK.out _ _ ⟨bc_ BK246 0, bc_ BK228 0, bc_ BK228 1, bc_ BK228 2, bc_ BK228 3⟩ (fun hHeld => ?_)
     clear hK K
     refine norm_ (a' := ?_) ?_ ?_
     rotate_left
     ·show Act.put _ (some 39) _ = _
      simp only [Act.put, sia_, scz_, scs_, i64_w, i32_w]
      rfl
     refine two_ (i := 3) (j := 7) (Ni := some 40) (Nj := some 9) #[true, true, true, true, false, false, false, false, false, false] #[true, true, true, false, false, false, false, true, false, false] rfl rfl rfl rfl (two_of HT_.out (by kernel_rfl)) (by decide) (by decide) (fun K hK => ?_) (fun K hK => ?_)
     ·skip
      refine goes_ Try.func13 (by kernel_rfl) rfl #[.agg #[.slice Ao46 t243.length co46], .agg #[.int .i64 t247, .string t248, .string t249, .string t250]] (by rfl) rfl rfl ga_ ?_
      with_reducible refine (impl_DoAct.calls k _ _ t243 t247 t248 t249 t250 t251 t254 _ ?side1 ?side2 A24.out).mono ?_
      (case side1 => repeat (first | exact (Kd.R_reads' HO245.out).2.2 | (with_reducible refine Kd.C_alloc ?_ _) | (with_reducible refine Kd.C_drewN ?_ _) | (with_reducible refine Kd.C_drew ?_)))
      (case side2 => exact (Kd.R_reads' HO245.out).2.1)
      rintro e w54 ⟨v252, rfl, ho0, hb⟩
      refine ⟨_, rfl, ?_⟩
      have n0_ := mk_ (Kd.R_elder' (rp_ HO233) (Kd.R_base ho0) hb)
      have n1_ := mk_ (Kd.R_elder' (rp_ HO240) (Kd.R_base ho0) hb)
      have n2_ := mk_ (Kd.R_elder' (rp_ HO245) (Kd.R_base ho0) hb)
      have n3_ := mk_ (Kd.R_lower (Kd.R_new' (Kd.R_new' (Kd.R_new' ho0 (Kd.R_lt (rp_ HO233))) (Kd.R_lt (rp_ HO240))) (Kd.R_lt (rp_ HO245))) (below_size (bw_ HB)))
      have n4_ := bb_ BK227 hb; have n5_ := bb_ BK228 hb; have n6_ := bb_ BK242 hb; have n7_ := bb_ BK246 hb
      have n8_ := bs_ HB hb
      clear HO233; clear HO240; clear HO245; clear BK227; clear BK228; clear BK242; clear BK246; clear HB; have HO233 := n0_; have HO240 := n1_; have HO245 := n2_; have HO253 := n3_; have BK227 := n4_; have BK228 := n5_; have BK242 := n6_; have BK246 := n7_; have HB := n8_; clear n0_ n1_ n2_ n3_ n4_ n5_ n6_ n7_ n8_; (try clear hb); (try clear hb2); (try clear hk); (try clear hi); (try clear ho0)
      refine hK.out _ _ ⟨bc_ BK246 0, bc_ BK228 0, bc_ BK228 1, bc_ BK228 2, bc_ BK228 3⟩ (fun hHeld => ?_)
      clear hK K
      refine norm_ (a' := ?_) ?_ ?_
      rotate_left
      ·show Act.put _ (some 40) _ = _
       simp only [Act.put, sia_, scz_, scs_, i64_w, i32_w]
       rfl
      refine pure_ (i := 4) (N := some 36) (v := ?_) (a' := ?_) #[true, true, true, true, true, false, false, false, false, false] rfl rfl (any_of HT_.out (by kernel_rfl)) (fun _ _ _ h => h) (Or.inl ⟨by rfl, ?_⟩) ?_ ?_
      rotate_left
      ·intro w'
       go_simp
       with_reducible rfl
      rotate_left
      ·simp only [Act.put, sia_, scz_, scs_, i64_w, i32_w]
       rfl
      refine pure_ (i := 5) (N := some 41) (v := ?_) (a' := ?_) #[true, true, true, true, true, true, false, false, false, false] rfl rfl (any_of HT_.out (by kernel_rfl)) (fun _ _ _ h => h) (Or.inl ⟨by rfl, ?_⟩) ?_ ?_
      rotate_left
      ·intro w'
       go_simp
       with_reducible rfl
      rotate_left
      ·simp only [Act.put, sia_, scz_, scs_, i64_w, i32_w]
       rfl
      refine pure_ (i := 6) (N := some 42) (v := ?_) (a' := ?_) #[true, true, true, true, true, true, true, false, false, false] rfl rfl (any_of HT_.out (by kernel_rfl)) (fun _ _ _ h => h) (Or.inl ⟨by rfl, ?_⟩) ?_ ?_
      rotate_left
      ·intro w'
       go_simp
       with_reducible rfl
      rotate_left
      ·simp only [Act.put, sia_, scz_, scs_, i64_w, i32_w]
       rfl
      refine one_ (i := 7) (N := some 9) #[true, true, true, true, true, true, true, true, false, false] rfl rfl (one_of HT_.out (by kernel_rfl)) (by decide) (fun K hK => ?_)
      refine box_step ?hg (N := 9) ?hd (cs := #[.slice none 0 0]) (t := 31) ?hr ?_; (case hd => rfl); (case hg => rfl); (case hr => first | (go_simp; done) | (go_simp; rfl))
      intro gb255 hg w55 hbox hb
      have n0_ := rb_ HO233 hb
      have n1_ := rb_ HO240 hb
      have n2_ := rb_ HO245 hb
      have n3_ := rb_ HO253 hb
      have n4_ := bb_ BK227 hb; have n5_ := bb_ BK228 hb; have n6_ := bb_ BK242 hb; have n7_ := bb_ BK246 hb
      have n8_ := bs_ HB hb
      have n9_ := mk_ (hbox)
      have n10_ : Aside0 (w.heap.size ≤ gb255) := bz_ hg
      have n11_ : Aside0 (w.heap.size ≤ gb255) := bz_ hg
      have n12_ : Aside0 (gb227 ≠ gb255) := bl_ BK227 hg
      have n13_ : Aside0 (gb255 ≠ gb227) := bg_ BK227 hg
      have n14_ : Aside0 (gb228 ≠ gb255) := bl_ BK228 hg
      have n15_ : Aside0 (gb255 ≠ gb228) := bg_ BK228 hg
      have n16_ : Aside0 (gb242 ≠ gb255) := bl_ BK242 hg
      have n17_ : Aside0 (gb255 ≠ gb242) := bg_ BK242 hg
      have n18_ : Aside0 (gb246 ≠ gb255) := bl_ BK246 hg
      have n19_ : Aside0 (gb255 ≠ gb246) := bg_ BK246 hg
      clear HO233; clear HO240; clear HO245; clear HO253; clear BK227; clear BK228; clear BK242; clear BK246; clear HB; have HO233 := n0_; have HO240 := n1_; have HO245 := n2_; have HO253 := n3_; have BK227 := n4_; have BK228 := n5_; have BK242 := n6_; have BK246 := n7_; have HB := n8_; have BK255 := n9_; have GW255 := n10_; have GE255 := n11_; have NB227_255 := n12_; have NB255_227 := n13_; have NB228_255 := n14_; have NB255_228 := n15_; have NB242_255 := n16_; have NB255_242 := n17_; have NB246_255 := n18_; have NB255_246 := n19_; clear n0_ n1_ n2_ n3_ n4_ n5_ n6_ n7_ n8_ n9_ n10_ n11_ n12_ n13_ n14_ n15_ n16_ n17_ n18_ n19_; clear hb hbox hg
      refine hK.out _ _ ⟨bc_ BK246 0, bc_ BK228 0, bc_ BK228 1, bc_ BK228 2, bc_ BK228 3⟩ (fun hHeld => ?_)
      clear hK K
      refine norm_ (a' := ?_) ?_ ?_
      rotate_left
      ·show Act.put _ (some 9) _ = _
       simp only [Act.put, sia_, scz_, scs_, i64_w, i32_w]
       rfl
      exact norm_ (by simp only [putAll, Act.put, sia_, scz_, scs_]) (hCont (v252, gb255) _ ⟨hHeld, (by (with_reducible repeat (first | apply Kd.R_alloc | apply Kd.R_drewN | apply Kd.R_drew)); exact Kd.R_mono HO233.out (fun _ hk => ⟨hk.1.1, ⟨hk.1.2, hk.2⟩⟩)), (by (with_reducible repeat (first | apply Kd.R_alloc | apply Kd.R_drewN | apply Kd.R_drew)); exact Kd.R_mono HO240.out (fun _ hk => ⟨hk.1.1, ⟨hk.1.2, hk.2⟩⟩)), (by (with_reducible repeat (first | apply Kd.R_alloc | apply Kd.R_drewN | apply Kd.R_drew)); exact Kd.R_mono HO245.out (fun _ hk => ⟨hk.1.1, ⟨hk.1.2, hk.2⟩⟩)), (by (with_reducible repeat (first | apply Kd.R_alloc | apply Kd.R_drewN | apply Kd.R_drew)); exact Kd.R_mono HO253.out (fun _ hk => ⟨hk.1.1.2, ⟨hk.1.2, hk.2⟩⟩)), (bp_ BK227), (bp_ BK228), (bp_ BK242), (bp_ BK246), (bp_ BK255), GW255.out, GE255.out, NB227_255.out, NB255_227.out, NB228_255.out, NB255_228.out, NB242_255.out, NB255_242.out, NB246_255.out, NB255_246.out, (bw_ HB)⟩)
     ·skip
      refine box_step ?hg (N := 9) ?hd (cs := #[.slice none 0 0]) (t := 31) ?hr ?_; (case hd => rfl); (case hg => rfl); (case hr => first | (go_simp; done) | (go_simp; rfl))
      intro gb255 hg w54 hbox hb
      have n0_ := rb_ HO233 hb
      have n1_ := rb_ HO240 hb
      have n2_ := rb_ HO245 hb
      have n3_ := bb_ BK227 hb; have n4_ := bb_ BK228 hb; have n5_ := bb_ BK242 hb; have n6_ := bb_ BK246 hb
      have n7_ := bs_ HB hb
      have n8_ := mk_ (hbox)
      have n9_ : Aside0 (w.heap.size ≤ gb255) := bz_ hg
      have n10_ : Aside0 (w.heap.size ≤ gb255) := bz_ hg
      have n11_ : Aside0 (gb227 ≠ gb255) := bl_ BK227 hg
      have n12_ : Aside0 (gb255 ≠ gb227) := bg_ BK227 hg
      have n13_ : Aside0 (gb228 ≠ gb255) := bl_ BK228 hg
      have n14_ : Aside0 (gb255 ≠ gb228) := bg_ BK228 hg
      have n15_ : Aside0 (gb242 ≠ gb255) := bl_ BK242 hg
      have n16_ : Aside0 (gb255 ≠ gb242) := bg_ BK242 hg
      have n17_ : Aside0 (gb246 ≠ gb255) := bl_ BK246 hg
      have n18_ : Aside0 (gb255 ≠ gb246) := bg_ BK246 hg
      clear HO233; clear HO240; clear HO245; clear BK227; clear BK228; clear BK242; clear BK246; clear HB; have HO233 := n0_; have HO240 := n1_; have HO245 := n2_; have BK227 := n3_; have BK228 := n4_; have BK242 := n5_; have BK246 := n6_; have HB := n7_; have BK255 := n8_; have GW255 := n9_; have GE255 := n10_; have NB227_255 := n11_; have NB255_227 := n12_; have NB228_255 := n13_; have NB255_228 := n14_; have NB242_255 := n15_; have NB255_242 := n16_; have NB246_255 := n17_; have NB255_246 := n18_; clear n0_ n1_ n2_ n3_ n4_ n5_ n6_ n7_ n8_ n9_ n10_ n11_ n12_ n13_ n14_ n15_ n16_ n17_ n18_; clear hb hbox hg
      refine hK.out _ _ ⟨bc_ BK246 0, bc_ BK228 0, bc_ BK228 1, bc_ BK228 2, bc_ BK228 3⟩ (fun hHeld => ?_)
      clear hK K
      refine norm_ (a' := ?_) ?_ ?_
      rotate_left
      ·show Act.put _ (some 9) _ = _
       simp only [Act.put, sia_, scz_, scs_, i64_w, i32_w]
       rfl
      refine one_ (i := 3) (N := some 40) #[true, true, true, true, false, false, false, true, false, false] rfl rfl (one_of HT_.out (by kernel_rfl)) (by decide) (fun K hK => ?_)
      refine goes_ Try.func13 (by kernel_rfl) rfl #[.agg #[.slice Ao46 t243.length co46], .agg #[.int .i64 t247, .string t248, .string t249, .string t250]] (by rfl) rfl rfl ga_ ?_
      with_reducible refine (impl_DoAct.calls k _ _ t243 t247 t248 t249 t250 t251 t254 _ ?side1 ?side2 A24.out).mono ?_
      (case side1 => repeat (first | exact (Kd.R_reads' HO245.out).2.2 | (with_reducible refine Kd.C_alloc ?_ _) | (with_reducible refine Kd.C_drewN ?_ _) | (with_reducible refine Kd.C_drew ?_)))
      (case side2 => exact (Kd.R_reads' HO245.out).2.1)
      rintro e w55 ⟨v252, rfl, ho0, hb⟩
      refine ⟨_, rfl, ?_⟩
      have n0_ := mk_ (Kd.R_elder' (rp_ HO233) (Kd.R_base ho0) hb)
      have n1_ := mk_ (Kd.R_elder' (rp_ HO240) (Kd.R_base ho0) hb)
      have n2_ := mk_ (Kd.R_elder' (rp_ HO245) (Kd.R_base ho0) hb)
      have n3_ := mk_ (Kd.R_lower (Kd.R_new' (Kd.R_new' (Kd.R_new' ho0 (Kd.R_lt (rp_ HO233))) (Kd.R_lt (rp_ HO240))) (Kd.R_lt (rp_ HO245))) (below_size (bw_ HB)))
      have n4_ := bb_ BK227 hb; have n5_ := bb_ BK228 hb; have n6_ := bb_ BK242 hb; have n7_ := bb_ BK246 hb; have n8_ := bb_ BK255 hb
      have n9_ := bs_ HB hb
      clear HO233; clear HO240; clear HO245; clear BK227; clear BK228; clear BK242; clear BK246; clear BK255; clear HB; have HO233 := n0_; have HO240 := n1_; have HO245 := n2_; have HO253 := n3_; have BK227 := n4_; have BK228 := n5_; have BK242 := n6_; have BK246 := n7_; have BK255 := n8_; have HB := n9_; clear n0_ n1_ n2_ n3_ n4_ n5_ n6_ n7_ n8_ n9_; (try clear hb); (try clear hb2); (try clear hk); (try clear hi); (try clear ho0)
      refine hK.out _ _ ⟨bc_ BK246 0, bc_ BK228 0, bc_ BK228 1, bc_ BK228 2, bc_ BK228 3⟩ (fun hHeld => ?_)
      clear hK K
      refine norm_ (a' := ?_) ?_ ?_
      rotate_left
      ·show Act.put _ (some 40) _ = _
       simp only [Act.put, sia_, scz_, scs_, i64_w, i32_w]
       rfl
      refine pure_ (i := 4) (N := some 36) (v := ?_) (a' := ?_) #[true, true, true, true, true, false, false, true, false, false] rfl rfl (any_of HT_.out (by kernel_rfl)) (fun _ _ _ h => h) (Or.inl ⟨by rfl, ?_⟩) ?_ ?_
      rotate_left
      ·intro w'
       go_simp
       with_reducible rfl
      rotate_left
      ·simp only [Act.put, sia_, scz_, scs_, i64_w, i32_w]
       rfl
      refine pure_ (i := 5) (N := some 41) (v := ?_) (a' := ?_) #[true, true, true, true, true, true, false, true, false, false] rfl rfl (any_of HT_.out (by kernel_rfl)) (fun _ _ _ h => h) (Or.inl ⟨by rfl, ?_⟩) ?_ ?_
      rotate_left
      ·intro w'
       go_simp
       with_reducible rfl
      rotate_left
      ·simp only [Act.put, sia_, scz_, scs_, i64_w, i32_w]
       rfl
      refine pure_ (i := 6) (N := some 42) (v := ?_) (a' := ?_) #[true, true, true, true, true, true, true, true, false, false] rfl rfl (any_of HT_.out (by kernel_rfl)) (fun _ _ _ h => h) (Or.inl ⟨by rfl, ?_⟩) ?_ ?_
      rotate_left
      ·intro w'
       go_simp
       with_reducible rfl
      rotate_left
      ·simp only [Act.put, sia_, scz_, scs_, i64_w, i32_w]
       rfl
      exact norm_ (by simp only [putAll, Act.put, sia_, scz_, scs_]) (hCont (v252, gb255) _ ⟨hHeld, (by (with_reducible repeat (first | apply Kd.R_alloc | apply Kd.R_drewN | apply Kd.R_drew)); exact Kd.R_mono HO233.out (fun _ hk => ⟨hk.1.1, ⟨hk.1.2, hk.2⟩⟩)), (by (with_reducible repeat (first | apply Kd.R_alloc | apply Kd.R_drewN | apply Kd.R_drew)); exact Kd.R_mono HO240.out (fun _ hk => ⟨hk.1.1, ⟨hk.1.2, hk.2⟩⟩)), (by (with_reducible repeat (first | apply Kd.R_alloc | apply Kd.R_drewN | apply Kd.R_drew)); exact Kd.R_mono HO245.out (fun _ hk => ⟨hk.1.1, ⟨hk.1.2, hk.2⟩⟩)), (by (with_reducible repeat (first | apply Kd.R_alloc | apply Kd.R_drewN | apply Kd.R_drew)); exact Kd.R_mono HO253.out (fun _ hk => ⟨hk.1.1.2, ⟨hk.1.2, hk.2⟩⟩)), (bp_ BK227), (bp_ BK228), (bp_ BK242), (bp_ BK246), (bp_ BK255), GW255.out, GE255.out, NB227_255.out, NB255_227.out, NB228_255.out, NB255_228.out, NB242_255.out, NB255_242.out, NB246_255.out, NB255_246.out, (bw_ HB)⟩)
    ·skip
     refine box_step ?hg (N := 9) ?hd (cs := #[.slice none 0 0]) (t := 31) ?hr ?_; (case hd => rfl); (case hg => rfl); (case hr => first | (go_simp; done) | (go_simp; rfl))
     intro gb255 hg w53 hbox hb
     have n0_ := rb_ HO233 hb
     have n1_ := rb_ HO240 hb
     have n2_ := rb_ HO245 hb
     have n3_ := bb_ BK227 hb; have n4_ := bb_ BK228 hb; have n5_ := bb_ BK242 hb; have n6_ := bb_ BK246 hb
     have n7_ := bs_ HB hb
     have n8_ := mk_ (hbox)
     have n9_ : Aside0 (w.heap.size ≤ gb255) := bz_ hg
     have n10_ : Aside0 (w.heap.size ≤ gb255) := bz_ hg
     have n11_ : Aside0 (gb227 ≠ gb255) := bl_ BK227 hg
     have n12_ : Aside0 (gb255 ≠ gb227) := bg_ BK227 hg
     have n13_ : Aside0 (gb228 ≠ gb255) := bl_ BK228 hg
     have n14_ : Aside0 (gb255 ≠ gb228) := bg_ BK228 hg
     have n15_ : Aside0 (gb242 ≠ gb255) := bl_ BK242 hg
     have n16_ : Aside0 (gb255 ≠ gb242) := bg_ BK242 hg
     have n17_ : Aside0 (gb246 ≠ gb255) := bl_ BK246 hg
     have n18_ : Aside0 (gb255 ≠ gb246) := bg_ BK246 hg
     clear HO233; clear HO240; clear HO245; clear BK227; clear BK228; clear BK242; clear BK246; clear HB; have HO233 := n0_; have HO240 := n1_; have HO245 := n2_; have BK227 := n3_; have BK228 := n4_; have BK242 := n5_; have BK246 := n6_; have HB := n7_; have BK255 := n8_; have GW255 := n9_; have GE255 := n10_; have NB227_255 := n11_; have NB255_227 := n12_; have NB228_255 := n13_; have NB255_228 := n14_; have NB242_255 := n15_; have NB255_242 := n16_; have NB246_255 := n17_; have NB255_246 := n18_; clear n0_ n1_ n2_ n3_ n4_ n5_ n6_ n7_ n8_ n9_ n10_ n11_ n12_ n13_ n14_ n15_ n16_ n17_ n18_; clear hb hbox hg
     refine hK.out _ _ ⟨bc_ BK246 0, bc_ BK228 0, bc_ BK228 1, bc_ BK228 2, bc_ BK228 3⟩ (fun hHeld => ?_)
     clear hK K
     refine norm_ (a' := ?_) ?_ ?_
     rotate_left
     ·show Act.put _ (some 9) _ = _
      simp only [Act.put, sia_, scz_, scs_, i64_w, i32_w]
      rfl
     refine one_ (i := 2) (N := some 39) #[true, true, true, false, false, false, false, true, false, false] rfl rfl (one_of HT_.out (by kernel_rfl)) (by decide) (fun K hK => ?_)
     refine goes_ Try.func12 (by kernel_rfl) rfl #[.agg #[.int .i64 a1_0, .string a1_1, .string a1_2, .string a1_3]] (by rfl) rfl rfl ga_ ?_
     with_reducible refine (laws_toAct.calls a1_0 a1_1 a1_2 a1_3 t247 t248 t249 t250 _ A23.out).mono ?_
     rintro e w54 ⟨rfl, hb⟩
     refine ⟨_, rfl, ?_⟩
     have n0_ := rb_ HO233 hb
     have n1_ := rb_ HO240 hb
     have n2_ := rb_ HO245 hb
     have n3_ := bb_ BK227 hb; have n4_ := bb_ BK228 hb; have n5_ := bb_ BK242 hb; have n6_ := bb_ BK246 hb; have n7_ := bb_ BK255 hb
     have n8_ := bs_ HB hb
     clear HO233; clear HO240; clear HO245; clear BK227; clear BK228; clear BK242; clear BK246; clear BK255; clear HB; have HO233 := n0_; have HO240 := n1_; have HO245 := n2_; have BK227 := n3_; have BK228 := n4_; have BK242 := n5_; have BK246 := n6_; have BK255 := n7_; have HB := n8_; clear n0_ n1_ n2_ n3_ n4_ n5_ n6_ n7_ n8_; (try clear hb); (try clear hb2); (try clear hk); (try clear hi)
     refine hK.out _ _ ⟨bc_ BK246 0, bc_ BK228 0, bc_ BK228 1, bc_ BK228 2, bc_ BK228 3⟩ (fun hHeld => ?_)
     clear hK K
     refine norm_ (a' := ?_) ?_ ?_
     rotate_left
     ·show Act.put _ (some 39) _ = _
      simp only [Act.put, sia_, scz_, scs_, i64_w, i32_w]
      rfl
     refine one_ (i := 3) (N := some 40) #[true, true, true, true, false, false, false, true, false, false] rfl rfl (one_of HT_.out (by kernel_rfl)) (by decide) (fun K hK => ?_)
     refine goes_ Try.func13 (by kernel_rfl) rfl #[.agg #[.slice Ao46 t243.length co46], .agg #[.int .i64 t247, .string t248, .string t249, .string t250]] (by rfl) rfl rfl ga_ ?_
     with_reducible refine (impl_DoAct.calls k _ _ t243 t247 t248 t249 t250 t251 t254 _ ?side1 ?side2 A24.out).mono ?_
     (case side1 => repeat (first | exact (Kd.R_reads' HO245.out).2.2 | (with_reducible refine Kd.C_alloc ?_ _) | (with_reducible refine Kd.C_drewN ?_ _) | (with_reducible refine Kd.C_drew ?_)))
     (case side2 => exact (Kd.R_reads' HO245.out).2.1)
     rintro e w55 ⟨v252, rfl, ho0, hb⟩
     refine ⟨_, rfl, ?_⟩
     have n0_ := mk_ (Kd.R_elder' (rp_ HO233) (Kd.R_base ho0) hb)
     have n1_ := mk_ (Kd.R_elder' (rp_ HO240) (Kd.R_base ho0) hb)
     have n2_ := mk_ (Kd.R_elder' (rp_ HO245) (Kd.R_base ho0) hb)
     have n3_ := mk_ (Kd.R_lower (Kd.R_new' (Kd.R_new' (Kd.R_new' ho0 (Kd.R_lt (rp_ HO233))) (Kd.R_lt (rp_ HO240))) (Kd.R_lt (rp_ HO245))) (below_size (bw_ HB)))
     have n4_ := bb_ BK227 hb; have n5_ := bb_ BK228 hb; have n6_ := bb_ BK242 hb; have n7_ := bb_ BK246 hb; have n8_ := bb_ BK255 hb
     have n9_ := bs_ HB hb
     clear HO233; clear HO240; clear HO245; clear BK227; clear BK228; clear BK242; clear BK246; clear BK255; clear HB; have HO233 := n0_; have HO240 := n1_; have HO245 := n2_; have HO253 := n3_; have BK227 := n4_; have BK228 := n5_; have BK242 := n6_; have BK246 := n7_; have BK255 := n8_; have HB := n9_; clear n0_ n1_ n2_ n3_ n4_ n5_ n6_ n7_ n8_ n9_; (try clear hb); (try clear hb2); (try clear hk); (try clear hi); (try clear ho0)
     refine hK.out _ _ ⟨bc_ BK246 0, bc_ BK228 0, bc_ BK228 1, bc_ BK228 2, bc_ BK228 3⟩ (fun hHeld => ?_)
     clear hK K
     refine norm_ (a' := ?_) ?_ ?_
     rotate_left
     ·show Act.put _ (some 40) _ = _
      simp only [Act.put, sia_, scz_, scs_, i64_w, i32_w]
      rfl
     refine pure_ (i := 4) (N := some 36) (v := ?_) (a' := ?_) #[true, true, true, true, true, false, false, true, false, false] rfl rfl (any_of HT_.out (by kernel_rfl)) (fun _ _ _ h => h) (Or.inl ⟨by rfl, ?_⟩) ?_ ?_
     rotate_left
     ·intro w'
      go_simp
      with_reducible rfl
     rotate_left
     ·simp only [Act.put, sia_, scz_, scs_, i64_w, i32_w]
      rfl
     refine pure_ (i := 5) (N := some 41) (v := ?_) (a' := ?_) #[true, true, true, true, true, true, false, true, false, false] rfl rfl (any_of HT_.out (by kernel_rfl)) (fun _ _ _ h => h) (Or.inl ⟨by rfl, ?_⟩) ?_ ?_
     rotate_left
     ·intro w'
      go_simp
      with_reducible rfl
     rotate_left
     ·simp only [Act.put, sia_, scz_, scs_, i64_w, i32_w]
      rfl
     refine pure_ (i := 6) (N := some 42) (v := ?_) (a' := ?_) #[true, true, true, true, true, true, true, true, false, false] rfl rfl (any_of HT_.out (by kernel_rfl)) (fun _ _ _ h => h) (Or.inl ⟨by rfl, ?_⟩) ?_ ?_
     rotate_left
     ·intro w'
      go_simp
      with_reducible rfl
     rotate_left
     ·simp only [Act.put, sia_, scz_, scs_, i64_w, i32_w]
      rfl
     exact norm_ (by simp only [putAll, Act.put, sia_, scz_, scs_]) (hCont (v252, gb255) _ ⟨hHeld, (by (with_reducible repeat (first | apply Kd.R_alloc | apply Kd.R_drewN | apply Kd.R_drew)); exact Kd.R_mono HO233.out (fun _ hk => ⟨hk.1.1, ⟨hk.1.2, hk.2⟩⟩)), (by (with_reducible repeat (first | apply Kd.R_alloc | apply Kd.R_drewN | apply Kd.R_drew)); exact Kd.R_mono HO240.out (fun _ hk => ⟨hk.1.1, ⟨hk.1.2, hk.2⟩⟩)), (by (with_reducible repeat (first | apply Kd.R_alloc | apply Kd.R_drewN | apply Kd.R_drew)); exact Kd.R_mono HO245.out (fun _ hk => ⟨hk.1.1, ⟨hk.1.2, hk.2⟩⟩)), (by (with_reducible repeat (first | apply Kd.R_alloc | apply Kd.R_drewN | apply Kd.R_drew)); exact Kd.R_mono HO253.out (fun _ hk => ⟨hk.1.1.2, ⟨hk.1.2, hk.2⟩⟩)), (bp_ BK227), (bp_ BK228), (bp_ BK242), (bp_ BK246), (bp_ BK255), GW255.out, GE255.out, NB227_255.out, NB255_227.out, NB228_255.out, NB255_228.out, NB242_255.out, NB255_242.out, NB246_255.out, NB255_246.out, (bw_ HB)⟩)
   rintro ⟨v252, gb255⟩ w56 ⟨hS_, h0_, h1_, h2_, h3_, h4_, h5_, h6_, h7_, h8_, h9_, h10_, h11_, h12_, h13_, h14_, h15_, h16_, h17_, h18_, h19_⟩
   have n0_ : Aside0 (Kd.R k76 76 w56 w.heap.size (fun k_ => some k_ ≠ (.slice Ao40 t238.length co40 : Value).ownBlock ∧ some k_ ≠ (.slice Ao46 t243.length co46 : Value).ownBlock ∧ some k_ ≠ (v252 : Value).ownBlock) v232 t231) := ⟨h0_⟩
   have n1_ : Aside0 (Kd.R k76 76 w56 w.heap.size (fun k_ => some k_ ≠ (v232 : Value).ownBlock ∧ some k_ ≠ (.slice Ao46 t243.length co46 : Value).ownBlock ∧ some k_ ≠ (v252 : Value).ownBlock) (.slice Ao40 t238.length co40) t238) := ⟨h1_⟩
   have n2_ : Aside0 (Kd.R k76 76 w56 w.heap.size (fun k_ => some k_ ≠ (v232 : Value).ownBlock ∧ some k_ ≠ (.slice Ao40 t238.length co40 : Value).ownBlock ∧ some k_ ≠ (v252 : Value).ownBlock) (.slice Ao46 t243.length co46) t243) := ⟨h2_⟩
   have n3_ : Aside0 (Kd.R k76 76 w56 w.heap.size (fun k_ => some k_ ≠ (v232 : Value).ownBlock ∧ some k_ ≠ (.slice Ao40 t238.length co40 : Value).ownBlock ∧ some k_ ≠ (.slice Ao46 t243.length co46 : Value).ownBlock) v252 t251) := ⟨h3_⟩
   have n4_ : Aside0 (w56.heap[gb227]? = some (.cells #[.slice A0_0 l0_0.length c0_0] 24 (0, 0))) := ⟨h4_⟩
   have n5_ : Aside0 (w56.heap[gb228]? = some (.cells #[.int .i64 a1_0, .string a1_1, .string a1_2, .string a1_3] 26 (0, 0))) := ⟨h5_⟩
   have n6_ : Aside0 (w56.heap[gb242]? = some (.cells #[.slice Ao40 t238.length co40] 31 (0, 0))) := ⟨h6_⟩
   have n7_ : Aside0 (w56.heap[gb246]? = some (.cells #[.slice Ao46 t243.length co46] 31 (0, 0))) := ⟨h7_⟩
   have n8_ : Aside0 (w56.heap[gb255]? = some (.cells #[.slice none 0 0] 31 (0, 0))) := ⟨h8_⟩
   have n9_ : Aside0 (w.heap.size ≤ gb255) := ⟨h9_⟩
   have n10_ : Aside0 (w.heap.size ≤ gb255) := ⟨h10_⟩
   have n11_ : Aside0 (gb227 ≠ gb255) := ⟨h11_⟩
   have n12_ : Aside0 (gb255 ≠ gb227) := ⟨h12_⟩
   have n13_ : Aside0 (gb228 ≠ gb255) := ⟨h13_⟩
   have n14_ : Aside0 (gb255 ≠ gb228) := ⟨h14_⟩
   have n15_ : Aside0 (gb242 ≠ gb255) := ⟨h15_⟩
   have n16_ : Aside0 (gb255 ≠ gb242) := ⟨h16_⟩
   have n17_ : Aside0 (gb246 ≠ gb255) := ⟨h17_⟩
   have n18_ : Aside0 (gb255 ≠ gb246) := ⟨h18_⟩
   have n19_ : Aside0 (Below w.heap.size w w56) := ⟨h19_⟩
   clear HO233; clear HO240; clear HO245; clear BK227; clear BK228; clear BK242; clear BK246; clear HB; clear h0_ h1_ h2_ h3_ h4_ h5_ h6_ h7_ h8_ h9_ h10_ h11_ h12_ h13_ h14_ h15_ h16_ h17_ h18_ h19_; have HO233 := n0_; have HO240 := n1_; have HO245 := n2_; have HO253 := n3_; have BK227 := n4_; have BK228 := n5_; have BK242 := n6_; have BK246 := n7_; have BK255 := n8_; have GW255 := n9_; have GE255 := n10_; have NB227_255 := n11_; have NB255_227 := n12_; have NB228_255 := n13_; have NB255_228 := n14_; have NB242_255 := n15_; have NB255_242 := n16_; have NB246_255 := n17_; have NB255_246 := n18_; have HB := n19_; clear n0_ n1_ n2_ n3_ n4_ n5_ n6_ n7_ n8_ n9_ n10_ n11_ n12_ n13_ n14_ n15_ n16_ n17_ n18_ n19_
   have hHeld : w56.cell? ⟨gb246, 0, none⟩ = some (.slice Ao46 t243.length co46) ∧ w56.cell? ⟨gb228, 0, none⟩ = some (.int .i64 a1_0) ∧ w56.cell? ⟨gb228, 1, none⟩ = some (.string a1_1) ∧ w56.cell? ⟨gb228, 2, none⟩ = some (.string a1_2) ∧ w56.cell? ⟨gb228, 3, none⟩ = some (.string a1_3) := hS_
   obtain ⟨Ao57, co57, eo57⟩ := Kd.R_slice HO253.out
   (first | subst eo57 | (injection eo57 with f1_ f2_ f3_; have f4_ := f1_.symm; have f5_ := f3_.symm; clear f1_ f2_ f3_; subst f4_; subst f5_))
   refine norm_ (a' := ?_) ?_ ?_
   rotate_left
   ·simp only [putAll, Act.put, sia_, scz_, scs_]
    rfl
   refine one_ (i := 8) (N := none) #[true, true, true, true, true, true, true, true, true, false] rfl rfl (one_of HT_.out (by kernel_rfl)) (by decide) (fun K hK => ?_)
   have hs58 : w56.cell? ⟨gb255, 0, none⟩ = some (.slice none 0 0) := bc_ BK255 0
   have hfs58 := blk_frozen BK255.out 0
   have hns58_0 := NB227_255.out
   have hns58_1 := NB228_255.out
   have hns58_2 := NB242_255.out
   have hns58_3 := NB246_255.out
   have hms58_0 := NB255_227.out
   have hms58_1 := NB255_228.out
   have hms58_2 := NB255_242.out
   have hms58_3 := NB255_246.out
   refine skip_ (w1 := ?_) (by rfl) rfl ?_ ?_
   rotate_left
   ·go_simp
    rfl
   refine hK.out _ _ ⟨((cell_far (p := ⟨gb255, _, none⟩) NB246_255.out _).trans (hHeld.1)), ((cell_far (p := ⟨gb255, _, none⟩) NB228_255.out _).trans (hHeld.2.1)), ((cell_far (p := ⟨gb255, _, none⟩) NB228_255.out _).trans (hHeld.2.2.1)), ((cell_far (p := ⟨gb255, _, none⟩) NB228_255.out _).trans (hHeld.2.2.2.1)), ((cell_far (p := ⟨gb255, _, none⟩) NB228_255.out _).trans (hHeld.2.2.2.2))⟩ (fun hHeld => ?_)
   clear hK K
   refine pure_ (i := 9) (N := some 10) (v := ?_) (a' := ?_) #[true, true, true, true, true, true, true, true, true, true] rfl rfl (any_of HT_.out (by kernel_rfl)) (fun _ _ _ h => h) (Or.inl ⟨by rfl, ?_⟩) ?_ ?_
   rotate_left
   ·intro w'
    go_simp
    with_reducible rfl
   rotate_left
   ·simp only [Act.put, sia_, scz_, scs_, i64_w, i32_w]
    rfl
   refine done_ (done_of HT_.out (by kernel_rfl)) ?_
   go_upto_region 11 with (fail)
   go_cut [51] (fun v51 wc => ∃ (kq : Nat) (x51_24 : Bool), v51 = .bool x51_24 ∧ Aside0 (laws_FnExactDoAct.j0 kq t241 t254 x51_24 l0_0 a1_0 a1_1 a1_2 a1_3 t238 t243 t251 = some r) ∧ Aside0 (kq ≤ k) ∧ Aside0 (Kd.R k76 76 wc w.heap.size (fun k_ => some k_ ≠ ((.slice Ao46 t243.length co46) : Value).ownBlock ∧ some k_ ≠ ((.slice Ao57 t251.length co57) : Value).ownBlock) (.slice Ao40 t238.length co40) t238) ∧ Aside0 (Kd.R k76 76 wc w.heap.size (fun k_ => some k_ ≠ ((.slice Ao40 t238.length co40) : Value).ownBlock ∧ some k_ ≠ ((.slice Ao57 t251.length co57) : Value).ownBlock) (.slice Ao46 t243.length co46) t243) ∧ Aside0 (Kd.R k76 76 wc w.heap.size (fun k_ => some k_ ≠ ((.slice Ao40 t238.length co40) : Value).ownBlock ∧ some k_ ≠ ((.slice Ao46 t243.length co46) : Value).ownBlock) (.slice Ao57 t251.length co57) t251) ∧ Aside0 (wc.heap[gb227]? = some (.cells #[(.slice A0_0 l0_0.length c0_0)] 24 (0, 0))) ∧ Aside0 (wc.heap[gb228]? = some (.cells #[.int .i64 a1_0, .string a1_1, .string a1_2, .string a1_3] 26 (0, 0))) ∧ Aside0 (wc.heap[gb242]? = some (.cells #[(.slice Ao40 t238.length co40)] 31 (0, 0))) ∧ Aside0 (wc.heap[gb246]? = some (.cells #[(.slice Ao46 t243.length co46)] 31 (0, 0))) ∧ Aside0 (wc.heap[gb255]? = some (.cells #[(.slice Ao57 t251.length co57)] 31 (0, 0))) ∧ Aside0 (Below w.heap.size w wc))
   case first =>
    have H := HC25.out
    clear HC25
    replace H := Option.bind_eq_some_iff.mp H
    obtain ⟨t256, A590, H⟩ := H
    replace H : (if t256 = true then (laws_FnExactDoAct.j0 k t241 t254 (t254 != t241) l0_0 a1_0 a1_1 a1_2 a1_3 t238 t243 t251) else (none)) = some r := H
    have A59 := Aside0.mk A590
    clear A590
    by_cases c60 : t256 = true
    ·subst c60
     have H1 : (laws_FnExactDoAct.j0 k t241 t254 (t254 != t241) l0_0 a1_0 a1_1 a1_2 a1_3 t238 t243 t251) = some r := by rw [if_pos rfl] at H; exact H
     clear H
     have H := H1
     clear H1
     have H' := Aside0.mk H
     clear H
     have hnb61 := NB255_227.out
     have hnc61 := NB227_255.out
     have hnb62 := NB255_228.out
     have hnc62 := NB228_255.out
     have hnb63 := NB255_242.out
     have hnc63 := NB242_255.out
     have hnb64 := NB255_246.out
     have hnc64 := NB246_255.out
     have hcz65_0 : w56.cell? ⟨gb255, 0, none⟩ = some (.slice none 0 0) := bc_ BK255 0
     have hfz65_0 := blk_frozen BK255.out 0
     have hnb66 := NB242_227.out
     have hnc66 := NB227_242.out
     have hnb67 := NB242_228.out
     have hnc67 := NB228_242.out
     have hnb68 := NB242_246.out
     have hnc68 := NB246_242.out
     have hcz69_0 : w56.cell? ⟨gb242, 0, none⟩ = some (.slice Ao40 t238.length co40) := bc_ BK242 0
     have hfz69_0 := blk_frozen BK242.out 0
     go_wp2_with (first | ((with_reducible refine gate_callee (f := 14) rfl ?_); refine goesL_ (some 45) rfl rfl Try.func14 (by kernel_rfl) rfl #[.agg #[.slice Ao57 t251.length co57], .agg #[.slice Ao40 t238.length co40]] rfl ga_ ?_; (with_reducible refine (laws_eqDisk.calls k _ _ t251 _ _ t238 true _ ?side1 ?side2 ?side3 ?side4 A59.out).mono ?_); (case side1 => refine (Kd.R_reads' (e := 76) (base := w.heap.size) (ok := fun k_ => (some k_ ≠ (v232 : Value).ownBlock ∧ (some k_ ≠ (.slice Ao40 t238.length co40 : Value).ownBlock ∧ some k_ ≠ (.slice Ao46 t243.length co46 : Value).ownBlock))) (n := t251.length) (c := co57) ?_).2.2; exact (by (with_reducible repeat (first | apply Kd.R_alloc | apply Kd.R_drewN | apply Kd.R_drew)); exact (Kd.R_mono (Kd.R_far (p := ⟨gb255, 0, none⟩) (Kd.R_types HO253.out BK255.out (by decide)) (fun _ hk => hk.2) (.slice Ao57 t251.length co57)) (fun _ h_ => h_.1)))); (case side2 => exact (Kd.R_reads' HO253.out).2.1); (case side3 => refine (Kd.R_reads' (e := 76) (base := w.heap.size) (ok := fun k_ => (some k_ ≠ (v232 : Value).ownBlock ∧ (some k_ ≠ (.slice Ao46 t243.length co46 : Value).ownBlock ∧ some k_ ≠ (.slice Ao57 t251.length co57 : Value).ownBlock))) (n := t238.length) (c := co40) ?_).2.2; exact (by (with_reducible repeat (first | apply Kd.R_alloc | apply Kd.R_drewN | apply Kd.R_drew)); exact (Kd.R_mono (Kd.R_far (p := ⟨gb255, 0, none⟩) (Kd.R_types HO240.out BK255.out (by decide)) (fun _ hk => hk.2) (.slice Ao57 t251.length co57)) (fun _ h_ => h_.1)))); (case side4 => exact (Kd.R_reads' HO240.out).2.1); rintro e w70 ⟨rfl, hb⟩; refine ⟨_, rfl, ?_⟩; replace HO233 := mk_ (Kd.R_below (by (with_reducible repeat (first | apply Kd.R_alloc | apply Kd.R_drewN | apply Kd.R_drew)); exact (Kd.R_mono (Kd.R_far (p := ⟨gb255, 0, none⟩) (Kd.R_types HO233.out BK255.out (by decide)) (fun _ hk => hk.2) (.slice Ao57 t251.length co57)) (fun _ h_ => h_.1))) hb); replace HO240 := mk_ (Kd.R_below (by (with_reducible repeat (first | apply Kd.R_alloc | apply Kd.R_drewN | apply Kd.R_drew)); exact (Kd.R_mono (Kd.R_far (p := ⟨gb255, 0, none⟩) (Kd.R_types HO240.out BK255.out (by decide)) (fun _ hk => hk.2) (.slice Ao57 t251.length co57)) (fun _ h_ => h_.1))) hb); replace HO245 := mk_ (Kd.R_below (by (with_reducible repeat (first | apply Kd.R_alloc | apply Kd.R_drewN | apply Kd.R_drew)); exact (Kd.R_mono (Kd.R_far (p := ⟨gb255, 0, none⟩) (Kd.R_types HO245.out BK255.out (by decide)) (fun _ hk => hk.2) (.slice Ao57 t251.length co57)) (fun _ h_ => h_.1))) hb); replace HO253 := mk_ (Kd.R_below (by (with_reducible repeat (first | apply Kd.R_alloc | apply Kd.R_drewN | apply Kd.R_drew)); exact (Kd.R_mono (Kd.R_far (p := ⟨gb255, 0, none⟩) (Kd.R_types HO253.out BK255.out (by decide)) (fun _ hk => hk.2) (.slice Ao57 t251.length co57)) (fun _ h_ => h_.1))) hb); replace BK227 := mk_ (blk_below (g := gb227) (o := .cells #[.slice A0_0 l0_0.length c0_0] 24 (0, 0)) bf_ hb); replace BK228 := mk_ (blk_below (g := gb228) (o := .cells #[.int .i64 a1_0, .string a1_1, .string a1_2, .string a1_3] 26 (0, 0)) bf_ hb); replace BK242 := mk_ (blk_below (g := gb242) (o := .cells #[.slice Ao40 t238.length co40] 31 (0, 0)) bf_ hb); replace BK246 := mk_ (blk_below (g := gb246) (o := .cells #[.slice Ao46 t243.length co46] 31 (0, 0)) bf_ hb); replace BK255 := mk_ (blk_below (g := gb255) (o := .cells #[.slice Ao57 t251.length co57] 31 (0, 0)) bu_ hb); replace HB := bs_ HB hb; (try clear hb); (try clear hk)))
     go_meet
     case rel => exact ⟨_, ((t254 != t241)), (by first | rfl | (simp; done) | (simp [*]; done)), H', ⟨by first | omega | exact Nat.le_refl _⟩, ⟨by (with_reducible repeat (first | apply Kd.R_alloc | apply Kd.R_drewN | apply Kd.R_drew)); exact Kd.R_mono HO240.out (fun _ hk => ⟨hk.2.1, hk.2.2⟩)⟩, ⟨by (with_reducible repeat (first | apply Kd.R_alloc | apply Kd.R_drewN | apply Kd.R_drew)); exact Kd.R_mono HO245.out (fun _ hk => ⟨hk.2.1, hk.2.2⟩)⟩, ⟨by (with_reducible repeat (first | apply Kd.R_alloc | apply Kd.R_drewN | apply Kd.R_drew)); exact Kd.R_mono HO253.out (fun _ hk => ⟨hk.2.1, hk.2.2⟩)⟩, ⟨bf_⟩, ⟨bf_⟩, ⟨bf_⟩, ⟨bf_⟩, ⟨bf_⟩, ⟨bw_ HB⟩⟩
    ·replace c60 := Bool.eq_false_iff.mpr c60
     subst c60
     have H1 : (none) = some r := by rw [if_neg (show ¬ (false = true) by decide)] at H; exact H
     clear H
     have H := H1
     clear H1
     exact absurd H (by simp)
   case rest =>
    clear HC25
    try clear c1
    try clear p2
    try clear c6
    try clear c12
    try clear c13
    try clear c14
    try clear c60
    try clear c61
    try clear c62
    try clear c63
    try clear c64
    try clear c66
    try clear c67
    try clear c68
    try clear hcz65_0
    try clear hcz69_0
    try clear hfz65_0
    try clear hfz69_0
    obtain ⟨kq, x51_24, rfl, HA, HJ24, HO_243000, HO_247000, HO_256000, BK227, BK228, BK242, BK246, BK255, HB⟩ := hcut
    cases kq with
    | zero => exact absurd HA.out (by simp [laws_FnExactDoAct.j0])
    | succ kj24 =>
     have H := HA.out
     clear HA
     simp only [laws_FnExactDoAct.j0] at H
     by_cases c71 : x51_24 = true
     ·subst c71
      have H1 : (none) = some r := by rw [if_pos rfl] at H; exact H
      clear H
      have H := H1
      clear H1
      exact absurd H (by simp)
     ·replace c71 := Bool.eq_false_iff.mpr c71
      subst c71
      have H1 : ((laws_toDisk.f kj24 l0_0).bind fun t257 => ((laws_eqDisk.f kj24 t243 t257).bind fun t260 => (if t260 = true then ((laws_markDisk.f kj24 t243 1).bind fun bt261 => (if bt261.1 < 0 then (none) else ((laws_eqDisk.f kj24 t251 t238).bind fun t263 => (if t263 = true then (laws_FnExactDoAct.j1 kj24 t241 (t254 != t241) l0_0 a1_0 a1_1 a1_2 a1_3 t238 t251) else (none))))) else (none)))) = some r := by rw [if_neg (show ¬ (false = true) by decide)] at H; exact H
      clear H
      have H := H1
      clear H1
      replace H := Option.bind_eq_some_iff.mp H
      obtain ⟨t257, A720, H⟩ := H
      replace H : ((laws_eqDisk.f kj24 t243 t257).bind fun t260 => (if t260 = true then ((laws_markDisk.f kj24 t243 1).bind fun bt261 => (if bt261.1 < 0 then (none) else ((laws_eqDisk.f kj24 t251 t238).bind fun t263 => (if t263 = true then (laws_FnExactDoAct.j1 kj24 t241 (t254 != t241) l0_0 a1_0 a1_1 a1_2 a1_3 t238 t251) else (none))))) else (none))) = some r := H
      have A72 := Aside0.mk A720
      clear A720
      replace H := Option.bind_eq_some_iff.mp H
      obtain ⟨t260, A730, H⟩ := H
      replace H : (if t260 = true then ((laws_markDisk.f kj24 t243 1).bind fun bt261 => (if bt261.1 < 0 then (none) else ((laws_eqDisk.f kj24 t251 t238).bind fun t263 => (if t263 = true then (laws_FnExactDoAct.j1 kj24 t241 (t254 != t241) l0_0 a1_0 a1_1 a1_2 a1_3 t238 t251) else (none))))) else (none)) = some r := H
      have A73 := Aside0.mk A730
      clear A730
      by_cases c74 : t260 = true
      ·subst c74
       have H1 : ((laws_markDisk.f kj24 t243 1).bind fun bt261 => (if bt261.1 < 0 then (none) else ((laws_eqDisk.f kj24 t251 t238).bind fun t263 => (if t263 = true then (laws_FnExactDoAct.j1 kj24 t241 (t254 != t241) l0_0 a1_0 a1_1 a1_2 a1_3 t238 t251) else (none))))) = some r := by rw [if_pos rfl] at H; exact H
       clear H
       have H := H1
       clear H1
       replace H := Option.bind_eq_some_iff.mp H
       obtain ⟨⟨t261, t262⟩, A750, H⟩ := H
       replace H : (if t261 < 0 then (none) else ((laws_eqDisk.f kj24 t251 t238).bind fun t263 => (if t263 = true then (laws_FnExactDoAct.j1 kj24 t241 (t254 != t241) l0_0 a1_0 a1_1 a1_2 a1_3 t238 t251) else (none)))) = some r := H
       have A75 := Aside0.mk A750
       clear A750
       have HC76 := Aside0.mk H
       clear H
       try go_wp2
       have n0_ := mk_ (Kd.R_drew HO_243000.out)
       have n1_ := mk_ (Kd.R_drew HO_247000.out)
       have n2_ := mk_ (Kd.R_drew HO_256000.out)
       have n3_ := mk_ (blk_drew BK227.out)
       have n4_ := mk_ (blk_drew BK228.out)
       have n5_ := mk_ (blk_drew BK242.out)
       have n6_ := mk_ (blk_drew BK246.out)
       have n7_ := mk_ (blk_drew BK255.out)
       have n8_ := mk_ (below_drew1 HB.out)
       clear HO_243000; clear HO_247000; clear HO_256000; clear BK227; clear BK228; clear BK242; clear BK246; clear BK255; clear HB; have HO_243000 := n0_; have HO_247000 := n1_; have HO_256000 := n2_; have BK227 := n3_; have BK228 := n4_; have BK242 := n5_; have BK246 := n6_; have BK255 := n7_; have HB := n8_; clear n0_ n1_ n2_ n3_ n4_ n5_ n6_ n7_ n8_
       refine start_ (n := 5) (S := fun w' => w'.cell? ⟨gb246, 0, none⟩ = some (.slice Ao46 t243.length co46) ∧ w'.cell? ⟨gb227, 0, none⟩ = some (.slice A0_0 l0_0.length c0_0)) (ds := []) #[false, false, false, false, false] (by kernel_rfl) rfl rfl ⟨bc_ BK246 0, bc_ BK227 0⟩ (fun hHeld => ?_)
       generalize wc.drew = w77 at HO_243000 HO_247000 HO_256000 BK227 BK228 BK242 BK246 BK255 HB hHeld ⊢
       refine take_ (i := 0) (N := some 52) (v := ?_) (a' := ?_) #[true, false, false, false, false] rfl rfl (by kernel_rfl) (fun _ _ _ h => h) (Or.inl ⟨by rfl, ?_⟩) hHeld ?_ ?_
       rotate_left
       ·rintro w' ⟨s0, s1⟩
        go_simp
        with_reducible rfl
       rotate_left
       ·simp only [Act.put, sia_, scz_, scs_, i64_w, i32_w]
        rfl
       refine take_ (i := 1) (N := some 53) (v := ?_) (a' := ?_) #[true, true, false, false, false] rfl rfl (by kernel_rfl) (fun _ _ _ h => h) (Or.inl ⟨by rfl, ?_⟩) hHeld ?_ ?_
       rotate_left
       ·rintro w' ⟨s0, s1⟩
        go_simp
        with_reducible rfl
       rotate_left
       ·simp only [Act.put, sia_, scz_, scs_, i64_w, i32_w]
        rfl
       refine one_ (i := 2) (N := some 54) #[true, true, true, false, false] rfl rfl (by kernel_rfl) (by decide) (fun K hK => ?_)
       refine goes_ Try.func11 (by kernel_rfl) rfl #[.agg #[.slice A0_0 l0_0.length c0_0]] (by rfl) rfl rfl ga_ ?_
       with_reducible refine (laws_toDisk.calls kj24 _ _ l0_0 t257 _ ?side1 ?side2 A72.out).mono ?_
       (case side1 => repeat (first | exact (Kd.C_below HR0_0.out HB.out) | (with_reducible refine Kd.C_alloc ?_ _) | (with_reducible refine Kd.C_drewN ?_ _) | (with_reducible refine Kd.C_drew ?_)))
       (case side2 => exact HC0_0.out)
       rintro e w78 ⟨v258, rfl, ho0, hb⟩
       refine ⟨_, rfl, ?_⟩
       have n0_ := mk_ (Kd.R_elder' (rp_ HO_243000) (Kd.R_base ho0) hb)
       have n1_ := mk_ (Kd.R_elder' (rp_ HO_247000) (Kd.R_base ho0) hb)
       have n2_ := mk_ (Kd.R_elder' (rp_ HO_256000) (Kd.R_base ho0) hb)
       have n3_ := mk_ (Kd.R_lower (Kd.R_new' (Kd.R_new' (Kd.R_new' ho0 (Kd.R_lt (rp_ HO_243000))) (Kd.R_lt (rp_ HO_247000))) (Kd.R_lt (rp_ HO_256000))) (below_size (bw_ HB)))
       have n4_ := bb_ BK227 hb; have n5_ := bb_ BK228 hb; have n6_ := bb_ BK242 hb; have n7_ := bb_ BK246 hb; have n8_ := bb_ BK255 hb
       have n9_ := bs_ HB hb
       clear HO_243000; clear HO_247000; clear HO_256000; clear BK227; clear BK228; clear BK242; clear BK246; clear BK255; clear HB; have HO_243000 := n0_; have HO_247000 := n1_; have HO_256000 := n2_; have HO259 := n3_; have BK227 := n4_; have BK228 := n5_; have BK242 := n6_; have BK246 := n7_; have BK255 := n8_; have HB := n9_; clear n0_ n1_ n2_ n3_ n4_ n5_ n6_ n7_ n8_ n9_; (try clear hb); (try clear hb2); (try clear hk); (try clear hi); (try clear ho0)
       obtain ⟨Ao79, co79, eo79⟩ := Kd.R_slice HO259.out
       (first | subst eo79 | (injection eo79 with f1_ f2_ f3_; have f4_ := f1_.symm; have f5_ := f3_.symm; clear f1_ f2_ f3_; subst f4_; subst f5_))
       refine hK.out _ _ ⟨bc_ BK246 0, bc_ BK227 0⟩ (fun hHeld => ?_)
       clear hK K
       refine norm_ (a' := ?_) ?_ ?_
       rotate_left
       ·show Act.put _ (some 54) _ = _
        simp only [Act.put, sia_, scz_, scs_, i64_w, i32_w]
        rfl
       refine one_ (i := 3) (N := some 55) #[true, true, true, true, false] rfl rfl (by kernel_rfl) (by decide) (fun K hK => ?_)
       refine goes_ Try.func14 (by kernel_rfl) rfl #[.agg #[.slice Ao46 t243.length co46], .agg #[.slice Ao79 t257.length co79]] (by rfl) rfl rfl ga_ ?_
       with_reducible refine (laws_eqDisk.calls kj24 _ _ t243 _ _ t257 true _ ?side1 ?side2 ?side3 ?side4 A73.out).mono ?_
       (case side1 => repeat (first | exact (Kd.R_reads' HO_247000.out).2.2 | (with_reducible refine Kd.C_alloc ?_ _) | (with_reducible refine Kd.C_drewN ?_ _) | (with_reducible refine Kd.C_drew ?_)))
       (case side2 => exact (Kd.R_reads' HO_247000.out).2.1)
       (case side3 => repeat (first | exact (Kd.R_reads' HO259.out).2.2 | (with_reducible refine Kd.C_alloc ?_ _) | (with_reducible refine Kd.C_drewN ?_ _) | (with_reducible refine Kd.C_drew ?_)))
       (case side4 => exact (Kd.R_reads' HO259.out).2.1)
       rintro e w80 ⟨rfl, hb⟩
       refine ⟨_, rfl, ?_⟩
       have n0_ := rb_ HO_243000 hb
       have n1_ := rb_ HO_247000 hb
       have n2_ := rb_ HO_256000 hb
       have n3_ := rb_ HO259 hb
       have n4_ := bb_ BK227 hb; have n5_ := bb_ BK228 hb; have n6_ := bb_ BK242 hb; have n7_ := bb_ BK246 hb; have n8_ := bb_ BK255 hb
       have n9_ := bs_ HB hb
       clear HO_243000; clear HO_247000; clear HO_256000; clear HO259; clear BK227; clear BK228; clear BK242; clear BK246; clear BK255; clear HB; have HO_243000 := n0_; have HO_247000 := n1_; have HO_256000 := n2_; have HO259 := n3_; have BK227 := n4_; have BK228 := n5_; have BK242 := n6_; have BK246 := n7_; have BK255 := n8_; have HB := n9_; clear n0_ n1_ n2_ n3_ n4_ n5_ n6_ n7_ n8_ n9_; (try clear hb); (try clear hb2); (try clear hk); (try clear hi)
       refine hK.out _ _ ⟨bc_ BK246 0, bc_ BK227 0⟩ (fun hHeld => ?_)
       clear hK K
       refine norm_ (a' := ?_) ?_ ?_
       rotate_left
       ·show Act.put _ (some 55) _ = _
        simp only [Act.put, sia_, scz_, scs_, i64_w, i32_w]
        rfl
       refine pure_ (i := 4) (N := some 56) (v := ?_) (a' := ?_) #[true, true, true, true, true] rfl rfl (by kernel_rfl) (fun _ _ _ h => h) (Or.inl ⟨by rfl, ?_⟩) ?_ ?_
       rotate_left
       ·intro w'
        go_simp
        with_reducible rfl
       rotate_left
       ·simp only [Act.put, sia_, scz_, scs_, i64_w, i32_w]
        rfl
       refine done_ (by kernel_rfl) ?_
       have hnb81 := NB246_227.out
       have hnc81 := NB227_246.out
       have hnb82 := NB246_228.out
       have hnc82 := NB228_246.out
       have hnb83 := NB246_242.out
       have hnc83 := NB242_246.out
       have hnb84 := NB246_255.out
       have hnc84 := NB255_246.out
       have hcz85_0 : w80.cell? ⟨gb246, 0, none⟩ = some (.slice Ao46 t243.length co46) := bc_ BK246 0
       have hfz85_0 := blk_frozen BK246.out 0
       go_upto_region 17 with (first | ((with_reducible refine gate_callee (f := 15) rfl ?_); refine goesL_ (some 59) rfl rfl Try.func15 (by kernel_rfl) rfl #[.agg #[.slice Ao46 t243.length co46], .int .i64 1] rfl ga_ ?_; (with_reducible refine (laws_markDisk.calls kj24 (fun k_ => some k_ = (.slice Ao46 t243.length co46 : Value).ownBlock) (.slice Ao46 t243.length co46) t243 1 t261 t262 w _ ?side1 ?side2 A75.out).mono ?_); (case side1 => exact bw_ HB); (case side2 => exact Kd.R_tight rfl HO_247000.out); rintro e w86 ⟨rfl, hy0, hb, hkp⟩; refine ⟨_, rfl, ?_⟩; have n0_ := mk_ (Kd.R_mono (ok' := fun k_ => some k_ ≠ (.slice Ao46 t243.length co46 : Value).ownBlock ∧ some k_ ≠ (.slice Ao57 t251.length co57 : Value).ownBlock ∧ some k_ ≠ (.slice Ao79 t257.length co79 : Value).ownBlock) (Kd.R_keptB (HO_243000.out) hkp (fun k_ hk_ hs_ => (hk_.1.1) hs_)) (fun k_ hk_ => ⟨hk_.1.1.1, hk_.1.1.2, hk_.1.2⟩)); have n1_ := mk_ (Kd.R_reok rfl hy0 (fun k_ e_ => HO_247000.out.1 k_ e_)); have n2_ := mk_ (Kd.R_mono (ok' := fun k_ => some k_ ≠ (.slice Ao40 t238.length co40 : Value).ownBlock ∧ some k_ ≠ (.slice Ao46 t243.length co46 : Value).ownBlock ∧ some k_ ≠ (.slice Ao79 t257.length co79 : Value).ownBlock) (Kd.R_keptB (HO_256000.out) hkp (fun k_ hk_ hs_ => (hk_.1.2) hs_)) (fun k_ hk_ => ⟨hk_.1.1.1, hk_.1.1.2, hk_.1.2⟩)); have n3_ := mk_ (blk_kept (bp_ BK227) hkp (fun hs_ => (fun e_ => (Kd.R_ne HO_247000.out BK227.out (by decide)) e_) hs_)); have n4_ := mk_ (blk_kept (bp_ BK228) hkp (fun hs_ => (fun e_ => (Kd.R_ne HO_247000.out BK228.out (by decide)) e_) hs_)); have n5_ := mk_ (blk_kept (bp_ BK242) hkp (fun hs_ => (fun e_ => (Kd.R_ne HO_247000.out BK242.out (by decide)) e_) hs_)); have n6_ := mk_ (blk_kept (bp_ BK246) hkp (fun hs_ => (fun e_ => (Kd.R_ne HO_247000.out BK246.out (by decide)) e_) hs_)); have n7_ := mk_ (blk_kept (bp_ BK255) hkp (fun hs_ => (fun e_ => (Kd.R_ne HO_247000.out BK255.out (by decide)) e_) hs_)); have n8_ := mk_ (Kd.R_mono (ok' := fun k_ => some k_ ≠ (.slice Ao40 t238.length co40 : Value).ownBlock ∧ some k_ ≠ (.slice Ao46 t243.length co46 : Value).ownBlock ∧ some k_ ≠ (.slice Ao57 t251.length co57 : Value).ownBlock) (Kd.R_keptB (HO259.out) hkp (fun k_ hk_ hs_ => (hk_.1.2) hs_)) (fun k_ hk_ => ⟨hk_.1.1.1.2, hk_.1.1.2, hk_.1.2⟩)); have n9_ := mk_ (hb); clear HO_243000; clear HO_247000; clear HO_256000; clear BK227; clear BK228; clear BK242; clear BK246; clear BK255; clear HO259; clear HB; have HO_243000 := n0_; have HO_247000 := n1_; have HO_256000 := n2_; have BK227 := n3_; have BK228 := n4_; have BK242 := n5_; have BK246 := n6_; have BK255 := n7_; have HO259 := n8_; have HB := n9_; clear n0_ n1_ n2_ n3_ n4_ n5_ n6_ n7_ n8_ n9_; (try clear hb); (try clear hkp); (try clear hy0)))
       (try simp only [Act.put, sia_, scz_, scs_])
       go_cut [72] (fun v72 wc => ∃ (kq : Nat) (x72_75 : Bool), v72 = .bool x72_75 ∧ Aside0 (laws_FnExactDoAct.j1 kq t241 x72_75 l0_0 a1_0 a1_1 a1_2 a1_3 t238 t251 = some r) ∧ Aside0 (kq ≤ kj24) ∧ Aside0 (Kd.R k76 76 wc w.heap.size (fun k_ => some k_ ≠ ((.slice Ao46 t243.length co46) : Value).ownBlock ∧ some k_ ≠ ((.slice Ao57 t251.length co57) : Value).ownBlock) (.slice Ao40 t238.length co40) t238) ∧ Aside0 (Kd.R k76 76 wc w.heap.size (fun k_ => some k_ ≠ ((.slice Ao40 t238.length co40) : Value).ownBlock ∧ some k_ ≠ ((.slice Ao57 t251.length co57) : Value).ownBlock) (.slice Ao46 t243.length co46) t262) ∧ Aside0 (Kd.R k76 76 wc w.heap.size (fun k_ => some k_ ≠ ((.slice Ao40 t238.length co40) : Value).ownBlock ∧ some k_ ≠ ((.slice Ao46 t243.length co46) : Value).ownBlock) (.slice Ao57 t251.length co57) t251) ∧ Aside0 (wc.heap[gb227]? = some (.cells #[(.slice A0_0 l0_0.length c0_0)] 24 (0, 0))) ∧ Aside0 (wc.heap[gb228]? = some (.cells #[.int .i64 a1_0, .string a1_1, .string a1_2, .string a1_3] 26 (0, 0))) ∧ Aside0 (wc.heap[gb242]? = some (.cells #[(.slice Ao40 t238.length co40)] 31 (0, 0))) ∧ Aside0 (wc.heap[gb246]? = some (.cells #[(.slice Ao46 t243.length co46)] 31 (0, 0))) ∧ Aside0 (wc.heap[gb255]? = some (.cells #[(.slice Ao57 t251.length co57)] 31 (0, 0))) ∧ Aside0 (Below w.heap.size w wc))
       case first =>
        have H := HC76.out
        clear HC76
        by_cases c87 : t261 < 0
        ·rw [if_pos c87] at H
         exact absurd H (by simp)
        ·rw [if_neg c87] at H
         have c87b0 : decide (t261 < 0) = false := decide_eq_false c87
         clear c87
         (first | rw [c87b0] | (simp only [i64_w, i32_w]; rw [c87b0]) | skip)
         replace H := Option.bind_eq_some_iff.mp H
         obtain ⟨t263, A880, H⟩ := H
         replace H : (if t263 = true then (laws_FnExactDoAct.j1 kj24 t241 (t254 != t241) l0_0 a1_0 a1_1 a1_2 a1_3 t238 t251) else (none)) = some r := H
         have A88 := Aside0.mk A880
         clear A880
         by_cases c89 : t263 = true
         ·subst c89
          have H1 : (laws_FnExactDoAct.j1 kj24 t241 (t254 != t241) l0_0 a1_0 a1_1 a1_2 a1_3 t238 t251) = some r := by rw [if_pos rfl] at H; exact H
          clear H
          have H := H1
          clear H1
          have H' := Aside0.mk H
          clear H
          have hnb90 := NB255_227.out
          have hnc90 := NB227_255.out
          have hnb91 := NB255_228.out
          have hnc91 := NB228_255.out
          have hnb92 := NB255_242.out
          have hnc92 := NB242_255.out
          have hnb93 := NB255_246.out
          have hnc93 := NB246_255.out
          have hcz94_0 : w86.cell? ⟨gb255, 0, none⟩ = some (.slice Ao57 t251.length co57) := bc_ BK255 0
          have hfz94_0 := blk_frozen BK255.out 0
          have hnb95 := NB242_227.out
          have hnc95 := NB227_242.out
          have hnb96 := NB242_228.out
          have hnc96 := NB228_242.out
          have hnb97 := NB242_246.out
          have hnc97 := NB246_242.out
          have hcz98_0 : w86.cell? ⟨gb242, 0, none⟩ = some (.slice Ao40 t238.length co40) := bc_ BK242 0
          have hfz98_0 := blk_frozen BK242.out 0
          go_wp2_with (first | (go_at_call 14; (with_reducible refine (laws_eqDisk.calls kj24 _ _ t251 _ _ t238 true _ ?side1 ?side2 ?side3 ?side4 A88.out).mono ?_); (case side1 => repeat (first | exact (Kd.R_reads' HO_256000.out).2.2 | (with_reducible refine Kd.C_alloc ?_ _) | (with_reducible refine Kd.C_drewN ?_ _) | (with_reducible refine Kd.C_drew ?_))); (case side2 => exact (Kd.R_reads' HO_256000.out).2.1); (case side3 => repeat (first | exact (Kd.R_reads' HO_243000.out).2.2 | (with_reducible refine Kd.C_alloc ?_ _) | (with_reducible refine Kd.C_drewN ?_ _) | (with_reducible refine Kd.C_drew ?_))); (case side4 => exact (Kd.R_reads' HO_243000.out).2.1); rintro e w99 ⟨rfl, hb⟩; replace HO_243000 := rb_ HO_243000 hb; replace HO_247000 := rb_ HO_247000 hb; replace HO_256000 := rb_ HO_256000 hb; replace HO259 := rb_ HO259 hb; replace BK227 := bb_ BK227 hb; replace BK228 := bb_ BK228 hb; replace BK242 := bb_ BK242 hb; replace BK246 := bb_ BK246 hb; replace BK255 := bb_ BK255 hb; replace HB := bs_ HB hb; (try clear hb)))
          go_meet
          case rel => exact ⟨_, ((t254 != t241)), (by first | rfl | (simp; done) | (simp [*]; done)), H', ⟨by have := HJ24.out; first | omega | exact Nat.le_refl _⟩, ⟨by (with_reducible repeat (first | apply Kd.R_alloc | apply Kd.R_drewN | apply Kd.R_drew)); exact Kd.R_mono HO_243000.out (fun _ hk => ⟨hk.1, hk.2.1⟩)⟩, ⟨by (with_reducible repeat (first | apply Kd.R_alloc | apply Kd.R_drewN | apply Kd.R_drew)); exact Kd.R_mono HO_247000.out (fun _ hk => ⟨hk.1.1, hk.1.2⟩)⟩, ⟨by (with_reducible repeat (first | apply Kd.R_alloc | apply Kd.R_drewN | apply Kd.R_drew)); exact Kd.R_mono HO_256000.out (fun _ hk => ⟨hk.1, hk.2.1⟩)⟩, ⟨bf_⟩, ⟨bf_⟩, ⟨bf_⟩, ⟨bf_⟩, ⟨bf_⟩, ⟨bw_ HB⟩⟩
         ·replace c89 := Bool.eq_false_iff.mpr c89
          subst c89
          have H1 : (none) = some r := by rw [if_neg (show ¬ (false = true) by decide)] at H; exact H
          clear H
          have H := H1
          clear H1
          exact absurd H (by simp)
       case rest =>
        clear HC76
        try clear c1
        try clear p2
        try clear c6
        try clear c7
        try clear c8
        try clear c9
        try clear c11
        try clear c12
        try clear c13
        try clear c14
        try clear c15
        try clear c60
        try clear c61
        try clear c62
        try clear c63
        try clear c64
        try clear c66
        try clear c67
        try clear c68
        try clear c71
        try clear c74
        try clear c81
        try clear c82
        try clear c83
        try clear c84
        try clear c87
        try clear c87b0
        try clear c89
        try clear c90
        try clear c91
        try clear c92
        try clear c93
        try clear c95
        try clear c96
        try clear c97
        try clear hcz65_0
        try clear hcz69_0
        try clear hcz85_0
        try clear hcz94_0
        try clear hcz98_0
        try clear hfz65_0
        try clear hfz69_0
        try clear hfz85_0
        try clear hfz94_0
        try clear hfz98_0
        try clear p2
        obtain ⟨kq, x72_75, rfl, HA, HJ75, HO_243000, HO_247000, HO_256000, BK227, BK228, BK242, BK246, BK255, HB⟩ := hcut
        have hl247000_75 := (Kd.R_reads' HO_247000.out).1
        rw [hl247000_75] at HO_247000
        (try simp only [hl247000_75])
        (try simp only [hl247000_75] at BK227)
        (try simp only [hl247000_75] at BK228)
        (try simp only [hl247000_75] at BK242)
        (try simp only [hl247000_75] at BK246)
        (try simp only [hl247000_75] at BK255)
        (try simp only [hl247000_75] at HO_243000)
        (try simp only [hl247000_75] at HO_256000)
        cases kq with
        | zero => exact absurd HA.out (by simp [laws_FnExactDoAct.j1])
        | succ kj75 =>
         have H := HA.out
         clear HA
         simp only [laws_FnExactDoAct.j1] at H
         by_cases c100 : x72_75 = true
         ·subst c100
          have H1 : (none) = some r := by rw [if_pos rfl] at H; exact H
          clear H
          have H := H1
          clear H1
          exact absurd H (by simp)
         ·replace c100 := Bool.eq_false_iff.mpr c100
          subst c100
          have H1 : ((laws_markDisk.f kj75 t251 1).bind fun bt264 => ((laws_heldDisk.f kj75 bt264.2 1).bind fun t266 => (if t266 < 0 then (none) else (if t266 = bt264.1 then ((laws_toDisk.f kj75 l0_0).bind fun t267 => ((laws_toAct.f a1_0 a1_1 a1_2 a1_3).bind fun bt270 => ((impl_DoAct.f kj75 t267 bt270.1 bt270.2.1 bt270.2.2.1 bt270.2.2.2).bind fun bt274 => ((laws_eqDisk.f kj75 bt274.1 t238).bind fun t279 => (if t279 = true then (laws_FnExactDoAct.j2 kj75 bt264.1 (bt274.2 != t241) bt264.2) else (none)))))) else (none))))) = some r := by rw [if_neg (show ¬ (false = true) by decide)] at H; exact H
          clear H
          have H := H1
          clear H1
          replace H := Option.bind_eq_some_iff.mp H
          obtain ⟨⟨t264, t265⟩, A1010, H⟩ := H
          replace H : ((laws_heldDisk.f kj75 t265 1).bind fun t266 => (if t266 < 0 then (none) else (if t266 = t264 then ((laws_toDisk.f kj75 l0_0).bind fun t267 => ((laws_toAct.f a1_0 a1_1 a1_2 a1_3).bind fun bt270 => ((impl_DoAct.f kj75 t267 bt270.1 bt270.2.1 bt270.2.2.1 bt270.2.2.2).bind fun bt274 => ((laws_eqDisk.f kj75 bt274.1 t238).bind fun t279 => (if t279 = true then (laws_FnExactDoAct.j2 kj75 t264 (bt274.2 != t241) t265) else (none)))))) else (none)))) = some r := H
          have A101 := Aside0.mk A1010
          clear A1010
          replace H := Option.bind_eq_some_iff.mp H
          obtain ⟨t266, A1020, H⟩ := H
          replace H : (if t266 < 0 then (none) else (if t266 = t264 then ((laws_toDisk.f kj75 l0_0).bind fun t267 => ((laws_toAct.f a1_0 a1_1 a1_2 a1_3).bind fun bt270 => ((impl_DoAct.f kj75 t267 bt270.1 bt270.2.1 bt270.2.2.1 bt270.2.2.2).bind fun bt274 => ((laws_eqDisk.f kj75 bt274.1 t238).bind fun t279 => (if t279 = true then (laws_FnExactDoAct.j2 kj75 t264 (bt274.2 != t241) t265) else (none)))))) else (none))) = some r := H
          have A102 := Aside0.mk A1020
          clear A1020
          by_cases c103 : t266 < 0
          ·rw [if_pos c103] at H
           exact absurd H (by simp)
          ·rw [if_neg c103] at H
           have c103b0 : decide (t266 < 0) = false := decide_eq_false c103
           clear c103
           by_cases c104 : t266 = t264
           ·rw [if_pos c104] at H
            have c104b0 : (t266 == t264) = true := beq_iff_eq.mpr c104
            have c104b1 : (t266 != t264) = false := bne_eq_false_iff_eq.mpr c104
            clear c104
            replace H := Option.bind_eq_some_iff.mp H
            obtain ⟨t267, A1050, H⟩ := H
            replace H : ((laws_toAct.f a1_0 a1_1 a1_2 a1_3).bind fun bt270 => ((impl_DoAct.f kj75 t267 bt270.1 bt270.2.1 bt270.2.2.1 bt270.2.2.2).bind fun bt274 => ((laws_eqDisk.f kj75 bt274.1 t238).bind fun t279 => (if t279 = true then (laws_FnExactDoAct.j2 kj75 t264 (bt274.2 != t241) t265) else (none))))) = some r := H
            have A105 := Aside0.mk A1050
            clear A1050
            replace H := Option.bind_eq_some_iff.mp H
            obtain ⟨⟨t270, t271, t272, t273⟩, A1060, H⟩ := H
            replace H : ((impl_DoAct.f kj75 t267 t270 t271 t272 t273).bind fun bt274 => ((laws_eqDisk.f kj75 bt274.1 t238).bind fun t279 => (if t279 = true then (laws_FnExactDoAct.j2 kj75 t264 (bt274.2 != t241) t265) else (none)))) = some r := H
            have A106 := Aside0.mk A1060
            clear A1060
            replace H := Option.bind_eq_some_iff.mp H
            obtain ⟨⟨t274, t277⟩, A1070, H⟩ := H
            replace H : ((laws_eqDisk.f kj75 t274 t238).bind fun t279 => (if t279 = true then (laws_FnExactDoAct.j2 kj75 t264 (t277 != t241) t265) else (none))) = some r := H
            have A107 := Aside0.mk A1070
            clear A1070
            have HC108 := Aside0.mk H
            clear H
            have hnb109 := NB255_227.out
            have hnc109 := NB227_255.out
            have hnb110 := NB255_228.out
            have hnc110 := NB228_255.out
            have hnb111 := NB255_242.out
            have hnc111 := NB242_255.out
            have hnb112 := NB255_246.out
            have hnc112 := NB246_255.out
            have hcz113_0 : wc.cell? ⟨gb255, 0, none⟩ = some (.slice Ao57 t251.length co57) := bc_ BK255 0
            have hfz113_0 := blk_frozen BK255.out 0
            try go_wp2_with (first | ((with_reducible refine gate_callee (f := 15) rfl ?_); refine goesL_ (some 75) rfl rfl Try.func15 (by kernel_rfl) rfl #[.agg #[.slice Ao57 t251.length co57], .int .i64 1] rfl ga_ ?_; (with_reducible refine (laws_markDisk.calls kj75 (fun k_ => some k_ = (.slice Ao57 t251.length co57 : Value).ownBlock) (.slice Ao57 t251.length co57) t251 1 t264 t265 w _ ?side1 ?side2 A101.out).mono ?_); (case side1 => exact bw_ HB); (case side2 => exact Kd.R_tight rfl HO_256000.out); rintro e w114 ⟨rfl, hy0, hb, hkp⟩; refine ⟨_, rfl, ?_⟩; have n0_ := mk_ (Kd.R_mono (ok' := fun k_ => some k_ ≠ (.slice Ao46 t262.length co46 : Value).ownBlock ∧ some k_ ≠ (.slice Ao57 t251.length co57 : Value).ownBlock) (Kd.R_keptB (HO_243000.out) hkp (fun k_ hk_ hs_ => (hk_.2) hs_)) (fun k_ hk_ => ⟨hk_.1.1, hk_.1.2⟩)); have n1_ := mk_ (Kd.R_mono (ok' := fun k_ => some k_ ≠ (.slice Ao40 t238.length co40 : Value).ownBlock ∧ some k_ ≠ (.slice Ao57 t251.length co57 : Value).ownBlock) (Kd.R_keptB (HO_247000.out) hkp (fun k_ hk_ hs_ => (hk_.2) hs_)) (fun k_ hk_ => ⟨hk_.1.1, hk_.1.2⟩)); have n2_ := mk_ (Kd.R_reok rfl hy0 (fun k_ e_ => HO_256000.out.1 k_ e_)); have n3_ := mk_ (blk_kept (bp_ BK227) hkp (fun hs_ => (fun e_ => (Kd.R_ne HO_256000.out BK227.out (by decide)) e_) hs_)); have n4_ := mk_ (blk_kept (bp_ BK228) hkp (fun hs_ => (fun e_ => (Kd.R_ne HO_256000.out BK228.out (by decide)) e_) hs_)); have n5_ := mk_ (blk_kept (bp_ BK242) hkp (fun hs_ => (fun e_ => (Kd.R_ne HO_256000.out BK242.out (by decide)) e_) hs_)); have n6_ := mk_ (blk_kept (bp_ BK246) hkp (fun hs_ => (fun e_ => (Kd.R_ne HO_256000.out BK246.out (by decide)) e_) hs_)); have n7_ := mk_ (blk_kept (bp_ BK255) hkp (fun hs_ => (fun e_ => (Kd.R_ne HO_256000.out BK255.out (by decide)) e_) hs_)); have n8_ := mk_ (hb); clear HO_243000; clear HO_247000; clear HO_256000; clear BK227; clear BK228; clear BK242; clear BK246; clear BK255; clear HB; have HO_243000 := n0_; have HO_247000 := n1_; have HO_256000 := n2_; have BK227 := n3_; have BK228 := n4_; have BK242 := n5_; have BK246 := n6_; have BK255 := n7_; have HB := n8_; clear n0_ n1_ n2_ n3_ n4_ n5_ n6_ n7_ n8_; (try clear hb); (try clear hkp); (try clear hy0); obtain ⟨hcz115_0, hfz115_0⟩ := b1_ BK255) | ((with_reducible refine gate_callee (f := 16) rfl ?_); refine goesL_ (some 78) rfl rfl Try.func16 (by kernel_rfl) rfl #[.agg #[.slice Ao57 t265.length co57], .int .i64 1] rfl (by (try simp only [List.map_toArray, List.map_cons, List.map_nil]); first | done | (rw [show t265.length = t251.length from (Kd.R_reads' HO_256000.out).1.symm] <;> rfl) | rfl | (simp only [List.length_drop, List.length_take]; rfl)) ?_; (with_reducible refine (laws_heldDisk.calls kj75 _ _ t265 1 t266 _ ?side1 ?side2 A102.out).mono ?_); (case side1 => repeat (first | exact (Kd.R_reads' HO_256000.out).2.2 | (with_reducible refine Kd.C_alloc ?_ _) | (with_reducible refine Kd.C_drewN ?_ _) | (with_reducible refine Kd.C_drew ?_))); (case side2 => rw [show t265.length = t251.length from (Kd.R_reads' HO_256000.out).1.symm]; exact (Kd.R_reads' HO_256000.out).2.1); rintro e w116 ⟨rfl, hb⟩; refine ⟨_, rfl, ?_⟩; replace HO_243000 := rb_ HO_243000 hb; replace HO_247000 := rb_ HO_247000 hb; replace HO_256000 := rb_ HO_256000 hb; replace BK227 := bb_ BK227 hb; replace BK228 := bb_ BK228 hb; replace BK242 := bb_ BK242 hb; replace BK246 := bb_ BK246 hb; replace BK255 := bb_ BK255 hb; replace HB := bs_ HB hb; (try clear hb)))
            have n0_ := mk_ (Kd.R_drew HO_243000.out)
            have n1_ := mk_ (Kd.R_drew HO_247000.out)
            have n2_ := mk_ (Kd.R_drew HO_256000.out)
            have n3_ := mk_ (blk_drew BK227.out)
            have n4_ := mk_ (blk_drew BK228.out)
            have n5_ := mk_ (blk_drew BK242.out)
            have n6_ := mk_ (blk_drew BK246.out)
            have n7_ := mk_ (blk_drew BK255.out)
            have n8_ := mk_ (below_drew1 HB.out)
            clear HO_243000; clear HO_247000; clear HO_256000; clear BK227; clear BK228; clear BK242; clear BK246; clear BK255; clear HB; have HO_243000 := n0_; have HO_247000 := n1_; have HO_256000 := n2_; have BK227 := n3_; have BK228 := n4_; have BK242 := n5_; have BK246 := n6_; have BK255 := n7_; have HB := n8_; clear n0_ n1_ n2_ n3_ n4_ n5_ n6_ n7_ n8_
            refine start_ (n := 11) (S := fun w' => w'.cell? ⟨gb227, 0, none⟩ = some (.slice A0_0 l0_0.length c0_0) ∧ w'.cell? ⟨gb228, 0, none⟩ = some (.int .i64 a1_0) ∧ w'.cell? ⟨gb228, 1, none⟩ = some (.string a1_1) ∧ w'.cell? ⟨gb228, 2, none⟩ = some (.string a1_2) ∧ w'.cell? ⟨gb228, 3, none⟩ = some (.string a1_3)) (ds := []) #[false, false, false, false, false, false, false, false, false, false, false] (by kernel_rfl) rfl rfl ⟨bc_ BK227 0, bc_ BK228 0, bc_ BK228 1, bc_ BK228 2, bc_ BK228 3⟩ (fun hHeld => ?_); refine with_tabW laws_FnExactDoAct.tab27 laws_FnExactDoAct.bits27 (fun HT_ HW_ => ?_)
            generalize w116.drew = w117 at HO_243000 HO_247000 HO_256000 BK227 BK228 BK242 BK246 BK255 HB hHeld ⊢
            refine take_ (i := 0) (N := some 85) (v := ?_) (a' := ?_) #[true, false, false, false, false, false, false, false, false, false, false] rfl rfl (take_ofW HT_.out HW_.out (by kernel_rfl)) (fun _ _ _ h => h) (Or.inl ⟨by rfl, ?_⟩) hHeld ?_ ?_
            rotate_left
            ·rintro w' ⟨s0, s1, s2, s3, s4⟩
             go_simp
             with_reducible rfl
            rotate_left
            ·simp only [Act.put, sia_, scz_, scs_, i64_w, i32_w]
             rfl
            refine take_ (i := 2) (N := some 87) (v := ?_) (a' := ?_) #[true, false, true, false, false, false, false, false, false, false, false] rfl rfl (take_ofW HT_.out HW_.out (by kernel_rfl)) (fun _ _ _ h => h) (Or.inl ⟨by rfl, ?_⟩) hHeld ?_ ?_
            rotate_left
            ·rintro w' ⟨s0, s1, s2, s3, s4⟩
             go_simp
             with_reducible rfl
            rotate_left
            ·simp only [Act.put, sia_, scz_, scs_, i64_w, i32_w]
             rfl
            refine join_ (σ := Value × Value × Nat) 2 #[true, true, true, true, true, true, true, true, true, false, false] (fun s_ => [(86, .agg #[s_.1]), (88, .agg #[.int .i64 t270, .string t271, .string t272, .string t273]), (89, .tuple #[.agg #[s_.2.1], .bool t277]), (14, .pointer (some ⟨s_.2.2, 0, none⟩)), (84, .tuple #[.agg #[s_.2.1], .bool t277]), (90, .agg #[s_.2.1]), (91, .bool t277)]) (fun s_ w' => (w'.cell? ⟨gb227, 0, none⟩ = some (.slice A0_0 l0_0.length c0_0) ∧ w'.cell? ⟨gb228, 0, none⟩ = some (.int .i64 a1_0) ∧ w'.cell? ⟨gb228, 1, none⟩ = some (.string a1_1) ∧ w'.cell? ⟨gb228, 2, none⟩ = some (.string a1_2) ∧ w'.cell? ⟨gb228, 3, none⟩ = some (.string a1_3)) ∧ (Kd.R k76 76 w' w.heap.size (fun k_ => some k_ ≠ (s_.2.1 : Value).ownBlock ∧ some k_ ≠ (.slice Ao40 t238.length co40 : Value).ownBlock ∧ some k_ ≠ (.slice Ao46 t262.length co46 : Value).ownBlock ∧ some k_ ≠ (.slice Ao57 t251.length co57 : Value).ownBlock) s_.1 t267) ∧ (Kd.R k76 76 w' w.heap.size (fun k_ => some k_ ≠ (s_.1 : Value).ownBlock ∧ some k_ ≠ (.slice Ao40 t238.length co40 : Value).ownBlock ∧ some k_ ≠ (.slice Ao46 t262.length co46 : Value).ownBlock ∧ some k_ ≠ (.slice Ao57 t251.length co57 : Value).ownBlock) s_.2.1 t274) ∧ (Kd.R k76 76 w' w.heap.size (fun k_ => some k_ ≠ (s_.1 : Value).ownBlock ∧ some k_ ≠ (s_.2.1 : Value).ownBlock ∧ some k_ ≠ (.slice Ao46 t262.length co46 : Value).ownBlock ∧ some k_ ≠ (.slice Ao57 t251.length co57 : Value).ownBlock) (.slice Ao40 t238.length co40) t238) ∧ (Kd.R k76 76 w' w.heap.size (fun k_ => some k_ ≠ (s_.1 : Value).ownBlock ∧ some k_ ≠ (s_.2.1 : Value).ownBlock ∧ some k_ ≠ (.slice Ao40 t238.length co40 : Value).ownBlock ∧ some k_ ≠ (.slice Ao57 t251.length co57 : Value).ownBlock) (.slice Ao46 t262.length co46) t262) ∧ (Kd.R k76 76 w' w.heap.size (fun k_ => some k_ ≠ (s_.1 : Value).ownBlock ∧ some k_ ≠ (s_.2.1 : Value).ownBlock ∧ some k_ ≠ (.slice Ao40 t238.length co40 : Value).ownBlock ∧ some k_ ≠ (.slice Ao46 t262.length co46 : Value).ownBlock) (.slice Ao57 t251.length co57) t265) ∧ (w'.heap[gb227]? = some (.cells #[.slice A0_0 l0_0.length c0_0] 24 (0, 0))) ∧ (w'.heap[gb228]? = some (.cells #[.int .i64 a1_0, .string a1_1, .string a1_2, .string a1_3] 26 (0, 0))) ∧ (w'.heap[gb242]? = some (.cells #[.slice Ao40 t238.length co40] 31 (0, 0))) ∧ (w'.heap[gb246]? = some (.cells #[.slice Ao46 t262.length co46] 31 (0, 0))) ∧ (w'.heap[gb255]? = some (.cells #[.slice Ao57 t251.length co57] 31 (0, 0))) ∧ (w'.heap[s_.2.2]? = some (.cells #[.slice none 0 0] 31 (0, 0))) ∧ (w.heap.size ≤ s_.2.2) ∧ (w.heap.size ≤ s_.2.2) ∧ (gb227 ≠ s_.2.2) ∧ (s_.2.2 ≠ gb227) ∧ (gb228 ≠ s_.2.2) ∧ (s_.2.2 ≠ gb228) ∧ (gb242 ≠ s_.2.2) ∧ (s_.2.2 ≠ gb242) ∧ (gb246 ≠ s_.2.2) ∧ (s_.2.2 ≠ gb246) ∧ (gb255 ≠ s_.2.2) ∧ (s_.2.2 ≠ gb255) ∧ (Below w.heap.size w w')) ?_ ?_
            rotate_left
            ·intro hCont
             refine two_ (i := 1) (j := 8) (Ni := some 86) (Nj := some 14) #[true, true, true, false, false, false, false, false, false, false, false] #[true, false, true, false, false, false, false, false, true, false, false] rfl rfl rfl rfl (two_of HT_.out (by kernel_rfl)) (by decide) (by decide) (fun K hK => ?_) (fun K hK => ?_)
             ·skip
              refine goes_ Try.func11 (by kernel_rfl) rfl #[.agg #[.slice A0_0 l0_0.length c0_0]] (by rfl) rfl rfl ga_ ?_
              with_reducible refine (laws_toDisk.calls kj75 _ _ l0_0 t267 _ ?side1 ?side2 A105.out).mono ?_
              (case side1 => repeat (first | exact (Kd.C_below HR0_0.out HB.out) | (with_reducible refine Kd.C_alloc ?_ _) | (with_reducible refine Kd.C_drewN ?_ _) | (with_reducible refine Kd.C_drew ?_)))
              (case side2 => exact HC0_0.out)
              rintro e w118 ⟨v268, rfl, ho0, hb⟩
              refine ⟨_, rfl, ?_⟩
              have n0_ := mk_ (Kd.R_elder' (rp_ HO_243000) (Kd.R_base ho0) hb)
              have n1_ := mk_ (Kd.R_elder' (rp_ HO_247000) (Kd.R_base ho0) hb)
              have n2_ := mk_ (Kd.R_elder' (rp_ HO_256000) (Kd.R_base ho0) hb)
              have n3_ := mk_ (Kd.R_lower (Kd.R_new' (Kd.R_new' (Kd.R_new' ho0 (Kd.R_lt (rp_ HO_243000))) (Kd.R_lt (rp_ HO_247000))) (Kd.R_lt (rp_ HO_256000))) (below_size (bw_ HB)))
              have n4_ := bb_ BK227 hb; have n5_ := bb_ BK228 hb; have n6_ := bb_ BK242 hb; have n7_ := bb_ BK246 hb; have n8_ := bb_ BK255 hb
              have n9_ := bs_ HB hb
              clear HO_243000; clear HO_247000; clear HO_256000; clear BK227; clear BK228; clear BK242; clear BK246; clear BK255; clear HB; have HO_243000 := n0_; have HO_247000 := n1_; have HO_256000 := n2_; have HO269 := n3_; have BK227 := n4_; have BK228 := n5_; have BK242 := n6_; have BK246 := n7_; have BK255 := n8_; have HB := n9_; clear n0_ n1_ n2_ n3_ n4_ n5_ n6_ n7_ n8_ n9_; (try clear hb); (try clear hb2); (try clear hk); (try clear hi); (try clear ho0)
              refine hK.out _ _ ⟨bc_ BK227 0, bc_ BK228 0, bc_ BK228 1, bc_ BK228 2, bc_ BK228 3⟩ (fun hHeld => ?_)
              clear hK K
              refine norm_ (a' := ?_) ?_ ?_
              rotate_left
              ·show Act.put _ (some 86) _ = _
               simp only [Act.put, sia_, scz_, scs_, i64_w, i32_w]
               rfl
              refine two_ (i := 3) (j := 8) (Ni := some 88) (Nj := some 14) #[true, true, true, true, false, false, false, false, false, false, false] #[true, true, true, false, false, false, false, false, true, false, false] rfl rfl rfl rfl (two_of HT_.out (by kernel_rfl)) (by decide) (by decide) (fun K hK => ?_) (fun K hK => ?_)
              ·skip
               refine goes_ Try.func12 (by kernel_rfl) rfl #[.agg #[.int .i64 a1_0, .string a1_1, .string a1_2, .string a1_3]] (by rfl) rfl rfl ga_ ?_
               with_reducible refine (laws_toAct.calls a1_0 a1_1 a1_2 a1_3 t270 t271 t272 t273 _ A106.out).mono ?_
               rintro e w119 ⟨rfl, hb⟩
               refine ⟨_, rfl, ?_⟩
               have n0_ := rb_ HO_243000 hb
               have n1_ := rb_ HO_247000 hb
               have n2_ := rb_ HO_256000 hb
               have n3_ := rb_ HO269 hb
               have n4_ := bb_ BK227 hb; have n5_ := bb_ BK228 hb; have n6_ := bb_ BK242 hb; have n7_ := bb_ BK246 hb; have n8_ := bb_ BK255 hb
               have n9_ := bs_ HB hb
               clear HO_243000; clear HO_247000; clear HO_256000; clear HO269; clear BK227; clear BK228; clear BK242; clear BK246; clear BK255; clear HB; have HO_243000 := n0_; have HO_247000 := n1_; have HO_256000 := n2_; have HO269 := n3_; have BK227 := n4_; have BK228 := n5_; have BK242 := n6_; have BK246 := n7_; have BK255 := n8_; have HB := n9_; clear n0_ n1_ n2_ n3_ n4_ n5_ n6_ n7_ n8_ n9_; (try clear hb); (try clear hb2); (try clear hk); (try clear hi)
               obtain ⟨Ao120, co120, eo120⟩ := Kd.R_slice HO269.out
               (first | subst eo120 | (injection eo120 with f1_ f2_ f3_; have f4_ := f1_.symm; have f5_ := f3_.symm; clear f1_ f2_ f3_; subst f4_; subst f5_))
               refine hK.out _ _ ⟨bc_ BK227 0, bc_ BK228 0, bc_ BK228 1, bc_ BK228 2, bc_ BK228 3⟩ (fun hHeld => ?_)
               clear hK K
               refine norm_ (a' := ?_) ?_ ?_
               rotate_left
               ·show Act.put _ (some 88) _ = _
                simp only [Act.put, sia_, scz_, scs_, i64_w, i32_w]
                rfl
               refine two_ (i := 4) (j := 8) (Ni := some 89) (Nj := some 14) #[true, true, true, true, true, false, false, false, false, false, false] #[true, true, true, true, false, false, false, false, true, false, false] rfl rfl rfl rfl (two_of HT_.out (by kernel_rfl)) (by decide) (by decide) (fun K hK => ?_) (fun K hK => ?_)
               ·skip
                refine goes_ Try.func13 (by kernel_rfl) rfl #[.agg #[.slice Ao120 t267.length co120], .agg #[.int .i64 t270, .string t271, .string t272, .string t273]] (by rfl) rfl rfl ga_ ?_
                with_reducible refine (impl_DoAct.calls kj75 _ _ t267 t270 t271 t272 t273 t274 t277 _ ?side1 ?side2 A107.out).mono ?_
                (case side1 => repeat (first | exact (Kd.R_reads' HO269.out).2.2 | (with_reducible refine Kd.C_alloc ?_ _) | (with_reducible refine Kd.C_drewN ?_ _) | (with_reducible refine Kd.C_drew ?_)))
                (case side2 => exact (Kd.R_reads' HO269.out).2.1)
                rintro e w121 ⟨v275, rfl, ho0, hb⟩
                refine ⟨_, rfl, ?_⟩
                have n0_ := mk_ (Kd.R_elder' (rp_ HO_243000) (Kd.R_base ho0) hb)
                have n1_ := mk_ (Kd.R_elder' (rp_ HO_247000) (Kd.R_base ho0) hb)
                have n2_ := mk_ (Kd.R_elder' (rp_ HO_256000) (Kd.R_base ho0) hb)
                have n3_ := mk_ (Kd.R_elder' (rp_ HO269) (Kd.R_base ho0) hb)
                have n4_ := mk_ (Kd.R_lower (Kd.R_new' (Kd.R_new' (Kd.R_new' (Kd.R_new' ho0 (Kd.R_lt (rp_ HO_243000))) (Kd.R_lt (rp_ HO_247000))) (Kd.R_lt (rp_ HO_256000))) (Kd.R_lt (rp_ HO269))) (below_size (bw_ HB)))
                have n5_ := bb_ BK227 hb; have n6_ := bb_ BK228 hb; have n7_ := bb_ BK242 hb; have n8_ := bb_ BK246 hb; have n9_ := bb_ BK255 hb
                have n10_ := bs_ HB hb
                clear HO_243000; clear HO_247000; clear HO_256000; clear HO269; clear BK227; clear BK228; clear BK242; clear BK246; clear BK255; clear HB; have HO_243000 := n0_; have HO_247000 := n1_; have HO_256000 := n2_; have HO269 := n3_; have HO276 := n4_; have BK227 := n5_; have BK228 := n6_; have BK242 := n7_; have BK246 := n8_; have BK255 := n9_; have HB := n10_; clear n0_ n1_ n2_ n3_ n4_ n5_ n6_ n7_ n8_ n9_ n10_; (try clear hb); (try clear hb2); (try clear hk); (try clear hi); (try clear ho0)
                refine hK.out _ _ ⟨bc_ BK227 0, bc_ BK228 0, bc_ BK228 1, bc_ BK228 2, bc_ BK228 3⟩ (fun hHeld => ?_)
                clear hK K
                refine norm_ (a' := ?_) ?_ ?_
                rotate_left
                ·show Act.put _ (some 89) _ = _
                 simp only [Act.put, sia_, scz_, scs_, i64_w, i32_w]
                 rfl
                refine pure_ (i := 5) (N := some 84) (v := ?_) (a' := ?_) #[true, true, true, true, true, true, false, false, false, false, false] rfl rfl (any_of HT_.out (by kernel_rfl)) (fun _ _ _ h => h) (Or.inl ⟨by rfl, ?_⟩) ?_ ?_
                rotate_left
                ·intro w'
                 go_simp
                 with_reducible rfl
                rotate_left
                ·simp only [Act.put, sia_, scz_, scs_, i64_w, i32_w]
                 rfl
                refine pure_ (i := 6) (N := some 90) (v := ?_) (a' := ?_) #[true, true, true, true, true, true, true, false, false, false, false] rfl rfl (any_of HT_.out (by kernel_rfl)) (fun _ _ _ h => h) (Or.inl ⟨by rfl, ?_⟩) ?_ ?_
                rotate_left
                ·intro w'
                 go_simp
                 with_reducible rfl
                rotate_left
                ·simp only [Act.put, sia_, scz_, scs_, i64_w, i32_w]
                 rfl
                refine pure_ (i := 7) (N := some 91) (v := ?_) (a' := ?_) #[true, true, true, true, true, true, true, true, false, false, false] rfl rfl (any_of HT_.out (by kernel_rfl)) (fun _ _ _ h => h) (Or.inl ⟨by rfl, ?_⟩) ?_ ?_
                rotate_left
                ·intro w'
                 go_simp
                 with_reducible rfl
                rotate_left
                ·simp only [Act.put, sia_, scz_, scs_, i64_w, i32_w]
                 rfl
                refine one_ (i := 8) (N := some 14) #[true, true, true, true, true, true, true, true, true, false, false] rfl rfl (one_of HT_.out (by kernel_rfl)) (by decide) (fun K hK => ?_)
                refine box_step ?hg (N := 14) ?hd (cs := #[.slice none 0 0]) (t := 31) ?hr ?_; (case hd => rfl); (case hg => rfl); (case hr => first | (go_simp; done) | (go_simp; rfl))
                intro gb278 hg w122 hbox hb
                have n0_ := rb_ HO_243000 hb
                have n1_ := rb_ HO_247000 hb
                have n2_ := rb_ HO_256000 hb
                have n3_ := rb_ HO269 hb
                have n4_ := rb_ HO276 hb
                have n5_ := bb_ BK227 hb; have n6_ := bb_ BK228 hb; have n7_ := bb_ BK242 hb; have n8_ := bb_ BK246 hb; have n9_ := bb_ BK255 hb
                have n10_ := bs_ HB hb
                have n11_ := mk_ (hbox)
                have n12_ : Aside0 (w.heap.size ≤ gb278) := bz_ hg
                have n13_ : Aside0 (w.heap.size ≤ gb278) := bz_ hg
                have n14_ : Aside0 (gb227 ≠ gb278) := bl_ BK227 hg
                have n15_ : Aside0 (gb278 ≠ gb227) := bg_ BK227 hg
                have n16_ : Aside0 (gb228 ≠ gb278) := bl_ BK228 hg
                have n17_ : Aside0 (gb278 ≠ gb228) := bg_ BK228 hg
                have n18_ : Aside0 (gb242 ≠ gb278) := bl_ BK242 hg
                have n19_ : Aside0 (gb278 ≠ gb242) := bg_ BK242 hg
                have n20_ : Aside0 (gb246 ≠ gb278) := bl_ BK246 hg
                have n21_ : Aside0 (gb278 ≠ gb246) := bg_ BK246 hg
                have n22_ : Aside0 (gb255 ≠ gb278) := bl_ BK255 hg
                have n23_ : Aside0 (gb278 ≠ gb255) := bg_ BK255 hg
                clear HO_243000; clear HO_247000; clear HO_256000; clear HO269; clear HO276; clear BK227; clear BK228; clear BK242; clear BK246; clear BK255; clear HB; have HO_243000 := n0_; have HO_247000 := n1_; have HO_256000 := n2_; have HO269 := n3_; have HO276 := n4_; have BK227 := n5_; have BK228 := n6_; have BK242 := n7_; have BK246 := n8_; have BK255 := n9_; have HB := n10_; have BK278 := n11_; have GW278 := n12_; have GE278 := n13_; have NB227_278 := n14_; have NB278_227 := n15_; have NB228_278 := n16_; have NB278_228 := n17_; have NB242_278 := n18_; have NB278_242 := n19_; have NB246_278 := n20_; have NB278_246 := n21_; have NB255_278 := n22_; have NB278_255 := n23_; clear n0_ n1_ n2_ n3_ n4_ n5_ n6_ n7_ n8_ n9_ n10_ n11_ n12_ n13_ n14_ n15_ n16_ n17_ n18_ n19_ n20_ n21_ n22_ n23_; clear hb hbox hg
                refine hK.out _ _ ⟨bc_ BK227 0, bc_ BK228 0, bc_ BK228 1, bc_ BK228 2, bc_ BK228 3⟩ (fun hHeld => ?_)
                clear hK K
                refine norm_ (a' := ?_) ?_ ?_
                rotate_left
                ·show Act.put _ (some 14) _ = _
                 simp only [Act.put, sia_, scz_, scs_, i64_w, i32_w]
                 rfl
                exact norm_ (by simp only [putAll, Act.put, sia_, scz_, scs_]) (hCont (.slice Ao120 t267.length co120, v275, gb278) _ ⟨hHeld, (by (with_reducible repeat (first | apply Kd.R_alloc | apply Kd.R_drewN | apply Kd.R_drew)); exact Kd.R_mono HO269.out (fun _ hk => ⟨hk.2, ⟨hk.1.1.1.2, ⟨hk.1.1.2, hk.1.2⟩⟩⟩)), (by (with_reducible repeat (first | apply Kd.R_alloc | apply Kd.R_drewN | apply Kd.R_drew)); exact Kd.R_mono HO276.out (fun _ hk => ⟨hk.2, ⟨hk.1.1.1.2, ⟨hk.1.1.2, hk.1.2⟩⟩⟩)), (by (with_reducible repeat (first | apply Kd.R_alloc | apply Kd.R_drewN | apply Kd.R_drew)); exact Kd.R_mono HO_243000.out (fun _ hk => ⟨hk.1.2, ⟨hk.2, ⟨hk.1.1.1, hk.1.1.2⟩⟩⟩)), (by (with_reducible repeat (first | apply Kd.R_alloc | apply Kd.R_drewN | apply Kd.R_drew)); exact Kd.R_mono HO_247000.out (fun _ hk => ⟨hk.1.2, ⟨hk.2, ⟨hk.1.1.1, hk.1.1.2⟩⟩⟩)), (by (with_reducible repeat (first | apply Kd.R_alloc | apply Kd.R_drewN | apply Kd.R_drew)); exact Kd.R_mono HO_256000.out (fun _ hk => ⟨hk.1.2, ⟨hk.2, ⟨hk.1.1.1, hk.1.1.2⟩⟩⟩)), (bp_ BK227), (bp_ BK228), (bp_ BK242), (bp_ BK246), (bp_ BK255), (bp_ BK278), GW278.out, GE278.out, NB227_278.out, NB278_227.out, NB228_278.out, NB278_228.out, NB242_278.out, NB278_242.out, NB246_278.out, NB278_246.out, NB255_278.out, NB278_255.out, (bw_ HB)⟩)
               ·skip
                refine box_step ?hg (N := 14) ?hd (cs := #[.slice none 0 0]) (t := 31) ?hr ?_; (case hd => rfl); (case hg => rfl); (case hr => first | (go_simp; done) | (go_simp; rfl))
                intro gb278 hg w120 hbox hb
                have n0_ := rb_ HO_243000 hb
                have n1_ := rb_ HO_247000 hb
                have n2_ := rb_ HO_256000 hb
                have n3_ := rb_ HO269 hb
                have n4_ := bb_ BK227 hb; have n5_ := bb_ BK228 hb; have n6_ := bb_ BK242 hb; have n7_ := bb_ BK246 hb; have n8_ := bb_ BK255 hb
                have n9_ := bs_ HB hb
                have n10_ := mk_ (hbox)
                have n11_ : Aside0 (w.heap.size ≤ gb278) := bz_ hg
                have n12_ : Aside0 (w.heap.size ≤ gb278) := bz_ hg
                have n13_ : Aside0 (gb227 ≠ gb278) := bl_ BK227 hg
                have n14_ : Aside0 (gb278 ≠ gb227) := bg_ BK227 hg
                have n15_ : Aside0 (gb228 ≠ gb278) := bl_ BK228 hg
                have n16_ : Aside0 (gb278 ≠ gb228) := bg_ BK228 hg
                have n17_ : Aside0 (gb242 ≠ gb278) := bl_ BK242 hg
                have n18_ : Aside0 (gb278 ≠ gb242) := bg_ BK242 hg
                have n19_ : Aside0 (gb246 ≠ gb278) := bl_ BK246 hg
                have n20_ : Aside0 (gb278 ≠ gb246) := bg_ BK246 hg
                have n21_ : Aside0 (gb255 ≠ gb278) := bl_ BK255 hg
                have n22_ : Aside0 (gb278 ≠ gb255) := bg_ BK255 hg
                clear HO_243000; clear HO_247000; clear HO_256000; clear HO269; clear BK227; clear BK228; clear BK242; clear BK246; clear BK255; clear HB; have HO_243000 := n0_; have HO_247000 := n1_; have HO_256000 := n2_; have HO269 := n3_; have BK227 := n4_; have BK228 := n5_; have BK242 := n6_; have BK246 := n7_; have BK255 := n8_; have HB := n9_; have BK278 := n10_; have GW278 := n11_; have GE278 := n12_; have NB227_278 := n13_; have NB278_227 := n14_; have NB228_278 := n15_; have NB278_228 := n16_; have NB242_278 := n17_; have NB278_242 := n18_; have NB246_278 := n19_; have NB278_246 := n20_; have NB255_278 := n21_; have NB278_255 := n22_; clear n0_ n1_ n2_ n3_ n4_ n5_ n6_ n7_ n8_ n9_ n10_ n11_ n12_ n13_ n14_ n15_ n16_ n17_ n18_ n19_ n20_ n21_ n22_; clear hb hbox hg
                obtain ⟨Ao121, co121, eo121⟩ := Kd.R_slice HO269.out
                (first | subst eo121 | (injection eo121 with f1_ f2_ f3_; have f4_ := f1_.symm; have f5_ := f3_.symm; clear f1_ f2_ f3_; subst f4_; subst f5_))
                refine hK.out _ _ ⟨bc_ BK227 0, bc_ BK228 0, bc_ BK228 1, bc_ BK228 2, bc_ BK228 3⟩ (fun hHeld => ?_)
                clear hK K
                refine norm_ (a' := ?_) ?_ ?_
                rotate_left
                ·show Act.put _ (some 14) _ = _
                 simp only [Act.put, sia_, scz_, scs_, i64_w, i32_w]
                 rfl
                refine one_ (i := 4) (N := some 89) #[true, true, true, true, true, false, false, false, true, false, false] rfl rfl (one_of HT_.out (by kernel_rfl)) (by decide) (fun K hK => ?_)
                refine goes_ Try.func13 (by kernel_rfl) rfl #[.agg #[.slice Ao121 t267.length co121], .agg #[.int .i64 t270, .string t271, .string t272, .string t273]] (by rfl) rfl rfl ga_ ?_
                with_reducible refine (impl_DoAct.calls kj75 _ _ t267 t270 t271 t272 t273 t274 t277 _ ?side1 ?side2 A107.out).mono ?_
                (case side1 => repeat (first | exact (Kd.R_reads' HO269.out).2.2 | (with_reducible refine Kd.C_alloc ?_ _) | (with_reducible refine Kd.C_drewN ?_ _) | (with_reducible refine Kd.C_drew ?_)))
                (case side2 => exact (Kd.R_reads' HO269.out).2.1)
                rintro e w122 ⟨v275, rfl, ho0, hb⟩
                refine ⟨_, rfl, ?_⟩
                have n0_ := mk_ (Kd.R_elder' (rp_ HO_243000) (Kd.R_base ho0) hb)
                have n1_ := mk_ (Kd.R_elder' (rp_ HO_247000) (Kd.R_base ho0) hb)
                have n2_ := mk_ (Kd.R_elder' (rp_ HO_256000) (Kd.R_base ho0) hb)
                have n3_ := mk_ (Kd.R_elder' (rp_ HO269) (Kd.R_base ho0) hb)
                have n4_ := mk_ (Kd.R_lower (Kd.R_new' (Kd.R_new' (Kd.R_new' (Kd.R_new' ho0 (Kd.R_lt (rp_ HO_243000))) (Kd.R_lt (rp_ HO_247000))) (Kd.R_lt (rp_ HO_256000))) (Kd.R_lt (rp_ HO269))) (below_size (bw_ HB)))
                have n5_ := bb_ BK227 hb; have n6_ := bb_ BK228 hb; have n7_ := bb_ BK242 hb; have n8_ := bb_ BK246 hb; have n9_ := bb_ BK255 hb; have n10_ := bb_ BK278 hb
                have n11_ := bs_ HB hb
                clear HO_243000; clear HO_247000; clear HO_256000; clear HO269; clear BK227; clear BK228; clear BK242; clear BK246; clear BK255; clear BK278; clear HB; have HO_243000 := n0_; have HO_247000 := n1_; have HO_256000 := n2_; have HO269 := n3_; have HO276 := n4_; have BK227 := n5_; have BK228 := n6_; have BK242 := n7_; have BK246 := n8_; have BK255 := n9_; have BK278 := n10_; have HB := n11_; clear n0_ n1_ n2_ n3_ n4_ n5_ n6_ n7_ n8_ n9_ n10_ n11_; (try clear hb); (try clear hb2); (try clear hk); (try clear hi); (try clear ho0)
                refine hK.out _ _ ⟨bc_ BK227 0, bc_ BK228 0, bc_ BK228 1, bc_ BK228 2, bc_ BK228 3⟩ (fun hHeld => ?_)
                clear hK K
                refine norm_ (a' := ?_) ?_ ?_
                rotate_left
                ·show Act.put _ (some 89) _ = _
                 simp only [Act.put, sia_, scz_, scs_, i64_w, i32_w]
                 rfl
                refine pure_ (i := 5) (N := some 84) (v := ?_) (a' := ?_) #[true, true, true, true, true, true, false, false, true, false, false] rfl rfl (any_of HT_.out (by kernel_rfl)) (fun _ _ _ h => h) (Or.inl ⟨by rfl, ?_⟩) ?_ ?_
                rotate_left
                ·intro w'
                 go_simp
                 with_reducible rfl
                rotate_left
                ·simp only [Act.put, sia_, scz_, scs_, i64_w, i32_w]
                 rfl
                refine pure_ (i := 6) (N := some 90) (v := ?_) (a' := ?_) #[true, true, true, true, true, true, true, false, true, false, false] rfl rfl (any_of HT_.out (by kernel_rfl)) (fun _ _ _ h => h) (Or.inl ⟨by rfl, ?_⟩) ?_ ?_
                rotate_left
                ·intro w'
                 go_simp
                 with_reducible rfl
                rotate_left
                ·simp only [Act.put, sia_, scz_, scs_, i64_w, i32_w]
                 rfl
                refine pure_ (i := 7) (N := some 91) (v := ?_) (a' := ?_) #[true, true, true, true, true, true, true, true, true, false, false] rfl rfl (any_of HT_.out (by kernel_rfl)) (fun _ _ _ h => h) (Or.inl ⟨by rfl, ?_⟩) ?_ ?_
                rotate_left
                ·intro w'
                 go_simp
                 with_reducible rfl
                rotate_left
                ·simp only [Act.put, sia_, scz_, scs_, i64_w, i32_w]
                 rfl
                exact norm_ (by simp only [putAll, Act.put, sia_, scz_, scs_]) (hCont (.slice Ao121 t267.length co121, v275, gb278) _ ⟨hHeld, (by (with_reducible repeat (first | apply Kd.R_alloc | apply Kd.R_drewN | apply Kd.R_drew)); exact Kd.R_mono HO269.out (fun _ hk => ⟨hk.2, ⟨hk.1.1.1.2, ⟨hk.1.1.2, hk.1.2⟩⟩⟩)), (by (with_reducible repeat (first | apply Kd.R_alloc | apply Kd.R_drewN | apply Kd.R_drew)); exact Kd.R_mono HO276.out (fun _ hk => ⟨hk.2, ⟨hk.1.1.1.2, ⟨hk.1.1.2, hk.1.2⟩⟩⟩)), (by (with_reducible repeat (first | apply Kd.R_alloc | apply Kd.R_drewN | apply Kd.R_drew)); exact Kd.R_mono HO_243000.out (fun _ hk => ⟨hk.1.2, ⟨hk.2, ⟨hk.1.1.1, hk.1.1.2⟩⟩⟩)), (by (with_reducible repeat (first | apply Kd.R_alloc | apply Kd.R_drewN | apply Kd.R_drew)); exact Kd.R_mono HO_247000.out (fun _ hk => ⟨hk.1.2, ⟨hk.2, ⟨hk.1.1.1, hk.1.1.2⟩⟩⟩)), (by (with_reducible repeat (first | apply Kd.R_alloc | apply Kd.R_drewN | apply Kd.R_drew)); exact Kd.R_mono HO_256000.out (fun _ hk => ⟨hk.1.2, ⟨hk.2, ⟨hk.1.1.1, hk.1.1.2⟩⟩⟩)), (bp_ BK227), (bp_ BK228), (bp_ BK242), (bp_ BK246), (bp_ BK255), (bp_ BK278), GW278.out, GE278.out, NB227_278.out, NB278_227.out, NB228_278.out, NB278_228.out, NB242_278.out, NB278_242.out, NB246_278.out, NB278_246.out, NB255_278.out, NB278_255.out, (bw_ HB)⟩)
              ·skip
               refine box_step ?hg (N := 14) ?hd (cs := #[.slice none 0 0]) (t := 31) ?hr ?_; (case hd => rfl); (case hg => rfl); (case hr => first | (go_simp; done) | (go_simp; rfl))
               intro gb278 hg w119 hbox hb
               have n0_ := rb_ HO_243000 hb
               have n1_ := rb_ HO_247000 hb
               have n2_ := rb_ HO_256000 hb
               have n3_ := rb_ HO269 hb
               have n4_ := bb_ BK227 hb; have n5_ := bb_ BK228 hb; have n6_ := bb_ BK242 hb; have n7_ := bb_ BK246 hb; have n8_ := bb_ BK255 hb
               have n9_ := bs_ HB hb
               have n10_ := mk_ (hbox)
               have n11_ : Aside0 (w.heap.size ≤ gb278) := bz_ hg
               have n12_ : Aside0 (w.heap.size ≤ gb278) := bz_ hg
               have n13_ : Aside0 (gb227 ≠ gb278) := bl_ BK227 hg
               have n14_ : Aside0 (gb278 ≠ gb227) := bg_ BK227 hg
               have n15_ : Aside0 (gb228 ≠ gb278) := bl_ BK228 hg
               have n16_ : Aside0 (gb278 ≠ gb228) := bg_ BK228 hg
               have n17_ : Aside0 (gb242 ≠ gb278) := bl_ BK242 hg
               have n18_ : Aside0 (gb278 ≠ gb242) := bg_ BK242 hg
               have n19_ : Aside0 (gb246 ≠ gb278) := bl_ BK246 hg
               have n20_ : Aside0 (gb278 ≠ gb246) := bg_ BK246 hg
               have n21_ : Aside0 (gb255 ≠ gb278) := bl_ BK255 hg
               have n22_ : Aside0 (gb278 ≠ gb255) := bg_ BK255 hg
               clear HO_243000; clear HO_247000; clear HO_256000; clear HO269; clear BK227; clear BK228; clear BK242; clear BK246; clear BK255; clear HB; have HO_243000 := n0_; have HO_247000 := n1_; have HO_256000 := n2_; have HO269 := n3_; have BK227 := n4_; have BK228 := n5_; have BK242 := n6_; have BK246 := n7_; have BK255 := n8_; have HB := n9_; have BK278 := n10_; have GW278 := n11_; have GE278 := n12_; have NB227_278 := n13_; have NB278_227 := n14_; have NB228_278 := n15_; have NB278_228 := n16_; have NB242_278 := n17_; have NB278_242 := n18_; have NB246_278 := n19_; have NB278_246 := n20_; have NB255_278 := n21_; have NB278_255 := n22_; clear n0_ n1_ n2_ n3_ n4_ n5_ n6_ n7_ n8_ n9_ n10_ n11_ n12_ n13_ n14_ n15_ n16_ n17_ n18_ n19_ n20_ n21_ n22_; clear hb hbox hg
               refine hK.out _ _ ⟨bc_ BK227 0, bc_ BK228 0, bc_ BK228 1, bc_ BK228 2, bc_ BK228 3⟩ (fun hHeld => ?_)
               clear hK K
               refine norm_ (a' := ?_) ?_ ?_
               rotate_left
               ·show Act.put _ (some 14) _ = _
                simp only [Act.put, sia_, scz_, scs_, i64_w, i32_w]
                rfl
               refine one_ (i := 3) (N := some 88) #[true, true, true, true, false, false, false, false, true, false, false] rfl rfl (one_of HT_.out (by kernel_rfl)) (by decide) (fun K hK => ?_)
               refine goes_ Try.func12 (by kernel_rfl) rfl #[.agg #[.int .i64 a1_0, .string a1_1, .string a1_2, .string a1_3]] (by rfl) rfl rfl ga_ ?_
               with_reducible refine (laws_toAct.calls a1_0 a1_1 a1_2 a1_3 t270 t271 t272 t273 _ A106.out).mono ?_
               rintro e w120 ⟨rfl, hb⟩
               refine ⟨_, rfl, ?_⟩
               have n0_ := rb_ HO_243000 hb
               have n1_ := rb_ HO_247000 hb
               have n2_ := rb_ HO_256000 hb
               have n3_ := rb_ HO269 hb
               have n4_ := bb_ BK227 hb; have n5_ := bb_ BK228 hb; have n6_ := bb_ BK242 hb; have n7_ := bb_ BK246 hb; have n8_ := bb_ BK255 hb; have n9_ := bb_ BK278 hb
               have n10_ := bs_ HB hb
               clear HO_243000; clear HO_247000; clear HO_256000; clear HO269; clear BK227; clear BK228; clear BK242; clear BK246; clear BK255; clear BK278; clear HB; have HO_243000 := n0_; have HO_247000 := n1_; have HO_256000 := n2_; have HO269 := n3_; have BK227 := n4_; have BK228 := n5_; have BK242 := n6_; have BK246 := n7_; have BK255 := n8_; have BK278 := n9_; have HB := n10_; clear n0_ n1_ n2_ n3_ n4_ n5_ n6_ n7_ n8_ n9_ n10_; (try clear hb); (try clear hb2); (try clear hk); (try clear hi)
               obtain ⟨Ao121, co121, eo121⟩ := Kd.R_slice HO269.out
               (first | subst eo121 | (injection eo121 with f1_ f2_ f3_; have f4_ := f1_.symm; have f5_ := f3_.symm; clear f1_ f2_ f3_; subst f4_; subst f5_))
               refine hK.out _ _ ⟨bc_ BK227 0, bc_ BK228 0, bc_ BK228 1, bc_ BK228 2, bc_ BK228 3⟩ (fun hHeld => ?_)
               clear hK K
               refine norm_ (a' := ?_) ?_ ?_
               rotate_left
               ·show Act.put _ (some 88) _ = _
                simp only [Act.put, sia_, scz_, scs_, i64_w, i32_w]
                rfl
               refine one_ (i := 4) (N := some 89) #[true, true, true, true, true, false, false, false, true, false, false] rfl rfl (one_of HT_.out (by kernel_rfl)) (by decide) (fun K hK => ?_)
               refine goes_ Try.func13 (by kernel_rfl) rfl #[.agg #[.slice Ao121 t267.length co121], .agg #[.int .i64 t270, .string t271, .string t272, .string t273]] (by rfl) rfl rfl ga_ ?_
               with_reducible refine (impl_DoAct.calls kj75 _ _ t267 t270 t271 t272 t273 t274 t277 _ ?side1 ?side2 A107.out).mono ?_
               (case side1 => repeat (first | exact (Kd.R_reads' HO269.out).2.2 | (with_reducible refine Kd.C_alloc ?_ _) | (with_reducible refine Kd.C_drewN ?_ _) | (with_reducible refine Kd.C_drew ?_)))
               (case side2 => exact (Kd.R_reads' HO269.out).2.1)
               rintro e w122 ⟨v275, rfl, ho0, hb⟩
               refine ⟨_, rfl, ?_⟩
               have n0_ := mk_ (Kd.R_elder' (rp_ HO_243000) (Kd.R_base ho0) hb)
               have n1_ := mk_ (Kd.R_elder' (rp_ HO_247000) (Kd.R_base ho0) hb)
               have n2_ := mk_ (Kd.R_elder' (rp_ HO_256000) (Kd.R_base ho0) hb)
               have n3_ := mk_ (Kd.R_elder' (rp_ HO269) (Kd.R_base ho0) hb)
               have n4_ := mk_ (Kd.R_lower (Kd.R_new' (Kd.R_new' (Kd.R_new' (Kd.R_new' ho0 (Kd.R_lt (rp_ HO_243000))) (Kd.R_lt (rp_ HO_247000))) (Kd.R_lt (rp_ HO_256000))) (Kd.R_lt (rp_ HO269))) (below_size (bw_ HB)))
               have n5_ := bb_ BK227 hb; have n6_ := bb_ BK228 hb; have n7_ := bb_ BK242 hb; have n8_ := bb_ BK246 hb; have n9_ := bb_ BK255 hb; have n10_ := bb_ BK278 hb
               have n11_ := bs_ HB hb
               clear HO_243000; clear HO_247000; clear HO_256000; clear HO269; clear BK227; clear BK228; clear BK242; clear BK246; clear BK255; clear BK278; clear HB; have HO_243000 := n0_; have HO_247000 := n1_; have HO_256000 := n2_; have HO269 := n3_; have HO276 := n4_; have BK227 := n5_; have BK228 := n6_; have BK242 := n7_; have BK246 := n8_; have BK255 := n9_; have BK278 := n10_; have HB := n11_; clear n0_ n1_ n2_ n3_ n4_ n5_ n6_ n7_ n8_ n9_ n10_ n11_; (try clear hb); (try clear hb2); (try clear hk); (try clear hi); (try clear ho0)
               refine hK.out _ _ ⟨bc_ BK227 0, bc_ BK228 0, bc_ BK228 1, bc_ BK228 2, bc_ BK228 3⟩ (fun hHeld => ?_)
               clear hK K
               refine norm_ (a' := ?_) ?_ ?_
               rotate_left
               ·show Act.put _ (some 89) _ = _
                simp only [Act.put, sia_, scz_, scs_, i64_w, i32_w]
                rfl
               refine pure_ (i := 5) (N := some 84) (v := ?_) (a' := ?_) #[true, true, true, true, true, true, false, false, true, false, false] rfl rfl (any_of HT_.out (by kernel_rfl)) (fun _ _ _ h => h) (Or.inl ⟨by rfl, ?_⟩) ?_ ?_
               rotate_left
               ·intro w'
                go_simp
                with_reducible rfl
               rotate_left
               ·simp only [Act.put, sia_, scz_, scs_, i64_w, i32_w]
                rfl
               refine pure_ (i := 6) (N := some 90) (v := ?_) (a' := ?_) #[true, true, true, true, true, true, true, false, true, false, false] rfl rfl (any_of HT_.out (by kernel_rfl)) (fun _ _ _ h => h) (Or.inl ⟨by rfl, ?_⟩) ?_ ?_
               rotate_left
               ·intro w'
                go_simp
                with_reducible rfl
               rotate_left
               ·simp only [Act.put, sia_, scz_, scs_, i64_w, i32_w]
                rfl
               refine pure_ (i := 7) (N := some 91) (v := ?_) (a' := ?_) #[true, true, true, true, true, true, true, true, true, false, false] rfl rfl (any_of HT_.out (by kernel_rfl)) (fun _ _ _ h => h) (Or.inl ⟨by rfl, ?_⟩) ?_ ?_
               rotate_left
               ·intro w'
                go_simp
                with_reducible rfl
               rotate_left
               ·simp only [Act.put, sia_, scz_, scs_, i64_w, i32_w]
                rfl
               exact norm_ (by simp only [putAll, Act.put, sia_, scz_, scs_]) (hCont (.slice Ao121 t267.length co121, v275, gb278) _ ⟨hHeld, (by (with_reducible repeat (first | apply Kd.R_alloc | apply Kd.R_drewN | apply Kd.R_drew)); exact Kd.R_mono HO269.out (fun _ hk => ⟨hk.2, ⟨hk.1.1.1.2, ⟨hk.1.1.2, hk.1.2⟩⟩⟩)), (by (with_reducible repeat (first | apply Kd.R_alloc | apply Kd.R_drewN | apply Kd.R_drew)); exact Kd.R_mono HO276.out (fun _ hk => ⟨hk.2, ⟨hk.1.1.1.2, ⟨hk.1.1.2, hk.1.2⟩⟩⟩)), (by (with_reducible repeat (first | apply Kd.R_alloc | apply Kd.R_drewN | apply Kd.R_drew)); exact Kd.R_mono HO_243000.out (fun _ hk => ⟨hk.1.2, ⟨hk.2, ⟨hk.1.1.1, hk.1.1.2⟩⟩⟩)), (by (with_reducible repeat (first | apply Kd.R_alloc | apply Kd.R_drewN | apply Kd.R_drew)); exact Kd.R_mono HO_247000.out (fun _ hk => ⟨hk.1.2, ⟨hk.2, ⟨hk.1.1.1, hk.1.1.2⟩⟩⟩)), (by (with_reducible repeat (first | apply Kd.R_alloc | apply Kd.R_drewN | apply Kd.R_drew)); exact Kd.R_mono HO_256000.out (fun _ hk => ⟨hk.1.2, ⟨hk.2, ⟨hk.1.1.1, hk.1.1.2⟩⟩⟩)), (bp_ BK227), (bp_ BK228), (bp_ BK242), (bp_ BK246), (bp_ BK255), (bp_ BK278), GW278.out, GE278.out, NB227_278.out, NB278_227.out, NB228_278.out, NB278_228.out, NB242_278.out, NB278_242.out, NB246_278.out, NB278_246.out, NB255_278.out, NB278_255.out, (bw_ HB)⟩)
             ·skip
              refine box_step ?hg (N := 14) ?hd (cs := #[.slice none 0 0]) (t := 31) ?hr ?_; (case hd => rfl); (case hg => rfl); (case hr => first | (go_simp; done) | (go_simp; rfl))
              intro gb278 hg w118 hbox hb
              have n0_ := rb_ HO_243000 hb
              have n1_ := rb_ HO_247000 hb
              have n2_ := rb_ HO_256000 hb
              have n3_ := bb_ BK227 hb; have n4_ := bb_ BK228 hb; have n5_ := bb_ BK242 hb; have n6_ := bb_ BK246 hb; have n7_ := bb_ BK255 hb
              have n8_ := bs_ HB hb
              have n9_ := mk_ (hbox)
              have n10_ : Aside0 (w.heap.size ≤ gb278) := bz_ hg
              have n11_ : Aside0 (w.heap.size ≤ gb278) := bz_ hg
              have n12_ : Aside0 (gb227 ≠ gb278) := bl_ BK227 hg
              have n13_ : Aside0 (gb278 ≠ gb227) := bg_ BK227 hg
              have n14_ : Aside0 (gb228 ≠ gb278) := bl_ BK228 hg
              have n15_ : Aside0 (gb278 ≠ gb228) := bg_ BK228 hg
              have n16_ : Aside0 (gb242 ≠ gb278) := bl_ BK242 hg
              have n17_ : Aside0 (gb278 ≠ gb242) := bg_ BK242 hg
              have n18_ : Aside0 (gb246 ≠ gb278) := bl_ BK246 hg
              have n19_ : Aside0 (gb278 ≠ gb246) := bg_ BK246 hg
              have n20_ : Aside0 (gb255 ≠ gb278) := bl_ BK255 hg
              have n21_ : Aside0 (gb278 ≠ gb255) := bg_ BK255 hg
              clear HO_243000; clear HO_247000; clear HO_256000; clear BK227; clear BK228; clear BK242; clear BK246; clear BK255; clear HB; have HO_243000 := n0_; have HO_247000 := n1_; have HO_256000 := n2_; have BK227 := n3_; have BK228 := n4_; have BK242 := n5_; have BK246 := n6_; have BK255 := n7_; have HB := n8_; have BK278 := n9_; have GW278 := n10_; have GE278 := n11_; have NB227_278 := n12_; have NB278_227 := n13_; have NB228_278 := n14_; have NB278_228 := n15_; have NB242_278 := n16_; have NB278_242 := n17_; have NB246_278 := n18_; have NB278_246 := n19_; have NB255_278 := n20_; have NB278_255 := n21_; clear n0_ n1_ n2_ n3_ n4_ n5_ n6_ n7_ n8_ n9_ n10_ n11_ n12_ n13_ n14_ n15_ n16_ n17_ n18_ n19_ n20_ n21_; clear hb hbox hg
              refine hK.out _ _ ⟨bc_ BK227 0, bc_ BK228 0, bc_ BK228 1, bc_ BK228 2, bc_ BK228 3⟩ (fun hHeld => ?_)
              clear hK K
              refine norm_ (a' := ?_) ?_ ?_
              rotate_left
              ·show Act.put _ (some 14) _ = _
               simp only [Act.put, sia_, scz_, scs_, i64_w, i32_w]
               rfl
              refine one_ (i := 1) (N := some 86) #[true, true, true, false, false, false, false, false, true, false, false] rfl rfl (one_of HT_.out (by kernel_rfl)) (by decide) (fun K hK => ?_)
              refine goes_ Try.func11 (by kernel_rfl) rfl #[.agg #[.slice A0_0 l0_0.length c0_0]] (by rfl) rfl rfl ga_ ?_
              with_reducible refine (laws_toDisk.calls kj75 _ _ l0_0 t267 _ ?side1 ?side2 A105.out).mono ?_
              (case side1 => repeat (first | exact (Kd.C_below HR0_0.out HB.out) | (with_reducible refine Kd.C_alloc ?_ _) | (with_reducible refine Kd.C_drewN ?_ _) | (with_reducible refine Kd.C_drew ?_)))
              (case side2 => exact HC0_0.out)
              rintro e w119 ⟨v268, rfl, ho0, hb⟩
              refine ⟨_, rfl, ?_⟩
              have n0_ := mk_ (Kd.R_elder' (rp_ HO_243000) (Kd.R_base ho0) hb)
              have n1_ := mk_ (Kd.R_elder' (rp_ HO_247000) (Kd.R_base ho0) hb)
              have n2_ := mk_ (Kd.R_elder' (rp_ HO_256000) (Kd.R_base ho0) hb)
              have n3_ := mk_ (Kd.R_lower (Kd.R_new' (Kd.R_new' (Kd.R_new' ho0 (Kd.R_lt (rp_ HO_243000))) (Kd.R_lt (rp_ HO_247000))) (Kd.R_lt (rp_ HO_256000))) (below_size (bw_ HB)))
              have n4_ := bb_ BK227 hb; have n5_ := bb_ BK228 hb; have n6_ := bb_ BK242 hb; have n7_ := bb_ BK246 hb; have n8_ := bb_ BK255 hb; have n9_ := bb_ BK278 hb
              have n10_ := bs_ HB hb
              clear HO_243000; clear HO_247000; clear HO_256000; clear BK227; clear BK228; clear BK242; clear BK246; clear BK255; clear BK278; clear HB; have HO_243000 := n0_; have HO_247000 := n1_; have HO_256000 := n2_; have HO269 := n3_; have BK227 := n4_; have BK228 := n5_; have BK242 := n6_; have BK246 := n7_; have BK255 := n8_; have BK278 := n9_; have HB := n10_; clear n0_ n1_ n2_ n3_ n4_ n5_ n6_ n7_ n8_ n9_ n10_; (try clear hb); (try clear hb2); (try clear hk); (try clear hi); (try clear ho0)
              refine hK.out _ _ ⟨bc_ BK227 0, bc_ BK228 0, bc_ BK228 1, bc_ BK228 2, bc_ BK228 3⟩ (fun hHeld => ?_)
              clear hK K
              refine norm_ (a' := ?_) ?_ ?_
              rotate_left
              ·show Act.put _ (some 86) _ = _
               simp only [Act.put, sia_, scz_, scs_, i64_w, i32_w]
               rfl
              refine one_ (i := 3) (N := some 88) #[true, true, true, true, false, false, false, false, true, false, false] rfl rfl (one_of HT_.out (by kernel_rfl)) (by decide) (fun K hK => ?_)
              refine goes_ Try.func12 (by kernel_rfl) rfl #[.agg #[.int .i64 a1_0, .string a1_1, .string a1_2, .string a1_3]] (by rfl) rfl rfl ga_ ?_
              with_reducible refine (laws_toAct.calls a1_0 a1_1 a1_2 a1_3 t270 t271 t272 t273 _ A106.out).mono ?_
              rintro e w120 ⟨rfl, hb⟩
              refine ⟨_, rfl, ?_⟩
              have n0_ := rb_ HO_243000 hb
              have n1_ := rb_ HO_247000 hb
              have n2_ := rb_ HO_256000 hb
              have n3_ := rb_ HO269 hb
              have n4_ := bb_ BK227 hb; have n5_ := bb_ BK228 hb; have n6_ := bb_ BK242 hb; have n7_ := bb_ BK246 hb; have n8_ := bb_ BK255 hb; have n9_ := bb_ BK278 hb
              have n10_ := bs_ HB hb
              clear HO_243000; clear HO_247000; clear HO_256000; clear HO269; clear BK227; clear BK228; clear BK242; clear BK246; clear BK255; clear BK278; clear HB; have HO_243000 := n0_; have HO_247000 := n1_; have HO_256000 := n2_; have HO269 := n3_; have BK227 := n4_; have BK228 := n5_; have BK242 := n6_; have BK246 := n7_; have BK255 := n8_; have BK278 := n9_; have HB := n10_; clear n0_ n1_ n2_ n3_ n4_ n5_ n6_ n7_ n8_ n9_ n10_; (try clear hb); (try clear hb2); (try clear hk); (try clear hi)
              obtain ⟨Ao121, co121, eo121⟩ := Kd.R_slice HO269.out
              (first | subst eo121 | (injection eo121 with f1_ f2_ f3_; have f4_ := f1_.symm; have f5_ := f3_.symm; clear f1_ f2_ f3_; subst f4_; subst f5_))
              refine hK.out _ _ ⟨bc_ BK227 0, bc_ BK228 0, bc_ BK228 1, bc_ BK228 2, bc_ BK228 3⟩ (fun hHeld => ?_)
              clear hK K
              refine norm_ (a' := ?_) ?_ ?_
              rotate_left
              ·show Act.put _ (some 88) _ = _
               simp only [Act.put, sia_, scz_, scs_, i64_w, i32_w]
               rfl
              refine one_ (i := 4) (N := some 89) #[true, true, true, true, true, false, false, false, true, false, false] rfl rfl (one_of HT_.out (by kernel_rfl)) (by decide) (fun K hK => ?_)
              refine goes_ Try.func13 (by kernel_rfl) rfl #[.agg #[.slice Ao121 t267.length co121], .agg #[.int .i64 t270, .string t271, .string t272, .string t273]] (by rfl) rfl rfl ga_ ?_
              with_reducible refine (impl_DoAct.calls kj75 _ _ t267 t270 t271 t272 t273 t274 t277 _ ?side1 ?side2 A107.out).mono ?_
              (case side1 => repeat (first | exact (Kd.R_reads' HO269.out).2.2 | (with_reducible refine Kd.C_alloc ?_ _) | (with_reducible refine Kd.C_drewN ?_ _) | (with_reducible refine Kd.C_drew ?_)))
              (case side2 => exact (Kd.R_reads' HO269.out).2.1)
              rintro e w122 ⟨v275, rfl, ho0, hb⟩
              refine ⟨_, rfl, ?_⟩
              have n0_ := mk_ (Kd.R_elder' (rp_ HO_243000) (Kd.R_base ho0) hb)
              have n1_ := mk_ (Kd.R_elder' (rp_ HO_247000) (Kd.R_base ho0) hb)
              have n2_ := mk_ (Kd.R_elder' (rp_ HO_256000) (Kd.R_base ho0) hb)
              have n3_ := mk_ (Kd.R_elder' (rp_ HO269) (Kd.R_base ho0) hb)
              have n4_ := mk_ (Kd.R_lower (Kd.R_new' (Kd.R_new' (Kd.R_new' (Kd.R_new' ho0 (Kd.R_lt (rp_ HO_243000))) (Kd.R_lt (rp_ HO_247000))) (Kd.R_lt (rp_ HO_256000))) (Kd.R_lt (rp_ HO269))) (below_size (bw_ HB)))
              have n5_ := bb_ BK227 hb; have n6_ := bb_ BK228 hb; have n7_ := bb_ BK242 hb; have n8_ := bb_ BK246 hb; have n9_ := bb_ BK255 hb; have n10_ := bb_ BK278 hb
              have n11_ := bs_ HB hb
              clear HO_243000; clear HO_247000; clear HO_256000; clear HO269; clear BK227; clear BK228; clear BK242; clear BK246; clear BK255; clear BK278; clear HB; have HO_243000 := n0_; have HO_247000 := n1_; have HO_256000 := n2_; have HO269 := n3_; have HO276 := n4_; have BK227 := n5_; have BK228 := n6_; have BK242 := n7_; have BK246 := n8_; have BK255 := n9_; have BK278 := n10_; have HB := n11_; clear n0_ n1_ n2_ n3_ n4_ n5_ n6_ n7_ n8_ n9_ n10_ n11_; (try clear hb); (try clear hb2); (try clear hk); (try clear hi); (try clear ho0)
              refine hK.out _ _ ⟨bc_ BK227 0, bc_ BK228 0, bc_ BK228 1, bc_ BK228 2, bc_ BK228 3⟩ (fun hHeld => ?_)
              clear hK K
              refine norm_ (a' := ?_) ?_ ?_
              rotate_left
              ·show Act.put _ (some 89) _ = _
               simp only [Act.put, sia_, scz_, scs_, i64_w, i32_w]
               rfl
              refine pure_ (i := 5) (N := some 84) (v := ?_) (a' := ?_) #[true, true, true, true, true, true, false, false, true, false, false] rfl rfl (any_of HT_.out (by kernel_rfl)) (fun _ _ _ h => h) (Or.inl ⟨by rfl, ?_⟩) ?_ ?_
              rotate_left
              ·intro w'
               go_simp
               with_reducible rfl
              rotate_left
              ·simp only [Act.put, sia_, scz_, scs_, i64_w, i32_w]
               rfl
              refine pure_ (i := 6) (N := some 90) (v := ?_) (a' := ?_) #[true, true, true, true, true, true, true, false, true, false, false] rfl rfl (any_of HT_.out (by kernel_rfl)) (fun _ _ _ h => h) (Or.inl ⟨by rfl, ?_⟩) ?_ ?_
              rotate_left
              ·intro w'
               go_simp
               with_reducible rfl
              rotate_left
              ·simp only [Act.put, sia_, scz_, scs_, i64_w, i32_w]
               rfl
              refine pure_ (i := 7) (N := some 91) (v := ?_) (a' := ?_) #[true, true, true, true, true, true, true, true, true, false, false] rfl rfl (any_of HT_.out (by kernel_rfl)) (fun _ _ _ h => h) (Or.inl ⟨by rfl, ?_⟩) ?_ ?_
              rotate_left
              ·intro w'
               go_simp
               with_reducible rfl
              rotate_left
              ·simp only [Act.put, sia_, scz_, scs_, i64_w, i32_w]
               rfl
              exact norm_ (by simp only [putAll, Act.put, sia_, scz_, scs_]) (hCont (.slice Ao121 t267.length co121, v275, gb278) _ ⟨hHeld, (by (with_reducible repeat (first | apply Kd.R_alloc | apply Kd.R_drewN | apply Kd.R_drew)); exact Kd.R_mono HO269.out (fun _ hk => ⟨hk.2, ⟨hk.1.1.1.2, ⟨hk.1.1.2, hk.1.2⟩⟩⟩)), (by (with_reducible repeat (first | apply Kd.R_alloc | apply Kd.R_drewN | apply Kd.R_drew)); exact Kd.R_mono HO276.out (fun _ hk => ⟨hk.2, ⟨hk.1.1.1.2, ⟨hk.1.1.2, hk.1.2⟩⟩⟩)), (by (with_reducible repeat (first | apply Kd.R_alloc | apply Kd.R_drewN | apply Kd.R_drew)); exact Kd.R_mono HO_243000.out (fun _ hk => ⟨hk.1.2, ⟨hk.2, ⟨hk.1.1.1, hk.1.1.2⟩⟩⟩)), (by (with_reducible repeat (first | apply Kd.R_alloc | apply Kd.R_drewN | apply Kd.R_drew)); exact Kd.R_mono HO_247000.out (fun _ hk => ⟨hk.1.2, ⟨hk.2, ⟨hk.1.1.1, hk.1.1.2⟩⟩⟩)), (by (with_reducible repeat (first | apply Kd.R_alloc | apply Kd.R_drewN | apply Kd.R_drew)); exact Kd.R_mono HO_256000.out (fun _ hk => ⟨hk.1.2, ⟨hk.2, ⟨hk.1.1.1, hk.1.1.2⟩⟩⟩)), (bp_ BK227), (bp_ BK228), (bp_ BK242), (bp_ BK246), (bp_ BK255), (bp_ BK278), GW278.out, GE278.out, NB227_278.out, NB278_227.out, NB228_278.out, NB278_228.out, NB242_278.out, NB278_242.out, NB246_278.out, NB278_246.out, NB255_278.out, NB278_255.out, (bw_ HB)⟩)
            rintro ⟨v268, v275, gb278⟩ w123 ⟨hS_, h0_, h1_, h2_, h3_, h4_, h5_, h6_, h7_, h8_, h9_, h10_, h11_, h12_, h13_, h14_, h15_, h16_, h17_, h18_, h19_, h20_, h21_, h22_, h23_⟩
            have n0_ : Aside0 (Kd.R k76 76 w123 w.heap.size (fun k_ => some k_ ≠ (v275 : Value).ownBlock ∧ some k_ ≠ (.slice Ao40 t238.length co40 : Value).ownBlock ∧ some k_ ≠ (.slice Ao46 t262.length co46 : Value).ownBlock ∧ some k_ ≠ (.slice Ao57 t251.length co57 : Value).ownBlock) v268 t267) := ⟨h0_⟩
            have n1_ : Aside0 (Kd.R k76 76 w123 w.heap.size (fun k_ => some k_ ≠ (v268 : Value).ownBlock ∧ some k_ ≠ (.slice Ao40 t238.length co40 : Value).ownBlock ∧ some k_ ≠ (.slice Ao46 t262.length co46 : Value).ownBlock ∧ some k_ ≠ (.slice Ao57 t251.length co57 : Value).ownBlock) v275 t274) := ⟨h1_⟩
            have n2_ : Aside0 (Kd.R k76 76 w123 w.heap.size (fun k_ => some k_ ≠ (v268 : Value).ownBlock ∧ some k_ ≠ (v275 : Value).ownBlock ∧ some k_ ≠ (.slice Ao46 t262.length co46 : Value).ownBlock ∧ some k_ ≠ (.slice Ao57 t251.length co57 : Value).ownBlock) (.slice Ao40 t238.length co40) t238) := ⟨h2_⟩
            have n3_ : Aside0 (Kd.R k76 76 w123 w.heap.size (fun k_ => some k_ ≠ (v268 : Value).ownBlock ∧ some k_ ≠ (v275 : Value).ownBlock ∧ some k_ ≠ (.slice Ao40 t238.length co40 : Value).ownBlock ∧ some k_ ≠ (.slice Ao57 t251.length co57 : Value).ownBlock) (.slice Ao46 t262.length co46) t262) := ⟨h3_⟩
            have n4_ : Aside0 (Kd.R k76 76 w123 w.heap.size (fun k_ => some k_ ≠ (v268 : Value).ownBlock ∧ some k_ ≠ (v275 : Value).ownBlock ∧ some k_ ≠ (.slice Ao40 t238.length co40 : Value).ownBlock ∧ some k_ ≠ (.slice Ao46 t262.length co46 : Value).ownBlock) (.slice Ao57 t251.length co57) t265) := ⟨h4_⟩
            have n5_ : Aside0 (w123.heap[gb227]? = some (.cells #[.slice A0_0 l0_0.length c0_0] 24 (0, 0))) := ⟨h5_⟩
            have n6_ : Aside0 (w123.heap[gb228]? = some (.cells #[.int .i64 a1_0, .string a1_1, .string a1_2, .string a1_3] 26 (0, 0))) := ⟨h6_⟩
            have n7_ : Aside0 (w123.heap[gb242]? = some (.cells #[.slice Ao40 t238.length co40] 31 (0, 0))) := ⟨h7_⟩
            have n8_ : Aside0 (w123.heap[gb246]? = some (.cells #[.slice Ao46 t262.length co46] 31 (0, 0))) := ⟨h8_⟩
            have n9_ : Aside0 (w123.heap[gb255]? = some (.cells #[.slice Ao57 t251.length co57] 31 (0, 0))) := ⟨h9_⟩
            have n10_ : Aside0 (w123.heap[gb278]? = some (.cells #[.slice none 0 0] 31 (0, 0))) := ⟨h10_⟩
            have n11_ : Aside0 (w.heap.size ≤ gb278) := ⟨h11_⟩
            have n12_ : Aside0 (w.heap.size ≤ gb278) := ⟨h12_⟩
            have n13_ : Aside0 (gb227 ≠ gb278) := ⟨h13_⟩
            have n14_ : Aside0 (gb278 ≠ gb227) := ⟨h14_⟩
            have n15_ : Aside0 (gb228 ≠ gb278) := ⟨h15_⟩
            have n16_ : Aside0 (gb278 ≠ gb228) := ⟨h16_⟩
            have n17_ : Aside0 (gb242 ≠ gb278) := ⟨h17_⟩
            have n18_ : Aside0 (gb278 ≠ gb242) := ⟨h18_⟩
            have n19_ : Aside0 (gb246 ≠ gb278) := ⟨h19_⟩
            have n20_ : Aside0 (gb278 ≠ gb246) := ⟨h20_⟩
            have n21_ : Aside0 (gb255 ≠ gb278) := ⟨h21_⟩
            have n22_ : Aside0 (gb278 ≠ gb255) := ⟨h22_⟩
            have n23_ : Aside0 (Below w.heap.size w w123) := ⟨h23_⟩
            clear HO_243000; clear HO_247000; clear HO_256000; clear BK227; clear BK228; clear BK242; clear BK246; clear BK255; clear HB; clear h0_ h1_ h2_ h3_ h4_ h5_ h6_ h7_ h8_ h9_ h10_ h11_ h12_ h13_ h14_ h15_ h16_ h17_ h18_ h19_ h20_ h21_ h22_ h23_; have HO269 := n0_; have HO276 := n1_; have HO_243000 := n2_; have HO_247000 := n3_; have HO_256000 := n4_; have BK227 := n5_; have BK228 := n6_; have BK242 := n7_; have BK246 := n8_; have BK255 := n9_; have BK278 := n10_; have GW278 := n11_; have GE278 := n12_; have NB227_278 := n13_; have NB278_227 := n14_; have NB228_278 := n15_; have NB278_228 := n16_; have NB242_278 := n17_; have NB278_242 := n18_; have NB246_278 := n19_; have NB278_246 := n20_; have NB255_278 := n21_; have NB278_255 := n22_; have HB := n23_; clear n0_ n1_ n2_ n3_ n4_ n5_ n6_ n7_ n8_ n9_ n10_ n11_ n12_ n13_ n14_ n15_ n16_ n17_ n18_ n19_ n20_ n21_ n22_ n23_
            have hHeld : w123.cell? ⟨gb227, 0, none⟩ = some (.slice A0_0 l0_0.length c0_0) ∧ w123.cell? ⟨gb228, 0, none⟩ = some (.int .i64 a1_0) ∧ w123.cell? ⟨gb228, 1, none⟩ = some (.string a1_1) ∧ w123.cell? ⟨gb228, 2, none⟩ = some (.string a1_2) ∧ w123.cell? ⟨gb228, 3, none⟩ = some (.string a1_3) := hS_
            obtain ⟨Ao124, co124, eo124⟩ := Kd.R_slice HO276.out
            (first | subst eo124 | (injection eo124 with f1_ f2_ f3_; have f4_ := f1_.symm; have f5_ := f3_.symm; clear f1_ f2_ f3_; subst f4_; subst f5_))
            refine norm_ (a' := ?_) ?_ ?_
            rotate_left
            ·simp only [putAll, Act.put, sia_, scz_, scs_]
             rfl
            refine one_ (i := 9) (N := none) #[true, true, true, true, true, true, true, true, true, true, false] rfl rfl (one_of HT_.out (by kernel_rfl)) (by decide) (fun K hK => ?_)
            have hs125 : w123.cell? ⟨gb278, 0, none⟩ = some (.slice none 0 0) := bc_ BK278 0
            have hfs125 := blk_frozen BK278.out 0
            have hns125_0 := NB227_278.out
            have hns125_1 := NB228_278.out
            have hns125_2 := NB242_278.out
            have hns125_3 := NB246_278.out
            have hns125_4 := NB255_278.out
            have hms125_0 := NB278_227.out
            have hms125_1 := NB278_228.out
            have hms125_2 := NB278_242.out
            have hms125_3 := NB278_246.out
            have hms125_4 := NB278_255.out
            refine skip_ (w1 := ?_) (by rfl) rfl ?_ ?_
            rotate_left
            ·go_simp
             rfl
            refine hK.out _ _ ⟨((cell_far (p := ⟨gb278, _, none⟩) NB227_278.out _).trans (hHeld.1)), ((cell_far (p := ⟨gb278, _, none⟩) NB228_278.out _).trans (hHeld.2.1)), ((cell_far (p := ⟨gb278, _, none⟩) NB228_278.out _).trans (hHeld.2.2.1)), ((cell_far (p := ⟨gb278, _, none⟩) NB228_278.out _).trans (hHeld.2.2.2.1)), ((cell_far (p := ⟨gb278, _, none⟩) NB228_278.out _).trans (hHeld.2.2.2.2))⟩ (fun hHeld => ?_)
            clear hK K
            refine pure_ (i := 10) (N := some 15) (v := ?_) (a' := ?_) #[true, true, true, true, true, true, true, true, true, true, true] rfl rfl (any_of HT_.out (by kernel_rfl)) (fun _ _ _ h => h) (Or.inl ⟨by rfl, ?_⟩) ?_ ?_
            rotate_left
            ·intro w'
             go_simp
             with_reducible rfl
            rotate_left
            ·simp only [Act.put, sia_, scz_, scs_, i64_w, i32_w]
             rfl
            refine done_ (done_of HT_.out (by kernel_rfl)) ?_
            go_upto_region 28 with (fail)
            go_cut [100] (fun v100 wc => ∃ (kq : Nat) (x100_107 : Bool), v100 = .bool x100_107 ∧ Aside0 (laws_FnExactDoAct.j2 kq t264 x100_107 t265 = some r) ∧ Aside0 (kq ≤ kj75) ∧ Aside0 (Kd.R k76 76 wc w.heap.size (fun k_ => some k_ ≠ ((.slice Ao46 t262.length co46) : Value).ownBlock ∧ some k_ ≠ ((.slice Ao57 t251.length co57) : Value).ownBlock ∧ some k_ ≠ ((.slice Ao124 t274.length co124) : Value).ownBlock) (.slice Ao40 t238.length co40) t238) ∧ Aside0 (Kd.R k76 76 wc w.heap.size (fun k_ => some k_ ≠ ((.slice Ao40 t238.length co40) : Value).ownBlock ∧ some k_ ≠ ((.slice Ao57 t251.length co57) : Value).ownBlock ∧ some k_ ≠ ((.slice Ao124 t274.length co124) : Value).ownBlock) (.slice Ao46 t262.length co46) t262) ∧ Aside0 (Kd.R k76 76 wc w.heap.size (fun k_ => some k_ ≠ ((.slice Ao40 t238.length co40) : Value).ownBlock ∧ some k_ ≠ ((.slice Ao46 t262.length co46) : Value).ownBlock ∧ some k_ ≠ ((.slice Ao124 t274.length co124) : Value).ownBlock) (.slice Ao57 t251.length co57) t265) ∧ Aside0 (Kd.R k76 76 wc w.heap.size (fun k_ => some k_ ≠ ((.slice Ao40 t238.length co40) : Value).ownBlock ∧ some k_ ≠ ((.slice Ao46 t262.length co46) : Value).ownBlock ∧ some k_ ≠ ((.slice Ao57 t251.length co57) : Value).ownBlock) (.slice Ao124 t274.length co124) t274) ∧ Aside0 (wc.heap[gb227]? = some (.cells #[(.slice A0_0 l0_0.length c0_0)] 24 (0, 0))) ∧ Aside0 (wc.heap[gb228]? = some (.cells #[.int .i64 a1_0, .string a1_1, .string a1_2, .string a1_3] 26 (0, 0))) ∧ Aside0 (wc.heap[gb242]? = some (.cells #[(.slice Ao40 t238.length co40)] 31 (0, 0))) ∧ Aside0 (wc.heap[gb246]? = some (.cells #[(.slice Ao46 t262.length co46)] 31 (0, 0))) ∧ Aside0 (wc.heap[gb255]? = some (.cells #[(.slice Ao57 t251.length co57)] 31 (0, 0))) ∧ Aside0 (wc.heap[gb278]? = some (.cells #[(.slice Ao124 t274.length co124)] 31 (0, 0))) ∧ Aside0 (Below w.heap.size w wc))
            case first =>
             have H := HC108.out
             clear HC108
             replace H := Option.bind_eq_some_iff.mp H
             obtain ⟨t279, A1260, H⟩ := H
             replace H : (if t279 = true then (laws_FnExactDoAct.j2 kj75 t264 (t277 != t241) t265) else (none)) = some r := H
             have A126 := Aside0.mk A1260
             clear A1260
             by_cases c127 : t279 = true
             ·subst c127
              have H1 : (laws_FnExactDoAct.j2 kj75 t264 (t277 != t241) t265) = some r := by rw [if_pos rfl] at H; exact H
              clear H
              have H := H1
              clear H1
              have H' := Aside0.mk H
              clear H
              have hnb128 := NB278_227.out
              have hnc128 := NB227_278.out
              have hnb129 := NB278_228.out
              have hnc129 := NB228_278.out
              have hnb130 := NB278_242.out
              have hnc130 := NB242_278.out
              have hnb131 := NB278_246.out
              have hnc131 := NB246_278.out
              have hnb132 := NB278_255.out
              have hnc132 := NB255_278.out
              have hcz133_0 : w123.cell? ⟨gb278, 0, none⟩ = some (.slice none 0 0) := bc_ BK278 0
              have hfz133_0 := blk_frozen BK278.out 0
              have hnb134 := NB242_227.out
              have hnc134 := NB227_242.out
              have hnb135 := NB242_228.out
              have hnc135 := NB228_242.out
              have hnb136 := NB242_246.out
              have hnc136 := NB246_242.out
              have hnb137 := NB242_255.out
              have hnc137 := NB255_242.out
              have hcz138_0 : w123.cell? ⟨gb242, 0, none⟩ = some (.slice Ao40 t238.length co40) := bc_ BK242 0
              have hfz138_0 := blk_frozen BK242.out 0
              go_wp2_with (first | ((with_reducible refine gate_callee (f := 14) rfl ?_); refine goesL_ (some 94) rfl rfl Try.func14 (by kernel_rfl) rfl #[.agg #[.slice Ao124 t274.length co124], .agg #[.slice Ao40 t238.length co40]] rfl ga_ ?_; (with_reducible refine (laws_eqDisk.calls kj75 _ _ t274 _ _ t238 true _ ?side1 ?side2 ?side3 ?side4 A126.out).mono ?_); (case side1 => refine (Kd.R_reads' (e := 76) (base := w.heap.size) (ok := fun k_ => (some k_ ≠ (v268 : Value).ownBlock ∧ (some k_ ≠ (.slice Ao40 t238.length co40 : Value).ownBlock ∧ (some k_ ≠ (.slice Ao46 t262.length co46 : Value).ownBlock ∧ some k_ ≠ (.slice Ao57 t251.length co57 : Value).ownBlock)))) (n := t274.length) (c := co124) ?_).2.2; exact (by (with_reducible repeat (first | apply Kd.R_alloc | apply Kd.R_drewN | apply Kd.R_drew)); exact (Kd.R_mono (Kd.R_far (p := ⟨gb278, 0, none⟩) (Kd.R_types HO276.out BK278.out (by decide)) (fun _ hk => hk.2) (.slice Ao124 t274.length co124)) (fun _ h_ => h_.1)))); (case side2 => exact (Kd.R_reads' HO276.out).2.1); (case side3 => refine (Kd.R_reads' (e := 76) (base := w.heap.size) (ok := fun k_ => (some k_ ≠ (v268 : Value).ownBlock ∧ (some k_ ≠ (.slice Ao124 t274.length co124 : Value).ownBlock ∧ (some k_ ≠ (.slice Ao46 t262.length co46 : Value).ownBlock ∧ some k_ ≠ (.slice Ao57 t251.length co57 : Value).ownBlock)))) (n := t238.length) (c := co40) ?_).2.2; exact (by (with_reducible repeat (first | apply Kd.R_alloc | apply Kd.R_drewN | apply Kd.R_drew)); exact (Kd.R_mono (Kd.R_far (p := ⟨gb278, 0, none⟩) (Kd.R_types HO_243000.out BK278.out (by decide)) (fun _ hk => hk.2) (.slice Ao124 t274.length co124)) (fun _ h_ => h_.1)))); (case side4 => exact (Kd.R_reads' HO_243000.out).2.1); rintro e w139 ⟨rfl, hb⟩; refine ⟨_, rfl, ?_⟩; replace HO_243000 := mk_ (Kd.R_below (by (with_reducible repeat (first | apply Kd.R_alloc | apply Kd.R_drewN | apply Kd.R_drew)); exact (Kd.R_mono (Kd.R_far (p := ⟨gb278, 0, none⟩) (Kd.R_types HO_243000.out BK278.out (by decide)) (fun _ hk => hk.2) (.slice Ao124 t274.length co124)) (fun _ h_ => h_.1))) hb); replace HO_247000 := mk_ (Kd.R_below (by (with_reducible repeat (first | apply Kd.R_alloc | apply Kd.R_drewN | apply Kd.R_drew)); exact (Kd.R_mono (Kd.R_far (p := ⟨gb278, 0, none⟩) (Kd.R_types HO_247000.out BK278.out (by decide)) (fun _ hk => hk.2) (.slice Ao124 t274.length co124)) (fun _ h_ => h_.1))) hb); replace HO_256000 := mk_ (Kd.R_below (by (with_reducible repeat (first | apply Kd.R_alloc | apply Kd.R_drewN | apply Kd.R_drew)); exact (Kd.R_mono (Kd.R_far (p := ⟨gb278, 0, none⟩) (Kd.R_types HO_256000.out BK278.out (by decide)) (fun _ hk => hk.2) (.slice Ao124 t274.length co124)) (fun _ h_ => h_.1))) hb); replace HO269 := mk_ (Kd.R_below (by (with_reducible repeat (first | apply Kd.R_alloc | apply Kd.R_drewN | apply Kd.R_drew)); exact (Kd.R_mono (Kd.R_far (p := ⟨gb278, 0, none⟩) (Kd.R_types HO269.out BK278.out (by decide)) (fun _ hk => hk.2) (.slice Ao124 t274.length co124)) (fun _ h_ => h_.1))) hb); replace HO276 := mk_ (Kd.R_below (by (with_reducible repeat (first | apply Kd.R_alloc | apply Kd.R_drewN | apply Kd.R_drew)); exact (Kd.R_mono (Kd.R_far (p := ⟨gb278, 0, none⟩) (Kd.R_types HO276.out BK278.out (by decide)) (fun _ hk => hk.2) (.slice Ao124 t274.length co124)) (fun _ h_ => h_.1))) hb); replace BK227 := mk_ (blk_below (g := gb227) (o := .cells #[.slice A0_0 l0_0.length c0_0] 24 (0, 0)) bf_ hb); replace BK228 := mk_ (blk_below (g := gb228) (o := .cells #[.int .i64 a1_0, .string a1_1, .string a1_2, .string a1_3] 26 (0, 0)) bf_ hb); replace BK242 := mk_ (blk_below (g := gb242) (o := .cells #[.slice Ao40 t238.length co40] 31 (0, 0)) bf_ hb); replace BK246 := mk_ (blk_below (g := gb246) (o := .cells #[.slice Ao46 t262.length co46] 31 (0, 0)) bf_ hb); replace BK255 := mk_ (blk_below (g := gb255) (o := .cells #[.slice Ao57 t251.length co57] 31 (0, 0)) bf_ hb); replace BK278 := mk_ (blk_below (g := gb278) (o := .cells #[.slice Ao124 t274.length co124] 31 (0, 0)) bu_ hb); replace HB := bs_ HB hb; (try clear hb); (try clear hk)))
              go_meet
              case rel => exact ⟨_, ((t277 != t241)), (by first | rfl | (simp; done) | (simp [*]; done)), H', ⟨by have := HJ24.out; have := HJ75.out; first | omega | exact Nat.le_refl _⟩, ⟨by (try simp only [hl247000_75]); (with_reducible repeat (first | apply Kd.R_alloc | apply Kd.R_drewN | apply Kd.R_drew)); exact Kd.R_mono HO_243000.out (fun _ hk => ⟨hk.2.2.1, ⟨hk.2.2.2, hk.2.1⟩⟩)⟩, ⟨by (try simp only [hl247000_75]); (with_reducible repeat (first | apply Kd.R_alloc | apply Kd.R_drewN | apply Kd.R_drew)); exact Kd.R_mono HO_247000.out (fun _ hk => ⟨hk.2.2.1, ⟨hk.2.2.2, hk.2.1⟩⟩)⟩, ⟨by (try simp only [hl247000_75]); (with_reducible repeat (first | apply Kd.R_alloc | apply Kd.R_drewN | apply Kd.R_drew)); exact Kd.R_mono HO_256000.out (fun _ hk => ⟨hk.2.2.1, ⟨hk.2.2.2, hk.2.1⟩⟩)⟩, ⟨by (try simp only [hl247000_75]); (with_reducible repeat (first | apply Kd.R_alloc | apply Kd.R_drewN | apply Kd.R_drew)); exact Kd.R_mono HO276.out (fun _ hk => ⟨hk.2.1, ⟨hk.2.2.1, hk.2.2.2⟩⟩)⟩, ⟨by (try simp only [hl247000_75]); (with_reducible repeat (first | refine blk_drewN ?_ _ | refine blk_drew ?_ | refine blk_alloc ?_ _)); exact BK227.out⟩, ⟨by (try simp only [hl247000_75]); (with_reducible repeat (first | refine blk_drewN ?_ _ | refine blk_drew ?_ | refine blk_alloc ?_ _)); exact BK228.out⟩, ⟨by (try simp only [hl247000_75]); (with_reducible repeat (first | refine blk_drewN ?_ _ | refine blk_drew ?_ | refine blk_alloc ?_ _)); exact BK242.out⟩, ⟨by (try simp only [hl247000_75]); (with_reducible repeat (first | refine blk_drewN ?_ _ | refine blk_drew ?_ | refine blk_alloc ?_ _)); exact BK246.out⟩, ⟨by (try simp only [hl247000_75]); (with_reducible repeat (first | refine blk_drewN ?_ _ | refine blk_drew ?_ | refine blk_alloc ?_ _)); exact BK255.out⟩, ⟨by (try simp only [hl247000_75]); (with_reducible repeat (first | refine blk_drewN ?_ _ | refine blk_drew ?_ | refine blk_alloc ?_ _)); exact BK278.out⟩, ⟨bw_ HB⟩⟩
             ·replace c127 := Bool.eq_false_iff.mpr c127
              subst c127
              have H1 : (none) = some r := by rw [if_neg (show ¬ (false = true) by decide)] at H; exact H
              clear H
              have H := H1
              clear H1
              exact absurd H (by simp)
            case rest =>
             clear HC108
             try clear c1
             try clear p2
             try clear c11
             try clear c12
             try clear c13
             try clear c14
             try clear c127
             try clear c128
             try clear c129
             try clear c130
             try clear c131
             try clear c132
             try clear c134
             try clear c135
             try clear c136
             try clear c137
             try clear hcz133_0
             try clear hcz138_0
             try clear hfz133_0
             try clear hfz138_0
             obtain ⟨kq, x100_107, rfl, HA, HJ107, HO_243000, HO_247000, HO_256000, HO_279000, BK227, BK228, BK242, BK246, BK255, BK278, HB⟩ := hcut
             have hl256000_107 := (Kd.R_reads' HO_256000.out).1
             rw [hl256000_107] at HO_256000
             (try simp only [hl256000_107])
             (try simp only [hl256000_107] at BK227)
             (try simp only [hl256000_107] at BK228)
             (try simp only [hl256000_107] at BK242)
             (try simp only [hl256000_107] at BK246)
             (try simp only [hl256000_107] at BK255)
             (try simp only [hl256000_107] at BK278)
             (try simp only [hl256000_107] at HO_243000)
             (try simp only [hl256000_107] at HO_247000)
             (try simp only [hl256000_107] at HO_279000)
             cases kq with
             | zero => exact absurd HA.out (by simp [laws_FnExactDoAct.j2])
             | succ kj107 =>
              have H := HA.out
              clear HA
              simp only [laws_FnExactDoAct.j2] at H
              by_cases c140 : x100_107 = true
              ·subst c140
               have H1 : (none) = some r := by rw [if_pos rfl] at H; exact H
               clear H
               have H := H1
               clear H1
               exact absurd H (by simp)
              ·replace c140 := Bool.eq_false_iff.mpr c140
               subst c140
               have H1 : ((laws_heldDisk.f kj107 t265 1).bind fun t280 => (if t280 < 0 then (none) else (if t280 = t264 then (some true) else (none)))) = some r := by rw [if_neg (show ¬ (false = true) by decide)] at H; exact H
               clear H
               have H := H1
               clear H1
               replace H := Option.bind_eq_some_iff.mp H
               obtain ⟨t280, A1410, H⟩ := H
               replace H : (if t280 < 0 then (none) else (if t280 = t264 then (some true) else (none))) = some r := H
               have A141 := Aside0.mk A1410
               clear A1410
               by_cases c142 : t280 < 0
               ·rw [if_pos c142] at H
                exact absurd H (by simp)
               ·rw [if_neg c142] at H
                have c142b0 : decide (t280 < 0) = false := decide_eq_false c142
                clear c142
                by_cases c143 : t280 = t264
                ·rw [if_pos c143] at H
                 have c143b0 : (t280 == t264) = true := beq_iff_eq.mpr c143
                 have c143b1 : (t280 != t264) = false := bne_eq_false_iff_eq.mpr c143
                 clear c143
                 obtain rfl := Option.some.inj H
                 have hnb144 := NB255_227.out
                 have hnc144 := NB227_255.out
                 have hnb145 := NB255_228.out
                 have hnc145 := NB228_255.out
                 have hnb146 := NB255_242.out
                 have hnc146 := NB242_255.out
                 have hnb147 := NB255_246.out
                 have hnc147 := NB246_255.out
                 have hnb148 := NB255_278.out
                 have hnc148 := NB278_255.out
                 have hcz149_0 : wc.cell? ⟨gb255, 0, none⟩ = some (.slice Ao57 t265.length co57) := bc_ BK255 0
                 have hfz149_0 := blk_frozen BK255.out 0
                 go_wp2_with (first | ((with_reducible refine gate_callee (f := 16) rfl ?_); refine goesL_ (some 103) rfl rfl Try.func16 (by kernel_rfl) rfl #[.agg #[.slice Ao57 t265.length co57], .int .i64 1] rfl ga_ ?_; (with_reducible refine (laws_heldDisk.calls kj107 _ _ t265 1 t280 _ ?side1 ?side2 A141.out).mono ?_); (case side1 => repeat (first | exact (Kd.R_reads' HO_256000.out).2.2 | (with_reducible refine Kd.C_alloc ?_ _) | (with_reducible refine Kd.C_drewN ?_ _) | (with_reducible refine Kd.C_drew ?_))); (case side2 => exact (Kd.R_reads' HO_256000.out).2.1); rintro e w150 ⟨rfl, hb⟩; refine ⟨_, rfl, ?_⟩; replace HO_243000 := rb_ HO_243000 hb; replace HO_247000 := rb_ HO_247000 hb; replace HO_256000 := rb_ HO_256000 hb; replace HO_279000 := rb_ HO_279000 hb; replace BK227 := bb_ BK227 hb; replace BK228 := bb_ BK228 hb; replace BK242 := bb_ BK242 hb; replace BK246 := bb_ BK246 hb; replace BK255 := bb_ BK255 hb; replace BK278 := bb_ BK278 hb; replace HB := bs_ HB hb; (try clear hb)))
                 go_ret
                 exact ⟨er_, bw_ HB⟩
                ·rw [if_neg c143] at H
                 exact absurd H (by simp)
           ·rw [if_neg c104] at H
            exact absurd H (by simp)
      ·replace c74 := Bool.eq_false_iff.mpr c74
       subst c74
       have H1 : (none) = some r := by rw [if_neg (show ¬ (false = true) by decide)] at H; exact H
       clear H
       have H := H1
       clear H1
       exact absurd H (by simp)

end Go.Proofs.Ythbaoefbccdioaa.QFnExactDoAct
