/- Written by this session's own program (wip/tpl/pp.py): what the law's functions come to, and that the machine's calls do just that. -/
import Derived.Test.YthbaoefbccdioaaQFnExactCutActsx0
import Derived.Test.YthbaoefbccdioaaQFnExactCutActsx1
import Derived.Test.YthbaoefbccdioaaQFnExactCutActsx2
import Derived.Test.YthbaoefbccdioaaQFnExactCutActsx3
import Derived.Test.YthbaoefbccdioaaQFnExactCutActsx4
import Derived.Test.YthbaoefbccdioaaQFnExactCutActsx5
import Derived.Test.YthbaoefbccdioaaQFnExactCutActsx8
import Derived.Test.YthbaoefbccdioaaQFnExactCutActsx15
import Derived.Test.YthbaoefbccdioaaQFnExactCutActsx16
namespace Go.Proofs.Ythbaoefbccdioaa.QFnExactCutActs
open Go.RowKit Go.Proofs.YthbaoefbccdioaaW.PrintWords Go.Proofs.YthbaoefbccdioaaW.PrintLast Go.Proofs.YthbaoefbccdioaaW.PrintMore
attribute [local go_sem] Go.Proofs.Ythbaoefbccdioaa.Sem.string_geq Go.Proofs.Ythbaoefbccdioaa.Sem.string_leq Go.Proofs.Ythbaoefbccdioaa.Sem.string_gtr
attribute [local go_sem] max2_int min2_int max_two min_two max_three min_three max_four min_four   -- for this text's walks alone
set_option linter.unusedVariables false
set_option linter.unusedSimpArgs false

/-! ### laws_FnExactCutActs: function 7 -/
mutual
def laws_FnExactCutActs.j0 : Nat → List (S26) → Int → List Int → Bool → List (S35) → List Int → Bool → Bool → List (S112) → List (S76) → List (S76) → List (S76) → Option (Bool)
 | 0, _, _, _, _, _, _, _, _, _, _, _, _ => none
 | k + 1, x1, x2, x3, x11, x13, x14, x16, x68, x338000, x354000, x358000, x369000 => if x68 = true then (none) else ((laws_toDisk.f k x338000).bind fun t370 => ((laws_eqDisk.f k x358000 t370).bind fun t373 => (if t373 = true then ((laws_toActS.f k x1).bind fun t374 => ((laws_eqActS.f k x13 t374).bind fun t377 => (if t377 = true then ((laws_toIntS.f k x3).bind fun t378 => ((laws_eqIntS.f k x14 t378).bind fun t381 => (if t381 = true then ((laws_markDisk.f k x358000 1).bind fun bt382 => ((laws_markActS.f k x13 bt382.1).bind fun bt384 => ((laws_markIntS.f k x14 bt384.1).bind fun bt386 => (if bt386.1 < 0 then (none) else ((laws_eqDisk.f k x369000 x354000).bind fun t388 => (if t388 = true then (laws_FnExactCutActs.j1 k x1 x2 x3 x11 (x16 != x11) x338000 x354000 x369000) else (none))))))) else (none)))) else (none)))) else (none))))
def laws_FnExactCutActs.j1 : Nat → List (S26) → Int → List Int → Bool → Bool → List (S112) → List (S76) → List (S76) → Option (Bool)
 | 0, _, _, _, _, _, _, _, _ => none
 | k + 1, x1, x2, x3, x11, x105, x338000, x354000, x369000 => if x105 = true then (none) else ((laws_markDisk.f k x369000 1).bind fun bt389 => ((laws_heldDisk.f k bt389.2 1).bind fun t391 => (if t391 < 0 then (none) else (if t391 = bt389.1 then ((laws_toDisk.f k x338000).bind fun t392 => ((laws_toActS.f k x1).bind fun t395 => ((laws_toIntS.f k x3).bind fun t398 => ((impl_CutActs.f k t392 t395 x2 t398).bind fun bt401 => ((laws_eqDisk.f k bt401.1 x354000).bind fun t406 => (if t406 = true then (laws_FnExactCutActs.j2 k bt389.1 (bt401.2 != x11) bt389.2) else (none))))))) else (none)))))
def laws_FnExactCutActs.j2 : Nat → Int → Bool → List (S76) → Option (Bool)
 | 0, _, _, _ => none
 | k + 1, x18, x136, x369000 => if x136 = true then (none) else ((laws_heldDisk.f k x369000 1).bind fun t407 => (if t407 < 0 then (none) else (if t407 = x18 then (some true) else (none))))
end
def laws_FnExactCutActs.f (k : Nat) (l0_0 : List (S112)) (l1 : List (S26)) (a2 : Int) (l3 : List Int) : Option (Bool) := if (l3.length : Int) > 1048576 then (some true) else ((laws_szDisk.f k l0_0 1048576).bind fun t338 => (if t338 < 0 then (some true) else ((laws_szActS.f k l1 t338).bind fun t339 => (if t339 < 0 then (some true) else ((laws_toDisk.f k l0_0).bind fun t340 => ((laws_toActS.f k l1).bind fun t343 => ((laws_toIntS.f k l3).bind fun t346 => ((spec_CutActs.f k t340 t343 a2 t346).bind fun bt349 => ((laws_toDisk.f k l0_0).bind fun t354 => ((laws_toActS.f k l1).bind fun t358 => ((laws_toIntS.f k l3).bind fun t361 => ((impl_CutActs.f k t354 t358 a2 t361).bind fun bt364 => ((laws_eqDisk.f k bt364.1 bt349.1).bind fun t369 => (if t369 = true then (laws_FnExactCutActs.j0 k l1 a2 l3 bt349.2 t358 t361 bt364.2 (bt364.2 != bt349.2) l0_0 bt349.1 t354 bt364.1) else (none)))))))))))))))
theorem laws_FnExactCutActs.mono_l : ∀ k, (∀ y0 y1 y2 y3 y4 y5 y6 y7 y8 y9 y10 y11, LeO (laws_FnExactCutActs.j0 k y0 y1 y2 y3 y4 y5 y6 y7 y8 y9 y10 y11) (laws_FnExactCutActs.j0 (k + 1) y0 y1 y2 y3 y4 y5 y6 y7 y8 y9 y10 y11)) ∧ (∀ y0 y1 y2 y3 y4 y5 y6 y7, LeO (laws_FnExactCutActs.j1 k y0 y1 y2 y3 y4 y5 y6 y7) (laws_FnExactCutActs.j1 (k + 1) y0 y1 y2 y3 y4 y5 y6 y7)) ∧ (∀ y0 y1 y2, LeO (laws_FnExactCutActs.j2 k y0 y1 y2) (laws_FnExactCutActs.j2 (k + 1) y0 y1 y2))
 | 0 => ⟨fun _ _ _ _ _ _ _ _ _ _ _ _ r h => by simp [laws_FnExactCutActs.j0] at h, fun _ _ _ _ _ _ _ _ r h => by simp [laws_FnExactCutActs.j1] at h, fun _ _ _ r h => by simp [laws_FnExactCutActs.j2] at h⟩
 | k + 1 => by
  obtain ⟨ih0, ih1, ih2⟩ := laws_FnExactCutActs.mono_l k
  refine ⟨?_, ?_, ?_⟩
  ·intro y0 y1 y2 y3 y4 y5 y6 y7 y8 y9 y10 y11
   unfold laws_FnExactCutActs.j0
   repeat' first
   | (with_reducible exact ih1 _ _ _ _ _ _ _ _)
   | (with_reducible exact laws_eqActS.mono _ _ _)
   | (with_reducible exact laws_eqDisk.mono _ _ _)
   | (with_reducible exact laws_eqIntS.mono _ _ _)
   | (with_reducible exact laws_markActS.mono _ _ _)
   | (with_reducible exact laws_markDisk.mono _ _ _)
   | (with_reducible exact laws_markIntS.mono _ _ _)
   | (with_reducible exact laws_toActS.mono _ _)
   | (with_reducible exact laws_toDisk.mono _ _)
   | (with_reducible exact laws_toIntS.mono _ _)
   | (with_reducible exact LeO.refl _)
   | (with_reducible refine LeO.ite ?_ ?_)
   | (with_reducible refine LeO.bind ?_ (fun _ => ?_))
  ·intro y0 y1 y2 y3 y4 y5 y6 y7
   unfold laws_FnExactCutActs.j1
   repeat' first
   | (with_reducible exact ih2 _ _ _)
   | (with_reducible exact impl_CutActs.mono _ _ _ _ _)
   | (with_reducible exact laws_eqDisk.mono _ _ _)
   | (with_reducible exact laws_heldDisk.mono _ _ _)
   | (with_reducible exact laws_markDisk.mono _ _ _)
   | (with_reducible exact laws_toActS.mono _ _)
   | (with_reducible exact laws_toDisk.mono _ _)
   | (with_reducible exact laws_toIntS.mono _ _)
   | (with_reducible exact LeO.refl _)
   | (with_reducible refine LeO.ite ?_ ?_)
   | (with_reducible refine LeO.bind ?_ (fun _ => ?_))
  ·intro y0 y1 y2
   unfold laws_FnExactCutActs.j2
   repeat' first
   | (with_reducible exact laws_heldDisk.mono _ _ _)
   | (with_reducible exact LeO.refl _)
   | (with_reducible refine LeO.ite ?_ ?_)
   | (with_reducible refine LeO.bind ?_ (fun _ => ?_))
theorem laws_FnExactCutActs.mono : ∀ a0 a1 a2 a3 k, LeO (laws_FnExactCutActs.f k a0 a1 a2 a3) (laws_FnExactCutActs.f (k + 1) a0 a1 a2 a3) := by
 intro a0 a1 a2 a3 k
 obtain ⟨ih0, ih1, ih2⟩ := laws_FnExactCutActs.mono_l k
 unfold laws_FnExactCutActs.f
 repeat' first
   | (with_reducible exact ih0 _ _ _ _ _ _ _ _ _ _ _ _)
   | (with_reducible exact impl_CutActs.mono _ _ _ _ _)
   | (with_reducible exact laws_eqDisk.mono _ _ _)
   | (with_reducible exact laws_szActS.mono _ _ _)
   | (with_reducible exact laws_szDisk.mono _ _ _)
   | (with_reducible exact laws_toActS.mono _ _)
   | (with_reducible exact laws_toDisk.mono _ _)
   | (with_reducible exact laws_toIntS.mono _ _)
   | (with_reducible exact spec_CutActs.mono _ _ _ _ _)
   | (with_reducible exact LeO.refl _)
   | (with_reducible refine LeO.ite ?_ ?_)
   | (with_reducible refine LeO.bind ?_ (fun _ => ?_))
set_option maxHeartbeats 8000000 in
set_option maxRecDepth 100000 in
theorem laws_FnExactCutActs.calls (k : Nat) (A0_0 : Option Addr) (c0_0 : Nat) (l0_0 : List (S112)) (A1 : Option Addr) (c1 : Nat) (l1 : List (S26)) (a2 : Int) (A3 : Option Addr) (c3 : Nat) (l3 : List Int) (r : Bool) (w : World) (hr0_0 : Kd.C k112 w A0_0 l0_0.length l0_0) (hc0_0 : l0_0.length ≤ c0_0) (hr1 : Kd.C k26 w A1 l1.length l1) (hc1 : l1.length ≤ c1) (hr3 : Kd.C (Kd.int .i64) w A3 l3.length l3) (hc3 : l3.length ≤ c3) (h : laws_FnExactCutActs.f k l0_0 l1 a2 l3 = some r) :
  Calls Try.prog 7 #[.agg #[.slice A0_0 l0_0.length c0_0], .slice A1 l1.length c1, .int .i64 a2, .slice A3 l3.length c3] w fun e w' => e = .returned (.bool r) ∧ Below w.heap.size w w' := by
 have hu24 := Try.underlying24
 have hu31 := Try.underlying31
 have HR0_0 := Aside0.mk hr0_0
 have HC0_0 := Aside0.mk hc0_0
 clear hr0_0 hc0_0
 have HR1 := Aside0.mk hr1
 have HC1 := Aside0.mk hc1
 clear hr1 hc1
 have HR3 := Aside0.mk hr3
 have HC3 := Aside0.mk hc3
 clear hr3 hc3
 have HB := mk_ (Below.refl w.heap.size w)
 have H : (if (l3.length : Int) > 1048576 then (some true) else ((laws_szDisk.f k l0_0 1048576).bind fun t338 => (if t338 < 0 then (some true) else ((laws_szActS.f k l1 t338).bind fun t339 => (if t339 < 0 then (some true) else ((laws_toDisk.f k l0_0).bind fun t340 => ((laws_toActS.f k l1).bind fun t343 => ((laws_toIntS.f k l3).bind fun t346 => ((spec_CutActs.f k t340 t343 a2 t346).bind fun bt349 => ((laws_toDisk.f k l0_0).bind fun t354 => ((laws_toActS.f k l1).bind fun t358 => ((laws_toIntS.f k l3).bind fun t361 => ((impl_CutActs.f k t354 t358 a2 t361).bind fun bt364 => ((laws_eqDisk.f k bt364.1 bt349.1).bind fun t369 => (if t369 = true then (laws_FnExactCutActs.j0 k l1 a2 l3 bt349.2 t358 t361 bt364.2 (bt364.2 != bt349.2) l0_0 bt349.1 t354 bt364.1) else (none)))))))))))))))) = some r := h
 clear h
 by_cases c5 : (l3.length : Int) > 1048576
 ·rw [if_pos c5] at H
  have c5b0 : decide (1048576 < (l3.length : Int)) = true := decide_eq_true c5
  have c5b1 : decide (1048576 < l3.length) = true := decide_eq_true (by omega)
  clear c5
  obtain rfl := Option.some.inj H
  go_enter Try.func7, Try.ntmps7
  go_wp2_with (first | ((with_reducible refine gate_dst (N := 4) rfl ?_); refine bx_ (N := 4) (cs := #[.slice A0_0 l0_0.length c0_0]) (t := 24) ?_; intro gb337 hg w6 hbox hb; have BK337 := mk_ (hbox); have GW337 : Aside0 (w.heap.size ≤ gb337) := bz_ hg; have GE337 := GW337; replace HB := bs_ HB hb; clear hb hbox hg))
  go_ret
  exact ⟨er_, bw_ HB⟩
 ·rw [if_neg c5] at H
  have c5b0 : decide (1048576 < (l3.length : Int)) = false := decide_eq_false c5
  have c5b1 : decide (1048576 < l3.length) = false := decide_eq_false (by omega)
  clear c5
  replace H := Option.bind_eq_some_iff.mp H
  obtain ⟨t338, A70, H⟩ := H
  replace H : (if t338 < 0 then (some true) else ((laws_szActS.f k l1 t338).bind fun t339 => (if t339 < 0 then (some true) else ((laws_toDisk.f k l0_0).bind fun t340 => ((laws_toActS.f k l1).bind fun t343 => ((laws_toIntS.f k l3).bind fun t346 => ((spec_CutActs.f k t340 t343 a2 t346).bind fun bt349 => ((laws_toDisk.f k l0_0).bind fun t354 => ((laws_toActS.f k l1).bind fun t358 => ((laws_toIntS.f k l3).bind fun t361 => ((impl_CutActs.f k t354 t358 a2 t361).bind fun bt364 => ((laws_eqDisk.f k bt364.1 bt349.1).bind fun t369 => (if t369 = true then (laws_FnExactCutActs.j0 k l1 a2 l3 bt349.2 t358 t361 bt364.2 (bt364.2 != bt349.2) l0_0 bt349.1 t354 bt364.1) else (none)))))))))))))) = some r := H
  have A7 := Aside0.mk A70
  clear A70
  by_cases c8 : t338 < 0
  ·rw [if_pos c8] at H
   have c8b0 : decide (t338 < 0) = true := decide_eq_true c8
   clear c8
   obtain rfl := Option.some.inj H
   go_enter Try.func7, Try.ntmps7
   go_wp2_with (first | ((with_reducible refine gate_dst (N := 4) rfl ?_); refine bx_ (N := 4) (cs := #[.slice A0_0 l0_0.length c0_0]) (t := 24) ?_; intro gb337 hg w9 hbox hb; have BK337 := mk_ (hbox); have GW337 : Aside0 (w.heap.size ≤ gb337) := bz_ hg; have GE337 := GW337; replace HB := bs_ HB hb; clear hb hbox hg; obtain ⟨hcz10_0, hfz10_0⟩ := b1_ BK337) | ((with_reducible refine gate_callee (f := 8) rfl ?_); refine goesL_ (some 27) rfl rfl Try.func8 (by kernel_rfl) rfl #[.agg #[.slice A0_0 l0_0.length c0_0], .int .i64 1048576] rfl ga_ ?_; (with_reducible refine (laws_szDisk.calls k _ _ l0_0 1048576 t338 _ ?side1 ?side2 A7.out).mono ?_); (case side1 => repeat (first | exact (Kd.C_below HR0_0.out HB.out) | (with_reducible refine Kd.C_alloc ?_ _) | (with_reducible refine Kd.C_drewN ?_ _) | (with_reducible refine Kd.C_drew ?_))); (case side2 => exact HC0_0.out); rintro e w11 ⟨rfl, hb⟩; refine ⟨_, rfl, ?_⟩; replace BK337 := bb_ BK337 hb; replace HB := bs_ HB hb; (try clear hb)))
   go_ret
   exact ⟨er_, bw_ HB⟩
  ·rw [if_neg c8] at H
   have c8b0 : decide (t338 < 0) = false := decide_eq_false c8
   clear c8
   replace H := Option.bind_eq_some_iff.mp H
   obtain ⟨t339, A120, H⟩ := H
   replace H : (if t339 < 0 then (some true) else ((laws_toDisk.f k l0_0).bind fun t340 => ((laws_toActS.f k l1).bind fun t343 => ((laws_toIntS.f k l3).bind fun t346 => ((spec_CutActs.f k t340 t343 a2 t346).bind fun bt349 => ((laws_toDisk.f k l0_0).bind fun t354 => ((laws_toActS.f k l1).bind fun t358 => ((laws_toIntS.f k l3).bind fun t361 => ((impl_CutActs.f k t354 t358 a2 t361).bind fun bt364 => ((laws_eqDisk.f k bt364.1 bt349.1).bind fun t369 => (if t369 = true then (laws_FnExactCutActs.j0 k l1 a2 l3 bt349.2 t358 t361 bt364.2 (bt364.2 != bt349.2) l0_0 bt349.1 t354 bt364.1) else (none)))))))))))) = some r := H
   have A12 := Aside0.mk A120
   clear A120
   by_cases c13 : t339 < 0
   ·rw [if_pos c13] at H
    have c13b0 : decide (t339 < 0) = true := decide_eq_true c13
    clear c13
    obtain rfl := Option.some.inj H
    go_enter Try.func7, Try.ntmps7
    go_wp2_with (first | ((with_reducible refine gate_dst (N := 4) rfl ?_); refine bx_ (N := 4) (cs := #[.slice A0_0 l0_0.length c0_0]) (t := 24) ?_; intro gb337 hg w14 hbox hb; have BK337 := mk_ (hbox); have GW337 : Aside0 (w.heap.size ≤ gb337) := bz_ hg; have GE337 := GW337; replace HB := bs_ HB hb; clear hb hbox hg; obtain ⟨hcz15_0, hfz15_0⟩ := b1_ BK337) | ((with_reducible refine gate_callee (f := 8) rfl ?_); refine goesL_ (some 27) rfl rfl Try.func8 (by kernel_rfl) rfl #[.agg #[.slice A0_0 l0_0.length c0_0], .int .i64 1048576] rfl ga_ ?_; (with_reducible refine (laws_szDisk.calls k _ _ l0_0 1048576 t338 _ ?side1 ?side2 A7.out).mono ?_); (case side1 => repeat (first | exact (Kd.C_below HR0_0.out HB.out) | (with_reducible refine Kd.C_alloc ?_ _) | (with_reducible refine Kd.C_drewN ?_ _) | (with_reducible refine Kd.C_drew ?_))); (case side2 => exact HC0_0.out); rintro e w16 ⟨rfl, hb⟩; refine ⟨_, rfl, ?_⟩; replace BK337 := bb_ BK337 hb; replace HB := bs_ HB hb; (try clear hb)) | ((with_reducible refine gate_callee (f := 17) rfl ?_); refine goesL_ (some 32) rfl rfl Try.func17 (by kernel_rfl) rfl #[.slice A1 l1.length c1, .int .i64 t338] rfl ga_ ?_; (with_reducible refine (laws_szActS.calls k _ _ l1 t338 t339 _ ?side1 ?side2 A12.out).mono ?_); (case side1 => repeat (first | exact (Kd.C_below HR1.out HB.out) | (with_reducible refine Kd.C_alloc ?_ _) | (with_reducible refine Kd.C_drewN ?_ _) | (with_reducible refine Kd.C_drew ?_))); (case side2 => exact HC1.out); rintro e w17 ⟨rfl, hb⟩; refine ⟨_, rfl, ?_⟩; replace BK337 := bb_ BK337 hb; replace HB := bs_ HB hb; (try clear hb)))
    go_ret
    exact ⟨er_, bw_ HB⟩
   ·rw [if_neg c13] at H
    have c13b0 : decide (t339 < 0) = false := decide_eq_false c13
    clear c13
    replace H := Option.bind_eq_some_iff.mp H
    obtain ⟨t340, A180, H⟩ := H
    replace H : ((laws_toActS.f k l1).bind fun t343 => ((laws_toIntS.f k l3).bind fun t346 => ((spec_CutActs.f k t340 t343 a2 t346).bind fun bt349 => ((laws_toDisk.f k l0_0).bind fun t354 => ((laws_toActS.f k l1).bind fun t358 => ((laws_toIntS.f k l3).bind fun t361 => ((impl_CutActs.f k t354 t358 a2 t361).bind fun bt364 => ((laws_eqDisk.f k bt364.1 bt349.1).bind fun t369 => (if t369 = true then (laws_FnExactCutActs.j0 k l1 a2 l3 bt349.2 t358 t361 bt364.2 (bt364.2 != bt349.2) l0_0 bt349.1 t354 bt364.1) else (none)))))))))) = some r := H
    have A18 := Aside0.mk A180
    clear A180
    replace H := Option.bind_eq_some_iff.mp H
    obtain ⟨t343, A190, H⟩ := H
    replace H : ((laws_toIntS.f k l3).bind fun t346 => ((spec_CutActs.f k t340 t343 a2 t346).bind fun bt349 => ((laws_toDisk.f k l0_0).bind fun t354 => ((laws_toActS.f k l1).bind fun t358 => ((laws_toIntS.f k l3).bind fun t361 => ((impl_CutActs.f k t354 t358 a2 t361).bind fun bt364 => ((laws_eqDisk.f k bt364.1 bt349.1).bind fun t369 => (if t369 = true then (laws_FnExactCutActs.j0 k l1 a2 l3 bt349.2 t358 t361 bt364.2 (bt364.2 != bt349.2) l0_0 bt349.1 t354 bt364.1) else (none))))))))) = some r := H
    have A19 := Aside0.mk A190
    clear A190
    replace H := Option.bind_eq_some_iff.mp H
    obtain ⟨t346, A200, H⟩ := H
    replace H : ((spec_CutActs.f k t340 t343 a2 t346).bind fun bt349 => ((laws_toDisk.f k l0_0).bind fun t354 => ((laws_toActS.f k l1).bind fun t358 => ((laws_toIntS.f k l3).bind fun t361 => ((impl_CutActs.f k t354 t358 a2 t361).bind fun bt364 => ((laws_eqDisk.f k bt364.1 bt349.1).bind fun t369 => (if t369 = true then (laws_FnExactCutActs.j0 k l1 a2 l3 bt349.2 t358 t361 bt364.2 (bt364.2 != bt349.2) l0_0 bt349.1 t354 bt364.1) else (none)))))))) = some r := H
    have A20 := Aside0.mk A200
    clear A200
    replace H := Option.bind_eq_some_iff.mp H
    obtain ⟨⟨t349, t352⟩, A210, H⟩ := H
    replace H : ((laws_toDisk.f k l0_0).bind fun t354 => ((laws_toActS.f k l1).bind fun t358 => ((laws_toIntS.f k l3).bind fun t361 => ((impl_CutActs.f k t354 t358 a2 t361).bind fun bt364 => ((laws_eqDisk.f k bt364.1 t349).bind fun t369 => (if t369 = true then (laws_FnExactCutActs.j0 k l1 a2 l3 t352 t358 t361 bt364.2 (bt364.2 != t352) l0_0 t349 t354 bt364.1) else (none))))))) = some r := H
    have A21 := Aside0.mk A210
    clear A210
    replace H := Option.bind_eq_some_iff.mp H
    obtain ⟨t354, A220, H⟩ := H
    replace H : ((laws_toActS.f k l1).bind fun t358 => ((laws_toIntS.f k l3).bind fun t361 => ((impl_CutActs.f k t354 t358 a2 t361).bind fun bt364 => ((laws_eqDisk.f k bt364.1 t349).bind fun t369 => (if t369 = true then (laws_FnExactCutActs.j0 k l1 a2 l3 t352 t358 t361 bt364.2 (bt364.2 != t352) l0_0 t349 t354 bt364.1) else (none)))))) = some r := H
    have A22 := Aside0.mk A220
    clear A220
    replace H := Option.bind_eq_some_iff.mp H
    obtain ⟨t358, A230, H⟩ := H
    replace H : ((laws_toIntS.f k l3).bind fun t361 => ((impl_CutActs.f k t354 t358 a2 t361).bind fun bt364 => ((laws_eqDisk.f k bt364.1 t349).bind fun t369 => (if t369 = true then (laws_FnExactCutActs.j0 k l1 a2 l3 t352 t358 t361 bt364.2 (bt364.2 != t352) l0_0 t349 t354 bt364.1) else (none))))) = some r := H
    have A23 := Aside0.mk A230
    clear A230
    replace H := Option.bind_eq_some_iff.mp H
    obtain ⟨t361, A240, H⟩ := H
    replace H : ((impl_CutActs.f k t354 t358 a2 t361).bind fun bt364 => ((laws_eqDisk.f k bt364.1 t349).bind fun t369 => (if t369 = true then (laws_FnExactCutActs.j0 k l1 a2 l3 t352 t358 t361 bt364.2 (bt364.2 != t352) l0_0 t349 t354 bt364.1) else (none)))) = some r := H
    have A24 := Aside0.mk A240
    clear A240
    replace H := Option.bind_eq_some_iff.mp H
    obtain ⟨⟨t364, t367⟩, A250, H⟩ := H
    replace H : ((laws_eqDisk.f k t364 t349).bind fun t369 => (if t369 = true then (laws_FnExactCutActs.j0 k l1 a2 l3 t352 t358 t361 t367 (t367 != t352) l0_0 t349 t354 t364) else (none))) = some r := H
    have A25 := Aside0.mk A250
    clear A250
    have HC26 := Aside0.mk H
    clear H
    go_enter Try.func7, Try.ntmps7
    go_upto_region 15 with (first | ((with_reducible refine gate_dst (N := 4) rfl ?_); refine bx_ (N := 4) (cs := #[.slice A0_0 l0_0.length c0_0]) (t := 24) ?_; intro gb337 hg w27 hbox hb; have BK337 := mk_ (hbox); have GW337 : Aside0 (w.heap.size ≤ gb337) := bz_ hg; have GE337 := GW337; replace HB := bs_ HB hb; clear hb hbox hg; obtain ⟨hcz28_0, hfz28_0⟩ := b1_ BK337) | ((with_reducible refine gate_callee (f := 8) rfl ?_); refine goesL_ (some 27) rfl rfl Try.func8 (by kernel_rfl) rfl #[.agg #[.slice A0_0 l0_0.length c0_0], .int .i64 1048576] rfl ga_ ?_; (with_reducible refine (laws_szDisk.calls k _ _ l0_0 1048576 t338 _ ?side1 ?side2 A7.out).mono ?_); (case side1 => repeat (first | exact (Kd.C_below HR0_0.out HB.out) | (with_reducible refine Kd.C_alloc ?_ _) | (with_reducible refine Kd.C_drewN ?_ _) | (with_reducible refine Kd.C_drew ?_))); (case side2 => exact HC0_0.out); rintro e w29 ⟨rfl, hb⟩; refine ⟨_, rfl, ?_⟩; replace BK337 := bb_ BK337 hb; replace HB := bs_ HB hb; (try clear hb); (try clear hk)) | ((with_reducible refine gate_callee (f := 17) rfl ?_); refine goesL_ (some 32) rfl rfl Try.func17 (by kernel_rfl) rfl #[.slice A1 l1.length c1, .int .i64 t338] rfl ga_ ?_; (with_reducible refine (laws_szActS.calls k _ _ l1 t338 t339 _ ?side1 ?side2 A12.out).mono ?_); (case side1 => repeat (first | exact (Kd.C_below HR1.out HB.out) | (with_reducible refine Kd.C_alloc ?_ _) | (with_reducible refine Kd.C_drewN ?_ _) | (with_reducible refine Kd.C_drew ?_))); (case side2 => exact HC1.out); rintro e w30 ⟨rfl, hb⟩; refine ⟨_, rfl, ?_⟩; replace BK337 := bb_ BK337 hb; replace HB := bs_ HB hb; (try clear hb); (try clear hk); obtain ⟨hcz31_0, hfz31_0⟩ := b1_ BK337) | ((with_reducible refine gate_callee (f := 11) rfl ?_); refine goesL_ (some 37) rfl rfl Try.func11 (by kernel_rfl) rfl #[.agg #[.slice A0_0 l0_0.length c0_0]] rfl ga_ ?_; (with_reducible refine (laws_toDisk.calls k _ _ l0_0 t340 _ ?side1 ?side2 A18.out).mono ?_); (case side1 => repeat (first | exact (Kd.C_below HR0_0.out HB.out) | (with_reducible refine Kd.C_alloc ?_ _) | (with_reducible refine Kd.C_drewN ?_ _) | (with_reducible refine Kd.C_drew ?_))); (case side2 => exact HC0_0.out); rintro e w32 ⟨v341, rfl, ho0, hb⟩; refine ⟨_, rfl, ?_⟩; have HO342 := mk_ (Kd.R_lower ho0 (below_size (bw_ HB))); replace BK337 := bb_ BK337 hb; replace HB := bs_ HB hb; (try clear hb); (try clear hk); (try clear ho0)) | ((with_reducible refine gate_callee (f := 19) rfl ?_); refine goesL_ (some 39) rfl rfl Try.func19 (by kernel_rfl) rfl #[.slice A1 l1.length c1] rfl ga_ ?_; (with_reducible refine (laws_toActS.calls k _ _ l1 t343 _ ?side1 ?side2 A19.out).mono ?_); (case side1 => repeat (first | exact (Kd.C_below HR1.out HB.out) | (with_reducible refine Kd.C_alloc ?_ _) | (with_reducible refine Kd.C_drewN ?_ _) | (with_reducible refine Kd.C_drew ?_))); (case side2 => exact HC1.out); rintro e w33 ⟨v344, rfl, ho0, hb⟩; refine ⟨_, rfl, ?_⟩; have HO345 := mk_ (Kd.R_lower ho0 (below_size (bw_ HB))); replace HO342 := rb_ HO342 hb; replace BK337 := bb_ BK337 hb; replace HB := bs_ HB hb; (try clear hb); (try clear hk); (try clear ho0)) | ((with_reducible refine gate_callee (f := 34) rfl ?_); refine goesL_ (some 42) rfl rfl Try.func34 (by kernel_rfl) rfl #[.slice A3 l3.length c3] rfl ga_ ?_; (with_reducible refine (laws_toIntS.calls k _ _ l3 t346 _ ?side1 ?side2 A20.out).mono ?_); (case side1 => repeat (first | exact (Kd.C_below HR3.out HB.out) | (with_reducible refine Kd.C_alloc ?_ _) | (with_reducible refine Kd.C_drewN ?_ _) | (with_reducible refine Kd.C_drew ?_))); (case side2 => exact HC3.out); rintro e w34 ⟨v347, rfl, ho0, hb⟩; refine ⟨_, rfl, ?_⟩; have HO348 := mk_ (Kd.R_lower ho0 (below_size (bw_ HB))); replace HO342 := rb_ HO342 hb; replace HO345 := rb_ HO345 hb; replace BK337 := bb_ BK337 hb; replace HB := bs_ HB hb; (try clear hb); (try clear hk); (try clear ho0); obtain ⟨Ao35, co35, eo35⟩ := Kd.R_slice HO342.out; subst eo35; obtain ⟨Ao36, co36, eo36⟩ := Kd.R_slice HO345.out; subst eo36; obtain ⟨Ao37, co37, eo37⟩ := Kd.R_slice HO348.out; subst eo37) | ((with_reducible refine gate_callee (f := 28) rfl ?_); refine goesL_ (some 43) rfl rfl Try.func28 (by kernel_rfl) rfl #[.agg #[.slice Ao35 t340.length co35], .slice Ao36 t343.length co36, .int .i64 a2, .slice Ao37 t346.length co37] rfl ga_ ?_; (with_reducible refine (spec_CutActs.calls k _ _ t340 _ _ t343 a2 _ _ t346 t349 t352 _ ?side1 ?side2 ?side3 ?side4 ?side5 ?side6 A21.out).mono ?_); (case side1 => repeat (first | exact (Kd.R_reads' HO342.out).2.2 | (with_reducible refine Kd.C_alloc ?_ _) | (with_reducible refine Kd.C_drewN ?_ _) | (with_reducible refine Kd.C_drew ?_))); (case side2 => exact (Kd.R_reads' HO342.out).2.1); (case side3 => repeat (first | exact (Kd.R_reads' HO345.out).2.2 | (with_reducible refine Kd.C_alloc ?_ _) | (with_reducible refine Kd.C_drewN ?_ _) | (with_reducible refine Kd.C_drew ?_))); (case side4 => exact (Kd.R_reads' HO345.out).2.1); (case side5 => repeat (first | exact (Kd.R_reads' HO348.out).2.2 | (with_reducible refine Kd.C_alloc ?_ _) | (with_reducible refine Kd.C_drewN ?_ _) | (with_reducible refine Kd.C_drew ?_))); (case side6 => exact (Kd.R_reads' HO348.out).2.1); rintro e w38 ⟨v350, rfl, ho0, hb⟩; refine ⟨_, rfl, ?_⟩; have HO351 := mk_ (Kd.R_lower (Kd.R_new' ho0 (Kd.R_lt (rp_ HO342))) (below_size (bw_ HB))); replace HO342 := mk_ (Kd.R_elder' (rp_ HO342) (Kd.R_base ho0) hb); replace HO345 := rb_ HO345 hb; replace HO348 := rb_ HO348 hb; replace BK337 := bb_ BK337 hb; replace HB := bs_ HB hb; (try clear hb); (try clear hk); (try clear ho0)) | ((with_reducible refine gate_dst (N := 10) rfl ?_); refine bx_ (N := 10) (cs := #[.slice none 0 0]) (t := 31) ?_; intro gb353 hg w39 hbox hb; have BK353 := mk_ (hbox); have GW353 : Aside0 (w.heap.size ≤ gb353) := bz_ hg; have GE353 := GW353; have NB337_353 := bl_ BK337 hg; have NB353_337 := bg_ BK337 hg; replace HO342 := rb_ HO342 hb; replace HO345 := rb_ HO345 hb; replace HO348 := rb_ HO348 hb; replace HO351 := rb_ HO351 hb; replace BK337 := bb_ BK337 hb; replace HB := bs_ HB hb; clear hb hbox hg; obtain ⟨Ao40, co40, eo40⟩ := Kd.R_slice HO351.out; subst eo40; have hnb41 := NB353_337.out; have hnc41 := NB337_353.out; obtain ⟨hcz42_0, hfz42_0⟩ := b1_ BK353; obtain ⟨hcz43_0, hfz43_0⟩ := b1_ BK337) | ((with_reducible refine gate_callee (f := 11) rfl ?_); refine goesL_ (some 47) rfl rfl Try.func11 (by kernel_rfl) rfl #[.agg #[.slice A0_0 l0_0.length c0_0]] rfl ga_ ?_; (with_reducible refine (laws_toDisk.calls k _ _ l0_0 t354 _ ?side1 ?side2 A22.out).mono ?_); (case side1 => exact Kd.C_below HR0_0.out (bw_ HB)); (case side2 => exact HC0_0.out); rintro e w44 ⟨v355, rfl, ho0, hb⟩; refine ⟨_, rfl, ?_⟩; have HO356 := mk_ (Kd.R_lower (Kd.R_new' (Kd.R_new' ho0 (Kd.R_lt (by (with_reducible repeat (first | apply Kd.R_alloc | apply Kd.R_drewN | apply Kd.R_drew)); exact (Kd.R_mono (Kd.R_far (p := ⟨gb353, 0, none⟩) (Kd.R_types HO342.out BK353.out (by decide)) (fun _ hk => hk.2) (.slice Ao40 t349.length co40)) (fun _ h_ => h_.1))))) (Kd.R_lt (by (with_reducible repeat (first | apply Kd.R_alloc | apply Kd.R_drewN | apply Kd.R_drew)); exact (Kd.R_mono (Kd.R_far (p := ⟨gb353, 0, none⟩) (Kd.R_types HO351.out BK353.out (by decide)) (fun _ hk => hk.2) (.slice Ao40 t349.length co40)) (fun _ h_ => h_.1))))) (below_size (bw_ HB))); replace HO342 := mk_ (Kd.R_elder' (by (with_reducible repeat (first | apply Kd.R_alloc | apply Kd.R_drewN | apply Kd.R_drew)); exact (Kd.R_mono (Kd.R_far (p := ⟨gb353, 0, none⟩) (Kd.R_types HO342.out BK353.out (by decide)) (fun _ hk => hk.2) (.slice Ao40 t349.length co40)) (fun _ h_ => h_.1))) (Kd.R_base ho0) hb); replace HO345 := mk_ (Kd.R_below (by (with_reducible repeat (first | apply Kd.R_alloc | apply Kd.R_drewN | apply Kd.R_drew)); exact (Kd.R_mono (Kd.R_far (p := ⟨gb353, 0, none⟩) (Kd.R_types HO345.out BK353.out (by decide)) (fun _ hk => hk.2) (.slice Ao40 t349.length co40)) (fun _ h_ => h_.1))) hb); replace HO348 := mk_ (Kd.R_below (by (with_reducible repeat (first | apply Kd.R_alloc | apply Kd.R_drewN | apply Kd.R_drew)); exact (Kd.R_mono (Kd.R_far (p := ⟨gb353, 0, none⟩) (Kd.R_types HO348.out BK353.out (by decide)) (fun _ hk => hk.2) (.slice Ao40 t349.length co40)) (fun _ h_ => h_.1))) hb); replace HO351 := mk_ (Kd.R_elder' (by (with_reducible repeat (first | apply Kd.R_alloc | apply Kd.R_drewN | apply Kd.R_drew)); exact (Kd.R_mono (Kd.R_far (p := ⟨gb353, 0, none⟩) (Kd.R_types HO351.out BK353.out (by decide)) (fun _ hk => hk.2) (.slice Ao40 t349.length co40)) (fun _ h_ => h_.1))) (Kd.R_base ho0) hb); replace BK337 := mk_ (blk_below (g := gb337) (o := .cells #[.slice A0_0 l0_0.length c0_0] 24 (0, 0)) bf_ hb); replace BK353 := mk_ (blk_below (g := gb353) (o := .cells #[.slice Ao40 t349.length co40] 31 (0, 0)) bu_ hb); replace HB := bs_ HB hb; (try clear hb); (try clear hk); (try clear ho0)) | ((with_reducible refine gate_dst (N := 12) rfl ?_); refine bx_ (N := 12) (cs := #[.slice none 0 0]) (t := 31) ?_; intro gb357 hg w45 hbox hb; have BK357 := mk_ (hbox); have GW357 : Aside0 (w.heap.size ≤ gb357) := bz_ hg; have GE357 := GW357; have NB337_357 := bl_ BK337 hg; have NB357_337 := bg_ BK337 hg; have NB353_357 := bl_ BK353 hg; have NB357_353 := bg_ BK353 hg; replace HO342 := rb_ HO342 hb; replace HO345 := rb_ HO345 hb; replace HO348 := rb_ HO348 hb; replace HO351 := rb_ HO351 hb; replace HO356 := rb_ HO356 hb; replace BK337 := bb_ BK337 hb; replace BK353 := bb_ BK353 hb; replace HB := bs_ HB hb; clear hb hbox hg; obtain ⟨Ao46, co46, eo46⟩ := Kd.R_slice HO356.out; subst eo46; have hnb47 := NB357_337.out; have hnc47 := NB337_357.out; have hnb48 := NB357_353.out; have hnc48 := NB353_357.out; obtain ⟨hcz49_0, hfz49_0⟩ := b1_ BK357) | ((with_reducible refine gate_callee (f := 19) rfl ?_); refine goesL_ (some 49) rfl rfl Try.func19 (by kernel_rfl) rfl #[.slice A1 l1.length c1] rfl ga_ ?_; (with_reducible refine (laws_toActS.calls k _ _ l1 t358 _ ?side1 ?side2 A23.out).mono ?_); (case side1 => exact Kd.C_below HR1.out (bw_ HB)); (case side2 => exact HC1.out); rintro e w50 ⟨v359, rfl, ho0, hb⟩; refine ⟨_, rfl, ?_⟩; have HO360 := mk_ (Kd.R_lower (Kd.R_new' ho0 (Kd.R_lt (by (with_reducible repeat (first | apply Kd.R_alloc | apply Kd.R_drewN | apply Kd.R_drew)); exact (Kd.R_mono (Kd.R_far (p := ⟨gb357, 0, none⟩) (Kd.R_types HO345.out BK357.out (by decide)) (fun _ hk => hk.2) (.slice Ao46 t354.length co46)) (fun _ h_ => h_.1))))) (below_size (bw_ HB))); replace HO342 := mk_ (Kd.R_below (by (with_reducible repeat (first | apply Kd.R_alloc | apply Kd.R_drewN | apply Kd.R_drew)); exact (Kd.R_mono (Kd.R_far (p := ⟨gb357, 0, none⟩) (Kd.R_types HO342.out BK357.out (by decide)) (fun _ hk => hk.2) (.slice Ao46 t354.length co46)) (fun _ h_ => h_.1))) hb); replace HO345 := mk_ (Kd.R_elder' (by (with_reducible repeat (first | apply Kd.R_alloc | apply Kd.R_drewN | apply Kd.R_drew)); exact (Kd.R_mono (Kd.R_far (p := ⟨gb357, 0, none⟩) (Kd.R_types HO345.out BK357.out (by decide)) (fun _ hk => hk.2) (.slice Ao46 t354.length co46)) (fun _ h_ => h_.1))) (Kd.R_base ho0) hb); replace HO348 := mk_ (Kd.R_below (by (with_reducible repeat (first | apply Kd.R_alloc | apply Kd.R_drewN | apply Kd.R_drew)); exact (Kd.R_mono (Kd.R_far (p := ⟨gb357, 0, none⟩) (Kd.R_types HO348.out BK357.out (by decide)) (fun _ hk => hk.2) (.slice Ao46 t354.length co46)) (fun _ h_ => h_.1))) hb); replace HO351 := mk_ (Kd.R_below (by (with_reducible repeat (first | apply Kd.R_alloc | apply Kd.R_drewN | apply Kd.R_drew)); exact (Kd.R_mono (Kd.R_far (p := ⟨gb357, 0, none⟩) (Kd.R_types HO351.out BK357.out (by decide)) (fun _ hk => hk.2) (.slice Ao46 t354.length co46)) (fun _ h_ => h_.1))) hb); replace HO356 := mk_ (Kd.R_below (by (with_reducible repeat (first | apply Kd.R_alloc | apply Kd.R_drewN | apply Kd.R_drew)); exact (Kd.R_mono (Kd.R_far (p := ⟨gb357, 0, none⟩) (Kd.R_types HO356.out BK357.out (by decide)) (fun _ hk => hk.2) (.slice Ao46 t354.length co46)) (fun _ h_ => h_.1))) hb); replace BK337 := mk_ (blk_below (g := gb337) (o := .cells #[.slice A0_0 l0_0.length c0_0] 24 (0, 0)) bf_ hb); replace BK353 := mk_ (blk_below (g := gb353) (o := .cells #[.slice Ao40 t349.length co40] 31 (0, 0)) bf_ hb); replace BK357 := mk_ (blk_below (g := gb357) (o := .cells #[.slice Ao46 t354.length co46] 31 (0, 0)) bu_ hb); replace HB := bs_ HB hb; (try clear hb); (try clear hk); (try clear ho0)) | ((with_reducible refine gate_callee (f := 34) rfl ?_); refine goesL_ (some 51) rfl rfl Try.func34 (by kernel_rfl) rfl #[.slice A3 l3.length c3] rfl ga_ ?_; (with_reducible refine (laws_toIntS.calls k _ _ l3 t361 _ ?side1 ?side2 A24.out).mono ?_); (case side1 => repeat (first | exact (Kd.C_below HR3.out HB.out) | (with_reducible refine Kd.C_alloc ?_ _) | (with_reducible refine Kd.C_drewN ?_ _) | (with_reducible refine Kd.C_drew ?_))); (case side2 => exact HC3.out); rintro e w51 ⟨v362, rfl, ho0, hb⟩; refine ⟨_, rfl, ?_⟩; have HO363 := mk_ (Kd.R_lower (Kd.R_new' ho0 (Kd.R_lt (rp_ HO348))) (below_size (bw_ HB))); replace HO342 := rb_ HO342 hb; replace HO345 := rb_ HO345 hb; replace HO348 := mk_ (Kd.R_elder' (rp_ HO348) (Kd.R_base ho0) hb); replace HO351 := rb_ HO351 hb; replace HO356 := rb_ HO356 hb; replace HO360 := rb_ HO360 hb; replace BK337 := bb_ BK337 hb; replace BK353 := bb_ BK353 hb; replace BK357 := bb_ BK357 hb; replace HB := bs_ HB hb; (try clear hb); (try clear hk); (try clear ho0); obtain ⟨hcz52_0, hfz52_0⟩ := b1_ BK357; obtain ⟨Ao53, co53, eo53⟩ := Kd.R_slice HO360.out; subst eo53; obtain ⟨Ao54, co54, eo54⟩ := Kd.R_slice HO363.out; subst eo54) | ((with_reducible refine gate_callee (f := 27) rfl ?_); refine goesL_ (some 57) rfl rfl Try.func27 (by kernel_rfl) rfl #[.agg #[.slice Ao46 t354.length co46], .slice Ao53 t358.length co53, .int .i64 a2, .slice Ao54 t361.length co54] rfl ga_ ?_; (with_reducible refine (impl_CutActs.calls k _ _ t354 _ _ t358 a2 _ _ t361 t364 t367 _ ?side1 ?side2 ?side3 ?side4 ?side5 ?side6 A25.out).mono ?_); (case side1 => repeat (first | exact (Kd.R_reads' HO356.out).2.2 | (with_reducible refine Kd.C_alloc ?_ _) | (with_reducible refine Kd.C_drewN ?_ _) | (with_reducible refine Kd.C_drew ?_))); (case side2 => exact (Kd.R_reads' HO356.out).2.1); (case side3 => repeat (first | exact (Kd.R_reads' HO360.out).2.2 | (with_reducible refine Kd.C_alloc ?_ _) | (with_reducible refine Kd.C_drewN ?_ _) | (with_reducible refine Kd.C_drew ?_))); (case side4 => exact (Kd.R_reads' HO360.out).2.1); (case side5 => repeat (first | exact (Kd.R_reads' HO363.out).2.2 | (with_reducible refine Kd.C_alloc ?_ _) | (with_reducible refine Kd.C_drewN ?_ _) | (with_reducible refine Kd.C_drew ?_))); (case side6 => exact (Kd.R_reads' HO363.out).2.1); rintro e w55 ⟨v365, rfl, ho0, hb⟩; refine ⟨_, rfl, ?_⟩; have HO366 := mk_ (Kd.R_lower (Kd.R_new' (Kd.R_new' (Kd.R_new' ho0 (Kd.R_lt (rp_ HO342))) (Kd.R_lt (rp_ HO351))) (Kd.R_lt (rp_ HO356))) (below_size (bw_ HB))); replace HO342 := mk_ (Kd.R_elder' (rp_ HO342) (Kd.R_base ho0) hb); replace HO345 := rb_ HO345 hb; replace HO348 := rb_ HO348 hb; replace HO351 := mk_ (Kd.R_elder' (rp_ HO351) (Kd.R_base ho0) hb); replace HO356 := mk_ (Kd.R_elder' (rp_ HO356) (Kd.R_base ho0) hb); replace HO360 := rb_ HO360 hb; replace HO363 := rb_ HO363 hb; replace BK337 := bb_ BK337 hb; replace BK353 := bb_ BK353 hb; replace BK357 := bb_ BK357 hb; replace HB := bs_ HB hb; (try clear hb); (try clear hk); (try clear ho0)) | ((with_reducible refine gate_dst (N := 15) rfl ?_); refine bx_ (N := 15) (cs := #[.slice none 0 0]) (t := 31) ?_; intro gb368 hg w56 hbox hb; have BK368 := mk_ (hbox); have GW368 : Aside0 (w.heap.size ≤ gb368) := bz_ hg; have GE368 := GW368; have NB337_368 := bl_ BK337 hg; have NB368_337 := bg_ BK337 hg; have NB353_368 := bl_ BK353 hg; have NB368_353 := bg_ BK353 hg; have NB357_368 := bl_ BK357 hg; have NB368_357 := bg_ BK357 hg; replace HO342 := rb_ HO342 hb; replace HO345 := rb_ HO345 hb; replace HO348 := rb_ HO348 hb; replace HO351 := rb_ HO351 hb; replace HO356 := rb_ HO356 hb; replace HO360 := rb_ HO360 hb; replace HO363 := rb_ HO363 hb; replace HO366 := rb_ HO366 hb; replace BK337 := bb_ BK337 hb; replace BK353 := bb_ BK353 hb; replace BK357 := bb_ BK357 hb; replace HB := bs_ HB hb; clear hb hbox hg; obtain ⟨Ao57, co57, eo57⟩ := Kd.R_slice HO366.out; subst eo57; have hnb58 := NB368_337.out; have hnc58 := NB337_368.out; have hnb59 := NB368_353.out; have hnc59 := NB353_368.out; have hnb60 := NB368_357.out; have hnc60 := NB357_368.out; obtain ⟨hcz61_0, hfz61_0⟩ := b1_ BK368))
    (try simp only [Act.put, sia_, scz_, scs_])
    go_cut [68] (fun v68 wc => ∃ (kq : Nat) (x68_25 : Bool), v68 = .bool x68_25 ∧ Aside0 (laws_FnExactCutActs.j0 kq l1 a2 l3 t352 t358 t361 t367 x68_25 l0_0 t349 t354 t364 = some r) ∧ Aside0 (kq ≤ k) ∧ Aside0 (Kd.R k35 35 wc w.heap.size (fun _ => True) (.slice Ao53 t358.length co53) t358) ∧ Aside0 (Kd.R (Kd.int .i64) 3 wc w.heap.size (fun _ => True) (.slice Ao54 t361.length co54) t361) ∧ Aside0 (Kd.R k76 76 wc w.heap.size (fun k_ => some k_ ≠ ((.slice Ao46 t354.length co46) : Value).ownBlock ∧ some k_ ≠ ((.slice Ao57 t364.length co57) : Value).ownBlock) (.slice Ao40 t349.length co40) t349) ∧ Aside0 (Kd.R k76 76 wc w.heap.size (fun k_ => some k_ ≠ ((.slice Ao40 t349.length co40) : Value).ownBlock ∧ some k_ ≠ ((.slice Ao57 t364.length co57) : Value).ownBlock) (.slice Ao46 t354.length co46) t354) ∧ Aside0 (Kd.R k76 76 wc w.heap.size (fun k_ => some k_ ≠ ((.slice Ao40 t349.length co40) : Value).ownBlock ∧ some k_ ≠ ((.slice Ao46 t354.length co46) : Value).ownBlock) (.slice Ao57 t364.length co57) t364) ∧ Aside0 (wc.heap[gb337]? = some (.cells #[(.slice A0_0 l0_0.length c0_0)] 24 (0, 0))) ∧ Aside0 (wc.heap[gb353]? = some (.cells #[(.slice Ao40 t349.length co40)] 31 (0, 0))) ∧ Aside0 (wc.heap[gb357]? = some (.cells #[(.slice Ao46 t354.length co46)] 31 (0, 0))) ∧ Aside0 (wc.heap[gb368]? = some (.cells #[(.slice Ao57 t364.length co57)] 31 (0, 0))) ∧ Aside0 (Below w.heap.size w wc))
    case first =>
     have H := HC26.out
     clear HC26
     replace H := Option.bind_eq_some_iff.mp H
     obtain ⟨t369, A620, H⟩ := H
     replace H : (if t369 = true then (laws_FnExactCutActs.j0 k l1 a2 l3 t352 t358 t361 t367 (t367 != t352) l0_0 t349 t354 t364) else (none)) = some r := H
     have A62 := Aside0.mk A620
     clear A620
     by_cases c63 : t369 = true
     ·subst c63
      have H1 : (laws_FnExactCutActs.j0 k l1 a2 l3 t352 t358 t361 t367 (t367 != t352) l0_0 t349 t354 t364) = some r := by rw [if_pos rfl] at H; exact H
      clear H
      have H := H1
      clear H1
      have H' := Aside0.mk H
      clear H
      have hnb64 := NB368_337.out
      have hnc64 := NB337_368.out
      have hnb65 := NB368_353.out
      have hnc65 := NB353_368.out
      have hnb66 := NB368_357.out
      have hnc66 := NB357_368.out
      have hcz67_0 : w56.cell? ⟨gb368, 0, none⟩ = some (.slice none 0 0) := bc_ BK368 0
      have hfz67_0 := blk_frozen BK368.out 0
      have hnb68 := NB353_337.out
      have hnc68 := NB337_353.out
      have hnb69 := NB353_357.out
      have hnc69 := NB357_353.out
      have hcz70_0 : w56.cell? ⟨gb353, 0, none⟩ = some (.slice Ao40 t349.length co40) := bc_ BK353 0
      have hfz70_0 := blk_frozen BK353.out 0
      go_wp2_with (first | ((with_reducible refine gate_callee (f := 14) rfl ?_); refine goesL_ (some 62) rfl rfl Try.func14 (by kernel_rfl) rfl #[.agg #[.slice Ao57 t364.length co57], .agg #[.slice Ao40 t349.length co40]] rfl ga_ ?_; (with_reducible refine (laws_eqDisk.calls k _ _ t364 _ _ t349 true _ ?side1 ?side2 ?side3 ?side4 A62.out).mono ?_); (case side1 => refine (Kd.R_reads' (e := 76) (base := w.heap.size) (ok := fun k_ => (((True ∧ some k_ ≠ (.slice Ao35 t340.length co35 : Value).ownBlock) ∧ some k_ ≠ (.slice Ao40 t349.length co40 : Value).ownBlock) ∧ some k_ ≠ (.slice Ao46 t354.length co46 : Value).ownBlock)) (n := t364.length) (c := co57) ?_).2.2; exact (by (with_reducible repeat (first | apply Kd.R_alloc | apply Kd.R_drewN | apply Kd.R_drew)); exact (Kd.R_mono (Kd.R_far (p := ⟨gb368, 0, none⟩) (Kd.R_types HO366.out BK368.out (by decide)) (fun _ hk => hk.2) (.slice Ao57 t364.length co57)) (fun _ h_ => h_.1)))); (case side2 => exact (Kd.R_reads' HO366.out).2.1); (case side3 => refine (Kd.R_reads' (e := 76) (base := w.heap.size) (ok := fun k_ => (((True ∧ some k_ ≠ (.slice Ao35 t340.length co35 : Value).ownBlock) ∧ some k_ ≠ (.slice Ao46 t354.length co46 : Value).ownBlock) ∧ some k_ ≠ (.slice Ao57 t364.length co57 : Value).ownBlock)) (n := t349.length) (c := co40) ?_).2.2; exact (by (with_reducible repeat (first | apply Kd.R_alloc | apply Kd.R_drewN | apply Kd.R_drew)); exact (Kd.R_mono (Kd.R_far (p := ⟨gb368, 0, none⟩) (Kd.R_types HO351.out BK368.out (by decide)) (fun _ hk => hk.2) (.slice Ao57 t364.length co57)) (fun _ h_ => h_.1)))); (case side4 => exact (Kd.R_reads' HO351.out).2.1); rintro e w71 ⟨rfl, hb⟩; refine ⟨_, rfl, ?_⟩; replace HO342 := mk_ (Kd.R_below (by (with_reducible repeat (first | apply Kd.R_alloc | apply Kd.R_drewN | apply Kd.R_drew)); exact (Kd.R_mono (Kd.R_far (p := ⟨gb368, 0, none⟩) (Kd.R_types HO342.out BK368.out (by decide)) (fun _ hk => hk.2) (.slice Ao57 t364.length co57)) (fun _ h_ => h_.1))) hb); replace HO345 := mk_ (Kd.R_below (by (with_reducible repeat (first | apply Kd.R_alloc | apply Kd.R_drewN | apply Kd.R_drew)); exact (Kd.R_mono (Kd.R_far (p := ⟨gb368, 0, none⟩) (Kd.R_types HO345.out BK368.out (by decide)) (fun _ hk => hk.2) (.slice Ao57 t364.length co57)) (fun _ h_ => h_.1))) hb); replace HO348 := mk_ (Kd.R_below (by (with_reducible repeat (first | apply Kd.R_alloc | apply Kd.R_drewN | apply Kd.R_drew)); exact (Kd.R_mono (Kd.R_far (p := ⟨gb368, 0, none⟩) (Kd.R_types HO348.out BK368.out (by decide)) (fun _ hk => hk.2) (.slice Ao57 t364.length co57)) (fun _ h_ => h_.1))) hb); replace HO351 := mk_ (Kd.R_below (by (with_reducible repeat (first | apply Kd.R_alloc | apply Kd.R_drewN | apply Kd.R_drew)); exact (Kd.R_mono (Kd.R_far (p := ⟨gb368, 0, none⟩) (Kd.R_types HO351.out BK368.out (by decide)) (fun _ hk => hk.2) (.slice Ao57 t364.length co57)) (fun _ h_ => h_.1))) hb); replace HO356 := mk_ (Kd.R_below (by (with_reducible repeat (first | apply Kd.R_alloc | apply Kd.R_drewN | apply Kd.R_drew)); exact (Kd.R_mono (Kd.R_far (p := ⟨gb368, 0, none⟩) (Kd.R_types HO356.out BK368.out (by decide)) (fun _ hk => hk.2) (.slice Ao57 t364.length co57)) (fun _ h_ => h_.1))) hb); replace HO360 := mk_ (Kd.R_below (by (with_reducible repeat (first | apply Kd.R_alloc | apply Kd.R_drewN | apply Kd.R_drew)); exact (Kd.R_mono (Kd.R_far (p := ⟨gb368, 0, none⟩) (Kd.R_types HO360.out BK368.out (by decide)) (fun _ hk => hk.2) (.slice Ao57 t364.length co57)) (fun _ h_ => h_.1))) hb); replace HO363 := mk_ (Kd.R_below (by (with_reducible repeat (first | apply Kd.R_alloc | apply Kd.R_drewN | apply Kd.R_drew)); exact (Kd.R_mono (Kd.R_far (p := ⟨gb368, 0, none⟩) (Kd.R_types HO363.out BK368.out (by decide)) (fun _ hk => hk.2) (.slice Ao57 t364.length co57)) (fun _ h_ => h_.1))) hb); replace HO366 := mk_ (Kd.R_below (by (with_reducible repeat (first | apply Kd.R_alloc | apply Kd.R_drewN | apply Kd.R_drew)); exact (Kd.R_mono (Kd.R_far (p := ⟨gb368, 0, none⟩) (Kd.R_types HO366.out BK368.out (by decide)) (fun _ hk => hk.2) (.slice Ao57 t364.length co57)) (fun _ h_ => h_.1))) hb); replace BK337 := mk_ (blk_below (g := gb337) (o := .cells #[.slice A0_0 l0_0.length c0_0] 24 (0, 0)) bf_ hb); replace BK353 := mk_ (blk_below (g := gb353) (o := .cells #[.slice Ao40 t349.length co40] 31 (0, 0)) bf_ hb); replace BK357 := mk_ (blk_below (g := gb357) (o := .cells #[.slice Ao46 t354.length co46] 31 (0, 0)) bf_ hb); replace BK368 := mk_ (blk_below (g := gb368) (o := .cells #[.slice Ao57 t364.length co57] 31 (0, 0)) bu_ hb); replace HB := bs_ HB hb; (try clear hb); (try clear hk)))
      go_meet
      case rel => exact ⟨_, ((t367 != t352)), (by first | rfl | (simp; done) | (simp [*]; done) | (simp [bne]; done)), H', ⟨by first | omega | exact Nat.le_refl _⟩, ⟨by (with_reducible repeat (first | apply Kd.R_alloc | apply Kd.R_drewN | apply Kd.R_drew)); exact Kd.R_mono HO360.out (fun _ hk => trivial)⟩, ⟨by (with_reducible repeat (first | apply Kd.R_alloc | apply Kd.R_drewN | apply Kd.R_drew)); exact Kd.R_mono HO363.out (fun _ hk => trivial)⟩, ⟨by (with_reducible repeat (first | apply Kd.R_alloc | apply Kd.R_drewN | apply Kd.R_drew)); exact Kd.R_mono HO351.out (fun _ hk => ⟨hk.1.2, hk.2⟩)⟩, ⟨by (with_reducible repeat (first | apply Kd.R_alloc | apply Kd.R_drewN | apply Kd.R_drew)); exact Kd.R_mono HO356.out (fun _ hk => ⟨hk.1.2, hk.2⟩)⟩, ⟨by (with_reducible repeat (first | apply Kd.R_alloc | apply Kd.R_drewN | apply Kd.R_drew)); exact Kd.R_mono HO366.out (fun _ hk => ⟨hk.1.2, hk.2⟩)⟩, ⟨bf_⟩, ⟨bf_⟩, ⟨bf_⟩, ⟨bf_⟩, ⟨bw_ HB⟩⟩
     ·replace c63 := Bool.eq_false_iff.mpr c63
      subst c63
      have H1 : (none) = some r := by rw [if_neg (show ¬ (false = true) by decide)] at H; exact H
      clear H
      have H := H1
      clear H1
      exact absurd H (by simp)
    case rest =>
     clear HC26
     try clear c1
     try clear c2
     try clear p2
     try clear c3
     try clear c4
     try clear c5
     try clear c5b0
     try clear c5b1
     try clear c6
     try clear c7
     try clear c8
     try clear c8b0
     try clear c11
     try clear c13
     try clear c13b0
     try clear c14
     try clear c17
     try clear c19
     try clear c27
     try clear c28
     try clear c34
     try clear c41
     try clear c47
     try clear c48
     try clear c58
     try clear c59
     try clear c60
     try clear c63
     try clear c64
     try clear c65
     try clear c66
     try clear c68
     try clear c69
     try clear hcz10_0
     try clear hcz15_0
     try clear hcz28_0
     try clear hcz31_0
     try clear hcz42_0
     try clear hcz43_0
     try clear hcz49_0
     try clear hcz52_0
     try clear hcz61_0
     try clear hcz67_0
     try clear hcz70_0
     try clear hfz10_0
     try clear hfz15_0
     try clear hfz28_0
     try clear hfz31_0
     try clear hfz42_0
     try clear hfz43_0
     try clear hfz49_0
     try clear hfz52_0
     try clear hfz61_0
     try clear hfz67_0
     try clear hfz70_0
     obtain ⟨kq, x68_25, rfl, HA, HJ25, HO_13, HO_14, HO_354000, HO_358000, HO_369000, BK337, BK353, BK357, BK368, HB⟩ := hcut
     cases kq with
     | zero => exact absurd HA.out (by simp [laws_FnExactCutActs.j0])
     | succ kj25 =>
      have H := HA.out
      clear HA
      simp only [laws_FnExactCutActs.j0] at H
      by_cases c72 : x68_25 = true
      ·subst c72
       have H1 : (none) = some r := by rw [if_pos rfl] at H; exact H
       clear H
       have H := H1
       clear H1
       exact absurd H (by simp)
      ·replace c72 := Bool.eq_false_iff.mpr c72
       subst c72
       have H1 : ((laws_toDisk.f kj25 l0_0).bind fun t370 => ((laws_eqDisk.f kj25 t354 t370).bind fun t373 => (if t373 = true then ((laws_toActS.f kj25 l1).bind fun t374 => ((laws_eqActS.f kj25 t358 t374).bind fun t377 => (if t377 = true then ((laws_toIntS.f kj25 l3).bind fun t378 => ((laws_eqIntS.f kj25 t361 t378).bind fun t381 => (if t381 = true then ((laws_markDisk.f kj25 t354 1).bind fun bt382 => ((laws_markActS.f kj25 t358 bt382.1).bind fun bt384 => ((laws_markIntS.f kj25 t361 bt384.1).bind fun bt386 => (if bt386.1 < 0 then (none) else ((laws_eqDisk.f kj25 t364 t349).bind fun t388 => (if t388 = true then (laws_FnExactCutActs.j1 kj25 l1 a2 l3 t352 (t367 != t352) l0_0 t349 t364) else (none))))))) else (none)))) else (none)))) else (none)))) = some r := by rw [if_neg (show ¬ (false = true) by decide)] at H; exact H
       clear H
       have H := H1
       clear H1
       replace H := Option.bind_eq_some_iff.mp H
       obtain ⟨t370, A730, H⟩ := H
       replace H : ((laws_eqDisk.f kj25 t354 t370).bind fun t373 => (if t373 = true then ((laws_toActS.f kj25 l1).bind fun t374 => ((laws_eqActS.f kj25 t358 t374).bind fun t377 => (if t377 = true then ((laws_toIntS.f kj25 l3).bind fun t378 => ((laws_eqIntS.f kj25 t361 t378).bind fun t381 => (if t381 = true then ((laws_markDisk.f kj25 t354 1).bind fun bt382 => ((laws_markActS.f kj25 t358 bt382.1).bind fun bt384 => ((laws_markIntS.f kj25 t361 bt384.1).bind fun bt386 => (if bt386.1 < 0 then (none) else ((laws_eqDisk.f kj25 t364 t349).bind fun t388 => (if t388 = true then (laws_FnExactCutActs.j1 kj25 l1 a2 l3 t352 (t367 != t352) l0_0 t349 t364) else (none))))))) else (none)))) else (none)))) else (none))) = some r := H
       have A73 := Aside0.mk A730
       clear A730
       replace H := Option.bind_eq_some_iff.mp H
       obtain ⟨t373, A740, H⟩ := H
       replace H : (if t373 = true then ((laws_toActS.f kj25 l1).bind fun t374 => ((laws_eqActS.f kj25 t358 t374).bind fun t377 => (if t377 = true then ((laws_toIntS.f kj25 l3).bind fun t378 => ((laws_eqIntS.f kj25 t361 t378).bind fun t381 => (if t381 = true then ((laws_markDisk.f kj25 t354 1).bind fun bt382 => ((laws_markActS.f kj25 t358 bt382.1).bind fun bt384 => ((laws_markIntS.f kj25 t361 bt384.1).bind fun bt386 => (if bt386.1 < 0 then (none) else ((laws_eqDisk.f kj25 t364 t349).bind fun t388 => (if t388 = true then (laws_FnExactCutActs.j1 kj25 l1 a2 l3 t352 (t367 != t352) l0_0 t349 t364) else (none))))))) else (none)))) else (none)))) else (none)) = some r := H
       have A74 := Aside0.mk A740
       clear A740
       by_cases c75 : t373 = true
       ·subst c75
        have H1 : ((laws_toActS.f kj25 l1).bind fun t374 => ((laws_eqActS.f kj25 t358 t374).bind fun t377 => (if t377 = true then ((laws_toIntS.f kj25 l3).bind fun t378 => ((laws_eqIntS.f kj25 t361 t378).bind fun t381 => (if t381 = true then ((laws_markDisk.f kj25 t354 1).bind fun bt382 => ((laws_markActS.f kj25 t358 bt382.1).bind fun bt384 => ((laws_markIntS.f kj25 t361 bt384.1).bind fun bt386 => (if bt386.1 < 0 then (none) else ((laws_eqDisk.f kj25 t364 t349).bind fun t388 => (if t388 = true then (laws_FnExactCutActs.j1 kj25 l1 a2 l3 t352 (t367 != t352) l0_0 t349 t364) else (none))))))) else (none)))) else (none)))) = some r := by rw [if_pos rfl] at H; exact H
        clear H
        have H := H1
        clear H1
        replace H := Option.bind_eq_some_iff.mp H
        obtain ⟨t374, A760, H⟩ := H
        replace H : ((laws_eqActS.f kj25 t358 t374).bind fun t377 => (if t377 = true then ((laws_toIntS.f kj25 l3).bind fun t378 => ((laws_eqIntS.f kj25 t361 t378).bind fun t381 => (if t381 = true then ((laws_markDisk.f kj25 t354 1).bind fun bt382 => ((laws_markActS.f kj25 t358 bt382.1).bind fun bt384 => ((laws_markIntS.f kj25 t361 bt384.1).bind fun bt386 => (if bt386.1 < 0 then (none) else ((laws_eqDisk.f kj25 t364 t349).bind fun t388 => (if t388 = true then (laws_FnExactCutActs.j1 kj25 l1 a2 l3 t352 (t367 != t352) l0_0 t349 t364) else (none))))))) else (none)))) else (none))) = some r := H
        have A76 := Aside0.mk A760
        clear A760
        replace H := Option.bind_eq_some_iff.mp H
        obtain ⟨t377, A770, H⟩ := H
        replace H : (if t377 = true then ((laws_toIntS.f kj25 l3).bind fun t378 => ((laws_eqIntS.f kj25 t361 t378).bind fun t381 => (if t381 = true then ((laws_markDisk.f kj25 t354 1).bind fun bt382 => ((laws_markActS.f kj25 t358 bt382.1).bind fun bt384 => ((laws_markIntS.f kj25 t361 bt384.1).bind fun bt386 => (if bt386.1 < 0 then (none) else ((laws_eqDisk.f kj25 t364 t349).bind fun t388 => (if t388 = true then (laws_FnExactCutActs.j1 kj25 l1 a2 l3 t352 (t367 != t352) l0_0 t349 t364) else (none))))))) else (none)))) else (none)) = some r := H
        have A77 := Aside0.mk A770
        clear A770
        by_cases c78 : t377 = true
        ·subst c78
         have H1 : ((laws_toIntS.f kj25 l3).bind fun t378 => ((laws_eqIntS.f kj25 t361 t378).bind fun t381 => (if t381 = true then ((laws_markDisk.f kj25 t354 1).bind fun bt382 => ((laws_markActS.f kj25 t358 bt382.1).bind fun bt384 => ((laws_markIntS.f kj25 t361 bt384.1).bind fun bt386 => (if bt386.1 < 0 then (none) else ((laws_eqDisk.f kj25 t364 t349).bind fun t388 => (if t388 = true then (laws_FnExactCutActs.j1 kj25 l1 a2 l3 t352 (t367 != t352) l0_0 t349 t364) else (none))))))) else (none)))) = some r := by rw [if_pos rfl] at H; exact H
         clear H
         have H := H1
         clear H1
         replace H := Option.bind_eq_some_iff.mp H
         obtain ⟨t378, A790, H⟩ := H
         replace H : ((laws_eqIntS.f kj25 t361 t378).bind fun t381 => (if t381 = true then ((laws_markDisk.f kj25 t354 1).bind fun bt382 => ((laws_markActS.f kj25 t358 bt382.1).bind fun bt384 => ((laws_markIntS.f kj25 t361 bt384.1).bind fun bt386 => (if bt386.1 < 0 then (none) else ((laws_eqDisk.f kj25 t364 t349).bind fun t388 => (if t388 = true then (laws_FnExactCutActs.j1 kj25 l1 a2 l3 t352 (t367 != t352) l0_0 t349 t364) else (none))))))) else (none))) = some r := H
         have A79 := Aside0.mk A790
         clear A790
         replace H := Option.bind_eq_some_iff.mp H
         obtain ⟨t381, A800, H⟩ := H
         replace H : (if t381 = true then ((laws_markDisk.f kj25 t354 1).bind fun bt382 => ((laws_markActS.f kj25 t358 bt382.1).bind fun bt384 => ((laws_markIntS.f kj25 t361 bt384.1).bind fun bt386 => (if bt386.1 < 0 then (none) else ((laws_eqDisk.f kj25 t364 t349).bind fun t388 => (if t388 = true then (laws_FnExactCutActs.j1 kj25 l1 a2 l3 t352 (t367 != t352) l0_0 t349 t364) else (none))))))) else (none)) = some r := H
         have A80 := Aside0.mk A800
         clear A800
         by_cases c81 : t381 = true
         ·subst c81
          have H1 : ((laws_markDisk.f kj25 t354 1).bind fun bt382 => ((laws_markActS.f kj25 t358 bt382.1).bind fun bt384 => ((laws_markIntS.f kj25 t361 bt384.1).bind fun bt386 => (if bt386.1 < 0 then (none) else ((laws_eqDisk.f kj25 t364 t349).bind fun t388 => (if t388 = true then (laws_FnExactCutActs.j1 kj25 l1 a2 l3 t352 (t367 != t352) l0_0 t349 t364) else (none))))))) = some r := by rw [if_pos rfl] at H; exact H
          clear H
          have H := H1
          clear H1
          replace H := Option.bind_eq_some_iff.mp H
          obtain ⟨⟨t382, t383⟩, A820, H⟩ := H
          replace H : ((laws_markActS.f kj25 t358 t382).bind fun bt384 => ((laws_markIntS.f kj25 t361 bt384.1).bind fun bt386 => (if bt386.1 < 0 then (none) else ((laws_eqDisk.f kj25 t364 t349).bind fun t388 => (if t388 = true then (laws_FnExactCutActs.j1 kj25 l1 a2 l3 t352 (t367 != t352) l0_0 t349 t364) else (none)))))) = some r := H
          have A82 := Aside0.mk A820
          clear A820
          replace H := Option.bind_eq_some_iff.mp H
          obtain ⟨⟨t384, t385⟩, A830, H⟩ := H
          replace H : ((laws_markIntS.f kj25 t361 t384).bind fun bt386 => (if bt386.1 < 0 then (none) else ((laws_eqDisk.f kj25 t364 t349).bind fun t388 => (if t388 = true then (laws_FnExactCutActs.j1 kj25 l1 a2 l3 t352 (t367 != t352) l0_0 t349 t364) else (none))))) = some r := H
          have A83 := Aside0.mk A830
          clear A830
          replace H := Option.bind_eq_some_iff.mp H
          obtain ⟨⟨t386, t387⟩, A840, H⟩ := H
          replace H : (if t386 < 0 then (none) else ((laws_eqDisk.f kj25 t364 t349).bind fun t388 => (if t388 = true then (laws_FnExactCutActs.j1 kj25 l1 a2 l3 t352 (t367 != t352) l0_0 t349 t364) else (none)))) = some r := H
          have A84 := Aside0.mk A840
          clear A840
          have HC85 := Aside0.mk H
          clear H
          try go_wp2
          have n0_ := mk_ (Kd.R_drew HO_13.out)
          have n1_ := mk_ (Kd.R_drew HO_14.out)
          have n2_ := mk_ (Kd.R_drew HO_354000.out)
          have n3_ := mk_ (Kd.R_drew HO_358000.out)
          have n4_ := mk_ (Kd.R_drew HO_369000.out)
          have n5_ := mk_ (blk_drew BK337.out)
          have n6_ := mk_ (blk_drew BK353.out)
          have n7_ := mk_ (blk_drew BK357.out)
          have n8_ := mk_ (blk_drew BK368.out)
          have n9_ := mk_ (below_drew1 HB.out)
          clear HO_13; clear HO_14; clear HO_354000; clear HO_358000; clear HO_369000; clear BK337; clear BK353; clear BK357; clear BK368; clear HB; have HO_13 := n0_; have HO_14 := n1_; have HO_354000 := n2_; have HO_358000 := n3_; have HO_369000 := n4_; have BK337 := n5_; have BK353 := n6_; have BK357 := n7_; have BK368 := n8_; have HB := n9_; clear n0_ n1_ n2_ n3_ n4_ n5_ n6_ n7_ n8_ n9_
          refine start_ (n := 5) (S := fun w' => w'.cell? ⟨gb357, 0, none⟩ = some (.slice Ao46 t354.length co46) ∧ w'.cell? ⟨gb337, 0, none⟩ = some (.slice A0_0 l0_0.length c0_0)) (ds := []) #[false, false, false, false, false] (by kernel_rfl) rfl rfl ⟨bc_ BK357 0, bc_ BK337 0⟩ (fun hHeld => ?_)
          generalize wc.drew = w86 at HO_13 HO_14 HO_354000 HO_358000 HO_369000 BK337 BK353 BK357 BK368 HB hHeld ⊢
          refine take_ (i := 0) (N := some 69) (v := ?_) (a' := ?_) #[true, false, false, false, false] rfl rfl (by kernel_rfl) (fun _ _ _ h => h) (Or.inl ⟨by rfl, ?_⟩) hHeld ?_ ?_
          rotate_left
          ·rintro w' ⟨s0, s1⟩
           go_simp
           with_reducible rfl
          rotate_left
          ·simp only [Act.put, sia_, scz_, scs_, i64_w, i32_w]
           rfl
          refine take_ (i := 1) (N := some 70) (v := ?_) (a' := ?_) #[true, true, false, false, false] rfl rfl (by kernel_rfl) (fun _ _ _ h => h) (Or.inl ⟨by rfl, ?_⟩) hHeld ?_ ?_
          rotate_left
          ·rintro w' ⟨s0, s1⟩
           go_simp
           with_reducible rfl
          rotate_left
          ·simp only [Act.put, sia_, scz_, scs_, i64_w, i32_w]
           rfl
          refine one_ (i := 2) (N := some 71) #[true, true, true, false, false] rfl rfl (by kernel_rfl) (by decide) (fun K hK => ?_)
          refine goes_ Try.func11 (by kernel_rfl) rfl #[.agg #[.slice A0_0 l0_0.length c0_0]] (by rfl) rfl rfl ga_ ?_
          with_reducible refine (laws_toDisk.calls kj25 _ _ l0_0 t370 _ ?side1 ?side2 A73.out).mono ?_
          (case side1 => repeat (first | exact (Kd.C_below HR0_0.out HB.out) | (with_reducible refine Kd.C_alloc ?_ _) | (with_reducible refine Kd.C_drewN ?_ _) | (with_reducible refine Kd.C_drew ?_)))
          (case side2 => exact HC0_0.out)
          rintro e w87 ⟨v371, rfl, ho0, hb⟩
          refine ⟨_, rfl, ?_⟩
          have n0_ := rb_ HO_13 hb
          have n1_ := rb_ HO_14 hb
          have n2_ := mk_ (Kd.R_elder' (rp_ HO_354000) (Kd.R_base ho0) hb)
          have n3_ := mk_ (Kd.R_elder' (rp_ HO_358000) (Kd.R_base ho0) hb)
          have n4_ := mk_ (Kd.R_elder' (rp_ HO_369000) (Kd.R_base ho0) hb)
          have n5_ := mk_ (Kd.R_lower (Kd.R_new' (Kd.R_new' (Kd.R_new' ho0 (Kd.R_lt (rp_ HO_354000))) (Kd.R_lt (rp_ HO_358000))) (Kd.R_lt (rp_ HO_369000))) (below_size (bw_ HB)))
          have n6_ := bb_ BK337 hb; have n7_ := bb_ BK353 hb; have n8_ := bb_ BK357 hb; have n9_ := bb_ BK368 hb
          have n10_ := bs_ HB hb
          clear HO_13; clear HO_14; clear HO_354000; clear HO_358000; clear HO_369000; clear BK337; clear BK353; clear BK357; clear BK368; clear HB; have HO_13 := n0_; have HO_14 := n1_; have HO_354000 := n2_; have HO_358000 := n3_; have HO_369000 := n4_; have HO372 := n5_; have BK337 := n6_; have BK353 := n7_; have BK357 := n8_; have BK368 := n9_; have HB := n10_; clear n0_ n1_ n2_ n3_ n4_ n5_ n6_ n7_ n8_ n9_ n10_; (try clear hb); (try clear hb2); (try clear hk); (try clear hi); (try clear ho0)
          obtain ⟨Ao88, co88, eo88⟩ := Kd.R_slice HO372.out
          (first | subst eo88 | (injection eo88 with f1_ f2_ f3_; have f4_ := f1_.symm; have f5_ := f3_.symm; clear f1_ f2_ f3_; subst f4_; subst f5_))
          refine hK.out _ _ ⟨bc_ BK357 0, bc_ BK337 0⟩ (fun hHeld => ?_)
          clear hK K
          refine norm_ (a' := ?_) ?_ ?_
          rotate_left
          ·show Act.put _ (some 71) _ = _
           simp only [Act.put, sia_, scz_, scs_, i64_w, i32_w]
           rfl
          refine one_ (i := 3) (N := some 72) #[true, true, true, true, false] rfl rfl (by kernel_rfl) (by decide) (fun K hK => ?_)
          refine goes_ Try.func14 (by kernel_rfl) rfl #[.agg #[.slice Ao46 t354.length co46], .agg #[.slice Ao88 t370.length co88]] (by rfl) rfl rfl ga_ ?_
          with_reducible refine (laws_eqDisk.calls kj25 _ _ t354 _ _ t370 true _ ?side1 ?side2 ?side3 ?side4 A74.out).mono ?_
          (case side1 => repeat (first | exact (Kd.R_reads' HO_358000.out).2.2 | (with_reducible refine Kd.C_alloc ?_ _) | (with_reducible refine Kd.C_drewN ?_ _) | (with_reducible refine Kd.C_drew ?_)))
          (case side2 => exact (Kd.R_reads' HO_358000.out).2.1)
          (case side3 => repeat (first | exact (Kd.R_reads' HO372.out).2.2 | (with_reducible refine Kd.C_alloc ?_ _) | (with_reducible refine Kd.C_drewN ?_ _) | (with_reducible refine Kd.C_drew ?_)))
          (case side4 => exact (Kd.R_reads' HO372.out).2.1)
          rintro e w89 ⟨rfl, hb⟩
          refine ⟨_, rfl, ?_⟩
          have n0_ := rb_ HO_13 hb
          have n1_ := rb_ HO_14 hb
          have n2_ := rb_ HO_354000 hb
          have n3_ := rb_ HO_358000 hb
          have n4_ := rb_ HO_369000 hb
          have n5_ := rb_ HO372 hb
          have n6_ := bb_ BK337 hb; have n7_ := bb_ BK353 hb; have n8_ := bb_ BK357 hb; have n9_ := bb_ BK368 hb
          have n10_ := bs_ HB hb
          clear HO_13; clear HO_14; clear HO_354000; clear HO_358000; clear HO_369000; clear HO372; clear BK337; clear BK353; clear BK357; clear BK368; clear HB; have HO_13 := n0_; have HO_14 := n1_; have HO_354000 := n2_; have HO_358000 := n3_; have HO_369000 := n4_; have HO372 := n5_; have BK337 := n6_; have BK353 := n7_; have BK357 := n8_; have BK368 := n9_; have HB := n10_; clear n0_ n1_ n2_ n3_ n4_ n5_ n6_ n7_ n8_ n9_ n10_; (try clear hb); (try clear hb2); (try clear hk); (try clear hi)
          refine hK.out _ _ ⟨bc_ BK357 0, bc_ BK337 0⟩ (fun hHeld => ?_)
          clear hK K
          refine norm_ (a' := ?_) ?_ ?_
          rotate_left
          ·show Act.put _ (some 72) _ = _
           simp only [Act.put, sia_, scz_, scs_, i64_w, i32_w]
           rfl
          refine pure_ (i := 4) (N := some 73) (v := ?_) (a' := ?_) #[true, true, true, true, true] rfl rfl (by kernel_rfl) (fun _ _ _ h => h) (Or.inl ⟨by rfl, ?_⟩) ?_ ?_
          rotate_left
          ·intro w'
           go_simp
           with_reducible rfl
          rotate_left
          ·simp only [Act.put, sia_, scz_, scs_, i64_w, i32_w]
           rfl
          refine done_ (by kernel_rfl) ?_
          go_upto_region 27 with (first | ((with_reducible refine gate_callee (f := 19) rfl ?_); refine goesL_ (some 76) rfl rfl Try.func19 (by kernel_rfl) rfl #[.slice A1 l1.length c1] rfl ga_ ?_; (with_reducible refine (laws_toActS.calls kj25 _ _ l1 t374 _ ?side1 ?side2 A76.out).mono ?_); (case side1 => repeat (first | exact (Kd.C_below HR1.out HB.out) | (with_reducible refine Kd.C_alloc ?_ _) | (with_reducible refine Kd.C_drewN ?_ _) | (with_reducible refine Kd.C_drew ?_))); (case side2 => exact HC1.out); rintro e w90 ⟨v375, rfl, ho0, hb⟩; refine ⟨_, rfl, ?_⟩; have HO376 := mk_ (Kd.R_lower (Kd.R_new' ho0 (Kd.R_lt (rp_ HO_13))) (below_size (bw_ HB))); replace HO_13 := mk_ (Kd.R_elder' (rp_ HO_13) (Kd.R_base ho0) hb); replace HO_14 := rb_ HO_14 hb; replace HO_354000 := rb_ HO_354000 hb; replace HO_358000 := rb_ HO_358000 hb; replace HO_369000 := rb_ HO_369000 hb; replace HO372 := rb_ HO372 hb; replace BK337 := bb_ BK337 hb; replace BK353 := bb_ BK353 hb; replace BK357 := bb_ BK357 hb; replace BK368 := bb_ BK368 hb; replace HB := bs_ HB hb; (try clear hb); (try clear ho0); obtain ⟨Ao91, co91, eo91⟩ := Kd.R_slice HO376.out; subst eo91) | ((with_reducible refine gate_callee (f := 21) rfl ?_); refine goesL_ (some 77) rfl rfl Try.func21 (by kernel_rfl) rfl #[.slice Ao53 t358.length co53, .slice Ao91 t374.length co91] rfl ga_ ?_; (with_reducible refine (laws_eqActS.calls kj25 _ _ t358 _ _ t374 true _ ?side1 ?side2 ?side3 ?side4 A77.out).mono ?_); (case side1 => repeat (first | exact (Kd.R_reads' HO_13.out).2.2 | (with_reducible refine Kd.C_alloc ?_ _) | (with_reducible refine Kd.C_drewN ?_ _) | (with_reducible refine Kd.C_drew ?_))); (case side2 => exact (Kd.R_reads' HO_13.out).2.1); (case side3 => repeat (first | exact (Kd.R_reads' HO376.out).2.2 | (with_reducible refine Kd.C_alloc ?_ _) | (with_reducible refine Kd.C_drewN ?_ _) | (with_reducible refine Kd.C_drew ?_))); (case side4 => exact (Kd.R_reads' HO376.out).2.1); rintro e w92 ⟨rfl, hb⟩; refine ⟨_, rfl, ?_⟩; replace HO_13 := rb_ HO_13 hb; replace HO_14 := rb_ HO_14 hb; replace HO_354000 := rb_ HO_354000 hb; replace HO_358000 := rb_ HO_358000 hb; replace HO_369000 := rb_ HO_369000 hb; replace HO372 := rb_ HO372 hb; replace HO376 := rb_ HO376 hb; replace BK337 := bb_ BK337 hb; replace BK353 := bb_ BK353 hb; replace BK357 := bb_ BK357 hb; replace BK368 := bb_ BK368 hb; replace HB := bs_ HB hb; (try clear hb)) | ((with_reducible refine gate_callee (f := 34) rfl ?_); refine goesL_ (some 81) rfl rfl Try.func34 (by kernel_rfl) rfl #[.slice A3 l3.length c3] rfl ga_ ?_; (with_reducible refine (laws_toIntS.calls kj25 _ _ l3 t378 _ ?side1 ?side2 A79.out).mono ?_); (case side1 => repeat (first | exact (Kd.C_below HR3.out HB.out) | (with_reducible refine Kd.C_alloc ?_ _) | (with_reducible refine Kd.C_drewN ?_ _) | (with_reducible refine Kd.C_drew ?_))); (case side2 => exact HC3.out); rintro e w93 ⟨v379, rfl, ho0, hb⟩; refine ⟨_, rfl, ?_⟩; have HO380 := mk_ (Kd.R_lower (Kd.R_new' ho0 (Kd.R_lt (rp_ HO_14))) (below_size (bw_ HB))); replace HO_13 := rb_ HO_13 hb; replace HO_14 := mk_ (Kd.R_elder' (rp_ HO_14) (Kd.R_base ho0) hb); replace HO_354000 := rb_ HO_354000 hb; replace HO_358000 := rb_ HO_358000 hb; replace HO_369000 := rb_ HO_369000 hb; replace HO372 := rb_ HO372 hb; replace HO376 := rb_ HO376 hb; replace BK337 := bb_ BK337 hb; replace BK353 := bb_ BK353 hb; replace BK357 := bb_ BK357 hb; replace BK368 := bb_ BK368 hb; replace HB := bs_ HB hb; (try clear hb); (try clear ho0); obtain ⟨Ao94, co94, eo94⟩ := Kd.R_slice HO380.out; subst eo94) | ((with_reducible refine gate_callee (f := 35) rfl ?_); refine goesL_ (some 82) rfl rfl Try.func35 (by kernel_rfl) rfl #[.slice Ao54 t361.length co54, .slice Ao94 t378.length co94] rfl ga_ ?_; (with_reducible refine (laws_eqIntS.calls kj25 _ _ t361 _ _ t378 true _ ?side1 ?side2 ?side3 ?side4 A80.out).mono ?_); (case side1 => repeat (first | exact (Kd.R_reads' HO_14.out).2.2 | (with_reducible refine Kd.C_alloc ?_ _) | (with_reducible refine Kd.C_drewN ?_ _) | (with_reducible refine Kd.C_drew ?_))); (case side2 => exact (Kd.R_reads' HO_14.out).2.1); (case side3 => repeat (first | exact (Kd.R_reads' HO380.out).2.2 | (with_reducible refine Kd.C_alloc ?_ _) | (with_reducible refine Kd.C_drewN ?_ _) | (with_reducible refine Kd.C_drew ?_))); (case side4 => exact (Kd.R_reads' HO380.out).2.1); rintro e w' ⟨rfl, ⟨nd, rfl⟩⟩; refine ⟨_, rfl, ?_⟩; have hnb95 := NB357_337.out; have hnc95 := NB337_357.out; have hnb96 := NB357_353.out; have hnc96 := NB353_357.out; have hnb97 := NB357_368.out; have hnc97 := NB368_357.out; obtain ⟨hcz98_0, hfz98_0⟩ := b1_ BK357) | ((with_reducible refine gate_callee (f := 15) rfl ?_); refine goesL_ (some 86) rfl rfl Try.func15 (by kernel_rfl) rfl #[.agg #[.slice Ao46 t354.length co46], .int .i64 1] rfl ga_ ?_; (with_reducible refine (laws_markDisk.calls kj25 (fun k_ => some k_ = (.slice Ao46 t354.length co46 : Value).ownBlock) (.slice Ao46 t354.length co46) t354 1 t382 t383 w _ ?side1 ?side2 A82.out).mono ?_); (case side1 => exact bw_ HB); (case side2 => exact Kd.R_tight rfl HO_358000.out); rintro e w99 ⟨rfl, hy0, hb, hkp⟩; refine ⟨_, rfl, ?_⟩; have n0_ := mk_ (Kd.R_mono (ok' := fun k_ => some k_ ≠ (.slice Ao91 t374.length co91 : Value).ownBlock) (Kd.R_keptB ((Kd.R_apart' HO_13.out (Kd.R_typed HO_358000.out) (by decide))) hkp (fun k_ hk_ hs_ => (hk_.2) hs_)) (fun k_ hk_ => hk_.1.1.2)); have n1_ := mk_ (Kd.R_mono (ok' := fun k_ => some k_ ≠ (.slice Ao94 t378.length co94 : Value).ownBlock) (Kd.R_keptB ((Kd.R_apart' HO_14.out (Kd.R_typed HO_358000.out) (by decide))) hkp (fun k_ hk_ hs_ => (hk_.2) hs_)) (fun k_ hk_ => hk_.1.1.2)); have n2_ := mk_ (Kd.R_mono (ok' := fun k_ => some k_ ≠ (.slice Ao46 t354.length co46 : Value).ownBlock ∧ some k_ ≠ (.slice Ao57 t364.length co57 : Value).ownBlock ∧ some k_ ≠ (.slice Ao88 t370.length co88 : Value).ownBlock) (Kd.R_keptB (HO_354000.out) hkp (fun k_ hk_ hs_ => (hk_.1.1) hs_)) (fun k_ hk_ => ⟨hk_.1.1.1, hk_.1.1.2, hk_.1.2⟩)); have n3_ := mk_ (Kd.R_reok rfl hy0 (fun k_ e_ => HO_358000.out.1 k_ e_)); have n4_ := mk_ (Kd.R_mono (ok' := fun k_ => some k_ ≠ (.slice Ao40 t349.length co40 : Value).ownBlock ∧ some k_ ≠ (.slice Ao46 t354.length co46 : Value).ownBlock ∧ some k_ ≠ (.slice Ao88 t370.length co88 : Value).ownBlock) (Kd.R_keptB (HO_369000.out) hkp (fun k_ hk_ hs_ => (hk_.1.2) hs_)) (fun k_ hk_ => ⟨hk_.1.1.1, hk_.1.1.2, hk_.1.2⟩)); have n5_ := mk_ (blk_kept (bp_ BK337) hkp (fun hs_ => (fun e_ => (Kd.R_ne HO_358000.out BK337.out (by decide)) e_) hs_)); have n6_ := mk_ (blk_kept (bp_ BK353) hkp (fun hs_ => (fun e_ => (Kd.R_ne HO_358000.out BK353.out (by decide)) e_) hs_)); have n7_ := mk_ (blk_kept (bp_ BK357) hkp (fun hs_ => (fun e_ => (Kd.R_ne HO_358000.out BK357.out (by decide)) e_) hs_)); have n8_ := mk_ (blk_kept (bp_ BK368) hkp (fun hs_ => (fun e_ => (Kd.R_ne HO_358000.out BK368.out (by decide)) e_) hs_)); have n9_ := mk_ (Kd.R_mono (ok' := fun k_ => some k_ ≠ (.slice Ao40 t349.length co40 : Value).ownBlock ∧ some k_ ≠ (.slice Ao46 t354.length co46 : Value).ownBlock ∧ some k_ ≠ (.slice Ao57 t364.length co57 : Value).ownBlock) (Kd.R_keptB (HO372.out) hkp (fun k_ hk_ hs_ => (hk_.1.2) hs_)) (fun k_ hk_ => ⟨hk_.1.1.1.2, hk_.1.1.2, hk_.1.2⟩)); have n10_ := mk_ (Kd.R_mono (ok' := fun k_ => some k_ ≠ (.slice Ao53 t358.length co53 : Value).ownBlock) (Kd.R_keptB ((Kd.R_apart' HO376.out (Kd.R_typed HO_358000.out) (by decide))) hkp (fun k_ hk_ hs_ => (hk_.2) hs_)) (fun k_ hk_ => hk_.1.1.2)); have n11_ := mk_ (Kd.R_mono (ok' := fun k_ => some k_ ≠ (.slice Ao54 t361.length co54 : Value).ownBlock) (Kd.R_keptB ((Kd.R_apart' HO380.out (Kd.R_typed HO_358000.out) (by decide))) hkp (fun k_ hk_ hs_ => (hk_.2) hs_)) (fun k_ hk_ => hk_.1.1.2)); have n12_ := mk_ (hb); clear HO_13; clear HO_14; clear HO_354000; clear HO_358000; clear HO_369000; clear BK337; clear BK353; clear BK357; clear BK368; clear HO372; clear HO376; clear HO380; clear HB; have HO_13 := n0_; have HO_14 := n1_; have HO_354000 := n2_; have HO_358000 := n3_; have HO_369000 := n4_; have BK337 := n5_; have BK353 := n6_; have BK357 := n7_; have BK368 := n8_; have HO372 := n9_; have HO376 := n10_; have HO380 := n11_; have HB := n12_; clear n0_ n1_ n2_ n3_ n4_ n5_ n6_ n7_ n8_ n9_ n10_ n11_ n12_; (try clear hb); (try clear hkp); (try clear hy0)) | ((with_reducible refine gate_callee (f := 22) rfl ?_); refine goesL_ (some 89) rfl rfl Try.func22 (by kernel_rfl) rfl #[.slice Ao53 t358.length co53, .int .i64 t382] rfl ga_ ?_; (with_reducible refine (laws_markActS.calls kj25 (fun k_ => some k_ = (.slice Ao53 t358.length co53 : Value).ownBlock) (.slice Ao53 t358.length co53) t358 t382 t384 t385 w _ ?side1 ?side2 A83.out).mono ?_); (case side1 => exact bw_ HB); (case side2 => exact Kd.R_tight rfl HO_13.out); rintro e w100 ⟨rfl, hy0, hb, hkp⟩; refine ⟨_, rfl, ?_⟩; have n0_ := mk_ (Kd.R_reok rfl hy0 (fun k_ e_ => HO_13.out.1 k_ e_)); have n1_ := mk_ (Kd.R_mono (ok' := fun k_ => some k_ ≠ (.slice Ao94 t378.length co94 : Value).ownBlock) (Kd.R_keptB ((Kd.R_apart' HO_14.out (Kd.R_typed HO_13.out) (by decide))) hkp (fun k_ hk_ hs_ => (hk_.2) hs_)) (fun k_ hk_ => hk_.1.1)); have n2_ := mk_ (Kd.R_mono (ok' := fun k_ => some k_ ≠ (.slice Ao46 t354.length co46 : Value).ownBlock ∧ some k_ ≠ (.slice Ao57 t364.length co57 : Value).ownBlock ∧ some k_ ≠ (.slice Ao88 t370.length co88 : Value).ownBlock) (Kd.R_keptB ((Kd.R_apart' HO_354000.out (Kd.R_typed HO_13.out) (by decide))) hkp (fun k_ hk_ hs_ => (hk_.2) hs_)) (fun k_ hk_ => ⟨hk_.1.1.1, hk_.1.1.2.1, hk_.1.1.2.2⟩)); have n3_ := mk_ (Kd.R_mono (ok' := fun k_ => some k_ ≠ (.slice Ao40 t349.length co40 : Value).ownBlock ∧ some k_ ≠ (.slice Ao57 t364.length co57 : Value).ownBlock ∧ some k_ ≠ (.slice Ao88 t370.length co88 : Value).ownBlock) (Kd.R_keptB ((Kd.R_apart' HO_358000.out (Kd.R_typed HO_13.out) (by decide))) hkp (fun k_ hk_ hs_ => (hk_.2) hs_)) (fun k_ hk_ => ⟨hk_.1.1.1.1, hk_.1.1.1.2, hk_.1.1.2⟩)); have n4_ := mk_ (Kd.R_mono (ok' := fun k_ => some k_ ≠ (.slice Ao40 t349.length co40 : Value).ownBlock ∧ some k_ ≠ (.slice Ao46 t354.length co46 : Value).ownBlock ∧ some k_ ≠ (.slice Ao88 t370.length co88 : Value).ownBlock) (Kd.R_keptB ((Kd.R_apart' HO_369000.out (Kd.R_typed HO_13.out) (by decide))) hkp (fun k_ hk_ hs_ => (hk_.2) hs_)) (fun k_ hk_ => ⟨hk_.1.1.1, hk_.1.1.2.1, hk_.1.1.2.2⟩)); have n5_ := mk_ (blk_kept (bp_ BK337) hkp (fun hs_ => (fun e_ => (Kd.R_ne HO_13.out BK337.out (by decide)) e_) hs_)); have n6_ := mk_ (blk_kept (bp_ BK353) hkp (fun hs_ => (fun e_ => (Kd.R_ne HO_13.out BK353.out (by decide)) e_) hs_)); have n7_ := mk_ (blk_kept (bp_ BK357) hkp (fun hs_ => (fun e_ => (Kd.R_ne HO_13.out BK357.out (by decide)) e_) hs_)); have n8_ := mk_ (blk_kept (bp_ BK368) hkp (fun hs_ => (fun e_ => (Kd.R_ne HO_13.out BK368.out (by decide)) e_) hs_)); have n9_ := mk_ (Kd.R_mono (ok' := fun k_ => some k_ ≠ (.slice Ao40 t349.length co40 : Value).ownBlock ∧ some k_ ≠ (.slice Ao46 t354.length co46 : Value).ownBlock ∧ some k_ ≠ (.slice Ao57 t364.length co57 : Value).ownBlock) (Kd.R_keptB ((Kd.R_apart' HO372.out (Kd.R_typed HO_13.out) (by decide))) hkp (fun k_ hk_ hs_ => (hk_.2) hs_)) (fun k_ hk_ => ⟨hk_.1.1.1, hk_.1.1.2.1, hk_.1.1.2.2⟩)); have n10_ := mk_ (Kd.R_mono (ok' := fun k_ => some k_ ≠ (.slice Ao53 t358.length co53 : Value).ownBlock) (Kd.R_keptB (HO376.out) hkp (fun k_ hk_ hs_ => (hk_) hs_)) (fun k_ hk_ => hk_.1)); have n11_ := mk_ (Kd.R_mono (ok' := fun k_ => some k_ ≠ (.slice Ao54 t361.length co54 : Value).ownBlock) (Kd.R_keptB ((Kd.R_apart' HO380.out (Kd.R_typed HO_13.out) (by decide))) hkp (fun k_ hk_ hs_ => (hk_.2) hs_)) (fun k_ hk_ => hk_.1.1)); have n12_ := mk_ (hb); clear HO_13; clear HO_14; clear HO_354000; clear HO_358000; clear HO_369000; clear BK337; clear BK353; clear BK357; clear BK368; clear HO372; clear HO376; clear HO380; clear HB; have HO_13 := n0_; have HO_14 := n1_; have HO_354000 := n2_; have HO_358000 := n3_; have HO_369000 := n4_; have BK337 := n5_; have BK353 := n6_; have BK357 := n7_; have BK368 := n8_; have HO372 := n9_; have HO376 := n10_; have HO380 := n11_; have HB := n12_; clear n0_ n1_ n2_ n3_ n4_ n5_ n6_ n7_ n8_ n9_ n10_ n11_ n12_; (try clear hb); (try clear hkp); (try clear hy0)) | ((with_reducible refine gate_callee (f := 36) rfl ?_); refine goesL_ (some 92) rfl rfl Try.func36 (by kernel_rfl) rfl #[.slice Ao54 t361.length co54, .int .i64 t384] rfl ga_ ?_; (with_reducible refine (laws_markIntS.calls kj25 (fun k_ => some k_ = (.slice Ao54 t361.length co54 : Value).ownBlock) (.slice Ao54 t361.length co54) t361 t384 t386 t387 w _ ?side1 ?side2 A84.out).mono ?_); (case side1 => exact bw_ HB); (case side2 => exact Kd.R_tight rfl HO_14.out); rintro e w101 ⟨rfl, hy0, hb, hkp⟩; refine ⟨_, rfl, ?_⟩; have n0_ := mk_ (Kd.R_mono (ok' := fun k_ => some k_ ≠ (.slice Ao91 t374.length co91 : Value).ownBlock) (Kd.R_keptB ((Kd.R_apart' HO_13.out (Kd.R_typed HO_14.out) (by decide))) hkp (fun k_ hk_ hs_ => (hk_.2) hs_)) (fun k_ hk_ => hk_.1.1)); have n1_ := mk_ (Kd.R_reok rfl hy0 (fun k_ e_ => HO_14.out.1 k_ e_)); have n2_ := mk_ (Kd.R_mono (ok' := fun k_ => some k_ ≠ (.slice Ao46 t354.length co46 : Value).ownBlock ∧ some k_ ≠ (.slice Ao57 t364.length co57 : Value).ownBlock ∧ some k_ ≠ (.slice Ao88 t370.length co88 : Value).ownBlock) (Kd.R_keptB ((Kd.R_apart' HO_354000.out (Kd.R_typed HO_14.out) (by decide))) hkp (fun k_ hk_ hs_ => (hk_.2) hs_)) (fun k_ hk_ => ⟨hk_.1.1.1, hk_.1.1.2.1, hk_.1.1.2.2⟩)); have n3_ := mk_ (Kd.R_mono (ok' := fun k_ => some k_ ≠ (.slice Ao40 t349.length co40 : Value).ownBlock ∧ some k_ ≠ (.slice Ao57 t364.length co57 : Value).ownBlock ∧ some k_ ≠ (.slice Ao88 t370.length co88 : Value).ownBlock) (Kd.R_keptB ((Kd.R_apart' HO_358000.out (Kd.R_typed HO_14.out) (by decide))) hkp (fun k_ hk_ hs_ => (hk_.2) hs_)) (fun k_ hk_ => ⟨hk_.1.1.1, hk_.1.1.2.1, hk_.1.1.2.2⟩)); have n4_ := mk_ (Kd.R_mono (ok' := fun k_ => some k_ ≠ (.slice Ao40 t349.length co40 : Value).ownBlock ∧ some k_ ≠ (.slice Ao46 t354.length co46 : Value).ownBlock ∧ some k_ ≠ (.slice Ao88 t370.length co88 : Value).ownBlock) (Kd.R_keptB ((Kd.R_apart' HO_369000.out (Kd.R_typed HO_14.out) (by decide))) hkp (fun k_ hk_ hs_ => (hk_.2) hs_)) (fun k_ hk_ => ⟨hk_.1.1.1, hk_.1.1.2.1, hk_.1.1.2.2⟩)); have n5_ := mk_ (blk_kept (bp_ BK337) hkp (fun hs_ => (fun e_ => (Kd.R_ne HO_14.out BK337.out (by decide)) e_) hs_)); have n6_ := mk_ (blk_kept (bp_ BK353) hkp (fun hs_ => (fun e_ => (Kd.R_ne HO_14.out BK353.out (by decide)) e_) hs_)); have n7_ := mk_ (blk_kept (bp_ BK357) hkp (fun hs_ => (fun e_ => (Kd.R_ne HO_14.out BK357.out (by decide)) e_) hs_)); have n8_ := mk_ (blk_kept (bp_ BK368) hkp (fun hs_ => (fun e_ => (Kd.R_ne HO_14.out BK368.out (by decide)) e_) hs_)); have n9_ := mk_ (Kd.R_mono (ok' := fun k_ => some k_ ≠ (.slice Ao40 t349.length co40 : Value).ownBlock ∧ some k_ ≠ (.slice Ao46 t354.length co46 : Value).ownBlock ∧ some k_ ≠ (.slice Ao57 t364.length co57 : Value).ownBlock) (Kd.R_keptB ((Kd.R_apart' HO372.out (Kd.R_typed HO_14.out) (by decide))) hkp (fun k_ hk_ hs_ => (hk_.2) hs_)) (fun k_ hk_ => ⟨hk_.1.1.1, hk_.1.1.2.1, hk_.1.1.2.2⟩)); have n10_ := mk_ (Kd.R_mono (ok' := fun k_ => some k_ ≠ (.slice Ao53 t358.length co53 : Value).ownBlock) (Kd.R_keptB ((Kd.R_apart' HO376.out (Kd.R_typed HO_14.out) (by decide))) hkp (fun k_ hk_ hs_ => (hk_.2) hs_)) (fun k_ hk_ => hk_.1.1)); have n11_ := mk_ (Kd.R_mono (ok' := fun k_ => some k_ ≠ (.slice Ao54 t361.length co54 : Value).ownBlock) (Kd.R_keptB (HO380.out) hkp (fun k_ hk_ hs_ => (hk_) hs_)) (fun k_ hk_ => hk_.1)); have n12_ := mk_ (hb); clear HO_13; clear HO_14; clear HO_354000; clear HO_358000; clear HO_369000; clear BK337; clear BK353; clear BK357; clear BK368; clear HO372; clear HO376; clear HO380; clear HB; have HO_13 := n0_; have HO_14 := n1_; have HO_354000 := n2_; have HO_358000 := n3_; have HO_369000 := n4_; have BK337 := n5_; have BK353 := n6_; have BK357 := n7_; have BK368 := n8_; have HO372 := n9_; have HO376 := n10_; have HO380 := n11_; have HB := n12_; clear n0_ n1_ n2_ n3_ n4_ n5_ n6_ n7_ n8_ n9_ n10_ n11_ n12_; (try clear hb); (try clear hkp); (try clear hy0)))
          (try simp only [Act.put, sia_, scz_, scs_])
          go_cut [105] (fun v105 wc => ∃ (kq : Nat) (x105_84 : Bool), v105 = .bool x105_84 ∧ Aside0 (laws_FnExactCutActs.j1 kq l1 a2 l3 t352 x105_84 l0_0 t349 t364 = some r) ∧ Aside0 (kq ≤ kj25) ∧ Aside0 (Kd.R k76 76 wc w.heap.size (fun k_ => some k_ ≠ ((.slice Ao46 t354.length co46) : Value).ownBlock ∧ some k_ ≠ ((.slice Ao57 t364.length co57) : Value).ownBlock) (.slice Ao40 t349.length co40) t349) ∧ Aside0 (Kd.R k76 76 wc w.heap.size (fun k_ => some k_ ≠ ((.slice Ao40 t349.length co40) : Value).ownBlock ∧ some k_ ≠ ((.slice Ao57 t364.length co57) : Value).ownBlock) (.slice Ao46 t354.length co46) t383) ∧ Aside0 (Kd.R k76 76 wc w.heap.size (fun k_ => some k_ ≠ ((.slice Ao40 t349.length co40) : Value).ownBlock ∧ some k_ ≠ ((.slice Ao46 t354.length co46) : Value).ownBlock) (.slice Ao57 t364.length co57) t364) ∧ Aside0 (wc.heap[gb337]? = some (.cells #[(.slice A0_0 l0_0.length c0_0)] 24 (0, 0))) ∧ Aside0 (wc.heap[gb353]? = some (.cells #[(.slice Ao40 t349.length co40)] 31 (0, 0))) ∧ Aside0 (wc.heap[gb357]? = some (.cells #[(.slice Ao46 t354.length co46)] 31 (0, 0))) ∧ Aside0 (wc.heap[gb368]? = some (.cells #[(.slice Ao57 t364.length co57)] 31 (0, 0))) ∧ Aside0 (Below w.heap.size w wc))
          case first =>
           have H := HC85.out
           clear HC85
           by_cases c102 : t386 < 0
           ·rw [if_pos c102] at H
            exact absurd H (by simp)
           ·rw [if_neg c102] at H
            have c102b0 : decide (t386 < 0) = false := decide_eq_false c102
            clear c102
            (first | rw [c102b0] | (simp only [i64_w, i32_w]; rw [c102b0]) | skip)
            replace H := Option.bind_eq_some_iff.mp H
            obtain ⟨t388, A1030, H⟩ := H
            replace H : (if t388 = true then (laws_FnExactCutActs.j1 kj25 l1 a2 l3 t352 (t367 != t352) l0_0 t349 t364) else (none)) = some r := H
            have A103 := Aside0.mk A1030
            clear A1030
            by_cases c104 : t388 = true
            ·subst c104
             have H1 : (laws_FnExactCutActs.j1 kj25 l1 a2 l3 t352 (t367 != t352) l0_0 t349 t364) = some r := by rw [if_pos rfl] at H; exact H
             clear H
             have H := H1
             clear H1
             have H' := Aside0.mk H
             clear H
             have hnb105 := NB368_337.out
             have hnc105 := NB337_368.out
             have hnb106 := NB368_353.out
             have hnc106 := NB353_368.out
             have hnb107 := NB368_357.out
             have hnc107 := NB357_368.out
             have hcz108_0 : w101.cell? ⟨gb368, 0, none⟩ = some (.slice Ao57 t364.length co57) := bc_ BK368 0
             have hfz108_0 := blk_frozen BK368.out 0
             have hnb109 := NB353_337.out
             have hnc109 := NB337_353.out
             have hnb110 := NB353_357.out
             have hnc110 := NB357_353.out
             have hcz111_0 : w101.cell? ⟨gb353, 0, none⟩ = some (.slice Ao40 t349.length co40) := bc_ BK353 0
             have hfz111_0 := blk_frozen BK353.out 0
             go_wp2_with (first | (go_at_call 14; (with_reducible refine (laws_eqDisk.calls kj25 _ _ t364 _ _ t349 true _ ?side1 ?side2 ?side3 ?side4 A103.out).mono ?_); (case side1 => repeat (first | exact (Kd.R_reads' HO_369000.out).2.2 | (with_reducible refine Kd.C_alloc ?_ _) | (with_reducible refine Kd.C_drewN ?_ _) | (with_reducible refine Kd.C_drew ?_))); (case side2 => exact (Kd.R_reads' HO_369000.out).2.1); (case side3 => repeat (first | exact (Kd.R_reads' HO_354000.out).2.2 | (with_reducible refine Kd.C_alloc ?_ _) | (with_reducible refine Kd.C_drewN ?_ _) | (with_reducible refine Kd.C_drew ?_))); (case side4 => exact (Kd.R_reads' HO_354000.out).2.1); rintro e w112 ⟨rfl, hb⟩; replace HO_13 := rb_ HO_13 hb; replace HO_14 := rb_ HO_14 hb; replace HO_354000 := rb_ HO_354000 hb; replace HO_358000 := rb_ HO_358000 hb; replace HO_369000 := rb_ HO_369000 hb; replace HO372 := rb_ HO372 hb; replace HO376 := rb_ HO376 hb; replace HO380 := rb_ HO380 hb; replace BK337 := bb_ BK337 hb; replace BK353 := bb_ BK353 hb; replace BK357 := bb_ BK357 hb; replace BK368 := bb_ BK368 hb; replace HB := bs_ HB hb; (try clear hb)))
             go_meet
             case rel => exact ⟨_, ((t367 != t352)), (by first | rfl | (simp; done) | (simp [*]; done) | (simp [bne]; done)), H', ⟨by have := HJ25.out; first | omega | exact Nat.le_refl _⟩, ⟨by (with_reducible repeat (first | apply Kd.R_alloc | apply Kd.R_drewN | apply Kd.R_drew)); exact Kd.R_mono HO_354000.out (fun _ hk => ⟨hk.1, hk.2.1⟩)⟩, ⟨by (with_reducible repeat (first | apply Kd.R_alloc | apply Kd.R_drewN | apply Kd.R_drew)); exact Kd.R_mono HO_358000.out (fun _ hk => ⟨hk.1, hk.2.1⟩)⟩, ⟨by (with_reducible repeat (first | apply Kd.R_alloc | apply Kd.R_drewN | apply Kd.R_drew)); exact Kd.R_mono HO_369000.out (fun _ hk => ⟨hk.1, hk.2.1⟩)⟩, ⟨bf_⟩, ⟨bf_⟩, ⟨bf_⟩, ⟨bf_⟩, ⟨bw_ HB⟩⟩
            ·replace c104 := Bool.eq_false_iff.mpr c104
             subst c104
             have H1 : (none) = some r := by rw [if_neg (show ¬ (false = true) by decide)] at H; exact H
             clear H
             have H := H1
             clear H1
             exact absurd H (by simp)
          case rest =>
           clear HC85
           try clear c1
           try clear c2
           try clear p2
           try clear c3
           try clear c4
           try clear c5
           try clear c5b0
           try clear c5b1
           try clear c6
           try clear c7
           try clear c8
           try clear c8b0
           try clear c9
           try clear c10
           try clear c11
           try clear c13
           try clear c13b0
           try clear c14
           try clear c15
           try clear c17
           try clear c19
           try clear c21
           try clear c22
           try clear c27
           try clear c28
           try clear c34
           try clear c35
           try clear c36
           try clear c41
           try clear c47
           try clear c48
           try clear c58
           try clear c59
           try clear c60
           try clear c63
           try clear c64
           try clear c65
           try clear c66
           try clear c68
           try clear c69
           try clear c72
           try clear c75
           try clear c78
           try clear c81
           try clear c95
           try clear c96
           try clear c97
           try clear c102
           try clear c102b0
           try clear c104
           try clear c105
           try clear c106
           try clear c107
           try clear c109
           try clear c110
           try clear hcz108_0
           try clear hcz10_0
           try clear hcz111_0
           try clear hcz15_0
           try clear hcz28_0
           try clear hcz31_0
           try clear hcz42_0
           try clear hcz43_0
           try clear hcz49_0
           try clear hcz52_0
           try clear hcz61_0
           try clear hcz67_0
           try clear hcz70_0
           try clear hcz98_0
           try clear hfz108_0
           try clear hfz10_0
           try clear hfz111_0
           try clear hfz15_0
           try clear hfz28_0
           try clear hfz31_0
           try clear hfz42_0
           try clear hfz43_0
           try clear hfz49_0
           try clear hfz52_0
           try clear hfz61_0
           try clear hfz67_0
           try clear hfz70_0
           try clear hfz98_0
           try clear p2
           obtain ⟨kq, x105_84, rfl, HA, HJ84, HO_354000, HO_358000, HO_369000, BK337, BK353, BK357, BK368, HB⟩ := hcut
           have hl358000_84 := (Kd.R_reads' HO_358000.out).1
           rw [hl358000_84] at HO_358000
           (try simp only [hl358000_84])
           (try simp only [hl358000_84] at BK337)
           (try simp only [hl358000_84] at BK353)
           (try simp only [hl358000_84] at BK357)
           (try simp only [hl358000_84] at BK368)
           (try simp only [hl358000_84] at HO_354000)
           (try simp only [hl358000_84] at HO_369000)
           cases kq with
           | zero => exact absurd HA.out (by simp [laws_FnExactCutActs.j1])
           | succ kj84 =>
            have H := HA.out
            clear HA
            simp only [laws_FnExactCutActs.j1] at H
            by_cases c113 : x105_84 = true
            ·subst c113
             have H1 : (none) = some r := by rw [if_pos rfl] at H; exact H
             clear H
             have H := H1
             clear H1
             exact absurd H (by simp)
            ·replace c113 := Bool.eq_false_iff.mpr c113
             subst c113
             have H1 : ((laws_markDisk.f kj84 t364 1).bind fun bt389 => ((laws_heldDisk.f kj84 bt389.2 1).bind fun t391 => (if t391 < 0 then (none) else (if t391 = bt389.1 then ((laws_toDisk.f kj84 l0_0).bind fun t392 => ((laws_toActS.f kj84 l1).bind fun t395 => ((laws_toIntS.f kj84 l3).bind fun t398 => ((impl_CutActs.f kj84 t392 t395 a2 t398).bind fun bt401 => ((laws_eqDisk.f kj84 bt401.1 t349).bind fun t406 => (if t406 = true then (laws_FnExactCutActs.j2 kj84 bt389.1 (bt401.2 != t352) bt389.2) else (none))))))) else (none))))) = some r := by rw [if_neg (show ¬ (false = true) by decide)] at H; exact H
             clear H
             have H := H1
             clear H1
             replace H := Option.bind_eq_some_iff.mp H
             obtain ⟨⟨t389, t390⟩, A1140, H⟩ := H
             replace H : ((laws_heldDisk.f kj84 t390 1).bind fun t391 => (if t391 < 0 then (none) else (if t391 = t389 then ((laws_toDisk.f kj84 l0_0).bind fun t392 => ((laws_toActS.f kj84 l1).bind fun t395 => ((laws_toIntS.f kj84 l3).bind fun t398 => ((impl_CutActs.f kj84 t392 t395 a2 t398).bind fun bt401 => ((laws_eqDisk.f kj84 bt401.1 t349).bind fun t406 => (if t406 = true then (laws_FnExactCutActs.j2 kj84 t389 (bt401.2 != t352) t390) else (none))))))) else (none)))) = some r := H
             have A114 := Aside0.mk A1140
             clear A1140
             replace H := Option.bind_eq_some_iff.mp H
             obtain ⟨t391, A1150, H⟩ := H
             replace H : (if t391 < 0 then (none) else (if t391 = t389 then ((laws_toDisk.f kj84 l0_0).bind fun t392 => ((laws_toActS.f kj84 l1).bind fun t395 => ((laws_toIntS.f kj84 l3).bind fun t398 => ((impl_CutActs.f kj84 t392 t395 a2 t398).bind fun bt401 => ((laws_eqDisk.f kj84 bt401.1 t349).bind fun t406 => (if t406 = true then (laws_FnExactCutActs.j2 kj84 t389 (bt401.2 != t352) t390) else (none))))))) else (none))) = some r := H
             have A115 := Aside0.mk A1150
             clear A1150
             by_cases c116 : t391 < 0
             ·rw [if_pos c116] at H
              exact absurd H (by simp)
             ·rw [if_neg c116] at H
              have c116b0 : decide (t391 < 0) = false := decide_eq_false c116
              clear c116
              by_cases c117 : t391 = t389
              ·rw [if_pos c117] at H
               have c117b0 : (t391 == t389) = true := beq_iff_eq.mpr c117
               have c117b1 : (t391 != t389) = false := bne_eq_false_iff_eq.mpr c117
               clear c117
               replace H := Option.bind_eq_some_iff.mp H
               obtain ⟨t392, A1180, H⟩ := H
               replace H : ((laws_toActS.f kj84 l1).bind fun t395 => ((laws_toIntS.f kj84 l3).bind fun t398 => ((impl_CutActs.f kj84 t392 t395 a2 t398).bind fun bt401 => ((laws_eqDisk.f kj84 bt401.1 t349).bind fun t406 => (if t406 = true then (laws_FnExactCutActs.j2 kj84 t389 (bt401.2 != t352) t390) else (none)))))) = some r := H
               have A118 := Aside0.mk A1180
               clear A1180
               replace H := Option.bind_eq_some_iff.mp H
               obtain ⟨t395, A1190, H⟩ := H
               replace H : ((laws_toIntS.f kj84 l3).bind fun t398 => ((impl_CutActs.f kj84 t392 t395 a2 t398).bind fun bt401 => ((laws_eqDisk.f kj84 bt401.1 t349).bind fun t406 => (if t406 = true then (laws_FnExactCutActs.j2 kj84 t389 (bt401.2 != t352) t390) else (none))))) = some r := H
               have A119 := Aside0.mk A1190
               clear A1190
               replace H := Option.bind_eq_some_iff.mp H
               obtain ⟨t398, A1200, H⟩ := H
               replace H : ((impl_CutActs.f kj84 t392 t395 a2 t398).bind fun bt401 => ((laws_eqDisk.f kj84 bt401.1 t349).bind fun t406 => (if t406 = true then (laws_FnExactCutActs.j2 kj84 t389 (bt401.2 != t352) t390) else (none)))) = some r := H
               have A120 := Aside0.mk A1200
               clear A1200
               replace H := Option.bind_eq_some_iff.mp H
               obtain ⟨⟨t401, t404⟩, A1210, H⟩ := H
               replace H : ((laws_eqDisk.f kj84 t401 t349).bind fun t406 => (if t406 = true then (laws_FnExactCutActs.j2 kj84 t389 (t404 != t352) t390) else (none))) = some r := H
               have A121 := Aside0.mk A1210
               clear A1210
               have HC122 := Aside0.mk H
               clear H
               have hnb123 := NB368_337.out
               have hnc123 := NB337_368.out
               have hnb124 := NB368_353.out
               have hnc124 := NB353_368.out
               have hnb125 := NB368_357.out
               have hnc125 := NB357_368.out
               have hcz126_0 : wc.cell? ⟨gb368, 0, none⟩ = some (.slice Ao57 t364.length co57) := bc_ BK368 0
               have hfz126_0 := blk_frozen BK368.out 0
               go_upto_region 38 with (first | ((with_reducible refine gate_callee (f := 15) rfl ?_); refine goesL_ (some 108) rfl rfl Try.func15 (by kernel_rfl) rfl #[.agg #[.slice Ao57 t364.length co57], .int .i64 1] rfl ga_ ?_; (with_reducible refine (laws_markDisk.calls kj84 (fun k_ => some k_ = (.slice Ao57 t364.length co57 : Value).ownBlock) (.slice Ao57 t364.length co57) t364 1 t389 t390 w _ ?side1 ?side2 A114.out).mono ?_); (case side1 => exact bw_ HB); (case side2 => exact Kd.R_tight rfl HO_369000.out); rintro e w127 ⟨rfl, hy0, hb, hkp⟩; refine ⟨_, rfl, ?_⟩; have n0_ := mk_ (Kd.R_mono (ok' := fun k_ => some k_ ≠ (.slice Ao46 t383.length co46 : Value).ownBlock ∧ some k_ ≠ (.slice Ao57 t364.length co57 : Value).ownBlock) (Kd.R_keptB (HO_354000.out) hkp (fun k_ hk_ hs_ => (hk_.2) hs_)) (fun k_ hk_ => ⟨hk_.1.1, hk_.1.2⟩)); have n1_ := mk_ (Kd.R_mono (ok' := fun k_ => some k_ ≠ (.slice Ao40 t349.length co40 : Value).ownBlock ∧ some k_ ≠ (.slice Ao57 t364.length co57 : Value).ownBlock) (Kd.R_keptB (HO_358000.out) hkp (fun k_ hk_ hs_ => (hk_.2) hs_)) (fun k_ hk_ => ⟨hk_.1.1, hk_.1.2⟩)); have n2_ := mk_ (Kd.R_reok rfl hy0 (fun k_ e_ => HO_369000.out.1 k_ e_)); have n3_ := mk_ (blk_kept (bp_ BK337) hkp (fun hs_ => (fun e_ => (Kd.R_ne HO_369000.out BK337.out (by decide)) e_) hs_)); have n4_ := mk_ (blk_kept (bp_ BK353) hkp (fun hs_ => (fun e_ => (Kd.R_ne HO_369000.out BK353.out (by decide)) e_) hs_)); have n5_ := mk_ (blk_kept (bp_ BK357) hkp (fun hs_ => (fun e_ => (Kd.R_ne HO_369000.out BK357.out (by decide)) e_) hs_)); have n6_ := mk_ (blk_kept (bp_ BK368) hkp (fun hs_ => (fun e_ => (Kd.R_ne HO_369000.out BK368.out (by decide)) e_) hs_)); have n7_ := mk_ (hb); clear HO_354000; clear HO_358000; clear HO_369000; clear BK337; clear BK353; clear BK357; clear BK368; clear HB; have HO_354000 := n0_; have HO_358000 := n1_; have HO_369000 := n2_; have BK337 := n3_; have BK353 := n4_; have BK357 := n5_; have BK368 := n6_; have HB := n7_; clear n0_ n1_ n2_ n3_ n4_ n5_ n6_ n7_; (try clear hb); (try clear hkp); (try clear hy0); obtain ⟨hcz128_0, hfz128_0⟩ := b1_ BK368) | ((with_reducible refine gate_callee (f := 16) rfl ?_); refine goesL_ (some 111) rfl rfl Try.func16 (by kernel_rfl) rfl #[.agg #[.slice Ao57 t390.length co57], .int .i64 1] rfl (by (try simp only [List.map_toArray, List.map_cons, List.map_nil]); first | done | (rw [show t390.length = t364.length from (Kd.R_reads' HO_369000.out).1.symm] <;> rfl) | rfl | (simp only [List.length_drop, List.length_take]; rfl)) ?_; (with_reducible refine (laws_heldDisk.calls kj84 _ _ t390 1 t391 _ ?side1 ?side2 A115.out).mono ?_); (case side1 => repeat (first | exact (Kd.R_reads' HO_369000.out).2.2 | (with_reducible refine Kd.C_alloc ?_ _) | (with_reducible refine Kd.C_drewN ?_ _) | (with_reducible refine Kd.C_drew ?_))); (case side2 => rw [show t390.length = t364.length from (Kd.R_reads' HO_369000.out).1.symm]; exact (Kd.R_reads' HO_369000.out).2.1); rintro e w129 ⟨rfl, hb⟩; refine ⟨_, rfl, ?_⟩; replace HO_354000 := rb_ HO_354000 hb; replace HO_358000 := rb_ HO_358000 hb; replace HO_369000 := rb_ HO_369000 hb; replace BK337 := bb_ BK337 hb; replace BK353 := bb_ BK353 hb; replace BK357 := bb_ BK357 hb; replace BK368 := bb_ BK368 hb; replace HB := bs_ HB hb; (try clear hb); have hnb130 := NB337_353.out; have hnc130 := NB353_337.out; have hnb131 := NB337_357.out; have hnc131 := NB357_337.out; obtain ⟨hcz132_0, hfz132_0⟩ := b1_ BK337) | ((with_reducible refine gate_callee (f := 11) rfl ?_); refine goesL_ (some 119) rfl rfl Try.func11 (by kernel_rfl) rfl #[.agg #[.slice A0_0 l0_0.length c0_0]] rfl ga_ ?_; (with_reducible refine (laws_toDisk.calls kj84 _ _ l0_0 t392 _ ?side1 ?side2 A118.out).mono ?_); (case side1 => repeat (first | exact (Kd.C_below HR0_0.out HB.out) | (with_reducible refine Kd.C_alloc ?_ _) | (with_reducible refine Kd.C_drewN ?_ _) | (with_reducible refine Kd.C_drew ?_))); (case side2 => exact HC0_0.out); rintro e w133 ⟨v393, rfl, ho0, hb⟩; refine ⟨_, rfl, ?_⟩; have HO394 := mk_ (Kd.R_lower (Kd.R_new' (Kd.R_new' (Kd.R_new' ho0 (Kd.R_lt (rp_ HO_354000))) (Kd.R_lt (rp_ HO_358000))) (Kd.R_lt (rp_ HO_369000))) (below_size (bw_ HB))); replace HO_354000 := mk_ (Kd.R_elder' (rp_ HO_354000) (Kd.R_base ho0) hb); replace HO_358000 := mk_ (Kd.R_elder' (rp_ HO_358000) (Kd.R_base ho0) hb); replace HO_369000 := mk_ (Kd.R_elder' (rp_ HO_369000) (Kd.R_base ho0) hb); replace BK337 := bb_ BK337 hb; replace BK353 := bb_ BK353 hb; replace BK357 := bb_ BK357 hb; replace BK368 := bb_ BK368 hb; replace HB := bs_ HB hb; (try clear hb); (try clear ho0)) | ((with_reducible refine gate_callee (f := 19) rfl ?_); refine goesL_ (some 121) rfl rfl Try.func19 (by kernel_rfl) rfl #[.slice A1 l1.length c1] rfl ga_ ?_; (with_reducible refine (laws_toActS.calls kj84 _ _ l1 t395 _ ?side1 ?side2 A119.out).mono ?_); (case side1 => repeat (first | exact (Kd.C_below HR1.out HB.out) | (with_reducible refine Kd.C_alloc ?_ _) | (with_reducible refine Kd.C_drewN ?_ _) | (with_reducible refine Kd.C_drew ?_))); (case side2 => exact HC1.out); rintro e w134 ⟨v396, rfl, ho0, hb⟩; refine ⟨_, rfl, ?_⟩; have HO397 := mk_ (Kd.R_lower ho0 (below_size (bw_ HB))); replace HO_354000 := rb_ HO_354000 hb; replace HO_358000 := rb_ HO_358000 hb; replace HO_369000 := rb_ HO_369000 hb; replace HO394 := rb_ HO394 hb; replace BK337 := bb_ BK337 hb; replace BK353 := bb_ BK353 hb; replace BK357 := bb_ BK357 hb; replace BK368 := bb_ BK368 hb; replace HB := bs_ HB hb; (try clear hb); (try clear ho0)) | ((with_reducible refine gate_callee (f := 34) rfl ?_); refine goesL_ (some 124) rfl rfl Try.func34 (by kernel_rfl) rfl #[.slice A3 l3.length c3] rfl ga_ ?_; (with_reducible refine (laws_toIntS.calls kj84 _ _ l3 t398 _ ?side1 ?side2 A120.out).mono ?_); (case side1 => repeat (first | exact (Kd.C_below HR3.out HB.out) | (with_reducible refine Kd.C_alloc ?_ _) | (with_reducible refine Kd.C_drewN ?_ _) | (with_reducible refine Kd.C_drew ?_))); (case side2 => exact HC3.out); rintro e w135 ⟨v399, rfl, ho0, hb⟩; refine ⟨_, rfl, ?_⟩; have HO400 := mk_ (Kd.R_lower ho0 (below_size (bw_ HB))); replace HO_354000 := rb_ HO_354000 hb; replace HO_358000 := rb_ HO_358000 hb; replace HO_369000 := rb_ HO_369000 hb; replace HO394 := rb_ HO394 hb; replace HO397 := rb_ HO397 hb; replace BK337 := bb_ BK337 hb; replace BK353 := bb_ BK353 hb; replace BK357 := bb_ BK357 hb; replace BK368 := bb_ BK368 hb; replace HB := bs_ HB hb; (try clear hb); (try clear ho0); obtain ⟨Ao136, co136, eo136⟩ := Kd.R_slice HO394.out; subst eo136; obtain ⟨Ao137, co137, eo137⟩ := Kd.R_slice HO397.out; subst eo137; obtain ⟨Ao138, co138, eo138⟩ := Kd.R_slice HO400.out; subst eo138) | ((with_reducible refine gate_callee (f := 27) rfl ?_); refine goesL_ (some 125) rfl rfl Try.func27 (by kernel_rfl) rfl #[.agg #[.slice Ao136 t392.length co136], .slice Ao137 t395.length co137, .int .i64 a2, .slice Ao138 t398.length co138] rfl ga_ ?_; (with_reducible refine (impl_CutActs.calls kj84 _ _ t392 _ _ t395 a2 _ _ t398 t401 t404 _ ?side1 ?side2 ?side3 ?side4 ?side5 ?side6 A121.out).mono ?_); (case side1 => repeat (first | exact (Kd.R_reads' HO394.out).2.2 | (with_reducible refine Kd.C_alloc ?_ _) | (with_reducible refine Kd.C_drewN ?_ _) | (with_reducible refine Kd.C_drew ?_))); (case side2 => exact (Kd.R_reads' HO394.out).2.1); (case side3 => repeat (first | exact (Kd.R_reads' HO397.out).2.2 | (with_reducible refine Kd.C_alloc ?_ _) | (with_reducible refine Kd.C_drewN ?_ _) | (with_reducible refine Kd.C_drew ?_))); (case side4 => exact (Kd.R_reads' HO397.out).2.1); (case side5 => repeat (first | exact (Kd.R_reads' HO400.out).2.2 | (with_reducible refine Kd.C_alloc ?_ _) | (with_reducible refine Kd.C_drewN ?_ _) | (with_reducible refine Kd.C_drew ?_))); (case side6 => exact (Kd.R_reads' HO400.out).2.1); rintro e w139 ⟨v402, rfl, ho0, hb⟩; refine ⟨_, rfl, ?_⟩; have HO403 := mk_ (Kd.R_lower (Kd.R_new' (Kd.R_new' (Kd.R_new' (Kd.R_new' ho0 (Kd.R_lt (rp_ HO_354000))) (Kd.R_lt (rp_ HO_358000))) (Kd.R_lt (rp_ HO_369000))) (Kd.R_lt (rp_ HO394))) (below_size (bw_ HB))); replace HO_354000 := mk_ (Kd.R_elder' (rp_ HO_354000) (Kd.R_base ho0) hb); replace HO_358000 := mk_ (Kd.R_elder' (rp_ HO_358000) (Kd.R_base ho0) hb); replace HO_369000 := mk_ (Kd.R_elder' (rp_ HO_369000) (Kd.R_base ho0) hb); replace HO394 := mk_ (Kd.R_elder' (rp_ HO394) (Kd.R_base ho0) hb); replace HO397 := rb_ HO397 hb; replace HO400 := rb_ HO400 hb; replace BK337 := bb_ BK337 hb; replace BK353 := bb_ BK353 hb; replace BK357 := bb_ BK357 hb; replace BK368 := bb_ BK368 hb; replace HB := bs_ HB hb; (try clear hb); (try clear ho0)) | ((with_reducible refine gate_dst (N := 20) rfl ?_); refine bx_ (N := 20) (cs := #[.slice none 0 0]) (t := 31) ?_; intro gb405 hg w140 hbox hb; have BK405 := mk_ (hbox); have GW405 : Aside0 (w.heap.size ≤ gb405) := bz_ hg; have GE405 := GW405; have NB337_405 := bl_ BK337 hg; have NB405_337 := bg_ BK337 hg; have NB353_405 := bl_ BK353 hg; have NB405_353 := bg_ BK353 hg; have NB357_405 := bl_ BK357 hg; have NB405_357 := bg_ BK357 hg; have NB368_405 := bl_ BK368 hg; have NB405_368 := bg_ BK368 hg; replace HO_354000 := rb_ HO_354000 hb; replace HO_358000 := rb_ HO_358000 hb; replace HO_369000 := rb_ HO_369000 hb; replace HO394 := rb_ HO394 hb; replace HO397 := rb_ HO397 hb; replace HO400 := rb_ HO400 hb; replace HO403 := rb_ HO403 hb; replace BK337 := bb_ BK337 hb; replace BK353 := bb_ BK353 hb; replace BK357 := bb_ BK357 hb; replace BK368 := bb_ BK368 hb; replace HB := bs_ HB hb; clear hb hbox hg; obtain ⟨Ao141, co141, eo141⟩ := Kd.R_slice HO403.out; subst eo141; have hnb142 := NB405_337.out; have hnc142 := NB337_405.out; have hnb143 := NB405_353.out; have hnc143 := NB353_405.out; have hnb144 := NB405_357.out; have hnc144 := NB357_405.out; have hnb145 := NB405_368.out; have hnc145 := NB368_405.out; obtain ⟨hcz146_0, hfz146_0⟩ := b1_ BK405))
               (try simp only [Act.put, sia_, scz_, scs_])
               go_cut [136] (fun v136 wc => ∃ (kq : Nat) (x136_121 : Bool), v136 = .bool x136_121 ∧ Aside0 (laws_FnExactCutActs.j2 kq t389 x136_121 t390 = some r) ∧ Aside0 (kq ≤ kj84) ∧ Aside0 (Kd.R k76 76 wc w.heap.size (fun k_ => some k_ ≠ ((.slice Ao46 t383.length co46) : Value).ownBlock ∧ some k_ ≠ ((.slice Ao57 t364.length co57) : Value).ownBlock ∧ some k_ ≠ ((.slice Ao141 t401.length co141) : Value).ownBlock) (.slice Ao40 t349.length co40) t349) ∧ Aside0 (Kd.R k76 76 wc w.heap.size (fun k_ => some k_ ≠ ((.slice Ao40 t349.length co40) : Value).ownBlock ∧ some k_ ≠ ((.slice Ao57 t364.length co57) : Value).ownBlock ∧ some k_ ≠ ((.slice Ao141 t401.length co141) : Value).ownBlock) (.slice Ao46 t383.length co46) t383) ∧ Aside0 (Kd.R k76 76 wc w.heap.size (fun k_ => some k_ ≠ ((.slice Ao40 t349.length co40) : Value).ownBlock ∧ some k_ ≠ ((.slice Ao46 t383.length co46) : Value).ownBlock ∧ some k_ ≠ ((.slice Ao141 t401.length co141) : Value).ownBlock) (.slice Ao57 t364.length co57) t390) ∧ Aside0 (Kd.R k76 76 wc w.heap.size (fun k_ => some k_ ≠ ((.slice Ao40 t349.length co40) : Value).ownBlock ∧ some k_ ≠ ((.slice Ao46 t383.length co46) : Value).ownBlock ∧ some k_ ≠ ((.slice Ao57 t364.length co57) : Value).ownBlock) (.slice Ao141 t401.length co141) t401) ∧ Aside0 (wc.heap[gb337]? = some (.cells #[(.slice A0_0 l0_0.length c0_0)] 24 (0, 0))) ∧ Aside0 (wc.heap[gb353]? = some (.cells #[(.slice Ao40 t349.length co40)] 31 (0, 0))) ∧ Aside0 (wc.heap[gb357]? = some (.cells #[(.slice Ao46 t383.length co46)] 31 (0, 0))) ∧ Aside0 (wc.heap[gb368]? = some (.cells #[(.slice Ao57 t364.length co57)] 31 (0, 0))) ∧ Aside0 (wc.heap[gb405]? = some (.cells #[(.slice Ao141 t401.length co141)] 31 (0, 0))) ∧ Aside0 (Below w.heap.size w wc))
               case first =>
                have H := HC122.out
                clear HC122
                replace H := Option.bind_eq_some_iff.mp H
                obtain ⟨t406, A1470, H⟩ := H
                replace H : (if t406 = true then (laws_FnExactCutActs.j2 kj84 t389 (t404 != t352) t390) else (none)) = some r := H
                have A147 := Aside0.mk A1470
                clear A1470
                by_cases c148 : t406 = true
                ·subst c148
                 have H1 : (laws_FnExactCutActs.j2 kj84 t389 (t404 != t352) t390) = some r := by rw [if_pos rfl] at H; exact H
                 clear H
                 have H := H1
                 clear H1
                 have H' := Aside0.mk H
                 clear H
                 have hnb149 := NB405_337.out
                 have hnc149 := NB337_405.out
                 have hnb150 := NB405_353.out
                 have hnc150 := NB353_405.out
                 have hnb151 := NB405_357.out
                 have hnc151 := NB357_405.out
                 have hnb152 := NB405_368.out
                 have hnc152 := NB368_405.out
                 have hcz153_0 : w140.cell? ⟨gb405, 0, none⟩ = some (.slice none 0 0) := bc_ BK405 0
                 have hfz153_0 := blk_frozen BK405.out 0
                 have hnb154 := NB353_337.out
                 have hnc154 := NB337_353.out
                 have hnb155 := NB353_357.out
                 have hnc155 := NB357_353.out
                 have hnb156 := NB353_368.out
                 have hnc156 := NB368_353.out
                 have hcz157_0 : w140.cell? ⟨gb353, 0, none⟩ = some (.slice Ao40 t349.length co40) := bc_ BK353 0
                 have hfz157_0 := blk_frozen BK353.out 0
                 go_wp2_with (first | ((with_reducible refine gate_callee (f := 14) rfl ?_); refine goesL_ (some 130) rfl rfl Try.func14 (by kernel_rfl) rfl #[.agg #[.slice Ao141 t401.length co141], .agg #[.slice Ao40 t349.length co40]] rfl ga_ ?_; (with_reducible refine (laws_eqDisk.calls kj84 _ _ t401 _ _ t349 true _ ?side1 ?side2 ?side3 ?side4 A147.out).mono ?_); (case side1 => refine (Kd.R_reads' (e := 76) (base := w.heap.size) (ok := fun k_ => ((((True ∧ some k_ ≠ (.slice Ao40 t349.length co40 : Value).ownBlock) ∧ some k_ ≠ (.slice Ao46 t383.length co46 : Value).ownBlock) ∧ some k_ ≠ (.slice Ao57 t364.length co57 : Value).ownBlock) ∧ some k_ ≠ (.slice Ao136 t392.length co136 : Value).ownBlock)) (n := t401.length) (c := co141) ?_).2.2; exact (by (with_reducible repeat (first | apply Kd.R_alloc | apply Kd.R_drewN | apply Kd.R_drew)); exact (Kd.R_mono (Kd.R_far (p := ⟨gb405, 0, none⟩) (Kd.R_types HO403.out BK405.out (by decide)) (fun _ hk => hk.2) (.slice Ao141 t401.length co141)) (fun _ h_ => h_.1)))); (case side2 => exact (Kd.R_reads' HO403.out).2.1); (case side3 => refine (Kd.R_reads' (e := 76) (base := w.heap.size) (ok := fun k_ => (((some k_ ≠ (.slice Ao46 t383.length co46 : Value).ownBlock ∧ some k_ ≠ (.slice Ao57 t364.length co57 : Value).ownBlock) ∧ some k_ ≠ (.slice Ao136 t392.length co136 : Value).ownBlock) ∧ some k_ ≠ (.slice Ao141 t401.length co141 : Value).ownBlock)) (n := t349.length) (c := co40) ?_).2.2; exact (by (with_reducible repeat (first | apply Kd.R_alloc | apply Kd.R_drewN | apply Kd.R_drew)); exact (Kd.R_mono (Kd.R_far (p := ⟨gb405, 0, none⟩) (Kd.R_types HO_354000.out BK405.out (by decide)) (fun _ hk => hk.2) (.slice Ao141 t401.length co141)) (fun _ h_ => h_.1)))); (case side4 => exact (Kd.R_reads' HO_354000.out).2.1); rintro e w158 ⟨rfl, hb⟩; refine ⟨_, rfl, ?_⟩; replace HO_354000 := mk_ (Kd.R_below (by (with_reducible repeat (first | apply Kd.R_alloc | apply Kd.R_drewN | apply Kd.R_drew)); exact (Kd.R_mono (Kd.R_far (p := ⟨gb405, 0, none⟩) (Kd.R_types HO_354000.out BK405.out (by decide)) (fun _ hk => hk.2) (.slice Ao141 t401.length co141)) (fun _ h_ => h_.1))) hb); replace HO_358000 := mk_ (Kd.R_below (by (with_reducible repeat (first | apply Kd.R_alloc | apply Kd.R_drewN | apply Kd.R_drew)); exact (Kd.R_mono (Kd.R_far (p := ⟨gb405, 0, none⟩) (Kd.R_types HO_358000.out BK405.out (by decide)) (fun _ hk => hk.2) (.slice Ao141 t401.length co141)) (fun _ h_ => h_.1))) hb); replace HO_369000 := mk_ (Kd.R_below (by (with_reducible repeat (first | apply Kd.R_alloc | apply Kd.R_drewN | apply Kd.R_drew)); exact (Kd.R_mono (Kd.R_far (p := ⟨gb405, 0, none⟩) (Kd.R_types HO_369000.out BK405.out (by decide)) (fun _ hk => hk.2) (.slice Ao141 t401.length co141)) (fun _ h_ => h_.1))) hb); replace HO394 := mk_ (Kd.R_below (by (with_reducible repeat (first | apply Kd.R_alloc | apply Kd.R_drewN | apply Kd.R_drew)); exact (Kd.R_mono (Kd.R_far (p := ⟨gb405, 0, none⟩) (Kd.R_types HO394.out BK405.out (by decide)) (fun _ hk => hk.2) (.slice Ao141 t401.length co141)) (fun _ h_ => h_.1))) hb); replace HO397 := mk_ (Kd.R_below (by (with_reducible repeat (first | apply Kd.R_alloc | apply Kd.R_drewN | apply Kd.R_drew)); exact (Kd.R_mono (Kd.R_far (p := ⟨gb405, 0, none⟩) (Kd.R_types HO397.out BK405.out (by decide)) (fun _ hk => hk.2) (.slice Ao141 t401.length co141)) (fun _ h_ => h_.1))) hb); replace HO400 := mk_ (Kd.R_below (by (with_reducible repeat (first | apply Kd.R_alloc | apply Kd.R_drewN | apply Kd.R_drew)); exact (Kd.R_mono (Kd.R_far (p := ⟨gb405, 0, none⟩) (Kd.R_types HO400.out BK405.out (by decide)) (fun _ hk => hk.2) (.slice Ao141 t401.length co141)) (fun _ h_ => h_.1))) hb); replace HO403 := mk_ (Kd.R_below (by (with_reducible repeat (first | apply Kd.R_alloc | apply Kd.R_drewN | apply Kd.R_drew)); exact (Kd.R_mono (Kd.R_far (p := ⟨gb405, 0, none⟩) (Kd.R_types HO403.out BK405.out (by decide)) (fun _ hk => hk.2) (.slice Ao141 t401.length co141)) (fun _ h_ => h_.1))) hb); replace BK337 := mk_ (blk_below (g := gb337) (o := .cells #[.slice A0_0 l0_0.length c0_0] 24 (0, 0)) bf_ hb); replace BK353 := mk_ (blk_below (g := gb353) (o := .cells #[.slice Ao40 t349.length co40] 31 (0, 0)) bf_ hb); replace BK357 := mk_ (blk_below (g := gb357) (o := .cells #[.slice Ao46 t383.length co46] 31 (0, 0)) bf_ hb); replace BK368 := mk_ (blk_below (g := gb368) (o := .cells #[.slice Ao57 t364.length co57] 31 (0, 0)) bf_ hb); replace BK405 := mk_ (blk_below (g := gb405) (o := .cells #[.slice Ao141 t401.length co141] 31 (0, 0)) bu_ hb); replace HB := bs_ HB hb; (try clear hb); (try clear hk)))
                 go_meet
                 case rel => exact ⟨_, ((t404 != t352)), (by first | rfl | (simp; done) | (simp [*]; done) | (simp [bne]; done)), H', ⟨by have := HJ25.out; have := HJ84.out; first | omega | exact Nat.le_refl _⟩, ⟨by (try simp only [hl358000_84]); (with_reducible repeat (first | apply Kd.R_alloc | apply Kd.R_drewN | apply Kd.R_drew)); exact Kd.R_mono HO_354000.out (fun _ hk => ⟨hk.1.1.1, ⟨hk.1.1.2, hk.2⟩⟩)⟩, ⟨by (try simp only [hl358000_84]); (with_reducible repeat (first | apply Kd.R_alloc | apply Kd.R_drewN | apply Kd.R_drew)); exact Kd.R_mono HO_358000.out (fun _ hk => ⟨hk.1.1.1, ⟨hk.1.1.2, hk.2⟩⟩)⟩, ⟨by (try simp only [hl358000_84]); (with_reducible repeat (first | apply Kd.R_alloc | apply Kd.R_drewN | apply Kd.R_drew)); exact Kd.R_mono HO_369000.out (fun _ hk => ⟨hk.1.1.1, ⟨hk.1.1.2, hk.2⟩⟩)⟩, ⟨by (try simp only [hl358000_84]); (with_reducible repeat (first | apply Kd.R_alloc | apply Kd.R_drewN | apply Kd.R_drew)); exact Kd.R_mono HO403.out (fun _ hk => ⟨hk.1.1.1.2, ⟨hk.1.1.2, hk.1.2⟩⟩)⟩, ⟨by (try simp only [hl358000_84]); (with_reducible repeat (first | refine blk_drewN ?_ _ | refine blk_drew ?_ | refine blk_alloc ?_ _)); exact BK337.out⟩, ⟨by (try simp only [hl358000_84]); (with_reducible repeat (first | refine blk_drewN ?_ _ | refine blk_drew ?_ | refine blk_alloc ?_ _)); exact BK353.out⟩, ⟨by (try simp only [hl358000_84]); (with_reducible repeat (first | refine blk_drewN ?_ _ | refine blk_drew ?_ | refine blk_alloc ?_ _)); exact BK357.out⟩, ⟨by (try simp only [hl358000_84]); (with_reducible repeat (first | refine blk_drewN ?_ _ | refine blk_drew ?_ | refine blk_alloc ?_ _)); exact BK368.out⟩, ⟨by (try simp only [hl358000_84]); (with_reducible repeat (first | refine blk_drewN ?_ _ | refine blk_drew ?_ | refine blk_alloc ?_ _)); exact BK405.out⟩, ⟨bw_ HB⟩⟩
                ·replace c148 := Bool.eq_false_iff.mpr c148
                 subst c148
                 have H1 : (none) = some r := by rw [if_neg (show ¬ (false = true) by decide)] at H; exact H
                 clear H
                 have H := H1
                 clear H1
                 exact absurd H (by simp)
               case rest =>
                clear HC122
                try clear c1
                try clear c2
                try clear p2
                try clear c3
                try clear c4
                try clear c5
                try clear c5b0
                try clear c5b1
                try clear c6
                try clear c7
                try clear c8
                try clear c8b0
                try clear c9
                try clear c10
                try clear c11
                try clear c12
                try clear c13
                try clear c13b0
                try clear c14
                try clear c15
                try clear c16
                try clear c17
                try clear c19
                try clear c21
                try clear c22
                try clear c27
                try clear c28
                try clear c34
                try clear c35
                try clear c36
                try clear c41
                try clear c47
                try clear c48
                try clear c58
                try clear c59
                try clear c60
                try clear c63
                try clear c64
                try clear c65
                try clear c66
                try clear c68
                try clear c69
                try clear c72
                try clear c75
                try clear c78
                try clear c81
                try clear c95
                try clear c96
                try clear c97
                try clear c102
                try clear c102b0
                try clear c104
                try clear c105
                try clear c106
                try clear c107
                try clear c109
                try clear c110
                try clear c113
                try clear c116
                try clear c116b0
                try clear c117
                try clear c117b0
                try clear c117b1
                try clear c123
                try clear c124
                try clear c125
                try clear c130
                try clear c131
                try clear c142
                try clear c143
                try clear c144
                try clear c145
                try clear c148
                try clear c149
                try clear c150
                try clear c151
                try clear c152
                try clear c154
                try clear c155
                try clear c156
                try clear hcz108_0
                try clear hcz10_0
                try clear hcz111_0
                try clear hcz126_0
                try clear hcz128_0
                try clear hcz132_0
                try clear hcz146_0
                try clear hcz153_0
                try clear hcz157_0
                try clear hcz15_0
                try clear hcz28_0
                try clear hcz31_0
                try clear hcz42_0
                try clear hcz43_0
                try clear hcz49_0
                try clear hcz52_0
                try clear hcz61_0
                try clear hcz67_0
                try clear hcz70_0
                try clear hcz98_0
                try clear hfz108_0
                try clear hfz10_0
                try clear hfz111_0
                try clear hfz126_0
                try clear hfz128_0
                try clear hfz132_0
                try clear hfz146_0
                try clear hfz153_0
                try clear hfz157_0
                try clear hfz15_0
                try clear hfz28_0
                try clear hfz31_0
                try clear hfz42_0
                try clear hfz43_0
                try clear hfz49_0
                try clear hfz52_0
                try clear hfz61_0
                try clear hfz67_0
                try clear hfz70_0
                try clear hfz98_0
                try clear p2
                obtain ⟨kq, x136_121, rfl, HA, HJ121, HO_354000, HO_358000, HO_369000, HO_406000, BK337, BK353, BK357, BK368, BK405, HB⟩ := hcut
                have hl369000_121 := (Kd.R_reads' HO_369000.out).1
                rw [hl369000_121] at HO_369000
                (try simp only [hl369000_121])
                (try simp only [hl369000_121] at BK337)
                (try simp only [hl369000_121] at BK353)
                (try simp only [hl369000_121] at BK357)
                (try simp only [hl369000_121] at BK368)
                (try simp only [hl369000_121] at BK405)
                (try simp only [hl369000_121] at HO_354000)
                (try simp only [hl369000_121] at HO_358000)
                (try simp only [hl369000_121] at HO_406000)
                cases kq with
                | zero => exact absurd HA.out (by simp [laws_FnExactCutActs.j2])
                | succ kj121 =>
                 have H := HA.out
                 clear HA
                 simp only [laws_FnExactCutActs.j2] at H
                 by_cases c159 : x136_121 = true
                 ·subst c159
                  have H1 : (none) = some r := by rw [if_pos rfl] at H; exact H
                  clear H
                  have H := H1
                  clear H1
                  exact absurd H (by simp)
                 ·replace c159 := Bool.eq_false_iff.mpr c159
                  subst c159
                  have H1 : ((laws_heldDisk.f kj121 t390 1).bind fun t407 => (if t407 < 0 then (none) else (if t407 = t389 then (some true) else (none)))) = some r := by rw [if_neg (show ¬ (false = true) by decide)] at H; exact H
                  clear H
                  have H := H1
                  clear H1
                  replace H := Option.bind_eq_some_iff.mp H
                  obtain ⟨t407, A1600, H⟩ := H
                  replace H : (if t407 < 0 then (none) else (if t407 = t389 then (some true) else (none))) = some r := H
                  have A160 := Aside0.mk A1600
                  clear A1600
                  by_cases c161 : t407 < 0
                  ·rw [if_pos c161] at H
                   exact absurd H (by simp)
                  ·rw [if_neg c161] at H
                   have c161b0 : decide (t407 < 0) = false := decide_eq_false c161
                   clear c161
                   by_cases c162 : t407 = t389
                   ·rw [if_pos c162] at H
                    have c162b0 : (t407 == t389) = true := beq_iff_eq.mpr c162
                    have c162b1 : (t407 != t389) = false := bne_eq_false_iff_eq.mpr c162
                    clear c162
                    obtain rfl := Option.some.inj H
                    have hnb163 := NB368_337.out
                    have hnc163 := NB337_368.out
                    have hnb164 := NB368_353.out
                    have hnc164 := NB353_368.out
                    have hnb165 := NB368_357.out
                    have hnc165 := NB357_368.out
                    have hnb166 := NB368_405.out
                    have hnc166 := NB405_368.out
                    have hcz167_0 : wc.cell? ⟨gb368, 0, none⟩ = some (.slice Ao57 t390.length co57) := bc_ BK368 0
                    have hfz167_0 := blk_frozen BK368.out 0
                    go_wp2_with (first | ((with_reducible refine gate_callee (f := 16) rfl ?_); refine goesL_ (some 139) rfl rfl Try.func16 (by kernel_rfl) rfl #[.agg #[.slice Ao57 t390.length co57], .int .i64 1] rfl ga_ ?_; (with_reducible refine (laws_heldDisk.calls kj121 _ _ t390 1 t407 _ ?side1 ?side2 A160.out).mono ?_); (case side1 => repeat (first | exact (Kd.R_reads' HO_369000.out).2.2 | (with_reducible refine Kd.C_alloc ?_ _) | (with_reducible refine Kd.C_drewN ?_ _) | (with_reducible refine Kd.C_drew ?_))); (case side2 => exact (Kd.R_reads' HO_369000.out).2.1); rintro e w168 ⟨rfl, hb⟩; refine ⟨_, rfl, ?_⟩; replace HO_354000 := rb_ HO_354000 hb; replace HO_358000 := rb_ HO_358000 hb; replace HO_369000 := rb_ HO_369000 hb; replace HO_406000 := rb_ HO_406000 hb; replace BK337 := bb_ BK337 hb; replace BK353 := bb_ BK353 hb; replace BK357 := bb_ BK357 hb; replace BK368 := bb_ BK368 hb; replace BK405 := bb_ BK405 hb; replace HB := bs_ HB hb; (try clear hb)))
                    go_ret
                    exact ⟨er_, bw_ HB⟩
                   ·rw [if_neg c162] at H
                    exact absurd H (by simp)
              ·rw [if_neg c117] at H
               exact absurd H (by simp)
         ·replace c81 := Bool.eq_false_iff.mpr c81
          subst c81
          have H1 : (none) = some r := by rw [if_neg (show ¬ (false = true) by decide)] at H; exact H
          clear H
          have H := H1
          clear H1
          exact absurd H (by simp)
        ·replace c78 := Bool.eq_false_iff.mpr c78
         subst c78
         have H1 : (none) = some r := by rw [if_neg (show ¬ (false = true) by decide)] at H; exact H
         clear H
         have H := H1
         clear H1
         exact absurd H (by simp)
       ·replace c75 := Bool.eq_false_iff.mpr c75
        subst c75
        have H1 : (none) = some r := by rw [if_neg (show ¬ (false = true) by decide)] at H; exact H
        clear H
        have H := H1
        clear H1
        exact absurd H (by simp)

end Go.Proofs.Ythbaoefbccdioaa.QFnExactCutActs
