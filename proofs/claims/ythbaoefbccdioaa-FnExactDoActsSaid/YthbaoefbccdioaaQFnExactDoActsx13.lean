/- Written by this session's own program (wip/tpl/pp.py): what the law's functions come to, and that the machine's calls do just that. -/
import Derived.Test.YthbaoefbccdioaaQFnExactDoActsx0
import Derived.Test.YthbaoefbccdioaaQFnExactDoActsx1
import Derived.Test.YthbaoefbccdioaaQFnExactDoActsx2
import Derived.Test.YthbaoefbccdioaaQFnExactDoActsx3
import Derived.Test.YthbaoefbccdioaaQFnExactDoActsx4
import Derived.Test.YthbaoefbccdioaaQFnExactDoActsx8
import Derived.Test.YthbaoefbccdioaaQFnExactDoActsx9
import Derived.Test.YthbaoefbccdioaaQFnExactDoActsx11
import Derived.Test.YthbaoefbccdioaaQFnExactDoActsx12
namespace Go.Proofs.Ythbaoefbccdioaa.QFnExactDoActs
open Go.RowKit Go.Proofs.YthbaoefbccdioaaW.PrintWords Go.Proofs.YthbaoefbccdioaaW.PrintLast Go.Proofs.YthbaoefbccdioaaW.PrintMore
attribute [local go_sem] Go.Proofs.Ythbaoefbccdioaa.Sem.string_geq Go.Proofs.Ythbaoefbccdioaa.Sem.string_leq Go.Proofs.Ythbaoefbccdioaa.Sem.string_gtr
attribute [local go_sem] max2_int min2_int max_two min_two max_three min_three max_four min_four   -- for this text's walks alone
set_option linter.unusedVariables false
set_option linter.unusedSimpArgs false

/-! ### laws_FnExactDoActs: function 4 -/
mutual
def laws_FnExactDoActs.j0 : Nat → List (S26) → Int → List (S35) → Int → Bool → List (S112) → List (S76) → List (S76) → List (S76) → Option (Bool)
 | 0, _, _, _, _, _, _, _, _, _ => none
 | k + 1, x1, x7, x9, x11, x53, x279000, x292000, x296000, x304000 => if x53 = true then (none) else ((laws_toDisk.f k x279000).bind fun t305 => ((laws_eqDisk.f k x296000 t305).bind fun t308 => (if t308 = true then ((laws_toActS.f k x1).bind fun t309 => ((laws_eqActS.f k x9 t309).bind fun t312 => (if t312 = true then ((laws_markDisk.f k x296000 1).bind fun bt313 => ((laws_markActS.f k x9 bt313.1).bind fun bt315 => (if bt315.1 < 0 then (none) else ((laws_eqDisk.f k x304000 x292000).bind fun t317 => (if t317 = true then (laws_FnExactDoActs.j1 k x1 x7 (x11 != x7) x279000 x292000 x304000) else (none)))))) else (none)))) else (none))))
def laws_FnExactDoActs.j1 : Nat → List (S26) → Int → Bool → List (S112) → List (S76) → List (S76) → Option (Bool)
 | 0, _, _, _, _, _, _ => none
 | k + 1, x1, x7, x82, x279000, x292000, x304000 => if x82 = true then (none) else ((laws_markDisk.f k x304000 1).bind fun bt318 => ((laws_heldDisk.f k bt318.2 1).bind fun t320 => (if t320 < 0 then (none) else (if t320 = bt318.1 then ((laws_toDisk.f k x279000).bind fun t321 => ((laws_toActS.f k x1).bind fun t324 => ((impl_DoActs.f k t321 t324).bind fun bt327 => ((laws_eqDisk.f k bt327.1 x292000).bind fun t332 => (if t332 = true then (laws_FnExactDoActs.j2 k bt318.1 (bt327.2 != x7) bt318.2) else (none)))))) else (none)))))
def laws_FnExactDoActs.j2 : Nat → Int → Bool → List (S76) → Option (Bool)
 | 0, _, _, _ => none
 | k + 1, x13, x110, x304000 => if x110 = true then (none) else ((laws_heldDisk.f k x304000 1).bind fun t333 => (if t333 < 0 then (none) else (if t333 = x13 then (some true) else (none))))
end
def laws_FnExactDoActs.f (k : Nat) (l0_0 : List (S112)) (l1 : List (S26)) : Option (Bool) := (laws_szDisk.f k l0_0 1048576).bind fun t279 => (if t279 < 0 then (some true) else ((laws_szActS.f k l1 t279).bind fun t280 => (if t280 < 0 then (some true) else ((laws_toDisk.f k l0_0).bind fun t281 => ((laws_toActS.f k l1).bind fun t284 => ((spec_DoActs.f k t281 t284).bind fun bt287 => ((laws_toDisk.f k l0_0).bind fun t292 => ((laws_toActS.f k l1).bind fun t296 => ((impl_DoActs.f k t292 t296).bind fun bt299 => ((laws_eqDisk.f k bt299.1 bt287.1).bind fun t304 => (if t304 = true then (laws_FnExactDoActs.j0 k l1 bt287.2 t296 bt299.2 (bt299.2 != bt287.2) l0_0 bt287.1 t292 bt299.1) else (none))))))))))))
theorem laws_FnExactDoActs.mono_l : ∀ k, (∀ y0 y1 y2 y3 y4 y5 y6 y7 y8, LeO (laws_FnExactDoActs.j0 k y0 y1 y2 y3 y4 y5 y6 y7 y8) (laws_FnExactDoActs.j0 (k + 1) y0 y1 y2 y3 y4 y5 y6 y7 y8)) ∧ (∀ y0 y1 y2 y3 y4 y5, LeO (laws_FnExactDoActs.j1 k y0 y1 y2 y3 y4 y5) (laws_FnExactDoActs.j1 (k + 1) y0 y1 y2 y3 y4 y5)) ∧ (∀ y0 y1 y2, LeO (laws_FnExactDoActs.j2 k y0 y1 y2) (laws_FnExactDoActs.j2 (k + 1) y0 y1 y2))
 | 0 => ⟨fun _ _ _ _ _ _ _ _ _ r h => by simp [laws_FnExactDoActs.j0] at h, fun _ _ _ _ _ _ r h => by simp [laws_FnExactDoActs.j1] at h, fun _ _ _ r h => by simp [laws_FnExactDoActs.j2] at h⟩
 | k + 1 => by
  obtain ⟨ih0, ih1, ih2⟩ := laws_FnExactDoActs.mono_l k
  refine ⟨?_, ?_, ?_⟩
  ·intro y0 y1 y2 y3 y4 y5 y6 y7 y8
   unfold laws_FnExactDoActs.j0
   repeat' first
   | (with_reducible exact ih0 _ _ _ _ _ _ _ _ _)
   | (with_reducible exact ih1 _ _ _ _ _ _)
   | (with_reducible exact ih2 _ _ _)
   | (with_reducible exact impl_DoActs.mono _ _ _)
   | (with_reducible exact laws_eqActS.mono _ _ _)
   | (with_reducible exact laws_eqDisk.mono _ _ _)
   | (with_reducible exact laws_heldDisk.mono _ _ _)
   | (with_reducible exact laws_markActS.mono _ _ _)
   | (with_reducible exact laws_markDisk.mono _ _ _)
   | (with_reducible exact laws_szActS.mono _ _ _)
   | (with_reducible exact laws_szDisk.mono _ _ _)
   | (with_reducible exact laws_toActS.mono _ _)
   | (with_reducible exact laws_toDisk.mono _ _)
   | (with_reducible exact spec_DoActs.mono _ _ _)
   | (with_reducible exact LeO.refl _)
   | (with_reducible exact LeO.none _)
   | (with_reducible refine LeO.ite ?_ ?_)
   | (with_reducible refine LeO.bind ?_ (fun _ => ?_))
   | exact ih0 _ _ _ _ _ _ _ _ _
   | exact ih1 _ _ _ _ _ _
   | exact ih2 _ _ _
   | exact impl_DoActs.mono _ _ _
   | exact laws_eqActS.mono _ _ _
   | exact laws_eqDisk.mono _ _ _
   | exact laws_heldDisk.mono _ _ _
   | exact laws_markActS.mono _ _ _
   | exact laws_markDisk.mono _ _ _
   | exact laws_szActS.mono _ _ _
   | exact laws_szDisk.mono _ _ _
   | exact laws_toActS.mono _ _
   | exact laws_toDisk.mono _ _
   | exact spec_DoActs.mono _ _ _
   | exact LeO.none _
   | refine LeO.ite ?_ ?_
   | refine LeO.bind ?_ (fun _ => ?_)
  ·intro y0 y1 y2 y3 y4 y5
   unfold laws_FnExactDoActs.j1
   repeat' first
   | (with_reducible exact ih0 _ _ _ _ _ _ _ _ _)
   | (with_reducible exact ih1 _ _ _ _ _ _)
   | (with_reducible exact ih2 _ _ _)
   | (with_reducible exact impl_DoActs.mono _ _ _)
   | (with_reducible exact laws_eqActS.mono _ _ _)
   | (with_reducible exact laws_eqDisk.mono _ _ _)
   | (with_reducible exact laws_heldDisk.mono _ _ _)
   | (with_reducible exact laws_markActS.mono _ _ _)
   | (with_reducible exact laws_markDisk.mono _ _ _)
   | (with_reducible exact laws_szActS.mono _ _ _)
   | (with_reducible exact laws_szDisk.mono _ _ _)
   | (with_reducible exact laws_toActS.mono _ _)
   | (with_reducible exact laws_toDisk.mono _ _)
   | (with_reducible exact spec_DoActs.mono _ _ _)
   | (with_reducible exact LeO.refl _)
   | (with_reducible exact LeO.none _)
   | (with_reducible refine LeO.ite ?_ ?_)
   | (with_reducible refine LeO.bind ?_ (fun _ => ?_))
   | exact ih0 _ _ _ _ _ _ _ _ _
   | exact ih1 _ _ _ _ _ _
   | exact ih2 _ _ _
   | exact impl_DoActs.mono _ _ _
   | exact laws_eqActS.mono _ _ _
   | exact laws_eqDisk.mono _ _ _
   | exact laws_heldDisk.mono _ _ _
   | exact laws_markActS.mono _ _ _
   | exact laws_markDisk.mono _ _ _
   | exact laws_szActS.mono _ _ _
   | exact laws_szDisk.mono _ _ _
   | exact laws_toActS.mono _ _
   | exact laws_toDisk.mono _ _
   | exact spec_DoActs.mono _ _ _
   | exact LeO.none _
   | refine LeO.ite ?_ ?_
   | refine LeO.bind ?_ (fun _ => ?_)
  ·intro y0 y1 y2
   unfold laws_FnExactDoActs.j2
   repeat' first
   | (with_reducible exact ih0 _ _ _ _ _ _ _ _ _)
   | (with_reducible exact ih1 _ _ _ _ _ _)
   | (with_reducible exact ih2 _ _ _)
   | (with_reducible exact impl_DoActs.mono _ _ _)
   | (with_reducible exact laws_eqActS.mono _ _ _)
   | (with_reducible exact laws_eqDisk.mono _ _ _)
   | (with_reducible exact laws_heldDisk.mono _ _ _)
   | (with_reducible exact laws_markActS.mono _ _ _)
   | (with_reducible exact laws_markDisk.mono _ _ _)
   | (with_reducible exact laws_szActS.mono _ _ _)
   | (with_reducible exact laws_szDisk.mono _ _ _)
   | (with_reducible exact laws_toActS.mono _ _)
   | (with_reducible exact laws_toDisk.mono _ _)
   | (with_reducible exact spec_DoActs.mono _ _ _)
   | (with_reducible exact LeO.refl _)
   | (with_reducible exact LeO.none _)
   | (with_reducible refine LeO.ite ?_ ?_)
   | (with_reducible refine LeO.bind ?_ (fun _ => ?_))
   | exact ih0 _ _ _ _ _ _ _ _ _
   | exact ih1 _ _ _ _ _ _
   | exact ih2 _ _ _
   | exact impl_DoActs.mono _ _ _
   | exact laws_eqActS.mono _ _ _
   | exact laws_eqDisk.mono _ _ _
   | exact laws_heldDisk.mono _ _ _
   | exact laws_markActS.mono _ _ _
   | exact laws_markDisk.mono _ _ _
   | exact laws_szActS.mono _ _ _
   | exact laws_szDisk.mono _ _ _
   | exact laws_toActS.mono _ _
   | exact laws_toDisk.mono _ _
   | exact spec_DoActs.mono _ _ _
   | exact LeO.none _
   | refine LeO.ite ?_ ?_
   | refine LeO.bind ?_ (fun _ => ?_)
theorem laws_FnExactDoActs.mono : ∀ a0 a1 k, LeO (laws_FnExactDoActs.f k a0 a1) (laws_FnExactDoActs.f (k + 1) a0 a1) := by
 intro a0 a1 k
 obtain ⟨ih0, ih1, ih2⟩ := laws_FnExactDoActs.mono_l k
 unfold laws_FnExactDoActs.f
 repeat' first
   | (with_reducible exact ih0 _ _ _ _ _ _ _ _ _)
   | (with_reducible exact ih1 _ _ _ _ _ _)
   | (with_reducible exact ih2 _ _ _)
   | (with_reducible exact impl_DoActs.mono _ _ _)
   | (with_reducible exact laws_eqActS.mono _ _ _)
   | (with_reducible exact laws_eqDisk.mono _ _ _)
   | (with_reducible exact laws_heldDisk.mono _ _ _)
   | (with_reducible exact laws_markActS.mono _ _ _)
   | (with_reducible exact laws_markDisk.mono _ _ _)
   | (with_reducible exact laws_szActS.mono _ _ _)
   | (with_reducible exact laws_szDisk.mono _ _ _)
   | (with_reducible exact laws_toActS.mono _ _)
   | (with_reducible exact laws_toDisk.mono _ _)
   | (with_reducible exact spec_DoActs.mono _ _ _)
   | (with_reducible exact LeO.refl _)
   | (with_reducible exact LeO.none _)
   | (with_reducible refine LeO.ite ?_ ?_)
   | (with_reducible refine LeO.bind ?_ (fun _ => ?_))
   | exact ih0 _ _ _ _ _ _ _ _ _
   | exact ih1 _ _ _ _ _ _
   | exact ih2 _ _ _
   | exact impl_DoActs.mono _ _ _
   | exact laws_eqActS.mono _ _ _
   | exact laws_eqDisk.mono _ _ _
   | exact laws_heldDisk.mono _ _ _
   | exact laws_markActS.mono _ _ _
   | exact laws_markDisk.mono _ _ _
   | exact laws_szActS.mono _ _ _
   | exact laws_szDisk.mono _ _ _
   | exact laws_toActS.mono _ _
   | exact laws_toDisk.mono _ _
   | exact spec_DoActs.mono _ _ _
   | exact LeO.none _
   | refine LeO.ite ?_ ?_
   | refine LeO.bind ?_ (fun _ => ?_)
set_option maxHeartbeats 8000000 in
set_option maxRecDepth 100000 in
theorem laws_FnExactDoActs.calls (k : Nat) (A0_0 : Option Addr) (c0_0 : Nat) (l0_0 : List (S112)) (A1 : Option Addr) (c1 : Nat) (l1 : List (S26)) (r : Bool) (w : World) (hr0_0 : Kd.C k112 w A0_0 l0_0.length l0_0) (hc0_0 : l0_0.length ≤ c0_0) (hr1 : Kd.C k26 w A1 l1.length l1) (hc1 : l1.length ≤ c1) (h : laws_FnExactDoActs.f k l0_0 l1 = some r) :
  Calls Try.prog 4 #[.agg #[.slice A0_0 l0_0.length c0_0], .slice A1 l1.length c1] w fun e w' => e = .returned (.bool r) ∧ Below w.heap.size w w' := by
 have hu24 := Try.underlying24
 have hu31 := Try.underlying31
 have HR0_0 := Aside0.mk hr0_0
 have HC0_0 := Aside0.mk hc0_0
 clear hr0_0 hc0_0
 have HR1 := Aside0.mk hr1
 have HC1 := Aside0.mk hc1
 clear hr1 hc1
 have HB := mk_ (Below.refl w.heap.size w)
 have H : ((laws_szDisk.f k l0_0 1048576).bind fun t279 => (if t279 < 0 then (some true) else ((laws_szActS.f k l1 t279).bind fun t280 => (if t280 < 0 then (some true) else ((laws_toDisk.f k l0_0).bind fun t281 => ((laws_toActS.f k l1).bind fun t284 => ((spec_DoActs.f k t281 t284).bind fun bt287 => ((laws_toDisk.f k l0_0).bind fun t292 => ((laws_toActS.f k l1).bind fun t296 => ((impl_DoActs.f k t292 t296).bind fun bt299 => ((laws_eqDisk.f k bt299.1 bt287.1).bind fun t304 => (if t304 = true then (laws_FnExactDoActs.j0 k l1 bt287.2 t296 bt299.2 (bt299.2 != bt287.2) l0_0 bt287.1 t292 bt299.1) else (none))))))))))))) = some r := h
 clear h
 replace H := Option.bind_eq_some_iff.mp H
 obtain ⟨t279, A30, H⟩ := H
 replace H : (if t279 < 0 then (some true) else ((laws_szActS.f k l1 t279).bind fun t280 => (if t280 < 0 then (some true) else ((laws_toDisk.f k l0_0).bind fun t281 => ((laws_toActS.f k l1).bind fun t284 => ((spec_DoActs.f k t281 t284).bind fun bt287 => ((laws_toDisk.f k l0_0).bind fun t292 => ((laws_toActS.f k l1).bind fun t296 => ((impl_DoActs.f k t292 t296).bind fun bt299 => ((laws_eqDisk.f k bt299.1 bt287.1).bind fun t304 => (if t304 = true then (laws_FnExactDoActs.j0 k l1 bt287.2 t296 bt299.2 (bt299.2 != bt287.2) l0_0 bt287.1 t292 bt299.1) else (none)))))))))))) = some r := H
 have A3 := Aside0.mk A30
 clear A30
 by_cases c4 : t279 < 0
 ·rw [if_pos c4] at H
  have c4b0 : decide (t279 < 0) = true := decide_eq_true c4
  clear c4
  obtain rfl := Option.some.inj H
  go_enter Try.func4, Try.ntmps4
  go_wp2_with (first | ((with_reducible refine gate_dst (N := 2) rfl ?_); refine bx_ (N := 2) (cs := #[.slice A0_0 l0_0.length c0_0]) (t := 24) ?_; intro gb278 hg w5 hbox hb; have BK278 := mk_ (hbox); have GW278 : Aside0 (w.heap.size ≤ gb278) := bz_ hg; have GE278 := GW278; replace HB := bs_ HB hb; clear hb hbox hg; obtain ⟨hcz6_0, hfz6_0⟩ := b1_ BK278) | ((with_reducible refine gate_callee (f := 8) rfl ?_); refine goesL_ (some 19) rfl rfl Try.func8 (by kernel_rfl) rfl #[.agg #[.slice A0_0 l0_0.length c0_0], .int .i64 1048576] rfl ga_ ?_; (with_reducible refine (laws_szDisk.calls k _ _ l0_0 1048576 t279 _ ?side1 ?side2 A3.out).mono ?_); (case side1 => repeat (first | exact (Kd.C_below HR0_0.out HB.out) | (with_reducible refine Kd.C_alloc ?_ _) | (with_reducible refine Kd.C_drewN ?_ _) | (with_reducible refine Kd.C_drew ?_))); (case side2 => exact HC0_0.out); rintro e w7 ⟨rfl, hb⟩; refine ⟨_, rfl, ?_⟩; replace BK278 := bb_ BK278 hb; replace HB := bs_ HB hb; (try clear hb)))
  go_ret
  exact ⟨er_, bw_ HB⟩
 ·rw [if_neg c4] at H
  have c4b0 : decide (t279 < 0) = false := decide_eq_false c4
  clear c4
  replace H := Option.bind_eq_some_iff.mp H
  obtain ⟨t280, A80, H⟩ := H
  replace H : (if t280 < 0 then (some true) else ((laws_toDisk.f k l0_0).bind fun t281 => ((laws_toActS.f k l1).bind fun t284 => ((spec_DoActs.f k t281 t284).bind fun bt287 => ((laws_toDisk.f k l0_0).bind fun t292 => ((laws_toActS.f k l1).bind fun t296 => ((impl_DoActs.f k t292 t296).bind fun bt299 => ((laws_eqDisk.f k bt299.1 bt287.1).bind fun t304 => (if t304 = true then (laws_FnExactDoActs.j0 k l1 bt287.2 t296 bt299.2 (bt299.2 != bt287.2) l0_0 bt287.1 t292 bt299.1) else (none)))))))))) = some r := H
  have A8 := Aside0.mk A80
  clear A80
  by_cases c9 : t280 < 0
  ·rw [if_pos c9] at H
   have c9b0 : decide (t280 < 0) = true := decide_eq_true c9
   clear c9
   obtain rfl := Option.some.inj H
   go_enter Try.func4, Try.ntmps4
   go_wp2_with (first | ((with_reducible refine gate_dst (N := 2) rfl ?_); refine bx_ (N := 2) (cs := #[.slice A0_0 l0_0.length c0_0]) (t := 24) ?_; intro gb278 hg w10 hbox hb; have BK278 := mk_ (hbox); have GW278 : Aside0 (w.heap.size ≤ gb278) := bz_ hg; have GE278 := GW278; replace HB := bs_ HB hb; clear hb hbox hg; obtain ⟨hcz11_0, hfz11_0⟩ := b1_ BK278) | ((with_reducible refine gate_callee (f := 8) rfl ?_); refine goesL_ (some 19) rfl rfl Try.func8 (by kernel_rfl) rfl #[.agg #[.slice A0_0 l0_0.length c0_0], .int .i64 1048576] rfl ga_ ?_; (with_reducible refine (laws_szDisk.calls k _ _ l0_0 1048576 t279 _ ?side1 ?side2 A3.out).mono ?_); (case side1 => repeat (first | exact (Kd.C_below HR0_0.out HB.out) | (with_reducible refine Kd.C_alloc ?_ _) | (with_reducible refine Kd.C_drewN ?_ _) | (with_reducible refine Kd.C_drew ?_))); (case side2 => exact HC0_0.out); rintro e w12 ⟨rfl, hb⟩; refine ⟨_, rfl, ?_⟩; replace BK278 := bb_ BK278 hb; replace HB := bs_ HB hb; (try clear hb)) | ((with_reducible refine gate_callee (f := 17) rfl ?_); refine goesL_ (some 24) rfl rfl Try.func17 (by kernel_rfl) rfl #[.slice A1 l1.length c1, .int .i64 t279] rfl ga_ ?_; (with_reducible refine (laws_szActS.calls k _ _ l1 t279 t280 _ ?side1 ?side2 A8.out).mono ?_); (case side1 => repeat (first | exact (Kd.C_below HR1.out HB.out) | (with_reducible refine Kd.C_alloc ?_ _) | (with_reducible refine Kd.C_drewN ?_ _) | (with_reducible refine Kd.C_drew ?_))); (case side2 => exact HC1.out); rintro e w13 ⟨rfl, hb⟩; refine ⟨_, rfl, ?_⟩; replace BK278 := bb_ BK278 hb; replace HB := bs_ HB hb; (try clear hb)))
   go_ret
   exact ⟨er_, bw_ HB⟩
  ·rw [if_neg c9] at H
   have c9b0 : decide (t280 < 0) = false := decide_eq_false c9
   clear c9
   replace H := Option.bind_eq_some_iff.mp H
   obtain ⟨t281, A140, H⟩ := H
   replace H : ((laws_toActS.f k l1).bind fun t284 => ((spec_DoActs.f k t281 t284).bind fun bt287 => ((laws_toDisk.f k l0_0).bind fun t292 => ((laws_toActS.f k l1).bind fun t296 => ((impl_DoActs.f k t292 t296).bind fun bt299 => ((laws_eqDisk.f k bt299.1 bt287.1).bind fun t304 => (if t304 = true then (laws_FnExactDoActs.j0 k l1 bt287.2 t296 bt299.2 (bt299.2 != bt287.2) l0_0 bt287.1 t292 bt299.1) else (none)))))))) = some r := H
   have A14 := Aside0.mk A140
   clear A140
   replace H := Option.bind_eq_some_iff.mp H
   obtain ⟨t284, A150, H⟩ := H
   replace H : ((spec_DoActs.f k t281 t284).bind fun bt287 => ((laws_toDisk.f k l0_0).bind fun t292 => ((laws_toActS.f k l1).bind fun t296 => ((impl_DoActs.f k t292 t296).bind fun bt299 => ((laws_eqDisk.f k bt299.1 bt287.1).bind fun t304 => (if t304 = true then (laws_FnExactDoActs.j0 k l1 bt287.2 t296 bt299.2 (bt299.2 != bt287.2) l0_0 bt287.1 t292 bt299.1) else (none))))))) = some r := H
   have A15 := Aside0.mk A150
   clear A150
   replace H := Option.bind_eq_some_iff.mp H
   obtain ⟨⟨t287, t290⟩, A160, H⟩ := H
   replace H : ((laws_toDisk.f k l0_0).bind fun t292 => ((laws_toActS.f k l1).bind fun t296 => ((impl_DoActs.f k t292 t296).bind fun bt299 => ((laws_eqDisk.f k bt299.1 t287).bind fun t304 => (if t304 = true then (laws_FnExactDoActs.j0 k l1 t290 t296 bt299.2 (bt299.2 != t290) l0_0 t287 t292 bt299.1) else (none)))))) = some r := H
   have A16 := Aside0.mk A160
   clear A160
   replace H := Option.bind_eq_some_iff.mp H
   obtain ⟨t292, A170, H⟩ := H
   replace H : ((laws_toActS.f k l1).bind fun t296 => ((impl_DoActs.f k t292 t296).bind fun bt299 => ((laws_eqDisk.f k bt299.1 t287).bind fun t304 => (if t304 = true then (laws_FnExactDoActs.j0 k l1 t290 t296 bt299.2 (bt299.2 != t290) l0_0 t287 t292 bt299.1) else (none))))) = some r := H
   have A17 := Aside0.mk A170
   clear A170
   replace H := Option.bind_eq_some_iff.mp H
   obtain ⟨t296, A180, H⟩ := H
   replace H : ((impl_DoActs.f k t292 t296).bind fun bt299 => ((laws_eqDisk.f k bt299.1 t287).bind fun t304 => (if t304 = true then (laws_FnExactDoActs.j0 k l1 t290 t296 bt299.2 (bt299.2 != t290) l0_0 t287 t292 bt299.1) else (none)))) = some r := H
   have A18 := Aside0.mk A180
   clear A180
   replace H := Option.bind_eq_some_iff.mp H
   obtain ⟨⟨t299, t302⟩, A190, H⟩ := H
   replace H : ((laws_eqDisk.f k t299 t287).bind fun t304 => (if t304 = true then (laws_FnExactDoActs.j0 k l1 t290 t296 t302 (t302 != t290) l0_0 t287 t292 t299) else (none))) = some r := H
   have A19 := Aside0.mk A190
   clear A190
   have HC20 := Aside0.mk H
   clear H
   go_enter Try.func4, Try.ntmps4
   go_upto_region 12 with (first | ((with_reducible refine gate_dst (N := 2) rfl ?_); refine bx_ (N := 2) (cs := #[.slice A0_0 l0_0.length c0_0]) (t := 24) ?_; intro gb278 hg w21 hbox hb; have BK278 := mk_ (hbox); have GW278 : Aside0 (w.heap.size ≤ gb278) := bz_ hg; have GE278 := GW278; replace HB := bs_ HB hb; clear hb hbox hg; obtain ⟨hcz22_0, hfz22_0⟩ := b1_ BK278) | ((with_reducible refine gate_callee (f := 8) rfl ?_); refine goesL_ (some 19) rfl rfl Try.func8 (by kernel_rfl) rfl #[.agg #[.slice A0_0 l0_0.length c0_0], .int .i64 1048576] rfl ga_ ?_; (with_reducible refine (laws_szDisk.calls k _ _ l0_0 1048576 t279 _ ?side1 ?side2 A3.out).mono ?_); (case side1 => repeat (first | exact (Kd.C_below HR0_0.out HB.out) | (with_reducible refine Kd.C_alloc ?_ _) | (with_reducible refine Kd.C_drewN ?_ _) | (with_reducible refine Kd.C_drew ?_))); (case side2 => exact HC0_0.out); rintro e w23 ⟨rfl, hb⟩; refine ⟨_, rfl, ?_⟩; replace BK278 := bb_ BK278 hb; replace HB := bs_ HB hb; (try clear hb); (try clear hk)) | ((with_reducible refine gate_callee (f := 17) rfl ?_); refine goesL_ (some 24) rfl rfl Try.func17 (by kernel_rfl) rfl #[.slice A1 l1.length c1, .int .i64 t279] rfl ga_ ?_; (with_reducible refine (laws_szActS.calls k _ _ l1 t279 t280 _ ?side1 ?side2 A8.out).mono ?_); (case side1 => repeat (first | exact (Kd.C_below HR1.out HB.out) | (with_reducible refine Kd.C_alloc ?_ _) | (with_reducible refine Kd.C_drewN ?_ _) | (with_reducible refine Kd.C_drew ?_))); (case side2 => exact HC1.out); rintro e w24 ⟨rfl, hb⟩; refine ⟨_, rfl, ?_⟩; replace BK278 := bb_ BK278 hb; replace HB := bs_ HB hb; (try clear hb); (try clear hk); obtain ⟨hcz25_0, hfz25_0⟩ := b1_ BK278) | ((with_reducible refine gate_callee (f := 11) rfl ?_); refine goesL_ (some 29) rfl rfl Try.func11 (by kernel_rfl) rfl #[.agg #[.slice A0_0 l0_0.length c0_0]] rfl ga_ ?_; (with_reducible refine (laws_toDisk.calls k _ _ l0_0 t281 _ ?side1 ?side2 A14.out).mono ?_); (case side1 => repeat (first | exact (Kd.C_below HR0_0.out HB.out) | (with_reducible refine Kd.C_alloc ?_ _) | (with_reducible refine Kd.C_drewN ?_ _) | (with_reducible refine Kd.C_drew ?_))); (case side2 => exact HC0_0.out); rintro e w26 ⟨v282, rfl, ho0, hb⟩; refine ⟨_, rfl, ?_⟩; have HO283 := mk_ (Kd.R_lower ho0 (below_size (bw_ HB))); replace BK278 := bb_ BK278 hb; replace HB := bs_ HB hb; (try clear hb); (try clear hk); (try clear ho0)) | ((with_reducible refine gate_callee (f := 19) rfl ?_); refine goesL_ (some 31) rfl rfl Try.func19 (by kernel_rfl) rfl #[.slice A1 l1.length c1] rfl ga_ ?_; (with_reducible refine (laws_toActS.calls k _ _ l1 t284 _ ?side1 ?side2 A15.out).mono ?_); (case side1 => repeat (first | exact (Kd.C_below HR1.out HB.out) | (with_reducible refine Kd.C_alloc ?_ _) | (with_reducible refine Kd.C_drewN ?_ _) | (with_reducible refine Kd.C_drew ?_))); (case side2 => exact HC1.out); rintro e w27 ⟨v285, rfl, ho0, hb⟩; refine ⟨_, rfl, ?_⟩; have HO286 := mk_ (Kd.R_lower ho0 (below_size (bw_ HB))); replace HO283 := rb_ HO283 hb; replace BK278 := bb_ BK278 hb; replace HB := bs_ HB hb; (try clear hb); (try clear hk); (try clear ho0); obtain ⟨Ao28, co28, eo28⟩ := Kd.R_slice HO283.out; subst eo28; obtain ⟨Ao29, co29, eo29⟩ := Kd.R_slice HO286.out; subst eo29) | ((with_reducible refine gate_callee (f := 18) rfl ?_); refine goesL_ (some 32) rfl rfl Try.func18 (by kernel_rfl) rfl #[.agg #[.slice Ao28 t281.length co28], .slice Ao29 t284.length co29] rfl ga_ ?_; (with_reducible refine (spec_DoActs.calls k _ _ t281 _ _ t284 t287 t290 _ ?side1 ?side2 ?side3 ?side4 A16.out).mono ?_); (case side1 => repeat (first | exact (Kd.R_reads' HO283.out).2.2 | (with_reducible refine Kd.C_alloc ?_ _) | (with_reducible refine Kd.C_drewN ?_ _) | (with_reducible refine Kd.C_drew ?_))); (case side2 => exact (Kd.R_reads' HO283.out).2.1); (case side3 => repeat (first | exact (Kd.R_reads' HO286.out).2.2 | (with_reducible refine Kd.C_alloc ?_ _) | (with_reducible refine Kd.C_drewN ?_ _) | (with_reducible refine Kd.C_drew ?_))); (case side4 => exact (Kd.R_reads' HO286.out).2.1); rintro e w30 ⟨v288, rfl, ho0, hb⟩; refine ⟨_, rfl, ?_⟩; have HO289 := mk_ (Kd.R_lower (Kd.R_new' ho0 (Kd.R_lt (rp_ HO283))) (below_size (bw_ HB))); replace HO283 := mk_ (Kd.R_elder' (rp_ HO283) (Kd.R_base ho0) hb); replace HO286 := rb_ HO286 hb; replace BK278 := bb_ BK278 hb; replace HB := bs_ HB hb; (try clear hb); (try clear hk); (try clear ho0)) | ((with_reducible refine gate_dst (N := 6) rfl ?_); refine bx_ (N := 6) (cs := #[.slice none 0 0]) (t := 31) ?_; intro gb291 hg w31 hbox hb; have BK291 := mk_ (hbox); have GW291 : Aside0 (w.heap.size ≤ gb291) := bz_ hg; have GE291 := GW291; have NB278_291 := bl_ BK278 hg; have NB291_278 := bg_ BK278 hg; replace HO283 := rb_ HO283 hb; replace HO286 := rb_ HO286 hb; replace HO289 := rb_ HO289 hb; replace BK278 := bb_ BK278 hb; replace HB := bs_ HB hb; clear hb hbox hg; obtain ⟨Ao32, co32, eo32⟩ := Kd.R_slice HO289.out; subst eo32; have hnb33 := NB291_278.out; have hnc33 := NB278_291.out; obtain ⟨hcz34_0, hfz34_0⟩ := b1_ BK291; obtain ⟨hcz35_0, hfz35_0⟩ := b1_ BK278) | ((with_reducible refine gate_callee (f := 11) rfl ?_); refine goesL_ (some 36) rfl rfl Try.func11 (by kernel_rfl) rfl #[.agg #[.slice A0_0 l0_0.length c0_0]] rfl ga_ ?_; (with_reducible refine (laws_toDisk.calls k _ _ l0_0 t292 _ ?side1 ?side2 A17.out).mono ?_); (case side1 => exact Kd.C_below HR0_0.out (bw_ HB)); (case side2 => exact HC0_0.out); rintro e w36 ⟨v293, rfl, ho0, hb⟩; refine ⟨_, rfl, ?_⟩; have HO294 := mk_ (Kd.R_lower (Kd.R_new' (Kd.R_new' ho0 (Kd.R_lt (by (with_reducible repeat (first | apply Kd.R_alloc | apply Kd.R_drewN | apply Kd.R_drew)); exact (Kd.R_mono (Kd.R_far (p := ⟨gb291, 0, none⟩) (Kd.R_types HO283.out BK291.out (by decide)) (fun _ hk => hk.2) (.slice Ao32 t287.length co32)) (fun _ h_ => h_.1))))) (Kd.R_lt (by (with_reducible repeat (first | apply Kd.R_alloc | apply Kd.R_drewN | apply Kd.R_drew)); exact (Kd.R_mono (Kd.R_far (p := ⟨gb291, 0, none⟩) (Kd.R_types HO289.out BK291.out (by decide)) (fun _ hk => hk.2) (.slice Ao32 t287.length co32)) (fun _ h_ => h_.1))))) (below_size (bw_ HB))); replace HO283 := mk_ (Kd.R_elder' (by (with_reducible repeat (first | apply Kd.R_alloc | apply Kd.R_drewN | apply Kd.R_drew)); exact (Kd.R_mono (Kd.R_far (p := ⟨gb291, 0, none⟩) (Kd.R_types HO283.out BK291.out (by decide)) (fun _ hk => hk.2) (.slice Ao32 t287.length co32)) (fun _ h_ => h_.1))) (Kd.R_base ho0) hb); replace HO286 := mk_ (Kd.R_below (by (with_reducible repeat (first | apply Kd.R_alloc | apply Kd.R_drewN | apply Kd.R_drew)); exact (Kd.R_mono (Kd.R_far (p := ⟨gb291, 0, none⟩) (Kd.R_types HO286.out BK291.out (by decide)) (fun _ hk => hk.2) (.slice Ao32 t287.length co32)) (fun _ h_ => h_.1))) hb); replace HO289 := mk_ (Kd.R_elder' (by (with_reducible repeat (first | apply Kd.R_alloc | apply Kd.R_drewN | apply Kd.R_drew)); exact (Kd.R_mono (Kd.R_far (p := ⟨gb291, 0, none⟩) (Kd.R_types HO289.out BK291.out (by decide)) (fun _ hk => hk.2) (.slice Ao32 t287.length co32)) (fun _ h_ => h_.1))) (Kd.R_base ho0) hb); replace BK278 := mk_ (blk_below (g := gb278) (o := .cells #[.slice A0_0 l0_0.length c0_0] 24 (0, 0)) bf_ hb); replace BK291 := mk_ (blk_below (g := gb291) (o := .cells #[.slice Ao32 t287.length co32] 31 (0, 0)) bu_ hb); replace HB := bs_ HB hb; (try clear hb); (try clear hk); (try clear ho0)) | ((with_reducible refine gate_dst (N := 8) rfl ?_); refine bx_ (N := 8) (cs := #[.slice none 0 0]) (t := 31) ?_; intro gb295 hg w37 hbox hb; have BK295 := mk_ (hbox); have GW295 : Aside0 (w.heap.size ≤ gb295) := bz_ hg; have GE295 := GW295; have NB278_295 := bl_ BK278 hg; have NB295_278 := bg_ BK278 hg; have NB291_295 := bl_ BK291 hg; have NB295_291 := bg_ BK291 hg; replace HO283 := rb_ HO283 hb; replace HO286 := rb_ HO286 hb; replace HO289 := rb_ HO289 hb; replace HO294 := rb_ HO294 hb; replace BK278 := bb_ BK278 hb; replace BK291 := bb_ BK291 hb; replace HB := bs_ HB hb; clear hb hbox hg; obtain ⟨Ao38, co38, eo38⟩ := Kd.R_slice HO294.out; subst eo38; have hnb39 := NB295_278.out; have hnc39 := NB278_295.out; have hnb40 := NB295_291.out; have hnc40 := NB291_295.out; obtain ⟨hcz41_0, hfz41_0⟩ := b1_ BK295) | ((with_reducible refine gate_callee (f := 19) rfl ?_); refine goesL_ (some 38) rfl rfl Try.func19 (by kernel_rfl) rfl #[.slice A1 l1.length c1] rfl ga_ ?_; (with_reducible refine (laws_toActS.calls k _ _ l1 t296 _ ?side1 ?side2 A18.out).mono ?_); (case side1 => exact Kd.C_below HR1.out (bw_ HB)); (case side2 => exact HC1.out); rintro e w42 ⟨v297, rfl, ho0, hb⟩; refine ⟨_, rfl, ?_⟩; have HO298 := mk_ (Kd.R_lower (Kd.R_new' ho0 (Kd.R_lt (by (with_reducible repeat (first | apply Kd.R_alloc | apply Kd.R_drewN | apply Kd.R_drew)); exact (Kd.R_mono (Kd.R_far (p := ⟨gb295, 0, none⟩) (Kd.R_types HO286.out BK295.out (by decide)) (fun _ hk => hk.2) (.slice Ao38 t292.length co38)) (fun _ h_ => h_.1))))) (below_size (bw_ HB))); replace HO283 := mk_ (Kd.R_below (by (with_reducible repeat (first | apply Kd.R_alloc | apply Kd.R_drewN | apply Kd.R_drew)); exact (Kd.R_mono (Kd.R_far (p := ⟨gb295, 0, none⟩) (Kd.R_types HO283.out BK295.out (by decide)) (fun _ hk => hk.2) (.slice Ao38 t292.length co38)) (fun _ h_ => h_.1))) hb); replace HO286 := mk_ (Kd.R_elder' (by (with_reducible repeat (first | apply Kd.R_alloc | apply Kd.R_drewN | apply Kd.R_drew)); exact (Kd.R_mono (Kd.R_far (p := ⟨gb295, 0, none⟩) (Kd.R_types HO286.out BK295.out (by decide)) (fun _ hk => hk.2) (.slice Ao38 t292.length co38)) (fun _ h_ => h_.1))) (Kd.R_base ho0) hb); replace HO289 := mk_ (Kd.R_below (by (with_reducible repeat (first | apply Kd.R_alloc | apply Kd.R_drewN | apply Kd.R_drew)); exact (Kd.R_mono (Kd.R_far (p := ⟨gb295, 0, none⟩) (Kd.R_types HO289.out BK295.out (by decide)) (fun _ hk => hk.2) (.slice Ao38 t292.length co38)) (fun _ h_ => h_.1))) hb); replace HO294 := mk_ (Kd.R_below (by (with_reducible repeat (first | apply Kd.R_alloc | apply Kd.R_drewN | apply Kd.R_drew)); exact (Kd.R_mono (Kd.R_far (p := ⟨gb295, 0, none⟩) (Kd.R_types HO294.out BK295.out (by decide)) (fun _ hk => hk.2) (.slice Ao38 t292.length co38)) (fun _ h_ => h_.1))) hb); replace BK278 := mk_ (blk_below (g := gb278) (o := .cells #[.slice A0_0 l0_0.length c0_0] 24 (0, 0)) bf_ hb); replace BK291 := mk_ (blk_below (g := gb291) (o := .cells #[.slice Ao32 t287.length co32] 31 (0, 0)) bf_ hb); replace BK295 := mk_ (blk_below (g := gb295) (o := .cells #[.slice Ao38 t292.length co38] 31 (0, 0)) bu_ hb); replace HB := bs_ HB hb; (try clear hb); (try clear hk); (try clear ho0); obtain ⟨hcz43_0, hfz43_0⟩ := b1_ BK295; obtain ⟨Ao44, co44, eo44⟩ := Kd.R_slice HO298.out; subst eo44) | ((with_reducible refine gate_callee (f := 20) rfl ?_); refine goesL_ (some 42) rfl rfl Try.func20 (by kernel_rfl) rfl #[.agg #[.slice Ao38 t292.length co38], .slice Ao44 t296.length co44] rfl ga_ ?_; (with_reducible refine (impl_DoActs.calls k _ _ t292 _ _ t296 t299 t302 _ ?side1 ?side2 ?side3 ?side4 A19.out).mono ?_); (case side1 => repeat (first | exact (Kd.R_reads' HO294.out).2.2 | (with_reducible refine Kd.C_alloc ?_ _) | (with_reducible refine Kd.C_drewN ?_ _) | (with_reducible refine Kd.C_drew ?_))); (case side2 => exact (Kd.R_reads' HO294.out).2.1); (case side3 => repeat (first | exact (Kd.R_reads' HO298.out).2.2 | (with_reducible refine Kd.C_alloc ?_ _) | (with_reducible refine Kd.C_drewN ?_ _) | (with_reducible refine Kd.C_drew ?_))); (case side4 => exact (Kd.R_reads' HO298.out).2.1); rintro e w45 ⟨v300, rfl, ho0, hb⟩; refine ⟨_, rfl, ?_⟩; have HO301 := mk_ (Kd.R_lower (Kd.R_new' (Kd.R_new' (Kd.R_new' ho0 (Kd.R_lt (rp_ HO283))) (Kd.R_lt (rp_ HO289))) (Kd.R_lt (rp_ HO294))) (below_size (bw_ HB))); replace HO283 := mk_ (Kd.R_elder' (rp_ HO283) (Kd.R_base ho0) hb); replace HO286 := rb_ HO286 hb; replace HO289 := mk_ (Kd.R_elder' (rp_ HO289) (Kd.R_base ho0) hb); replace HO294 := mk_ (Kd.R_elder' (rp_ HO294) (Kd.R_base ho0) hb); replace HO298 := rb_ HO298 hb; replace BK278 := bb_ BK278 hb; replace BK291 := bb_ BK291 hb; replace BK295 := bb_ BK295 hb; replace HB := bs_ HB hb; (try clear hb); (try clear hk); (try clear ho0)) | ((with_reducible refine gate_dst (N := 10) rfl ?_); refine bx_ (N := 10) (cs := #[.slice none 0 0]) (t := 31) ?_; intro gb303 hg w46 hbox hb; have BK303 := mk_ (hbox); have GW303 : Aside0 (w.heap.size ≤ gb303) := bz_ hg; have GE303 := GW303; have NB278_303 := bl_ BK278 hg; have NB303_278 := bg_ BK278 hg; have NB291_303 := bl_ BK291 hg; have NB303_291 := bg_ BK291 hg; have NB295_303 := bl_ BK295 hg; have NB303_295 := bg_ BK295 hg; replace HO283 := rb_ HO283 hb; replace HO286 := rb_ HO286 hb; replace HO289 := rb_ HO289 hb; replace HO294 := rb_ HO294 hb; replace HO298 := rb_ HO298 hb; replace HO301 := rb_ HO301 hb; replace BK278 := bb_ BK278 hb; replace BK291 := bb_ BK291 hb; replace BK295 := bb_ BK295 hb; replace HB := bs_ HB hb; clear hb hbox hg; obtain ⟨Ao47, co47, eo47⟩ := Kd.R_slice HO301.out; subst eo47; have hnb48 := NB303_278.out; have hnc48 := NB278_303.out; have hnb49 := NB303_291.out; have hnc49 := NB291_303.out; have hnb50 := NB303_295.out; have hnc50 := NB295_303.out; obtain ⟨hcz51_0, hfz51_0⟩ := b1_ BK303))
   (try simp only [Act.put, sia_, scz_, scs_])
   go_cut [53] (fun v53 wc => ∃ (kq : Nat) (x53_19 : Bool), v53 = .bool x53_19 ∧ Aside0 (laws_FnExactDoActs.j0 kq l1 t290 t296 t302 x53_19 l0_0 t287 t292 t299 = some r) ∧ Aside0 (kq ≤ k) ∧ Aside0 (Kd.R k35 35 wc w.heap.size (fun _ => True) (.slice Ao44 t296.length co44) t296) ∧ Aside0 (Kd.R k76 76 wc w.heap.size (fun k_ => some k_ ≠ ((.slice Ao38 t292.length co38) : Value).ownBlock ∧ some k_ ≠ ((.slice Ao47 t299.length co47) : Value).ownBlock) (.slice Ao32 t287.length co32) t287) ∧ Aside0 (Kd.R k76 76 wc w.heap.size (fun k_ => some k_ ≠ ((.slice Ao32 t287.length co32) : Value).ownBlock ∧ some k_ ≠ ((.slice Ao47 t299.length co47) : Value).ownBlock) (.slice Ao38 t292.length co38) t292) ∧ Aside0 (Kd.R k76 76 wc w.heap.size (fun k_ => some k_ ≠ ((.slice Ao32 t287.length co32) : Value).ownBlock ∧ some k_ ≠ ((.slice Ao38 t292.length co38) : Value).ownBlock) (.slice Ao47 t299.length co47) t299) ∧ Aside0 (wc.heap[gb278]? = some (.cells #[(.slice A0_0 l0_0.length c0_0)] 24 (0, 0))) ∧ Aside0 (wc.heap[gb291]? = some (.cells #[(.slice Ao32 t287.length co32)] 31 (0, 0))) ∧ Aside0 (wc.heap[gb295]? = some (.cells #[(.slice Ao38 t292.length co38)] 31 (0, 0))) ∧ Aside0 (wc.heap[gb303]? = some (.cells #[(.slice Ao47 t299.length co47)] 31 (0, 0))) ∧ Aside0 (Below w.heap.size w wc))
   case first =>
    have H := HC20.out
    clear HC20
    replace H := Option.bind_eq_some_iff.mp H
    obtain ⟨t304, A520, H⟩ := H
    replace H : (if t304 = true then (laws_FnExactDoActs.j0 k l1 t290 t296 t302 (t302 != t290) l0_0 t287 t292 t299) else (none)) = some r := H
    have A52 := Aside0.mk A520
    clear A520
    by_cases c53 : t304 = true
    ·subst c53
     have H1 : (laws_FnExactDoActs.j0 k l1 t290 t296 t302 (t302 != t290) l0_0 t287 t292 t299) = some r := by rw [if_pos rfl] at H; exact H
     clear H
     have H := H1
     clear H1
     have H' := Aside0.mk H
     clear H
     have hnb54 := NB303_278.out
     have hnc54 := NB278_303.out
     have hnb55 := NB303_291.out
     have hnc55 := NB291_303.out
     have hnb56 := NB303_295.out
     have hnc56 := NB295_303.out
     have hcz57_0 : w46.cell? ⟨gb303, 0, none⟩ = some (.slice none 0 0) := bc_ BK303 0
     have hfz57_0 := blk_frozen BK303.out 0
     have hnb58 := NB291_278.out
     have hnc58 := NB278_291.out
     have hnb59 := NB291_295.out
     have hnc59 := NB295_291.out
     have hcz60_0 : w46.cell? ⟨gb291, 0, none⟩ = some (.slice Ao32 t287.length co32) := bc_ BK291 0
     have hfz60_0 := blk_frozen BK291.out 0
     go_wp2_with (first | ((with_reducible refine gate_callee (f := 14) rfl ?_); refine goesL_ (some 47) rfl rfl Try.func14 (by kernel_rfl) rfl #[.agg #[.slice Ao47 t299.length co47], .agg #[.slice Ao32 t287.length co32]] rfl ga_ ?_; (with_reducible refine (laws_eqDisk.calls k _ _ t299 _ _ t287 true _ ?side1 ?side2 ?side3 ?side4 A52.out).mono ?_); (case side1 => refine (Kd.R_reads' (e := 76) (base := w.heap.size) (ok := fun k_ => (((True ∧ some k_ ≠ (.slice Ao28 t281.length co28 : Value).ownBlock) ∧ some k_ ≠ (.slice Ao32 t287.length co32 : Value).ownBlock) ∧ some k_ ≠ (.slice Ao38 t292.length co38 : Value).ownBlock)) (n := t299.length) (c := co47) ?_).2.2; exact (by (with_reducible repeat (first | apply Kd.R_alloc | apply Kd.R_drewN | apply Kd.R_drew)); exact (Kd.R_mono (Kd.R_far (p := ⟨gb303, 0, none⟩) (Kd.R_types HO301.out BK303.out (by decide)) (fun _ hk => hk.2) (.slice Ao47 t299.length co47)) (fun _ h_ => h_.1)))); (case side2 => exact (Kd.R_reads' HO301.out).2.1); (case side3 => refine (Kd.R_reads' (e := 76) (base := w.heap.size) (ok := fun k_ => (((True ∧ some k_ ≠ (.slice Ao28 t281.length co28 : Value).ownBlock) ∧ some k_ ≠ (.slice Ao38 t292.length co38 : Value).ownBlock) ∧ some k_ ≠ (.slice Ao47 t299.length co47 : Value).ownBlock)) (n := t287.length) (c := co32) ?_).2.2; exact (by (with_reducible repeat (first | apply Kd.R_alloc | apply Kd.R_drewN | apply Kd.R_drew)); exact (Kd.R_mono (Kd.R_far (p := ⟨gb303, 0, none⟩) (Kd.R_types HO289.out BK303.out (by decide)) (fun _ hk => hk.2) (.slice Ao47 t299.length co47)) (fun _ h_ => h_.1)))); (case side4 => exact (Kd.R_reads' HO289.out).2.1); rintro e w61 ⟨rfl, hb⟩; refine ⟨_, rfl, ?_⟩; replace HO283 := mk_ (Kd.R_below (by (with_reducible repeat (first | apply Kd.R_alloc | apply Kd.R_drewN | apply Kd.R_drew)); exact (Kd.R_mono (Kd.R_far (p := ⟨gb303, 0, none⟩) (Kd.R_types HO283.out BK303.out (by decide)) (fun _ hk => hk.2) (.slice Ao47 t299.length co47)) (fun _ h_ => h_.1))) hb); replace HO286 := mk_ (Kd.R_below (by (with_reducible repeat (first | apply Kd.R_alloc | apply Kd.R_drewN | apply Kd.R_drew)); exact (Kd.R_mono (Kd.R_far (p := ⟨gb303, 0, none⟩) (Kd.R_types HO286.out BK303.out (by decide)) (fun _ hk => hk.2) (.slice Ao47 t299.length co47)) (fun _ h_ => h_.1))) hb); replace HO289 := mk_ (Kd.R_below (by (with_reducible repeat (first | apply Kd.R_alloc | apply Kd.R_drewN | apply Kd.R_drew)); exact (Kd.R_mono (Kd.R_far (p := ⟨gb303, 0, none⟩) (Kd.R_types HO289.out BK303.out (by decide)) (fun _ hk => hk.2) (.slice Ao47 t299.length co47)) (fun _ h_ => h_.1))) hb); replace HO294 := mk_ (Kd.R_below (by (with_reducible repeat (first | apply Kd.R_alloc | apply Kd.R_drewN | apply Kd.R_drew)); exact (Kd.R_mono (Kd.R_far (p := ⟨gb303, 0, none⟩) (Kd.R_types HO294.out BK303.out (by decide)) (fun _ hk => hk.2) (.slice Ao47 t299.length co47)) (fun _ h_ => h_.1))) hb); replace HO298 := mk_ (Kd.R_below (by (with_reducible repeat (first | apply Kd.R_alloc | apply Kd.R_drewN | apply Kd.R_drew)); exact (Kd.R_mono (Kd.R_far (p := ⟨gb303, 0, none⟩) (Kd.R_types HO298.out BK303.out (by decide)) (fun _ hk => hk.2) (.slice Ao47 t299.length co47)) (fun _ h_ => h_.1))) hb); replace HO301 := mk_ (Kd.R_below (by (with_reducible repeat (first | apply Kd.R_alloc | apply Kd.R_drewN | apply Kd.R_drew)); exact (Kd.R_mono (Kd.R_far (p := ⟨gb303, 0, none⟩) (Kd.R_types HO301.out BK303.out (by decide)) (fun _ hk => hk.2) (.slice Ao47 t299.length co47)) (fun _ h_ => h_.1))) hb); replace BK278 := mk_ (blk_below (g := gb278) (o := .cells #[.slice A0_0 l0_0.length c0_0] 24 (0, 0)) bf_ hb); replace BK291 := mk_ (blk_below (g := gb291) (o := .cells #[.slice Ao32 t287.length co32] 31 (0, 0)) bf_ hb); replace BK295 := mk_ (blk_below (g := gb295) (o := .cells #[.slice Ao38 t292.length co38] 31 (0, 0)) bf_ hb); replace BK303 := mk_ (blk_below (g := gb303) (o := .cells #[.slice Ao47 t299.length co47] 31 (0, 0)) bu_ hb); replace HB := bs_ HB hb; (try clear hb); (try clear hk)))
     go_meet
     case rel => exact ⟨_, ((t302 != t290)), (by first | rfl | (simp; done) | (simp [*]; done)), H', ⟨by first | omega | exact Nat.le_refl _⟩, ⟨by (with_reducible repeat (first | apply Kd.R_alloc | apply Kd.R_drewN | apply Kd.R_drew)); exact Kd.R_mono HO298.out (fun _ hk => trivial)⟩, ⟨by (with_reducible repeat (first | apply Kd.R_alloc | apply Kd.R_drewN | apply Kd.R_drew)); exact Kd.R_mono HO289.out (fun _ hk => ⟨hk.1.2, hk.2⟩)⟩, ⟨by (with_reducible repeat (first | apply Kd.R_alloc | apply Kd.R_drewN | apply Kd.R_drew)); exact Kd.R_mono HO294.out (fun _ hk => ⟨hk.1.2, hk.2⟩)⟩, ⟨by (with_reducible repeat (first | apply Kd.R_alloc | apply Kd.R_drewN | apply Kd.R_drew)); exact Kd.R_mono HO301.out (fun _ hk => ⟨hk.1.2, hk.2⟩)⟩, ⟨bf_⟩, ⟨bf_⟩, ⟨bf_⟩, ⟨bf_⟩, ⟨bw_ HB⟩⟩
    ·replace c53 := Bool.eq_false_iff.mpr c53
     subst c53
     have H1 : (none) = some r := by rw [if_neg (show ¬ (false = true) by decide)] at H; exact H
     clear H
     have H := H1
     clear H1
     exact absurd H (by simp)
   case rest =>
    clear HC20
    try clear c1
    try clear c2
    try clear p2
    try clear c3
    try clear c4
    try clear c4b0
    try clear c5
    try clear c8
    try clear c9
    try clear c9b0
    try clear c11
    try clear c14
    try clear c17
    try clear c18
    try clear c19
    try clear c20
    try clear c33
    try clear c39
    try clear c40
    try clear c48
    try clear c49
    try clear c50
    try clear c53
    try clear c54
    try clear c55
    try clear c56
    try clear c58
    try clear c59
    try clear hcz11_0
    try clear hcz22_0
    try clear hcz25_0
    try clear hcz34_0
    try clear hcz35_0
    try clear hcz41_0
    try clear hcz43_0
    try clear hcz51_0
    try clear hcz57_0
    try clear hcz60_0
    try clear hcz6_0
    try clear hfz11_0
    try clear hfz22_0
    try clear hfz25_0
    try clear hfz34_0
    try clear hfz35_0
    try clear hfz41_0
    try clear hfz43_0
    try clear hfz51_0
    try clear hfz57_0
    try clear hfz60_0
    try clear hfz6_0
    obtain ⟨kq, x53_19, rfl, HA, HJ19, HO_9, HO_292000, HO_296000, HO_304000, BK278, BK291, BK295, BK303, HB⟩ := hcut
    cases kq with
    | zero => exact absurd HA.out (by simp [laws_FnExactDoActs.j0])
    | succ kj19 =>
     have H := HA.out
     clear HA
     simp only [laws_FnExactDoActs.j0] at H
     by_cases c62 : x53_19 = true
     ·subst c62
      have H1 : (none) = some r := by rw [if_pos rfl] at H; exact H
      clear H
      have H := H1
      clear H1
      exact absurd H (by simp)
     ·replace c62 := Bool.eq_false_iff.mpr c62
      subst c62
      have H1 : ((laws_toDisk.f kj19 l0_0).bind fun t305 => ((laws_eqDisk.f kj19 t292 t305).bind fun t308 => (if t308 = true then ((laws_toActS.f kj19 l1).bind fun t309 => ((laws_eqActS.f kj19 t296 t309).bind fun t312 => (if t312 = true then ((laws_markDisk.f kj19 t292 1).bind fun bt313 => ((laws_markActS.f kj19 t296 bt313.1).bind fun bt315 => (if bt315.1 < 0 then (none) else ((laws_eqDisk.f kj19 t299 t287).bind fun t317 => (if t317 = true then (laws_FnExactDoActs.j1 kj19 l1 t290 (t302 != t290) l0_0 t287 t299) else (none)))))) else (none)))) else (none)))) = some r := by rw [if_neg (show ¬ (false = true) by decide)] at H; exact H
      clear H
      have H := H1
      clear H1
      replace H := Option.bind_eq_some_iff.mp H
      obtain ⟨t305, A630, H⟩ := H
      replace H : ((laws_eqDisk.f kj19 t292 t305).bind fun t308 => (if t308 = true then ((laws_toActS.f kj19 l1).bind fun t309 => ((laws_eqActS.f kj19 t296 t309).bind fun t312 => (if t312 = true then ((laws_markDisk.f kj19 t292 1).bind fun bt313 => ((laws_markActS.f kj19 t296 bt313.1).bind fun bt315 => (if bt315.1 < 0 then (none) else ((laws_eqDisk.f kj19 t299 t287).bind fun t317 => (if t317 = true then (laws_FnExactDoActs.j1 kj19 l1 t290 (t302 != t290) l0_0 t287 t299) else (none)))))) else (none)))) else (none))) = some r := H
      have A63 := Aside0.mk A630
      clear A630
      replace H := Option.bind_eq_some_iff.mp H
      obtain ⟨t308, A640, H⟩ := H
      replace H : (if t308 = true then ((laws_toActS.f kj19 l1).bind fun t309 => ((laws_eqActS.f kj19 t296 t309).bind fun t312 => (if t312 = true then ((laws_markDisk.f kj19 t292 1).bind fun bt313 => ((laws_markActS.f kj19 t296 bt313.1).bind fun bt315 => (if bt315.1 < 0 then (none) else ((laws_eqDisk.f kj19 t299 t287).bind fun t317 => (if t317 = true then (laws_FnExactDoActs.j1 kj19 l1 t290 (t302 != t290) l0_0 t287 t299) else (none)))))) else (none)))) else (none)) = some r := H
      have A64 := Aside0.mk A640
      clear A640
      by_cases c65 : t308 = true
      ·subst c65
       have H1 : ((laws_toActS.f kj19 l1).bind fun t309 => ((laws_eqActS.f kj19 t296 t309).bind fun t312 => (if t312 = true then ((laws_markDisk.f kj19 t292 1).bind fun bt313 => ((laws_markActS.f kj19 t296 bt313.1).bind fun bt315 => (if bt315.1 < 0 then (none) else ((laws_eqDisk.f kj19 t299 t287).bind fun t317 => (if t317 = true then (laws_FnExactDoActs.j1 kj19 l1 t290 (t302 != t290) l0_0 t287 t299) else (none)))))) else (none)))) = some r := by rw [if_pos rfl] at H; exact H
       clear H
       have H := H1
       clear H1
       replace H := Option.bind_eq_some_iff.mp H
       obtain ⟨t309, A660, H⟩ := H
       replace H : ((laws_eqActS.f kj19 t296 t309).bind fun t312 => (if t312 = true then ((laws_markDisk.f kj19 t292 1).bind fun bt313 => ((laws_markActS.f kj19 t296 bt313.1).bind fun bt315 => (if bt315.1 < 0 then (none) else ((laws_eqDisk.f kj19 t299 t287).bind fun t317 => (if t317 = true then (laws_FnExactDoActs.j1 kj19 l1 t290 (t302 != t290) l0_0 t287 t299) else (none)))))) else (none))) = some r := H
       have A66 := Aside0.mk A660
       clear A660
       replace H := Option.bind_eq_some_iff.mp H
       obtain ⟨t312, A670, H⟩ := H
       replace H : (if t312 = true then ((laws_markDisk.f kj19 t292 1).bind fun bt313 => ((laws_markActS.f kj19 t296 bt313.1).bind fun bt315 => (if bt315.1 < 0 then (none) else ((laws_eqDisk.f kj19 t299 t287).bind fun t317 => (if t317 = true then (laws_FnExactDoActs.j1 kj19 l1 t290 (t302 != t290) l0_0 t287 t299) else (none)))))) else (none)) = some r := H
       have A67 := Aside0.mk A670
       clear A670
       by_cases c68 : t312 = true
       ·subst c68
        have H1 : ((laws_markDisk.f kj19 t292 1).bind fun bt313 => ((laws_markActS.f kj19 t296 bt313.1).bind fun bt315 => (if bt315.1 < 0 then (none) else ((laws_eqDisk.f kj19 t299 t287).bind fun t317 => (if t317 = true then (laws_FnExactDoActs.j1 kj19 l1 t290 (t302 != t290) l0_0 t287 t299) else (none)))))) = some r := by rw [if_pos rfl] at H; exact H
        clear H
        have H := H1
        clear H1
        replace H := Option.bind_eq_some_iff.mp H
        obtain ⟨⟨t313, t314⟩, A690, H⟩ := H
        replace H : ((laws_markActS.f kj19 t296 t313).bind fun bt315 => (if bt315.1 < 0 then (none) else ((laws_eqDisk.f kj19 t299 t287).bind fun t317 => (if t317 = true then (laws_FnExactDoActs.j1 kj19 l1 t290 (t302 != t290) l0_0 t287 t299) else (none))))) = some r := H
        have A69 := Aside0.mk A690
        clear A690
        replace H := Option.bind_eq_some_iff.mp H
        obtain ⟨⟨t315, t316⟩, A700, H⟩ := H
        replace H : (if t315 < 0 then (none) else ((laws_eqDisk.f kj19 t299 t287).bind fun t317 => (if t317 = true then (laws_FnExactDoActs.j1 kj19 l1 t290 (t302 != t290) l0_0 t287 t299) else (none)))) = some r := H
        have A70 := Aside0.mk A700
        clear A700
        have HC71 := Aside0.mk H
        clear H
        try go_wp2
        have n0_ := mk_ (Kd.R_drew HO_9.out)
        have n1_ := mk_ (Kd.R_drew HO_292000.out)
        have n2_ := mk_ (Kd.R_drew HO_296000.out)
        have n3_ := mk_ (Kd.R_drew HO_304000.out)
        have n4_ := mk_ (blk_drew BK278.out)
        have n5_ := mk_ (blk_drew BK291.out)
        have n6_ := mk_ (blk_drew BK295.out)
        have n7_ := mk_ (blk_drew BK303.out)
        have n8_ := mk_ (below_drew1 HB.out)
        clear HO_9; clear HO_292000; clear HO_296000; clear HO_304000; clear BK278; clear BK291; clear BK295; clear BK303; clear HB; have HO_9 := n0_; have HO_292000 := n1_; have HO_296000 := n2_; have HO_304000 := n3_; have BK278 := n4_; have BK291 := n5_; have BK295 := n6_; have BK303 := n7_; have HB := n8_; clear n0_ n1_ n2_ n3_ n4_ n5_ n6_ n7_ n8_
        refine start_ (n := 5) (S := fun w' => w'.cell? ⟨gb295, 0, none⟩ = some (.slice Ao38 t292.length co38) ∧ w'.cell? ⟨gb278, 0, none⟩ = some (.slice A0_0 l0_0.length c0_0)) (ds := []) #[false, false, false, false, false] (by kernel_rfl) rfl rfl ⟨bc_ BK295 0, bc_ BK278 0⟩ (fun hHeld => ?_)
        generalize wc.drew = w72 at HO_9 HO_292000 HO_296000 HO_304000 BK278 BK291 BK295 BK303 HB hHeld ⊢
        refine take_ (i := 0) (N := some 54) (v := ?_) (a' := ?_) #[true, false, false, false, false] rfl rfl (by kernel_rfl) (fun _ _ _ h => h) (Or.inl ⟨by rfl, ?_⟩) hHeld ?_ ?_
        rotate_left
        ·rintro w' ⟨s0, s1⟩
         go_simp
         with_reducible rfl
        rotate_left
        ·simp only [Act.put, sia_, scz_, scs_, i64_w, i32_w]
         rfl
        refine take_ (i := 1) (N := some 55) (v := ?_) (a' := ?_) #[true, true, false, false, false] rfl rfl (by kernel_rfl) (fun _ _ _ h => h) (Or.inl ⟨by rfl, ?_⟩) hHeld ?_ ?_
        rotate_left
        ·rintro w' ⟨s0, s1⟩
         go_simp
         with_reducible rfl
        rotate_left
        ·simp only [Act.put, sia_, scz_, scs_, i64_w, i32_w]
         rfl
        refine one_ (i := 2) (N := some 56) #[true, true, true, false, false] rfl rfl (by kernel_rfl) (by decide) (fun K hK => ?_)
        refine goes_ Try.func11 (by kernel_rfl) rfl #[.agg #[.slice A0_0 l0_0.length c0_0]] (by rfl) rfl rfl ga_ ?_
        with_reducible refine (laws_toDisk.calls kj19 _ _ l0_0 t305 _ ?side1 ?side2 A63.out).mono ?_
        (case side1 => repeat (first | exact (Kd.C_below HR0_0.out HB.out) | (with_reducible refine Kd.C_alloc ?_ _) | (with_reducible refine Kd.C_drewN ?_ _) | (with_reducible refine Kd.C_drew ?_)))
        (case side2 => exact HC0_0.out)
        rintro e w73 ⟨v306, rfl, ho0, hb⟩
        refine ⟨_, rfl, ?_⟩
        have n0_ := rb_ HO_9 hb
        have n1_ := mk_ (Kd.R_elder' (rp_ HO_292000) (Kd.R_base ho0) hb)
        have n2_ := mk_ (Kd.R_elder' (rp_ HO_296000) (Kd.R_base ho0) hb)
        have n3_ := mk_ (Kd.R_elder' (rp_ HO_304000) (Kd.R_base ho0) hb)
        have n4_ := mk_ (Kd.R_lower (Kd.R_new' (Kd.R_new' (Kd.R_new' ho0 (Kd.R_lt (rp_ HO_292000))) (Kd.R_lt (rp_ HO_296000))) (Kd.R_lt (rp_ HO_304000))) (below_size (bw_ HB)))
        have n5_ := bb_ BK278 hb; have n6_ := bb_ BK291 hb; have n7_ := bb_ BK295 hb; have n8_ := bb_ BK303 hb
        have n9_ := bs_ HB hb
        clear HO_9; clear HO_292000; clear HO_296000; clear HO_304000; clear BK278; clear BK291; clear BK295; clear BK303; clear HB; have HO_9 := n0_; have HO_292000 := n1_; have HO_296000 := n2_; have HO_304000 := n3_; have HO307 := n4_; have BK278 := n5_; have BK291 := n6_; have BK295 := n7_; have BK303 := n8_; have HB := n9_; clear n0_ n1_ n2_ n3_ n4_ n5_ n6_ n7_ n8_ n9_; (try clear hb); (try clear hb2); (try clear hk); (try clear hi); (try clear ho0)
        obtain ⟨Ao74, co74, eo74⟩ := Kd.R_slice HO307.out
        (first | subst eo74 | (injection eo74 with f1_ f2_ f3_; have f4_ := f1_.symm; have f5_ := f3_.symm; clear f1_ f2_ f3_; subst f4_; subst f5_))
        refine hK.out _ _ ⟨bc_ BK295 0, bc_ BK278 0⟩ (fun hHeld => ?_)
        clear hK K
        refine norm_ (a' := ?_) ?_ ?_
        rotate_left
        ·show Act.put _ (some 56) _ = _
         simp only [Act.put, sia_, scz_, scs_, i64_w, i32_w]
         rfl
        refine one_ (i := 3) (N := some 57) #[true, true, true, true, false] rfl rfl (by kernel_rfl) (by decide) (fun K hK => ?_)
        refine goes_ Try.func14 (by kernel_rfl) rfl #[.agg #[.slice Ao38 t292.length co38], .agg #[.slice Ao74 t305.length co74]] (by rfl) rfl rfl ga_ ?_
        with_reducible refine (laws_eqDisk.calls kj19 _ _ t292 _ _ t305 true _ ?side1 ?side2 ?side3 ?side4 A64.out).mono ?_
        (case side1 => repeat (first | exact (Kd.R_reads' HO_296000.out).2.2 | (with_reducible refine Kd.C_alloc ?_ _) | (with_reducible refine Kd.C_drewN ?_ _) | (with_reducible refine Kd.C_drew ?_)))
        (case side2 => exact (Kd.R_reads' HO_296000.out).2.1)
        (case side3 => repeat (first | exact (Kd.R_reads' HO307.out).2.2 | (with_reducible refine Kd.C_alloc ?_ _) | (with_reducible refine Kd.C_drewN ?_ _) | (with_reducible refine Kd.C_drew ?_)))
        (case side4 => exact (Kd.R_reads' HO307.out).2.1)
        rintro e w75 ⟨rfl, hb⟩
        refine ⟨_, rfl, ?_⟩
        have n0_ := rb_ HO_9 hb
        have n1_ := rb_ HO_292000 hb
        have n2_ := rb_ HO_296000 hb
        have n3_ := rb_ HO_304000 hb
        have n4_ := rb_ HO307 hb
        have n5_ := bb_ BK278 hb; have n6_ := bb_ BK291 hb; have n7_ := bb_ BK295 hb; have n8_ := bb_ BK303 hb
        have n9_ := bs_ HB hb
        clear HO_9; clear HO_292000; clear HO_296000; clear HO_304000; clear HO307; clear BK278; clear BK291; clear BK295; clear BK303; clear HB; have HO_9 := n0_; have HO_292000 := n1_; have HO_296000 := n2_; have HO_304000 := n3_; have HO307 := n4_; have BK278 := n5_; have BK291 := n6_; have BK295 := n7_; have BK303 := n8_; have HB := n9_; clear n0_ n1_ n2_ n3_ n4_ n5_ n6_ n7_ n8_ n9_; (try clear hb); (try clear hb2); (try clear hk); (try clear hi)
        refine hK.out _ _ ⟨bc_ BK295 0, bc_ BK278 0⟩ (fun hHeld => ?_)
        clear hK K
        refine norm_ (a' := ?_) ?_ ?_
        rotate_left
        ·show Act.put _ (some 57) _ = _
         simp only [Act.put, sia_, scz_, scs_, i64_w, i32_w]
         rfl
        refine pure_ (i := 4) (N := some 58) (v := ?_) (a' := ?_) #[true, true, true, true, true] rfl rfl (by kernel_rfl) (fun _ _ _ h => h) (Or.inl ⟨by rfl, ?_⟩) ?_ ?_
        rotate_left
        ·intro w'
         go_simp
         with_reducible rfl
        rotate_left
        ·simp only [Act.put, sia_, scz_, scs_, i64_w, i32_w]
         rfl
        refine done_ (by kernel_rfl) ?_
        go_upto_region 21 with (first | ((with_reducible refine gate_callee (f := 19) rfl ?_); refine goesL_ (some 61) rfl rfl Try.func19 (by kernel_rfl) rfl #[.slice A1 l1.length c1] rfl ga_ ?_; (with_reducible refine (laws_toActS.calls kj19 _ _ l1 t309 _ ?side1 ?side2 A66.out).mono ?_); (case side1 => repeat (first | exact (Kd.C_below HR1.out HB.out) | (with_reducible refine Kd.C_alloc ?_ _) | (with_reducible refine Kd.C_drewN ?_ _) | (with_reducible refine Kd.C_drew ?_))); (case side2 => exact HC1.out); rintro e w76 ⟨v310, rfl, ho0, hb⟩; refine ⟨_, rfl, ?_⟩; have HO311 := mk_ (Kd.R_lower (Kd.R_new' ho0 (Kd.R_lt (rp_ HO_9))) (below_size (bw_ HB))); replace HO_9 := mk_ (Kd.R_elder' (rp_ HO_9) (Kd.R_base ho0) hb); replace HO_292000 := rb_ HO_292000 hb; replace HO_296000 := rb_ HO_296000 hb; replace HO_304000 := rb_ HO_304000 hb; replace HO307 := rb_ HO307 hb; replace BK278 := bb_ BK278 hb; replace BK291 := bb_ BK291 hb; replace BK295 := bb_ BK295 hb; replace BK303 := bb_ BK303 hb; replace HB := bs_ HB hb; (try clear hb); (try clear ho0); obtain ⟨Ao77, co77, eo77⟩ := Kd.R_slice HO311.out; subst eo77) | ((with_reducible refine gate_callee (f := 21) rfl ?_); refine goesL_ (some 62) rfl rfl Try.func21 (by kernel_rfl) rfl #[.slice Ao44 t296.length co44, .slice Ao77 t309.length co77] rfl ga_ ?_; (with_reducible refine (laws_eqActS.calls kj19 _ _ t296 _ _ t309 true _ ?side1 ?side2 ?side3 ?side4 A67.out).mono ?_); (case side1 => repeat (first | exact (Kd.R_reads' HO_9.out).2.2 | (with_reducible refine Kd.C_alloc ?_ _) | (with_reducible refine Kd.C_drewN ?_ _) | (with_reducible refine Kd.C_drew ?_))); (case side2 => exact (Kd.R_reads' HO_9.out).2.1); (case side3 => repeat (first | exact (Kd.R_reads' HO311.out).2.2 | (with_reducible refine Kd.C_alloc ?_ _) | (with_reducible refine Kd.C_drewN ?_ _) | (with_reducible refine Kd.C_drew ?_))); (case side4 => exact (Kd.R_reads' HO311.out).2.1); rintro e w78 ⟨rfl, hb⟩; refine ⟨_, rfl, ?_⟩; replace HO_9 := rb_ HO_9 hb; replace HO_292000 := rb_ HO_292000 hb; replace HO_296000 := rb_ HO_296000 hb; replace HO_304000 := rb_ HO_304000 hb; replace HO307 := rb_ HO307 hb; replace HO311 := rb_ HO311 hb; replace BK278 := bb_ BK278 hb; replace BK291 := bb_ BK291 hb; replace BK295 := bb_ BK295 hb; replace BK303 := bb_ BK303 hb; replace HB := bs_ HB hb; (try clear hb); have hnb79 := NB295_278.out; have hnc79 := NB278_295.out; have hnb80 := NB295_291.out; have hnc80 := NB291_295.out; have hnb81 := NB295_303.out; have hnc81 := NB303_295.out; obtain ⟨hcz82_0, hfz82_0⟩ := b1_ BK295) | ((with_reducible refine gate_callee (f := 15) rfl ?_); refine goesL_ (some 66) rfl rfl Try.func15 (by kernel_rfl) rfl #[.agg #[.slice Ao38 t292.length co38], .int .i64 1] rfl ga_ ?_; (with_reducible refine (laws_markDisk.calls kj19 (fun k_ => some k_ = (.slice Ao38 t292.length co38 : Value).ownBlock) (.slice Ao38 t292.length co38) t292 1 t313 t314 w _ ?side1 ?side2 A69.out).mono ?_); (case side1 => exact bw_ HB); (case side2 => exact Kd.R_tight rfl HO_296000.out); rintro e w83 ⟨rfl, hy0, hb, hkp⟩; refine ⟨_, rfl, ?_⟩; have n0_ := mk_ (Kd.R_mono (ok' := fun k_ => some k_ ≠ (.slice Ao77 t309.length co77 : Value).ownBlock) (Kd.R_keptB ((Kd.R_apart' HO_9.out (Kd.R_typed HO_296000.out) (by decide))) hkp (fun k_ hk_ hs_ => (hk_.2) hs_)) (fun k_ hk_ => hk_.1.1.2)); have n1_ := mk_ (Kd.R_mono (ok' := fun k_ => some k_ ≠ (.slice Ao38 t292.length co38 : Value).ownBlock ∧ some k_ ≠ (.slice Ao47 t299.length co47 : Value).ownBlock ∧ some k_ ≠ (.slice Ao74 t305.length co74 : Value).ownBlock) (Kd.R_keptB (HO_292000.out) hkp (fun k_ hk_ hs_ => (hk_.1.1) hs_)) (fun k_ hk_ => ⟨hk_.1.1.1, hk_.1.1.2, hk_.1.2⟩)); have n2_ := mk_ (Kd.R_reok rfl hy0 (fun k_ e_ => HO_296000.out.1 k_ e_)); have n3_ := mk_ (Kd.R_mono (ok' := fun k_ => some k_ ≠ (.slice Ao32 t287.length co32 : Value).ownBlock ∧ some k_ ≠ (.slice Ao38 t292.length co38 : Value).ownBlock ∧ some k_ ≠ (.slice Ao74 t305.length co74 : Value).ownBlock) (Kd.R_keptB (HO_304000.out) hkp (fun k_ hk_ hs_ => (hk_.1.2) hs_)) (fun k_ hk_ => ⟨hk_.1.1.1, hk_.1.1.2, hk_.1.2⟩)); have n4_ := mk_ (blk_kept (bp_ BK278) hkp (fun hs_ => (fun e_ => (Kd.R_ne HO_296000.out BK278.out (by decide)) e_) hs_)); have n5_ := mk_ (blk_kept (bp_ BK291) hkp (fun hs_ => (fun e_ => (Kd.R_ne HO_296000.out BK291.out (by decide)) e_) hs_)); have n6_ := mk_ (blk_kept (bp_ BK295) hkp (fun hs_ => (fun e_ => (Kd.R_ne HO_296000.out BK295.out (by decide)) e_) hs_)); have n7_ := mk_ (blk_kept (bp_ BK303) hkp (fun hs_ => (fun e_ => (Kd.R_ne HO_296000.out BK303.out (by decide)) e_) hs_)); have n8_ := mk_ (Kd.R_mono (ok' := fun k_ => some k_ ≠ (.slice Ao32 t287.length co32 : Value).ownBlock ∧ some k_ ≠ (.slice Ao38 t292.length co38 : Value).ownBlock ∧ some k_ ≠ (.slice Ao47 t299.length co47 : Value).ownBlock) (Kd.R_keptB (HO307.out) hkp (fun k_ hk_ hs_ => (hk_.1.2) hs_)) (fun k_ hk_ => ⟨hk_.1.1.1.2, hk_.1.1.2, hk_.1.2⟩)); have n9_ := mk_ (Kd.R_mono (ok' := fun k_ => some k_ ≠ (.slice Ao44 t296.length co44 : Value).ownBlock) (Kd.R_keptB ((Kd.R_apart' HO311.out (Kd.R_typed HO_296000.out) (by decide))) hkp (fun k_ hk_ hs_ => (hk_.2) hs_)) (fun k_ hk_ => hk_.1.1.2)); have n10_ := mk_ (hb); clear HO_9; clear HO_292000; clear HO_296000; clear HO_304000; clear BK278; clear BK291; clear BK295; clear BK303; clear HO307; clear HO311; clear HB; have HO_9 := n0_; have HO_292000 := n1_; have HO_296000 := n2_; have HO_304000 := n3_; have BK278 := n4_; have BK291 := n5_; have BK295 := n6_; have BK303 := n7_; have HO307 := n8_; have HO311 := n9_; have HB := n10_; clear n0_ n1_ n2_ n3_ n4_ n5_ n6_ n7_ n8_ n9_ n10_; (try clear hb); (try clear hkp); (try clear hy0)) | ((with_reducible refine gate_callee (f := 22) rfl ?_); refine goesL_ (some 69) rfl rfl Try.func22 (by kernel_rfl) rfl #[.slice Ao44 t296.length co44, .int .i64 t313] rfl ga_ ?_; (with_reducible refine (laws_markActS.calls kj19 (fun k_ => some k_ = (.slice Ao44 t296.length co44 : Value).ownBlock) (.slice Ao44 t296.length co44) t296 t313 t315 t316 w _ ?side1 ?side2 A70.out).mono ?_); (case side1 => exact bw_ HB); (case side2 => exact Kd.R_tight rfl HO_9.out); rintro e w84 ⟨rfl, hy0, hb, hkp⟩; refine ⟨_, rfl, ?_⟩; have n0_ := mk_ (Kd.R_reok rfl hy0 (fun k_ e_ => HO_9.out.1 k_ e_)); have n1_ := mk_ (Kd.R_mono (ok' := fun k_ => some k_ ≠ (.slice Ao38 t292.length co38 : Value).ownBlock ∧ some k_ ≠ (.slice Ao47 t299.length co47 : Value).ownBlock ∧ some k_ ≠ (.slice Ao74 t305.length co74 : Value).ownBlock) (Kd.R_keptB ((Kd.R_apart' HO_292000.out (Kd.R_typed HO_9.out) (by decide))) hkp (fun k_ hk_ hs_ => (hk_.2) hs_)) (fun k_ hk_ => ⟨hk_.1.1.1, hk_.1.1.2.1, hk_.1.1.2.2⟩)); have n2_ := mk_ (Kd.R_mono (ok' := fun k_ => some k_ ≠ (.slice Ao32 t287.length co32 : Value).ownBlock ∧ some k_ ≠ (.slice Ao47 t299.length co47 : Value).ownBlock ∧ some k_ ≠ (.slice Ao74 t305.length co74 : Value).ownBlock) (Kd.R_keptB ((Kd.R_apart' HO_296000.out (Kd.R_typed HO_9.out) (by decide))) hkp (fun k_ hk_ hs_ => (hk_.2) hs_)) (fun k_ hk_ => ⟨hk_.1.1.1.1, hk_.1.1.1.2, hk_.1.1.2⟩)); have n3_ := mk_ (Kd.R_mono (ok' := fun k_ => some k_ ≠ (.slice Ao32 t287.length co32 : Value).ownBlock ∧ some k_ ≠ (.slice Ao38 t292.length co38 : Value).ownBlock ∧ some k_ ≠ (.slice Ao74 t305.length co74 : Value).ownBlock) (Kd.R_keptB ((Kd.R_apart' HO_304000.out (Kd.R_typed HO_9.out) (by decide))) hkp (fun k_ hk_ hs_ => (hk_.2) hs_)) (fun k_ hk_ => ⟨hk_.1.1.1, hk_.1.1.2.1, hk_.1.1.2.2⟩)); have n4_ := mk_ (blk_kept (bp_ BK278) hkp (fun hs_ => (fun e_ => (Kd.R_ne HO_9.out BK278.out (by decide)) e_) hs_)); have n5_ := mk_ (blk_kept (bp_ BK291) hkp (fun hs_ => (fun e_ => (Kd.R_ne HO_9.out BK291.out (by decide)) e_) hs_)); have n6_ := mk_ (blk_kept (bp_ BK295) hkp (fun hs_ => (fun e_ => (Kd.R_ne HO_9.out BK295.out (by decide)) e_) hs_)); have n7_ := mk_ (blk_kept (bp_ BK303) hkp (fun hs_ => (fun e_ => (Kd.R_ne HO_9.out BK303.out (by decide)) e_) hs_)); have n8_ := mk_ (Kd.R_mono (ok' := fun k_ => some k_ ≠ (.slice Ao32 t287.length co32 : Value).ownBlock ∧ some k_ ≠ (.slice Ao38 t292.length co38 : Value).ownBlock ∧ some k_ ≠ (.slice Ao47 t299.length co47 : Value).ownBlock) (Kd.R_keptB ((Kd.R_apart' HO307.out (Kd.R_typed HO_9.out) (by decide))) hkp (fun k_ hk_ hs_ => (hk_.2) hs_)) (fun k_ hk_ => ⟨hk_.1.1.1, hk_.1.1.2.1, hk_.1.1.2.2⟩)); have n9_ := mk_ (Kd.R_mono (ok' := fun k_ => some k_ ≠ (.slice Ao44 t296.length co44 : Value).ownBlock) (Kd.R_keptB (HO311.out) hkp (fun k_ hk_ hs_ => (hk_) hs_)) (fun k_ hk_ => hk_.1)); have n10_ := mk_ (hb); clear HO_9; clear HO_292000; clear HO_296000; clear HO_304000; clear BK278; clear BK291; clear BK295; clear BK303; clear HO307; clear HO311; clear HB; have HO_9 := n0_; have HO_292000 := n1_; have HO_296000 := n2_; have HO_304000 := n3_; have BK278 := n4_; have BK291 := n5_; have BK295 := n6_; have BK303 := n7_; have HO307 := n8_; have HO311 := n9_; have HB := n10_; clear n0_ n1_ n2_ n3_ n4_ n5_ n6_ n7_ n8_ n9_ n10_; (try clear hb); (try clear hkp); (try clear hy0)))
        (try simp only [Act.put, sia_, scz_, scs_])
        go_cut [82] (fun v82 wc => ∃ (kq : Nat) (x82_70 : Bool), v82 = .bool x82_70 ∧ Aside0 (laws_FnExactDoActs.j1 kq l1 t290 x82_70 l0_0 t287 t299 = some r) ∧ Aside0 (kq ≤ kj19) ∧ Aside0 (Kd.R k76 76 wc w.heap.size (fun k_ => some k_ ≠ ((.slice Ao38 t292.length co38) : Value).ownBlock ∧ some k_ ≠ ((.slice Ao47 t299.length co47) : Value).ownBlock) (.slice Ao32 t287.length co32) t287) ∧ Aside0 (Kd.R k76 76 wc w.heap.size (fun k_ => some k_ ≠ ((.slice Ao32 t287.length co32) : Value).ownBlock ∧ some k_ ≠ ((.slice Ao47 t299.length co47) : Value).ownBlock) (.slice Ao38 t292.length co38) t314) ∧ Aside0 (Kd.R k76 76 wc w.heap.size (fun k_ => some k_ ≠ ((.slice Ao32 t287.length co32) : Value).ownBlock ∧ some k_ ≠ ((.slice Ao38 t292.length co38) : Value).ownBlock) (.slice Ao47 t299.length co47) t299) ∧ Aside0 (wc.heap[gb278]? = some (.cells #[(.slice A0_0 l0_0.length c0_0)] 24 (0, 0))) ∧ Aside0 (wc.heap[gb291]? = some (.cells #[(.slice Ao32 t287.length co32)] 31 (0, 0))) ∧ Aside0 (wc.heap[gb295]? = some (.cells #[(.slice Ao38 t292.length co38)] 31 (0, 0))) ∧ Aside0 (wc.heap[gb303]? = some (.cells #[(.slice Ao47 t299.length co47)] 31 (0, 0))) ∧ Aside0 (Below w.heap.size w wc))
        case first =>
         have H := HC71.out
         clear HC71
         by_cases c85 : t315 < 0
         ·rw [if_pos c85] at H
          exact absurd H (by simp)
         ·rw [if_neg c85] at H
          have c85b0 : decide (t315 < 0) = false := decide_eq_false c85
          clear c85
          (first | rw [c85b0] | (simp only [i64_w, i32_w]; rw [c85b0]) | skip)
          replace H := Option.bind_eq_some_iff.mp H
          obtain ⟨t317, A860, H⟩ := H
          replace H : (if t317 = true then (laws_FnExactDoActs.j1 kj19 l1 t290 (t302 != t290) l0_0 t287 t299) else (none)) = some r := H
          have A86 := Aside0.mk A860
          clear A860
          by_cases c87 : t317 = true
          ·subst c87
           have H1 : (laws_FnExactDoActs.j1 kj19 l1 t290 (t302 != t290) l0_0 t287 t299) = some r := by rw [if_pos rfl] at H; exact H
           clear H
           have H := H1
           clear H1
           have H' := Aside0.mk H
           clear H
           have hnb88 := NB303_278.out
           have hnc88 := NB278_303.out
           have hnb89 := NB303_291.out
           have hnc89 := NB291_303.out
           have hnb90 := NB303_295.out
           have hnc90 := NB295_303.out
           have hcz91_0 : w84.cell? ⟨gb303, 0, none⟩ = some (.slice Ao47 t299.length co47) := bc_ BK303 0
           have hfz91_0 := blk_frozen BK303.out 0
           have hnb92 := NB291_278.out
           have hnc92 := NB278_291.out
           have hnb93 := NB291_295.out
           have hnc93 := NB295_291.out
           have hcz94_0 : w84.cell? ⟨gb291, 0, none⟩ = some (.slice Ao32 t287.length co32) := bc_ BK291 0
           have hfz94_0 := blk_frozen BK291.out 0
           go_wp2_with (first | (go_at_call 14; (with_reducible refine (laws_eqDisk.calls kj19 _ _ t299 _ _ t287 true _ ?side1 ?side2 ?side3 ?side4 A86.out).mono ?_); (case side1 => repeat (first | exact (Kd.R_reads' HO_304000.out).2.2 | (with_reducible refine Kd.C_alloc ?_ _) | (with_reducible refine Kd.C_drewN ?_ _) | (with_reducible refine Kd.C_drew ?_))); (case side2 => exact (Kd.R_reads' HO_304000.out).2.1); (case side3 => repeat (first | exact (Kd.R_reads' HO_292000.out).2.2 | (with_reducible refine Kd.C_alloc ?_ _) | (with_reducible refine Kd.C_drewN ?_ _) | (with_reducible refine Kd.C_drew ?_))); (case side4 => exact (Kd.R_reads' HO_292000.out).2.1); rintro e w95 ⟨rfl, hb⟩; replace HO_9 := rb_ HO_9 hb; replace HO_292000 := rb_ HO_292000 hb; replace HO_296000 := rb_ HO_296000 hb; replace HO_304000 := rb_ HO_304000 hb; replace HO307 := rb_ HO307 hb; replace HO311 := rb_ HO311 hb; replace BK278 := bb_ BK278 hb; replace BK291 := bb_ BK291 hb; replace BK295 := bb_ BK295 hb; replace BK303 := bb_ BK303 hb; replace HB := bs_ HB hb; (try clear hb)))
           go_meet
           case rel => exact ⟨_, ((t302 != t290)), (by first | rfl | (simp; done) | (simp [*]; done)), H', ⟨by have := HJ19.out; first | omega | exact Nat.le_refl _⟩, ⟨by (with_reducible repeat (first | apply Kd.R_alloc | apply Kd.R_drewN | apply Kd.R_drew)); exact Kd.R_mono HO_292000.out (fun _ hk => ⟨hk.1, hk.2.1⟩)⟩, ⟨by (with_reducible repeat (first | apply Kd.R_alloc | apply Kd.R_drewN | apply Kd.R_drew)); exact Kd.R_mono HO_296000.out (fun _ hk => ⟨hk.1, hk.2.1⟩)⟩, ⟨by (with_reducible repeat (first | apply Kd.R_alloc | apply Kd.R_drewN | apply Kd.R_drew)); exact Kd.R_mono HO_304000.out (fun _ hk => ⟨hk.1, hk.2.1⟩)⟩, ⟨bf_⟩, ⟨bf_⟩, ⟨bf_⟩, ⟨bf_⟩, ⟨bw_ HB⟩⟩
          ·replace c87 := Bool.eq_false_iff.mpr c87
           subst c87
           have H1 : (none) = some r := by rw [if_neg (show ¬ (false = true) by decide)] at H; exact H
           clear H
           have H := H1
           clear H1
           exact absurd H (by simp)
        case rest =>
         clear HC71
         try clear c1
         try clear c2
         try clear p2
         try clear c3
         try clear c4
         try clear c4b0
         try clear c5
         try clear c6
         try clear c7
         try clear c8
         try clear c9
         try clear c9b0
         try clear c11
         try clear c14
         try clear c15
         try clear c17
         try clear c18
         try clear c19
         try clear c20
         try clear c21
         try clear c22
         try clear c33
         try clear c39
         try clear c40
         try clear c48
         try clear c49
         try clear c50
         try clear c53
         try clear c54
         try clear c55
         try clear c56
         try clear c58
         try clear c59
         try clear c62
         try clear c65
         try clear c68
         try clear c79
         try clear c80
         try clear c81
         try clear c85
         try clear c85b0
         try clear c87
         try clear c88
         try clear c89
         try clear c90
         try clear c92
         try clear c93
         try clear hcz11_0
         try clear hcz22_0
         try clear hcz25_0
         try clear hcz34_0
         try clear hcz35_0
         try clear hcz41_0
         try clear hcz43_0
         try clear hcz51_0
         try clear hcz57_0
         try clear hcz60_0
         try clear hcz6_0
         try clear hcz82_0
         try clear hcz91_0
         try clear hcz94_0
         try clear hfz11_0
         try clear hfz22_0
         try clear hfz25_0
         try clear hfz34_0
         try clear hfz35_0
         try clear hfz41_0
         try clear hfz43_0
         try clear hfz51_0
         try clear hfz57_0
         try clear hfz60_0
         try clear hfz6_0
         try clear hfz82_0
         try clear hfz91_0
         try clear hfz94_0
         try clear p2
         obtain ⟨kq, x82_70, rfl, HA, HJ70, HO_292000, HO_296000, HO_304000, BK278, BK291, BK295, BK303, HB⟩ := hcut
         have hl296000_70 := (Kd.R_reads' HO_296000.out).1
         rw [hl296000_70] at HO_296000
         (try simp only [hl296000_70])
         (try simp only [hl296000_70] at BK278)
         (try simp only [hl296000_70] at BK291)
         (try simp only [hl296000_70] at BK295)
         (try simp only [hl296000_70] at BK303)
         (try simp only [hl296000_70] at HO_292000)
         (try simp only [hl296000_70] at HO_304000)
         cases kq with
         | zero => exact absurd HA.out (by simp [laws_FnExactDoActs.j1])
         | succ kj70 =>
          have H := HA.out
          clear HA
          simp only [laws_FnExactDoActs.j1] at H
          by_cases c96 : x82_70 = true
          ·subst c96
           have H1 : (none) = some r := by rw [if_pos rfl] at H; exact H
           clear H
           have H := H1
           clear H1
           exact absurd H (by simp)
          ·replace c96 := Bool.eq_false_iff.mpr c96
           subst c96
           have H1 : ((laws_markDisk.f kj70 t299 1).bind fun bt318 => ((laws_heldDisk.f kj70 bt318.2 1).bind fun t320 => (if t320 < 0 then (none) else (if t320 = bt318.1 then ((laws_toDisk.f kj70 l0_0).bind fun t321 => ((laws_toActS.f kj70 l1).bind fun t324 => ((impl_DoActs.f kj70 t321 t324).bind fun bt327 => ((laws_eqDisk.f kj70 bt327.1 t287).bind fun t332 => (if t332 = true then (laws_FnExactDoActs.j2 kj70 bt318.1 (bt327.2 != t290) bt318.2) else (none)))))) else (none))))) = some r := by rw [if_neg (show ¬ (false = true) by decide)] at H; exact H
           clear H
           have H := H1
           clear H1
           replace H := Option.bind_eq_some_iff.mp H
           obtain ⟨⟨t318, t319⟩, A970, H⟩ := H
           replace H : ((laws_heldDisk.f kj70 t319 1).bind fun t320 => (if t320 < 0 then (none) else (if t320 = t318 then ((laws_toDisk.f kj70 l0_0).bind fun t321 => ((laws_toActS.f kj70 l1).bind fun t324 => ((impl_DoActs.f kj70 t321 t324).bind fun bt327 => ((laws_eqDisk.f kj70 bt327.1 t287).bind fun t332 => (if t332 = true then (laws_FnExactDoActs.j2 kj70 t318 (bt327.2 != t290) t319) else (none)))))) else (none)))) = some r := H
           have A97 := Aside0.mk A970
           clear A970
           replace H := Option.bind_eq_some_iff.mp H
           obtain ⟨t320, A980, H⟩ := H
           replace H : (if t320 < 0 then (none) else (if t320 = t318 then ((laws_toDisk.f kj70 l0_0).bind fun t321 => ((laws_toActS.f kj70 l1).bind fun t324 => ((impl_DoActs.f kj70 t321 t324).bind fun bt327 => ((laws_eqDisk.f kj70 bt327.1 t287).bind fun t332 => (if t332 = true then (laws_FnExactDoActs.j2 kj70 t318 (bt327.2 != t290) t319) else (none)))))) else (none))) = some r := H
           have A98 := Aside0.mk A980
           clear A980
           by_cases c99 : t320 < 0
           ·rw [if_pos c99] at H
            exact absurd H (by simp)
           ·rw [if_neg c99] at H
            have c99b0 : decide (t320 < 0) = false := decide_eq_false c99
            clear c99
            by_cases c100 : t320 = t318
            ·rw [if_pos c100] at H
             have c100b0 : (t320 == t318) = true := beq_iff_eq.mpr c100
             have c100b1 : (t320 != t318) = false := bne_eq_false_iff_eq.mpr c100
             clear c100
             replace H := Option.bind_eq_some_iff.mp H
             obtain ⟨t321, A1010, H⟩ := H
             replace H : ((laws_toActS.f kj70 l1).bind fun t324 => ((impl_DoActs.f kj70 t321 t324).bind fun bt327 => ((laws_eqDisk.f kj70 bt327.1 t287).bind fun t332 => (if t332 = true then (laws_FnExactDoActs.j2 kj70 t318 (bt327.2 != t290) t319) else (none))))) = some r := H
             have A101 := Aside0.mk A1010
             clear A1010
             replace H := Option.bind_eq_some_iff.mp H
             obtain ⟨t324, A1020, H⟩ := H
             replace H : ((impl_DoActs.f kj70 t321 t324).bind fun bt327 => ((laws_eqDisk.f kj70 bt327.1 t287).bind fun t332 => (if t332 = true then (laws_FnExactDoActs.j2 kj70 t318 (bt327.2 != t290) t319) else (none)))) = some r := H
             have A102 := Aside0.mk A1020
             clear A1020
             replace H := Option.bind_eq_some_iff.mp H
             obtain ⟨⟨t327, t330⟩, A1030, H⟩ := H
             replace H : ((laws_eqDisk.f kj70 t327 t287).bind fun t332 => (if t332 = true then (laws_FnExactDoActs.j2 kj70 t318 (t330 != t290) t319) else (none))) = some r := H
             have A103 := Aside0.mk A1030
             clear A1030
             have HC104 := Aside0.mk H
             clear H
             have hnb105 := NB303_278.out
             have hnc105 := NB278_303.out
             have hnb106 := NB303_291.out
             have hnc106 := NB291_303.out
             have hnb107 := NB303_295.out
             have hnc107 := NB295_303.out
             have hcz108_0 : wc.cell? ⟨gb303, 0, none⟩ = some (.slice Ao47 t299.length co47) := bc_ BK303 0
             have hfz108_0 := blk_frozen BK303.out 0
             go_upto_region 32 with (first | ((with_reducible refine gate_callee (f := 15) rfl ?_); refine goesL_ (some 85) rfl rfl Try.func15 (by kernel_rfl) rfl #[.agg #[.slice Ao47 t299.length co47], .int .i64 1] rfl ga_ ?_; (with_reducible refine (laws_markDisk.calls kj70 (fun k_ => some k_ = (.slice Ao47 t299.length co47 : Value).ownBlock) (.slice Ao47 t299.length co47) t299 1 t318 t319 w _ ?side1 ?side2 A97.out).mono ?_); (case side1 => exact bw_ HB); (case side2 => exact Kd.R_tight rfl HO_304000.out); rintro e w109 ⟨rfl, hy0, hb, hkp⟩; refine ⟨_, rfl, ?_⟩; have n0_ := mk_ (Kd.R_mono (ok' := fun k_ => some k_ ≠ (.slice Ao38 t314.length co38 : Value).ownBlock ∧ some k_ ≠ (.slice Ao47 t299.length co47 : Value).ownBlock) (Kd.R_keptB (HO_292000.out) hkp (fun k_ hk_ hs_ => (hk_.2) hs_)) (fun k_ hk_ => ⟨hk_.1.1, hk_.1.2⟩)); have n1_ := mk_ (Kd.R_mono (ok' := fun k_ => some k_ ≠ (.slice Ao32 t287.length co32 : Value).ownBlock ∧ some k_ ≠ (.slice Ao47 t299.length co47 : Value).ownBlock) (Kd.R_keptB (HO_296000.out) hkp (fun k_ hk_ hs_ => (hk_.2) hs_)) (fun k_ hk_ => ⟨hk_.1.1, hk_.1.2⟩)); have n2_ := mk_ (Kd.R_reok rfl hy0 (fun k_ e_ => HO_304000.out.1 k_ e_)); have n3_ := mk_ (blk_kept (bp_ BK278) hkp (fun hs_ => (fun e_ => (Kd.R_ne HO_304000.out BK278.out (by decide)) e_) hs_)); have n4_ := mk_ (blk_kept (bp_ BK291) hkp (fun hs_ => (fun e_ => (Kd.R_ne HO_304000.out BK291.out (by decide)) e_) hs_)); have n5_ := mk_ (blk_kept (bp_ BK295) hkp (fun hs_ => (fun e_ => (Kd.R_ne HO_304000.out BK295.out (by decide)) e_) hs_)); have n6_ := mk_ (blk_kept (bp_ BK303) hkp (fun hs_ => (fun e_ => (Kd.R_ne HO_304000.out BK303.out (by decide)) e_) hs_)); have n7_ := mk_ (hb); clear HO_292000; clear HO_296000; clear HO_304000; clear BK278; clear BK291; clear BK295; clear BK303; clear HB; have HO_292000 := n0_; have HO_296000 := n1_; have HO_304000 := n2_; have BK278 := n3_; have BK291 := n4_; have BK295 := n5_; have BK303 := n6_; have HB := n7_; clear n0_ n1_ n2_ n3_ n4_ n5_ n6_ n7_; (try clear hb); (try clear hkp); (try clear hy0); obtain ⟨hcz110_0, hfz110_0⟩ := b1_ BK303) | ((with_reducible refine gate_callee (f := 16) rfl ?_); refine goesL_ (some 88) rfl rfl Try.func16 (by kernel_rfl) rfl #[.agg #[.slice Ao47 t319.length co47], .int .i64 1] rfl (by (try simp only [List.map_toArray, List.map_cons, List.map_nil]); first | done | (rw [show t319.length = t299.length from (Kd.R_reads' HO_304000.out).1.symm] <;> rfl) | rfl | (simp only [List.length_drop, List.length_take]; rfl)) ?_; (with_reducible refine (laws_heldDisk.calls kj70 _ _ t319 1 t320 _ ?side1 ?side2 A98.out).mono ?_); (case side1 => repeat (first | exact (Kd.R_reads' HO_304000.out).2.2 | (with_reducible refine Kd.C_alloc ?_ _) | (with_reducible refine Kd.C_drewN ?_ _) | (with_reducible refine Kd.C_drew ?_))); (case side2 => rw [show t319.length = t299.length from (Kd.R_reads' HO_304000.out).1.symm]; exact (Kd.R_reads' HO_304000.out).2.1); rintro e w111 ⟨rfl, hb⟩; refine ⟨_, rfl, ?_⟩; replace HO_292000 := rb_ HO_292000 hb; replace HO_296000 := rb_ HO_296000 hb; replace HO_304000 := rb_ HO_304000 hb; replace BK278 := bb_ BK278 hb; replace BK291 := bb_ BK291 hb; replace BK295 := bb_ BK295 hb; replace BK303 := bb_ BK303 hb; replace HB := bs_ HB hb; (try clear hb); have hnb112 := NB278_291.out; have hnc112 := NB291_278.out; have hnb113 := NB278_295.out; have hnc113 := NB295_278.out; obtain ⟨hcz114_0, hfz114_0⟩ := b1_ BK278) | ((with_reducible refine gate_callee (f := 11) rfl ?_); refine goesL_ (some 96) rfl rfl Try.func11 (by kernel_rfl) rfl #[.agg #[.slice A0_0 l0_0.length c0_0]] rfl ga_ ?_; (with_reducible refine (laws_toDisk.calls kj70 _ _ l0_0 t321 _ ?side1 ?side2 A101.out).mono ?_); (case side1 => repeat (first | exact (Kd.C_below HR0_0.out HB.out) | (with_reducible refine Kd.C_alloc ?_ _) | (with_reducible refine Kd.C_drewN ?_ _) | (with_reducible refine Kd.C_drew ?_))); (case side2 => exact HC0_0.out); rintro e w115 ⟨v322, rfl, ho0, hb⟩; refine ⟨_, rfl, ?_⟩; have HO323 := mk_ (Kd.R_lower (Kd.R_new' (Kd.R_new' (Kd.R_new' ho0 (Kd.R_lt (rp_ HO_292000))) (Kd.R_lt (rp_ HO_296000))) (Kd.R_lt (rp_ HO_304000))) (below_size (bw_ HB))); replace HO_292000 := mk_ (Kd.R_elder' (rp_ HO_292000) (Kd.R_base ho0) hb); replace HO_296000 := mk_ (Kd.R_elder' (rp_ HO_296000) (Kd.R_base ho0) hb); replace HO_304000 := mk_ (Kd.R_elder' (rp_ HO_304000) (Kd.R_base ho0) hb); replace BK278 := bb_ BK278 hb; replace BK291 := bb_ BK291 hb; replace BK295 := bb_ BK295 hb; replace BK303 := bb_ BK303 hb; replace HB := bs_ HB hb; (try clear hb); (try clear ho0)) | ((with_reducible refine gate_callee (f := 19) rfl ?_); refine goesL_ (some 98) rfl rfl Try.func19 (by kernel_rfl) rfl #[.slice A1 l1.length c1] rfl ga_ ?_; (with_reducible refine (laws_toActS.calls kj70 _ _ l1 t324 _ ?side1 ?side2 A102.out).mono ?_); (case side1 => repeat (first | exact (Kd.C_below HR1.out HB.out) | (with_reducible refine Kd.C_alloc ?_ _) | (with_reducible refine Kd.C_drewN ?_ _) | (with_reducible refine Kd.C_drew ?_))); (case side2 => exact HC1.out); rintro e w116 ⟨v325, rfl, ho0, hb⟩; refine ⟨_, rfl, ?_⟩; have HO326 := mk_ (Kd.R_lower ho0 (below_size (bw_ HB))); replace HO_292000 := rb_ HO_292000 hb; replace HO_296000 := rb_ HO_296000 hb; replace HO_304000 := rb_ HO_304000 hb; replace HO323 := rb_ HO323 hb; replace BK278 := bb_ BK278 hb; replace BK291 := bb_ BK291 hb; replace BK295 := bb_ BK295 hb; replace BK303 := bb_ BK303 hb; replace HB := bs_ HB hb; (try clear hb); (try clear ho0); obtain ⟨Ao117, co117, eo117⟩ := Kd.R_slice HO323.out; subst eo117; obtain ⟨Ao118, co118, eo118⟩ := Kd.R_slice HO326.out; subst eo118) | ((with_reducible refine gate_callee (f := 20) rfl ?_); refine goesL_ (some 99) rfl rfl Try.func20 (by kernel_rfl) rfl #[.agg #[.slice Ao117 t321.length co117], .slice Ao118 t324.length co118] rfl ga_ ?_; (with_reducible refine (impl_DoActs.calls kj70 _ _ t321 _ _ t324 t327 t330 _ ?side1 ?side2 ?side3 ?side4 A103.out).mono ?_); (case side1 => repeat (first | exact (Kd.R_reads' HO323.out).2.2 | (with_reducible refine Kd.C_alloc ?_ _) | (with_reducible refine Kd.C_drewN ?_ _) | (with_reducible refine Kd.C_drew ?_))); (case side2 => exact (Kd.R_reads' HO323.out).2.1); (case side3 => repeat (first | exact (Kd.R_reads' HO326.out).2.2 | (with_reducible refine Kd.C_alloc ?_ _) | (with_reducible refine Kd.C_drewN ?_ _) | (with_reducible refine Kd.C_drew ?_))); (case side4 => exact (Kd.R_reads' HO326.out).2.1); rintro e w119 ⟨v328, rfl, ho0, hb⟩; refine ⟨_, rfl, ?_⟩; have HO329 := mk_ (Kd.R_lower (Kd.R_new' (Kd.R_new' (Kd.R_new' (Kd.R_new' ho0 (Kd.R_lt (rp_ HO_292000))) (Kd.R_lt (rp_ HO_296000))) (Kd.R_lt (rp_ HO_304000))) (Kd.R_lt (rp_ HO323))) (below_size (bw_ HB))); replace HO_292000 := mk_ (Kd.R_elder' (rp_ HO_292000) (Kd.R_base ho0) hb); replace HO_296000 := mk_ (Kd.R_elder' (rp_ HO_296000) (Kd.R_base ho0) hb); replace HO_304000 := mk_ (Kd.R_elder' (rp_ HO_304000) (Kd.R_base ho0) hb); replace HO323 := mk_ (Kd.R_elder' (rp_ HO323) (Kd.R_base ho0) hb); replace HO326 := rb_ HO326 hb; replace BK278 := bb_ BK278 hb; replace BK291 := bb_ BK291 hb; replace BK295 := bb_ BK295 hb; replace BK303 := bb_ BK303 hb; replace HB := bs_ HB hb; (try clear hb); (try clear ho0)) | ((with_reducible refine gate_dst (N := 15) rfl ?_); refine bx_ (N := 15) (cs := #[.slice none 0 0]) (t := 31) ?_; intro gb331 hg w120 hbox hb; have BK331 := mk_ (hbox); have GW331 : Aside0 (w.heap.size ≤ gb331) := bz_ hg; have GE331 := GW331; have NB278_331 := bl_ BK278 hg; have NB331_278 := bg_ BK278 hg; have NB291_331 := bl_ BK291 hg; have NB331_291 := bg_ BK291 hg; have NB295_331 := bl_ BK295 hg; have NB331_295 := bg_ BK295 hg; have NB303_331 := bl_ BK303 hg; have NB331_303 := bg_ BK303 hg; replace HO_292000 := rb_ HO_292000 hb; replace HO_296000 := rb_ HO_296000 hb; replace HO_304000 := rb_ HO_304000 hb; replace HO323 := rb_ HO323 hb; replace HO326 := rb_ HO326 hb; replace HO329 := rb_ HO329 hb; replace BK278 := bb_ BK278 hb; replace BK291 := bb_ BK291 hb; replace BK295 := bb_ BK295 hb; replace BK303 := bb_ BK303 hb; replace HB := bs_ HB hb; clear hb hbox hg; obtain ⟨Ao121, co121, eo121⟩ := Kd.R_slice HO329.out; subst eo121; have hnb122 := NB331_278.out; have hnc122 := NB278_331.out; have hnb123 := NB331_291.out; have hnc123 := NB291_331.out; have hnb124 := NB331_295.out; have hnc124 := NB295_331.out; have hnb125 := NB331_303.out; have hnc125 := NB303_331.out; obtain ⟨hcz126_0, hfz126_0⟩ := b1_ BK331))
             (try simp only [Act.put, sia_, scz_, scs_])
             go_cut [110] (fun v110 wc => ∃ (kq : Nat) (x110_103 : Bool), v110 = .bool x110_103 ∧ Aside0 (laws_FnExactDoActs.j2 kq t318 x110_103 t319 = some r) ∧ Aside0 (kq ≤ kj70) ∧ Aside0 (Kd.R k76 76 wc w.heap.size (fun k_ => some k_ ≠ ((.slice Ao38 t314.length co38) : Value).ownBlock ∧ some k_ ≠ ((.slice Ao47 t299.length co47) : Value).ownBlock ∧ some k_ ≠ ((.slice Ao121 t327.length co121) : Value).ownBlock) (.slice Ao32 t287.length co32) t287) ∧ Aside0 (Kd.R k76 76 wc w.heap.size (fun k_ => some k_ ≠ ((.slice Ao32 t287.length co32) : Value).ownBlock ∧ some k_ ≠ ((.slice Ao47 t299.length co47) : Value).ownBlock ∧ some k_ ≠ ((.slice Ao121 t327.length co121) : Value).ownBlock) (.slice Ao38 t314.length co38) t314) ∧ Aside0 (Kd.R k76 76 wc w.heap.size (fun k_ => some k_ ≠ ((.slice Ao32 t287.length co32) : Value).ownBlock ∧ some k_ ≠ ((.slice Ao38 t314.length co38) : Value).ownBlock ∧ some k_ ≠ ((.slice Ao121 t327.length co121) : Value).ownBlock) (.slice Ao47 t299.length co47) t319) ∧ Aside0 (Kd.R k76 76 wc w.heap.size (fun k_ => some k_ ≠ ((.slice Ao32 t287.length co32) : Value).ownBlock ∧ some k_ ≠ ((.slice Ao38 t314.length co38) : Value).ownBlock ∧ some k_ ≠ ((.slice Ao47 t299.length co47) : Value).ownBlock) (.slice Ao121 t327.length co121) t327) ∧ Aside0 (wc.heap[gb278]? = some (.cells #[(.slice A0_0 l0_0.length c0_0)] 24 (0, 0))) ∧ Aside0 (wc.heap[gb291]? = some (.cells #[(.slice Ao32 t287.length co32)] 31 (0, 0))) ∧ Aside0 (wc.heap[gb295]? = some (.cells #[(.slice Ao38 t314.length co38)] 31 (0, 0))) ∧ Aside0 (wc.heap[gb303]? = some (.cells #[(.slice Ao47 t299.length co47)] 31 (0, 0))) ∧ Aside0 (wc.heap[gb331]? = some (.cells #[(.slice Ao121 t327.length co121)] 31 (0, 0))) ∧ Aside0 (Below w.heap.size w wc))
             case first =>
              have H := HC104.out
              clear HC104
              replace H := Option.bind_eq_some_iff.mp H
              obtain ⟨t332, A1270, H⟩ := H
              replace H : (if t332 = true then (laws_FnExactDoActs.j2 kj70 t318 (t330 != t290) t319) else (none)) = some r := H
              have A127 := Aside0.mk A1270
              clear A1270
              by_cases c128 : t332 = true
              ·subst c128
               have H1 : (laws_FnExactDoActs.j2 kj70 t318 (t330 != t290) t319) = some r := by rw [if_pos rfl] at H; exact H
               clear H
               have H := H1
               clear H1
               have H' := Aside0.mk H
               clear H
               have hnb129 := NB331_278.out
               have hnc129 := NB278_331.out
               have hnb130 := NB331_291.out
               have hnc130 := NB291_331.out
               have hnb131 := NB331_295.out
               have hnc131 := NB295_331.out
               have hnb132 := NB331_303.out
               have hnc132 := NB303_331.out
               have hcz133_0 : w120.cell? ⟨gb331, 0, none⟩ = some (.slice none 0 0) := bc_ BK331 0
               have hfz133_0 := blk_frozen BK331.out 0
               have hnb134 := NB291_278.out
               have hnc134 := NB278_291.out
               have hnb135 := NB291_295.out
               have hnc135 := NB295_291.out
               have hnb136 := NB291_303.out
               have hnc136 := NB303_291.out
               have hcz137_0 : w120.cell? ⟨gb291, 0, none⟩ = some (.slice Ao32 t287.length co32) := bc_ BK291 0
               have hfz137_0 := blk_frozen BK291.out 0
               go_wp2_with (first | ((with_reducible refine gate_callee (f := 14) rfl ?_); refine goesL_ (some 104) rfl rfl Try.func14 (by kernel_rfl) rfl #[.agg #[.slice Ao121 t327.length co121], .agg #[.slice Ao32 t287.length co32]] rfl ga_ ?_; (with_reducible refine (laws_eqDisk.calls kj70 _ _ t327 _ _ t287 true _ ?side1 ?side2 ?side3 ?side4 A127.out).mono ?_); (case side1 => refine (Kd.R_reads' (e := 76) (base := w.heap.size) (ok := fun k_ => ((((True ∧ some k_ ≠ (.slice Ao32 t287.length co32 : Value).ownBlock) ∧ some k_ ≠ (.slice Ao38 t314.length co38 : Value).ownBlock) ∧ some k_ ≠ (.slice Ao47 t299.length co47 : Value).ownBlock) ∧ some k_ ≠ (.slice Ao117 t321.length co117 : Value).ownBlock)) (n := t327.length) (c := co121) ?_).2.2; exact (by (with_reducible repeat (first | apply Kd.R_alloc | apply Kd.R_drewN | apply Kd.R_drew)); exact (Kd.R_mono (Kd.R_far (p := ⟨gb331, 0, none⟩) (Kd.R_types HO329.out BK331.out (by decide)) (fun _ hk => hk.2) (.slice Ao121 t327.length co121)) (fun _ h_ => h_.1)))); (case side2 => exact (Kd.R_reads' HO329.out).2.1); (case side3 => refine (Kd.R_reads' (e := 76) (base := w.heap.size) (ok := fun k_ => (((some k_ ≠ (.slice Ao38 t314.length co38 : Value).ownBlock ∧ some k_ ≠ (.slice Ao47 t299.length co47 : Value).ownBlock) ∧ some k_ ≠ (.slice Ao117 t321.length co117 : Value).ownBlock) ∧ some k_ ≠ (.slice Ao121 t327.length co121 : Value).ownBlock)) (n := t287.length) (c := co32) ?_).2.2; exact (by (with_reducible repeat (first | apply Kd.R_alloc | apply Kd.R_drewN | apply Kd.R_drew)); exact (Kd.R_mono (Kd.R_far (p := ⟨gb331, 0, none⟩) (Kd.R_types HO_292000.out BK331.out (by decide)) (fun _ hk => hk.2) (.slice Ao121 t327.length co121)) (fun _ h_ => h_.1)))); (case side4 => exact (Kd.R_reads' HO_292000.out).2.1); rintro e w138 ⟨rfl, hb⟩; refine ⟨_, rfl, ?_⟩; replace HO_292000 := mk_ (Kd.R_below (by (with_reducible repeat (first | apply Kd.R_alloc | apply Kd.R_drewN | apply Kd.R_drew)); exact (Kd.R_mono (Kd.R_far (p := ⟨gb331, 0, none⟩) (Kd.R_types HO_292000.out BK331.out (by decide)) (fun _ hk => hk.2) (.slice Ao121 t327.length co121)) (fun _ h_ => h_.1))) hb); replace HO_296000 := mk_ (Kd.R_below (by (with_reducible repeat (first | apply Kd.R_alloc | apply Kd.R_drewN | apply Kd.R_drew)); exact (Kd.R_mono (Kd.R_far (p := ⟨gb331, 0, none⟩) (Kd.R_types HO_296000.out BK331.out (by decide)) (fun _ hk => hk.2) (.slice Ao121 t327.length co121)) (fun _ h_ => h_.1))) hb); replace HO_304000 := mk_ (Kd.R_below (by (with_reducible repeat (first | apply Kd.R_alloc | apply Kd.R_drewN | apply Kd.R_drew)); exact (Kd.R_mono (Kd.R_far (p := ⟨gb331, 0, none⟩) (Kd.R_types HO_304000.out BK331.out (by decide)) (fun _ hk => hk.2) (.slice Ao121 t327.length co121)) (fun _ h_ => h_.1))) hb); replace HO323 := mk_ (Kd.R_below (by (with_reducible repeat (first | apply Kd.R_alloc | apply Kd.R_drewN | apply Kd.R_drew)); exact (Kd.R_mono (Kd.R_far (p := ⟨gb331, 0, none⟩) (Kd.R_types HO323.out BK331.out (by decide)) (fun _ hk => hk.2) (.slice Ao121 t327.length co121)) (fun _ h_ => h_.1))) hb); replace HO326 := mk_ (Kd.R_below (by (with_reducible repeat (first | apply Kd.R_alloc | apply Kd.R_drewN | apply Kd.R_drew)); exact (Kd.R_mono (Kd.R_far (p := ⟨gb331, 0, none⟩) (Kd.R_types HO326.out BK331.out (by decide)) (fun _ hk => hk.2) (.slice Ao121 t327.length co121)) (fun _ h_ => h_.1))) hb); replace HO329 := mk_ (Kd.R_below (by (with_reducible repeat (first | apply Kd.R_alloc | apply Kd.R_drewN | apply Kd.R_drew)); exact (Kd.R_mono (Kd.R_far (p := ⟨gb331, 0, none⟩) (Kd.R_types HO329.out BK331.out (by decide)) (fun _ hk => hk.2) (.slice Ao121 t327.length co121)) (fun _ h_ => h_.1))) hb); replace BK278 := mk_ (blk_below (g := gb278) (o := .cells #[.slice A0_0 l0_0.length c0_0] 24 (0, 0)) bf_ hb); replace BK291 := mk_ (blk_below (g := gb291) (o := .cells #[.slice Ao32 t287.length co32] 31 (0, 0)) bf_ hb); replace BK295 := mk_ (blk_below (g := gb295) (o := .cells #[.slice Ao38 t314.length co38] 31 (0, 0)) bf_ hb); replace BK303 := mk_ (blk_below (g := gb303) (o := .cells #[.slice Ao47 t299.length co47] 31 (0, 0)) bf_ hb); replace BK331 := mk_ (blk_below (g := gb331) (o := .cells #[.slice Ao121 t327.length co121] 31 (0, 0)) bu_ hb); replace HB := bs_ HB hb; (try clear hb); (try clear hk)))
               go_meet
               case rel => exact ⟨_, ((t330 != t290)), (by first | rfl | (simp; done) | (simp [*]; done)), H', ⟨by have := HJ19.out; have := HJ70.out; first | omega | exact Nat.le_refl _⟩, ⟨by (try simp only [hl296000_70]); (with_reducible repeat (first | apply Kd.R_alloc | apply Kd.R_drewN | apply Kd.R_drew)); exact Kd.R_mono HO_292000.out (fun _ hk => ⟨hk.1.1.1, ⟨hk.1.1.2, hk.2⟩⟩)⟩, ⟨by (try simp only [hl296000_70]); (with_reducible repeat (first | apply Kd.R_alloc | apply Kd.R_drewN | apply Kd.R_drew)); exact Kd.R_mono HO_296000.out (fun _ hk => ⟨hk.1.1.1, ⟨hk.1.1.2, hk.2⟩⟩)⟩, ⟨by (try simp only [hl296000_70]); (with_reducible repeat (first | apply Kd.R_alloc | apply Kd.R_drewN | apply Kd.R_drew)); exact Kd.R_mono HO_304000.out (fun _ hk => ⟨hk.1.1.1, ⟨hk.1.1.2, hk.2⟩⟩)⟩, ⟨by (try simp only [hl296000_70]); (with_reducible repeat (first | apply Kd.R_alloc | apply Kd.R_drewN | apply Kd.R_drew)); exact Kd.R_mono HO329.out (fun _ hk => ⟨hk.1.1.1.2, ⟨hk.1.1.2, hk.1.2⟩⟩)⟩, ⟨by (try simp only [hl296000_70]); (with_reducible repeat (first | refine blk_drewN ?_ _ | refine blk_drew ?_ | refine blk_alloc ?_ _)); exact BK278.out⟩, ⟨by (try simp only [hl296000_70]); (with_reducible repeat (first | refine blk_drewN ?_ _ | refine blk_drew ?_ | refine blk_alloc ?_ _)); exact BK291.out⟩, ⟨by (try simp only [hl296000_70]); (with_reducible repeat (first | refine blk_drewN ?_ _ | refine blk_drew ?_ | refine blk_alloc ?_ _)); exact BK295.out⟩, ⟨by (try simp only [hl296000_70]); (with_reducible repeat (first | refine blk_drewN ?_ _ | refine blk_drew ?_ | refine blk_alloc ?_ _)); exact BK303.out⟩, ⟨by (try simp only [hl296000_70]); (with_reducible repeat (first | refine blk_drewN ?_ _ | refine blk_drew ?_ | refine blk_alloc ?_ _)); exact BK331.out⟩, ⟨bw_ HB⟩⟩
              ·replace c128 := Bool.eq_false_iff.mpr c128
               subst c128
               have H1 : (none) = some r := by rw [if_neg (show ¬ (false = true) by decide)] at H; exact H
               clear H
               have H := H1
               clear H1
               exact absurd H (by simp)
             case rest =>
              clear HC104
              try clear c1
              try clear c2
              try clear p2
              try clear c3
              try clear c4
              try clear c4b0
              try clear c5
              try clear c6
              try clear c7
              try clear c8
              try clear c9
              try clear c9b0
              try clear c10
              try clear c11
              try clear c12
              try clear c13
              try clear c14
              try clear c15
              try clear c16
              try clear c17
              try clear c18
              try clear c19
              try clear c20
              try clear c21
              try clear c22
              try clear c33
              try clear c39
              try clear c40
              try clear c48
              try clear c49
              try clear c50
              try clear c53
              try clear c54
              try clear c55
              try clear c56
              try clear c58
              try clear c59
              try clear c62
              try clear c65
              try clear c68
              try clear c79
              try clear c80
              try clear c81
              try clear c85
              try clear c85b0
              try clear c87
              try clear c88
              try clear c89
              try clear c90
              try clear c92
              try clear c93
              try clear c96
              try clear c99
              try clear c99b0
              try clear c100
              try clear c100b0
              try clear c100b1
              try clear c105
              try clear c106
              try clear c107
              try clear c112
              try clear c113
              try clear c122
              try clear c123
              try clear c124
              try clear c125
              try clear c128
              try clear c129
              try clear c130
              try clear c131
              try clear c132
              try clear c134
              try clear c135
              try clear c136
              try clear hcz108_0
              try clear hcz110_0
              try clear hcz114_0
              try clear hcz11_0
              try clear hcz126_0
              try clear hcz133_0
              try clear hcz137_0
              try clear hcz22_0
              try clear hcz25_0
              try clear hcz34_0
              try clear hcz35_0
              try clear hcz41_0
              try clear hcz43_0
              try clear hcz51_0
              try clear hcz57_0
              try clear hcz60_0
              try clear hcz6_0
              try clear hcz82_0
              try clear hcz91_0
              try clear hcz94_0
              try clear hfz108_0
              try clear hfz110_0
              try clear hfz114_0
              try clear hfz11_0
              try clear hfz126_0
              try clear hfz133_0
              try clear hfz137_0
              try clear hfz22_0
              try clear hfz25_0
              try clear hfz34_0
              try clear hfz35_0
              try clear hfz41_0
              try clear hfz43_0
              try clear hfz51_0
              try clear hfz57_0
              try clear hfz60_0
              try clear hfz6_0
              try clear hfz82_0
              try clear hfz91_0
              try clear hfz94_0
              try clear p2
              obtain ⟨kq, x110_103, rfl, HA, HJ103, HO_292000, HO_296000, HO_304000, HO_332000, BK278, BK291, BK295, BK303, BK331, HB⟩ := hcut
              have hl304000_103 := (Kd.R_reads' HO_304000.out).1
              rw [hl304000_103] at HO_304000
              (try simp only [hl304000_103])
              (try simp only [hl304000_103] at BK278)
              (try simp only [hl304000_103] at BK291)
              (try simp only [hl304000_103] at BK295)
              (try simp only [hl304000_103] at BK303)
              (try simp only [hl304000_103] at BK331)
              (try simp only [hl304000_103] at HO_292000)
              (try simp only [hl304000_103] at HO_296000)
              (try simp only [hl304000_103] at HO_332000)
              cases kq with
              | zero => exact absurd HA.out (by simp [laws_FnExactDoActs.j2])
              | succ kj103 =>
               have H := HA.out
               clear HA
               simp only [laws_FnExactDoActs.j2] at H
               by_cases c139 : x110_103 = true
               ·subst c139
                have H1 : (none) = some r := by rw [if_pos rfl] at H; exact H
                clear H
                have H := H1
                clear H1
                exact absurd H (by simp)
               ·replace c139 := Bool.eq_false_iff.mpr c139
                subst c139
                have H1 : ((laws_heldDisk.f kj103 t319 1).bind fun t333 => (if t333 < 0 then (none) else (if t333 = t318 then (some true) else (none)))) = some r := by rw [if_neg (show ¬ (false = true) by decide)] at H; exact H
                clear H
                have H := H1
                clear H1
                replace H := Option.bind_eq_some_iff.mp H
                obtain ⟨t333, A1400, H⟩ := H
                replace H : (if t333 < 0 then (none) else (if t333 = t318 then (some true) else (none))) = some r := H
                have A140 := Aside0.mk A1400
                clear A1400
                by_cases c141 : t333 < 0
                ·rw [if_pos c141] at H
                 exact absurd H (by simp)
                ·rw [if_neg c141] at H
                 have c141b0 : decide (t333 < 0) = false := decide_eq_false c141
                 clear c141
                 by_cases c142 : t333 = t318
                 ·rw [if_pos c142] at H
                  have c142b0 : (t333 == t318) = true := beq_iff_eq.mpr c142
                  have c142b1 : (t333 != t318) = false := bne_eq_false_iff_eq.mpr c142
                  clear c142
                  obtain rfl := Option.some.inj H
                  have hnb143 := NB303_278.out
                  have hnc143 := NB278_303.out
                  have hnb144 := NB303_291.out
                  have hnc144 := NB291_303.out
                  have hnb145 := NB303_295.out
                  have hnc145 := NB295_303.out
                  have hnb146 := NB303_331.out
                  have hnc146 := NB331_303.out
                  have hcz147_0 : wc.cell? ⟨gb303, 0, none⟩ = some (.slice Ao47 t319.length co47) := bc_ BK303 0
                  have hfz147_0 := blk_frozen BK303.out 0
                  go_wp2_with (first | ((with_reducible refine gate_callee (f := 16) rfl ?_); refine goesL_ (some 113) rfl rfl Try.func16 (by kernel_rfl) rfl #[.agg #[.slice Ao47 t319.length co47], .int .i64 1] rfl ga_ ?_; (with_reducible refine (laws_heldDisk.calls kj103 _ _ t319 1 t333 _ ?side1 ?side2 A140.out).mono ?_); (case side1 => repeat (first | exact (Kd.R_reads' HO_304000.out).2.2 | (with_reducible refine Kd.C_alloc ?_ _) | (with_reducible refine Kd.C_drewN ?_ _) | (with_reducible refine Kd.C_drew ?_))); (case side2 => exact (Kd.R_reads' HO_304000.out).2.1); rintro e w148 ⟨rfl, hb⟩; refine ⟨_, rfl, ?_⟩; replace HO_292000 := rb_ HO_292000 hb; replace HO_296000 := rb_ HO_296000 hb; replace HO_304000 := rb_ HO_304000 hb; replace HO_332000 := rb_ HO_332000 hb; replace BK278 := bb_ BK278 hb; replace BK291 := bb_ BK291 hb; replace BK295 := bb_ BK295 hb; replace BK303 := bb_ BK303 hb; replace BK331 := bb_ BK331 hb; replace HB := bs_ HB hb; (try clear hb)))
                  go_ret
                  exact ⟨er_, bw_ HB⟩
                 ·rw [if_neg c142] at H
                  exact absurd H (by simp)
            ·rw [if_neg c100] at H
             exact absurd H (by simp)
       ·replace c68 := Bool.eq_false_iff.mpr c68
        subst c68
        have H1 : (none) = some r := by rw [if_neg (show ¬ (false = true) by decide)] at H; exact H
        clear H
        have H := H1
        clear H1
        exact absurd H (by simp)
      ·replace c65 := Bool.eq_false_iff.mpr c65
       subst c65
       have H1 : (none) = some r := by rw [if_neg (show ¬ (false = true) by decide)] at H; exact H
       clear H
       have H := H1
       clear H1
       exact absurd H (by simp)

end Go.Proofs.Ythbaoefbccdioaa.QFnExactDoActs
