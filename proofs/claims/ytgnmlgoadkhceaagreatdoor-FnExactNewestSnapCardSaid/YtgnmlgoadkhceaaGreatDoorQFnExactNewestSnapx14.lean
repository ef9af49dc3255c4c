/- Written by this session's own program (wip/tpl/pp.py): what the law's functions come to, and that the machine's calls do just that. -/
import Derived.Test.YtgnmlgoadkhceaaGreatDoorQFnExactNewestSnapx0
import Derived.Test.YtgnmlgoadkhceaaGreatDoorQFnExactNewestSnapx1
import Derived.Test.YtgnmlgoadkhceaaGreatDoorQFnExactNewestSnapx2
import Derived.Test.YtgnmlgoadkhceaaGreatDoorQFnExactNewestSnapx8
import Derived.Test.YtgnmlgoadkhceaaGreatDoorQFnExactNewestSnapx12
import Derived.Test.YtgnmlgoadkhceaaGreatDoorQFnExactNewestSnapx13
namespace Go.Proofs.YtgnmlgoadkhceaaGreatDoor.QFnExactNewestSnap
open Go.RowKit Go.Proofs.YtgnmlgoadkhceaaGreatDoorW.PrintWords Go.Proofs.YtgnmlgoadkhceaaGreatDoorW.PrintLast Go.Proofs.YtgnmlgoadkhceaaGreatDoorW.PrintMore
attribute [local go_sem] Go.Proofs.YtgnmlgoadkhceaaGreatDoor.Sem.string_geq Go.Proofs.YtgnmlgoadkhceaaGreatDoor.Sem.string_leq Go.Proofs.YtgnmlgoadkhceaaGreatDoor.Sem.string_gtr
attribute [local go_sem] max2_int min2_int max_two min_two max_three min_three max_four min_four   -- for this text's walks alone
set_option linter.unusedVariables false
set_option linter.unusedSimpArgs false

/-! ### laws_FnExactNewestSnap: function 4 -/
mutual
def laws_FnExactNewestSnap.j0 : Nat → Bool → Bool → Bool → List (S82) → Int → Int → List Int → ByteArray → List (S57) → Int → Int → List Int → ByteArray → Option (Bool)
 | 0, _, _, _, _, _, _, _, _, _, _, _, _, _ => none
 | k + 1, x5, x8, x40, x400000, x412000, x412001, x412002, x412003, x416000, x424000, x424001, x424002, x424003 => if x40 = true then (none) else ((laws_toDisk.f k x400000).bind fun t425 => ((laws_eqDisk.f k x416000 t425).bind fun t428 => (if t428 = true then ((laws_markDisk.f k x416000 1).bind fun bt429 => (if bt429.1 < 0 then (none) else ((laws_eqSnap.f k x424000 x424001 x424002 x424003 x412000 x412001 x412002 x412003).bind fun t431 => (if t431 = true then (laws_FnExactNewestSnap.j1 k x5 (x8 != x5) x400000 x412000 x412001 x412002 x412003 x424000 x424001 x424002 x424003) else (none))))) else (none))))
def laws_FnExactNewestSnap.j1 : Nat → Bool → Bool → List (S82) → Int → Int → List Int → ByteArray → Int → Int → List Int → ByteArray → Option (Bool)
 | 0, _, _, _, _, _, _, _, _, _, _, _ => none
 | k + 1, x5, x61, x400000, x412000, x412001, x412002, x412003, x424000, x424001, x424002, x424003 => if x61 = true then (none) else ((laws_markSnap.f k x424000 x424001 x424002 x424003 1).bind fun bt432 => ((laws_heldSnap.f k x424000 x424001 bt432.2 x424003 1).bind fun t434 => (if t434 < 0 then (none) else (if t434 = bt432.1 then ((laws_toDisk.f k x400000).bind fun t435 => ((impl_NewestSnap.f k t435).bind fun bt438 => ((laws_eqSnap.f k bt438.1 bt438.2.1 bt438.2.2.1 bt438.2.2.2.1 x412000 x412001 x412002 x412003).bind fun t446 => (if t446 = true then (laws_FnExactNewestSnap.j2 k bt432.1 (bt438.2.2.2.2 != x5) x424000 x424001 bt432.2 x424003) else (none))))) else (none)))))
def laws_FnExactNewestSnap.j2 : Nat → Int → Bool → Int → Int → List Int → ByteArray → Option (Bool)
 | 0, _, _, _, _, _, _ => none
 | k + 1, x10, x87, x424000, x424001, x424002, x424003 => if x87 = true then (none) else ((laws_heldSnap.f k x424000 x424001 x424002 x424003 1).bind fun t447 => (if t447 < 0 then (none) else (if t447 = x10 then (some true) else (none))))
end
def laws_FnExactNewestSnap.f (k : Nat) (l0_0 : List (S82)) : Option (Bool) := (laws_szDisk.f k l0_0 1048576).bind fun t400 => (if t400 < 0 then (some true) else ((laws_toDisk.f k l0_0).bind fun t401 => ((spec_NewestSnap.f k t401).bind fun bt404 => ((laws_toDisk.f k l0_0).bind fun t412 => ((impl_NewestSnap.f k t412).bind fun bt416 => ((laws_eqSnap.f k bt416.1 bt416.2.1 bt416.2.2.1 bt416.2.2.2.1 bt404.1 bt404.2.1 bt404.2.2.1 bt404.2.2.2.1).bind fun t424 => (if t424 = true then (laws_FnExactNewestSnap.j0 k bt404.2.2.2.2 bt416.2.2.2.2 (bt416.2.2.2.2 != bt404.2.2.2.2) l0_0 bt404.1 bt404.2.1 bt404.2.2.1 bt404.2.2.2.1 t412 bt416.1 bt416.2.1 bt416.2.2.1 bt416.2.2.2.1) else (none))))))))
theorem laws_FnExactNewestSnap.mono_l : ∀ k, (∀ y0 y1 y2 y3 y4 y5 y6 y7 y8 y9 y10 y11 y12, LeO (laws_FnExactNewestSnap.j0 k y0 y1 y2 y3 y4 y5 y6 y7 y8 y9 y10 y11 y12) (laws_FnExactNewestSnap.j0 (k + 1) y0 y1 y2 y3 y4 y5 y6 y7 y8 y9 y10 y11 y12)) ∧ (∀ y0 y1 y2 y3 y4 y5 y6 y7 y8 y9 y10, LeO (laws_FnExactNewestSnap.j1 k y0 y1 y2 y3 y4 y5 y6 y7 y8 y9 y10) (laws_FnExactNewestSnap.j1 (k + 1) y0 y1 y2 y3 y4 y5 y6 y7 y8 y9 y10)) ∧ (∀ y0 y1 y2 y3 y4 y5, LeO (laws_FnExactNewestSnap.j2 k y0 y1 y2 y3 y4 y5) (laws_FnExactNewestSnap.j2 (k + 1) y0 y1 y2 y3 y4 y5))
 | 0 => ⟨fun _ _ _ _ _ _ _ _ _ _ _ _ _ r h => by simp [laws_FnExactNewestSnap.j0] at h, fun _ _ _ _ _ _ _ _ _ _ _ r h => by simp [laws_FnExactNewestSnap.j1] at h, fun _ _ _ _ _ _ r h => by simp [laws_FnExactNewestSnap.j2] at h⟩
 | k + 1 => by
  obtain ⟨ih0, ih1, ih2⟩ := laws_FnExactNewestSnap.mono_l k
  refine ⟨?_, ?_, ?_⟩
  ·intro y0 y1 y2 y3 y4 y5 y6 y7 y8 y9 y10 y11 y12
   unfold laws_FnExactNewestSnap.j0
   repeat' first
   | (with_reducible exact ih0 _ _ _ _ _ _ _ _ _ _ _ _ _)
   | (with_reducible exact ih1 _ _ _ _ _ _ _ _ _ _ _)
   | (with_reducible exact ih2 _ _ _ _ _ _)
   | (with_reducible exact impl_NewestSnap.mono _ _)
   | (with_reducible exact laws_eqDisk.mono _ _ _)
   | (with_reducible exact laws_eqSnap.mono _ _ _ _ _ _ _ _ _)
   | (with_reducible exact laws_heldSnap.mono _ _ _ _ _ _)
   | (with_reducible exact laws_markDisk.mono _ _ _)
   | (with_reducible exact laws_markSnap.mono _ _ _ _ _ _)
   | (with_reducible exact laws_szDisk.mono _ _ _)
   | (with_reducible exact laws_toDisk.mono _ _)
   | (with_reducible exact spec_NewestSnap.mono _ _)
   | (with_reducible exact LeO.refl _)
   | (with_reducible exact LeO.none _)
   | (with_reducible refine LeO.ite ?_ ?_)
   | (with_reducible refine LeO.bind ?_ (fun _ => ?_))
   | exact ih0 _ _ _ _ _ _ _ _ _ _ _ _ _
   | exact ih1 _ _ _ _ _ _ _ _ _ _ _
   | exact ih2 _ _ _ _ _ _
   | exact impl_NewestSnap.mono _ _
   | exact laws_eqDisk.mono _ _ _
   | exact laws_eqSnap.mono _ _ _ _ _ _ _ _ _
   | exact laws_heldSnap.mono _ _ _ _ _ _
   | exact laws_markDisk.mono _ _ _
   | exact laws_markSnap.mono _ _ _ _ _ _
   | exact laws_szDisk.mono _ _ _
   | exact laws_toDisk.mono _ _
   | exact spec_NewestSnap.mono _ _
   | exact LeO.none _
   | refine LeO.ite ?_ ?_
   | refine LeO.bind ?_ (fun _ => ?_)
  ·intro y0 y1 y2 y3 y4 y5 y6 y7 y8 y9 y10
   unfold laws_FnExactNewestSnap.j1
   repeat' first
   | (with_reducible exact ih0 _ _ _ _ _ _ _ _ _ _ _ _ _)
   | (with_reducible exact ih1 _ _ _ _ _ _ _ _ _ _ _)
   | (with_reducible exact ih2 _ _ _ _ _ _)
   | (with_reducible exact impl_NewestSnap.mono _ _)
   | (with_reducible exact laws_eqDisk.mono _ _ _)
   | (with_reducible exact laws_eqSnap.mono _ _ _ _ _ _ _ _ _)
   | (with_reducible exact laws_heldSnap.mono _ _ _ _ _ _)
   | (with_reducible exact laws_markDisk.mono _ _ _)
   | (with_reducible exact laws_markSnap.mono _ _ _ _ _ _)
   | (with_reducible exact laws_szDisk.mono _ _ _)
   | (with_reducible exact laws_toDisk.mono _ _)
   | (with_reducible exact spec_NewestSnap.mono _ _)
   | (with_reducible exact LeO.refl _)
   | (with_reducible exact LeO.none _)
   | (with_reducible refine LeO.ite ?_ ?_)
   | (with_reducible refine LeO.bind ?_ (fun _ => ?_))
   | exact ih0 _ _ _ _ _ _ _ _ _ _ _ _ _
   | exact ih1 _ _ _ _ _ _ _ _ _ _ _
   | exact ih2 _ _ _ _ _ _
   | exact impl_NewestSnap.mono _ _
   | exact laws_eqDisk.mono _ _ _
   | exact laws_eqSnap.mono _ _ _ _ _ _ _ _ _
   | exact laws_heldSnap.mono _ _ _ _ _ _
   | exact laws_markDisk.mono _ _ _
   | exact laws_markSnap.mono _ _ _ _ _ _
   | exact laws_szDisk.mono _ _ _
   | exact laws_toDisk.mono _ _
   | exact spec_NewestSnap.mono _ _
   | exact LeO.none _
   | refine LeO.ite ?_ ?_
   | refine LeO.bind ?_ (fun _ => ?_)
  ·intro y0 y1 y2 y3 y4 y5
   unfold laws_FnExactNewestSnap.j2
   repeat' first
   | (with_reducible exact ih0 _ _ _ _ _ _ _ _ _ _ _ _ _)
   | (with_reducible exact ih1 _ _ _ _ _ _ _ _ _ _ _)
   | (with_reducible exact ih2 _ _ _ _ _ _)
   | (with_reducible exact impl_NewestSnap.mono _ _)
   | (with_reducible exact laws_eqDisk.mono _ _ _)
   | (with_reducible exact laws_eqSnap.mono _ _ _ _ _ _ _ _ _)
   | (with_reducible exact laws_heldSnap.mono _ _ _ _ _ _)
   | (with_reducible exact laws_markDisk.mono _ _ _)
   | (with_reducible exact laws_markSnap.mono _ _ _ _ _ _)
   | (with_reducible exact laws_szDisk.mono _ _ _)
   | (with_reducible exact laws_toDisk.mono _ _)
   | (with_reducible exact spec_NewestSnap.mono _ _)
   | (with_reducible exact LeO.refl _)
   | (with_reducible exact LeO.none _)
   | (with_reducible refine LeO.ite ?_ ?_)
   | (with_reducible refine LeO.bind ?_ (fun _ => ?_))
   | exact ih0 _ _ _ _ _ _ _ _ _ _ _ _ _
   | exact ih1 _ _ _ _ _ _ _ _ _ _ _
   | exact ih2 _ _ _ _ _ _
   | exact impl_NewestSnap.mono _ _
   | exact laws_eqDisk.mono _ _ _
   | exact laws_eqSnap.mono _ _ _ _ _ _ _ _ _
   | exact laws_heldSnap.mono _ _ _ _ _ _
   | exact laws_markDisk.mono _ _ _
   | exact laws_markSnap.mono _ _ _ _ _ _
   | exact laws_szDisk.mono _ _ _
   | exact laws_toDisk.mono _ _
   | exact spec_NewestSnap.mono _ _
   | exact LeO.none _
   | refine LeO.ite ?_ ?_
   | refine LeO.bind ?_ (fun _ => ?_)
theorem laws_FnExactNewestSnap.mono : ∀ a0 k, LeO (laws_FnExactNewestSnap.f k a0) (laws_FnExactNewestSnap.f (k + 1) a0) := by
 intro a0 k
 obtain ⟨ih0, ih1, ih2⟩ := laws_FnExactNewestSnap.mono_l k
 unfold laws_FnExactNewestSnap.f
 repeat' first
   | (with_reducible exact ih0 _ _ _ _ _ _ _ _ _ _ _ _ _)
   | (with_reducible exact ih1 _ _ _ _ _ _ _ _ _ _ _)
   | (with_reducible exact ih2 _ _ _ _ _ _)
   | (with_reducible exact impl_NewestSnap.mono _ _)
   | (with_reducible exact laws_eqDisk.mono _ _ _)
   | (with_reducible exact laws_eqSnap.mono _ _ _ _ _ _ _ _ _)
   | (with_reducible exact laws_heldSnap.mono _ _ _ _ _ _)
   | (with_reducible exact laws_markDisk.mono _ _ _)
   | (with_reducible exact laws_markSnap.mono _ _ _ _ _ _)
   | (with_reducible exact laws_szDisk.mono _ _ _)
   | (with_reducible exact laws_toDisk.mono _ _)
   | (with_reducible exact spec_NewestSnap.mono _ _)
   | (with_reducible exact LeO.refl _)
   | (with_reducible exact LeO.none _)
   | (with_reducible refine LeO.ite ?_ ?_)
   | (with_reducible refine LeO.bind ?_ (fun _ => ?_))
   | exact ih0 _ _ _ _ _ _ _ _ _ _ _ _ _
   | exact ih1 _ _ _ _ _ _ _ _ _ _ _
   | exact ih2 _ _ _ _ _ _
   | exact impl_NewestSnap.mono _ _
   | exact laws_eqDisk.mono _ _ _
   | exact laws_eqSnap.mono _ _ _ _ _ _ _ _ _
   | exact laws_heldSnap.mono _ _ _ _ _ _
   | exact laws_markDisk.mono _ _ _
   | exact laws_markSnap.mono _ _ _ _ _ _
   | exact laws_szDisk.mono _ _ _
   | exact laws_toDisk.mono _ _
   | exact spec_NewestSnap.mono _ _
   | exact LeO.none _
   | refine LeO.ite ?_ ?_
   | refine LeO.bind ?_ (fun _ => ?_)
set_option maxHeartbeats 8000000 in
set_option maxRecDepth 100000 in
theorem laws_FnExactNewestSnap.calls (k : Nat) (A0_0 : Option Addr) (c0_0 : Nat) (l0_0 : List (S82)) (r : Bool) (w : World) (hT : Tab2 w) (hr0_0 : Kd.C k82 w A0_0 l0_0.length l0_0) (hc0_0 : l0_0.length ≤ c0_0) (h : laws_FnExactNewestSnap.f k l0_0 = some r) :
  Calls Tryz.prog 4 #[.agg #[.slice A0_0 l0_0.length c0_0]] w fun e w' => e = .returned (.bool r) ∧ Below w.heap.size w w' := by
 have hu24 := Tryz.underlying24
 have hu47 := Tryz.underlying47
 have hu36 := Tryz.underlying36
 have HR0_0 := Aside0.mk hr0_0
 have HC0_0 := Aside0.mk hc0_0
 clear hr0_0 hc0_0
 have HT := Aside0.mk hT
 clear hT
 have HB := mk_ (Below.refl w.heap.size w)
 have H : ((laws_szDisk.f k l0_0 1048576).bind fun t400 => (if t400 < 0 then (some true) else ((laws_toDisk.f k l0_0).bind fun t401 => ((spec_NewestSnap.f k t401).bind fun bt404 => ((laws_toDisk.f k l0_0).bind fun t412 => ((impl_NewestSnap.f k t412).bind fun bt416 => ((laws_eqSnap.f k bt416.1 bt416.2.1 bt416.2.2.1 bt416.2.2.2.1 bt404.1 bt404.2.1 bt404.2.2.1 bt404.2.2.2.1).bind fun t424 => (if t424 = true then (laws_FnExactNewestSnap.j0 k bt404.2.2.2.2 bt416.2.2.2.2 (bt416.2.2.2.2 != bt404.2.2.2.2) l0_0 bt404.1 bt404.2.1 bt404.2.2.1 bt404.2.2.2.1 t412 bt416.1 bt416.2.1 bt416.2.2.1 bt416.2.2.2.1) else (none))))))))) = some r := h
 clear h
 replace H := Option.bind_eq_some_iff.mp H
 obtain ⟨t400, A20, H⟩ := H
 replace H : (if t400 < 0 then (some true) else ((laws_toDisk.f k l0_0).bind fun t401 => ((spec_NewestSnap.f k t401).bind fun bt404 => ((laws_toDisk.f k l0_0).bind fun t412 => ((impl_NewestSnap.f k t412).bind fun bt416 => ((laws_eqSnap.f k bt416.1 bt416.2.1 bt416.2.2.1 bt416.2.2.2.1 bt404.1 bt404.2.1 bt404.2.2.1 bt404.2.2.2.1).bind fun t424 => (if t424 = true then (laws_FnExactNewestSnap.j0 k bt404.2.2.2.2 bt416.2.2.2.2 (bt416.2.2.2.2 != bt404.2.2.2.2) l0_0 bt404.1 bt404.2.1 bt404.2.2.1 bt404.2.2.2.1 t412 bt416.1 bt416.2.1 bt416.2.2.1 bt416.2.2.2.1) else (none)))))))) = some r := H
 have A2 := Aside0.mk A20
 clear A20
 by_cases c3 : t400 < 0
 ·rw [if_pos c3] at H
  have c3b0 : decide (t400 < 0) = true := decide_eq_true c3
  clear c3
  obtain rfl := Option.some.inj H
  go_enter Tryz.func4, Tryz.ntmps4
  go_wp2_with (first | ((with_reducible refine gate_dst (N := 1) rfl ?_); refine box_event ?hg (N := 1) ?hd (cs := #[.slice A0_0 l0_0.length c0_0]) (t := 24) ?hr ?_; (case hd => rfl); (case hg => rfl); (case hr => first | (go_simp; done) | (go_simp; rfl)); intro gb399 hg w4 hbox hb; have BK399 := mk_ (hbox); have GW399 : Aside0 (w.heap.size ≤ gb399) := bz_ hg; have GE399 : Aside0 (w.heap.size ≤ gb399) := bz_ hg; replace HB := bs_ HB hb; clear hb hbox hg; have hcz5_0 : w4.cell? ⟨gb399, 0, none⟩ = some (.slice A0_0 l0_0.length c0_0) := bc_ BK399 0; have hfz5_0 := blk_frozen BK399.out 0) | ((with_reducible refine gate_callee (f := 6) rfl ?_); refine goesL_ (some 16) rfl rfl Tryz.func6 (by kernel_rfl) rfl #[.agg #[.slice A0_0 l0_0.length c0_0], .int .i64 1048576] rfl ga_ ?_; (with_reducible refine (laws_szDisk.calls k _ _ l0_0 1048576 t400 _ ?side1 ?side2 A2.out).mono ?_); (case side1 => repeat (first | exact (Kd.C_below HR0_0.out HB.out) | (with_reducible refine Kd.C_alloc ?_ _) | (with_reducible refine Kd.C_drewN ?_ _) | (with_reducible refine Kd.C_drew ?_))); (case side2 => exact HC0_0.out); rintro e w6 ⟨rfl, hb⟩; refine ⟨_, rfl, ?_⟩; replace BK399 := bb_ BK399 hb; replace HB := bs_ HB hb; (try clear hb)))
  go_ret
  exact ⟨er_, bw_ HB⟩
 ·rw [if_neg c3] at H
  have c3b0 : decide (t400 < 0) = false := decide_eq_false c3
  clear c3
  replace H := Option.bind_eq_some_iff.mp H
  obtain ⟨t401, A70, H⟩ := H
  replace H : ((spec_NewestSnap.f k t401).bind fun bt404 => ((laws_toDisk.f k l0_0).bind fun t412 => ((impl_NewestSnap.f k t412).bind fun bt416 => ((laws_eqSnap.f k bt416.1 bt416.2.1 bt416.2.2.1 bt416.2.2.2.1 bt404.1 bt404.2.1 bt404.2.2.1 bt404.2.2.2.1).bind fun t424 => (if t424 = true then (laws_FnExactNewestSnap.j0 k bt404.2.2.2.2 bt416.2.2.2.2 (bt416.2.2.2.2 != bt404.2.2.2.2) l0_0 bt404.1 bt404.2.1 bt404.2.2.1 bt404.2.2.2.1 t412 bt416.1 bt416.2.1 bt416.2.2.1 bt416.2.2.2.1) else (none)))))) = some r := H
  have A7 := Aside0.mk A70
  clear A70
  replace H := Option.bind_eq_some_iff.mp H
  obtain ⟨⟨t404, t405, t406, t409, t410⟩, A80, H⟩ := H
  replace H : ((laws_toDisk.f k l0_0).bind fun t412 => ((impl_NewestSnap.f k t412).bind fun bt416 => ((laws_eqSnap.f k bt416.1 bt416.2.1 bt416.2.2.1 bt416.2.2.2.1 t404 t405 t406 t409).bind fun t424 => (if t424 = true then (laws_FnExactNewestSnap.j0 k t410 bt416.2.2.2.2 (bt416.2.2.2.2 != t410) l0_0 t404 t405 t406 t409 t412 bt416.1 bt416.2.1 bt416.2.2.1 bt416.2.2.2.1) else (none))))) = some r := H
  have A8 := Aside0.mk A80
  clear A80
  replace H := Option.bind_eq_some_iff.mp H
  obtain ⟨t412, A90, H⟩ := H
  replace H : ((impl_NewestSnap.f k t412).bind fun bt416 => ((laws_eqSnap.f k bt416.1 bt416.2.1 bt416.2.2.1 bt416.2.2.2.1 t404 t405 t406 t409).bind fun t424 => (if t424 = true then (laws_FnExactNewestSnap.j0 k t410 bt416.2.2.2.2 (bt416.2.2.2.2 != t410) l0_0 t404 t405 t406 t409 t412 bt416.1 bt416.2.1 bt416.2.2.1 bt416.2.2.2.1) else (none)))) = some r := H
  have A9 := Aside0.mk A90
  clear A90
  replace H := Option.bind_eq_some_iff.mp H
  obtain ⟨⟨t416, t417, t418, t421, t422⟩, A100, H⟩ := H
  replace H : ((laws_eqSnap.f k t416 t417 t418 t421 t404 t405 t406 t409).bind fun t424 => (if t424 = true then (laws_FnExactNewestSnap.j0 k t410 t422 (t422 != t410) l0_0 t404 t405 t406 t409 t412 t416 t417 t418 t421) else (none))) = some r := H
  have A10 := Aside0.mk A100
  clear A100
  have HC11 := Aside0.mk H
  clear H
  go_enter Tryz.func4, Tryz.ntmps4
  go_upto_region 8 with (first | ((with_reducible refine gate_dst (N := 1) rfl ?_); refine box_event ?hg (N := 1) ?hd (cs := #[.slice A0_0 l0_0.length c0_0]) (t := 24) ?hr ?_; (case hd => rfl); (case hg => rfl); (case hr => first | (go_simp; done) | (go_simp; rfl)); intro gb399 hg w12 hbox hb; have BK399 := mk_ (hbox); have GW399 : Aside0 (w.heap.size ≤ gb399) := bz_ hg; have GE399 : Aside0 (w.heap.size ≤ gb399) := bz_ hg; replace HB := bs_ HB hb; clear hb hbox hg; have hcz13_0 : w12.cell? ⟨gb399, 0, none⟩ = some (.slice A0_0 l0_0.length c0_0) := bc_ BK399 0; have hfz13_0 := blk_frozen BK399.out 0) | ((with_reducible refine gate_callee (f := 6) rfl ?_); refine goesL_ (some 16) rfl rfl Tryz.func6 (by kernel_rfl) rfl #[.agg #[.slice A0_0 l0_0.length c0_0], .int .i64 1048576] rfl ga_ ?_; (with_reducible refine (laws_szDisk.calls k _ _ l0_0 1048576 t400 _ ?side1 ?side2 A2.out).mono ?_); (case side1 => repeat (first | exact (Kd.C_below HR0_0.out HB.out) | (with_reducible refine Kd.C_alloc ?_ _) | (with_reducible refine Kd.C_drewN ?_ _) | (with_reducible refine Kd.C_drew ?_))); (case side2 => exact HC0_0.out); rintro e w14 ⟨rfl, hb⟩; refine ⟨_, rfl, ?_⟩; replace BK399 := bb_ BK399 hb; replace HB := bs_ HB hb; (try clear hb); (try clear hk); have hcz15_0 : w14.cell? ⟨gb399, 0, none⟩ = some (.slice A0_0 l0_0.length c0_0) := bc_ BK399 0; have hfz15_0 := blk_frozen BK399.out 0) | ((with_reducible refine gate_callee (f := 8) rfl ?_); refine goesL_ (some 21) rfl rfl Tryz.func8 (by kernel_rfl) rfl #[.agg #[.slice A0_0 l0_0.length c0_0]] rfl ga_ ?_; (with_reducible refine (laws_toDisk.calls k _ _ l0_0 t401 _ ?side1 ?side2 A7.out).mono ?_); (case side1 => repeat (first | exact (Kd.C_below HR0_0.out HB.out) | (with_reducible refine Kd.C_alloc ?_ _) | (with_reducible refine Kd.C_drewN ?_ _) | (with_reducible refine Kd.C_drew ?_))); (case side2 => exact HC0_0.out); rintro e w16 ⟨v402, rfl, ho0, hb⟩; refine ⟨_, rfl, ?_⟩; have HO403 := mk_ (Kd.R_lower ho0 (below_size (bw_ HB))); replace BK399 := bb_ BK399 hb; replace HB := bs_ HB hb; (try clear hb); (try clear hk); (try clear ho0); obtain ⟨Ao17, co17, eo17⟩ := Kd.R_slice HO403.out; subst eo17) | ((with_reducible refine gate_callee (f := 18) rfl ?_); refine goesL_ (some 22) rfl rfl Tryz.func18 (by kernel_rfl) rfl #[.agg #[.slice Ao17 t401.length co17]] rfl ga_ ?_; (with_reducible refine (spec_NewestSnap.calls k _ _ t401 t404 t405 t406 t409 t410 _ ?side1 ?side2 A8.out).mono ?_); (case side1 => repeat (first | exact (Kd.R_reads' HO403.out).2.2 | (with_reducible refine Kd.C_alloc ?_ _) | (with_reducible refine Kd.C_drewN ?_ _) | (with_reducible refine Kd.C_drew ?_))); (case side2 => exact (Kd.R_reads' HO403.out).2.1); rintro e w18 ⟨v407, rfl, ho0, hb⟩; refine ⟨_, rfl, ?_⟩; have HO408 := mk_ (Kd.R_lower ho0 (below_size (bw_ HB))); replace HO403 := rb_ HO403 hb; replace BK399 := bb_ BK399 hb; replace HB := bs_ HB hb; (try clear hb); (try clear hk); (try clear ho0)) | ((with_reducible refine gate_dst (N := 4) rfl ?_); refine box_event ?hg (N := 4) ?hd (cs := #[.int .i64 0, .int .i64 0, .slice none 0 0, .string (⟨#[]⟩ : ByteArray)]) (t := 47) ?hr ?_; (case hd => rfl); (case hg => rfl); (case hr => first | (go_simp; done) | (go_simp; rfl)); intro gb411 hg w19 hbox hb; have BK411 := mk_ (hbox); have GW411 : Aside0 (w.heap.size ≤ gb411) := bz_ hg; have GE411 : Aside0 (w.heap.size ≤ gb411) := bz_ hg; have NB399_411 : Aside0 (gb399 ≠ gb411) := bl_ BK399 hg; have NB411_399 : Aside0 (gb411 ≠ gb399) := bg_ BK399 hg; replace HO403 := rb_ HO403 hb; replace HO408 := rb_ HO408 hb; replace BK399 := bb_ BK399 hb; replace HB := bs_ HB hb; clear hb hbox hg; have hnb20 := NB411_399.out; have hnc20 := NB399_411.out; have hcz21_0 : w19.cell? ⟨gb411, 0, none⟩ = some (.int .i64 0) := bc_ BK411 0; have hcz21_1 : w19.cell? ⟨gb411, 1, none⟩ = some (.int .i64 0) := bc_ BK411 1; have hcz21_2 : w19.cell? ⟨gb411, 2, none⟩ = some (.slice none 0 0) := bc_ BK411 2; have hcz21_3 : w19.cell? ⟨gb411, 3, none⟩ = some (.string (⟨#[]⟩ : ByteArray)) := bc_ BK411 3; have hfz21_0 := blk_frozen BK411.out 0; have hfz21_1 := blk_frozen BK411.out 1; have hfz21_2 := blk_frozen BK411.out 2; have hfz21_3 := blk_frozen BK411.out 3; obtain ⟨Ao22, co22, eo22⟩ := Kd.R_slice HO408.out; subst eo22; have hcz23_0 : w19.cell? ⟨gb399, 0, none⟩ = some (.slice A0_0 l0_0.length c0_0) := bc_ BK399 0; have hfz23_0 := blk_frozen BK399.out 0) | ((with_reducible refine gate_callee (f := 8) rfl ?_); refine goesL_ (some 26) rfl rfl Tryz.func8 (by kernel_rfl) rfl #[.agg #[.slice A0_0 l0_0.length c0_0]] rfl ga_ ?_; (with_reducible refine (laws_toDisk.calls k _ _ l0_0 t412 _ ?side1 ?side2 A9.out).mono ?_); (case side1 => exact Kd.C_below HR0_0.out (bw_ HB)); (case side2 => exact HC0_0.out); rintro e w24 ⟨v413, rfl, ho0, hb⟩; refine ⟨_, rfl, ?_⟩; have HO414 := mk_ (Kd.R_lower (Kd.R_new' ho0 (Kd.R_lt (by (with_reducible repeat (first | apply Kd.R_alloc | apply Kd.R_drewN | apply Kd.R_drew)); exact (Kd.R_mono (Kd.R_far (p := ⟨gb411, 3, none⟩) (Kd.R_far (p := ⟨gb411, 2, none⟩) (Kd.R_far (p := ⟨gb411, 1, none⟩) (Kd.R_far (p := ⟨gb411, 0, none⟩) (Kd.R_types HO403.out BK411.out (by decide)) (fun _ hk => hk.2) (.int .i64 t404)) (fun _ hk => hk.2) (.int .i64 t405)) (fun _ hk => hk.2) (.slice Ao22 t406.length co22)) (fun _ hk => hk.2) (.string t409)) (fun _ h_ => h_.1))))) (below_size (bw_ HB))); replace HO403 := mk_ (Kd.R_elder' (by (with_reducible repeat (first | apply Kd.R_alloc | apply Kd.R_drewN | apply Kd.R_drew)); exact (Kd.R_mono (Kd.R_far (p := ⟨gb411, 3, none⟩) (Kd.R_far (p := ⟨gb411, 2, none⟩) (Kd.R_far (p := ⟨gb411, 1, none⟩) (Kd.R_far (p := ⟨gb411, 0, none⟩) (Kd.R_types HO403.out BK411.out (by decide)) (fun _ hk => hk.2) (.int .i64 t404)) (fun _ hk => hk.2) (.int .i64 t405)) (fun _ hk => hk.2) (.slice Ao22 t406.length co22)) (fun _ hk => hk.2) (.string t409)) (fun _ h_ => h_.1))) (Kd.R_base ho0) hb); replace HO408 := mk_ (Kd.R_below (by (with_reducible repeat (first | apply Kd.R_alloc | apply Kd.R_drewN | apply Kd.R_drew)); exact (Kd.R_mono (Kd.R_far (p := ⟨gb411, 3, none⟩) (Kd.R_far (p := ⟨gb411, 2, none⟩) (Kd.R_far (p := ⟨gb411, 1, none⟩) (Kd.R_far (p := ⟨gb411, 0, none⟩) (Kd.R_types HO408.out BK411.out (by decide)) (fun _ hk => hk.2) (.int .i64 t404)) (fun _ hk => hk.2) (.int .i64 t405)) (fun _ hk => hk.2) (.slice Ao22 t406.length co22)) (fun _ hk => hk.2) (.string t409)) (fun _ h_ => h_.1))) hb); replace BK399 := mk_ (blk_below (g := gb399) (o := .cells #[.slice A0_0 l0_0.length c0_0] 24 (0, 0)) bf_ hb); replace BK411 := mk_ (blk_below (g := gb411) (o := .cells #[.int .i64 t404, .int .i64 t405, .slice Ao22 t406.length co22, .string t409] 47 (0, 0)) bu_ hb); replace HB := bs_ HB hb; (try clear hb); (try clear hk); (try clear ho0)) | ((with_reducible refine gate_dst (N := 6) rfl ?_); refine box_event ?hg (N := 6) ?hd (cs := #[.slice none 0 0]) (t := 36) ?hr ?_; (case hd => rfl); (case hg => rfl); (case hr => first | (go_simp; done) | (go_simp; rfl)); intro gb415 hg w25 hbox hb; have BK415 := mk_ (hbox); have GW415 : Aside0 (w.heap.size ≤ gb415) := bz_ hg; have GE415 : Aside0 (w.heap.size ≤ gb415) := bz_ hg; have NB399_415 : Aside0 (gb399 ≠ gb415) := bl_ BK399 hg; have NB415_399 : Aside0 (gb415 ≠ gb399) := bg_ BK399 hg; have NB411_415 : Aside0 (gb411 ≠ gb415) := bl_ BK411 hg; have NB415_411 : Aside0 (gb415 ≠ gb411) := bg_ BK411 hg; replace HO403 := rb_ HO403 hb; replace HO408 := rb_ HO408 hb; replace HO414 := rb_ HO414 hb; replace BK399 := bb_ BK399 hb; replace BK411 := bb_ BK411 hb; replace HB := bs_ HB hb; clear hb hbox hg; obtain ⟨Ao26, co26, eo26⟩ := Kd.R_slice HO414.out; subst eo26; have hnb27 := NB415_399.out; have hnc27 := NB399_415.out; have hnb28 := NB415_411.out; have hnc28 := NB411_415.out; have hcz29_0 : w25.cell? ⟨gb415, 0, none⟩ = some (.slice none 0 0) := bc_ BK415 0; have hfz29_0 := blk_frozen BK415.out 0) | ((with_reducible refine gate_callee (f := 19) rfl ?_); refine goesL_ (some 29) rfl rfl Tryz.func19 (by kernel_rfl) rfl #[.agg #[.slice Ao26 t412.length co26]] rfl ga_ ?_; (with_reducible refine (impl_NewestSnap.calls k _ _ t412 t416 t417 t418 t421 t422 _ (tab22 HT HB) ?side1 ?side2 A10.out).mono ?_); (case side1 => refine (Kd.R_reads' (e := 57) (base := w.heap.size) (ok := fun k_ => (True ∧ some k_ ≠ (.slice Ao17 t401.length co17 : Value).ownBlock)) (n := t412.length) (c := co26) ?_).2.2; exact (by (with_reducible repeat (first | apply Kd.R_alloc | apply Kd.R_drewN | apply Kd.R_drew)); exact (Kd.R_mono (Kd.R_far (p := ⟨gb415, 0, none⟩) (Kd.R_types HO414.out BK415.out (by decide)) (fun _ hk => hk.2) (.slice Ao26 t412.length co26)) (fun _ h_ => h_.1)))); (case side2 => exact (Kd.R_reads' HO414.out).2.1); rintro e w30 ⟨v419, rfl, ho0, hb⟩; refine ⟨_, rfl, ?_⟩; have HO420 := mk_ (Kd.R_lower (Kd.R_new' ho0 (Kd.R_lt (by (with_reducible repeat (first | apply Kd.R_alloc | apply Kd.R_drewN | apply Kd.R_drew)); exact (Kd.R_mono (Kd.R_far (p := ⟨gb415, 0, none⟩) (Kd.R_types HO408.out BK415.out (by decide)) (fun _ hk => hk.2) (.slice Ao26 t412.length co26)) (fun _ h_ => h_.1))))) (below_size (bw_ HB))); replace HO403 := mk_ (Kd.R_below (by (with_reducible repeat (first | apply Kd.R_alloc | apply Kd.R_drewN | apply Kd.R_drew)); exact (Kd.R_mono (Kd.R_far (p := ⟨gb415, 0, none⟩) (Kd.R_types HO403.out BK415.out (by decide)) (fun _ hk => hk.2) (.slice Ao26 t412.length co26)) (fun _ h_ => h_.1))) hb); replace HO408 := mk_ (Kd.R_elder' (by (with_reducible repeat (first | apply Kd.R_alloc | apply Kd.R_drewN | apply Kd.R_drew)); exact (Kd.R_mono (Kd.R_far (p := ⟨gb415, 0, none⟩) (Kd.R_types HO408.out BK415.out (by decide)) (fun _ hk => hk.2) (.slice Ao26 t412.length co26)) (fun _ h_ => h_.1))) (Kd.R_base ho0) hb); replace HO414 := mk_ (Kd.R_below (by (with_reducible repeat (first | apply Kd.R_alloc | apply Kd.R_drewN | apply Kd.R_drew)); exact (Kd.R_mono (Kd.R_far (p := ⟨gb415, 0, none⟩) (Kd.R_types HO414.out BK415.out (by decide)) (fun _ hk => hk.2) (.slice Ao26 t412.length co26)) (fun _ h_ => h_.1))) hb); replace BK399 := mk_ (blk_below (g := gb399) (o := .cells #[.slice A0_0 l0_0.length c0_0] 24 (0, 0)) bf_ hb); replace BK411 := mk_ (blk_below (g := gb411) (o := .cells #[.int .i64 t404, .int .i64 t405, .slice Ao22 t406.length co22, .string t409] 47 (0, 0)) bf_ hb); replace BK415 := mk_ (blk_below (g := gb415) (o := .cells #[.slice Ao26 t412.length co26] 36 (0, 0)) bu_ hb); replace HB := bs_ HB hb; (try clear hb); (try clear hk); (try clear ho0)) | ((with_reducible refine gate_dst (N := 7) rfl ?_); refine box_event ?hg (N := 7) ?hd (cs := #[.int .i64 0, .int .i64 0, .slice none 0 0, .string (⟨#[]⟩ : ByteArray)]) (t := 47) ?hr ?_; (case hd => rfl); (case hg => rfl); (case hr => first | (go_simp; done) | (go_simp; rfl)); intro gb423 hg w31 hbox hb; have BK423 := mk_ (hbox); have GW423 : Aside0 (w.heap.size ≤ gb423) := bz_ hg; have GE423 : Aside0 (w.heap.size ≤ gb423) := bz_ hg; have NB399_423 : Aside0 (gb399 ≠ gb423) := bl_ BK399 hg; have NB423_399 : Aside0 (gb423 ≠ gb399) := bg_ BK399 hg; have NB411_423 : Aside0 (gb411 ≠ gb423) := bl_ BK411 hg; have NB423_411 : Aside0 (gb423 ≠ gb411) := bg_ BK411 hg; have NB415_423 : Aside0 (gb415 ≠ gb423) := bl_ BK415 hg; have NB423_415 : Aside0 (gb423 ≠ gb415) := bg_ BK415 hg; replace HO403 := rb_ HO403 hb; replace HO408 := rb_ HO408 hb; replace HO414 := rb_ HO414 hb; replace HO420 := rb_ HO420 hb; replace BK399 := bb_ BK399 hb; replace BK411 := bb_ BK411 hb; replace BK415 := bb_ BK415 hb; replace HB := bs_ HB hb; clear hb hbox hg; have hnb32 := NB423_399.out; have hnc32 := NB399_423.out; have hnb33 := NB423_411.out; have hnc33 := NB411_423.out; have hnb34 := NB423_415.out; have hnc34 := NB415_423.out; have hcz35_0 : w31.cell? ⟨gb423, 0, none⟩ = some (.int .i64 0) := bc_ BK423 0; have hcz35_1 : w31.cell? ⟨gb423, 1, none⟩ = some (.int .i64 0) := bc_ BK423 1; have hcz35_2 : w31.cell? ⟨gb423, 2, none⟩ = some (.slice none 0 0) := bc_ BK423 2; have hcz35_3 : w31.cell? ⟨gb423, 3, none⟩ = some (.string (⟨#[]⟩ : ByteArray)) := bc_ BK423 3; have hfz35_0 := blk_frozen BK423.out 0; have hfz35_1 := blk_frozen BK423.out 1; have hfz35_2 := blk_frozen BK423.out 2; have hfz35_3 := blk_frozen BK423.out 3; obtain ⟨Ao36, co36, eo36⟩ := Kd.R_slice HO420.out; subst eo36))
  (try simp only [Act.put, sia_, scz_, scs_])
  go_cut [40] (fun v40 wc => ∃ (kq : Nat) (x40_10 : Bool), v40 = .bool x40_10 ∧ Aside0 (laws_FnExactNewestSnap.j0 kq t410 t422 x40_10 l0_0 t404 t405 t406 t409 t412 t416 t417 t418 t421 = some r) ∧ Aside0 (kq ≤ k) ∧ Aside0 (Kd.R (Kd.int .i64) 3 wc w.heap.size (fun k_ => some k_ ≠ ((.slice Ao36 t418.length co36) : Value).ownBlock) (.slice Ao22 t406.length co22) t406) ∧ Aside0 (Kd.R k57 57 wc w.heap.size (fun _ => True) (.slice Ao26 t412.length co26) t412) ∧ Aside0 (Kd.R (Kd.int .i64) 3 wc w.heap.size (fun k_ => some k_ ≠ ((.slice Ao22 t406.length co22) : Value).ownBlock) (.slice Ao36 t418.length co36) t418) ∧ Aside0 (wc.heap[gb399]? = some (.cells #[(.slice A0_0 l0_0.length c0_0)] 24 (0, 0))) ∧ Aside0 (wc.heap[gb411]? = some (.cells #[.int .i64 t404, .int .i64 t405, (.slice Ao22 t406.length co22), .string t409] 47 (0, 0))) ∧ Aside0 (wc.heap[gb415]? = some (.cells #[(.slice Ao26 t412.length co26)] 36 (0, 0))) ∧ Aside0 (wc.heap[gb423]? = some (.cells #[.int .i64 t416, .int .i64 t417, (.slice Ao36 t418.length co36), .string t421] 47 (0, 0))) ∧ Aside0 (Below w.heap.size w wc))
  case first =>
   have H := HC11.out
   clear HC11
   replace H := Option.bind_eq_some_iff.mp H
   obtain ⟨t424, A370, H⟩ := H
   replace H : (if t424 = true then (laws_FnExactNewestSnap.j0 k t410 t422 (t422 != t410) l0_0 t404 t405 t406 t409 t412 t416 t417 t418 t421) else (none)) = some r := H
   have A37 := Aside0.mk A370
   clear A370
   by_cases c38 : t424 = true
   ·subst c38
    have H1 : (laws_FnExactNewestSnap.j0 k t410 t422 (t422 != t410) l0_0 t404 t405 t406 t409 t412 t416 t417 t418 t421) = some r := by rw [if_pos rfl] at H; exact H
    clear H
    have H := H1
    clear H1
    have H' := Aside0.mk H
    clear H
    have hnb39 := NB423_399.out
    have hnc39 := NB399_423.out
    have hnb40 := NB423_411.out
    have hnc40 := NB411_423.out
    have hnb41 := NB423_415.out
    have hnc41 := NB415_423.out
    have hcz42_0 : w31.cell? ⟨gb423, 0, none⟩ = some (.int .i64 0) := bc_ BK423 0
    have hcz42_1 : w31.cell? ⟨gb423, 1, none⟩ = some (.int .i64 0) := bc_ BK423 1
    have hcz42_2 : w31.cell? ⟨gb423, 2, none⟩ = some (.slice none 0 0) := bc_ BK423 2
    have hcz42_3 : w31.cell? ⟨gb423, 3, none⟩ = some (.string (⟨#[]⟩ : ByteArray)) := bc_ BK423 3
    have hfz42_0 := blk_frozen BK423.out 0
    have hfz42_1 := blk_frozen BK423.out 1
    have hfz42_2 := blk_frozen BK423.out 2
    have hfz42_3 := blk_frozen BK423.out 3
    have hnb43 := NB411_399.out
    have hnc43 := NB399_411.out
    have hnb44 := NB411_415.out
    have hnc44 := NB415_411.out
    have hcz45_0 : w31.cell? ⟨gb411, 0, none⟩ = some (.int .i64 t404) := bc_ BK411 0
    have hcz45_1 : w31.cell? ⟨gb411, 1, none⟩ = some (.int .i64 t405) := bc_ BK411 1
    have hcz45_2 : w31.cell? ⟨gb411, 2, none⟩ = some (.slice Ao22 t406.length co22) := bc_ BK411 2
    have hcz45_3 : w31.cell? ⟨gb411, 3, none⟩ = some (.string t409) := bc_ BK411 3
    have hfz45_0 := blk_frozen BK411.out 0
    have hfz45_1 := blk_frozen BK411.out 1
    have hfz45_2 := blk_frozen BK411.out 2
    have hfz45_3 := blk_frozen BK411.out 3
    go_wp2_with (first | ((with_reducible refine gate_callee (f := 20) rfl ?_); refine goesL_ (some 34) rfl rfl Tryz.func20 (by kernel_rfl) rfl #[.agg #[.int .i64 t416, .int .i64 t417, .slice Ao36 t418.length co36, .string t421], .agg #[.int .i64 t404, .int .i64 t405, .slice Ao22 t406.length co22, .string t409]] rfl ga_ ?_; (with_reducible refine (laws_eqSnap.calls k t416 t417 _ _ t418 t421 t404 t405 _ _ t406 t409 true _ ?side1 ?side2 ?side3 ?side4 A37.out).mono ?_); (case side1 => refine (Kd.R_reads' (e := 3) (base := w.heap.size) (ok := fun k_ => (True ∧ some k_ ≠ (.slice Ao22 t406.length co22 : Value).ownBlock)) (n := t418.length) (c := co36) ?_).2.2; exact (by (with_reducible repeat (first | apply Kd.R_alloc | apply Kd.R_drewN | apply Kd.R_drew)); exact (Kd.R_mono (Kd.R_far (p := ⟨gb423, 3, none⟩) (Kd.R_far (p := ⟨gb423, 2, none⟩) (Kd.R_far (p := ⟨gb423, 1, none⟩) (Kd.R_far (p := ⟨gb423, 0, none⟩) (Kd.R_types HO420.out BK423.out (by decide)) (fun _ hk => hk.2) (.int .i64 t416)) (fun _ hk => hk.2) (.int .i64 t417)) (fun _ hk => hk.2) (.slice Ao36 t418.length co36)) (fun _ hk => hk.2) (.string t421)) (fun _ h_ => h_.1)))); (case side2 => exact (Kd.R_reads' HO420.out).2.1); (case side3 => refine (Kd.R_reads' (e := 3) (base := w.heap.size) (ok := fun k_ => (True ∧ some k_ ≠ (.slice Ao36 t418.length co36 : Value).ownBlock)) (n := t406.length) (c := co22) ?_).2.2; exact (by (with_reducible repeat (first | apply Kd.R_alloc | apply Kd.R_drewN | apply Kd.R_drew)); exact (Kd.R_mono (Kd.R_far (p := ⟨gb423, 3, none⟩) (Kd.R_far (p := ⟨gb423, 2, none⟩) (Kd.R_far (p := ⟨gb423, 1, none⟩) (Kd.R_far (p := ⟨gb423, 0, none⟩) (Kd.R_types HO408.out BK423.out (by decide)) (fun _ hk => hk.2) (.int .i64 t416)) (fun _ hk => hk.2) (.int .i64 t417)) (fun _ hk => hk.2) (.slice Ao36 t418.length co36)) (fun _ hk => hk.2) (.string t421)) (fun _ h_ => h_.1)))); (case side4 => exact (Kd.R_reads' HO408.out).2.1); rintro e w46 ⟨rfl, hb⟩; refine ⟨_, rfl, ?_⟩; replace HO403 := mk_ (Kd.R_below (by (with_reducible repeat (first | apply Kd.R_alloc | apply Kd.R_drewN | apply Kd.R_drew)); exact (Kd.R_mono (Kd.R_far (p := ⟨gb423, 3, none⟩) (Kd.R_far (p := ⟨gb423, 2, none⟩) (Kd.R_far (p := ⟨gb423, 1, none⟩) (Kd.R_far (p := ⟨gb423, 0, none⟩) (Kd.R_types HO403.out BK423.out (by decide)) (fun _ hk => hk.2) (.int .i64 t416)) (fun _ hk => hk.2) (.int .i64 t417)) (fun _ hk => hk.2) (.slice Ao36 t418.length co36)) (fun _ hk => hk.2) (.string t421)) (fun _ h_ => h_.1))) hb); replace HO408 := mk_ (Kd.R_below (by (with_reducible repeat (first | apply Kd.R_alloc | apply Kd.R_drewN | apply Kd.R_drew)); exact (Kd.R_mono (Kd.R_far (p := ⟨gb423, 3, none⟩) (Kd.R_far (p := ⟨gb423, 2, none⟩) (Kd.R_far (p := ⟨gb423, 1, none⟩) (Kd.R_far (p := ⟨gb423, 0, none⟩) (Kd.R_types HO408.out BK423.out (by decide)) (fun _ hk => hk.2) (.int .i64 t416)) (fun _ hk => hk.2) (.int .i64 t417)) (fun _ hk => hk.2) (.slice Ao36 t418.length co36)) (fun _ hk => hk.2) (.string t421)) (fun _ h_ => h_.1))) hb); replace HO414 := mk_ (Kd.R_below (by (with_reducible repeat (first | apply Kd.R_alloc | apply Kd.R_drewN | apply Kd.R_drew)); exact (Kd.R_mono (Kd.R_far (p := ⟨gb423, 3, none⟩) (Kd.R_far (p := ⟨gb423, 2, none⟩) (Kd.R_far (p := ⟨gb423, 1, none⟩) (Kd.R_far (p := ⟨gb423, 0, none⟩) (Kd.R_types HO414.out BK423.out (by decide)) (fun _ hk => hk.2) (.int .i64 t416)) (fun _ hk => hk.2) (.int .i64 t417)) (fun _ hk => hk.2) (.slice Ao36 t418.length co36)) (fun _ hk => hk.2) (.string t421)) (fun _ h_ => h_.1))) hb); replace HO420 := mk_ (Kd.R_below (by (with_reducible repeat (first | apply Kd.R_alloc | apply Kd.R_drewN | apply Kd.R_drew)); exact (Kd.R_mono (Kd.R_far (p := ⟨gb423, 3, none⟩) (Kd.R_far (p := ⟨gb423, 2, none⟩) (Kd.R_far (p := ⟨gb423, 1, none⟩) (Kd.R_far (p := ⟨gb423, 0, none⟩) (Kd.R_types HO420.out BK423.out (by decide)) (fun _ hk => hk.2) (.int .i64 t416)) (fun _ hk => hk.2) (.int .i64 t417)) (fun _ hk => hk.2) (.slice Ao36 t418.length co36)) (fun _ hk => hk.2) (.string t421)) (fun _ h_ => h_.1))) hb); replace BK399 := mk_ (blk_below (g := gb399) (o := .cells #[.slice A0_0 l0_0.length c0_0] 24 (0, 0)) bf_ hb); replace BK411 := mk_ (blk_below (g := gb411) (o := .cells #[.int .i64 t404, .int .i64 t405, .slice Ao22 t406.length co22, .string t409] 47 (0, 0)) bf_ hb); replace BK415 := mk_ (blk_below (g := gb415) (o := .cells #[.slice Ao26 t412.length co26] 36 (0, 0)) bf_ hb); replace BK423 := mk_ (blk_below (g := gb423) (o := .cells #[.int .i64 t416, .int .i64 t417, .slice Ao36 t418.length co36, .string t421] 47 (0, 0)) bu_ hb); replace HB := bs_ HB hb; (try clear hb); (try clear hk)))
    go_meet
    case rel => exact ⟨_, ((t422 != t410)), (by first | rfl | (simp; done) | (simp [*]; done)), H', ⟨by first | omega | exact Nat.le_refl _⟩, ⟨by (with_reducible repeat (first | apply Kd.R_alloc | apply Kd.R_drewN | apply Kd.R_drew)); exact Kd.R_mono HO408.out (fun _ hk => hk.2)⟩, ⟨by (with_reducible repeat (first | apply Kd.R_alloc | apply Kd.R_drewN | apply Kd.R_drew)); exact Kd.R_mono HO414.out (fun _ hk => trivial)⟩, ⟨by (with_reducible repeat (first | apply Kd.R_alloc | apply Kd.R_drewN | apply Kd.R_drew)); exact Kd.R_mono HO420.out (fun _ hk => hk.2)⟩, ⟨bf_⟩, ⟨bf_⟩, ⟨bf_⟩, ⟨bf_⟩, ⟨bw_ HB⟩⟩
   ·replace c38 := Bool.eq_false_iff.mpr c38
    subst c38
    have H1 : (none) = some r := by rw [if_neg (show ¬ (false = true) by decide)] at H; exact H
    clear H
    have H := H1
    clear H1
    exact absurd H (by simp)
  case rest =>
   clear HC11
   try clear c1
   try clear c2
   try clear p2
   try clear c3
   try clear c3b0
   try clear c4
   try clear c6
   try clear c8
   try clear c18
   try clear c19
   try clear c20
   try clear c27
   try clear c28
   try clear c32
   try clear c33
   try clear c34
   try clear c38
   try clear c39
   try clear c40
   try clear c41
   try clear c43
   try clear c44
   try clear hcz13_0
   try clear hcz15_0
   try clear hcz21_0
   try clear hcz21_1
   try clear hcz21_2
   try clear hcz21_3
   try clear hcz23_0
   try clear hcz29_0
   try clear hcz35_0
   try clear hcz35_1
   try clear hcz35_2
   try clear hcz35_3
   try clear hcz42_0
   try clear hcz42_1
   try clear hcz42_2
   try clear hcz42_3
   try clear hcz45_0
   try clear hcz45_1
   try clear hcz45_2
   try clear hcz45_3
   try clear hcz5_0
   try clear hfz13_0
   try clear hfz15_0
   try clear hfz21_0
   try clear hfz21_1
   try clear hfz21_2
   try clear hfz21_3
   try clear hfz23_0
   try clear hfz29_0
   try clear hfz35_0
   try clear hfz35_1
   try clear hfz35_2
   try clear hfz35_3
   try clear hfz42_0
   try clear hfz42_1
   try clear hfz42_2
   try clear hfz42_3
   try clear hfz45_0
   try clear hfz45_1
   try clear hfz45_2
   try clear hfz45_3
   try clear hfz5_0
   obtain ⟨kq, x40_10, rfl, HA, HJ10, HO_412002, HO_416000, HO_424002, BK399, BK411, BK415, BK423, HB⟩ := hcut
   cases kq with
   | zero => exact absurd HA.out (by simp [laws_FnExactNewestSnap.j0])
   | succ kj10 =>
    have H := HA.out
    clear HA
    simp only [laws_FnExactNewestSnap.j0] at H
    by_cases c47 : x40_10 = true
    ·subst c47
     have H1 : (none) = some r := by rw [if_pos rfl] at H; exact H
     clear H
     have H := H1
     clear H1
     exact absurd H (by simp)
    ·replace c47 := Bool.eq_false_iff.mpr c47
     subst c47
     have H1 : ((laws_toDisk.f kj10 l0_0).bind fun t425 => ((laws_eqDisk.f kj10 t412 t425).bind fun t428 => (if t428 = true then ((laws_markDisk.f kj10 t412 1).bind fun bt429 => (if bt429.1 < 0 then (none) else ((laws_eqSnap.f kj10 t416 t417 t418 t421 t404 t405 t406 t409).bind fun t431 => (if t431 = true then (laws_FnExactNewestSnap.j1 kj10 t410 (t422 != t410) l0_0 t404 t405 t406 t409 t416 t417 t418 t421) else (none))))) else (none)))) = some r := by rw [if_neg (show ¬ (false = true) by decide)] at H; exact H
     clear H
     have H := H1
     clear H1
     replace H := Option.bind_eq_some_iff.mp H
     obtain ⟨t425, A480, H⟩ := H
     replace H : ((laws_eqDisk.f kj10 t412 t425).bind fun t428 => (if t428 = true then ((laws_markDisk.f kj10 t412 1).bind fun bt429 => (if bt429.1 < 0 then (none) else ((laws_eqSnap.f kj10 t416 t417 t418 t421 t404 t405 t406 t409).bind fun t431 => (if t431 = true then (laws_FnExactNewestSnap.j1 kj10 t410 (t422 != t410) l0_0 t404 t405 t406 t409 t416 t417 t418 t421) else (none))))) else (none))) = some r := H
     have A48 := Aside0.mk A480
     clear A480
     replace H := Option.bind_eq_some_iff.mp H
     obtain ⟨t428, A490, H⟩ := H
     replace H : (if t428 = true then ((laws_markDisk.f kj10 t412 1).bind fun bt429 => (if bt429.1 < 0 then (none) else ((laws_eqSnap.f kj10 t416 t417 t418 t421 t404 t405 t406 t409).bind fun t431 => (if t431 = true then (laws_FnExactNewestSnap.j1 kj10 t410 (t422 != t410) l0_0 t404 t405 t406 t409 t416 t417 t418 t421) else (none))))) else (none)) = some r := H
     have A49 := Aside0.mk A490
     clear A490
     by_cases c50 : t428 = true
     ·subst c50
      have H1 : ((laws_markDisk.f kj10 t412 1).bind fun bt429 => (if bt429.1 < 0 then (none) else ((laws_eqSnap.f kj10 t416 t417 t418 t421 t404 t405 t406 t409).bind fun t431 => (if t431 = true then (laws_FnExactNewestSnap.j1 kj10 t410 (t422 != t410) l0_0 t404 t405 t406 t409 t416 t417 t418 t421) else (none))))) = some r := by rw [if_pos rfl] at H; exact H
      clear H
      have H := H1
      clear H1
      replace H := Option.bind_eq_some_iff.mp H
      obtain ⟨⟨t429, t430⟩, A510, H⟩ := H
      replace H : (if t429 < 0 then (none) else ((laws_eqSnap.f kj10 t416 t417 t418 t421 t404 t405 t406 t409).bind fun t431 => (if t431 = true then (laws_FnExactNewestSnap.j1 kj10 t410 (t422 != t410) l0_0 t404 t405 t406 t409 t416 t417 t418 t421) else (none)))) = some r := H
      have A51 := Aside0.mk A510
      clear A510
      have HC52 := Aside0.mk H
      clear H
      try go_wp2
      have n0_ := mk_ (Kd.R_drew HO_412002.out)
      have n1_ := mk_ (Kd.R_drew HO_416000.out)
      have n2_ := mk_ (Kd.R_drew HO_424002.out)
      have n3_ := mk_ (blk_drew BK399.out)
      have n4_ := mk_ (blk_drew BK411.out)
      have n5_ := mk_ (blk_drew BK415.out)
      have n6_ := mk_ (blk_drew BK423.out)
      have n7_ := mk_ (below_drew1 HB.out)
      clear HO_412002; clear HO_416000; clear HO_424002; clear BK399; clear BK411; clear BK415; clear BK423; clear HB; have HO_412002 := n0_; have HO_416000 := n1_; have HO_424002 := n2_; have BK399 := n3_; have BK411 := n4_; have BK415 := n5_; have BK423 := n6_; have HB := n7_; clear n0_ n1_ n2_ n3_ n4_ n5_ n6_ n7_
      refine start_ (n := 5) (S := fun w' => w'.cell? ⟨gb415, 0, none⟩ = some (.slice Ao26 t412.length co26) ∧ w'.cell? ⟨gb399, 0, none⟩ = some (.slice A0_0 l0_0.length c0_0)) (ds := []) #[false, false, false, false, false] (by kernel_rfl) rfl rfl ⟨bc_ BK415 0, bc_ BK399 0⟩ (fun hHeld => ?_)
      generalize wc.drew = w53 at HO_412002 HO_416000 HO_424002 BK399 BK411 BK415 BK423 HB hHeld ⊢
      refine take_ (i := 0) (N := some 41) (v := ?_) (a' := ?_) #[true, false, false, false, false] rfl rfl (by kernel_rfl) (fun _ _ _ h => h) (Or.inl ⟨by rfl, ?_⟩) hHeld ?_ ?_
      rotate_left
      ·rintro w' ⟨s0, s1⟩
       go_simp
       with_reducible rfl
      rotate_left
      ·simp only [Act.put, sia_, scz_, scs_, i64_w, i32_w]
       rfl
      refine take_ (i := 1) (N := some 42) (v := ?_) (a' := ?_) #[true, true, false, false, false] rfl rfl (by kernel_rfl) (fun _ _ _ h => h) (Or.inl ⟨by rfl, ?_⟩) hHeld ?_ ?_
      rotate_left
      ·rintro w' ⟨s0, s1⟩
       go_simp
       with_reducible rfl
      rotate_left
      ·simp only [Act.put, sia_, scz_, scs_, i64_w, i32_w]
       rfl
      refine one_ (i := 2) (N := some 43) #[true, true, true, false, false] rfl rfl (by kernel_rfl) (by decide) (fun K hK => ?_)
      refine goes_ Tryz.func8 (by kernel_rfl) rfl #[.agg #[.slice A0_0 l0_0.length c0_0]] (by rfl) rfl rfl ga_ ?_
      with_reducible refine (laws_toDisk.calls kj10 _ _ l0_0 t425 _ ?side1 ?side2 A48.out).mono ?_
      (case side1 => repeat (first | exact (Kd.C_below HR0_0.out HB.out) | (with_reducible refine Kd.C_alloc ?_ _) | (with_reducible refine Kd.C_drewN ?_ _) | (with_reducible refine Kd.C_drew ?_)))
      (case side2 => exact HC0_0.out)
      rintro e w54 ⟨v426, rfl, ho0, hb⟩
      refine ⟨_, rfl, ?_⟩
      have n0_ := rb_ HO_412002 hb
      have n1_ := mk_ (Kd.R_elder' (rp_ HO_416000) (Kd.R_base ho0) hb)
      have n2_ := rb_ HO_424002 hb
      have n3_ := mk_ (Kd.R_lower (Kd.R_new' ho0 (Kd.R_lt (rp_ HO_416000))) (below_size (bw_ HB)))
      have n4_ := bb_ BK399 hb; have n5_ := bb_ BK411 hb; have n6_ := bb_ BK415 hb; have n7_ := bb_ BK423 hb
      have n8_ := bs_ HB hb
      clear HO_412002; clear HO_416000; clear HO_424002; clear BK399; clear BK411; clear BK415; clear BK423; clear HB; have HO_412002 := n0_; have HO_416000 := n1_; have HO_424002 := n2_; have HO427 := n3_; have BK399 := n4_; have BK411 := n5_; have BK415 := n6_; have BK423 := n7_; have HB := n8_; clear n0_ n1_ n2_ n3_ n4_ n5_ n6_ n7_ n8_; (try clear hb); (try clear hb2); (try clear hk); (try clear hi); (try clear ho0)
      obtain ⟨Ao55, co55, eo55⟩ := Kd.R_slice HO427.out
      (first | subst eo55 | (injection eo55 with f1_ f2_ f3_; have f4_ := f1_.symm; have f5_ := f3_.symm; clear f1_ f2_ f3_; subst f4_; subst f5_))
      refine hK.out _ _ ⟨bc_ BK415 0, bc_ BK399 0⟩ (fun hHeld => ?_)
      clear hK K
      refine norm_ (a' := ?_) ?_ ?_
      rotate_left
      ·show Act.put _ (some 43) _ = _
       simp only [Act.put, sia_, scz_, scs_, i64_w, i32_w]
       rfl
      refine one_ (i := 3) (N := some 44) #[true, true, true, true, false] rfl rfl (by kernel_rfl) (by decide) (fun K hK => ?_)
      refine goes_ Tryz.func12 (by kernel_rfl) rfl #[.agg #[.slice Ao26 t412.length co26], .agg #[.slice Ao55 t425.length co55]] (by rfl) rfl rfl ga_ ?_
      with_reducible refine (laws_eqDisk.calls kj10 _ _ t412 _ _ t425 true _ ?side1 ?side2 ?side3 ?side4 A49.out).mono ?_
      (case side1 => repeat (first | exact (Kd.R_reads' HO_416000.out).2.2 | (with_reducible refine Kd.C_alloc ?_ _) | (with_reducible refine Kd.C_drewN ?_ _) | (with_reducible refine Kd.C_drew ?_)))
      (case side2 => exact (Kd.R_reads' HO_416000.out).2.1)
      (case side3 => repeat (first | exact (Kd.R_reads' HO427.out).2.2 | (with_reducible refine Kd.C_alloc ?_ _) | (with_reducible refine Kd.C_drewN ?_ _) | (with_reducible refine Kd.C_drew ?_)))
      (case side4 => exact (Kd.R_reads' HO427.out).2.1)
      rintro e w56 ⟨rfl, hb⟩
      refine ⟨_, rfl, ?_⟩
      have n0_ := rb_ HO_412002 hb
      have n1_ := rb_ HO_416000 hb
      have n2_ := rb_ HO_424002 hb
      have n3_ := rb_ HO427 hb
      have n4_ := bb_ BK399 hb; have n5_ := bb_ BK411 hb; have n6_ := bb_ BK415 hb; have n7_ := bb_ BK423 hb
      have n8_ := bs_ HB hb
      clear HO_412002; clear HO_416000; clear HO_424002; clear HO427; clear BK399; clear BK411; clear BK415; clear BK423; clear HB; have HO_412002 := n0_; have HO_416000 := n1_; have HO_424002 := n2_; have HO427 := n3_; have BK399 := n4_; have BK411 := n5_; have BK415 := n6_; have BK423 := n7_; have HB := n8_; clear n0_ n1_ n2_ n3_ n4_ n5_ n6_ n7_ n8_; (try clear hb); (try clear hb2); (try clear hk); (try clear hi)
      refine hK.out _ _ ⟨bc_ BK415 0, bc_ BK399 0⟩ (fun hHeld => ?_)
      clear hK K
      refine norm_ (a' := ?_) ?_ ?_
      rotate_left
      ·show Act.put _ (some 44) _ = _
       simp only [Act.put, sia_, scz_, scs_, i64_w, i32_w]
       rfl
      refine pure_ (i := 4) (N := some 45) (v := ?_) (a' := ?_) #[true, true, true, true, true] rfl rfl (by kernel_rfl) (fun _ _ _ h => h) (Or.inl ⟨by rfl, ?_⟩) ?_ ?_
      rotate_left
      ·intro w'
       go_simp
       with_reducible rfl
      rotate_left
      ·simp only [Act.put, sia_, scz_, scs_, i64_w, i32_w]
       rfl
      refine done_ (by kernel_rfl) ?_
      have hnb57 := NB415_399.out
      have hnc57 := NB399_415.out
      have hnb58 := NB415_411.out
      have hnc58 := NB411_415.out
      have hnb59 := NB415_423.out
      have hnc59 := NB423_415.out
      have hcz60_0 : w56.cell? ⟨gb415, 0, none⟩ = some (.slice Ao26 t412.length co26) := bc_ BK415 0
      have hfz60_0 := blk_frozen BK415.out 0
      go_upto_region 14 with (first | ((with_reducible refine gate_callee (f := 13) rfl ?_); refine goesL_ (some 48) rfl rfl Tryz.func13 (by kernel_rfl) rfl #[.agg #[.slice Ao26 t412.length co26], .int .i64 1] rfl ga_ ?_; (with_reducible refine (laws_markDisk.calls kj10 (fun k_ => some k_ = (.slice Ao26 t412.length co26 : Value).ownBlock) (.slice Ao26 t412.length co26) t412 1 t429 t430 w _ ?side1 ?side2 A51.out).mono ?_); (case side1 => exact bw_ HB); (case side2 => exact Kd.R_tight rfl HO_416000.out); rintro e w61 ⟨rfl, hy0, hb, hkp⟩; refine ⟨_, rfl, ?_⟩; have n0_ := mk_ (Kd.R_mono (ok' := fun k_ => some k_ ≠ (.slice Ao36 t418.length co36 : Value).ownBlock) (Kd.R_keptB ((Kd.R_apart' HO_412002.out (Kd.R_typed HO_416000.out) (by decide))) hkp (fun k_ hk_ hs_ => (hk_.2) hs_)) (fun k_ hk_ => hk_.1.1)); have n1_ := mk_ (Kd.R_reok rfl hy0 (fun k_ e_ => HO_416000.out.1 k_ e_)); have n2_ := mk_ (Kd.R_mono (ok' := fun k_ => some k_ ≠ (.slice Ao22 t406.length co22 : Value).ownBlock) (Kd.R_keptB ((Kd.R_apart' HO_424002.out (Kd.R_typed HO_416000.out) (by decide))) hkp (fun k_ hk_ hs_ => (hk_.2) hs_)) (fun k_ hk_ => hk_.1.1)); have n3_ := mk_ (blk_kept (bp_ BK399) hkp (fun hs_ => (fun e_ => (Kd.R_ne HO_416000.out BK399.out (by decide)) e_) hs_)); have n4_ := mk_ (blk_kept (bp_ BK411) hkp (fun hs_ => (fun e_ => (Kd.R_ne HO_416000.out BK411.out (by decide)) e_) hs_)); have n5_ := mk_ (blk_kept (bp_ BK415) hkp (fun hs_ => (fun e_ => (Kd.R_ne HO_416000.out BK415.out (by decide)) e_) hs_)); have n6_ := mk_ (blk_kept (bp_ BK423) hkp (fun hs_ => (fun e_ => (Kd.R_ne HO_416000.out BK423.out (by decide)) e_) hs_)); have n7_ := mk_ (Kd.R_mono (ok' := fun k_ => some k_ ≠ (.slice Ao26 t412.length co26 : Value).ownBlock) (Kd.R_keptB (HO427.out) hkp (fun k_ hk_ hs_ => (hk_.2) hs_)) (fun k_ hk_ => hk_.1.2)); have n8_ := mk_ (hb); clear HO_412002; clear HO_416000; clear HO_424002; clear BK399; clear BK411; clear BK415; clear BK423; clear HO427; clear HB; have HO_412002 := n0_; have HO_416000 := n1_; have HO_424002 := n2_; have BK399 := n3_; have BK411 := n4_; have BK415 := n5_; have BK423 := n6_; have HO427 := n7_; have HB := n8_; clear n0_ n1_ n2_ n3_ n4_ n5_ n6_ n7_ n8_; (try clear hb); (try clear hkp); (try clear hy0)))
      (try simp only [Act.put, sia_, scz_, scs_])
      go_cut [61] (fun v61 wc => ∃ (kq : Nat) (x61_51 : Bool), v61 = .bool x61_51 ∧ Aside0 (laws_FnExactNewestSnap.j1 kq t410 x61_51 l0_0 t404 t405 t406 t409 t416 t417 t418 t421 = some r) ∧ Aside0 (kq ≤ kj10) ∧ Aside0 (Kd.R (Kd.int .i64) 3 wc w.heap.size (fun k_ => some k_ ≠ ((.slice Ao36 t418.length co36) : Value).ownBlock) (.slice Ao22 t406.length co22) t406) ∧ Aside0 (Kd.R k57 57 wc w.heap.size (fun _ => True) (.slice Ao26 t412.length co26) t430) ∧ Aside0 (Kd.R (Kd.int .i64) 3 wc w.heap.size (fun k_ => some k_ ≠ ((.slice Ao22 t406.length co22) : Value).ownBlock) (.slice Ao36 t418.length co36) t418) ∧ Aside0 (wc.heap[gb399]? = some (.cells #[(.slice A0_0 l0_0.length c0_0)] 24 (0, 0))) ∧ Aside0 (wc.heap[gb411]? = some (.cells #[.int .i64 t404, .int .i64 t405, (.slice Ao22 t406.length co22), .string t409] 47 (0, 0))) ∧ Aside0 (wc.heap[gb415]? = some (.cells #[(.slice Ao26 t412.length co26)] 36 (0, 0))) ∧ Aside0 (wc.heap[gb423]? = some (.cells #[.int .i64 t416, .int .i64 t417, (.slice Ao36 t418.length co36), .string t421] 47 (0, 0))) ∧ Aside0 (Below w.heap.size w wc))
      case first =>
       have H := HC52.out
       clear HC52
       by_cases c62 : t429 < 0
       ·rw [if_pos c62] at H
        exact absurd H (by simp)
       ·rw [if_neg c62] at H
        have c62b0 : decide (t429 < 0) = false := decide_eq_false c62
        clear c62
        (first | rw [c62b0] | (simp only [i64_w, i32_w]; rw [c62b0]) | skip)
        replace H := Option.bind_eq_some_iff.mp H
        obtain ⟨t431, A630, H⟩ := H
        replace H : (if t431 = true then (laws_FnExactNewestSnap.j1 kj10 t410 (t422 != t410) l0_0 t404 t405 t406 t409 t416 t417 t418 t421) else (none)) = some r := H
        have A63 := Aside0.mk A630
        clear A630
        by_cases c64 : t431 = true
        ·subst c64
         have H1 : (laws_FnExactNewestSnap.j1 kj10 t410 (t422 != t410) l0_0 t404 t405 t406 t409 t416 t417 t418 t421) = some r := by rw [if_pos rfl] at H; exact H
         clear H
         have H := H1
         clear H1
         have H' := Aside0.mk H
         clear H
         have hnb65 := NB423_399.out
         have hnc65 := NB399_423.out
         have hnb66 := NB423_411.out
         have hnc66 := NB411_423.out
         have hnb67 := NB423_415.out
         have hnc67 := NB415_423.out
         have hcz68_0 : w61.cell? ⟨gb423, 0, none⟩ = some (.int .i64 t416) := bc_ BK423 0
         have hcz68_1 : w61.cell? ⟨gb423, 1, none⟩ = some (.int .i64 t417) := bc_ BK423 1
         have hcz68_2 : w61.cell? ⟨gb423, 2, none⟩ = some (.slice Ao36 t418.length co36) := bc_ BK423 2
         have hcz68_3 : w61.cell? ⟨gb423, 3, none⟩ = some (.string t421) := bc_ BK423 3
         have hfz68_0 := blk_frozen BK423.out 0
         have hfz68_1 := blk_frozen BK423.out 1
         have hfz68_2 := blk_frozen BK423.out 2
         have hfz68_3 := blk_frozen BK423.out 3
         have hnb69 := NB411_399.out
         have hnc69 := NB399_411.out
         have hnb70 := NB411_415.out
         have hnc70 := NB415_411.out
         have hcz71_0 : w61.cell? ⟨gb411, 0, none⟩ = some (.int .i64 t404) := bc_ BK411 0
         have hcz71_1 : w61.cell? ⟨gb411, 1, none⟩ = some (.int .i64 t405) := bc_ BK411 1
         have hcz71_2 : w61.cell? ⟨gb411, 2, none⟩ = some (.slice Ao22 t406.length co22) := bc_ BK411 2
         have hcz71_3 : w61.cell? ⟨gb411, 3, none⟩ = some (.string t409) := bc_ BK411 3
         have hfz71_0 := blk_frozen BK411.out 0
         have hfz71_1 := blk_frozen BK411.out 1
         have hfz71_2 := blk_frozen BK411.out 2
         have hfz71_3 := blk_frozen BK411.out 3
         go_wp2_with (first | (go_at_call 20; (with_reducible refine (laws_eqSnap.calls kj10 t416 t417 _ _ t418 t421 t404 t405 _ _ t406 t409 true _ ?side1 ?side2 ?side3 ?side4 A63.out).mono ?_); (case side1 => repeat (first | exact (Kd.R_reads' HO_424002.out).2.2 | (with_reducible refine Kd.C_alloc ?_ _) | (with_reducible refine Kd.C_drewN ?_ _) | (with_reducible refine Kd.C_drew ?_))); (case side2 => exact (Kd.R_reads' HO_424002.out).2.1); (case side3 => repeat (first | exact (Kd.R_reads' HO_412002.out).2.2 | (with_reducible refine Kd.C_alloc ?_ _) | (with_reducible refine Kd.C_drewN ?_ _) | (with_reducible refine Kd.C_drew ?_))); (case side4 => exact (Kd.R_reads' HO_412002.out).2.1); rintro e w72 ⟨rfl, hb⟩; replace HO_412002 := rb_ HO_412002 hb; replace HO_416000 := rb_ HO_416000 hb; replace HO_424002 := rb_ HO_424002 hb; replace HO427 := rb_ HO427 hb; replace BK399 := bb_ BK399 hb; replace BK411 := bb_ BK411 hb; replace BK415 := bb_ BK415 hb; replace BK423 := bb_ BK423 hb; replace HB := bs_ HB hb; (try clear hb)))
         go_meet
         case rel => exact ⟨_, ((t422 != t410)), (by first | rfl | (simp; done) | (simp [*]; done)), H', ⟨by have := HJ10.out; first | omega | exact Nat.le_refl _⟩, ⟨by (with_reducible repeat (first | apply Kd.R_alloc | apply Kd.R_drewN | apply Kd.R_drew)); exact HO_412002.out⟩, ⟨by (with_reducible repeat (first | apply Kd.R_alloc | apply Kd.R_drewN | apply Kd.R_drew)); exact Kd.R_mono HO_416000.out (fun _ hk => trivial)⟩, ⟨by (with_reducible repeat (first | apply Kd.R_alloc | apply Kd.R_drewN | apply Kd.R_drew)); exact HO_424002.out⟩, ⟨bf_⟩, ⟨bf_⟩, ⟨bf_⟩, ⟨bf_⟩, ⟨bw_ HB⟩⟩
        ·replace c64 := Bool.eq_false_iff.mpr c64
         subst c64
         have H1 : (none) = some r := by rw [if_neg (show ¬ (false = true) by decide)] at H; exact H
         clear H
         have H := H1
         clear H1
         exact absurd H (by simp)
      case rest =>
       clear HC52
       try clear c1
       try clear c2
       try clear p2
       try clear c3
       try clear c3b0
       try clear c4
       try clear c5
       try clear c6
       try clear c7
       try clear c8
       try clear c12
       try clear c13
       try clear c18
       try clear c19
       try clear c20
       try clear c27
       try clear c28
       try clear c32
       try clear c33
       try clear c34
       try clear c38
       try clear c39
       try clear c40
       try clear c41
       try clear c43
       try clear c44
       try clear c47
       try clear c50
       try clear c57
       try clear c58
       try clear c59
       try clear c62
       try clear c62b0
       try clear c64
       try clear c65
       try clear c66
       try clear c67
       try clear c69
       try clear c70
       try clear hcz13_0
       try clear hcz15_0
       try clear hcz21_0
       try clear hcz21_1
       try clear hcz21_2
       try clear hcz21_3
       try clear hcz23_0
       try clear hcz29_0
       try clear hcz35_0
       try clear hcz35_1
       try clear hcz35_2
       try clear hcz35_3
       try clear hcz42_0
       try clear hcz42_1
       try clear hcz42_2
       try clear hcz42_3
       try clear hcz45_0
       try clear hcz45_1
       try clear hcz45_2
       try clear hcz45_3
       try clear hcz5_0
       try clear hcz60_0
       try clear hcz68_0
       try clear hcz68_1
       try clear hcz68_2
       try clear hcz68_3
       try clear hcz71_0
       try clear hcz71_1
       try clear hcz71_2
       try clear hcz71_3
       try clear hfz13_0
       try clear hfz15_0
       try clear hfz21_0
       try clear hfz21_1
       try clear hfz21_2
       try clear hfz21_3
       try clear hfz23_0
       try clear hfz29_0
       try clear hfz35_0
       try clear hfz35_1
       try clear hfz35_2
       try clear hfz35_3
       try clear hfz42_0
       try clear hfz42_1
       try clear hfz42_2
       try clear hfz42_3
       try clear hfz45_0
       try clear hfz45_1
       try clear hfz45_2
       try clear hfz45_3
       try clear hfz5_0
       try clear hfz60_0
       try clear hfz68_0
       try clear hfz68_1
       try clear hfz68_2
       try clear hfz68_3
       try clear hfz71_0
       try clear hfz71_1
       try clear hfz71_2
       try clear hfz71_3
       try clear p2
       obtain ⟨kq, x61_51, rfl, HA, HJ51, HO_412002, HO_416000, HO_424002, BK399, BK411, BK415, BK423, HB⟩ := hcut
       have hl416000_51 := (Kd.R_reads' HO_416000.out).1
       rw [hl416000_51] at HO_416000
       (try simp only [hl416000_51])
       (try simp only [hl416000_51] at BK399)
       (try simp only [hl416000_51] at BK411)
       (try simp only [hl416000_51] at BK415)
       (try simp only [hl416000_51] at BK423)
       (try simp only [hl416000_51] at HO_412002)
       (try simp only [hl416000_51] at HO_424002)
       cases kq with
       | zero => exact absurd HA.out (by simp [laws_FnExactNewestSnap.j1])
       | succ kj51 =>
        have H := HA.out
        clear HA
        simp only [laws_FnExactNewestSnap.j1] at H
        by_cases c73 : x61_51 = true
        ·subst c73
         have H1 : (none) = some r := by rw [if_pos rfl] at H; exact H
         clear H
         have H := H1
         clear H1
         exact absurd H (by simp)
        ·replace c73 := Bool.eq_false_iff.mpr c73
         subst c73
         have H1 : ((laws_markSnap.f kj51 t416 t417 t418 t421 1).bind fun bt432 => ((laws_heldSnap.f kj51 t416 t417 bt432.2 t421 1).bind fun t434 => (if t434 < 0 then (none) else (if t434 = bt432.1 then ((laws_toDisk.f kj51 l0_0).bind fun t435 => ((impl_NewestSnap.f kj51 t435).bind fun bt438 => ((laws_eqSnap.f kj51 bt438.1 bt438.2.1 bt438.2.2.1 bt438.2.2.2.1 t404 t405 t406 t409).bind fun t446 => (if t446 = true then (laws_FnExactNewestSnap.j2 kj51 bt432.1 (bt438.2.2.2.2 != t410) t416 t417 bt432.2 t421) else (none))))) else (none))))) = some r := by rw [if_neg (show ¬ (false = true) by decide)] at H; exact H
         clear H
         have H := H1
         clear H1
         replace H := Option.bind_eq_some_iff.mp H
         obtain ⟨⟨t432, t433⟩, A740, H⟩ := H
         replace H : ((laws_heldSnap.f kj51 t416 t417 t433 t421 1).bind fun t434 => (if t434 < 0 then (none) else (if t434 = t432 then ((laws_toDisk.f kj51 l0_0).bind fun t435 => ((impl_NewestSnap.f kj51 t435).bind fun bt438 => ((laws_eqSnap.f kj51 bt438.1 bt438.2.1 bt438.2.2.1 bt438.2.2.2.1 t404 t405 t406 t409).bind fun t446 => (if t446 = true then (laws_FnExactNewestSnap.j2 kj51 t432 (bt438.2.2.2.2 != t410) t416 t417 t433 t421) else (none))))) else (none)))) = some r := H
         have A74 := Aside0.mk A740
         clear A740
         replace H := Option.bind_eq_some_iff.mp H
         obtain ⟨t434, A750, H⟩ := H
         replace H : (if t434 < 0 then (none) else (if t434 = t432 then ((laws_toDisk.f kj51 l0_0).bind fun t435 => ((impl_NewestSnap.f kj51 t435).bind fun bt438 => ((laws_eqSnap.f kj51 bt438.1 bt438.2.1 bt438.2.2.1 bt438.2.2.2.1 t404 t405 t406 t409).bind fun t446 => (if t446 = true then (laws_FnExactNewestSnap.j2 kj51 t432 (bt438.2.2.2.2 != t410) t416 t417 t433 t421) else (none))))) else (none))) = some r := H
         have A75 := Aside0.mk A750
         clear A750
         by_cases c76 : t434 < 0
         ·rw [if_pos c76] at H
          exact absurd H (by simp)
         ·rw [if_neg c76] at H
          have c76b0 : decide (t434 < 0) = false := decide_eq_false c76
          clear c76
          by_cases c77 : t434 = t432
          ·rw [if_pos c77] at H
           have c77b0 : (t434 == t432) = true := beq_iff_eq.mpr c77
           have c77b1 : (t434 != t432) = false := bne_eq_false_iff_eq.mpr c77
           clear c77
           replace H := Option.bind_eq_some_iff.mp H
           obtain ⟨t435, A780, H⟩ := H
           replace H : ((impl_NewestSnap.f kj51 t435).bind fun bt438 => ((laws_eqSnap.f kj51 bt438.1 bt438.2.1 bt438.2.2.1 bt438.2.2.2.1 t404 t405 t406 t409).bind fun t446 => (if t446 = true then (laws_FnExactNewestSnap.j2 kj51 t432 (bt438.2.2.2.2 != t410) t416 t417 t433 t421) else (none)))) = some r := H
           have A78 := Aside0.mk A780
           clear A780
           replace H := Option.bind_eq_some_iff.mp H
           obtain ⟨⟨t438, t439, t440, t443, t444⟩, A790, H⟩ := H
           replace H : ((laws_eqSnap.f kj51 t438 t439 t440 t443 t404 t405 t406 t409).bind fun t446 => (if t446 = true then (laws_FnExactNewestSnap.j2 kj51 t432 (t444 != t410) t416 t417 t433 t421) else (none))) = some r := H
           have A79 := Aside0.mk A790
           clear A790
           have HC80 := Aside0.mk H
           clear H
           have hnb81 := NB423_399.out
           have hnc81 := NB399_423.out
           have hnb82 := NB423_411.out
           have hnc82 := NB411_423.out
           have hnb83 := NB423_415.out
           have hnc83 := NB415_423.out
           have hcz84_0 : wc.cell? ⟨gb423, 0, none⟩ = some (.int .i64 t416) := bc_ BK423 0
           have hcz84_1 : wc.cell? ⟨gb423, 1, none⟩ = some (.int .i64 t417) := bc_ BK423 1
           have hcz84_2 : wc.cell? ⟨gb423, 2, none⟩ = some (.slice Ao36 t418.length co36) := bc_ BK423 2
           have hcz84_3 : wc.cell? ⟨gb423, 3, none⟩ = some (.string t421) := bc_ BK423 3
           have hfz84_0 := blk_frozen BK423.out 0
           have hfz84_1 := blk_frozen BK423.out 1
           have hfz84_2 := blk_frozen BK423.out 2
           have hfz84_3 := blk_frozen BK423.out 3
           go_upto_region 25 with (first | ((with_reducible refine gate_callee (f := 21) rfl ?_); refine goesL_ (some 64) rfl rfl Tryz.func21 (by kernel_rfl) rfl #[.agg #[.int .i64 t416, .int .i64 t417, .slice Ao36 t418.length co36, .string t421], .int .i64 1] rfl ga_ ?_; (with_reducible refine (laws_markSnap.calls kj51 t416 t417 (fun k_ => some k_ = (.slice Ao36 t418.length co36 : Value).ownBlock) (.slice Ao36 t418.length co36) t418 t421 1 t432 t433 w _ ?side1 ?side2 A74.out).mono ?_); (case side1 => exact bw_ HB); (case side2 => exact Kd.R_tight rfl HO_424002.out); rintro e w85 ⟨rfl, hy0, hb, hkp⟩; refine ⟨_, rfl, ?_⟩; have n0_ := mk_ (Kd.R_mono (ok' := fun k_ => some k_ ≠ (.slice Ao36 t418.length co36 : Value).ownBlock) (Kd.R_keptB (HO_412002.out) hkp (fun k_ hk_ hs_ => (hk_) hs_)) (fun k_ hk_ => hk_.1)); have n1_ := mk_ (Kd.R_mono (ok' := fun k_ => True) (Kd.R_keptB ((Kd.R_apart' HO_416000.out (Kd.R_typed HO_424002.out) (by decide))) hkp (fun k_ hk_ hs_ => (hk_.2) hs_)) (fun k_ hk_ => trivial)); have n2_ := mk_ (Kd.R_reok rfl hy0 (fun k_ e_ => HO_424002.out.1 k_ e_)); have n3_ := mk_ (blk_kept (bp_ BK399) hkp (fun hs_ => (fun e_ => (Kd.R_ne HO_424002.out BK399.out (by decide)) e_) hs_)); have n4_ := mk_ (blk_kept (bp_ BK411) hkp (fun hs_ => (fun e_ => (Kd.R_ne HO_424002.out BK411.out (by decide)) e_) hs_)); have n5_ := mk_ (blk_kept (bp_ BK415) hkp (fun hs_ => (fun e_ => (Kd.R_ne HO_424002.out BK415.out (by decide)) e_) hs_)); have n6_ := mk_ (blk_kept (bp_ BK423) hkp (fun hs_ => (fun e_ => (Kd.R_ne HO_424002.out BK423.out (by decide)) e_) hs_)); have n7_ := mk_ (hb); clear HO_412002; clear HO_416000; clear HO_424002; clear BK399; clear BK411; clear BK415; clear BK423; clear HB; have HO_412002 := n0_; have HO_416000 := n1_; have HO_424002 := n2_; have BK399 := n3_; have BK411 := n4_; have BK415 := n5_; have BK423 := n6_; have HB := n7_; clear n0_ n1_ n2_ n3_ n4_ n5_ n6_ n7_; (try clear hb); (try clear hkp); (try clear hy0); have hcz86_0 : w85.cell? ⟨gb423, 0, none⟩ = some (.int .i64 t416) := bc_ BK423 0; have hcz86_1 : w85.cell? ⟨gb423, 1, none⟩ = some (.int .i64 t417) := bc_ BK423 1; have hcz86_2 : w85.cell? ⟨gb423, 2, none⟩ = some (.slice Ao36 t418.length co36) := bc_ BK423 2; have hcz86_3 : w85.cell? ⟨gb423, 3, none⟩ = some (.string t421) := bc_ BK423 3; have hfz86_0 := blk_frozen BK423.out 0; have hfz86_1 := blk_frozen BK423.out 1; have hfz86_2 := blk_frozen BK423.out 2; have hfz86_3 := blk_frozen BK423.out 3) | ((with_reducible refine gate_callee (f := 22) rfl ?_); refine goesL_ (some 67) rfl rfl Tryz.func22 (by kernel_rfl) rfl #[.agg #[.int .i64 t416, .int .i64 t417, .slice Ao36 t433.length co36, .string t421], .int .i64 1] rfl (by (try simp only [List.map_toArray, List.map_cons, List.map_nil]); first | done | (rw [show t433.length = t418.length from (Kd.R_reads' HO_424002.out).1.symm] <;> rfl) | rfl | (simp only [List.length_drop, List.length_take]; rfl)) ?_; (with_reducible refine (laws_heldSnap.calls kj51 t416 t417 _ _ t433 t421 1 t434 _ ?side1 ?side2 A75.out).mono ?_); (case side1 => repeat (first | exact (Kd.R_reads' HO_424002.out).2.2 | (with_reducible refine Kd.C_alloc ?_ _) | (with_reducible refine Kd.C_drewN ?_ _) | (with_reducible refine Kd.C_drew ?_))); (case side2 => rw [show t433.length = t418.length from (Kd.R_reads' HO_424002.out).1.symm]; exact (Kd.R_reads' HO_424002.out).2.1); rintro e w87 ⟨rfl, hb⟩; refine ⟨_, rfl, ?_⟩; replace HO_412002 := rb_ HO_412002 hb; replace HO_416000 := rb_ HO_416000 hb; replace HO_424002 := rb_ HO_424002 hb; replace BK399 := bb_ BK399 hb; replace BK411 := bb_ BK411 hb; replace BK415 := bb_ BK415 hb; replace BK423 := bb_ BK423 hb; replace HB := bs_ HB hb; (try clear hb); have hnb88 := NB399_411.out; have hnc88 := NB411_399.out; have hnb89 := NB399_415.out; have hnc89 := NB415_399.out; have hcz90_0 : w87.cell? ⟨gb399, 0, none⟩ = some (.slice A0_0 l0_0.length c0_0) := bc_ BK399 0; have hfz90_0 := blk_frozen BK399.out 0) | ((with_reducible refine gate_callee (f := 8) rfl ?_); refine goesL_ (some 75) rfl rfl Tryz.func8 (by kernel_rfl) rfl #[.agg #[.slice A0_0 l0_0.length c0_0]] rfl ga_ ?_; (with_reducible refine (laws_toDisk.calls kj51 _ _ l0_0 t435 _ ?side1 ?side2 A78.out).mono ?_); (case side1 => repeat (first | exact (Kd.C_below HR0_0.out HB.out) | (with_reducible refine Kd.C_alloc ?_ _) | (with_reducible refine Kd.C_drewN ?_ _) | (with_reducible refine Kd.C_drew ?_))); (case side2 => exact HC0_0.out); rintro e w91 ⟨v436, rfl, ho0, hb⟩; refine ⟨_, rfl, ?_⟩; have HO437 := mk_ (Kd.R_lower (Kd.R_new' ho0 (Kd.R_lt (rp_ HO_416000))) (below_size (bw_ HB))); replace HO_412002 := rb_ HO_412002 hb; replace HO_416000 := mk_ (Kd.R_elder' (rp_ HO_416000) (Kd.R_base ho0) hb); replace HO_424002 := rb_ HO_424002 hb; replace BK399 := bb_ BK399 hb; replace BK411 := bb_ BK411 hb; replace BK415 := bb_ BK415 hb; replace BK423 := bb_ BK423 hb; replace HB := bs_ HB hb; (try clear hb); (try clear ho0); obtain ⟨Ao92, co92, eo92⟩ := Kd.R_slice HO437.out; subst eo92) | ((with_reducible refine gate_callee (f := 19) rfl ?_); refine goesL_ (some 76) rfl rfl Tryz.func19 (by kernel_rfl) rfl #[.agg #[.slice Ao92 t435.length co92]] rfl ga_ ?_; (with_reducible refine (impl_NewestSnap.calls kj51 _ _ t435 t438 t439 t440 t443 t444 _ (tab22 HT HB) ?side1 ?side2 A79.out).mono ?_); (case side1 => repeat (first | exact (Kd.R_reads' HO437.out).2.2 | (with_reducible refine Kd.C_alloc ?_ _) | (with_reducible refine Kd.C_drewN ?_ _) | (with_reducible refine Kd.C_drew ?_))); (case side2 => exact (Kd.R_reads' HO437.out).2.1); rintro e w93 ⟨v441, rfl, ho0, hb⟩; refine ⟨_, rfl, ?_⟩; have HO442 := mk_ (Kd.R_lower (Kd.R_new' (Kd.R_new' ho0 (Kd.R_lt (rp_ HO_412002))) (Kd.R_lt (rp_ HO_424002))) (below_size (bw_ HB))); replace HO_412002 := mk_ (Kd.R_elder' (rp_ HO_412002) (Kd.R_base ho0) hb); replace HO_416000 := rb_ HO_416000 hb; replace HO_424002 := mk_ (Kd.R_elder' (rp_ HO_424002) (Kd.R_base ho0) hb); replace HO437 := rb_ HO437 hb; replace BK399 := bb_ BK399 hb; replace BK411 := bb_ BK411 hb; replace BK415 := bb_ BK415 hb; replace BK423 := bb_ BK423 hb; replace HB := bs_ HB hb; (try clear hb); (try clear ho0)) | ((with_reducible refine gate_dst (N := 12) rfl ?_); refine box_event ?hg (N := 12) ?hd (cs := #[.int .i64 0, .int .i64 0, .slice none 0 0, .string (⟨#[]⟩ : ByteArray)]) (t := 47) ?hr ?_; (case hd => rfl); (case hg => rfl); (case hr => first | (go_simp; done) | (go_simp; rfl)); intro gb445 hg w94 hbox hb; have BK445 := mk_ (hbox); have GW445 : Aside0 (w.heap.size ≤ gb445) := bz_ hg; have GE445 : Aside0 (w.heap.size ≤ gb445) := bz_ hg; have NB399_445 : Aside0 (gb399 ≠ gb445) := bl_ BK399 hg; have NB445_399 : Aside0 (gb445 ≠ gb399) := bg_ BK399 hg; have NB411_445 : Aside0 (gb411 ≠ gb445) := bl_ BK411 hg; have NB445_411 : Aside0 (gb445 ≠ gb411) := bg_ BK411 hg; have NB415_445 : Aside0 (gb415 ≠ gb445) := bl_ BK415 hg; have NB445_415 : Aside0 (gb445 ≠ gb415) := bg_ BK415 hg; have NB423_445 : Aside0 (gb423 ≠ gb445) := bl_ BK423 hg; have NB445_423 : Aside0 (gb445 ≠ gb423) := bg_ BK423 hg; replace HO_412002 := rb_ HO_412002 hb; replace HO_416000 := rb_ HO_416000 hb; replace HO_424002 := rb_ HO_424002 hb; replace HO437 := rb_ HO437 hb; replace HO442 := rb_ HO442 hb; replace BK399 := bb_ BK399 hb; replace BK411 := bb_ BK411 hb; replace BK415 := bb_ BK415 hb; replace BK423 := bb_ BK423 hb; replace HB := bs_ HB hb; clear hb hbox hg; have hnb95 := NB445_399.out; have hnc95 := NB399_445.out; have hnb96 := NB445_411.out; have hnc96 := NB411_445.out; have hnb97 := NB445_415.out; have hnc97 := NB415_445.out; have hnb98 := NB445_423.out; have hnc98 := NB423_445.out; have hcz99_0 : w94.cell? ⟨gb445, 0, none⟩ = some (.int .i64 0) := bc_ BK445 0; have hcz99_1 : w94.cell? ⟨gb445, 1, none⟩ = some (.int .i64 0) := bc_ BK445 1; have hcz99_2 : w94.cell? ⟨gb445, 2, none⟩ = some (.slice none 0 0) := bc_ BK445 2; have hcz99_3 : w94.cell? ⟨gb445, 3, none⟩ = some (.string (⟨#[]⟩ : ByteArray)) := bc_ BK445 3; have hfz99_0 := blk_frozen BK445.out 0; have hfz99_1 := blk_frozen BK445.out 1; have hfz99_2 := blk_frozen BK445.out 2; have hfz99_3 := blk_frozen BK445.out 3; obtain ⟨Ao100, co100, eo100⟩ := Kd.R_slice HO442.out; subst eo100))
           (try simp only [Act.put, sia_, scz_, scs_])
           go_cut [87] (fun v87 wc => ∃ (kq : Nat) (x87_79 : Bool), v87 = .bool x87_79 ∧ Aside0 (laws_FnExactNewestSnap.j2 kq t432 x87_79 t416 t417 t433 t421 = some r) ∧ Aside0 (kq ≤ kj51) ∧ Aside0 (Kd.R (Kd.int .i64) 3 wc w.heap.size (fun k_ => some k_ ≠ ((.slice Ao36 t418.length co36) : Value).ownBlock ∧ some k_ ≠ ((.slice Ao100 t440.length co100) : Value).ownBlock) (.slice Ao22 t406.length co22) t406) ∧ Aside0 (Kd.R k57 57 wc w.heap.size (fun _ => True) (.slice Ao26 t430.length co26) t430) ∧ Aside0 (Kd.R (Kd.int .i64) 3 wc w.heap.size (fun k_ => some k_ ≠ ((.slice Ao22 t406.length co22) : Value).ownBlock ∧ some k_ ≠ ((.slice Ao100 t440.length co100) : Value).ownBlock) (.slice Ao36 t418.length co36) t433) ∧ Aside0 (Kd.R (Kd.int .i64) 3 wc w.heap.size (fun k_ => some k_ ≠ ((.slice Ao22 t406.length co22) : Value).ownBlock ∧ some k_ ≠ ((.slice Ao36 t418.length co36) : Value).ownBlock) (.slice Ao100 t440.length co100) t440) ∧ Aside0 (wc.heap[gb399]? = some (.cells #[(.slice A0_0 l0_0.length c0_0)] 24 (0, 0))) ∧ Aside0 (wc.heap[gb411]? = some (.cells #[.int .i64 t404, .int .i64 t405, (.slice Ao22 t406.length co22), .string t409] 47 (0, 0))) ∧ Aside0 (wc.heap[gb415]? = some (.cells #[(.slice Ao26 t430.length co26)] 36 (0, 0))) ∧ Aside0 (wc.heap[gb423]? = some (.cells #[.int .i64 t416, .int .i64 t417, (.slice Ao36 t418.length co36), .string t421] 47 (0, 0))) ∧ Aside0 (wc.heap[gb445]? = some (.cells #[.int .i64 t438, .int .i64 t439, (.slice Ao100 t440.length co100), .string t443] 47 (0, 0))) ∧ Aside0 (Below w.heap.size w wc))
           case first =>
            have H := HC80.out
            clear HC80
            replace H := Option.bind_eq_some_iff.mp H
            obtain ⟨t446, A1010, H⟩ := H
            replace H : (if t446 = true then (laws_FnExactNewestSnap.j2 kj51 t432 (t444 != t410) t416 t417 t433 t421) else (none)) = some r := H
            have A101 := Aside0.mk A1010
            clear A1010
            by_cases c102 : t446 = true
            ·subst c102
             have H1 : (laws_FnExactNewestSnap.j2 kj51 t432 (t444 != t410) t416 t417 t433 t421) = some r := by rw [if_pos rfl] at H; exact H
             clear H
             have H := H1
             clear H1
             have H' := Aside0.mk H
             clear H
             have hnb103 := NB445_399.out
             have hnc103 := NB399_445.out
             have hnb104 := NB445_411.out
             have hnc104 := NB411_445.out
             have hnb105 := NB445_415.out
             have hnc105 := NB415_445.out
             have hnb106 := NB445_423.out
             have hnc106 := NB423_445.out
             have hcz107_0 : w94.cell? ⟨gb445, 0, none⟩ = some (.int .i64 0) := bc_ BK445 0
             have hcz107_1 : w94.cell? ⟨gb445, 1, none⟩ = some (.int .i64 0) := bc_ BK445 1
             have hcz107_2 : w94.cell? ⟨gb445, 2, none⟩ = some (.slice none 0 0) := bc_ BK445 2
             have hcz107_3 : w94.cell? ⟨gb445, 3, none⟩ = some (.string (⟨#[]⟩ : ByteArray)) := bc_ BK445 3
             have hfz107_0 := blk_frozen BK445.out 0
             have hfz107_1 := blk_frozen BK445.out 1
             have hfz107_2 := blk_frozen BK445.out 2
             have hfz107_3 := blk_frozen BK445.out 3
             have hnb108 := NB411_399.out
             have hnc108 := NB399_411.out
             have hnb109 := NB411_415.out
             have hnc109 := NB415_411.out
             have hnb110 := NB411_423.out
             have hnc110 := NB423_411.out
             have hcz111_0 : w94.cell? ⟨gb411, 0, none⟩ = some (.int .i64 t404) := bc_ BK411 0
             have hcz111_1 : w94.cell? ⟨gb411, 1, none⟩ = some (.int .i64 t405) := bc_ BK411 1
             have hcz111_2 : w94.cell? ⟨gb411, 2, none⟩ = some (.slice Ao22 t406.length co22) := bc_ BK411 2
             have hcz111_3 : w94.cell? ⟨gb411, 3, none⟩ = some (.string t409) := bc_ BK411 3
             have hfz111_0 := blk_frozen BK411.out 0
             have hfz111_1 := blk_frozen BK411.out 1
             have hfz111_2 := blk_frozen BK411.out 2
             have hfz111_3 := blk_frozen BK411.out 3
             go_wp2_with (first | ((with_reducible refine gate_callee (f := 20) rfl ?_); refine goesL_ (some 81) rfl rfl Tryz.func20 (by kernel_rfl) rfl #[.agg #[.int .i64 t438, .int .i64 t439, .slice Ao100 t440.length co100, .string t443], .agg #[.int .i64 t404, .int .i64 t405, .slice Ao22 t406.length co22, .string t409]] rfl ga_ ?_; (with_reducible refine (laws_eqSnap.calls kj51 t438 t439 _ _ t440 t443 t404 t405 _ _ t406 t409 true _ ?side1 ?side2 ?side3 ?side4 A101.out).mono ?_); (case side1 => refine (Kd.R_reads' (e := 3) (base := w.heap.size) (ok := fun k_ => ((True ∧ some k_ ≠ (.slice Ao22 t406.length co22 : Value).ownBlock) ∧ some k_ ≠ (.slice Ao36 t418.length co36 : Value).ownBlock)) (n := t440.length) (c := co100) ?_).2.2; exact (by (with_reducible repeat (first | apply Kd.R_alloc | apply Kd.R_drewN | apply Kd.R_drew)); exact (Kd.R_mono (Kd.R_far (p := ⟨gb445, 3, none⟩) (Kd.R_far (p := ⟨gb445, 2, none⟩) (Kd.R_far (p := ⟨gb445, 1, none⟩) (Kd.R_far (p := ⟨gb445, 0, none⟩) (Kd.R_types HO442.out BK445.out (by decide)) (fun _ hk => hk.2) (.int .i64 t438)) (fun _ hk => hk.2) (.int .i64 t439)) (fun _ hk => hk.2) (.slice Ao100 t440.length co100)) (fun _ hk => hk.2) (.string t443)) (fun _ h_ => h_.1)))); (case side2 => exact (Kd.R_reads' HO442.out).2.1); (case side3 => refine (Kd.R_reads' (e := 3) (base := w.heap.size) (ok := fun k_ => (some k_ ≠ (.slice Ao36 t418.length co36 : Value).ownBlock ∧ some k_ ≠ (.slice Ao100 t440.length co100 : Value).ownBlock)) (n := t406.length) (c := co22) ?_).2.2; exact (by (with_reducible repeat (first | apply Kd.R_alloc | apply Kd.R_drewN | apply Kd.R_drew)); exact (Kd.R_mono (Kd.R_far (p := ⟨gb445, 3, none⟩) (Kd.R_far (p := ⟨gb445, 2, none⟩) (Kd.R_far (p := ⟨gb445, 1, none⟩) (Kd.R_far (p := ⟨gb445, 0, none⟩) (Kd.R_types HO_412002.out BK445.out (by decide)) (fun _ hk => hk.2) (.int .i64 t438)) (fun _ hk => hk.2) (.int .i64 t439)) (fun _ hk => hk.2) (.slice Ao100 t440.length co100)) (fun _ hk => hk.2) (.string t443)) (fun _ h_ => h_.1)))); (case side4 => exact (Kd.R_reads' HO_412002.out).2.1); rintro e w112 ⟨rfl, hb⟩; refine ⟨_, rfl, ?_⟩; replace HO_412002 := mk_ (Kd.R_below (by (with_reducible repeat (first | apply Kd.R_alloc | apply Kd.R_drewN | apply Kd.R_drew)); exact (Kd.R_mono (Kd.R_far (p := ⟨gb445, 3, none⟩) (Kd.R_far (p := ⟨gb445, 2, none⟩) (Kd.R_far (p := ⟨gb445, 1, none⟩) (Kd.R_far (p := ⟨gb445, 0, none⟩) (Kd.R_types HO_412002.out BK445.out (by decide)) (fun _ hk => hk.2) (.int .i64 t438)) (fun _ hk => hk.2) (.int .i64 t439)) (fun _ hk => hk.2) (.slice Ao100 t440.length co100)) (fun _ hk => hk.2) (.string t443)) (fun _ h_ => h_.1))) hb); replace HO_416000 := mk_ (Kd.R_below (by (with_reducible repeat (first | apply Kd.R_alloc | apply Kd.R_drewN | apply Kd.R_drew)); exact (Kd.R_mono (Kd.R_far (p := ⟨gb445, 3, none⟩) (Kd.R_far (p := ⟨gb445, 2, none⟩) (Kd.R_far (p := ⟨gb445, 1, none⟩) (Kd.R_far (p := ⟨gb445, 0, none⟩) (Kd.R_types HO_416000.out BK445.out (by decide)) (fun _ hk => hk.2) (.int .i64 t438)) (fun _ hk => hk.2) (.int .i64 t439)) (fun _ hk => hk.2) (.slice Ao100 t440.length co100)) (fun _ hk => hk.2) (.string t443)) (fun _ h_ => h_.1))) hb); replace HO_424002 := mk_ (Kd.R_below (by (with_reducible repeat (first | apply Kd.R_alloc | apply Kd.R_drewN | apply Kd.R_drew)); exact (Kd.R_mono (Kd.R_far (p := ⟨gb445, 3, none⟩) (Kd.R_far (p := ⟨gb445, 2, none⟩) (Kd.R_far (p := ⟨gb445, 1, none⟩) (Kd.R_far (p := ⟨gb445, 0, none⟩) (Kd.R_types HO_424002.out BK445.out (by decide)) (fun _ hk => hk.2) (.int .i64 t438)) (fun _ hk => hk.2) (.int .i64 t439)) (fun _ hk => hk.2) (.slice Ao100 t440.length co100)) (fun _ hk => hk.2) (.string t443)) (fun _ h_ => h_.1))) hb); replace HO437 := mk_ (Kd.R_below (by (with_reducible repeat (first | apply Kd.R_alloc | apply Kd.R_drewN | apply Kd.R_drew)); exact (Kd.R_mono (Kd.R_far (p := ⟨gb445, 3, none⟩) (Kd.R_far (p := ⟨gb445, 2, none⟩) (Kd.R_far (p := ⟨gb445, 1, none⟩) (Kd.R_far (p := ⟨gb445, 0, none⟩) (Kd.R_types HO437.out BK445.out (by decide)) (fun _ hk => hk.2) (.int .i64 t438)) (fun _ hk => hk.2) (.int .i64 t439)) (fun _ hk => hk.2) (.slice Ao100 t440.length co100)) (fun _ hk => hk.2) (.string t443)) (fun _ h_ => h_.1))) hb); replace HO442 := mk_ (Kd.R_below (by (with_reducible repeat (first | apply Kd.R_alloc | apply Kd.R_drewN | apply Kd.R_drew)); exact (Kd.R_mono (Kd.R_far (p := ⟨gb445, 3, none⟩) (Kd.R_far (p := ⟨gb445, 2, none⟩) (Kd.R_far (p := ⟨gb445, 1, none⟩) (Kd.R_far (p := ⟨gb445, 0, none⟩) (Kd.R_types HO442.out BK445.out (by decide)) (fun _ hk => hk.2) (.int .i64 t438)) (fun _ hk => hk.2) (.int .i64 t439)) (fun _ hk => hk.2) (.slice Ao100 t440.length co100)) (fun _ hk => hk.2) (.string t443)) (fun _ h_ => h_.1))) hb); replace BK399 := mk_ (blk_below (g := gb399) (o := .cells #[.slice A0_0 l0_0.length c0_0] 24 (0, 0)) bf_ hb); replace BK411 := mk_ (blk_below (g := gb411) (o := .cells #[.int .i64 t404, .int .i64 t405, .slice Ao22 t406.length co22, .string t409] 47 (0, 0)) bf_ hb); replace BK415 := mk_ (blk_below (g := gb415) (o := .cells #[.slice Ao26 t430.length co26] 36 (0, 0)) bf_ hb); replace BK423 := mk_ (blk_below (g := gb423) (o := .cells #[.int .i64 t416, .int .i64 t417, .slice Ao36 t418.length co36, .string t421] 47 (0, 0)) bf_ hb); replace BK445 := mk_ (blk_below (g := gb445) (o := .cells #[.int .i64 t438, .int .i64 t439, .slice Ao100 t440.length co100, .string t443] 47 (0, 0)) bu_ hb); replace HB := bs_ HB hb; (try clear hb); (try clear hk)))
             go_meet
             case rel => exact ⟨_, ((t444 != t410)), (by first | rfl | (simp; done) | (simp [*]; done)), H', ⟨by have := HJ10.out; have := HJ51.out; first | omega | exact Nat.le_refl _⟩, ⟨by (try simp only [hl416000_51]); (with_reducible repeat (first | apply Kd.R_alloc | apply Kd.R_drewN | apply Kd.R_drew)); exact HO_412002.out⟩, ⟨by (try simp only [hl416000_51]); (with_reducible repeat (first | apply Kd.R_alloc | apply Kd.R_drewN | apply Kd.R_drew)); exact Kd.R_mono HO_416000.out (fun _ hk => trivial)⟩, ⟨by (try simp only [hl416000_51]); (with_reducible repeat (first | apply Kd.R_alloc | apply Kd.R_drewN | apply Kd.R_drew)); exact HO_424002.out⟩, ⟨by (try simp only [hl416000_51]); (with_reducible repeat (first | apply Kd.R_alloc | apply Kd.R_drewN | apply Kd.R_drew)); exact Kd.R_mono HO442.out (fun _ hk => ⟨hk.1.2, hk.2⟩)⟩, ⟨by (try simp only [hl416000_51]); (with_reducible repeat (first | refine blk_drewN ?_ _ | refine blk_drew ?_ | refine blk_alloc ?_ _)); exact BK399.out⟩, ⟨by (try simp only [hl416000_51]); (with_reducible repeat (first | refine blk_drewN ?_ _ | refine blk_drew ?_ | refine blk_alloc ?_ _)); exact BK411.out⟩, ⟨by (try simp only [hl416000_51]); (with_reducible repeat (first | refine blk_drewN ?_ _ | refine blk_drew ?_ | refine blk_alloc ?_ _)); exact BK415.out⟩, ⟨by (try simp only [hl416000_51]); (with_reducible repeat (first | refine blk_drewN ?_ _ | refine blk_drew ?_ | refine blk_alloc ?_ _)); exact BK423.out⟩, ⟨by (try simp only [hl416000_51]); (with_reducible repeat (first | refine blk_drewN ?_ _ | refine blk_drew ?_ | refine blk_alloc ?_ _)); exact BK445.out⟩, ⟨bw_ HB⟩⟩
            ·replace c102 := Bool.eq_false_iff.mpr c102
             subst c102
             have H1 : (none) = some r := by rw [if_neg (show ¬ (false = true) by decide)] at H; exact H
             clear H
             have H := H1
             clear H1
             exact absurd H (by simp)
           case rest =>
            clear HC80
            try clear c1
            try clear c2
            try clear p2
            try clear c3
            try clear c3b0
            try clear c4
            try clear c5
            try clear c6
            try clear c7
            try clear c8
            try clear c9
            try clear c10
            try clear c11
            try clear c12
            try clear c13
            try clear c18
            try clear c19
            try clear c20
            try clear c21
            try clear c22
            try clear c27
            try clear c28
            try clear c32
            try clear c33
            try clear c34
            try clear c38
            try clear c39
            try clear c40
            try clear c41
            try clear c43
            try clear c44
            try clear c47
            try clear c50
            try clear c57
            try clear c58
            try clear c59
            try clear c62
            try clear c62b0
            try clear c64
            try clear c65
            try clear c66
            try clear c67
            try clear c69
            try clear c70
            try clear c73
            try clear c76
            try clear c76b0
            try clear c77
            try clear c77b0
            try clear c77b1
            try clear c81
            try clear c82
            try clear c83
            try clear c88
            try clear c89
            try clear c95
            try clear c96
            try clear c97
            try clear c98
            try clear c102
            try clear c103
            try clear c104
            try clear c105
            try clear c106
            try clear c108
            try clear c109
            try clear c110
            try clear hcz107_0
            try clear hcz107_1
            try clear hcz107_2
            try clear hcz107_3
            try clear hcz111_0
            try clear hcz111_1
            try clear hcz111_2
            try clear hcz111_3
            try clear hcz13_0
            try clear hcz15_0
            try clear hcz21_0
            try clear hcz21_1
            try clear hcz21_2
            try clear hcz21_3
            try clear hcz23_0
            try clear hcz29_0
            try clear hcz35_0
            try clear hcz35_1
            try clear hcz35_2
            try clear hcz35_3
            try clear hcz42_0
            try clear hcz42_1
            try clear hcz42_2
            try clear hcz42_3
            try clear hcz45_0
            try clear hcz45_1
            try clear hcz45_2
            try clear hcz45_3
            try clear hcz5_0
            try clear hcz60_0
            try clear hcz68_0
            try clear hcz68_1
            try clear hcz68_2
            try clear hcz68_3
            try clear hcz71_0
            try clear hcz71_1
            try clear hcz71_2
            try clear hcz71_3
            try clear hcz84_0
            try clear hcz84_1
            try clear hcz84_2
            try clear hcz84_3
            try clear hcz86_0
            try clear hcz86_1
            try clear hcz86_2
            try clear hcz86_3
            try clear hcz90_0
            try clear hcz99_0
            try clear hcz99_1
            try clear hcz99_2
            try clear hcz99_3
            try clear hfz107_0
            try clear hfz107_1
            try clear hfz107_2
            try clear hfz107_3
            try clear hfz111_0
            try clear hfz111_1
            try clear hfz111_2
            try clear hfz111_3
            try clear hfz13_0
            try clear hfz15_0
            try clear hfz21_0
            try clear hfz21_1
            try clear hfz21_2
            try clear hfz21_3
            try clear hfz23_0
            try clear hfz29_0
            try clear hfz35_0
            try clear hfz35_1
            try clear hfz35_2
            try clear hfz35_3
            try clear hfz42_0
            try clear hfz42_1
            try clear hfz42_2
            try clear hfz42_3
            try clear hfz45_0
            try clear hfz45_1
            try clear hfz45_2
            try clear hfz45_3
            try clear hfz5_0
            try clear hfz60_0
            try clear hfz68_0
            try clear hfz68_1
            try clear hfz68_2
            try clear hfz68_3
            try clear hfz71_0
            try clear hfz71_1
            try clear hfz71_2
            try clear hfz71_3
            try clear hfz84_0
            try clear hfz84_1
            try clear hfz84_2
            try clear hfz84_3
            try clear hfz86_0
            try clear hfz86_1
            try clear hfz86_2
            try clear hfz86_3
            try clear hfz90_0
            try clear hfz99_0
            try clear hfz99_1
            try clear hfz99_2
            try clear hfz99_3
            try clear p2
            obtain ⟨kq, x87_79, rfl, HA, HJ79, HO_412002, HO_416000, HO_424002, HO_446002, BK399, BK411, BK415, BK423, BK445, HB⟩ := hcut
            have hl424002_79 := (Kd.R_reads' HO_424002.out).1
            rw [hl424002_79] at HO_424002
            (try simp only [hl424002_79])
            (try simp only [hl424002_79] at BK399)
            (try simp only [hl424002_79] at BK411)
            (try simp only [hl424002_79] at BK415)
            (try simp only [hl424002_79] at BK423)
            (try simp only [hl424002_79] at BK445)
            (try simp only [hl424002_79] at HO_412002)
            (try simp only [hl424002_79] at HO_416000)
            (try simp only [hl424002_79] at HO_446002)
            cases kq with
            | zero => exact absurd HA.out (by simp [laws_FnExactNewestSnap.j2])
            | succ kj79 =>
             have H := HA.out
             clear HA
             simp only [laws_FnExactNewestSnap.j2] at H
             by_cases c113 : x87_79 = true
             ·subst c113
              have H1 : (none) = some r := by rw [if_pos rfl] at H; exact H
              clear H
              have H := H1
              clear H1
              exact absurd H (by simp)
             ·replace c113 := Bool.eq_false_iff.mpr c113
              subst c113
              have H1 : ((laws_heldSnap.f kj79 t416 t417 t433 t421 1).bind fun t447 => (if t447 < 0 then (none) else (if t447 = t432 then (some true) else (none)))) = some r := by rw [if_neg (show ¬ (false = true) by decide)] at H; exact H
              clear H
              have H := H1
              clear H1
              replace H := Option.bind_eq_some_iff.mp H
              obtain ⟨t447, A1140, H⟩ := H
              replace H : (if t447 < 0 then (none) else (if t447 = t432 then (some true) else (none))) = some r := H
              have A114 := Aside0.mk A1140
              clear A1140
              by_cases c115 : t447 < 0
              ·rw [if_pos c115] at H
               exact absurd H (by simp)
              ·rw [if_neg c115] at H
               have c115b0 : decide (t447 < 0) = false := decide_eq_false c115
               clear c115
               by_cases c116 : t447 = t432
               ·rw [if_pos c116] at H
                have c116b0 : (t447 == t432) = true := beq_iff_eq.mpr c116
                have c116b1 : (t447 != t432) = false := bne_eq_false_iff_eq.mpr c116
                clear c116
                obtain rfl := Option.some.inj H
                have hnb117 := NB423_399.out
                have hnc117 := NB399_423.out
                have hnb118 := NB423_411.out
                have hnc118 := NB411_423.out
                have hnb119 := NB423_415.out
                have hnc119 := NB415_423.out
                have hnb120 := NB423_445.out
                have hnc120 := NB445_423.out
                have hcz121_0 : wc.cell? ⟨gb423, 0, none⟩ = some (.int .i64 t416) := bc_ BK423 0
                have hcz121_1 : wc.cell? ⟨gb423, 1, none⟩ = some (.int .i64 t417) := bc_ BK423 1
                have hcz121_2 : wc.cell? ⟨gb423, 2, none⟩ = some (.slice Ao36 t433.length co36) := bc_ BK423 2
                have hcz121_3 : wc.cell? ⟨gb423, 3, none⟩ = some (.string t421) := bc_ BK423 3
                have hfz121_0 := blk_frozen BK423.out 0
                have hfz121_1 := blk_frozen BK423.out 1
                have hfz121_2 := blk_frozen BK423.out 2
                have hfz121_3 := blk_frozen BK423.out 3
                go_wp2_with (first | ((with_reducible refine gate_callee (f := 22) rfl ?_); refine goesL_ (some 90) rfl rfl Tryz.func22 (by kernel_rfl) rfl #[.agg #[.int .i64 t416, .int .i64 t417, .slice Ao36 t433.length co36, .string t421], .int .i64 1] rfl ga_ ?_; (with_reducible refine (laws_heldSnap.calls kj79 t416 t417 _ _ t433 t421 1 t447 _ ?side1 ?side2 A114.out).mono ?_); (case side1 => repeat (first | exact (Kd.R_reads' HO_424002.out).2.2 | (with_reducible refine Kd.C_alloc ?_ _) | (with_reducible refine Kd.C_drewN ?_ _) | (with_reducible refine Kd.C_drew ?_))); (case side2 => exact (Kd.R_reads' HO_424002.out).2.1); rintro e w122 ⟨rfl, hb⟩; refine ⟨_, rfl, ?_⟩; replace HO_412002 := rb_ HO_412002 hb; replace HO_416000 := rb_ HO_416000 hb; replace HO_424002 := rb_ HO_424002 hb; replace HO_446002 := rb_ HO_446002 hb; replace BK399 := bb_ BK399 hb; replace BK411 := bb_ BK411 hb; replace BK415 := bb_ BK415 hb; replace BK423 := bb_ BK423 hb; replace BK445 := bb_ BK445 hb; replace HB := bs_ HB hb; (try clear hb)))
                go_ret
                exact ⟨er_, bw_ HB⟩
               ·rw [if_neg c116] at H
                exact absurd H (by simp)
          ·rw [if_neg c77] at H
           exact absurd H (by simp)
     ·replace c50 := Bool.eq_false_iff.mpr c50
      subst c50
      have H1 : (none) = some r := by rw [if_neg (show ¬ (false = true) by decide)] at H; exact H
      clear H
      have H := H1
      clear H1
      exact absurd H (by simp)

end Go.Proofs.YtgnmlgoadkhceaaGreatDoor.QFnExactNewestSnap
