/- The law FnExactShedActs answers true at every input; no condition. The row: its arguments are opened here, kind by kind; what the machine does is YtgnmlgoadkhceaaGreatDoorQFnExactShedActsx16's, what is left is YtgnmlgoadkhceaaGreatDoorPureFnExactShedActs's. -/
import Derived.Test.YtgnmlgoadkhceaaGreatDoorCards
import Derived.Test.YtgnmlgoadkhceaaGreatDoorRows
import Derived.Test.YtgnmlgoadkhceaaGreatDoorTie
import Derived.Test.YtgnmlgoadkhceaaGreatDoorQFnExactShedActsx16
import Derived.Test.YtgnmlgoadkhceaaGreatDoorPureFnExactShedActs
import Derived.Test.YtgnmlgoadkhceaaGreatDoorTMOpen
import Derived.WalkKit
import Derived.ProofKit
import Derived.OpenShut
import Derived.ShutString
import Derived.ChangeOld
import Derived.Below
import Derived.SizedLaws
import Derived.LaidMore
import Derived.Stop.LaidErr
import Derived.Stop.Joined
import Derived.SevenTiedAt
import Derived.Test.YtgnmlgoadkhceaaGreatDoorTMTab
namespace Go.Proofs.YtgnmlgoadkhceaaGreatDoor.fnExactShedActs
open Go.ChangeShapes Go.WideShapes Go.ChangeAt Go.RowKit Go.Proofs.YtgnmlgoadkhceaaGreatDoorW.PrintWords Go.Proofs.YtgnmlgoadkhceaaGreatDoor.QFnExactShedActs
open Go.ChangeMaps (open_string shut_string)
set_option linter.unusedVariables false
theorem own : ownKnob Tryz.prog.godebug = none := by kernel_rfl
theorem laidOut : laidOutB Tryz.prog = true := by kernel_rfl
/-- The heap that the initialisers leave meets the condition. -/
theorem door_met (os : Os) (args : Array Value) : laidMetH Tryz.prog Rows.fnExactShedActsRow.laid ((World.doorLaid Tryz.prog 62 os).forCall (fun _ _ => 0) ⟨#[], args, []⟩).memory :=
  laidMetH_of_parts3 (fuel := 8) (laidMet_of_run' 8 (by kernel_rfl) (by kernel_rfl)) (by kernel_rfl) (by kernel_rfl)
theorem star : "*" ++ "errors.errorString" = "*errors.errorString" := by decide
theorem rowE (u : TypeId) (h : Tryz.prog.typeName? 3 u = some "*errors.errorString") : u = 179 :=
  typeName_ptr_named (nm := "errors.errorString") (by rw [star]; kernel_rfl) (by kernel_rfl) (by decide) u (by rw [star]; exact h)
/-- What the condition says of strconv's variables. -/
theorem tab_of {W : World} (h : laidMetH Tryz.prog Rows.fnExactShedActsRow.laid W) : Tab2 W := by
  rw [MakeChecks.laidMetH_plain _ _ _ (by kernel_rfl)] at h
  have hL := h
  have t1 : Tab1 W := Lib.tabIs_of_head (g := 2) (t := 184) (e := 166) (by kernel_rfl) (by kernel_rfl) Tryz.underlying184 Tryz.underlying166 (by kernel_rfl) (by kernel_rfl) (show laidMet Tryz.prog ((_, Lib.tabData .u64 Lib.pow10Tab) :: _) W from hL.tail.tail)
  obtain ⟨a0, s0, hv0, -, -, -⟩ := laid_sentinel (g := 0) (ti := 137) hL.tail.tail.tail.tail (by kernel_rfl) (by kernel_rfl) Tryz.underlying137 rowE Tryz.underlying179 Tryz.underlying181 rfl rfl Tryz.underlying9 (by kernel_rfl) (by kernel_rfl)
  obtain ⟨a1, s1, hv1, -, -, -⟩ := laid_sentinel (g := 1) (ti := 137) hL.tail.tail.tail (by kernel_rfl) (by kernel_rfl) Tryz.underlying137 rowE Tryz.underlying179 Tryz.underlying181 rfl rfl Tryz.underlying9 (by kernel_rfl) (by kernel_rfl)
  exact ⟨t1, ⟨_, _, hv0⟩, _, _, hv1⟩
set_option maxRecDepth 100000 in
theorem lifted (os : Os) (started : os.Started) (H : Type) (enc : TypeId × Value → H) :
    ReturnsInHanded {} Tryz.checked os 5 .any (fun w args => (Rows.fnExactShedActsSpec.pre enc Tryz.prog Tryz.f5 [] false w args ∧ laidMetH Tryz.prog Rows.fnExactShedActsRow.laid w) ∧ sizedMet enc Tryz.prog Tryz.f5 (OpenSpec.ofChange Rows.fnExactShedActsSpec) false w args) (Rows.fnExactShedActsSpec.post enc Tryz.prog Tryz.f5 false true false false) := by
  refine returnsInHanded_of_change_and (C := Tryz.checked) (X := fun w _ => laidMetH Tryz.prog Rows.fnExactShedActsRow.laid w) (fun _ _ _ hh h => h.of_heap hh) own started (by kernel_rfl) Tryz.func5
    (ChangeSpec.witness_shaped (enc := enc) (C := Tryz.checked) (os := os) (X := fun w _ => laidMetH Tryz.prog Rows.fnExactShedActsRow.laid w) false (World.doorLaid Tryz.prog 62 os) #[.agg #[.slice none 0 0]] 8 rfl (World.shaped_of_RefB (by kernel_rfl) (by kernel_rfl)) (by kernel_rfl) (by kernel_rfl) (by kernel_rfl) (door_met os _)) ?_
  intro W base args ds gs before hval0 hW hcnd hsz0 hL _
  have hT := tab_of hL
  have hsz : (DataW.weightsEach Tryz.prog (Tryz.f5.params.toList ++ Rows.fnExactShedActsSpec.plain.varTypes Tryz.prog) (ds ++ gs)).all (· ≤ reachBytes) = true := hsz0
  have hval : ∀ (j : Nat) t v, Tryz.f5.params[j]? = some t → args[j]? = some v → Value.okWide Tryz.prog W .any base t v := hval0
  have hW' := hW
  obtain ⟨p, q, hA0, hV, rfl, hfz, hnd⟩ := hW
  have hA : DataW.TrodAll enc Tryz.prog W 0 (fun _ => true) true Tryz.f5.params.toList args.toList ds p := hA0
  rw [Tryz.params5] at hA hval hsz
  obtain ⟨v0, vs0, d0, ds0, p0, q0, hargs, rfl, rfl, h0, r0⟩ := trodAll_cons hA
  obtain ⟨rfl, rfl, rfl⟩ := trodAll_nil r0
  obtain rfl : args = #[v0] := by cases args; simp_all
  obtain ⟨rfl, rfl⟩ := trodVars_none hV
  have k0 := h0
  have lt0 : ∀ x ∈ p0, x.block < W.heap.size := by obtain ⟨m, hm⟩ := k0; exact DataW.trod_lt m _ _ _ hm
  obtain ⟨fuel0, hf0⟩ := h0
  obtain ⟨cs0, rfl, _⟩ := okWide_struct Tryz.underlying24 (hval 0 24 v0 rfl rfl)
  have op0 : O.Op enc Tryz.prog W 0 (fun _ => true) true _ _ 24 := (O.op_struct Tryz.underlying24 (by kernel_rfl) (O.fop_one (O.op_slice (k := k82) Tryz.underlying22 (by kernel_rfl) (O.op_iso (fun x : S82 => (x.f0, x.f1, x.f2)) (fun p => ⟨p.1, p.2.1, p.2.2⟩) (fun _ => rfl) (O.op_struct Tryz.underlying82 (by kernel_rfl) (O.fop_cons (O.op_string Tryz.underlying9) rfl (by kernel_rfl) (O.fop_cons (O.op_string Tryz.underlying9) rfl (by kernel_rfl) (O.fop_one (O.op_int Tryz.underlying3) rfl (by kernel_rfl))))))) rfl (by kernel_rfl)))
  obtain ⟨l0_0, hK0, hG0⟩ := op0 _ _ _ hf0
  obtain ⟨A0_0, c0_0, e0, hc0_0, hr0_0⟩ := hK0
  have z0 : cs0.toList = [.slice A0_0 l0_0.length c0_0] := e0
  obtain rfl : cs0 = #[.slice A0_0 l0_0.length c0_0] := Array.ext' z0
  clear hA0 hval0 hsz0 hsz
  obtain ⟨k, h⟩ := Pure.FnExactShedActs l0_0 hG0
  refine (laws_FnExactShedActs.calls k _ _ l0_0 true W hT hr0_0 hc0_0 h).mono fun e W' ⟨he, bel0⟩ => ?_
  have bel : Below W.heap.size W W' := bel0
  subst he
  exact ⟨_, rfl, _, _, _, [], _, [], hW', trodAll_mk1 (shut_bool Tryz.underlying4 _), (trodAll_cons_mk (Below.trod laidOut (by kernel_rfl) (of_decide_eq_true (by kernel_rfl)) k0 bel lt0) trodAll_mk0), rfl, bel.frame _, fun h => by cases h⟩
theorem over : Rows.fnExactShedActsRow.holds Tryz.pinned (OpenSpec.ofChange Rows.fnExactShedActsSpec) :=
  OpenClaim.holds_of_wide 5 Tryz.f5 rfl rfl rfl rfl rfl rfl rfl ⟨rfl, rfl, rfl, rfl, rfl⟩ rfl rfl rfl rfl rfl (by kernel_rfl) Tryz.func5 (by kernel_rfl)
    (of_decide_eq_true (by kernel_rfl)) (by unfold Func.isWrapper; first | (rw [if_pos (by decide +kernel)]; kernel_rfl) | (rw [if_neg (by decide +kernel)]; exact ⟨rfl, rfl⟩))
    (fun os started H enc _ => lifted os started H enc)
theorem proved : Rows.FnExactShedActsSaid := over
end Go.Proofs.YtgnmlgoadkhceaaGreatDoor.fnExactShedActs
namespace Go.Proofs.YtgnmlgoadkhceaaGreatDoor
/-- The row, under a short name, for the claim. -/
theorem fnExactShedActs_row : Rows.FnExactShedActsSaid := fnExactShedActs.proved
/-- The card: what is listed is tied to the program's text. -/
theorem fnExactShedActs_holds : Rows.FnExactShedActsCardSaid :=
  Claim7.holds_tied_plain_at .later [] [.data, .data, .data, .sentinel, .sentinel] true (true, "cd4cf8c0f32f6bc6cd6351c72e3a49dbad076282e2b90fad127fa4cad13f0ef8") true
    fnExactShedActs_row (fun _ h => by cases h) (by kernel_rfl) (fun _ h => by cases h) fnExactShedActs_row_tie rfl ⟨rfl, rfl⟩ (by kernel_rfl) rfl
    (fun f fn hf hfn => by
      obtain rfl : f = 5 := Option.some.inj ((show Tryz.prog.funcNamed Rows.fnExactShedActsRow.func = some 5 by kernel_rfl).symm.trans hf) |>.symm
      obtain rfl : fn = Tryz.f5 := (Option.some.inj (Tryz.func5.symm.trans hfn)).symm
      exact ⟨by kernel_rfl, fun j t ht => by
        rw [Tryz.params5] at ht
        have hm : t ∈ [24] := by simpa using Array.mem_of_getElem? ht
        have hall : ([24].all fun u => !Tryz.prog.wantsStandIn u) = true := by kernel_rfl
        exact (show Tryz.prog.wantsStandIn t = false by simpa using List.all_eq_true.1 hall t hm)⟩)
    (by kernel_rfl)
#print axioms fnExactShedActs_holds
end Go.Proofs.YtgnmlgoadkhceaaGreatDoor
