/- The law FnExactSnapActs answers true at every input; no condition. The row: its arguments are opened here, kind by kind; what the machine does is YtgnmlgoadkhceaaDoorQFnExactSnapActsx13's, what is left is YtgnmlgoadkhceaaDoorPureFnExactSnapActs's. -/
import Derived.Test.YtgnmlgoadkhceaaDoorCards
import Derived.Test.YtgnmlgoadkhceaaDoorRows
import Derived.Test.YtgnmlgoadkhceaaDoorTie
import Derived.Test.YtgnmlgoadkhceaaDoorQFnExactSnapActsx13
import Derived.Test.YtgnmlgoadkhceaaDoorPureFnExactSnapActs
import Derived.Test.YtgnmlgoadkhceaaDoorTMOpen
import Derived.WalkKit
import Derived.ProofKit
import Derived.OpenShut
import Derived.ShutString
import Derived.ChangeOld
import Derived.Below
import Derived.SizedLaws
import Derived.LaidMore
import Derived.Stop.LaidErr
import Derived.Stop.Joined
import Derived.SevenTiedAt
import Derived.Test.YtgnmlgoadkhceaaDoorTMTab
namespace Go.Proofs.YtgnmlgoadkhceaaDoor.fnExactSnapActs
open Go.ChangeShapes Go.WideShapes Go.ChangeAt Go.RowKit Go.Proofs.YtgnmlgoadkhceaaDoorW.PrintWords Go.Proofs.YtgnmlgoadkhceaaDoor.QFnExactSnapActs
open Go.ChangeMaps (open_string shut_string)
set_option linter.unusedVariables false
theorem own : ownKnob Tryd.prog.godebug = none := by kernel_rfl
theorem laidOut : laidOutB Tryd.prog = true := by kernel_rfl
/-- The heap that the initialisers leave meets the condition. -/
theorem door_met (os : Os) (args : Array Value) : laidMetH Tryd.prog Rows.fnExactSnapActsRow.laid ((World.doorLaid Tryd.prog 62 os).forCall (fun _ _ => 0) ⟨#[], args, []⟩).memory :=
  laidMetH_of_parts3 (fuel := 8) (laidMet_of_run' 8 (by kernel_rfl) (by kernel_rfl)) (by kernel_rfl) (by kernel_rfl)
theorem star : "*" ++ "errors.errorString" = "*errors.errorString" := by decide
theorem rowE (u : TypeId) (h : Tryd.prog.typeName? 3 u = some "*errors.errorString") : u = 143 :=
  typeName_ptr_named (nm := "errors.errorString") (by rw [star]; kernel_rfl) (by kernel_rfl) (by decide) u (by rw [star]; exact h)
/-- What the condition says of strconv's variables. -/
theorem tab_of {W : World} (h : laidMetH Tryd.prog Rows.fnExactSnapActsRow.laid W) : Tab2 W := by
  rw [MakeChecks.laidMetH_plain _ _ _ (by kernel_rfl)] at h
  have hL := h
  have t1 : Tab1 W := Lib.tabIs_of_head (g := 3) (t := 138) (e := 123) (by kernel_rfl) (by kernel_rfl) Tryd.underlying138 Tryd.underlying123 (by kernel_rfl) (by kernel_rfl) (show laidMet Tryd.prog ((_, Lib.tabData .u64 Lib.pow10Tab) :: _) W from hL.tail.tail)
  obtain ⟨a0, s0, hv0, -, -, -⟩ := laid_sentinel (g := 0) (ti := 65) hL.tail.tail.tail.tail (by kernel_rfl) (by kernel_rfl) Tryd.underlying65 rowE Tryd.underlying143 Tryd.underlying145 rfl rfl Tryd.underlying9 (by kernel_rfl) (by kernel_rfl)
  obtain ⟨a1, s1, hv1, -, -, -⟩ := laid_sentinel (g := 1) (ti := 65) hL.tail.tail.tail (by kernel_rfl) (by kernel_rfl) Tryd.underlying65 rowE Tryd.underlying143 Tryd.underlying145 rfl rfl Tryd.underlying9 (by kernel_rfl) (by kernel_rfl)
  exact ⟨t1, ⟨_, _, hv0⟩, _, _, hv1⟩
set_option maxRecDepth 100000 in
theorem lifted (os : Os) (started : os.Started) (H : Type) (enc : TypeId × Value → H) :
    ReturnsInHanded {} Tryd.checked os 8 .any (fun w args => (Rows.fnExactSnapActsSpec.pre enc Tryd.prog Tryd.f8 [] false w args ∧ laidMetH Tryd.prog Rows.fnExactSnapActsRow.laid w) ∧ sizedMet enc Tryd.prog Tryd.f8 (OpenSpec.ofChange Rows.fnExactSnapActsSpec) false w args) (Rows.fnExactSnapActsSpec.post enc Tryd.prog Tryd.f8 false true false false) := by
  refine returnsInHanded_of_change_and (C := Tryd.checked) (X := fun w _ => laidMetH Tryd.prog Rows.fnExactSnapActsRow.laid w) (fun _ _ _ hh h => h.of_heap hh) own started (by kernel_rfl) Tryd.func8
    (ChangeSpec.witness_shaped (enc := enc) (C := Tryd.checked) (os := os) (X := fun w _ => laidMetH Tryd.prog Rows.fnExactSnapActsRow.laid w) false (World.doorLaid Tryd.prog 62 os) #[.agg #[.slice none 0 0], .agg #[.int .i64 0, .int .i64 0, .slice none 0 0, .string ByteArray.empty]] 8 rfl (World.shaped_of_RefB (by kernel_rfl) (by kernel_rfl)) (by kernel_rfl) (by kernel_rfl) (by kernel_rfl) (door_met os _)) ?_
  intro W base args ds gs before hval0 hW hcnd hsz0 hL _
  have hT := tab_of hL
  have hsz : (DataW.weightsEach Tryd.prog (Tryd.f8.params.toList ++ Rows.fnExactSnapActsSpec.plain.varTypes Tryd.prog) (ds ++ gs)).all (· ≤ reachBytes) = true := hsz0
  have hval : ∀ (j : Nat) t v, Tryd.f8.params[j]? = some t → args[j]? = some v → Value.okWide Tryd.prog W .any base t v := hval0
  have hW' := hW
  obtain ⟨p, q, hA0, hV, rfl, hfz, hnd⟩ := hW
  have hA : DataW.TrodAll enc Tryd.prog W 0 (fun _ => true) true Tryd.f8.params.toList args.toList ds p := hA0
  rw [Tryd.params8] at hA hval hsz
  obtain ⟨v0, vs0, d0, ds0, p0, q0, hargs, rfl, rfl, h0, r0⟩ := trodAll_cons hA
  obtain ⟨v1, vs1, d1, ds1, p1, q1, rfl, rfl, rfl, h1, r1⟩ := trodAll_cons r0
  obtain ⟨rfl, rfl, rfl⟩ := trodAll_nil r1
  obtain rfl : args = #[v0, v1] := by cases args; simp_all
  obtain ⟨rfl, rfl⟩ := trodVars_none hV
  have k0 := h0
  have lt0 : ∀ x ∈ p0, x.block < W.heap.size := by obtain ⟨m, hm⟩ := k0; exact DataW.trod_lt m _ _ _ hm
  obtain ⟨fuel0, hf0⟩ := h0
  obtain ⟨cs0, rfl, _⟩ := okWide_struct Tryd.underlying40 (hval 0 40 v0 rfl rfl)
  have op0 : O.Op enc Tryd.prog W 0 (fun _ => true) true _ _ 40 := (O.op_struct Tryd.underlying40 (by kernel_rfl) (O.fop_one (O.op_slice (k := k99) Tryd.underlying38 (by kernel_rfl) (O.op_iso (fun x : S99 => (x.f0, x.f1, x.f2)) (fun p => ⟨p.1, p.2.1, p.2.2⟩) (fun _ => rfl) (O.op_struct Tryd.underlying99 (by kernel_rfl) (O.fop_cons (O.op_string Tryd.underlying9) rfl (by kernel_rfl) (O.fop_cons (O.op_string Tryd.underlying9) rfl (by kernel_rfl) (O.fop_one (O.op_int Tryd.underlying3) rfl (by kernel_rfl))))))) rfl (by kernel_rfl)))
  obtain ⟨l0_0, hK0, hG0⟩ := op0 _ _ _ hf0
  obtain ⟨A0_0, c0_0, e0, hc0_0, hr0_0⟩ := hK0
  have z0 : cs0.toList = [.slice A0_0 l0_0.length c0_0] := e0
  obtain rfl : cs0 = #[.slice A0_0 l0_0.length c0_0] := Array.ext' z0
  have k1 := h1
  have lt1 : ∀ x ∈ p1, x.block < W.heap.size := by obtain ⟨m, hm⟩ := k1; exact DataW.trod_lt m _ _ _ hm
  obtain ⟨fuel1, hf1⟩ := h1
  obtain ⟨cs1, rfl, _⟩ := okWide_struct Tryd.underlying43 (hval 1 43 v1 rfl rfl)
  have op1 : O.Op enc Tryd.prog W 0 (fun _ => true) true _ _ 43 := (O.op_struct Tryd.underlying43 (by kernel_rfl) (O.fop_cons (O.op_int Tryd.underlying3) rfl (by kernel_rfl) (O.fop_cons (O.op_int Tryd.underlying3) rfl (by kernel_rfl) (O.fop_cons (O.op_slice (k := (Kd.int .i64)) Tryd.underlying41 (by kernel_rfl) (O.op_int Tryd.underlying3)) rfl (by kernel_rfl) (O.fop_one (O.op_string Tryd.underlying9) rfl (by kernel_rfl))))))
  obtain ⟨⟨a1_0, a1_1, l1_2, a1_3⟩, hK1, hG1⟩ := op1 _ _ _ hf1
  obtain ⟨_, _, e1, rfl, ⟨_, _, rfl, rfl, ⟨_, _, rfl, ⟨A1_2, c1_2, rfl, hc1_2, hr1_2⟩, rfl⟩⟩⟩ := hK1
  have z1 : cs1.toList = [.int .i64 a1_0, .int .i64 a1_1, .slice A1_2 l1_2.length c1_2, .string a1_3] := e1
  obtain rfl : cs1 = #[.int .i64 a1_0, .int .i64 a1_1, .slice A1_2 l1_2.length c1_2, .string a1_3] := Array.ext' z1
  clear hA0 hval0 hsz0 hsz
  obtain ⟨k, h⟩ := Pure.FnExactSnapActs l0_0 a1_0 a1_1 l1_2 a1_3 hG0 hG1
  refine (laws_FnExactSnapActs.calls k _ _ l0_0 a1_0 a1_1 _ _ l1_2 a1_3 true W hT hr0_0 hc0_0 hr1_2 hc1_2 h).mono fun e W' ⟨he, bel0⟩ => ?_
  have bel : Below W.heap.size W W' := bel0
  subst he
  exact ⟨_, rfl, _, _, _, [], _, [], hW', trodAll_mk1 (shut_bool Tryd.underlying4 _), (trodAll_cons_mk (Below.trod laidOut (by kernel_rfl) (of_decide_eq_true (by kernel_rfl)) k0 bel lt0) (trodAll_cons_mk (Below.trod laidOut (by kernel_rfl) (of_decide_eq_true (by kernel_rfl)) k1 bel lt1) trodAll_mk0)), rfl, bel.frame _, fun h => by cases h⟩
theorem over : Rows.fnExactSnapActsRow.holds Tryd.pinned (OpenSpec.ofChange Rows.fnExactSnapActsSpec) :=
  OpenClaim.holds_of_wide 8 Tryd.f8 rfl rfl rfl rfl rfl rfl rfl ⟨rfl, rfl, rfl, rfl, rfl⟩ rfl rfl rfl rfl rfl (by kernel_rfl) Tryd.func8 (by kernel_rfl)
    (of_decide_eq_true (by kernel_rfl)) (by unfold Func.isWrapper; first | (rw [if_pos (by decide +kernel)]; kernel_rfl) | (rw [if_neg (by decide +kernel)]; exact ⟨rfl, rfl⟩))
    (fun os started H enc _ => lifted os started H enc)
theorem proved : Rows.FnExactSnapActsSaid := over
end Go.Proofs.YtgnmlgoadkhceaaDoor.fnExactSnapActs
namespace Go.Proofs.YtgnmlgoadkhceaaDoor
/-- The row, under a short name, for the claim. -/
theorem fnExactSnapActs_row : Rows.FnExactSnapActsSaid := fnExactSnapActs.proved
/-- The card: what is listed is tied to the program's text. -/
theorem fnExactSnapActs_holds : Rows.FnExactSnapActsCardSaid :=
  Claim7.holds_tied_plain_at .later [] [.data, .data, .data, .sentinel, .sentinel] true (true, "d0caafd6de98d133bbccf1178ed01912165edc0df0eb58fca103db0739da26ee") true
    fnExactSnapActs_row (fun _ h => by cases h) (by kernel_rfl) (fun _ h => by cases h) fnExactSnapActs_row_tie rfl ⟨rfl, rfl⟩ (by kernel_rfl) rfl
    (fun f fn hf hfn => by
      obtain rfl : f = 8 := Option.some.inj ((show Tryd.prog.funcNamed Rows.fnExactSnapActsRow.func = some 8 by kernel_rfl).symm.trans hf) |>.symm
      obtain rfl : fn = Tryd.f8 := (Option.some.inj (Tryd.func8.symm.trans hfn)).symm
      exact ⟨by kernel_rfl, fun j t ht => by
        rw [Tryd.params8] at ht
        have hm : t ∈ [40, 43] := by simpa using Array.mem_of_getElem? ht
        have hall : ([40, 43].all fun u => !Tryd.prog.wantsStandIn u) = true := by kernel_rfl
        exact (show Tryd.prog.wantsStandIn t = false by simpa using List.all_eq_true.1 hall t hm)⟩)
    (by kernel_rfl)
#print axioms fnExactSnapActs_holds
end Go.Proofs.YtgnmlgoadkhceaaDoor
