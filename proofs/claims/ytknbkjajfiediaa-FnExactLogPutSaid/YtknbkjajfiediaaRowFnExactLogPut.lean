/- The law FnExactLogPut answers true at every input; no condition. The row: its arguments are opened here, kind by kind; what the machine does is YtknbkjajfiediaaQFnExactLogPutx9's, what is left is YtknbkjajfiediaaPureFnExactLogPut's. -/
import Derived.Test.YtknbkjajfiediaaRows
import Derived.Test.YtknbkjajfiediaaQFnExactLogPutx9
import Derived.Test.YtknbkjajfiediaaPureFnExactLogPut
import Derived.Test.YtknbkjajfiediaaTMOpen
import Derived.WalkKit
import Derived.ProofKit
import Derived.OpenShut
import Derived.ShutString
import Derived.ChangeOld
import Derived.Below
import Derived.SizedLaws
namespace Go.Proofs.Ytknbkjajfiediaa.fnExactLogPut
open Go.ChangeShapes Go.WideShapes Go.ChangeAt Go.RowKit Go.Proofs.YtknbkjajfiediaaW.PrintWords Go.Proofs.Ytknbkjajfiediaa.QFnExactLogPut
open Go.ChangeMaps (open_string shut_string)
set_option linter.unusedVariables false
theorem own : ownKnob Try.prog.godebug = none := by kernel_rfl
theorem laidOut : laidOutB Try.prog = true := by kernel_rfl
set_option maxRecDepth 100000 in
theorem lifted (os : Os) (started : os.Started) (H : Type) (enc : TypeId × Value → H) :
    ReturnsInHanded {} Try.checked os 3 .any (Rows.fnExactLogPutSpec.pre6 enc Try.prog Try.f3 Rows.fnExactLogPutRow.domain false) (Rows.fnExactLogPutSpec.post enc Try.prog Try.f3 false true false false) := by
  refine returnsInHanded_of_change_sized (C := Try.checked) own started (by kernel_rfl) Try.func3
    (ChangeSpec.witness6 (enc := enc) (C := Try.checked) false ⟨#[], #[.agg #[.int .i64 0, .int .i64 0, .slice none 0 0], .int .i64 0, .agg #[.int .i64 0, .int .i64 0, .string ByteArray.empty]], []⟩ 8 (by kernel_rfl) (by kernel_rfl) (by kernel_rfl) (by kernel_rfl)) ?_
  intro W base args ds gs before hval0 hW hcnd hsz0 _
  have hsz : (DataW.weightsEach Try.prog (Try.f3.params.toList ++ Rows.fnExactLogPutSpec.plain.varTypes Try.prog) (ds ++ gs)).all (· ≤ reachBytes) = true := hsz0
  have hval : ∀ (j : Nat) t v, Try.f3.params[j]? = some t → args[j]? = some v → Value.okWide Try.prog W .any base t v := hval0
  have hW' := hW
  obtain ⟨p, q, hA0, hV, rfl, hfz, hnd⟩ := hW
  have hA : DataW.TrodAll enc Try.prog W 0 (fun _ => true) true Try.f3.params.toList args.toList ds p := hA0
  rw [Try.params3] at hA hval hsz
  obtain ⟨v0, vs0, d0, ds0, p0, q0, hargs, rfl, rfl, h0, r0⟩ := trodAll_cons hA
  obtain ⟨v1, vs1, d1, ds1, p1, q1, rfl, rfl, rfl, h1, r1⟩ := trodAll_cons r0
  obtain ⟨v2, vs2, d2, ds2, p2, q2, rfl, rfl, rfl, h2, r2⟩ := trodAll_cons r1
  obtain ⟨rfl, rfl, rfl⟩ := trodAll_nil r2
  obtain rfl : args = #[v0, v1, v2] := by cases args; simp_all
  obtain ⟨rfl, rfl⟩ := trodVars_none hV
  have k0 := h0
  have lt0 : ∀ x ∈ p0, x.block < W.heap.size := by obtain ⟨m, hm⟩ := k0; exact DataW.trod_lt m _ _ _ hm
  obtain ⟨fuel0, hf0⟩ := h0
  obtain ⟨cs0, rfl, _⟩ := okWide_struct Try.underlying24 (hval 0 24 v0 rfl rfl)
  have op0 : O.Op enc Try.prog W 0 (fun _ => true) true _ _ 24 := (O.op_struct Try.underlying24 (by kernel_rfl) (O.fop_cons (O.op_int Try.underlying3) rfl (by kernel_rfl) (O.fop_cons (O.op_int Try.underlying3) rfl (by kernel_rfl) (O.fop_one (O.op_slice (k := k26) Try.underlying22 (by kernel_rfl) (O.op_iso (fun x : S26 => (x.f0, x.f1, x.f2)) (fun p => ⟨p.1, p.2.1, p.2.2⟩) (fun _ => rfl) (O.op_struct Try.underlying26 (by kernel_rfl) (O.fop_cons (O.op_int Try.underlying3) rfl (by kernel_rfl) (O.fop_cons (O.op_int Try.underlying3) rfl (by kernel_rfl) (O.fop_one (O.op_string Try.underlying9) rfl (by kernel_rfl))))))) rfl (by kernel_rfl)))))
  obtain ⟨⟨a0_0, a0_1, l0_2⟩, hK0, hG0⟩ := op0 _ _ _ hf0
  obtain ⟨_, _, e0, rfl, ⟨_, _, rfl, rfl, ⟨A0_2, c0_2, rfl, hc0_2, hr0_2⟩⟩⟩ := hK0
  have z0 : cs0.toList = [.int .i64 a0_0, .int .i64 a0_1, .slice A0_2 l0_2.length c0_2] := e0
  obtain rfl : cs0 = #[.int .i64 a0_0, .int .i64 a0_1, .slice A0_2 l0_2.length c0_2] := Array.ext' z0
  obtain ⟨a1, rfl, rfl, rfl, w1⟩ := open_int Try.underlying3 (hval 1 3 v1 rfl rfl) h1
  have k2 := h2
  have lt2 : ∀ x ∈ p2, x.block < W.heap.size := by obtain ⟨m, hm⟩ := k2; exact DataW.trod_lt m _ _ _ hm
  obtain ⟨fuel2, hf2⟩ := h2
  obtain ⟨cs2, rfl, _⟩ := okWide_struct Try.underlying26 (hval 2 26 v2 rfl rfl)
  have op2 : O.Op enc Try.prog W 0 (fun _ => true) true _ _ 26 := (O.op_struct Try.underlying26 (by kernel_rfl) (O.fop_cons (O.op_int Try.underlying3) rfl (by kernel_rfl) (O.fop_cons (O.op_int Try.underlying3) rfl (by kernel_rfl) (O.fop_one (O.op_string Try.underlying9) rfl (by kernel_rfl)))))
  obtain ⟨⟨a2_0, a2_1, a2_2⟩, hK2, hG2⟩ := op2 _ _ _ hf2
  obtain ⟨_, _, e2, rfl, ⟨_, _, rfl, rfl, rfl⟩⟩ := hK2
  have z2 : cs2.toList = [.int .i64 a2_0, .int .i64 a2_1, .string a2_2] := e2
  obtain rfl : cs2 = #[.int .i64 a2_0, .int .i64 a2_1, .string a2_2] := Array.ext' z2
  clear hA0 hval0 hsz0 hsz
  obtain ⟨k, h⟩ := Pure.FnExactLogPut a0_0 a0_1 l0_2 a1 a2_0 a2_1 a2_2 hG0 w1 hG2
  refine (laws_FnExactLogPut.calls k a0_0 a0_1 _ _ l0_2 a1 a2_0 a2_1 a2_2 true W hr0_2 hc0_2 h).mono fun e W' ⟨he, bel0⟩ => ?_
  have bel : Below W.heap.size W W' := bel0
  subst he
  exact ⟨_, rfl, _, _, _, [], _, [], hW', trodAll_mk1 (shut_bool Try.underlying4 _), (trodAll_cons_mk (Below.trod laidOut (by kernel_rfl) (of_decide_eq_true (by kernel_rfl)) k0 bel lt0) (trodAll_cons_mk (shut_int Try.underlying3 w1) (trodAll_cons_mk (Below.trod laidOut (by kernel_rfl) (of_decide_eq_true (by kernel_rfl)) k2 bel lt2) trodAll_mk0))), rfl, bel.frame _, fun h => by cases h⟩
theorem over : Rows.fnExactLogPutRow.holds Try.pinned (OpenSpec.ofChange Rows.fnExactLogPutSpec) :=
  OpenClaim.holds_of_wide 3 Try.f3 rfl rfl rfl rfl rfl rfl rfl ⟨rfl, rfl, rfl, rfl, rfl⟩ rfl rfl rfl rfl rfl (by kernel_rfl) Try.func3 (by kernel_rfl)
    (of_decide_eq_true (by kernel_rfl)) (by unfold Func.isWrapper; first | (rw [if_pos (by decide +kernel)]; kernel_rfl) | (rw [if_neg (by decide +kernel)]; exact ⟨rfl, rfl⟩))
    (fun os started H enc _ => lifted os started H enc)
theorem proved : Rows.FnExactLogPutSaid := over
#print axioms proved
end Go.Proofs.Ytknbkjajfiediaa.fnExactLogPut
namespace Go.Proofs.Ytknbkjajfiediaa
/-- The row, under a short name, for the claim. -/
theorem fnExactLogPut_holds : Rows.FnExactLogPutSaid := fnExactLogPut.proved
end Go.Proofs.Ytknbkjajfiediaa
