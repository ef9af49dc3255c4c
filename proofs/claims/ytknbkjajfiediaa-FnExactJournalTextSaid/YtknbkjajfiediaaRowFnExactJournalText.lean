/- The law FnExactJournalText answers true at every input; no condition. The row: its arguments are opened here, kind by kind; what the machine does is YtknbkjajfiediaaQFnExactJournalTextx11's, what is left is YtknbkjajfiediaaPureFnExactJournalText's. -/
import Derived.Test.YtknbkjajfiediaaRows
import Derived.Test.YtknbkjajfiediaaQFnExactJournalTextx11
import Derived.Test.YtknbkjajfiediaaPureFnExactJournalText
import Derived.Test.YtknbkjajfiediaaTMOpen
import Derived.WalkKit
import Derived.ProofKit
import Derived.OpenShut
import Derived.ShutString
import Derived.ChangeOld
import Derived.Below
import Derived.SizedLaws
namespace Go.Proofs.Ytknbkjajfiediaa.fnExactJournalText
open Go.ChangeShapes Go.WideShapes Go.ChangeAt Go.RowKit Go.Proofs.YtknbkjajfiediaaW.PrintWords Go.Proofs.Ytknbkjajfiediaa.QFnExactJournalText
open Go.ChangeMaps (open_string shut_string)
set_option linter.unusedVariables false
theorem own : ownKnob Try.prog.godebug = none := by kernel_rfl
theorem laidOut : laidOutB Try.prog = true := by kernel_rfl
set_option maxRecDepth 100000 in
theorem lifted (os : Os) (started : os.Started) (H : Type) (enc : TypeId × Value → H) :
    ReturnsInHanded {} Try.checked os 7 .any (Rows.fnExactJournalTextSpec.pre6 enc Try.prog Try.f7 Rows.fnExactJournalTextRow.domain false) (Rows.fnExactJournalTextSpec.post enc Try.prog Try.f7 false true false false) := by
  refine returnsInHanded_of_change_sized (C := Try.checked) own started (by kernel_rfl) Try.func7
    (ChangeSpec.witness6 (enc := enc) (C := Try.checked) false ⟨#[], #[.agg #[.int .i64 0, .int .i64 0, .int .i64 0, .int .i64 0, .int .i64 0, .slice none 0 0]], []⟩ 8 (by kernel_rfl) (by kernel_rfl) (by kernel_rfl) (by kernel_rfl)) ?_
  intro W base args ds gs before hval0 hW hcnd hsz0 _
  have hsz : (DataW.weightsEach Try.prog (Try.f7.params.toList ++ Rows.fnExactJournalTextSpec.plain.varTypes Try.prog) (ds ++ gs)).all (· ≤ reachBytes) = true := hsz0
  have hval : ∀ (j : Nat) t v, Try.f7.params[j]? = some t → args[j]? = some v → Value.okWide Try.prog W .any base t v := hval0
  have hW' := hW
  obtain ⟨p, q, hA0, hV, rfl, hfz, hnd⟩ := hW
  have hA : DataW.TrodAll enc Try.prog W 0 (fun _ => true) true Try.f7.params.toList args.toList ds p := hA0
  rw [Try.params7] at hA hval hsz
  obtain ⟨v0, vs0, d0, ds0, p0, q0, hargs, rfl, rfl, h0, r0⟩ := trodAll_cons hA
  obtain ⟨rfl, rfl, rfl⟩ := trodAll_nil r0
  obtain rfl : args = #[v0] := by cases args; simp_all
  obtain ⟨rfl, rfl⟩ := trodVars_none hV
  have k0 := h0
  have lt0 : ∀ x ∈ p0, x.block < W.heap.size := by obtain ⟨m, hm⟩ := k0; exact DataW.trod_lt m _ _ _ hm
  obtain ⟨fuel0, hf0⟩ := h0
  obtain ⟨cs0, rfl, _⟩ := okWide_struct Try.underlying72 (hval 0 72 v0 rfl rfl)
  have op0 : O.Op enc Try.prog W 0 (fun _ => true) true _ _ 72 := (O.op_struct Try.underlying72 (by kernel_rfl) (O.fop_cons (O.op_int Try.underlying3) rfl (by kernel_rfl) (O.fop_cons (O.op_int Try.underlying3) rfl (by kernel_rfl) (O.fop_cons (O.op_int Try.underlying3) rfl (by kernel_rfl) (O.fop_one (O.op_struct Try.underlying24 (by kernel_rfl) (O.fop_cons (O.op_int Try.underlying3) rfl (by kernel_rfl) (O.fop_cons (O.op_int Try.underlying3) rfl (by kernel_rfl) (O.fop_one (O.op_slice (k := k26) Try.underlying22 (by kernel_rfl) (O.op_iso (fun x : S26 => (x.f0, x.f1, x.f2)) (fun p => ⟨p.1, p.2.1, p.2.2⟩) (fun _ => rfl) (O.op_struct Try.underlying26 (by kernel_rfl) (O.fop_cons (O.op_int Try.underlying3) rfl (by kernel_rfl) (O.fop_cons (O.op_int Try.underlying3) rfl (by kernel_rfl) (O.fop_one (O.op_string Try.underlying9) rfl (by kernel_rfl))))))) rfl (by kernel_rfl))))) rfl (by kernel_rfl))))))
  obtain ⟨⟨a0_0, a0_1, a0_2, ⟨a0_3, a0_4, l0_5⟩⟩, hK0, hG0⟩ := op0 _ _ _ hf0
  obtain ⟨_, _, e0, rfl, ⟨_, _, rfl, rfl, ⟨_, _, rfl, rfl, ⟨_, _, rfl, rfl, ⟨_, _, rfl, rfl, ⟨A0_5, c0_5, rfl, hc0_5, hr0_5⟩⟩⟩⟩⟩⟩ := hK0
  have z0 : cs0.toList = [.int .i64 a0_0, .int .i64 a0_1, .int .i64 a0_2, .int .i64 a0_3, .int .i64 a0_4, .slice A0_5 l0_5.length c0_5] := e0
  obtain rfl : cs0 = #[.int .i64 a0_0, .int .i64 a0_1, .int .i64 a0_2, .int .i64 a0_3, .int .i64 a0_4, .slice A0_5 l0_5.length c0_5] := Array.ext' z0
  clear hA0 hval0 hsz0 hsz
  obtain ⟨k, h⟩ := Pure.FnExactJournalText a0_0 a0_1 a0_2 a0_3 a0_4 l0_5 hG0
  refine (laws_FnExactJournalText.calls k a0_0 a0_1 a0_2 a0_3 a0_4 _ _ l0_5 true W hr0_5 hc0_5 h).mono fun e W' ⟨he, bel0⟩ => ?_
  have bel : Below W.heap.size W W' := bel0
  subst he
  exact ⟨_, rfl, _, _, _, [], _, [], hW', trodAll_mk1 (shut_bool Try.underlying4 _), (trodAll_cons_mk (Below.trod laidOut (by kernel_rfl) (of_decide_eq_true (by kernel_rfl)) k0 bel lt0) trodAll_mk0), rfl, bel.frame _, fun h => by cases h⟩
theorem over : Rows.fnExactJournalTextRow.holds Try.pinned (OpenSpec.ofChange Rows.fnExactJournalTextSpec) :=
  OpenClaim.holds_of_wide 7 Try.f7 rfl rfl rfl rfl rfl rfl rfl ⟨rfl, rfl, rfl, rfl, rfl⟩ rfl rfl rfl rfl rfl (by kernel_rfl) Try.func7 (by kernel_rfl)
    (of_decide_eq_true (by kernel_rfl)) (by unfold Func.isWrapper; first | (rw [if_pos (by decide +kernel)]; kernel_rfl) | (rw [if_neg (by decide +kernel)]; exact ⟨rfl, rfl⟩))
    (fun os started H enc _ => lifted os started H enc)
theorem proved : Rows.FnExactJournalTextSaid := over
#print axioms proved
end Go.Proofs.Ytknbkjajfiediaa.fnExactJournalText
namespace Go.Proofs.Ytknbkjajfiediaa
/-- The row, under a short name, for the claim. -/
theorem fnExactJournalText_holds : Rows.FnExactJournalTextSaid := fnExactJournalText.proved
end Go.Proofs.Ytknbkjajfiediaa
