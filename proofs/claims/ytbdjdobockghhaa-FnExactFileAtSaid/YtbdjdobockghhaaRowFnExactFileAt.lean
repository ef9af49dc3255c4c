/- The law FnExactFileAt answers true at every input; no condition. The row: its arguments are opened here, kind by kind; what the machine does is YtbdjdobockghhaaQFnExactFileAtx2's, what is left is YtbdjdobockghhaaPureFnExactFileAt's. -/
import Derived.Test.YtbdjdobockghhaaRows
import Derived.Test.YtbdjdobockghhaaQFnExactFileAtx2
import Derived.Test.YtbdjdobockghhaaPureFnExactFileAt
import Derived.Test.YtbdjdobockghhaaMathOpen
import Derived.WalkKit
import Derived.ProofKit
import Derived.OpenShut
import Derived.ShutString
import Derived.ChangeOld
import Derived.Below
import Derived.SizedLaws
namespace Go.Proofs.Ytbdjdobockghhaa.fnExactFileAt
open Go.ChangeShapes Go.WideShapes Go.ChangeAt Go.RowKit Go.Proofs.YtbdjdobockghhaaW.PrintWords Go.Proofs.Ytbdjdobockghhaa.QFnExactFileAt
open Go.ChangeMaps (open_string shut_string)
set_option linter.unusedVariables false
theorem own : ownKnob Try.prog.godebug = none := by kernel_rfl
theorem laidOut : laidOutB Try.prog = true := by kernel_rfl
set_option maxRecDepth 100000 in
theorem lifted (os : Os) (started : os.Started) (H : Type) (enc : TypeId × Value → H) :
    ReturnsInHanded {} Try.checked os 12 .any (Rows.fnExactFileAtSpec.pre6 enc Try.prog Try.f12 Rows.fnExactFileAtRow.domain false) (Rows.fnExactFileAtSpec.post enc Try.prog Try.f12 false true false false) := by
  refine returnsInHanded_of_change_sized (C := Try.checked) own started (by kernel_rfl) Try.func12
    (ChangeSpec.witness6 (enc := enc) (C := Try.checked) false ⟨#[], #[.agg #[.slice none 0 0], .string ByteArray.empty], []⟩ 8 (by kernel_rfl) (by kernel_rfl) (by kernel_rfl) (by kernel_rfl)) ?_
  intro W base args ds gs before hval0 hW hcnd hsz0 _
  have hsz : (DataW.weightsEach Try.prog (Try.f12.params.toList ++ Rows.fnExactFileAtSpec.plain.varTypes Try.prog) (ds ++ gs)).all (· ≤ reachBytes) = true := hsz0
  have hval : ∀ (j : Nat) t v, Try.f12.params[j]? = some t → args[j]? = some v → Value.okWide Try.prog W .any base t v := hval0
  have hW' := hW
  obtain ⟨p, q, hA0, hV, rfl, hfz, hnd⟩ := hW
  have hA : DataW.TrodAll enc Try.prog W 0 (fun _ => true) true Try.f12.params.toList args.toList ds p := hA0
  rw [Try.params12] at hA hval hsz
  obtain ⟨v0, vs0, d0, ds0, p0, q0, hargs, rfl, rfl, h0, r0⟩ := trodAll_cons hA
  obtain ⟨v1, vs1, d1, ds1, p1, q1, rfl, rfl, rfl, h1, r1⟩ := trodAll_cons r0
  obtain ⟨rfl, rfl, rfl⟩ := trodAll_nil r1
  obtain rfl : args = #[v0, v1] := by cases args; simp_all
  obtain ⟨rfl, rfl⟩ := trodVars_none hV
  have k0 := h0
  have lt0 : ∀ x ∈ p0, x.block < W.heap.size := by obtain ⟨m, hm⟩ := k0; exact DataW.trod_lt m _ _ _ hm
  obtain ⟨fuel0, hf0⟩ := h0
  obtain ⟨cs0, rfl, _⟩ := okWide_struct Try.underlying64 (hval 0 64 v0 rfl rfl)
  have op0 : O.Op enc Try.prog W 0 (fun _ => true) true _ _ 64 := (O.op_struct Try.underlying64 (by kernel_rfl) (O.fop_one (O.op_slice (k := k102) Try.underlying62 (by kernel_rfl) (O.op_iso (fun x : S102 => (x.f0, x.f1, x.f2)) (fun p => ⟨p.1, p.2.1, p.2.2⟩) (fun _ => rfl) (O.op_struct Try.underlying102 (by kernel_rfl) (O.fop_cons (O.op_string Try.underlying9) rfl (by kernel_rfl) (O.fop_cons (O.op_string Try.underlying9) rfl (by kernel_rfl) (O.fop_one (O.op_int Try.underlying3) rfl (by kernel_rfl))))))) rfl (by kernel_rfl)))
  obtain ⟨l0_0, hK0, hG0⟩ := op0 _ _ _ hf0
  obtain ⟨A0_0, c0_0, e0, hc0_0, hr0_0⟩ := hK0
  have z0 : cs0.toList = [.slice A0_0 l0_0.length c0_0] := e0
  obtain rfl : cs0 = #[.slice A0_0 l0_0.length c0_0] := Array.ext' z0
  obtain ⟨a1, rfl, rfl, rfl, w1⟩ := open_string Try.underlying9 (hval 1 9 v1 rfl rfl) h1
  clear hA0 hval0 hsz0 hsz
  obtain ⟨k, h⟩ := Pure.FnExactFileAt l0_0 a1 hG0 w1
  refine (laws_FnExactFileAt.calls k _ _ l0_0 a1 true W hr0_0 hc0_0 h).mono fun e W' ⟨he, bel0⟩ => ?_
  have bel : Below W.heap.size W W' := bel0
  subst he
  exact ⟨_, rfl, _, _, _, [], _, [], hW', trodAll_mk1 (shut_bool Try.underlying4 _), (trodAll_cons_mk (Below.trod laidOut (by kernel_rfl) (of_decide_eq_true (by kernel_rfl)) k0 bel lt0) (trodAll_cons_mk (shut_string Try.underlying9 w1) trodAll_mk0)), rfl, bel.frame _, fun h => by cases h⟩
theorem over : Rows.fnExactFileAtRow.holds Try.pinned (OpenSpec.ofChange Rows.fnExactFileAtSpec) :=
  OpenClaim.holds_of_wide 12 Try.f12 rfl rfl rfl rfl rfl rfl rfl ⟨rfl, rfl, rfl, rfl, rfl⟩ rfl rfl rfl rfl rfl (by kernel_rfl) Try.func12 (by kernel_rfl)
    (of_decide_eq_true (by kernel_rfl)) (by unfold Func.isWrapper; first | (rw [if_pos (by decide +kernel)]; kernel_rfl) | (rw [if_neg (by decide +kernel)]; exact ⟨rfl, rfl⟩))
    (fun os started H enc _ => lifted os started H enc)
theorem proved : Rows.FnExactFileAtSaid := over
#print axioms proved
end Go.Proofs.Ytbdjdobockghhaa.fnExactFileAt
namespace Go.Proofs.Ytbdjdobockghhaa
/-- The row, under a short name, for the claim. -/
theorem fnExactFileAt_holds : Rows.FnExactFileAtSaid := fnExactFileAt.proved
end Go.Proofs.Ytbdjdobockghhaa
