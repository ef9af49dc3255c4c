/- The law FnExactLogBehind answers true at every input; no condition. The row: its arguments are opened here, kind by kind; what the machine does is YtcbfdokmkhmabaaQFnExactLogBehindx9's, what is left is YtcbfdokmkhmabaaPureFnExactLogBehind's. -/
import Derived.Test.YtcbfdokmkhmabaaRows
import Derived.Test.YtcbfdokmkhmabaaQFnExactLogBehindx9
import Derived.Test.YtcbfdokmkhmabaaPureFnExactLogBehind
import Derived.Test.YtcbfdokmkhmabaaTMOpen
import Derived.WalkKit
import Derived.ProofKit
import Derived.OpenShut
import Derived.ShutString
import Derived.ChangeOld
import Derived.Below
import Derived.SizedLaws
namespace Go.Proofs.Ytcbfdokmkhmabaa.fnExactLogBehind
open Go.ChangeShapes Go.WideShapes Go.ChangeAt Go.RowKit Go.Proofs.YtcbfdokmkhmabaaW.PrintWords Go.Proofs.Ytcbfdokmkhmabaa.QFnExactLogBehind
open Go.ChangeMaps (open_string shut_string)
set_option linter.unusedVariables false
theorem own : ownKnob Try.prog.godebug = none := by kernel_rfl
theorem laidOut : laidOutB Try.prog = true := by kernel_rfl
set_option maxRecDepth 100000 in
theorem lifted (os : Os) (started : os.Started) (H : Type) (enc : TypeId × Value → H) :
    ReturnsInHanded {} Try.checked os 5 .any (Rows.fnExactLogBehindSpec.pre6 enc Try.prog Try.f5 Rows.fnExactLogBehindRow.domain false) (Rows.fnExactLogBehindSpec.post enc Try.prog Try.f5 false true false false) := by
  refine returnsInHanded_of_change_sized (C := Try.checked) own started (by kernel_rfl) Try.func5
    (ChangeSpec.witness6 (enc := enc) (C := Try.checked) false ⟨#[], #[.agg #[.int .i64 0, .int .i64 0, .slice none 0 0], .int .i64 0, .int .i64 0], []⟩ 8 (by kernel_rfl) (by kernel_rfl) (by kernel_rfl) (by kernel_rfl)) ?_
  intro W base args ds gs before hval0 hW hcnd hsz0 _
  have hsz : (DataW.weightsEach Try.prog (Try.f5.params.toList ++ Rows.fnExactLogBehindSpec.plain.varTypes Try.prog) (ds ++ gs)).all (· ≤ reachBytes) = true := hsz0
  have hval : ∀ (j : Nat) t v, Try.f5.params[j]? = some t → args[j]? = some v → Value.okWide Try.prog W .any base t v := hval0
  have hW' := hW
  obtain ⟨p, q, hA0, hV, rfl, hfz, hnd⟩ := hW
  have hA : DataW.TrodAll enc Try.prog W 0 (fun _ => true) true Try.f5.params.toList args.toList ds p := hA0
  rw [Try.params5] at hA hval hsz
  obtain ⟨v0, vs0, d0, ds0, p0, q0, hargs, rfl, rfl, h0, r0⟩ := trodAll_cons hA
  obtain ⟨v1, vs1, d1, ds1, p1, q1, rfl, rfl, rfl, h1, r1⟩ := trodAll_cons r0
  obtain ⟨v2, vs2, d2, ds2, p2, q2, rfl, rfl, rfl, h2, r2⟩ := trodAll_cons r1
  obtain ⟨rfl, rfl, rfl⟩ := trodAll_nil r2
  obtain rfl : args = #[v0, v1, v2] := by cases args; simp_all
  obtain ⟨rfl, rfl⟩ := trodVars_none hV
  have k0 := h0
  have lt0 : ∀ x ∈ p0, x.block < W.heap.size := by obtain ⟨m, hm⟩ := k0; exact DataW.trod_lt m _ _ _ hm
  obtain ⟨fuel0, hf0⟩ := h0
  obtain ⟨cs0, rfl, _⟩ := okWide_struct Try.underlying24 (hval 0 24 v0 rfl rfl)
  have op0 : O.Op enc Try.prog W 0 (fun _ => true) true _ _ 24 := (O.op_struct Try.underlying24 (by kernel_rfl) (O.fop_cons (O.op_int Try.underlying3) rfl (by kernel_rfl) (O.fop_cons (O.op_int Try.underlying3) rfl (by kernel_rfl) (O.fop_one (O.op_slice (k := k34) Try.underlying22 (by kernel_rfl) (O.op_iso (fun x : S34 => (x.f0, x.f1, x.f2)) (fun p => ⟨p.1, p.2.1, p.2.2⟩) (fun _ => rfl) (O.op_struct Try.underlying34 (by kernel_rfl) (O.fop_cons (O.op_int Try.underlying3) rfl (by kernel_rfl) (O.fop_cons (O.op_int Try.underlying3) rfl (by kernel_rfl) (O.fop_one (O.op_string Try.underlying9) rfl (by kernel_rfl))))))) rfl (by kernel_rfl)))))
  obtain ⟨⟨a0_0, a0_1, l0_2⟩, hK0, hG0⟩ := op0 _ _ _ hf0
  obtain ⟨_, _, e0, rfl, ⟨_, _, rfl, rfl, ⟨A0_2, c0_2, rfl, hc0_2, hr0_2⟩⟩⟩ := hK0
  have z0 : cs0.toList = [.int .i64 a0_0, .int .i64 a0_1, .slice A0_2 l0_2.length c0_2] := e0
  obtain rfl : cs0 = #[.int .i64 a0_0, .int .i64 a0_1, .slice A0_2 l0_2.length c0_2] := Array.ext' z0
  obtain ⟨a1, rfl, rfl, rfl, w1⟩ := open_int Try.underlying3 (hval 1 3 v1 rfl rfl) h1
  obtain ⟨a2, rfl, rfl, rfl, w2⟩ := open_int Try.underlying3 (hval 2 3 v2 rfl rfl) h2
  clear hA0 hval0 hsz0 hsz
  obtain ⟨k, h⟩ := Pure.FnExactLogBehind a0_0 a0_1 l0_2 a1 a2 hG0 w1 w2
  refine (laws_FnExactLogBehind.calls k a0_0 a0_1 _ _ l0_2 a1 a2 true W hr0_2 hc0_2 h).mono fun e W' ⟨he, bel0⟩ => ?_
  have bel : Below W.heap.size W W' := bel0
  subst he
  exact ⟨_, rfl, _, _, _, [], _, [], hW', trodAll_mk1 (shut_bool Try.underlying4 _), (trodAll_cons_mk (Below.trod laidOut (by kernel_rfl) (of_decide_eq_true (by kernel_rfl)) k0 bel lt0) (trodAll_cons_mk (shut_int Try.underlying3 w1) (trodAll_cons_mk (shut_int Try.underlying3 w2) trodAll_mk0))), rfl, bel.frame _, fun h => by cases h⟩
theorem over : Rows.fnExactLogBehindRow.holds Try.pinned (OpenSpec.ofChange Rows.fnExactLogBehindSpec) :=
  OpenClaim.holds_of_wide 5 Try.f5 rfl rfl rfl rfl rfl rfl rfl ⟨rfl, rfl, rfl, rfl, rfl⟩ rfl rfl rfl rfl rfl (by kernel_rfl) Try.func5 (by kernel_rfl)
    (of_decide_eq_true (by kernel_rfl)) (by unfold Func.isWrapper; first | (rw [if_pos (by decide +kernel)]; kernel_rfl) | (rw [if_neg (by decide +kernel)]; exact ⟨rfl, rfl⟩))
    (fun os started H enc _ => lifted os started H enc)
theorem proved : Rows.FnExactLogBehindSaid := over
#print axioms proved
end Go.Proofs.Ytcbfdokmkhmabaa.fnExactLogBehind
namespace Go.Proofs.Ytcbfdokmkhmabaa
/-- The row, under a short name, for the claim. -/
theorem fnExactLogBehind_holds : Rows.FnExactLogBehindSaid := fnExactLogBehind.proved
end Go.Proofs.Ytcbfdokmkhmabaa
