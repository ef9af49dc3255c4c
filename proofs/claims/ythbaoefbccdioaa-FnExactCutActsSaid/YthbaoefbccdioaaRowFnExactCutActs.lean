/- The law FnExactCutActs answers true at every input; no condition. The row: its arguments are opened here, kind by kind; what the machine does is YthbaoefbccdioaaQFnExactCutActsx17's, what is left is YthbaoefbccdioaaPureFnExactCutActs's. -/
import Derived.Test.YthbaoefbccdioaaRows
import Derived.Test.YthbaoefbccdioaaQFnExactCutActsx17
import Derived.Test.YthbaoefbccdioaaPureFnExactCutActs
import Derived.Test.YthbaoefbccdioaaTMOpen
import Derived.WalkKit
import Derived.ProofKit
import Derived.OpenShut
import Derived.ShutString
import Derived.ChangeOld
import Derived.Below
import Derived.SizedLaws
namespace Go.Proofs.Ythbaoefbccdioaa.fnExactCutActs
open Go.ChangeShapes Go.WideShapes Go.ChangeAt Go.RowKit Go.Proofs.YthbaoefbccdioaaW.PrintWords Go.Proofs.Ythbaoefbccdioaa.QFnExactCutActs
open Go.ChangeMaps (open_string shut_string)
set_option linter.unusedVariables false
theorem own : ownKnob Try.prog.godebug = none := by kernel_rfl
theorem laidOut : laidOutB Try.prog = true := by kernel_rfl
set_option maxRecDepth 100000 in
theorem lifted (os : Os) (started : os.Started) (H : Type) (enc : TypeId × Value → H) :
    ReturnsInHanded {} Try.checked os 7 .any (Rows.fnExactCutActsSpec.pre6 enc Try.prog Try.f7 Rows.fnExactCutActsRow.domain false) (Rows.fnExactCutActsSpec.post enc Try.prog Try.f7 false true false false) := by
  refine returnsInHanded_of_change_sized (C := Try.checked) own started (by kernel_rfl) Try.func7
    (ChangeSpec.witness6 (enc := enc) (C := Try.checked) false ⟨#[], #[.agg #[.slice none 0 0], .slice none 0 0, .int .i64 0, .slice none 0 0], []⟩ 8 (by kernel_rfl) (by kernel_rfl) (by kernel_rfl) (by kernel_rfl)) ?_
  intro W base args ds gs before hval0 hW hcnd hsz0 _
  have hsz : (DataW.weightsEach Try.prog (Try.f7.params.toList ++ Rows.fnExactCutActsSpec.plain.varTypes Try.prog) (ds ++ gs)).all (· ≤ reachBytes) = true := hsz0
  have hval : ∀ (j : Nat) t v, Try.f7.params[j]? = some t → args[j]? = some v → Value.okWide Try.prog W .any base t v := hval0
  have hW' := hW
  obtain ⟨p, q, hA0, hV, rfl, hfz, hnd⟩ := hW
  have hA : DataW.TrodAll enc Try.prog W 0 (fun _ => true) true Try.f7.params.toList args.toList ds p := hA0
  rw [Try.params7] at hA hval hsz
  obtain ⟨v0, vs0, d0, ds0, p0, q0, hargs, rfl, rfl, h0, r0⟩ := trodAll_cons hA
  obtain ⟨v1, vs1, d1, ds1, p1, q1, rfl, rfl, rfl, h1, r1⟩ := trodAll_cons r0
  obtain ⟨v2, vs2, d2, ds2, p2, q2, rfl, rfl, rfl, h2, r2⟩ := trodAll_cons r1
  obtain ⟨v3, vs3, d3, ds3, p3, q3, rfl, rfl, rfl, h3, r3⟩ := trodAll_cons r2
  obtain ⟨rfl, rfl, rfl⟩ := trodAll_nil r3
  obtain rfl : args = #[v0, v1, v2, v3] := by cases args; simp_all
  obtain ⟨rfl, rfl⟩ := trodVars_none hV
  have k0 := h0
  have lt0 : ∀ x ∈ p0, x.block < W.heap.size := by obtain ⟨m, hm⟩ := k0; exact DataW.trod_lt m _ _ _ hm
  obtain ⟨fuel0, hf0⟩ := h0
  obtain ⟨cs0, rfl, _⟩ := okWide_struct Try.underlying24 (hval 0 24 v0 rfl rfl)
  have op0 : O.Op enc Try.prog W 0 (fun _ => true) true _ _ 24 := (O.op_struct Try.underlying24 (by kernel_rfl) (O.fop_one (O.op_slice (k := k112) Try.underlying22 (by kernel_rfl) (O.op_iso (fun x : S112 => (x.f0, x.f1, x.f2)) (fun p => ⟨p.1, p.2.1, p.2.2⟩) (fun _ => rfl) (O.op_struct Try.underlying112 (by kernel_rfl) (O.fop_cons (O.op_string Try.underlying9) rfl (by kernel_rfl) (O.fop_cons (O.op_string Try.underlying9) rfl (by kernel_rfl) (O.fop_one (O.op_int Try.underlying3) rfl (by kernel_rfl))))))) rfl (by kernel_rfl)))
  obtain ⟨l0_0, hK0, hG0⟩ := op0 _ _ _ hf0
  obtain ⟨A0_0, c0_0, e0, hc0_0, hr0_0⟩ := hK0
  have z0 : cs0.toList = [.slice A0_0 l0_0.length c0_0] := e0
  obtain rfl : cs0 = #[.slice A0_0 l0_0.length c0_0] := Array.ext' z0
  have k1 := h1
  have lt1 : ∀ x ∈ p1, x.block < W.heap.size := by obtain ⟨m, hm⟩ := k1; exact DataW.trod_lt m _ _ _ hm
  obtain ⟨fuel1, hf1⟩ := h1
  obtain ⟨b1, len1, cap1, rfl⟩ := okWide_slice Try.underlying40 (hval 1 40 v1 rfl rfl)
  have op1 : O.Op enc Try.prog W 0 (fun _ => true) true _ _ 40 := (O.op_slice (k := k26) Try.underlying40 (by kernel_rfl) (O.op_iso (fun x : S26 => (x.f0, x.f1, x.f2, x.f3)) (fun p => ⟨p.1, p.2.1, p.2.2.1, p.2.2.2⟩) (fun _ => rfl) (O.op_struct Try.underlying26 (by kernel_rfl) (O.fop_cons (O.op_int Try.underlying3) rfl (by kernel_rfl) (O.fop_cons (O.op_string Try.underlying9) rfl (by kernel_rfl) (O.fop_cons (O.op_string Try.underlying9) rfl (by kernel_rfl) (O.fop_one (O.op_string Try.underlying9) rfl (by kernel_rfl))))))))
  obtain ⟨l1, hK1, hG1⟩ := op1 _ _ _ hf1
  obtain ⟨A1, c1, e1, hc1, hr1⟩ := hK1
  have z1 : b1 = A1 ∧ len1 = l1.length ∧ cap1 = c1 := by simpa [Value.cells] using e1
  obtain ⟨rfl, rfl, rfl⟩ := z1
  obtain ⟨a2, rfl, rfl, rfl, w2⟩ := open_int Try.underlying3 (hval 2 3 v2 rfl rfl) h2
  have k3 := h3
  have lt3 : ∀ x ∈ p3, x.block < W.heap.size := by obtain ⟨m, hm⟩ := k3; exact DataW.trod_lt m _ _ _ hm
  obtain ⟨fuel3, hf3⟩ := h3
  obtain ⟨b3, len3, cap3, rfl⟩ := okWide_slice Try.underlying51 (hval 3 51 v3 rfl rfl)
  have op3 : O.Op enc Try.prog W 0 (fun _ => true) true _ _ 51 := (O.op_slice (k := (Kd.int .i64)) Try.underlying51 (by kernel_rfl) (O.op_int Try.underlying3))
  obtain ⟨l3, hK3, hG3⟩ := op3 _ _ _ hf3
  obtain ⟨A3, c3, e3, hc3, hr3⟩ := hK3
  have z3 : b3 = A3 ∧ len3 = l3.length ∧ cap3 = c3 := by simpa [Value.cells] using e3
  obtain ⟨rfl, rfl, rfl⟩ := z3
  clear hA0 hval0 hsz0 hsz
  obtain ⟨k, h⟩ := Pure.FnExactCutActs l0_0 l1 a2 l3 hG0 hG1 w2 hG3
  refine (laws_FnExactCutActs.calls k _ _ l0_0 _ _ l1 a2 _ _ l3 true W hr0_0 hc0_0 hr1 hc1 hr3 hc3 h).mono fun e W' ⟨he, bel0⟩ => ?_
  have bel : Below W.heap.size W W' := bel0
  subst he
  exact ⟨_, rfl, _, _, _, [], _, [], hW', trodAll_mk1 (shut_bool Try.underlying4 _), (trodAll_cons_mk (Below.trod laidOut (by kernel_rfl) (of_decide_eq_true (by kernel_rfl)) k0 bel lt0) (trodAll_cons_mk (Below.trod laidOut (by kernel_rfl) (of_decide_eq_true (by kernel_rfl)) k1 bel lt1) (trodAll_cons_mk (shut_int Try.underlying3 w2) (trodAll_cons_mk (Below.trod laidOut (by kernel_rfl) (of_decide_eq_true (by kernel_rfl)) k3 bel lt3) trodAll_mk0)))), rfl, bel.frame _, fun h => by cases h⟩
theorem over : Rows.fnExactCutActsRow.holds Try.pinned (OpenSpec.ofChange Rows.fnExactCutActsSpec) :=
  OpenClaim.holds_of_wide 7 Try.f7 rfl rfl rfl rfl rfl rfl rfl ⟨rfl, rfl, rfl, rfl, rfl⟩ rfl rfl rfl rfl rfl (by kernel_rfl) Try.func7 (by kernel_rfl)
    (of_decide_eq_true (by kernel_rfl)) (by unfold Func.isWrapper; first | (rw [if_pos (by decide +kernel)]; kernel_rfl) | (rw [if_neg (by decide +kernel)]; exact ⟨rfl, rfl⟩))
    (fun os started H enc _ => lifted os started H enc)
theorem proved : Rows.FnExactCutActsSaid := over
#print axioms proved
end Go.Proofs.Ythbaoefbccdioaa.fnExactCutActs
namespace Go.Proofs.Ythbaoefbccdioaa
/-- The row, under a short name, for the claim. -/
theorem fnExactCutActs_holds : Rows.FnExactCutActsSaid := fnExactCutActs.proved
end Go.Proofs.Ythbaoefbccdioaa
