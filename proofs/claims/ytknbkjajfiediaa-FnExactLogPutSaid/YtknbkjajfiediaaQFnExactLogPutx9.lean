/- Written by this session's own program (wip/tpl/pp.py): what the law's functions come to, and that the machine's calls do just that. -/
import Derived.Test.YtknbkjajfiediaaQFnExactLogPutx0
import Derived.Test.YtknbkjajfiediaaQFnExactLogPutx1
import Derived.Test.YtknbkjajfiediaaQFnExactLogPutx3
import Derived.Test.YtknbkjajfiediaaQFnExactLogPutx4
import Derived.Test.YtknbkjajfiediaaQFnExactLogPutx6
import Derived.Test.YtknbkjajfiediaaQFnExactLogPutx7
import Derived.Test.YtknbkjajfiediaaQFnExactLogPutx8
namespace Go.Proofs.Ytknbkjajfiediaa.QFnExactLogPut
open Go.RowKit Go.Proofs.YtknbkjajfiediaaW.PrintWords Go.Proofs.YtknbkjajfiediaaW.PrintLast Go.Proofs.YtknbkjajfiediaaW.PrintMore
attribute [local go_sem] Go.Proofs.Ytknbkjajfiediaa.Sem.string_geq Go.Proofs.Ytknbkjajfiediaa.Sem.string_leq Go.Proofs.Ytknbkjajfiediaa.Sem.string_gtr
attribute [local go_sem] max2_int min2_int max_two min_two max_three min_three max_four min_four   -- for this text's walks alone
set_option linter.unusedVariables false
set_option linter.unusedSimpArgs false

/-! ### laws_FnExactLogPut: function 3 -/
mutual
def laws_FnExactLogPut.j0 : Nat → Int → Bool → Bool → Bool → Int → Int → List (S26) → Int → Int → ByteArray → Int → Int → List (S35) → Int → Int → List (S35) → Int → Int → List (S35) → Option (Bool)
 | 0, _, _, _, _, _, _, _, _, _, _, _, _, _, _, _, _, _, _, _ => none
 | k + 1, x1, x9, x12, x55, x257000, x257001, x257002, x258000, x258001, x258002, x275000, x275001, x275002, x281000, x281001, x281002, x291000, x291001, x291002 => if x55 = true then (none) else ((laws_toLog.f k x257000 x257001 x257002).bind fun bt292 => ((laws_eqLog.f k x281000 x281001 x281002 bt292.1 bt292.2.1 bt292.2.2).bind fun t297 => (if t297 = true then ((laws_markLog.f k x281000 x281001 x281002 1).bind fun bt298 => (if bt298.1 < 0 then (none) else ((laws_eqLog.f k x291000 x291001 x291002 x275000 x275001 x275002).bind fun t300 => (if t300 = true then (laws_FnExactLogPut.j1 k x1 x9 (x12 != x9) x257000 x257001 x257002 x258000 x258001 x258002 x275000 x275001 x275002 x291000 x291001 x291002) else (none))))) else (none))))
def laws_FnExactLogPut.j1 : Nat → Int → Bool → Bool → Int → Int → List (S26) → Int → Int → ByteArray → Int → Int → List (S35) → Int → Int → List (S35) → Option (Bool)
 | 0, _, _, _, _, _, _, _, _, _, _, _, _, _, _, _ => none
 | k + 1, x1, x9, x76, x257000, x257001, x257002, x258000, x258001, x258002, x275000, x275001, x275002, x291000, x291001, x291002 => if x76 = true then (none) else ((laws_markLog.f k x291000 x291001 x291002 1).bind fun bt301 => ((laws_heldLog.f k x291000 x291001 bt301.2 1).bind fun t303 => (if t303 < 0 then (none) else (if t303 = bt301.1 then ((laws_toLog.f k x257000 x257001 x257002).bind fun bt304 => ((laws_toEntry.f x258000 x258001 x258002).bind fun bt309 => ((impl_LogPut.f k bt304.1 bt304.2.1 bt304.2.2 x1 bt309.1 bt309.2.1 bt309.2.2).bind fun bt312 => ((laws_eqLog.f k bt312.1 bt312.2.1 bt312.2.2.1 x275000 x275001 x275002).bind fun t319 => (if t319 = true then (laws_FnExactLogPut.j2 k bt301.1 (bt312.2.2.2 != x9) x291000 x291001 bt301.2) else (none)))))) else (none)))))
def laws_FnExactLogPut.j2 : Nat → Int → Bool → Int → Int → List (S35) → Option (Bool)
 | 0, _, _, _, _, _ => none
 | k + 1, x14, x105, x291000, x291001, x291002 => if x105 = true then (none) else ((laws_heldLog.f k x291000 x291001 x291002 1).bind fun t320 => (if t320 < 0 then (none) else (if t320 = x14 then (some true) else (none))))
end
def laws_FnExactLogPut.f (k : Nat) (a0_0 : Int) (a0_1 : Int) (l0_2 : List (S26)) (a1 : Int) (a2_0 : Int) (a2_1 : Int) (a2_2 : ByteArray) : Option (Bool) := (laws_szLog.f k a0_0 a0_1 l0_2 1048576).bind fun t258 => (if t258 < 0 then (some true) else ((laws_szEntry.f a2_0 a2_1 a2_2 t258).bind fun t259 => (if t259 < 0 then (some true) else ((laws_toLog.f k a0_0 a0_1 l0_2).bind fun bt260 => ((laws_toEntry.f a2_0 a2_1 a2_2).bind fun bt265 => ((spec_LogPut.f k bt260.1 bt260.2.1 bt260.2.2 a1 bt265.1 bt265.2.1 bt265.2.2).bind fun bt268 => ((laws_toLog.f k a0_0 a0_1 l0_2).bind fun bt275 => ((laws_toEntry.f a2_0 a2_1 a2_2).bind fun bt281 => ((impl_LogPut.f k bt275.1 bt275.2.1 bt275.2.2 a1 bt281.1 bt281.2.1 bt281.2.2).bind fun bt284 => ((laws_eqLog.f k bt284.1 bt284.2.1 bt284.2.2.1 bt268.1 bt268.2.1 bt268.2.2.1).bind fun t291 => (if t291 = true then (laws_FnExactLogPut.j0 k a1 bt268.2.2.2 bt284.2.2.2 (bt284.2.2.2 != bt268.2.2.2) a0_0 a0_1 l0_2 a2_0 a2_1 a2_2 bt268.1 bt268.2.1 bt268.2.2.1 bt275.1 bt275.2.1 bt275.2.2 bt284.1 bt284.2.1 bt284.2.2.1) else (none))))))))))))
theorem laws_FnExactLogPut.mono_l : ∀ k, (∀ y0 y1 y2 y3 y4 y5 y6 y7 y8 y9 y10 y11 y12 y13 y14 y15 y16 y17 y18, LeO (laws_FnExactLogPut.j0 k y0 y1 y2 y3 y4 y5 y6 y7 y8 y9 y10 y11 y12 y13 y14 y15 y16 y17 y18) (laws_FnExactLogPut.j0 (k + 1) y0 y1 y2 y3 y4 y5 y6 y7 y8 y9 y10 y11 y12 y13 y14 y15 y16 y17 y18)) ∧ (∀ y0 y1 y2 y3 y4 y5 y6 y7 y8 y9 y10 y11 y12 y13 y14, LeO (laws_FnExactLogPut.j1 k y0 y1 y2 y3 y4 y5 y6 y7 y8 y9 y10 y11 y12 y13 y14) (laws_FnExactLogPut.j1 (k + 1) y0 y1 y2 y3 y4 y5 y6 y7 y8 y9 y10 y11 y12 y13 y14)) ∧ (∀ y0 y1 y2 y3 y4, LeO (laws_FnExactLogPut.j2 k y0 y1 y2 y3 y4) (laws_FnExactLogPut.j2 (k + 1) y0 y1 y2 y3 y4))
 | 0 => ⟨fun _ _ _ _ _ _ _ _ _ _ _ _ _ _ _ _ _ _ _ r h => by simp [laws_FnExactLogPut.j0] at h, fun _ _ _ _ _ _ _ _ _ _ _ _ _ _ _ r h => by simp [laws_FnExactLogPut.j1] at h, fun _ _ _ _ _ r h => by simp [laws_FnExactLogPut.j2] at h⟩
 | k + 1 => by
  obtain ⟨ih0, ih1, ih2⟩ := laws_FnExactLogPut.mono_l k
  refine ⟨?_, ?_, ?_⟩
  ·intro y0 y1 y2 y3 y4 y5 y6 y7 y8 y9 y10 y11 y12 y13 y14 y15 y16 y17 y18
   unfold laws_FnExactLogPut.j0
   repeat' first
   | (with_reducible exact ih0 _ _ _ _ _ _ _ _ _ _ _ _ _ _ _ _ _ _ _)
   | (with_reducible exact ih1 _ _ _ _ _ _ _ _ _ _ _ _ _ _ _)
   | (with_reducible exact ih2 _ _ _ _ _)
   | (with_reducible exact impl_LogPut.mono _ _ _ _ _ _ _ _)
   | (with_reducible exact laws_eqLog.mono _ _ _ _ _ _ _)
   | (with_reducible exact laws_heldLog.mono _ _ _ _ _)
   | (with_reducible exact laws_markLog.mono _ _ _ _ _)
   | (with_reducible exact laws_szLog.mono _ _ _ _ _)
   | (with_reducible exact laws_toLog.mono _ _ _ _)
   | (with_reducible exact spec_LogPut.mono _ _ _ _ _ _ _ _)
   | (with_reducible exact LeO.refl _)
   | (with_reducible exact LeO.none _)
   | (with_reducible refine LeO.ite ?_ ?_)
   | (with_reducible refine LeO.bind ?_ (fun _ => ?_))
   | exact ih0 _ _ _ _ _ _ _ _ _ _ _ _ _ _ _ _ _ _ _
   | exact ih1 _ _ _ _ _ _ _ _ _ _ _ _ _ _ _
   | exact ih2 _ _ _ _ _
   | exact impl_LogPut.mono _ _ _ _ _ _ _ _
   | exact laws_eqLog.mono _ _ _ _ _ _ _
   | exact laws_heldLog.mono _ _ _ _ _
   | exact laws_markLog.mono _ _ _ _ _
   | exact laws_szLog.mono _ _ _ _ _
   | exact laws_toLog.mono _ _ _ _
   | exact spec_LogPut.mono _ _ _ _ _ _ _ _
   | exact LeO.none _
   | refine LeO.ite ?_ ?_
   | refine LeO.bind ?_ (fun _ => ?_)
  ·intro y0 y1 y2 y3 y4 y5 y6 y7 y8 y9 y10 y11 y12 y13 y14
   unfold laws_FnExactLogPut.j1
   repeat' first
   | (with_reducible exact ih0 _ _ _ _ _ _ _ _ _ _ _ _ _ _ _ _ _ _ _)
   | (with_reducible exact ih1 _ _ _ _ _ _ _ _ _ _ _ _ _ _ _)
   | (with_reducible exact ih2 _ _ _ _ _)
   | (with_reducible exact impl_LogPut.mono _ _ _ _ _ _ _ _)
   | (with_reducible exact laws_eqLog.mono _ _ _ _ _ _ _)
   | (with_reducible exact laws_heldLog.mono _ _ _ _ _)
   | (with_reducible exact laws_markLog.mono _ _ _ _ _)
   | (with_reducible exact laws_szLog.mono _ _ _ _ _)
   | (with_reducible exact laws_toLog.mono _ _ _ _)
   | (with_reducible exact spec_LogPut.mono _ _ _ _ _ _ _ _)
   | (with_reducible exact LeO.refl _)
   | (with_reducible exact LeO.none _)
   | (with_reducible refine LeO.ite ?_ ?_)
   | (with_reducible refine LeO.bind ?_ (fun _ => ?_))
   | exact ih0 _ _ _ _ _ _ _ _ _ _ _ _ _ _ _ _ _ _ _
   | exact ih1 _ _ _ _ _ _ _ _ _ _ _ _ _ _ _
   | exact ih2 _ _ _ _ _
   | exact impl_LogPut.mono _ _ _ _ _ _ _ _
   | exact laws_eqLog.mono _ _ _ _ _ _ _
   | exact laws_heldLog.mono _ _ _ _ _
   | exact laws_markLog.mono _ _ _ _ _
   | exact laws_szLog.mono _ _ _ _ _
   | exact laws_toLog.mono _ _ _ _
   | exact spec_LogPut.mono _ _ _ _ _ _ _ _
   | exact LeO.none _
   | refine LeO.ite ?_ ?_
   | refine LeO.bind ?_ (fun _ => ?_)
  ·intro y0 y1 y2 y3 y4
   unfold laws_FnExactLogPut.j2
   repeat' first
   | (with_reducible exact ih0 _ _ _ _ _ _ _ _ _ _ _ _ _ _ _ _ _ _ _)
   | (with_reducible exact ih1 _ _ _ _ _ _ _ _ _ _ _ _ _ _ _)
   | (with_reducible exact ih2 _ _ _ _ _)
   | (with_reducible exact impl_LogPut.mono _ _ _ _ _ _ _ _)
   | (with_reducible exact laws_eqLog.mono _ _ _ _ _ _ _)
   | (with_reducible exact laws_heldLog.mono _ _ _ _ _)
   | (with_reducible exact laws_markLog.mono _ _ _ _ _)
   | (with_reducible exact laws_szLog.mono _ _ _ _ _)
   | (with_reducible exact laws_toLog.mono _ _ _ _)
   | (with_reducible exact spec_LogPut.mono _ _ _ _ _ _ _ _)
   | (with_reducible exact LeO.refl _)
   | (with_reducible exact LeO.none _)
   | (with_reducible refine LeO.ite ?_ ?_)
   | (with_reducible refine LeO.bind ?_ (fun _ => ?_))
   | exact ih0 _ _ _ _ _ _ _ _ _ _ _ _ _ _ _ _ _ _ _
   | exact ih1 _ _ _ _ _ _ _ _ _ _ _ _ _ _ _
   | exact ih2 _ _ _ _ _
   | exact impl_LogPut.mono _ _ _ _ _ _ _ _
   | exact laws_eqLog.mono _ _ _ _ _ _ _
   | exact laws_heldLog.mono _ _ _ _ _
   | exact laws_markLog.mono _ _ _ _ _
   | exact laws_szLog.mono _ _ _ _ _
   | exact laws_toLog.mono _ _ _ _
   | exact spec_LogPut.mono _ _ _ _ _ _ _ _
   | exact LeO.none _
   | refine LeO.ite ?_ ?_
   | refine LeO.bind ?_ (fun _ => ?_)
theorem laws_FnExactLogPut.mono : ∀ a0 a1 a2 a3 a4 a5 a6 k, LeO (laws_FnExactLogPut.f k a0 a1 a2 a3 a4 a5 a6) (laws_FnExactLogPut.f (k + 1) a0 a1 a2 a3 a4 a5 a6) := by
 intro a0 a1 a2 a3 a4 a5 a6 k
 obtain ⟨ih0, ih1, ih2⟩ := laws_FnExactLogPut.mono_l k
 unfold laws_FnExactLogPut.f
 repeat' first
   | (with_reducible exact ih0 _ _ _ _ _ _ _ _ _ _ _ _ _ _ _ _ _ _ _)
   | (with_reducible exact ih1 _ _ _ _ _ _ _ _ _ _ _ _ _ _ _)
   | (with_reducible exact ih2 _ _ _ _ _)
   | (with_reducible exact impl_LogPut.mono _ _ _ _ _ _ _ _)
   | (with_reducible exact laws_eqLog.mono _ _ _ _ _ _ _)
   | (with_reducible exact laws_heldLog.mono _ _ _ _ _)
   | (with_reducible exact laws_markLog.mono _ _ _ _ _)
   | (with_reducible exact laws_szLog.mono _ _ _ _ _)
   | (with_reducible exact laws_toLog.mono _ _ _ _)
   | (with_reducible exact spec_LogPut.mono _ _ _ _ _ _ _ _)
   | (with_reducible exact LeO.refl _)
   | (with_reducible exact LeO.none _)
   | (with_reducible refine LeO.ite ?_ ?_)
   | (with_reducible refine LeO.bind ?_ (fun _ => ?_))
   | exact ih0 _ _ _ _ _ _ _ _ _ _ _ _ _ _ _ _ _ _ _
   | exact ih1 _ _ _ _ _ _ _ _ _ _ _ _ _ _ _
   | exact ih2 _ _ _ _ _
   | exact impl_LogPut.mono _ _ _ _ _ _ _ _
   | exact laws_eqLog.mono _ _ _ _ _ _ _
   | exact laws_heldLog.mono _ _ _ _ _
   | exact laws_markLog.mono _ _ _ _ _
   | exact laws_szLog.mono _ _ _ _ _
   | exact laws_toLog.mono _ _ _ _
   | exact spec_LogPut.mono _ _ _ _ _ _ _ _
   | exact LeO.none _
   | refine LeO.ite ?_ ?_
   | refine LeO.bind ?_ (fun _ => ?_)
def laws_FnExactLogPut.T8 : Bool × List (List Nat × List Nat) := (true, [([], []), ([0], [0]), ([], []), ([], []), ([3, 1], [3]), ([1, 2, 4, 4], [1, 2, 4]), ([5], [5]), ([6], [6]), ([6], [6]), ([], []), ([9, 7, 5, 0, 1, 2, 3, 4, 5, 6, 7, 9], [7, 9]), ([8, 10, 0, 1, 2, 3, 4, 5, 6, 7, 8, 9, 10], [8])])
def laws_FnExactLogPut.B8 : List Nat := [0, 1, 0, 0, 11, 31, 63, 127, 127, 0, 767, 2047]
theorem laws_FnExactLogPut.tab8 : rtab .any (opsOf Try.f3 8) = laws_FnExactLogPut.T8 := by kernel_rfl
theorem laws_FnExactLogPut.bits8 : waitsOk laws_FnExactLogPut.T8.2 laws_FnExactLogPut.B8 = true := by kernel_rfl
def laws_FnExactLogPut.T10 : Bool × List (List Nat × List Nat) := (true, [([], []), ([], []), ([], []), ([2], [2]), ([0, 1, 3, 3], [0, 1, 3]), ([4], [4]), ([5], [5]), ([5], [5]), ([], []), ([8, 6, 4, 0, 1, 2, 3, 4, 5, 6, 8], [6, 8]), ([7, 9, 0, 1, 2, 3, 4, 5, 6, 7, 8, 9], [7])])
def laws_FnExactLogPut.B10 : List Nat := [0, 0, 0, 4, 15, 31, 63, 63, 0, 383, 1023]
theorem laws_FnExactLogPut.tab10 : rtab .any (opsOf Try.f3 10) = laws_FnExactLogPut.T10 := by kernel_rfl
theorem laws_FnExactLogPut.bits10 : waitsOk laws_FnExactLogPut.T10.2 laws_FnExactLogPut.B10 = true := by kernel_rfl
def laws_FnExactLogPut.T27 : Bool × List (List Nat × List Nat) := (true, [([], []), ([0], [0]), ([], []), ([], []), ([3, 1], [3]), ([1, 2, 4, 4], [1, 2, 4]), ([5], [5]), ([6], [6]), ([6], [6]), ([], []), ([9, 7, 5, 0, 1, 2, 3, 4, 5, 6, 7, 9], [7, 9]), ([8, 10, 0, 1, 2, 3, 4, 5, 6, 7, 8, 9, 10], [8])])
def laws_FnExactLogPut.B27 : List Nat := [0, 1, 0, 0, 11, 31, 63, 127, 127, 0, 767, 2047]
theorem laws_FnExactLogPut.tab27 : rtab .any (opsOf Try.f3 27) = laws_FnExactLogPut.T27 := by kernel_rfl
theorem laws_FnExactLogPut.bits27 : waitsOk laws_FnExactLogPut.T27.2 laws_FnExactLogPut.B27 = true := by kernel_rfl
set_option maxHeartbeats 8000000 in
set_option maxRecDepth 100000 in
theorem laws_FnExactLogPut.calls (k : Nat) (a0_0 : Int) (a0_1 : Int) (A0_2 : Option Addr) (c0_2 : Nat) (l0_2 : List (S26)) (a1 : Int) (a2_0 : Int) (a2_1 : Int) (a2_2 : ByteArray) (r : Bool) (w : World) (hr0_2 : Kd.C k26 w A0_2 l0_2.length l0_2) (hc0_2 : l0_2.length ≤ c0_2) (h : laws_FnExactLogPut.f k a0_0 a0_1 l0_2 a1 a2_0 a2_1 a2_2 = some r) :
  Calls Try.prog 3 #[.agg #[.int .i64 a0_0, .int .i64 a0_1, .slice A0_2 l0_2.length c0_2], .int .i64 a1, .agg #[.int .i64 a2_0, .int .i64 a2_1, .string a2_2]] w fun e w' => e = .returned (.bool r) ∧ Below w.heap.size w w' := by
 have hu24 := Try.underlying24
 have hu26 := Try.underlying26
 have hu31 := Try.underlying31
 have HR0_2 := Aside0.mk hr0_2
 have HC0_2 := Aside0.mk hc0_2
 clear hr0_2 hc0_2
 have HB := mk_ (Below.refl w.heap.size w)
 have H : ((laws_szLog.f k a0_0 a0_1 l0_2 1048576).bind fun t258 => (if t258 < 0 then (some true) else ((laws_szEntry.f a2_0 a2_1 a2_2 t258).bind fun t259 => (if t259 < 0 then (some true) else ((laws_toLog.f k a0_0 a0_1 l0_2).bind fun bt260 => ((laws_toEntry.f a2_0 a2_1 a2_2).bind fun bt265 => ((spec_LogPut.f k bt260.1 bt260.2.1 bt260.2.2 a1 bt265.1 bt265.2.1 bt265.2.2).bind fun bt268 => ((laws_toLog.f k a0_0 a0_1 l0_2).bind fun bt275 => ((laws_toEntry.f a2_0 a2_1 a2_2).bind fun bt281 => ((impl_LogPut.f k bt275.1 bt275.2.1 bt275.2.2 a1 bt281.1 bt281.2.1 bt281.2.2).bind fun bt284 => ((laws_eqLog.f k bt284.1 bt284.2.1 bt284.2.2.1 bt268.1 bt268.2.1 bt268.2.2.1).bind fun t291 => (if t291 = true then (laws_FnExactLogPut.j0 k a1 bt268.2.2.2 bt284.2.2.2 (bt284.2.2.2 != bt268.2.2.2) a0_0 a0_1 l0_2 a2_0 a2_1 a2_2 bt268.1 bt268.2.1 bt268.2.2.1 bt275.1 bt275.2.1 bt275.2.2 bt284.1 bt284.2.1 bt284.2.2.1) else (none))))))))))))) = some r := h
 clear h
 replace H := Option.bind_eq_some_iff.mp H
 obtain ⟨t258, A40, H⟩ := H
 replace H : (if t258 < 0 then (some true) else ((laws_szEntry.f a2_0 a2_1 a2_2 t258).bind fun t259 => (if t259 < 0 then (some true) else ((laws_toLog.f k a0_0 a0_1 l0_2).bind fun bt260 => ((laws_toEntry.f a2_0 a2_1 a2_2).bind fun bt265 => ((spec_LogPut.f k bt260.1 bt260.2.1 bt260.2.2 a1 bt265.1 bt265.2.1 bt265.2.2).bind fun bt268 => ((laws_toLog.f k a0_0 a0_1 l0_2).bind fun bt275 => ((laws_toEntry.f a2_0 a2_1 a2_2).bind fun bt281 => ((impl_LogPut.f k bt275.1 bt275.2.1 bt275.2.2 a1 bt281.1 bt281.2.1 bt281.2.2).bind fun bt284 => ((laws_eqLog.f k bt284.1 bt284.2.1 bt284.2.2.1 bt268.1 bt268.2.1 bt268.2.2.1).bind fun t291 => (if t291 = true then (laws_FnExactLogPut.j0 k a1 bt268.2.2.2 bt284.2.2.2 (bt284.2.2.2 != bt268.2.2.2) a0_0 a0_1 l0_2 a2_0 a2_1 a2_2 bt268.1 bt268.2.1 bt268.2.2.1 bt275.1 bt275.2.1 bt275.2.2 bt284.1 bt284.2.1 bt284.2.2.1) else (none)))))))))))) = some r := H
 have A4 := Aside0.mk A40
 clear A40
 by_cases c5 : t258 < 0
 ·rw [if_pos c5] at H
  have c5b0 : decide (t258 < 0) = true := decide_eq_true c5
  clear c5
  obtain rfl := Option.some.inj H
  go_enter Try.func3, Try.ntmps3
  go_wp2_with (first | ((with_reducible refine gate_dst (N := 3) rfl ?_); refine box_event ?hg (N := 3) ?hd (cs := #[.int .i64 a0_0, .int .i64 a0_1, .slice A0_2 l0_2.length c0_2]) (t := 24) ?hr ?_; (case hd => rfl); (case hg => rfl); (case hr => first | (go_simp; done) | (go_simp; rfl)); intro gb256 hg w6 hbox hb; have BK256 := mk_ (hbox); have GW256 : Aside0 (w.heap.size ≤ gb256) := bz_ hg; have GE256 : Aside0 (w.heap.size ≤ gb256) := bz_ hg; replace HB := bs_ HB hb; clear hb hbox hg) | ((with_reducible refine gate_dst (N := 5) rfl ?_); refine box_event ?hg (N := 5) ?hd (cs := #[.int .i64 a2_0, .int .i64 a2_1, .string a2_2]) (t := 26) ?hr ?_; (case hd => rfl); (case hg => rfl); (case hr => first | (go_simp; done) | (go_simp; rfl)); intro gb257 hg w7 hbox hb; have BK257 := mk_ (hbox); have GW257 : Aside0 (w.heap.size ≤ gb257) := bz_ hg; have GE257 : Aside0 (w.heap.size ≤ gb257) := bz_ hg; have NB256_257 : Aside0 (gb256 ≠ gb257) := bl_ BK256 hg; have NB257_256 : Aside0 (gb257 ≠ gb256) := bg_ BK256 hg; replace BK256 := bb_ BK256 hb; replace HB := bs_ HB hb; clear hb hbox hg; have hnb8 := NB256_257.out; have hnc8 := NB257_256.out; have hcz9_0 : w7.cell? ⟨gb256, 0, none⟩ = some (.int .i64 a0_0) := bc_ BK256 0; have hcz9_1 : w7.cell? ⟨gb256, 1, none⟩ = some (.int .i64 a0_1) := bc_ BK256 1; have hcz9_2 : w7.cell? ⟨gb256, 2, none⟩ = some (.slice A0_2 l0_2.length c0_2) := bc_ BK256 2; have hfz9_0 := blk_frozen BK256.out 0; have hfz9_1 := blk_frozen BK256.out 1; have hfz9_2 := blk_frozen BK256.out 2) | ((with_reducible refine gate_callee (f := 13) rfl ?_); refine goesL_ (some 20) rfl rfl Try.func13 (by kernel_rfl) rfl #[.agg #[.int .i64 a0_0, .int .i64 a0_1, .slice A0_2 l0_2.length c0_2], .int .i64 1048576] rfl (by (try simp only [List.map_toArray, List.map_cons, List.map_nil]); first | done | rfl | (simp only [List.length_drop, List.length_take]; rfl)) ?_; (with_reducible refine (laws_szLog.calls k a0_0 a0_1 _ _ l0_2 1048576 t258 _ ?side1 ?side2 A4.out).mono ?_); (case side1 => repeat (first | exact (Kd.C_below HR0_2.out HB.out) | (with_reducible refine Kd.C_alloc ?_ _) | (with_reducible refine Kd.C_drewN ?_ _) | (with_reducible refine Kd.C_drew ?_))); (case side2 => exact HC0_2.out); rintro e w10 ⟨rfl, hb⟩; refine ⟨_, rfl, ?_⟩; replace BK256 := bb_ BK256 hb; replace BK257 := bb_ BK257 hb; replace HB := bs_ HB hb; (try clear hb)))
  go_ret
  exact ⟨by first | rfl | (simp [errW_none, errW_some] <;> rfl) | (simp [*, errW_none, errW_some] <;> rfl), by repeat (first | (with_reducible first | exact HB.out | apply below_alloc | apply pw_below_drewN | apply below_drew1 | refine below_set ?_ GE256.out | refine below_set ?_ GE257.out) | exact HB.out)⟩
 ·rw [if_neg c5] at H
  have c5b0 : decide (t258 < 0) = false := decide_eq_false c5
  clear c5
  replace H := Option.bind_eq_some_iff.mp H
  obtain ⟨t259, A110, H⟩ := H
  replace H : (if t259 < 0 then (some true) else ((laws_toLog.f k a0_0 a0_1 l0_2).bind fun bt260 => ((laws_toEntry.f a2_0 a2_1 a2_2).bind fun bt265 => ((spec_LogPut.f k bt260.1 bt260.2.1 bt260.2.2 a1 bt265.1 bt265.2.1 bt265.2.2).bind fun bt268 => ((laws_toLog.f k a0_0 a0_1 l0_2).bind fun bt275 => ((laws_toEntry.f a2_0 a2_1 a2_2).bind fun bt281 => ((impl_LogPut.f k bt275.1 bt275.2.1 bt275.2.2 a1 bt281.1 bt281.2.1 bt281.2.2).bind fun bt284 => ((laws_eqLog.f k bt284.1 bt284.2.1 bt284.2.2.1 bt268.1 bt268.2.1 bt268.2.2.1).bind fun t291 => (if t291 = true then (laws_FnExactLogPut.j0 k a1 bt268.2.2.2 bt284.2.2.2 (bt284.2.2.2 != bt268.2.2.2) a0_0 a0_1 l0_2 a2_0 a2_1 a2_2 bt268.1 bt268.2.1 bt268.2.2.1 bt275.1 bt275.2.1 bt275.2.2 bt284.1 bt284.2.1 bt284.2.2.1) else (none)))))))))) = some r := H
  have A11 := Aside0.mk A110
  clear A110
  by_cases c12 : t259 < 0
  ·rw [if_pos c12] at H
   have c12b0 : decide (t259 < 0) = true := decide_eq_true c12
   clear c12
   obtain rfl := Option.some.inj H
   go_enter Try.func3, Try.ntmps3
   go_wp2_with (first | ((with_reducible refine gate_dst (N := 3) rfl ?_); refine box_event ?hg (N := 3) ?hd (cs := #[.int .i64 a0_0, .int .i64 a0_1, .slice A0_2 l0_2.length c0_2]) (t := 24) ?hr ?_; (case hd => rfl); (case hg => rfl); (case hr => first | (go_simp; done) | (go_simp; rfl)); intro gb256 hg w13 hbox hb; have BK256 := mk_ (hbox); have GW256 : Aside0 (w.heap.size ≤ gb256) := bz_ hg; have GE256 : Aside0 (w.heap.size ≤ gb256) := bz_ hg; replace HB := bs_ HB hb; clear hb hbox hg) | ((with_reducible refine gate_dst (N := 5) rfl ?_); refine box_event ?hg (N := 5) ?hd (cs := #[.int .i64 a2_0, .int .i64 a2_1, .string a2_2]) (t := 26) ?hr ?_; (case hd => rfl); (case hg => rfl); (case hr => first | (go_simp; done) | (go_simp; rfl)); intro gb257 hg w14 hbox hb; have BK257 := mk_ (hbox); have GW257 : Aside0 (w.heap.size ≤ gb257) := bz_ hg; have GE257 : Aside0 (w.heap.size ≤ gb257) := bz_ hg; have NB256_257 : Aside0 (gb256 ≠ gb257) := bl_ BK256 hg; have NB257_256 : Aside0 (gb257 ≠ gb256) := bg_ BK256 hg; replace BK256 := bb_ BK256 hb; replace HB := bs_ HB hb; clear hb hbox hg; have hnb15 := NB256_257.out; have hnc15 := NB257_256.out; have hcz16_0 : w14.cell? ⟨gb256, 0, none⟩ = some (.int .i64 a0_0) := bc_ BK256 0; have hcz16_1 : w14.cell? ⟨gb256, 1, none⟩ = some (.int .i64 a0_1) := bc_ BK256 1; have hcz16_2 : w14.cell? ⟨gb256, 2, none⟩ = some (.slice A0_2 l0_2.length c0_2) := bc_ BK256 2; have hfz16_0 := blk_frozen BK256.out 0; have hfz16_1 := blk_frozen BK256.out 1; have hfz16_2 := blk_frozen BK256.out 2) | ((with_reducible refine gate_callee (f := 13) rfl ?_); refine goesL_ (some 20) rfl rfl Try.func13 (by kernel_rfl) rfl #[.agg #[.int .i64 a0_0, .int .i64 a0_1, .slice A0_2 l0_2.length c0_2], .int .i64 1048576] rfl (by (try simp only [List.map_toArray, List.map_cons, List.map_nil]); first | done | rfl | (simp only [List.length_drop, List.length_take]; rfl)) ?_; (with_reducible refine (laws_szLog.calls k a0_0 a0_1 _ _ l0_2 1048576 t258 _ ?side1 ?side2 A4.out).mono ?_); (case side1 => repeat (first | exact (Kd.C_below HR0_2.out HB.out) | (with_reducible refine Kd.C_alloc ?_ _) | (with_reducible refine Kd.C_drewN ?_ _) | (with_reducible refine Kd.C_drew ?_))); (case side2 => exact HC0_2.out); rintro e w17 ⟨rfl, hb⟩; refine ⟨_, rfl, ?_⟩; replace BK256 := bb_ BK256 hb; replace BK257 := bb_ BK257 hb; replace HB := bs_ HB hb; (try clear hb); have hcz18_0 : w17.cell? ⟨gb257, 0, none⟩ = some (.int .i64 a2_0) := bc_ BK257 0; have hcz18_1 : w17.cell? ⟨gb257, 1, none⟩ = some (.int .i64 a2_1) := bc_ BK257 1; have hcz18_2 : w17.cell? ⟨gb257, 2, none⟩ = some (.string a2_2) := bc_ BK257 2; have hfz18_0 := blk_frozen BK257.out 0; have hfz18_1 := blk_frozen BK257.out 1; have hfz18_2 := blk_frozen BK257.out 2) | ((with_reducible refine gate_callee (f := 14) rfl ?_); refine goesL_ (some 25) rfl rfl Try.func14 (by kernel_rfl) rfl #[.agg #[.int .i64 a2_0, .int .i64 a2_1, .string a2_2], .int .i64 t258] rfl (by (try simp only [List.map_toArray, List.map_cons, List.map_nil]); first | done | rfl | (simp only [List.length_drop, List.length_take]; rfl)) ?_; (with_reducible refine (laws_szEntry.calls a2_0 a2_1 a2_2 t258 t259 _ A11.out).mono ?_); rintro e w19 ⟨rfl, hb⟩; refine ⟨_, rfl, ?_⟩; replace BK256 := bb_ BK256 hb; replace BK257 := bb_ BK257 hb; replace HB := bs_ HB hb; (try clear hb)))
   go_ret
   exact ⟨by first | rfl | (simp [errW_none, errW_some] <;> rfl) | (simp [*, errW_none, errW_some] <;> rfl), by repeat (first | (with_reducible first | exact HB.out | apply below_alloc | apply pw_below_drewN | apply below_drew1 | refine below_set ?_ GE256.out | refine below_set ?_ GE257.out) | exact HB.out)⟩
  ·rw [if_neg c12] at H
   have c12b0 : decide (t259 < 0) = false := decide_eq_false c12
   clear c12
   replace H := Option.bind_eq_some_iff.mp H
   obtain ⟨⟨t260, t261, t262⟩, A200, H⟩ := H
   replace H : ((laws_toEntry.f a2_0 a2_1 a2_2).bind fun bt265 => ((spec_LogPut.f k t260 t261 t262 a1 bt265.1 bt265.2.1 bt265.2.2).bind fun bt268 => ((laws_toLog.f k a0_0 a0_1 l0_2).bind fun bt275 => ((laws_toEntry.f a2_0 a2_1 a2_2).bind fun bt281 => ((impl_LogPut.f k bt275.1 bt275.2.1 bt275.2.2 a1 bt281.1 bt281.2.1 bt281.2.2).bind fun bt284 => ((laws_eqLog.f k bt284.1 bt284.2.1 bt284.2.2.1 bt268.1 bt268.2.1 bt268.2.2.1).bind fun t291 => (if t291 = true then (laws_FnExactLogPut.j0 k a1 bt268.2.2.2 bt284.2.2.2 (bt284.2.2.2 != bt268.2.2.2) a0_0 a0_1 l0_2 a2_0 a2_1 a2_2 bt268.1 bt268.2.1 bt268.2.2.1 bt275.1 bt275.2.1 bt275.2.2 bt284.1 bt284.2.1 bt284.2.2.1) else (none)))))))) = some r := H
   have A20 := Aside0.mk A200
   clear A200
   replace H := Option.bind_eq_some_iff.mp H
   obtain ⟨⟨t265, t266, t267⟩, A210, H⟩ := H
   replace H : ((spec_LogPut.f k t260 t261 t262 a1 t265 t266 t267).bind fun bt268 => ((laws_toLog.f k a0_0 a0_1 l0_2).bind fun bt275 => ((laws_toEntry.f a2_0 a2_1 a2_2).bind fun bt281 => ((impl_LogPut.f k bt275.1 bt275.2.1 bt275.2.2 a1 bt281.1 bt281.2.1 bt281.2.2).bind fun bt284 => ((laws_eqLog.f k bt284.1 bt284.2.1 bt284.2.2.1 bt268.1 bt268.2.1 bt268.2.2.1).bind fun t291 => (if t291 = true then (laws_FnExactLogPut.j0 k a1 bt268.2.2.2 bt284.2.2.2 (bt284.2.2.2 != bt268.2.2.2) a0_0 a0_1 l0_2 a2_0 a2_1 a2_2 bt268.1 bt268.2.1 bt268.2.2.1 bt275.1 bt275.2.1 bt275.2.2 bt284.1 bt284.2.1 bt284.2.2.1) else (none))))))) = some r := H
   have A21 := Aside0.mk A210
   clear A210
   replace H := Option.bind_eq_some_iff.mp H
   obtain ⟨⟨t268, t269, t270, t273⟩, A220, H⟩ := H
   replace H : ((laws_toLog.f k a0_0 a0_1 l0_2).bind fun bt275 => ((laws_toEntry.f a2_0 a2_1 a2_2).bind fun bt281 => ((impl_LogPut.f k bt275.1 bt275.2.1 bt275.2.2 a1 bt281.1 bt281.2.1 bt281.2.2).bind fun bt284 => ((laws_eqLog.f k bt284.1 bt284.2.1 bt284.2.2.1 t268 t269 t270).bind fun t291 => (if t291 = true then (laws_FnExactLogPut.j0 k a1 t273 bt284.2.2.2 (bt284.2.2.2 != t273) a0_0 a0_1 l0_2 a2_0 a2_1 a2_2 t268 t269 t270 bt275.1 bt275.2.1 bt275.2.2 bt284.1 bt284.2.1 bt284.2.2.1) else (none)))))) = some r := H
   have A22 := Aside0.mk A220
   clear A220
   replace H := Option.bind_eq_some_iff.mp H
   obtain ⟨⟨t275, t276, t277⟩, A230, H⟩ := H
   replace H : ((laws_toEntry.f a2_0 a2_1 a2_2).bind fun bt281 => ((impl_LogPut.f k t275 t276 t277 a1 bt281.1 bt281.2.1 bt281.2.2).bind fun bt284 => ((laws_eqLog.f k bt284.1 bt284.2.1 bt284.2.2.1 t268 t269 t270).bind fun t291 => (if t291 = true then (laws_FnExactLogPut.j0 k a1 t273 bt284.2.2.2 (bt284.2.2.2 != t273) a0_0 a0_1 l0_2 a2_0 a2_1 a2_2 t268 t269 t270 t275 t276 t277 bt284.1 bt284.2.1 bt284.2.2.1) else (none))))) = some r := H
   have A23 := Aside0.mk A230
   clear A230
   replace H := Option.bind_eq_some_iff.mp H
   obtain ⟨⟨t281, t282, t283⟩, A240, H⟩ := H
   replace H : ((impl_LogPut.f k t275 t276 t277 a1 t281 t282 t283).bind fun bt284 => ((laws_eqLog.f k bt284.1 bt284.2.1 bt284.2.2.1 t268 t269 t270).bind fun t291 => (if t291 = true then (laws_FnExactLogPut.j0 k a1 t273 bt284.2.2.2 (bt284.2.2.2 != t273) a0_0 a0_1 l0_2 a2_0 a2_1 a2_2 t268 t269 t270 t275 t276 t277 bt284.1 bt284.2.1 bt284.2.2.1) else (none)))) = some r := H
   have A24 := Aside0.mk A240
   clear A240
   replace H := Option.bind_eq_some_iff.mp H
   obtain ⟨⟨t284, t285, t286, t289⟩, A250, H⟩ := H
   replace H : ((laws_eqLog.f k t284 t285 t286 t268 t269 t270).bind fun t291 => (if t291 = true then (laws_FnExactLogPut.j0 k a1 t273 t289 (t289 != t273) a0_0 a0_1 l0_2 a2_0 a2_1 a2_2 t268 t269 t270 t275 t276 t277 t284 t285 t286) else (none))) = some r := H
   have A25 := Aside0.mk A250
   clear A250
   have HC26 := Aside0.mk H
   clear H
   go_enter Try.func3, Try.ntmps3
   try go_wp2_with (first | ((with_reducible refine gate_dst (N := 3) rfl ?_); refine box_event ?hg (N := 3) ?hd (cs := #[.int .i64 a0_0, .int .i64 a0_1, .slice A0_2 l0_2.length c0_2]) (t := 24) ?hr ?_; (case hd => rfl); (case hg => rfl); (case hr => first | (go_simp; done) | (go_simp; rfl)); intro gb256 hg w27 hbox hb; have BK256 := mk_ (hbox); have GW256 : Aside0 (w.heap.size ≤ gb256) := bz_ hg; have GE256 : Aside0 (w.heap.size ≤ gb256) := bz_ hg; replace HB := bs_ HB hb; clear hb hbox hg) | ((with_reducible refine gate_dst (N := 5) rfl ?_); refine box_event ?hg (N := 5) ?hd (cs := #[.int .i64 a2_0, .int .i64 a2_1, .string a2_2]) (t := 26) ?hr ?_; (case hd => rfl); (case hg => rfl); (case hr => first | (go_simp; done) | (go_simp; rfl)); intro gb257 hg w28 hbox hb; have BK257 := mk_ (hbox); have GW257 : Aside0 (w.heap.size ≤ gb257) := bz_ hg; have GE257 : Aside0 (w.heap.size ≤ gb257) := bz_ hg; have NB256_257 : Aside0 (gb256 ≠ gb257) := bl_ BK256 hg; have NB257_256 : Aside0 (gb257 ≠ gb256) := bg_ BK256 hg; replace BK256 := bb_ BK256 hb; replace HB := bs_ HB hb; clear hb hbox hg; have hnb29 := NB256_257.out; have hnc29 := NB257_256.out; have hcz30_0 : w28.cell? ⟨gb256, 0, none⟩ = some (.int .i64 a0_0) := bc_ BK256 0; have hcz30_1 : w28.cell? ⟨gb256, 1, none⟩ = some (.int .i64 a0_1) := bc_ BK256 1; have hcz30_2 : w28.cell? ⟨gb256, 2, none⟩ = some (.slice A0_2 l0_2.length c0_2) := bc_ BK256 2; have hfz30_0 := blk_frozen BK256.out 0; have hfz30_1 := blk_frozen BK256.out 1; have hfz30_2 := blk_frozen BK256.out 2) | ((with_reducible refine gate_callee (f := 13) rfl ?_); refine goesL_ (some 20) rfl rfl Try.func13 (by kernel_rfl) rfl #[.agg #[.int .i64 a0_0, .int .i64 a0_1, .slice A0_2 l0_2.length c0_2], .int .i64 1048576] rfl (by (try simp only [List.map_toArray, List.map_cons, List.map_nil]); first | done | rfl | (simp only [List.length_drop, List.length_take]; rfl)) ?_; (with_reducible refine (laws_szLog.calls k a0_0 a0_1 _ _ l0_2 1048576 t258 _ ?side1 ?side2 A4.out).mono ?_); (case side1 => repeat (first | exact (Kd.C_below HR0_2.out HB.out) | (with_reducible refine Kd.C_alloc ?_ _) | (with_reducible refine Kd.C_drewN ?_ _) | (with_reducible refine Kd.C_drew ?_))); (case side2 => exact HC0_2.out); rintro e w31 ⟨rfl, hb⟩; refine ⟨_, rfl, ?_⟩; replace BK256 := bb_ BK256 hb; replace BK257 := bb_ BK257 hb; replace HB := bs_ HB hb; (try clear hb); have hcz32_0 : w31.cell? ⟨gb257, 0, none⟩ = some (.int .i64 a2_0) := bc_ BK257 0; have hcz32_1 : w31.cell? ⟨gb257, 1, none⟩ = some (.int .i64 a2_1) := bc_ BK257 1; have hcz32_2 : w31.cell? ⟨gb257, 2, none⟩ = some (.string a2_2) := bc_ BK257 2; have hfz32_0 := blk_frozen BK257.out 0; have hfz32_1 := blk_frozen BK257.out 1; have hfz32_2 := blk_frozen BK257.out 2) | ((with_reducible refine gate_callee (f := 14) rfl ?_); refine goesL_ (some 25) rfl rfl Try.func14 (by kernel_rfl) rfl #[.agg #[.int .i64 a2_0, .int .i64 a2_1, .string a2_2], .int .i64 t258] rfl (by (try simp only [List.map_toArray, List.map_cons, List.map_nil]); first | done | rfl | (simp only [List.length_drop, List.length_take]; rfl)) ?_; (with_reducible refine (laws_szEntry.calls a2_0 a2_1 a2_2 t258 t259 _ A11.out).mono ?_); rintro e w33 ⟨rfl, hb⟩; refine ⟨_, rfl, ?_⟩; replace BK256 := bb_ BK256 hb; replace BK257 := bb_ BK257 hb; replace HB := bs_ HB hb; (try clear hb)))
   have n0_ := mk_ (blk_drew BK256.out)
   have n1_ := mk_ (blk_drew BK257.out)
   have n2_ := mk_ (below_drew1 HB.out)
   clear BK256; clear BK257; clear HB; have BK256 := n0_; have BK257 := n1_; have HB := n2_; clear n0_ n1_ n2_
   refine start_ (n := 12) (S := fun w' => w'.cell? ⟨gb256, 0, none⟩ = some (.int .i64 a0_0) ∧ w'.cell? ⟨gb256, 1, none⟩ = some (.int .i64 a0_1) ∧ w'.cell? ⟨gb256, 2, none⟩ = some (.slice A0_2 l0_2.length c0_2) ∧ w'.cell? ⟨gb257, 0, none⟩ = some (.int .i64 a2_0) ∧ w'.cell? ⟨gb257, 1, none⟩ = some (.int .i64 a2_1) ∧ w'.cell? ⟨gb257, 2, none⟩ = some (.string a2_2)) (ds := []) #[false, false, false, false, false, false, false, false, false, false, false, false] (by kernel_rfl) rfl rfl ⟨bc_ BK256 0, bc_ BK256 1, bc_ BK256 2, bc_ BK257 0, bc_ BK257 1, bc_ BK257 2⟩ (fun hHeld => ?_); refine with_tabW laws_FnExactLogPut.tab8 laws_FnExactLogPut.bits8 (fun HT_ HW_ => ?_)
   generalize w33.drew = w34 at BK256 BK257 HB hHeld ⊢
   refine pure_ (i := 2) (N := some 31) (v := ?_) (a' := ?_) #[false, false, true, false, false, false, false, false, false, false, false, false] rfl rfl (any_of HT_.out (by kernel_rfl)) (fun _ _ _ h => h) (Or.inl ⟨by rfl, ?_⟩) ?_ ?_
   rotate_left
   ·intro w'
    go_simp
    with_reducible rfl
   rotate_left
   ·simp only [Act.put, sia_, scz_, scs_, i64_w, i32_w]
    rfl
   refine take_ (i := 0) (N := some 29) (v := ?_) (a' := ?_) #[true, false, true, false, false, false, false, false, false, false, false, false] rfl rfl (take_ofW HT_.out HW_.out (by kernel_rfl)) (fun _ _ _ h => h) (Or.inl ⟨by rfl, ?_⟩) hHeld ?_ ?_
   rotate_left
   ·rintro w' ⟨s0, s1, s2, s3, s4, s5⟩
    go_simp
    with_reducible rfl
   rotate_left
   ·simp only [Act.put, sia_, scz_, scs_, i64_w, i32_w]
    rfl
   refine take_ (i := 3) (N := some 32) (v := ?_) (a' := ?_) #[true, false, true, true, false, false, false, false, false, false, false, false] rfl rfl (take_ofW HT_.out HW_.out (by kernel_rfl)) (fun _ _ _ h => h) (Or.inl ⟨by rfl, ?_⟩) hHeld ?_ ?_
   rotate_left
   ·rintro w' ⟨s0, s1, s2, s3, s4, s5⟩
    go_simp
    with_reducible rfl
   rotate_left
   ·simp only [Act.put, sia_, scz_, scs_, i64_w, i32_w]
    rfl
   refine join_ (σ := Value × Value × Nat) 2 #[true, true, true, true, true, true, true, true, true, true, false, false] (fun s_ => [(30, .agg #[.int .i64 t260, .int .i64 t261, s_.1]), (33, .agg #[.int .i64 t265, .int .i64 t266, .string t267]), (34, .tuple #[.agg #[.int .i64 t268, .int .i64 t269, s_.2.1], .bool t273]), (8, .pointer (some ⟨s_.2.2, 0, none⟩)), (28, .tuple #[.agg #[.int .i64 t268, .int .i64 t269, s_.2.1], .bool t273]), (35, .agg #[.int .i64 t268, .int .i64 t269, s_.2.1]), (36, .bool t273)]) (fun s_ w' => (w'.cell? ⟨gb256, 0, none⟩ = some (.int .i64 a0_0) ∧ w'.cell? ⟨gb256, 1, none⟩ = some (.int .i64 a0_1) ∧ w'.cell? ⟨gb256, 2, none⟩ = some (.slice A0_2 l0_2.length c0_2) ∧ w'.cell? ⟨gb257, 0, none⟩ = some (.int .i64 a2_0) ∧ w'.cell? ⟨gb257, 1, none⟩ = some (.int .i64 a2_1) ∧ w'.cell? ⟨gb257, 2, none⟩ = some (.string a2_2)) ∧ (Kd.R k35 35 w' w.heap.size (fun k_ => some k_ ≠ (s_.2.1 : Value).ownBlock) s_.1 t262) ∧ (Kd.R k35 35 w' w.heap.size (fun k_ => some k_ ≠ (s_.1 : Value).ownBlock) s_.2.1 t270) ∧ (w'.heap[gb256]? = some (.cells #[.int .i64 a0_0, .int .i64 a0_1, .slice A0_2 l0_2.length c0_2] 24 (0, 0))) ∧ (w'.heap[gb257]? = some (.cells #[.int .i64 a2_0, .int .i64 a2_1, .string a2_2] 26 (0, 0))) ∧ (w'.heap[s_.2.2]? = some (.cells #[.int .i64 0, .int .i64 0, .slice none 0 0] 31 (0, 0))) ∧ (w.heap.size ≤ s_.2.2) ∧ (w.heap.size ≤ s_.2.2) ∧ (gb256 ≠ s_.2.2) ∧ (s_.2.2 ≠ gb256) ∧ (gb257 ≠ s_.2.2) ∧ (s_.2.2 ≠ gb257) ∧ (Below w.heap.size w w')) ?_ ?_
   rotate_left
   ·intro hCont
    refine two_ (i := 1) (j := 9) (Ni := some 30) (Nj := some 8) #[true, true, true, true, false, false, false, false, false, false, false, false] #[true, false, true, true, false, false, false, false, false, true, false, false] rfl rfl rfl rfl (two_of HT_.out (by kernel_rfl)) (by decide) (by decide) (fun K hK => ?_) (fun K hK => ?_)
    ·skip
     refine goes_ Try.func16 (by kernel_rfl) rfl #[.agg #[.int .i64 a0_0, .int .i64 a0_1, .slice A0_2 l0_2.length c0_2]] (by rfl) rfl rfl (by (try simp only [List.map_toArray, List.map_cons, List.map_nil]); first | done | rfl | (simp only [List.length_drop, List.length_take]; rfl)) ?_
     with_reducible refine (laws_toLog.calls k a0_0 a0_1 _ _ l0_2 t260 t261 t262 _ ?side1 ?side2 A20.out).mono ?_
     (case side1 => repeat (first | exact (Kd.C_below HR0_2.out HB.out) | (with_reducible refine Kd.C_alloc ?_ _) | (with_reducible refine Kd.C_drewN ?_ _) | (with_reducible refine Kd.C_drew ?_)))
     (case side2 => exact HC0_2.out)
     rintro e w35 ⟨v263, rfl, ho0, hb⟩
     refine ⟨_, rfl, ?_⟩
     have n0_ := mk_ (Kd.R_lower ho0 (below_size (bw_ HB)))
     have n1_ := bb_ BK256 hb; have n2_ := bb_ BK257 hb
     have n3_ := bs_ HB hb
     clear BK256; clear BK257; clear HB; have HO264 := n0_; have BK256 := n1_; have BK257 := n2_; have HB := n3_; clear n0_ n1_ n2_ n3_; (try clear hb); (try clear hb2); (try clear hk); (try clear hi); (try clear ho0)
     refine hK.out _ _ ⟨bc_ BK256 0, bc_ BK256 1, bc_ BK256 2, bc_ BK257 0, bc_ BK257 1, bc_ BK257 2⟩ (fun hHeld => ?_)
     clear hK K
     refine norm_ (a' := ?_) ?_ ?_
     rotate_left
     ·show Act.put _ (some 30) _ = _
      simp only [Act.put, sia_, scz_, scs_, i64_w, i32_w]
      rfl
     refine two_ (i := 4) (j := 9) (Ni := some 33) (Nj := some 8) #[true, true, true, true, true, false, false, false, false, false, false, false] #[true, true, true, true, false, false, false, false, false, true, false, false] rfl rfl rfl rfl (two_of HT_.out (by kernel_rfl)) (by decide) (by decide) (fun K hK => ?_) (fun K hK => ?_)
     ·skip
      refine goes_ Try.func17 (by kernel_rfl) rfl #[.agg #[.int .i64 a2_0, .int .i64 a2_1, .string a2_2]] (by rfl) rfl rfl (by (try simp only [List.map_toArray, List.map_cons, List.map_nil]); first | done | rfl | (simp only [List.length_drop, List.length_take]; rfl)) ?_
      with_reducible refine (laws_toEntry.calls a2_0 a2_1 a2_2 t265 t266 t267 _ A21.out).mono ?_
      rintro e w36 ⟨rfl, hb⟩
      refine ⟨_, rfl, ?_⟩
      have n0_ := rb_ HO264 hb
      have n1_ := bb_ BK256 hb; have n2_ := bb_ BK257 hb
      have n3_ := bs_ HB hb
      clear HO264; clear BK256; clear BK257; clear HB; have HO264 := n0_; have BK256 := n1_; have BK257 := n2_; have HB := n3_; clear n0_ n1_ n2_ n3_; (try clear hb); (try clear hb2); (try clear hk); (try clear hi)
      obtain ⟨Ao37, co37, eo37⟩ := Kd.R_slice HO264.out
      (first | subst eo37 | (injection eo37 with f1_ f2_ f3_; have f4_ := f1_.symm; have f5_ := f3_.symm; clear f1_ f2_ f3_; subst f4_; subst f5_))
      refine hK.out _ _ ⟨bc_ BK256 0, bc_ BK256 1, bc_ BK256 2, bc_ BK257 0, bc_ BK257 1, bc_ BK257 2⟩ (fun hHeld => ?_)
      clear hK K
      refine norm_ (a' := ?_) ?_ ?_
      rotate_left
      ·show Act.put _ (some 33) _ = _
       simp only [Act.put, sia_, scz_, scs_, i64_w, i32_w]
       rfl
      refine two_ (i := 5) (j := 9) (Ni := some 34) (Nj := some 8) #[true, true, true, true, true, true, false, false, false, false, false, false] #[true, true, true, true, true, false, false, false, false, true, false, false] rfl rfl rfl rfl (two_of HT_.out (by kernel_rfl)) (by decide) (by decide) (fun K hK => ?_) (fun K hK => ?_)
      ·skip
       refine goes_ Try.func15 (by kernel_rfl) rfl #[.agg #[.int .i64 t260, .int .i64 t261, .slice Ao37 t262.length co37], .int .i64 a1, .agg #[.int .i64 t265, .int .i64 t266, .string t267]] (by rfl) rfl rfl (by (try simp only [List.map_toArray, List.map_cons, List.map_nil]); first | done | rfl | (simp only [List.length_drop, List.length_take]; rfl)) ?_
       with_reducible refine (spec_LogPut.calls k t260 t261 _ _ t262 a1 t265 t266 t267 t268 t269 t270 t273 _ ?side1 ?side2 A22.out).mono ?_
       (case side1 => repeat (first | exact (Kd.R_reads' HO264.out).2.2 | (with_reducible refine Kd.C_alloc ?_ _) | (with_reducible refine Kd.C_drewN ?_ _) | (with_reducible refine Kd.C_drew ?_)))
       (case side2 => exact (Kd.R_reads' HO264.out).2.1)
       rintro e w38 ⟨v271, rfl, ho0, hb⟩
       refine ⟨_, rfl, ?_⟩
       have n0_ := mk_ (Kd.R_elder' (rp_ HO264) (Kd.R_base ho0) hb)
       have n1_ := mk_ (Kd.R_lower (Kd.R_new' ho0 (Kd.R_lt (rp_ HO264))) (below_size (bw_ HB)))
       have n2_ := bb_ BK256 hb; have n3_ := bb_ BK257 hb
       have n4_ := bs_ HB hb
       clear HO264; clear BK256; clear BK257; clear HB; have HO264 := n0_; have HO272 := n1_; have BK256 := n2_; have BK257 := n3_; have HB := n4_; clear n0_ n1_ n2_ n3_ n4_; (try clear hb); (try clear hb2); (try clear hk); (try clear hi); (try clear ho0)
       refine hK.out _ _ ⟨bc_ BK256 0, bc_ BK256 1, bc_ BK256 2, bc_ BK257 0, bc_ BK257 1, bc_ BK257 2⟩ (fun hHeld => ?_)
       clear hK K
       refine norm_ (a' := ?_) ?_ ?_
       rotate_left
       ·show Act.put _ (some 34) _ = _
        simp only [Act.put, sia_, scz_, scs_, i64_w, i32_w]
        rfl
       refine pure_ (i := 6) (N := some 28) (v := ?_) (a' := ?_) #[true, true, true, true, true, true, true, false, false, false, false, false] rfl rfl (any_of HT_.out (by kernel_rfl)) (fun _ _ _ h => h) (Or.inl ⟨by rfl, ?_⟩) ?_ ?_
       rotate_left
       ·intro w'
        go_simp
        with_reducible rfl
       rotate_left
       ·simp only [Act.put, sia_, scz_, scs_, i64_w, i32_w]
        rfl
       refine pure_ (i := 7) (N := some 35) (v := ?_) (a' := ?_) #[true, true, true, true, true, true, true, true, false, false, false, false] rfl rfl (any_of HT_.out (by kernel_rfl)) (fun _ _ _ h => h) (Or.inl ⟨by rfl, ?_⟩) ?_ ?_
       rotate_left
       ·intro w'
        go_simp
        with_reducible rfl
       rotate_left
       ·simp only [Act.put, sia_, scz_, scs_, i64_w, i32_w]
        rfl
       refine pure_ (i := 8) (N := some 36) (v := ?_) (a' := ?_) #[true, true, true, true, true, true, true, true, true, false, false, false] rfl rfl (any_of HT_.out (by kernel_rfl)) (fun _ _ _ h => h) (Or.inl ⟨by rfl, ?_⟩) ?_ ?_
       rotate_left
       ·intro w'
        go_simp
        with_reducible rfl
       rotate_left
       ·simp only [Act.put, sia_, scz_, scs_, i64_w, i32_w]
        rfl
       refine one_ (i := 9) (N := some 8) #[true, true, true, true, true, true, true, true, true, true, false, false] rfl rfl (one_of HT_.out (by kernel_rfl)) (by decide) (fun K hK => ?_)
       refine box_step ?hg (N := 8) ?hd (cs := #[.int .i64 0, .int .i64 0, .slice none 0 0]) (t := 31) ?hr ?_; (case hd => rfl); (case hg => rfl); (case hr => first | (go_simp; done) | (go_simp; rfl))
       intro gb274 hg w39 hbox hb
       have n0_ := rb_ HO264 hb
       have n1_ := rb_ HO272 hb
       have n2_ := bb_ BK256 hb; have n3_ := bb_ BK257 hb
       have n4_ := bs_ HB hb
       have n5_ := mk_ (hbox)
       have n6_ : Aside0 (w.heap.size ≤ gb274) := bz_ hg
       have n7_ : Aside0 (w.heap.size ≤ gb274) := bz_ hg
       have n8_ : Aside0 (gb256 ≠ gb274) := bl_ BK256 hg
       have n9_ : Aside0 (gb274 ≠ gb256) := bg_ BK256 hg
       have n10_ : Aside0 (gb257 ≠ gb274) := bl_ BK257 hg
       have n11_ : Aside0 (gb274 ≠ gb257) := bg_ BK257 hg
       clear HO264; clear HO272; clear BK256; clear BK257; clear HB; have HO264 := n0_; have HO272 := n1_; have BK256 := n2_; have BK257 := n3_; have HB := n4_; have BK274 := n5_; have GW274 := n6_; have GE274 := n7_; have NB256_274 := n8_; have NB274_256 := n9_; have NB257_274 := n10_; have NB274_257 := n11_; clear n0_ n1_ n2_ n3_ n4_ n5_ n6_ n7_ n8_ n9_ n10_ n11_; clear hb hbox hg
       refine hK.out _ _ ⟨bc_ BK256 0, bc_ BK256 1, bc_ BK256 2, bc_ BK257 0, bc_ BK257 1, bc_ BK257 2⟩ (fun hHeld => ?_)
       clear hK K
       refine norm_ (a' := ?_) ?_ ?_
       rotate_left
       ·show Act.put _ (some 8) _ = _
        simp only [Act.put, sia_, scz_, scs_, i64_w, i32_w]
        rfl
       exact norm_ (by simp only [putAll, Act.put, sia_, scz_, scs_]) (hCont (.slice Ao37 t262.length co37, v271, gb274) _ ⟨hHeld, (by (with_reducible repeat (first | apply Kd.R_alloc | apply Kd.R_drewN | apply Kd.R_drew)); exact Kd.R_mono HO264.out (fun _ hk => hk.2)), (by (with_reducible repeat (first | apply Kd.R_alloc | apply Kd.R_drewN | apply Kd.R_drew)); exact Kd.R_mono HO272.out (fun _ hk => hk.2)), (bp_ BK256), (bp_ BK257), (bp_ BK274), GW274.out, GE274.out, NB256_274.out, NB274_256.out, NB257_274.out, NB274_257.out, (bw_ HB)⟩)
      ·skip
       refine box_step ?hg (N := 8) ?hd (cs := #[.int .i64 0, .int .i64 0, .slice none 0 0]) (t := 31) ?hr ?_; (case hd => rfl); (case hg => rfl); (case hr => first | (go_simp; done) | (go_simp; rfl))
       intro gb274 hg w37 hbox hb
       have n0_ := rb_ HO264 hb
       have n1_ := bb_ BK256 hb; have n2_ := bb_ BK257 hb
       have n3_ := bs_ HB hb
       have n4_ := mk_ (hbox)
       have n5_ : Aside0 (w.heap.size ≤ gb274) := bz_ hg
       have n6_ : Aside0 (w.heap.size ≤ gb274) := bz_ hg
       have n7_ : Aside0 (gb256 ≠ gb274) := bl_ BK256 hg
       have n8_ : Aside0 (gb274 ≠ gb256) := bg_ BK256 hg
       have n9_ : Aside0 (gb257 ≠ gb274) := bl_ BK257 hg
       have n10_ : Aside0 (gb274 ≠ gb257) := bg_ BK257 hg
       clear HO264; clear BK256; clear BK257; clear HB; have HO264 := n0_; have BK256 := n1_; have BK257 := n2_; have HB := n3_; have BK274 := n4_; have GW274 := n5_; have GE274 := n6_; have NB256_274 := n7_; have NB274_256 := n8_; have NB257_274 := n9_; have NB274_257 := n10_; clear n0_ n1_ n2_ n3_ n4_ n5_ n6_ n7_ n8_ n9_ n10_; clear hb hbox hg
       obtain ⟨Ao38, co38, eo38⟩ := Kd.R_slice HO264.out
       (first | subst eo38 | (injection eo38 with f1_ f2_ f3_; have f4_ := f1_.symm; have f5_ := f3_.symm; clear f1_ f2_ f3_; subst f4_; subst f5_))
       refine hK.out _ _ ⟨bc_ BK256 0, bc_ BK256 1, bc_ BK256 2, bc_ BK257 0, bc_ BK257 1, bc_ BK257 2⟩ (fun hHeld => ?_)
       clear hK K
       refine norm_ (a' := ?_) ?_ ?_
       rotate_left
       ·show Act.put _ (some 8) _ = _
        simp only [Act.put, sia_, scz_, scs_, i64_w, i32_w]
        rfl
       refine one_ (i := 5) (N := some 34) #[true, true, true, true, true, true, false, false, false, true, false, false] rfl rfl (one_of HT_.out (by kernel_rfl)) (by decide) (fun K hK => ?_)
       refine goes_ Try.func15 (by kernel_rfl) rfl #[.agg #[.int .i64 t260, .int .i64 t261, .slice Ao38 t262.length co38], .int .i64 a1, .agg #[.int .i64 t265, .int .i64 t266, .string t267]] (by rfl) rfl rfl (by (try simp only [List.map_toArray, List.map_cons, List.map_nil]); first | done | rfl | (simp only [List.length_drop, List.length_take]; rfl)) ?_
       with_reducible refine (spec_LogPut.calls k t260 t261 _ _ t262 a1 t265 t266 t267 t268 t269 t270 t273 _ ?side1 ?side2 A22.out).mono ?_
       (case side1 => repeat (first | exact (Kd.R_reads' HO264.out).2.2 | (with_reducible refine Kd.C_alloc ?_ _) | (with_reducible refine Kd.C_drewN ?_ _) | (with_reducible refine Kd.C_drew ?_)))
       (case side2 => exact (Kd.R_reads' HO264.out).2.1)
       rintro e w39 ⟨v271, rfl, ho0, hb⟩
       refine ⟨_, rfl, ?_⟩
       have n0_ := mk_ (Kd.R_elder' (rp_ HO264) (Kd.R_base ho0) hb)
       have n1_ := mk_ (Kd.R_lower (Kd.R_new' ho0 (Kd.R_lt (rp_ HO264))) (below_size (bw_ HB)))
       have n2_ := bb_ BK256 hb; have n3_ := bb_ BK257 hb; have n4_ := bb_ BK274 hb
       have n5_ := bs_ HB hb
       clear HO264; clear BK256; clear BK257; clear BK274; clear HB; have HO264 := n0_; have HO272 := n1_; have BK256 := n2_; have BK257 := n3_; have BK274 := n4_; have HB := n5_; clear n0_ n1_ n2_ n3_ n4_ n5_; (try clear hb); (try clear hb2); (try clear hk); (try clear hi); (try clear ho0)
       refine hK.out _ _ ⟨bc_ BK256 0, bc_ BK256 1, bc_ BK256 2, bc_ BK257 0, bc_ BK257 1, bc_ BK257 2⟩ (fun hHeld => ?_)
       clear hK K
       refine norm_ (a' := ?_) ?_ ?_
       rotate_left
       ·show Act.put _ (some 34) _ = _
        simp only [Act.put, sia_, scz_, scs_, i64_w, i32_w]
        rfl
       refine pure_ (i := 6) (N := some 28) (v := ?_) (a' := ?_) #[true, true, true, true, true, true, true, false, false, true, false, false] rfl rfl (any_of HT_.out (by kernel_rfl)) (fun _ _ _ h => h) (Or.inl ⟨by rfl, ?_⟩) ?_ ?_
       rotate_left
       ·intro w'
        go_simp
        with_reducible rfl
       rotate_left
       ·simp only [Act.put, sia_, scz_, scs_, i64_w, i32_w]
        rfl
       refine pure_ (i := 7) (N := some 35) (v := ?_) (a' := ?_) #[true, true, true, true, true, true, true, true, false, true, false, false] rfl rfl (any_of HT_.out (by kernel_rfl)) (fun _ _ _ h => h) (Or.inl ⟨by rfl, ?_⟩) ?_ ?_
       rotate_left
       ·intro w'
        go_simp
        with_reducible rfl
       rotate_left
       ·simp only [Act.put, sia_, scz_, scs_, i64_w, i32_w]
        rfl
       refine pure_ (i := 8) (N := some 36) (v := ?_) (a' := ?_) #[true, true, true, true, true, true, true, true, true, true, false, false] rfl rfl (any_of HT_.out (by kernel_rfl)) (fun _ _ _ h => h) (Or.inl ⟨by rfl, ?_⟩) ?_ ?_
       rotate_left
       ·intro w'
        go_simp
        with_reducible rfl
       rotate_left
       ·simp only [Act.put, sia_, scz_, scs_, i64_w, i32_w]
        rfl
       exact norm_ (by simp only [putAll, Act.put, sia_, scz_, scs_]) (hCont (.slice Ao38 t262.length co38, v271, gb274) _ ⟨hHeld, (by (with_reducible repeat (first | apply Kd.R_alloc | apply Kd.R_drewN | apply Kd.R_drew)); exact Kd.R_mono HO264.out (fun _ hk => hk.2)), (by (with_reducible repeat (first | apply Kd.R_alloc | apply Kd.R_drewN | apply Kd.R_drew)); exact Kd.R_mono HO272.out (fun _ hk => hk.2)), (bp_ BK256), (bp_ BK257), (bp_ BK274), GW274.out, GE274.out, NB256_274.out, NB274_256.out, NB257_274.out, NB274_257.out, (bw_ HB)⟩)
     ·skip
      refine box_step ?hg (N := 8) ?hd (cs := #[.int .i64 0, .int .i64 0, .slice none 0 0]) (t := 31) ?hr ?_; (case hd => rfl); (case hg => rfl); (case hr => first | (go_simp; done) | (go_simp; rfl))
      intro gb274 hg w36 hbox hb
      have n0_ := rb_ HO264 hb
      have n1_ := bb_ BK256 hb; have n2_ := bb_ BK257 hb
      have n3_ := bs_ HB hb
      have n4_ := mk_ (hbox)
      have n5_ : Aside0 (w.heap.size ≤ gb274) := bz_ hg
      have n6_ : Aside0 (w.heap.size ≤ gb274) := bz_ hg
      have n7_ : Aside0 (gb256 ≠ gb274) := bl_ BK256 hg
      have n8_ : Aside0 (gb274 ≠ gb256) := bg_ BK256 hg
      have n9_ : Aside0 (gb257 ≠ gb274) := bl_ BK257 hg
      have n10_ : Aside0 (gb274 ≠ gb257) := bg_ BK257 hg
      clear HO264; clear BK256; clear BK257; clear HB; have HO264 := n0_; have BK256 := n1_; have BK257 := n2_; have HB := n3_; have BK274 := n4_; have GW274 := n5_; have GE274 := n6_; have NB256_274 := n7_; have NB274_256 := n8_; have NB257_274 := n9_; have NB274_257 := n10_; clear n0_ n1_ n2_ n3_ n4_ n5_ n6_ n7_ n8_ n9_ n10_; clear hb hbox hg
      refine hK.out _ _ ⟨bc_ BK256 0, bc_ BK256 1, bc_ BK256 2, bc_ BK257 0, bc_ BK257 1, bc_ BK257 2⟩ (fun hHeld => ?_)
      clear hK K
      refine norm_ (a' := ?_) ?_ ?_
      rotate_left
      ·show Act.put _ (some 8) _ = _
       simp only [Act.put, sia_, scz_, scs_, i64_w, i32_w]
       rfl
      refine one_ (i := 4) (N := some 33) #[true, true, true, true, true, false, false, false, false, true, false, false] rfl rfl (one_of HT_.out (by kernel_rfl)) (by decide) (fun K hK => ?_)
      refine goes_ Try.func17 (by kernel_rfl) rfl #[.agg #[.int .i64 a2_0, .int .i64 a2_1, .string a2_2]] (by rfl) rfl rfl (by (try simp only [List.map_toArray, List.map_cons, List.map_nil]); first | done | rfl | (simp only [List.length_drop, List.length_take]; rfl)) ?_
      with_reducible refine (laws_toEntry.calls a2_0 a2_1 a2_2 t265 t266 t267 _ A21.out).mono ?_
      rintro e w37 ⟨rfl, hb⟩
      refine ⟨_, rfl, ?_⟩
      have n0_ := rb_ HO264 hb
      have n1_ := bb_ BK256 hb; have n2_ := bb_ BK257 hb; have n3_ := bb_ BK274 hb
      have n4_ := bs_ HB hb
      clear HO264; clear BK256; clear BK257; clear BK274; clear HB; have HO264 := n0_; have BK256 := n1_; have BK257 := n2_; have BK274 := n3_; have HB := n4_; clear n0_ n1_ n2_ n3_ n4_; (try clear hb); (try clear hb2); (try clear hk); (try clear hi)
      obtain ⟨Ao38, co38, eo38⟩ := Kd.R_slice HO264.out
      (first | subst eo38 | (injection eo38 with f1_ f2_ f3_; have f4_ := f1_.symm; have f5_ := f3_.symm; clear f1_ f2_ f3_; subst f4_; subst f5_))
      refine hK.out _ _ ⟨bc_ BK256 0, bc_ BK256 1, bc_ BK256 2, bc_ BK257 0, bc_ BK257 1, bc_ BK257 2⟩ (fun hHeld => ?_)
      clear hK K
      refine norm_ (a' := ?_) ?_ ?_
      rotate_left
      ·show Act.put _ (some 33) _ = _
       simp only [Act.put, sia_, scz_, scs_, i64_w, i32_w]
       rfl
      refine one_ (i := 5) (N := some 34) #[true, true, true, true, true, true, false, false, false, true, false, false] rfl rfl (one_of HT_.out (by kernel_rfl)) (by decide) (fun K hK => ?_)
      refine goes_ Try.func15 (by kernel_rfl) rfl #[.agg #[.int .i64 t260, .int .i64 t261, .slice Ao38 t262.length co38], .int .i64 a1, .agg #[.int .i64 t265, .int .i64 t266, .string t267]] (by rfl) rfl rfl (by (try simp only [List.map_toArray, List.map_cons, List.map_nil]); first | done | rfl | (simp only [List.length_drop, List.length_take]; rfl)) ?_
      with_reducible refine (spec_LogPut.calls k t260 t261 _ _ t262 a1 t265 t266 t267 t268 t269 t270 t273 _ ?side1 ?side2 A22.out).mono ?_
      (case side1 => repeat (first | exact (Kd.R_reads' HO264.out).2.2 | (with_reducible refine Kd.C_alloc ?_ _) | (with_reducible refine Kd.C_drewN ?_ _) | (with_reducible refine Kd.C_drew ?_)))
      (case side2 => exact (Kd.R_reads' HO264.out).2.1)
      rintro e w39 ⟨v271, rfl, ho0, hb⟩
      refine ⟨_, rfl, ?_⟩
      have n0_ := mk_ (Kd.R_elder' (rp_ HO264) (Kd.R_base ho0) hb)
      have n1_ := mk_ (Kd.R_lower (Kd.R_new' ho0 (Kd.R_lt (rp_ HO264))) (below_size (bw_ HB)))
      have n2_ := bb_ BK256 hb; have n3_ := bb_ BK257 hb; have n4_ := bb_ BK274 hb
      have n5_ := bs_ HB hb
      clear HO264; clear BK256; clear BK257; clear BK274; clear HB; have HO264 := n0_; have HO272 := n1_; have BK256 := n2_; have BK257 := n3_; have BK274 := n4_; have HB := n5_; clear n0_ n1_ n2_ n3_ n4_ n5_; (try clear hb); (try clear hb2); (try clear hk); (try clear hi); (try clear ho0)
      refine hK.out _ _ ⟨bc_ BK256 0, bc_ BK256 1, bc_ BK256 2, bc_ BK257 0, bc_ BK257 1, bc_ BK257 2⟩ (fun hHeld => ?_)
      clear hK K
      refine norm_ (a' := ?_) ?_ ?_
      rotate_left
      ·show Act.put _ (some 34) _ = _
       simp only [Act.put, sia_, scz_, scs_, i64_w, i32_w]
       rfl
      refine pure_ (i := 6) (N := some 28) (v := ?_) (a' := ?_) #[true, true, true, true, true, true, true, false, false, true, false, false] rfl rfl (any_of HT_.out (by kernel_rfl)) (fun _ _ _ h => h) (Or.inl ⟨by rfl, ?_⟩) ?_ ?_
      rotate_left
      ·intro w'
       go_simp
       with_reducible rfl
      rotate_left
      ·simp only [Act.put, sia_, scz_, scs_, i64_w, i32_w]
       rfl
      refine pure_ (i := 7) (N := some 35) (v := ?_) (a' := ?_) #[true, true, true, true, true, true, true, true, false, true, false, false] rfl rfl (any_of HT_.out (by kernel_rfl)) (fun _ _ _ h => h) (Or.inl ⟨by rfl, ?_⟩) ?_ ?_
      rotate_left
      ·intro w'
       go_simp
       with_reducible rfl
      rotate_left
      ·simp only [Act.put, sia_, scz_, scs_, i64_w, i32_w]
       rfl
      refine pure_ (i := 8) (N := some 36) (v := ?_) (a' := ?_) #[true, true, true, true, true, true, true, true, true, true, false, false] rfl rfl (any_of HT_.out (by kernel_rfl)) (fun _ _ _ h => h) (Or.inl ⟨by rfl, ?_⟩) ?_ ?_
      rotate_left
      ·intro w'
       go_simp
       with_reducible rfl
      rotate_left
      ·simp only [Act.put, sia_, scz_, scs_, i64_w, i32_w]
       rfl
      exact norm_ (by simp only [putAll, Act.put, sia_, scz_, scs_]) (hCont (.slice Ao38 t262.length co38, v271, gb274) _ ⟨hHeld, (by (with_reducible repeat (first | apply Kd.R_alloc | apply Kd.R_drewN | apply Kd.R_drew)); exact Kd.R_mono HO264.out (fun _ hk => hk.2)), (by (with_reducible repeat (first | apply Kd.R_alloc | apply Kd.R_drewN | apply Kd.R_drew)); exact Kd.R_mono HO272.out (fun _ hk => hk.2)), (bp_ BK256), (bp_ BK257), (bp_ BK274), GW274.out, GE274.out, NB256_274.out, NB274_256.out, NB257_274.out, NB274_257.out, (bw_ HB)⟩)
    ·skip
     refine box_step ?hg (N := 8) ?hd (cs := #[.int .i64 0, .int .i64 0, .slice none 0 0]) (t := 31) ?hr ?_; (case hd => rfl); (case hg => rfl); (case hr => first | (go_simp; done) | (go_simp; rfl))
     intro gb274 hg w35 hbox hb
     have n0_ := bb_ BK256 hb; have n1_ := bb_ BK257 hb
     have n2_ := bs_ HB hb
     have n3_ := mk_ (hbox)
     have n4_ : Aside0 (w.heap.size ≤ gb274) := bz_ hg
     have n5_ : Aside0 (w.heap.size ≤ gb274) := bz_ hg
     have n6_ : Aside0 (gb256 ≠ gb274) := bl_ BK256 hg
     have n7_ : Aside0 (gb274 ≠ gb256) := bg_ BK256 hg
     have n8_ : Aside0 (gb257 ≠ gb274) := bl_ BK257 hg
     have n9_ : Aside0 (gb274 ≠ gb257) := bg_ BK257 hg
     clear BK256; clear BK257; clear HB; have BK256 := n0_; have BK257 := n1_; have HB := n2_; have BK274 := n3_; have GW274 := n4_; have GE274 := n5_; have NB256_274 := n6_; have NB274_256 := n7_; have NB257_274 := n8_; have NB274_257 := n9_; clear n0_ n1_ n2_ n3_ n4_ n5_ n6_ n7_ n8_ n9_; clear hb hbox hg
     refine hK.out _ _ ⟨bc_ BK256 0, bc_ BK256 1, bc_ BK256 2, bc_ BK257 0, bc_ BK257 1, bc_ BK257 2⟩ (fun hHeld => ?_)
     clear hK K
     refine norm_ (a' := ?_) ?_ ?_
     rotate_left
     ·show Act.put _ (some 8) _ = _
      simp only [Act.put, sia_, scz_, scs_, i64_w, i32_w]
      rfl
     refine one_ (i := 1) (N := some 30) #[true, true, true, true, false, false, false, false, false, true, false, false] rfl rfl (one_of HT_.out (by kernel_rfl)) (by decide) (fun K hK => ?_)
     refine goes_ Try.func16 (by kernel_rfl) rfl #[.agg #[.int .i64 a0_0, .int .i64 a0_1, .slice A0_2 l0_2.length c0_2]] (by rfl) rfl rfl (by (try simp only [List.map_toArray, List.map_cons, List.map_nil]); first | done | rfl | (simp only [List.length_drop, List.length_take]; rfl)) ?_
     with_reducible refine (laws_toLog.calls k a0_0 a0_1 _ _ l0_2 t260 t261 t262 _ ?side1 ?side2 A20.out).mono ?_
     (case side1 => repeat (first | exact (Kd.C_below HR0_2.out HB.out) | (with_reducible refine Kd.C_alloc ?_ _) | (with_reducible refine Kd.C_drewN ?_ _) | (with_reducible refine Kd.C_drew ?_)))
     (case side2 => exact HC0_2.out)
     rintro e w36 ⟨v263, rfl, ho0, hb⟩
     refine ⟨_, rfl, ?_⟩
     have n0_ := mk_ (Kd.R_lower ho0 (below_size (bw_ HB)))
     have n1_ := bb_ BK256 hb; have n2_ := bb_ BK257 hb; have n3_ := bb_ BK274 hb
     have n4_ := bs_ HB hb
     clear BK256; clear BK257; clear BK274; clear HB; have HO264 := n0_; have BK256 := n1_; have BK257 := n2_; have BK274 := n3_; have HB := n4_; clear n0_ n1_ n2_ n3_ n4_; (try clear hb); (try clear hb2); (try clear hk); (try clear hi); (try clear ho0)
     refine hK.out _ _ ⟨bc_ BK256 0, bc_ BK256 1, bc_ BK256 2, bc_ BK257 0, bc_ BK257 1, bc_ BK257 2⟩ (fun hHeld => ?_)
     clear hK K
     refine norm_ (a' := ?_) ?_ ?_
     rotate_left
     ·show Act.put _ (some 30) _ = _
      simp only [Act.put, sia_, scz_, scs_, i64_w, i32_w]
      rfl
     refine one_ (i := 4) (N := some 33) #[true, true, true, true, true, false, false, false, false, true, false, false] rfl rfl (one_of HT_.out (by kernel_rfl)) (by decide) (fun K hK => ?_)
     refine goes_ Try.func17 (by kernel_rfl) rfl #[.agg #[.int .i64 a2_0, .int .i64 a2_1, .string a2_2]] (by rfl) rfl rfl (by (try simp only [List.map_toArray, List.map_cons, List.map_nil]); first | done | rfl | (simp only [List.length_drop, List.length_take]; rfl)) ?_
     with_reducible refine (laws_toEntry.calls a2_0 a2_1 a2_2 t265 t266 t267 _ A21.out).mono ?_
     rintro e w37 ⟨rfl, hb⟩
     refine ⟨_, rfl, ?_⟩
     have n0_ := rb_ HO264 hb
     have n1_ := bb_ BK256 hb; have n2_ := bb_ BK257 hb; have n3_ := bb_ BK274 hb
     have n4_ := bs_ HB hb
     clear HO264; clear BK256; clear BK257; clear BK274; clear HB; have HO264 := n0_; have BK256 := n1_; have BK257 := n2_; have BK274 := n3_; have HB := n4_; clear n0_ n1_ n2_ n3_ n4_; (try clear hb); (try clear hb2); (try clear hk); (try clear hi)
     obtain ⟨Ao38, co38, eo38⟩ := Kd.R_slice HO264.out
     (first | subst eo38 | (injection eo38 with f1_ f2_ f3_; have f4_ := f1_.symm; have f5_ := f3_.symm; clear f1_ f2_ f3_; subst f4_; subst f5_))
     refine hK.out _ _ ⟨bc_ BK256 0, bc_ BK256 1, bc_ BK256 2, bc_ BK257 0, bc_ BK257 1, bc_ BK257 2⟩ (fun hHeld => ?_)
     clear hK K
     refine norm_ (a' := ?_) ?_ ?_
     rotate_left
     ·show Act.put _ (some 33) _ = _
      simp only [Act.put, sia_, scz_, scs_, i64_w, i32_w]
      rfl
     refine one_ (i := 5) (N := some 34) #[true, true, true, true, true, true, false, false, false, true, false, false] rfl rfl (one_of HT_.out (by kernel_rfl)) (by decide) (fun K hK => ?_)
     refine goes_ Try.func15 (by kernel_rfl) rfl #[.agg #[.int .i64 t260, .int .i64 t261, .slice Ao38 t262.length co38], .int .i64 a1, .agg #[.int .i64 t265, .int .i64 t266, .string t267]] (by rfl) rfl rfl (by (try simp only [List.map_toArray, List.map_cons, List.map_nil]); first | done | rfl | (simp only [List.length_drop, List.length_take]; rfl)) ?_
     with_reducible refine (spec_LogPut.calls k t260 t261 _ _ t262 a1 t265 t266 t267 t268 t269 t270 t273 _ ?side1 ?side2 A22.out).mono ?_
     (case side1 => repeat (first | exact (Kd.R_reads' HO264.out).2.2 | (with_reducible refine Kd.C_alloc ?_ _) | (with_reducible refine Kd.C_drewN ?_ _) | (with_reducible refine Kd.C_drew ?_)))
     (case side2 => exact (Kd.R_reads' HO264.out).2.1)
     rintro e w39 ⟨v271, rfl, ho0, hb⟩
     refine ⟨_, rfl, ?_⟩
     have n0_ := mk_ (Kd.R_elder' (rp_ HO264) (Kd.R_base ho0) hb)
     have n1_ := mk_ (Kd.R_lower (Kd.R_new' ho0 (Kd.R_lt (rp_ HO264))) (below_size (bw_ HB)))
     have n2_ := bb_ BK256 hb; have n3_ := bb_ BK257 hb; have n4_ := bb_ BK274 hb
     have n5_ := bs_ HB hb
     clear HO264; clear BK256; clear BK257; clear BK274; clear HB; have HO264 := n0_; have HO272 := n1_; have BK256 := n2_; have BK257 := n3_; have BK274 := n4_; have HB := n5_; clear n0_ n1_ n2_ n3_ n4_ n5_; (try clear hb); (try clear hb2); (try clear hk); (try clear hi); (try clear ho0)
     refine hK.out _ _ ⟨bc_ BK256 0, bc_ BK256 1, bc_ BK256 2, bc_ BK257 0, bc_ BK257 1, bc_ BK257 2⟩ (fun hHeld => ?_)
     clear hK K
     refine norm_ (a' := ?_) ?_ ?_
     rotate_left
     ·show Act.put _ (some 34) _ = _
      simp only [Act.put, sia_, scz_, scs_, i64_w, i32_w]
      rfl
     refine pure_ (i := 6) (N := some 28) (v := ?_) (a' := ?_) #[true, true, true, true, true, true, true, false, false, true, false, false] rfl rfl (any_of HT_.out (by kernel_rfl)) (fun _ _ _ h => h) (Or.inl ⟨by rfl, ?_⟩) ?_ ?_
     rotate_left
     ·intro w'
      go_simp
      with_reducible rfl
     rotate_left
     ·simp only [Act.put, sia_, scz_, scs_, i64_w, i32_w]
      rfl
     refine pure_ (i := 7) (N := some 35) (v := ?_) (a' := ?_) #[true, true, true, true, true, true, true, true, false, true, false, false] rfl rfl (any_of HT_.out (by kernel_rfl)) (fun _ _ _ h => h) (Or.inl ⟨by rfl, ?_⟩) ?_ ?_
     rotate_left
     ·intro w'
      go_simp
      with_reducible rfl
     rotate_left
     ·simp only [Act.put, sia_, scz_, scs_, i64_w, i32_w]
      rfl
     refine pure_ (i := 8) (N := some 36) (v := ?_) (a' := ?_) #[true, true, true, true, true, true, true, true, true, true, false, false] rfl rfl (any_of HT_.out (by kernel_rfl)) (fun _ _ _ h => h) (Or.inl ⟨by rfl, ?_⟩) ?_ ?_
     rotate_left
     ·intro w'
      go_simp
      with_reducible rfl
     rotate_left
     ·simp only [Act.put, sia_, scz_, scs_, i64_w, i32_w]
      rfl
     exact norm_ (by simp only [putAll, Act.put, sia_, scz_, scs_]) (hCont (.slice Ao38 t262.length co38, v271, gb274) _ ⟨hHeld, (by (with_reducible repeat (first | apply Kd.R_alloc | apply Kd.R_drewN | apply Kd.R_drew)); exact Kd.R_mono HO264.out (fun _ hk => hk.2)), (by (with_reducible repeat (first | apply Kd.R_alloc | apply Kd.R_drewN | apply Kd.R_drew)); exact Kd.R_mono HO272.out (fun _ hk => hk.2)), (bp_ BK256), (bp_ BK257), (bp_ BK274), GW274.out, GE274.out, NB256_274.out, NB274_256.out, NB257_274.out, NB274_257.out, (bw_ HB)⟩)
   rintro ⟨v263, v271, gb274⟩ w40 ⟨hS_, h0_, h1_, h2_, h3_, h4_, h5_, h6_, h7_, h8_, h9_, h10_, h11_⟩
   have n0_ : Aside0 (Kd.R k35 35 w40 w.heap.size (fun k_ => some k_ ≠ (v271 : Value).ownBlock) v263 t262) := ⟨h0_⟩
   have n1_ : Aside0 (Kd.R k35 35 w40 w.heap.size (fun k_ => some k_ ≠ (v263 : Value).ownBlock) v271 t270) := ⟨h1_⟩
   have n2_ : Aside0 (w40.heap[gb256]? = some (.cells #[.int .i64 a0_0, .int .i64 a0_1, .slice A0_2 l0_2.length c0_2] 24 (0, 0))) := ⟨h2_⟩
   have n3_ : Aside0 (w40.heap[gb257]? = some (.cells #[.int .i64 a2_0, .int .i64 a2_1, .string a2_2] 26 (0, 0))) := ⟨h3_⟩
   have n4_ : Aside0 (w40.heap[gb274]? = some (.cells #[.int .i64 0, .int .i64 0, .slice none 0 0] 31 (0, 0))) := ⟨h4_⟩
   have n5_ : Aside0 (w.heap.size ≤ gb274) := ⟨h5_⟩
   have n6_ : Aside0 (w.heap.size ≤ gb274) := ⟨h6_⟩
   have n7_ : Aside0 (gb256 ≠ gb274) := ⟨h7_⟩
   have n8_ : Aside0 (gb274 ≠ gb256) := ⟨h8_⟩
   have n9_ : Aside0 (gb257 ≠ gb274) := ⟨h9_⟩
   have n10_ : Aside0 (gb274 ≠ gb257) := ⟨h10_⟩
   have n11_ : Aside0 (Below w.heap.size w w40) := ⟨h11_⟩
   clear BK256; clear BK257; clear HB; clear h0_ h1_ h2_ h3_ h4_ h5_ h6_ h7_ h8_ h9_ h10_ h11_; have HO264 := n0_; have HO272 := n1_; have BK256 := n2_; have BK257 := n3_; have BK274 := n4_; have GW274 := n5_; have GE274 := n6_; have NB256_274 := n7_; have NB274_256 := n8_; have NB257_274 := n9_; have NB274_257 := n10_; have HB := n11_; clear n0_ n1_ n2_ n3_ n4_ n5_ n6_ n7_ n8_ n9_ n10_ n11_
   have hHeld : w40.cell? ⟨gb256, 0, none⟩ = some (.int .i64 a0_0) ∧ w40.cell? ⟨gb256, 1, none⟩ = some (.int .i64 a0_1) ∧ w40.cell? ⟨gb256, 2, none⟩ = some (.slice A0_2 l0_2.length c0_2) ∧ w40.cell? ⟨gb257, 0, none⟩ = some (.int .i64 a2_0) ∧ w40.cell? ⟨gb257, 1, none⟩ = some (.int .i64 a2_1) ∧ w40.cell? ⟨gb257, 2, none⟩ = some (.string a2_2) := hS_
   obtain ⟨Ao43, co43, eo43⟩ := Kd.R_slice HO272.out
   (first | subst eo43 | (injection eo43 with f1_ f2_ f3_; have f4_ := f1_.symm; have f5_ := f3_.symm; clear f1_ f2_ f3_; subst f4_; subst f5_))
   refine norm_ (a' := ?_) ?_ ?_
   rotate_left
   ·simp only [putAll, Act.put, sia_, scz_, scs_]
    rfl
   refine one_ (i := 10) (N := none) #[true, true, true, true, true, true, true, true, true, true, true, false] rfl rfl (one_of HT_.out (by kernel_rfl)) (by decide) (fun K hK => ?_)
   have hs41 : w40.cell? ⟨gb274, 0, none⟩ = some (.int .i64 0) := bc_ BK274 0
   have hfs41 := blk_frozen BK274.out 0
   have hns41_0 := NB256_274.out
   have hns41_1 := NB257_274.out
   have hms41_0 := NB274_256.out
   have hms41_1 := NB274_257.out
   have hs42 : w40.cell? ⟨gb274, 1, none⟩ = some (.int .i64 0) := bc_ BK274 1
   have hfs42 := blk_frozen BK274.out 1
   have hns42_0 := NB256_274.out
   have hns42_1 := NB257_274.out
   have hms42_0 := NB274_256.out
   have hms42_1 := NB274_257.out
   have hs44 : w40.cell? ⟨gb274, 2, none⟩ = some (.slice none 0 0) := bc_ BK274 2
   have hfs44 := blk_frozen BK274.out 2
   have hns44_0 := NB256_274.out
   have hns44_1 := NB257_274.out
   have hms44_0 := NB274_256.out
   have hms44_1 := NB274_257.out
   refine skip_ (w1 := ?_) (by rfl) rfl ?_ ?_
   rotate_left
   ·go_simp
    rfl
   refine hK.out _ _ ⟨((cell_far (p := ⟨gb274, _, none⟩) NB256_274.out _).trans (((cell_far (p := ⟨gb274, _, none⟩) NB256_274.out _).trans (((cell_far (p := ⟨gb274, _, none⟩) NB256_274.out _).trans (hHeld.1)))))), ((cell_far (p := ⟨gb274, _, none⟩) NB256_274.out _).trans (((cell_far (p := ⟨gb274, _, none⟩) NB256_274.out _).trans (((cell_far (p := ⟨gb274, _, none⟩) NB256_274.out _).trans (hHeld.2.1)))))), ((cell_far (p := ⟨gb274, _, none⟩) NB256_274.out _).trans (((cell_far (p := ⟨gb274, _, none⟩) NB256_274.out _).trans (((cell_far (p := ⟨gb274, _, none⟩) NB256_274.out _).trans (hHeld.2.2.1)))))), ((cell_far (p := ⟨gb274, _, none⟩) NB257_274.out _).trans (((cell_far (p := ⟨gb274, _, none⟩) NB257_274.out _).trans (((cell_far (p := ⟨gb274, _, none⟩) NB257_274.out _).trans (hHeld.2.2.2.1)))))), ((cell_far (p := ⟨gb274, _, none⟩) NB257_274.out _).trans (((cell_far (p := ⟨gb274, _, none⟩) NB257_274.out _).trans (((cell_far (p := ⟨gb274, _, none⟩) NB257_274.out _).trans (hHeld.2.2.2.2.1)))))), ((cell_far (p := ⟨gb274, _, none⟩) NB257_274.out _).trans (((cell_far (p := ⟨gb274, _, none⟩) NB257_274.out _).trans (((cell_far (p := ⟨gb274, _, none⟩) NB257_274.out _).trans (hHeld.2.2.2.2.2))))))⟩ (fun hHeld => ?_)
   clear hK K
   refine pure_ (i := 11) (N := some 9) (v := ?_) (a' := ?_) #[true, true, true, true, true, true, true, true, true, true, true, true] rfl rfl (any_of HT_.out (by kernel_rfl)) (fun _ _ _ h => h) (Or.inl ⟨by rfl, ?_⟩) ?_ ?_
   rotate_left
   ·intro w'
    go_simp
    with_reducible rfl
   rotate_left
   ·simp only [Act.put, sia_, scz_, scs_, i64_w, i32_w]
    rfl
   refine done_ (done_of HT_.out (by kernel_rfl)) ?_
   have hnb45 := NB256_274.out
   have hnc45 := NB274_256.out
   have hcz46_0 : w40.cell? ⟨gb256, 0, none⟩ = some (.int .i64 a0_0) := bc_ BK256 0
   have hcz46_1 : w40.cell? ⟨gb256, 1, none⟩ = some (.int .i64 a0_1) := bc_ BK256 1
   have hcz46_2 : w40.cell? ⟨gb256, 2, none⟩ = some (.slice A0_2 l0_2.length c0_2) := bc_ BK256 2
   have hfz46_0 := blk_frozen BK256.out 0
   have hfz46_1 := blk_frozen BK256.out 1
   have hfz46_2 := blk_frozen BK256.out 2
   try go_wp2_with (first | ((with_reducible refine gate_callee (f := 16) rfl ?_); refine goesL_ (some 38) rfl rfl Try.func16 (by kernel_rfl) rfl #[.agg #[.int .i64 a0_0, .int .i64 a0_1, .slice A0_2 l0_2.length c0_2]] rfl (by (try simp only [List.map_toArray, List.map_cons, List.map_nil]); first | done | rfl | (simp only [List.length_drop, List.length_take]; rfl)) ?_; (with_reducible refine (laws_toLog.calls k a0_0 a0_1 _ _ l0_2 t275 t276 t277 _ ?side1 ?side2 A23.out).mono ?_); (case side1 => exact Kd.C_below HR0_2.out (bw_ HB)); (case side2 => exact HC0_2.out); rintro e w47 ⟨v278, rfl, ho0, hb⟩; refine ⟨_, rfl, ?_⟩; have HO279 := mk_ (Kd.R_lower (Kd.R_new' (Kd.R_new' ho0 (Kd.R_lt (by (with_reducible repeat (first | apply Kd.R_alloc | apply Kd.R_drewN | apply Kd.R_drew)); exact (Kd.R_mono (Kd.R_far (p := ⟨gb274, 2, none⟩) (Kd.R_far (p := ⟨gb274, 1, none⟩) (Kd.R_far (p := ⟨gb274, 0, none⟩) (Kd.R_types HO264.out BK274.out (by decide)) (fun _ hk => hk.2) (.int .i64 t268)) (fun _ hk => hk.2) (.int .i64 t269)) (fun _ hk => hk.2) (.slice Ao43 t270.length co43)) (fun _ h_ => h_.1))))) (Kd.R_lt (by (with_reducible repeat (first | apply Kd.R_alloc | apply Kd.R_drewN | apply Kd.R_drew)); exact (Kd.R_mono (Kd.R_far (p := ⟨gb274, 2, none⟩) (Kd.R_far (p := ⟨gb274, 1, none⟩) (Kd.R_far (p := ⟨gb274, 0, none⟩) (Kd.R_types HO272.out BK274.out (by decide)) (fun _ hk => hk.2) (.int .i64 t268)) (fun _ hk => hk.2) (.int .i64 t269)) (fun _ hk => hk.2) (.slice Ao43 t270.length co43)) (fun _ h_ => h_.1))))) (below_size (bw_ HB))); replace HO264 := mk_ (Kd.R_elder' (by (with_reducible repeat (first | apply Kd.R_alloc | apply Kd.R_drewN | apply Kd.R_drew)); exact (Kd.R_mono (Kd.R_far (p := ⟨gb274, 2, none⟩) (Kd.R_far (p := ⟨gb274, 1, none⟩) (Kd.R_far (p := ⟨gb274, 0, none⟩) (Kd.R_types HO264.out BK274.out (by decide)) (fun _ hk => hk.2) (.int .i64 t268)) (fun _ hk => hk.2) (.int .i64 t269)) (fun _ hk => hk.2) (.slice Ao43 t270.length co43)) (fun _ h_ => h_.1))) (Kd.R_base ho0) hb); replace HO272 := mk_ (Kd.R_elder' (by (with_reducible repeat (first | apply Kd.R_alloc | apply Kd.R_drewN | apply Kd.R_drew)); exact (Kd.R_mono (Kd.R_far (p := ⟨gb274, 2, none⟩) (Kd.R_far (p := ⟨gb274, 1, none⟩) (Kd.R_far (p := ⟨gb274, 0, none⟩) (Kd.R_types HO272.out BK274.out (by decide)) (fun _ hk => hk.2) (.int .i64 t268)) (fun _ hk => hk.2) (.int .i64 t269)) (fun _ hk => hk.2) (.slice Ao43 t270.length co43)) (fun _ h_ => h_.1))) (Kd.R_base ho0) hb); replace BK256 := mk_ (blk_below (g := gb256) (o := .cells #[.int .i64 a0_0, .int .i64 a0_1, .slice A0_2 l0_2.length c0_2] 24 (0, 0)) (by (with_reducible repeat (first | refine blk_drewN ?_ _ | refine blk_drew ?_ | refine blk_alloc ?_ _)); refine blk_far ?_ NB256_274.out _; (with_reducible repeat (first | refine blk_drewN ?_ _ | refine blk_drew ?_ | refine blk_alloc ?_ _)); refine blk_far ?_ NB256_274.out _; (with_reducible repeat (first | refine blk_drewN ?_ _ | refine blk_drew ?_ | refine blk_alloc ?_ _)); refine blk_far ?_ NB256_274.out _; (with_reducible repeat (first | refine blk_drewN ?_ _ | refine blk_drew ?_ | refine blk_alloc ?_ _)); exact BK256.out) hb); replace BK257 := mk_ (blk_below (g := gb257) (o := .cells #[.int .i64 a2_0, .int .i64 a2_1, .string a2_2] 26 (0, 0)) (by (with_reducible repeat (first | refine blk_drewN ?_ _ | refine blk_drew ?_ | refine blk_alloc ?_ _)); refine blk_far ?_ NB257_274.out _; (with_reducible repeat (first | refine blk_drewN ?_ _ | refine blk_drew ?_ | refine blk_alloc ?_ _)); refine blk_far ?_ NB257_274.out _; (with_reducible repeat (first | refine blk_drewN ?_ _ | refine blk_drew ?_ | refine blk_alloc ?_ _)); refine blk_far ?_ NB257_274.out _; (with_reducible repeat (first | refine blk_drewN ?_ _ | refine blk_drew ?_ | refine blk_alloc ?_ _)); exact BK257.out) hb); replace BK274 := mk_ (blk_below (g := gb274) (o := .cells #[.int .i64 t268, .int .i64 t269, .slice Ao43 t270.length co43] 31 (0, 0)) (by (with_reducible repeat (first | refine blk_drewN ?_ _ | refine blk_drew ?_ | refine blk_alloc ?_ _)); refine blk_put (cs := #[.int .i64 t268, .int .i64 t269, .slice none 0 0]) ?_ 2 _ rfl; (with_reducible repeat (first | refine blk_drewN ?_ _ | refine blk_drew ?_ | refine blk_alloc ?_ _)); refine blk_put (cs := #[.int .i64 t268, .int .i64 0, .slice none 0 0]) ?_ 1 _ rfl; (with_reducible repeat (first | refine blk_drewN ?_ _ | refine blk_drew ?_ | refine blk_alloc ?_ _)); refine blk_put (cs := #[.int .i64 0, .int .i64 0, .slice none 0 0]) ?_ 0 _ rfl; (with_reducible repeat (first | refine blk_drewN ?_ _ | refine blk_drew ?_ | refine blk_alloc ?_ _)); exact BK274.out) hb); replace HB := bs_ HB hb; (try clear hb); (try clear hk); (try clear ho0)) | ((with_reducible refine gate_dst (N := 10) rfl ?_); refine box_event ?hg (N := 10) ?hd (cs := #[.int .i64 0, .int .i64 0, .slice none 0 0]) (t := 31) ?hr ?_; (case hd => rfl); (case hg => rfl); (case hr => first | (go_simp; done) | (go_simp; rfl)); intro gb280 hg w48 hbox hb; have BK280 := mk_ (hbox); have GW280 : Aside0 (w.heap.size ≤ gb280) := bz_ hg; have GE280 : Aside0 (w.heap.size ≤ gb280) := bz_ hg; have NB256_280 : Aside0 (gb256 ≠ gb280) := bl_ BK256 hg; have NB280_256 : Aside0 (gb280 ≠ gb256) := bg_ BK256 hg; have NB257_280 : Aside0 (gb257 ≠ gb280) := bl_ BK257 hg; have NB280_257 : Aside0 (gb280 ≠ gb257) := bg_ BK257 hg; have NB274_280 : Aside0 (gb274 ≠ gb280) := bl_ BK274 hg; have NB280_274 : Aside0 (gb280 ≠ gb274) := bg_ BK274 hg; replace HO264 := rb_ HO264 hb; replace HO272 := rb_ HO272 hb; replace HO279 := rb_ HO279 hb; replace BK256 := bb_ BK256 hb; replace BK257 := bb_ BK257 hb; replace BK274 := bb_ BK274 hb; replace HB := bs_ HB hb; clear hb hbox hg; have hnb49 := NB280_256.out; have hnc49 := NB256_280.out; have hnb50 := NB280_257.out; have hnc50 := NB257_280.out; have hnb51 := NB280_274.out; have hnc51 := NB274_280.out; have hcz52_0 : w48.cell? ⟨gb280, 0, none⟩ = some (.int .i64 0) := bc_ BK280 0; have hcz52_1 : w48.cell? ⟨gb280, 1, none⟩ = some (.int .i64 0) := bc_ BK280 1; have hcz52_2 : w48.cell? ⟨gb280, 2, none⟩ = some (.slice none 0 0) := bc_ BK280 2; have hfz52_0 := blk_frozen BK280.out 0; have hfz52_1 := blk_frozen BK280.out 1; have hfz52_2 := blk_frozen BK280.out 2; obtain ⟨Ao53, co53, eo53⟩ := Kd.R_slice HO279.out; subst eo53))
   have n0_ : Aside0 (Kd.R k35 35 (((w48.setCell ⟨gb280, 0, none⟩ (.int .i64 t275)).setCell ⟨gb280, 1, none⟩ (.int .i64 t276)).setCell ⟨gb280, 2, none⟩ (.slice Ao53 t277.length co53)) w.heap.size (fun k_ => some k_ ≠ (.slice Ao43 t270.length co43 : Value).ownBlock ∧ some k_ ≠ (.slice Ao53 t277.length co53 : Value).ownBlock) v263 t262) := ⟨by (with_reducible repeat (first | apply Kd.R_alloc | apply Kd.R_drewN | apply Kd.R_drew)); exact Kd.R_mono (Kd.R_far (p := ⟨gb280, 2, none⟩) (Kd.R_far (p := ⟨gb280, 1, none⟩) (Kd.R_far (p := ⟨gb280, 0, none⟩) (Kd.R_types HO264.out BK280.out (by decide)) (fun _ hk => hk.2) (.int .i64 t275)) (fun _ hk => hk.2) (.int .i64 t276)) (fun _ hk => hk.2) (.slice Ao53 t277.length co53)) (fun _ hk => ⟨hk.1.1, hk.1.2⟩)⟩
   have n1_ : Aside0 (Kd.R k35 35 (((w48.setCell ⟨gb280, 0, none⟩ (.int .i64 t275)).setCell ⟨gb280, 1, none⟩ (.int .i64 t276)).setCell ⟨gb280, 2, none⟩ (.slice Ao53 t277.length co53)) w.heap.size (fun k_ => some k_ ≠ (v263 : Value).ownBlock ∧ some k_ ≠ (.slice Ao53 t277.length co53 : Value).ownBlock) (.slice Ao43 t270.length co43) t270) := ⟨by (with_reducible repeat (first | apply Kd.R_alloc | apply Kd.R_drewN | apply Kd.R_drew)); exact Kd.R_mono (Kd.R_far (p := ⟨gb280, 2, none⟩) (Kd.R_far (p := ⟨gb280, 1, none⟩) (Kd.R_far (p := ⟨gb280, 0, none⟩) (Kd.R_types HO272.out BK280.out (by decide)) (fun _ hk => hk.2) (.int .i64 t275)) (fun _ hk => hk.2) (.int .i64 t276)) (fun _ hk => hk.2) (.slice Ao53 t277.length co53)) (fun _ hk => ⟨hk.1.1, hk.1.2⟩)⟩
   have n2_ : Aside0 (Kd.R k35 35 (((w48.setCell ⟨gb280, 0, none⟩ (.int .i64 t275)).setCell ⟨gb280, 1, none⟩ (.int .i64 t276)).setCell ⟨gb280, 2, none⟩ (.slice Ao53 t277.length co53)) w.heap.size (fun k_ => some k_ ≠ (v263 : Value).ownBlock ∧ some k_ ≠ (.slice Ao43 t270.length co43 : Value).ownBlock) (.slice Ao53 t277.length co53) t277) := ⟨by (with_reducible repeat (first | apply Kd.R_alloc | apply Kd.R_drewN | apply Kd.R_drew)); exact Kd.R_mono (Kd.R_far (p := ⟨gb280, 2, none⟩) (Kd.R_far (p := ⟨gb280, 1, none⟩) (Kd.R_far (p := ⟨gb280, 0, none⟩) (Kd.R_types HO279.out BK280.out (by decide)) (fun _ hk => hk.2) (.int .i64 t275)) (fun _ hk => hk.2) (.int .i64 t276)) (fun _ hk => hk.2) (.slice Ao53 t277.length co53)) (fun _ hk => ⟨hk.1.1.2, hk.1.2⟩)⟩
   have n3_ : Aside0 ((((w48.setCell ⟨gb280, 0, none⟩ (.int .i64 t275)).setCell ⟨gb280, 1, none⟩ (.int .i64 t276)).setCell ⟨gb280, 2, none⟩ (.slice Ao53 t277.length co53)).heap[gb256]? = some (.cells #[.int .i64 a0_0, .int .i64 a0_1, .slice A0_2 l0_2.length c0_2] 24 (0, 0))) := ⟨by (with_reducible repeat (first | refine blk_drewN ?_ _ | refine blk_drew ?_ | refine blk_alloc ?_ _)); refine blk_far ?_ NB256_280.out _; (with_reducible repeat (first | refine blk_drewN ?_ _ | refine blk_drew ?_ | refine blk_alloc ?_ _)); refine blk_far ?_ NB256_280.out _; (with_reducible repeat (first | refine blk_drewN ?_ _ | refine blk_drew ?_ | refine blk_alloc ?_ _)); refine blk_far ?_ NB256_280.out _; (with_reducible repeat (first | refine blk_drewN ?_ _ | refine blk_drew ?_ | refine blk_alloc ?_ _)); exact BK256.out⟩
   have n4_ : Aside0 ((((w48.setCell ⟨gb280, 0, none⟩ (.int .i64 t275)).setCell ⟨gb280, 1, none⟩ (.int .i64 t276)).setCell ⟨gb280, 2, none⟩ (.slice Ao53 t277.length co53)).heap[gb257]? = some (.cells #[.int .i64 a2_0, .int .i64 a2_1, .string a2_2] 26 (0, 0))) := ⟨by (with_reducible repeat (first | refine blk_drewN ?_ _ | refine blk_drew ?_ | refine blk_alloc ?_ _)); refine blk_far ?_ NB257_280.out _; (with_reducible repeat (first | refine blk_drewN ?_ _ | refine blk_drew ?_ | refine blk_alloc ?_ _)); refine blk_far ?_ NB257_280.out _; (with_reducible repeat (first | refine blk_drewN ?_ _ | refine blk_drew ?_ | refine blk_alloc ?_ _)); refine blk_far ?_ NB257_280.out _; (with_reducible repeat (first | refine blk_drewN ?_ _ | refine blk_drew ?_ | refine blk_alloc ?_ _)); exact BK257.out⟩
   have n5_ : Aside0 ((((w48.setCell ⟨gb280, 0, none⟩ (.int .i64 t275)).setCell ⟨gb280, 1, none⟩ (.int .i64 t276)).setCell ⟨gb280, 2, none⟩ (.slice Ao53 t277.length co53)).heap[gb274]? = some (.cells #[.int .i64 t268, .int .i64 t269, .slice Ao43 t270.length co43] 31 (0, 0))) := ⟨by (with_reducible repeat (first | refine blk_drewN ?_ _ | refine blk_drew ?_ | refine blk_alloc ?_ _)); refine blk_far ?_ NB274_280.out _; (with_reducible repeat (first | refine blk_drewN ?_ _ | refine blk_drew ?_ | refine blk_alloc ?_ _)); refine blk_far ?_ NB274_280.out _; (with_reducible repeat (first | refine blk_drewN ?_ _ | refine blk_drew ?_ | refine blk_alloc ?_ _)); refine blk_far ?_ NB274_280.out _; (with_reducible repeat (first | refine blk_drewN ?_ _ | refine blk_drew ?_ | refine blk_alloc ?_ _)); exact BK274.out⟩
   have n6_ : Aside0 ((((w48.setCell ⟨gb280, 0, none⟩ (.int .i64 t275)).setCell ⟨gb280, 1, none⟩ (.int .i64 t276)).setCell ⟨gb280, 2, none⟩ (.slice Ao53 t277.length co53)).heap[gb280]? = some (.cells #[.int .i64 t275, .int .i64 t276, .slice Ao53 t277.length co53] 31 (0, 0))) := ⟨by (with_reducible repeat (first | refine blk_drewN ?_ _ | refine blk_drew ?_ | refine blk_alloc ?_ _)); refine blk_put (cs := #[.int .i64 t275, .int .i64 t276, .slice none 0 0]) ?_ 2 _ rfl; (with_reducible repeat (first | refine blk_drewN ?_ _ | refine blk_drew ?_ | refine blk_alloc ?_ _)); refine blk_put (cs := #[.int .i64 t275, .int .i64 0, .slice none 0 0]) ?_ 1 _ rfl; (with_reducible repeat (first | refine blk_drewN ?_ _ | refine blk_drew ?_ | refine blk_alloc ?_ _)); refine blk_put (cs := #[.int .i64 0, .int .i64 0, .slice none 0 0]) ?_ 0 _ rfl; (with_reducible repeat (first | refine blk_drewN ?_ _ | refine blk_drew ?_ | refine blk_alloc ?_ _)); exact BK280.out⟩
   have n7_ : Aside0 (Below w.heap.size w (((w48.setCell ⟨gb280, 0, none⟩ (.int .i64 t275)).setCell ⟨gb280, 1, none⟩ (.int .i64 t276)).setCell ⟨gb280, 2, none⟩ (.slice Ao53 t277.length co53))) := ⟨by repeat (first | (with_reducible first | exact HB.out | apply below_alloc | apply pw_below_drewN | apply below_drew1 | refine below_set ?_ GE256.out | refine below_set ?_ GE257.out | refine below_set ?_ GE274.out | refine below_set ?_ GE280.out) | exact HB.out)⟩
   (try clear HO264); (try clear HO272); (try clear HO279); (try clear BK256); (try clear BK257); (try clear BK274); (try clear BK280); (try clear HB)
   generalize (((w48.setCell ⟨gb280, 0, none⟩ (.int .i64 t275)).setCell ⟨gb280, 1, none⟩ (.int .i64 t276)).setCell ⟨gb280, 2, none⟩ (.slice Ao53 t277.length co53)) = w54 at n0_ n1_ n2_ n3_ n4_ n5_ n6_ n7_ ⊢
   have HO264 := n0_; have HO272 := n1_; have HO279 := n2_; have BK256 := n3_; have BK257 := n4_; have BK274 := n5_; have BK280 := n6_; have HB := n7_; clear n0_ n1_ n2_ n3_ n4_ n5_ n6_ n7_
   have n0_ := mk_ (Kd.R_drew HO264.out)
   have n1_ := mk_ (Kd.R_drew HO272.out)
   have n2_ := mk_ (Kd.R_drew HO279.out)
   have n3_ := mk_ (blk_drew BK256.out)
   have n4_ := mk_ (blk_drew BK257.out)
   have n5_ := mk_ (blk_drew BK274.out)
   have n6_ := mk_ (blk_drew BK280.out)
   have n7_ := mk_ (below_drew1 HB.out)
   clear HO264; clear HO272; clear HO279; clear BK256; clear BK257; clear BK274; clear BK280; clear HB; have HO264 := n0_; have HO272 := n1_; have HO279 := n2_; have BK256 := n3_; have BK257 := n4_; have BK274 := n5_; have BK280 := n6_; have HB := n7_; clear n0_ n1_ n2_ n3_ n4_ n5_ n6_ n7_
   refine start_ (n := 11) (S := fun w' => w'.cell? ⟨gb280, 0, none⟩ = some (.int .i64 t275) ∧ w'.cell? ⟨gb280, 1, none⟩ = some (.int .i64 t276) ∧ w'.cell? ⟨gb280, 2, none⟩ = some (.slice Ao53 t277.length co53) ∧ w'.cell? ⟨gb257, 0, none⟩ = some (.int .i64 a2_0) ∧ w'.cell? ⟨gb257, 1, none⟩ = some (.int .i64 a2_1) ∧ w'.cell? ⟨gb257, 2, none⟩ = some (.string a2_2)) (ds := []) #[false, false, false, false, false, false, false, false, false, false, false] (by kernel_rfl) rfl rfl ⟨bc_ BK280 0, bc_ BK280 1, bc_ BK280 2, bc_ BK257 0, bc_ BK257 1, bc_ BK257 2⟩ (fun hHeld => ?_); refine with_tabW laws_FnExactLogPut.tab10 laws_FnExactLogPut.bits10 (fun HT_ HW_ => ?_)
   generalize w54.drew = w55 at HO264 HO272 HO279 BK256 BK257 BK274 BK280 HB hHeld ⊢
   refine pure_ (i := 1) (N := some 41) (v := ?_) (a' := ?_) #[false, true, false, false, false, false, false, false, false, false, false] rfl rfl (any_of HT_.out (by kernel_rfl)) (fun _ _ _ h => h) (Or.inl ⟨by rfl, ?_⟩) ?_ ?_
   rotate_left
   ·intro w'
    go_simp
    with_reducible rfl
   rotate_left
   ·simp only [Act.put, sia_, scz_, scs_, i64_w, i32_w]
    rfl
   refine take_ (i := 0) (N := some 40) (v := ?_) (a' := ?_) #[true, true, false, false, false, false, false, false, false, false, false] rfl rfl (take_ofW HT_.out HW_.out (by kernel_rfl)) (fun _ _ _ h => h) (Or.inl ⟨by rfl, ?_⟩) hHeld ?_ ?_
   rotate_left
   ·rintro w' ⟨s0, s1, s2, s3, s4, s5⟩
    go_simp
    with_reducible rfl
   rotate_left
   ·simp only [Act.put, sia_, scz_, scs_, i64_w, i32_w]
    rfl
   refine take_ (i := 2) (N := some 42) (v := ?_) (a' := ?_) #[true, true, true, false, false, false, false, false, false, false, false] rfl rfl (take_ofW HT_.out HW_.out (by kernel_rfl)) (fun _ _ _ h => h) (Or.inl ⟨by rfl, ?_⟩) hHeld ?_ ?_
   rotate_left
   ·rintro w' ⟨s0, s1, s2, s3, s4, s5⟩
    go_simp
    with_reducible rfl
   rotate_left
   ·simp only [Act.put, sia_, scz_, scs_, i64_w, i32_w]
    rfl
   refine join_ (σ := Value × Nat) 2 #[true, true, true, true, true, true, true, true, true, false, false] (fun s_ => [(43, .agg #[.int .i64 t281, .int .i64 t282, .string t283]), (44, .tuple #[.agg #[.int .i64 t284, .int .i64 t285, s_.1], .bool t289]), (11, .pointer (some ⟨s_.2, 0, none⟩)), (39, .tuple #[.agg #[.int .i64 t284, .int .i64 t285, s_.1], .bool t289]), (45, .agg #[.int .i64 t284, .int .i64 t285, s_.1]), (46, .bool t289)]) (fun s_ w' => (w'.cell? ⟨gb280, 0, none⟩ = some (.int .i64 t275) ∧ w'.cell? ⟨gb280, 1, none⟩ = some (.int .i64 t276) ∧ w'.cell? ⟨gb280, 2, none⟩ = some (.slice Ao53 t277.length co53) ∧ w'.cell? ⟨gb257, 0, none⟩ = some (.int .i64 a2_0) ∧ w'.cell? ⟨gb257, 1, none⟩ = some (.int .i64 a2_1) ∧ w'.cell? ⟨gb257, 2, none⟩ = some (.string a2_2)) ∧ (Kd.R k35 35 w' w.heap.size (fun k_ => some k_ ≠ (.slice Ao43 t270.length co43 : Value).ownBlock ∧ some k_ ≠ (.slice Ao53 t277.length co53 : Value).ownBlock ∧ some k_ ≠ (s_.1 : Value).ownBlock) v263 t262) ∧ (Kd.R k35 35 w' w.heap.size (fun k_ => some k_ ≠ (v263 : Value).ownBlock ∧ some k_ ≠ (.slice Ao53 t277.length co53 : Value).ownBlock ∧ some k_ ≠ (s_.1 : Value).ownBlock) (.slice Ao43 t270.length co43) t270) ∧ (Kd.R k35 35 w' w.heap.size (fun k_ => some k_ ≠ (v263 : Value).ownBlock ∧ some k_ ≠ (.slice Ao43 t270.length co43 : Value).ownBlock ∧ some k_ ≠ (s_.1 : Value).ownBlock) (.slice Ao53 t277.length co53) t277) ∧ (Kd.R k35 35 w' w.heap.size (fun k_ => some k_ ≠ (v263 : Value).ownBlock ∧ some k_ ≠ (.slice Ao43 t270.length co43 : Value).ownBlock ∧ some k_ ≠ (.slice Ao53 t277.length co53 : Value).ownBlock) s_.1 t286) ∧ (w'.heap[gb256]? = some (.cells #[.int .i64 a0_0, .int .i64 a0_1, .slice A0_2 l0_2.length c0_2] 24 (0, 0))) ∧ (w'.heap[gb257]? = some (.cells #[.int .i64 a2_0, .int .i64 a2_1, .string a2_2] 26 (0, 0))) ∧ (w'.heap[gb274]? = some (.cells #[.int .i64 t268, .int .i64 t269, .slice Ao43 t270.length co43] 31 (0, 0))) ∧ (w'.heap[gb280]? = some (.cells #[.int .i64 t275, .int .i64 t276, .slice Ao53 t277.length co53] 31 (0, 0))) ∧ (w'.heap[s_.2]? = some (.cells #[.int .i64 0, .int .i64 0, .slice none 0 0] 31 (0, 0))) ∧ (w.heap.size ≤ s_.2) ∧ (w.heap.size ≤ s_.2) ∧ (gb256 ≠ s_.2) ∧ (s_.2 ≠ gb256) ∧ (gb257 ≠ s_.2) ∧ (s_.2 ≠ gb257) ∧ (gb274 ≠ s_.2) ∧ (s_.2 ≠ gb274) ∧ (gb280 ≠ s_.2) ∧ (s_.2 ≠ gb280) ∧ (Below w.heap.size w w')) ?_ ?_
   rotate_left
   ·intro hCont
    refine two_ (i := 3) (j := 8) (Ni := some 43) (Nj := some 11) #[true, true, true, true, false, false, false, false, false, false, false] #[true, true, true, false, false, false, false, false, true, false, false] rfl rfl rfl rfl (two_of HT_.out (by kernel_rfl)) (by decide) (by decide) (fun K hK => ?_) (fun K hK => ?_)
    ·skip
     refine goes_ Try.func17 (by kernel_rfl) rfl #[.agg #[.int .i64 a2_0, .int .i64 a2_1, .string a2_2]] (by rfl) rfl rfl (by (try simp only [List.map_toArray, List.map_cons, List.map_nil]); first | done | rfl | (simp only [List.length_drop, List.length_take]; rfl)) ?_
     with_reducible refine (laws_toEntry.calls a2_0 a2_1 a2_2 t281 t282 t283 _ A24.out).mono ?_
     rintro e w56 ⟨rfl, hb⟩
     refine ⟨_, rfl, ?_⟩
     have n0_ := rb_ HO264 hb
     have n1_ := rb_ HO272 hb
     have n2_ := rb_ HO279 hb
     have n3_ := bb_ BK256 hb; have n4_ := bb_ BK257 hb; have n5_ := bb_ BK274 hb; have n6_ := bb_ BK280 hb
     have n7_ := bs_ HB hb
     clear HO264; clear HO272; clear HO279; clear BK256; clear BK257; clear BK274; clear BK280; clear HB; have HO264 := n0_; have HO272 := n1_; have HO279 := n2_; have BK256 := n3_; have BK257 := n4_; have BK274 := n5_; have BK280 := n6_; have HB := n7_; clear n0_ n1_ n2_ n3_ n4_ n5_ n6_ n7_; (try clear hb); (try clear hb2); (try clear hk); (try clear hi)
     refine hK.out _ _ ⟨bc_ BK280 0, bc_ BK280 1, bc_ BK280 2, bc_ BK257 0, bc_ BK257 1, bc_ BK257 2⟩ (fun hHeld => ?_)
     clear hK K
     refine norm_ (a' := ?_) ?_ ?_
     rotate_left
     ·show Act.put _ (some 43) _ = _
      simp only [Act.put, sia_, scz_, scs_, i64_w, i32_w]
      rfl
     refine two_ (i := 4) (j := 8) (Ni := some 44) (Nj := some 11) #[true, true, true, true, true, false, false, false, false, false, false] #[true, true, true, true, false, false, false, false, true, false, false] rfl rfl rfl rfl (two_of HT_.out (by kernel_rfl)) (by decide) (by decide) (fun K hK => ?_) (fun K hK => ?_)
     ·skip
      refine goes_ Try.func18 (by kernel_rfl) rfl #[.agg #[.int .i64 t275, .int .i64 t276, .slice Ao53 t277.length co53], .int .i64 a1, .agg #[.int .i64 t281, .int .i64 t282, .string t283]] (by rfl) rfl rfl (by (try simp only [List.map_toArray, List.map_cons, List.map_nil]); first | done | rfl | (simp only [List.length_drop, List.length_take]; rfl)) ?_
      with_reducible refine (impl_LogPut.calls k t275 t276 _ _ t277 a1 t281 t282 t283 t284 t285 t286 t289 _ ?side1 ?side2 A25.out).mono ?_
      (case side1 => repeat (first | exact (Kd.R_reads' HO279.out).2.2 | (with_reducible refine Kd.C_alloc ?_ _) | (with_reducible refine Kd.C_drewN ?_ _) | (with_reducible refine Kd.C_drew ?_)))
      (case side2 => exact (Kd.R_reads' HO279.out).2.1)
      rintro e w57 ⟨v287, rfl, ho0, hb⟩
      refine ⟨_, rfl, ?_⟩
      have n0_ := mk_ (Kd.R_elder' (rp_ HO264) (Kd.R_base ho0) hb)
      have n1_ := mk_ (Kd.R_elder' (rp_ HO272) (Kd.R_base ho0) hb)
      have n2_ := mk_ (Kd.R_elder' (rp_ HO279) (Kd.R_base ho0) hb)
      have n3_ := mk_ (Kd.R_lower (Kd.R_new' (Kd.R_new' (Kd.R_new' ho0 (Kd.R_lt (rp_ HO264))) (Kd.R_lt (rp_ HO272))) (Kd.R_lt (rp_ HO279))) (below_size (bw_ HB)))
      have n4_ := bb_ BK256 hb; have n5_ := bb_ BK257 hb; have n6_ := bb_ BK274 hb; have n7_ := bb_ BK280 hb
      have n8_ := bs_ HB hb
      clear HO264; clear HO272; clear HO279; clear BK256; clear BK257; clear BK274; clear BK280; clear HB; have HO264 := n0_; have HO272 := n1_; have HO279 := n2_; have HO288 := n3_; have BK256 := n4_; have BK257 := n5_; have BK274 := n6_; have BK280 := n7_; have HB := n8_; clear n0_ n1_ n2_ n3_ n4_ n5_ n6_ n7_ n8_; (try clear hb); (try clear hb2); (try clear hk); (try clear hi); (try clear ho0)
      refine hK.out _ _ ⟨bc_ BK280 0, bc_ BK280 1, bc_ BK280 2, bc_ BK257 0, bc_ BK257 1, bc_ BK257 2⟩ (fun hHeld => ?_)
      clear hK K
      refine norm_ (a' := ?_) ?_ ?_
      rotate_left
      ·show Act.put _ (some 44) _ = _
       simp only [Act.put, sia_, scz_, scs_, i64_w, i32_w]
       rfl
      refine pure_ (i := 5) (N := some 39) (v := ?_) (a' := ?_) #[true, true, true, true, true, true, false, false, false, false, false] rfl rfl (any_of HT_.out (by kernel_rfl)) (fun _ _ _ h => h) (Or.inl ⟨by rfl, ?_⟩) ?_ ?_
      rotate_left
      ·intro w'
       go_simp
       with_reducible rfl
      rotate_left
      ·simp only [Act.put, sia_, scz_, scs_, i64_w, i32_w]
       rfl
      refine pure_ (i := 6) (N := some 45) (v := ?_) (a' := ?_) #[true, true, true, true, true, true, true, false, false, false, false] rfl rfl (any_of HT_.out (by kernel_rfl)) (fun _ _ _ h => h) (Or.inl ⟨by rfl, ?_⟩) ?_ ?_
      rotate_left
      ·intro w'
       go_simp
       with_reducible rfl
      rotate_left
      ·simp only [Act.put, sia_, scz_, scs_, i64_w, i32_w]
       rfl
      refine pure_ (i := 7) (N := some 46) (v := ?_) (a' := ?_) #[true, true, true, true, true, true, true, true, false, false, false] rfl rfl (any_of HT_.out (by kernel_rfl)) (fun _ _ _ h => h) (Or.inl ⟨by rfl, ?_⟩) ?_ ?_
      rotate_left
      ·intro w'
       go_simp
       with_reducible rfl
      rotate_left
      ·simp only [Act.put, sia_, scz_, scs_, i64_w, i32_w]
       rfl
      refine one_ (i := 8) (N := some 11) #[true, true, true, true, true, true, true, true, true, false, false] rfl rfl (one_of HT_.out (by kernel_rfl)) (by decide) (fun K hK => ?_)
      refine box_step ?hg (N := 11) ?hd (cs := #[.int .i64 0, .int .i64 0, .slice none 0 0]) (t := 31) ?hr ?_; (case hd => rfl); (case hg => rfl); (case hr => first | (go_simp; done) | (go_simp; rfl))
      intro gb290 hg w58 hbox hb
      have n0_ := rb_ HO264 hb
      have n1_ := rb_ HO272 hb
      have n2_ := rb_ HO279 hb
      have n3_ := rb_ HO288 hb
      have n4_ := bb_ BK256 hb; have n5_ := bb_ BK257 hb; have n6_ := bb_ BK274 hb; have n7_ := bb_ BK280 hb
      have n8_ := bs_ HB hb
      have n9_ := mk_ (hbox)
      have n10_ : Aside0 (w.heap.size ≤ gb290) := bz_ hg
      have n11_ : Aside0 (w.heap.size ≤ gb290) := bz_ hg
      have n12_ : Aside0 (gb256 ≠ gb290) := bl_ BK256 hg
      have n13_ : Aside0 (gb290 ≠ gb256) := bg_ BK256 hg
      have n14_ : Aside0 (gb257 ≠ gb290) := bl_ BK257 hg
      have n15_ : Aside0 (gb290 ≠ gb257) := bg_ BK257 hg
      have n16_ : Aside0 (gb274 ≠ gb290) := bl_ BK274 hg
      have n17_ : Aside0 (gb290 ≠ gb274) := bg_ BK274 hg
      have n18_ : Aside0 (gb280 ≠ gb290) := bl_ BK280 hg
      have n19_ : Aside0 (gb290 ≠ gb280) := bg_ BK280 hg
      clear HO264; clear HO272; clear HO279; clear HO288; clear BK256; clear BK257; clear BK274; clear BK280; clear HB; have HO264 := n0_; have HO272 := n1_; have HO279 := n2_; have HO288 := n3_; have BK256 := n4_; have BK257 := n5_; have BK274 := n6_; have BK280 := n7_; have HB := n8_; have BK290 := n9_; have GW290 := n10_; have GE290 := n11_; have NB256_290 := n12_; have NB290_256 := n13_; have NB257_290 := n14_; have NB290_257 := n15_; have NB274_290 := n16_; have NB290_274 := n17_; have NB280_290 := n18_; have NB290_280 := n19_; clear n0_ n1_ n2_ n3_ n4_ n5_ n6_ n7_ n8_ n9_ n10_ n11_ n12_ n13_ n14_ n15_ n16_ n17_ n18_ n19_; clear hb hbox hg
      refine hK.out _ _ ⟨bc_ BK280 0, bc_ BK280 1, bc_ BK280 2, bc_ BK257 0, bc_ BK257 1, bc_ BK257 2⟩ (fun hHeld => ?_)
      clear hK K
      refine norm_ (a' := ?_) ?_ ?_
      rotate_left
      ·show Act.put _ (some 11) _ = _
       simp only [Act.put, sia_, scz_, scs_, i64_w, i32_w]
       rfl
      exact norm_ (by simp only [putAll, Act.put, sia_, scz_, scs_]) (hCont (v287, gb290) _ ⟨hHeld, (by (with_reducible repeat (first | apply Kd.R_alloc | apply Kd.R_drewN | apply Kd.R_drew)); exact Kd.R_mono HO264.out (fun _ hk => ⟨hk.1.1, ⟨hk.1.2, hk.2⟩⟩)), (by (with_reducible repeat (first | apply Kd.R_alloc | apply Kd.R_drewN | apply Kd.R_drew)); exact Kd.R_mono HO272.out (fun _ hk => ⟨hk.1.1, ⟨hk.1.2, hk.2⟩⟩)), (by (with_reducible repeat (first | apply Kd.R_alloc | apply Kd.R_drewN | apply Kd.R_drew)); exact Kd.R_mono HO279.out (fun _ hk => ⟨hk.1.1, ⟨hk.1.2, hk.2⟩⟩)), (by (with_reducible repeat (first | apply Kd.R_alloc | apply Kd.R_drewN | apply Kd.R_drew)); exact Kd.R_mono HO288.out (fun _ hk => ⟨hk.1.1.2, ⟨hk.1.2, hk.2⟩⟩)), (bp_ BK256), (bp_ BK257), (bp_ BK274), (bp_ BK280), (bp_ BK290), GW290.out, GE290.out, NB256_290.out, NB290_256.out, NB257_290.out, NB290_257.out, NB274_290.out, NB290_274.out, NB280_290.out, NB290_280.out, (bw_ HB)⟩)
     ·skip
      refine box_step ?hg (N := 11) ?hd (cs := #[.int .i64 0, .int .i64 0, .slice none 0 0]) (t := 31) ?hr ?_; (case hd => rfl); (case hg => rfl); (case hr => first | (go_simp; done) | (go_simp; rfl))
      intro gb290 hg w57 hbox hb
      have n0_ := rb_ HO264 hb
      have n1_ := rb_ HO272 hb
      have n2_ := rb_ HO279 hb
      have n3_ := bb_ BK256 hb; have n4_ := bb_ BK257 hb; have n5_ := bb_ BK274 hb; have n6_ := bb_ BK280 hb
      have n7_ := bs_ HB hb
      have n8_ := mk_ (hbox)
      have n9_ : Aside0 (w.heap.size ≤ gb290) := bz_ hg
      have n10_ : Aside0 (w.heap.size ≤ gb290) := bz_ hg
      have n11_ : Aside0 (gb256 ≠ gb290) := bl_ BK256 hg
      have n12_ : Aside0 (gb290 ≠ gb256) := bg_ BK256 hg
      have n13_ : Aside0 (gb257 ≠ gb290) := bl_ BK257 hg
      have n14_ : Aside0 (gb290 ≠ gb257) := bg_ BK257 hg
      have n15_ : Aside0 (gb274 ≠ gb290) := bl_ BK274 hg
      have n16_ : Aside0 (gb290 ≠ gb274) := bg_ BK274 hg
      have n17_ : Aside0 (gb280 ≠ gb290) := bl_ BK280 hg
      have n18_ : Aside0 (gb290 ≠ gb280) := bg_ BK280 hg
      clear HO264; clear HO272; clear HO279; clear BK256; clear BK257; clear BK274; clear BK280; clear HB; have HO264 := n0_; have HO272 := n1_; have HO279 := n2_; have BK256 := n3_; have BK257 := n4_; have BK274 := n5_; have BK280 := n6_; have HB := n7_; have BK290 := n8_; have GW290 := n9_; have GE290 := n10_; have NB256_290 := n11_; have NB290_256 := n12_; have NB257_290 := n13_; have NB290_257 := n14_; have NB274_290 := n15_; have NB290_274 := n16_; have NB280_290 := n17_; have NB290_280 := n18_; clear n0_ n1_ n2_ n3_ n4_ n5_ n6_ n7_ n8_ n9_ n10_ n11_ n12_ n13_ n14_ n15_ n16_ n17_ n18_; clear hb hbox hg
      refine hK.out _ _ ⟨bc_ BK280 0, bc_ BK280 1, bc_ BK280 2, bc_ BK257 0, bc_ BK257 1, bc_ BK257 2⟩ (fun hHeld => ?_)
      clear hK K
      refine norm_ (a' := ?_) ?_ ?_
      rotate_left
      ·show Act.put _ (some 11) _ = _
       simp only [Act.put, sia_, scz_, scs_, i64_w, i32_w]
       rfl
      refine one_ (i := 4) (N := some 44) #[true, true, true, true, true, false, false, false, true, false, false] rfl rfl (one_of HT_.out (by kernel_rfl)) (by decide) (fun K hK => ?_)
      refine goes_ Try.func18 (by kernel_rfl) rfl #[.agg #[.int .i64 t275, .int .i64 t276, .slice Ao53 t277.length co53], .int .i64 a1, .agg #[.int .i64 t281, .int .i64 t282, .string t283]] (by rfl) rfl rfl (by (try simp only [List.map_toArray, List.map_cons, List.map_nil]); first | done | rfl | (simp only [List.length_drop, List.length_take]; rfl)) ?_
      with_reducible refine (impl_LogPut.calls k t275 t276 _ _ t277 a1 t281 t282 t283 t284 t285 t286 t289 _ ?side1 ?side2 A25.out).mono ?_
      (case side1 => repeat (first | exact (Kd.R_reads' HO279.out).2.2 | (with_reducible refine Kd.C_alloc ?_ _) | (with_reducible refine Kd.C_drewN ?_ _) | (with_reducible refine Kd.C_drew ?_)))
      (case side2 => exact (Kd.R_reads' HO279.out).2.1)
      rintro e w58 ⟨v287, rfl, ho0, hb⟩
      refine ⟨_, rfl, ?_⟩
      have n0_ := mk_ (Kd.R_elder' (rp_ HO264) (Kd.R_base ho0) hb)
      have n1_ := mk_ (Kd.R_elder' (rp_ HO272) (Kd.R_base ho0) hb)
      have n2_ := mk_ (Kd.R_elder' (rp_ HO279) (Kd.R_base ho0) hb)
      have n3_ := mk_ (Kd.R_lower (Kd.R_new' (Kd.R_new' (Kd.R_new' ho0 (Kd.R_lt (rp_ HO264))) (Kd.R_lt (rp_ HO272))) (Kd.R_lt (rp_ HO279))) (below_size (bw_ HB)))
      have n4_ := bb_ BK256 hb; have n5_ := bb_ BK257 hb; have n6_ := bb_ BK274 hb; have n7_ := bb_ BK280 hb; have n8_ := bb_ BK290 hb
      have n9_ := bs_ HB hb
      clear HO264; clear HO272; clear HO279; clear BK256; clear BK257; clear BK274; clear BK280; clear BK290; clear HB; have HO264 := n0_; have HO272 := n1_; have HO279 := n2_; have HO288 := n3_; have BK256 := n4_; have BK257 := n5_; have BK274 := n6_; have BK280 := n7_; have BK290 := n8_; have HB := n9_; clear n0_ n1_ n2_ n3_ n4_ n5_ n6_ n7_ n8_ n9_; (try clear hb); (try clear hb2); (try clear hk); (try clear hi); (try clear ho0)
      refine hK.out _ _ ⟨bc_ BK280 0, bc_ BK280 1, bc_ BK280 2, bc_ BK257 0, bc_ BK257 1, bc_ BK257 2⟩ (fun hHeld => ?_)
      clear hK K
      refine norm_ (a' := ?_) ?_ ?_
      rotate_left
      ·show Act.put _ (some 44) _ = _
       simp only [Act.put, sia_, scz_, scs_, i64_w, i32_w]
       rfl
      refine pure_ (i := 5) (N := some 39) (v := ?_) (a' := ?_) #[true, true, true, true, true, true, false, false, true, false, false] rfl rfl (any_of HT_.out (by kernel_rfl)) (fun _ _ _ h => h) (Or.inl ⟨by rfl, ?_⟩) ?_ ?_
      rotate_left
      ·intro w'
       go_simp
       with_reducible rfl
      rotate_left
      ·simp only [Act.put, sia_, scz_, scs_, i64_w, i32_w]
       rfl
      refine pure_ (i := 6) (N := some 45) (v := ?_) (a' := ?_) #[true, true, true, true, true, true, true, false, true, false, false] rfl rfl (any_of HT_.out (by kernel_rfl)) (fun _ _ _ h => h) (Or.inl ⟨by rfl, ?_⟩) ?_ ?_
      rotate_left
      ·intro w'
       go_simp
       with_reducible rfl
      rotate_left
      ·simp only [Act.put, sia_, scz_, scs_, i64_w, i32_w]
       rfl
      refine pure_ (i := 7) (N := some 46) (v := ?_) (a' := ?_) #[true, true, true, true, true, true, true, true, true, false, false] rfl rfl (any_of HT_.out (by kernel_rfl)) (fun _ _ _ h => h) (Or.inl ⟨by rfl, ?_⟩) ?_ ?_
      rotate_left
      ·intro w'
       go_simp
       with_reducible rfl
      rotate_left
      ·simp only [Act.put, sia_, scz_, scs_, i64_w, i32_w]
       rfl
      exact norm_ (by simp only [putAll, Act.put, sia_, scz_, scs_]) (hCont (v287, gb290) _ ⟨hHeld, (by (with_reducible repeat (first | apply Kd.R_alloc | apply Kd.R_drewN | apply Kd.R_drew)); exact Kd.R_mono HO264.out (fun _ hk => ⟨hk.1.1, ⟨hk.1.2, hk.2⟩⟩)), (by (with_reducible repeat (first | apply Kd.R_alloc | apply Kd.R_drewN | apply Kd.R_drew)); exact Kd.R_mono HO272.out (fun _ hk => ⟨hk.1.1, ⟨hk.1.2, hk.2⟩⟩)), (by (with_reducible repeat (first | apply Kd.R_alloc | apply Kd.R_drewN | apply Kd.R_drew)); exact Kd.R_mono HO279.out (fun _ hk => ⟨hk.1.1, ⟨hk.1.2, hk.2⟩⟩)), (by (with_reducible repeat (first | apply Kd.R_alloc | apply Kd.R_drewN | apply Kd.R_drew)); exact Kd.R_mono HO288.out (fun _ hk => ⟨hk.1.1.2, ⟨hk.1.2, hk.2⟩⟩)), (bp_ BK256), (bp_ BK257), (bp_ BK274), (bp_ BK280), (bp_ BK290), GW290.out, GE290.out, NB256_290.out, NB290_256.out, NB257_290.out, NB290_257.out, NB274_290.out, NB290_274.out, NB280_290.out, NB290_280.out, (bw_ HB)⟩)
    ·skip
     refine box_step ?hg (N := 11) ?hd (cs := #[.int .i64 0, .int .i64 0, .slice none 0 0]) (t := 31) ?hr ?_; (case hd => rfl); (case hg => rfl); (case hr => first | (go_simp; done) | (go_simp; rfl))
     intro gb290 hg w56 hbox hb
     have n0_ := rb_ HO264 hb
     have n1_ := rb_ HO272 hb
     have n2_ := rb_ HO279 hb
     have n3_ := bb_ BK256 hb; have n4_ := bb_ BK257 hb; have n5_ := bb_ BK274 hb; have n6_ := bb_ BK280 hb
     have n7_ := bs_ HB hb
     have n8_ := mk_ (hbox)
     have n9_ : Aside0 (w.heap.size ≤ gb290) := bz_ hg
     have n10_ : Aside0 (w.heap.size ≤ gb290) := bz_ hg
     have n11_ : Aside0 (gb256 ≠ gb290) := bl_ BK256 hg
     have n12_ : Aside0 (gb290 ≠ gb256) := bg_ BK256 hg
     have n13_ : Aside0 (gb257 ≠ gb290) := bl_ BK257 hg
     have n14_ : Aside0 (gb290 ≠ gb257) := bg_ BK257 hg
     have n15_ : Aside0 (gb274 ≠ gb290) := bl_ BK274 hg
     have n16_ : Aside0 (gb290 ≠ gb274) := bg_ BK274 hg
     have n17_ : Aside0 (gb280 ≠ gb290) := bl_ BK280 hg
     have n18_ : Aside0 (gb290 ≠ gb280) := bg_ BK280 hg
     clear HO264; clear HO272; clear HO279; clear BK256; clear BK257; clear BK274; clear BK280; clear HB; have HO264 := n0_; have HO272 := n1_; have HO279 := n2_; have BK256 := n3_; have BK257 := n4_; have BK274 := n5_; have BK280 := n6_; have HB := n7_; have BK290 := n8_; have GW290 := n9_; have GE290 := n10_; have NB256_290 := n11_; have NB290_256 := n12_; have NB257_290 := n13_; have NB290_257 := n14_; have NB274_290 := n15_; have NB290_274 := n16_; have NB280_290 := n17_; have NB290_280 := n18_; clear n0_ n1_ n2_ n3_ n4_ n5_ n6_ n7_ n8_ n9_ n10_ n11_ n12_ n13_ n14_ n15_ n16_ n17_ n18_; clear hb hbox hg
     refine hK.out _ _ ⟨bc_ BK280 0, bc_ BK280 1, bc_ BK280 2, bc_ BK257 0, bc_ BK257 1, bc_ BK257 2⟩ (fun hHeld => ?_)
     clear hK K
     refine norm_ (a' := ?_) ?_ ?_
     rotate_left
     ·show Act.put _ (some 11) _ = _
      simp only [Act.put, sia_, scz_, scs_, i64_w, i32_w]
      rfl
     refine one_ (i := 3) (N := some 43) #[true, true, true, true, false, false, false, false, true, false, false] rfl rfl (one_of HT_.out (by kernel_rfl)) (by decide) (fun K hK => ?_)
     refine goes_ Try.func17 (by kernel_rfl) rfl #[.agg #[.int .i64 a2_0, .int .i64 a2_1, .string a2_2]] (by rfl) rfl rfl (by (try simp only [List.map_toArray, List.map_cons, List.map_nil]); first | done | rfl | (simp only [List.length_drop, List.length_take]; rfl)) ?_
     with_reducible refine (laws_toEntry.calls a2_0 a2_1 a2_2 t281 t282 t283 _ A24.out).mono ?_
     rintro e w57 ⟨rfl, hb⟩
     refine ⟨_, rfl, ?_⟩
     have n0_ := rb_ HO264 hb
     have n1_ := rb_ HO272 hb
     have n2_ := rb_ HO279 hb
     have n3_ := bb_ BK256 hb; have n4_ := bb_ BK257 hb; have n5_ := bb_ BK274 hb; have n6_ := bb_ BK280 hb; have n7_ := bb_ BK290 hb
     have n8_ := bs_ HB hb
     clear HO264; clear HO272; clear HO279; clear BK256; clear BK257; clear BK274; clear BK280; clear BK290; clear HB; have HO264 := n0_; have HO272 := n1_; have HO279 := n2_; have BK256 := n3_; have BK257 := n4_; have BK274 := n5_; have BK280 := n6_; have BK290 := n7_; have HB := n8_; clear n0_ n1_ n2_ n3_ n4_ n5_ n6_ n7_ n8_; (try clear hb); (try clear hb2); (try clear hk); (try clear hi)
     refine hK.out _ _ ⟨bc_ BK280 0, bc_ BK280 1, bc_ BK280 2, bc_ BK257 0, bc_ BK257 1, bc_ BK257 2⟩ (fun hHeld => ?_)
     clear hK K
     refine norm_ (a' := ?_) ?_ ?_
     rotate_left
     ·show Act.put _ (some 43) _ = _
      simp only [Act.put, sia_, scz_, scs_, i64_w, i32_w]
      rfl
     refine one_ (i := 4) (N := some 44) #[true, true, true, true, true, false, false, false, true, false, false] rfl rfl (one_of HT_.out (by kernel_rfl)) (by decide) (fun K hK => ?_)
     refine goes_ Try.func18 (by kernel_rfl) rfl #[.agg #[.int .i64 t275, .int .i64 t276, .slice Ao53 t277.length co53], .int .i64 a1, .agg #[.int .i64 t281, .int .i64 t282, .string t283]] (by rfl) rfl rfl (by (try simp only [List.map_toArray, List.map_cons, List.map_nil]); first | done | rfl | (simp only [List.length_drop, List.length_take]; rfl)) ?_
     with_reducible refine (impl_LogPut.calls k t275 t276 _ _ t277 a1 t281 t282 t283 t284 t285 t286 t289 _ ?side1 ?side2 A25.out).mono ?_
     (case side1 => repeat (first | exact (Kd.R_reads' HO279.out).2.2 | (with_reducible refine Kd.C_alloc ?_ _) | (with_reducible refine Kd.C_drewN ?_ _) | (with_reducible refine Kd.C_drew ?_)))
     (case side2 => exact (Kd.R_reads' HO279.out).2.1)
     rintro e w58 ⟨v287, rfl, ho0, hb⟩
     refine ⟨_, rfl, ?_⟩
     have n0_ := mk_ (Kd.R_elder' (rp_ HO264) (Kd.R_base ho0) hb)
     have n1_ := mk_ (Kd.R_elder' (rp_ HO272) (Kd.R_base ho0) hb)
     have n2_ := mk_ (Kd.R_elder' (rp_ HO279) (Kd.R_base ho0) hb)
     have n3_ := mk_ (Kd.R_lower (Kd.R_new' (Kd.R_new' (Kd.R_new' ho0 (Kd.R_lt (rp_ HO264))) (Kd.R_lt (rp_ HO272))) (Kd.R_lt (rp_ HO279))) (below_size (bw_ HB)))
     have n4_ := bb_ BK256 hb; have n5_ := bb_ BK257 hb; have n6_ := bb_ BK274 hb; have n7_ := bb_ BK280 hb; have n8_ := bb_ BK290 hb
     have n9_ := bs_ HB hb
     clear HO264; clear HO272; clear HO279; clear BK256; clear BK257; clear BK274; clear BK280; clear BK290; clear HB; have HO264 := n0_; have HO272 := n1_; have HO279 := n2_; have HO288 := n3_; have BK256 := n4_; have BK257 := n5_; have BK274 := n6_; have BK280 := n7_; have BK290 := n8_; have HB := n9_; clear n0_ n1_ n2_ n3_ n4_ n5_ n6_ n7_ n8_ n9_; (try clear hb); (try clear hb2); (try clear hk); (try clear hi); (try clear ho0)
     refine hK.out _ _ ⟨bc_ BK280 0, bc_ BK280 1, bc_ BK280 2, bc_ BK257 0, bc_ BK257 1, bc_ BK257 2⟩ (fun hHeld => ?_)
     clear hK K
     refine norm_ (a' := ?_) ?_ ?_
     rotate_left
     ·show Act.put _ (some 44) _ = _
      simp only [Act.put, sia_, scz_, scs_, i64_w, i32_w]
      rfl
     refine pure_ (i := 5) (N := some 39) (v := ?_) (a' := ?_) #[true, true, true, true, true, true, false, false, true, false, false] rfl rfl (any_of HT_.out (by kernel_rfl)) (fun _ _ _ h => h) (Or.inl ⟨by rfl, ?_⟩) ?_ ?_
     rotate_left
     ·intro w'
      go_simp
      with_reducible rfl
     rotate_left
     ·simp only [Act.put, sia_, scz_, scs_, i64_w, i32_w]
      rfl
     refine pure_ (i := 6) (N := some 45) (v := ?_) (a' := ?_) #[true, true, true, true, true, true, true, false, true, false, false] rfl rfl (any_of HT_.out (by kernel_rfl)) (fun _ _ _ h => h) (Or.inl ⟨by rfl, ?_⟩) ?_ ?_
     rotate_left
     ·intro w'
      go_simp
      with_reducible rfl
     rotate_left
     ·simp only [Act.put, sia_, scz_, scs_, i64_w, i32_w]
      rfl
     refine pure_ (i := 7) (N := some 46) (v := ?_) (a' := ?_) #[true, true, true, true, true, true, true, true, true, false, false] rfl rfl (any_of HT_.out (by kernel_rfl)) (fun _ _ _ h => h) (Or.inl ⟨by rfl, ?_⟩) ?_ ?_
     rotate_left
     ·intro w'
      go_simp
      with_reducible rfl
     rotate_left
     ·simp only [Act.put, sia_, scz_, scs_, i64_w, i32_w]
      rfl
     exact norm_ (by simp only [putAll, Act.put, sia_, scz_, scs_]) (hCont (v287, gb290) _ ⟨hHeld, (by (with_reducible repeat (first | apply Kd.R_alloc | apply Kd.R_drewN | apply Kd.R_drew)); exact Kd.R_mono HO264.out (fun _ hk => ⟨hk.1.1, ⟨hk.1.2, hk.2⟩⟩)), (by (with_reducible repeat (first | apply Kd.R_alloc | apply Kd.R_drewN | apply Kd.R_drew)); exact Kd.R_mono HO272.out (fun _ hk => ⟨hk.1.1, ⟨hk.1.2, hk.2⟩⟩)), (by (with_reducible repeat (first | apply Kd.R_alloc | apply Kd.R_drewN | apply Kd.R_drew)); exact Kd.R_mono HO279.out (fun _ hk => ⟨hk.1.1, ⟨hk.1.2, hk.2⟩⟩)), (by (with_reducible repeat (first | apply Kd.R_alloc | apply Kd.R_drewN | apply Kd.R_drew)); exact Kd.R_mono HO288.out (fun _ hk => ⟨hk.1.1.2, ⟨hk.1.2, hk.2⟩⟩)), (bp_ BK256), (bp_ BK257), (bp_ BK274), (bp_ BK280), (bp_ BK290), GW290.out, GE290.out, NB256_290.out, NB290_256.out, NB257_290.out, NB290_257.out, NB274_290.out, NB290_274.out, NB280_290.out, NB290_280.out, (bw_ HB)⟩)
   rintro ⟨v287, gb290⟩ w59 ⟨hS_, h0_, h1_, h2_, h3_, h4_, h5_, h6_, h7_, h8_, h9_, h10_, h11_, h12_, h13_, h14_, h15_, h16_, h17_, h18_, h19_⟩
   have n0_ : Aside0 (Kd.R k35 35 w59 w.heap.size (fun k_ => some k_ ≠ (.slice Ao43 t270.length co43 : Value).ownBlock ∧ some k_ ≠ (.slice Ao53 t277.length co53 : Value).ownBlock ∧ some k_ ≠ (v287 : Value).ownBlock) v263 t262) := ⟨h0_⟩
   have n1_ : Aside0 (Kd.R k35 35 w59 w.heap.size (fun k_ => some k_ ≠ (v263 : Value).ownBlock ∧ some k_ ≠ (.slice Ao53 t277.length co53 : Value).ownBlock ∧ some k_ ≠ (v287 : Value).ownBlock) (.slice Ao43 t270.length co43) t270) := ⟨h1_⟩
   have n2_ : Aside0 (Kd.R k35 35 w59 w.heap.size (fun k_ => some k_ ≠ (v263 : Value).ownBlock ∧ some k_ ≠ (.slice Ao43 t270.length co43 : Value).ownBlock ∧ some k_ ≠ (v287 : Value).ownBlock) (.slice Ao53 t277.length co53) t277) := ⟨h2_⟩
   have n3_ : Aside0 (Kd.R k35 35 w59 w.heap.size (fun k_ => some k_ ≠ (v263 : Value).ownBlock ∧ some k_ ≠ (.slice Ao43 t270.length co43 : Value).ownBlock ∧ some k_ ≠ (.slice Ao53 t277.length co53 : Value).ownBlock) v287 t286) := ⟨h3_⟩
   have n4_ : Aside0 (w59.heap[gb256]? = some (.cells #[.int .i64 a0_0, .int .i64 a0_1, .slice A0_2 l0_2.length c0_2] 24 (0, 0))) := ⟨h4_⟩
   have n5_ : Aside0 (w59.heap[gb257]? = some (.cells #[.int .i64 a2_0, .int .i64 a2_1, .string a2_2] 26 (0, 0))) := ⟨h5_⟩
   have n6_ : Aside0 (w59.heap[gb274]? = some (.cells #[.int .i64 t268, .int .i64 t269, .slice Ao43 t270.length co43] 31 (0, 0))) := ⟨h6_⟩
   have n7_ : Aside0 (w59.heap[gb280]? = some (.cells #[.int .i64 t275, .int .i64 t276, .slice Ao53 t277.length co53] 31 (0, 0))) := ⟨h7_⟩
   have n8_ : Aside0 (w59.heap[gb290]? = some (.cells #[.int .i64 0, .int .i64 0, .slice none 0 0] 31 (0, 0))) := ⟨h8_⟩
   have n9_ : Aside0 (w.heap.size ≤ gb290) := ⟨h9_⟩
   have n10_ : Aside0 (w.heap.size ≤ gb290) := ⟨h10_⟩
   have n11_ : Aside0 (gb256 ≠ gb290) := ⟨h11_⟩
   have n12_ : Aside0 (gb290 ≠ gb256) := ⟨h12_⟩
   have n13_ : Aside0 (gb257 ≠ gb290) := ⟨h13_⟩
   have n14_ : Aside0 (gb290 ≠ gb257) := ⟨h14_⟩
   have n15_ : Aside0 (gb274 ≠ gb290) := ⟨h15_⟩
   have n16_ : Aside0 (gb290 ≠ gb274) := ⟨h16_⟩
   have n17_ : Aside0 (gb280 ≠ gb290) := ⟨h17_⟩
   have n18_ : Aside0 (gb290 ≠ gb280) := ⟨h18_⟩
   have n19_ : Aside0 (Below w.heap.size w w59) := ⟨h19_⟩
   clear HO264; clear HO272; clear HO279; clear BK256; clear BK257; clear BK274; clear BK280; clear HB; clear h0_ h1_ h2_ h3_ h4_ h5_ h6_ h7_ h8_ h9_ h10_ h11_ h12_ h13_ h14_ h15_ h16_ h17_ h18_ h19_; have HO264 := n0_; have HO272 := n1_; have HO279 := n2_; have HO288 := n3_; have BK256 := n4_; have BK257 := n5_; have BK274 := n6_; have BK280 := n7_; have BK290 := n8_; have GW290 := n9_; have GE290 := n10_; have NB256_290 := n11_; have NB290_256 := n12_; have NB257_290 := n13_; have NB290_257 := n14_; have NB274_290 := n15_; have NB290_274 := n16_; have NB280_290 := n17_; have NB290_280 := n18_; have HB := n19_; clear n0_ n1_ n2_ n3_ n4_ n5_ n6_ n7_ n8_ n9_ n10_ n11_ n12_ n13_ n14_ n15_ n16_ n17_ n18_ n19_
   have hHeld : w59.cell? ⟨gb280, 0, none⟩ = some (.int .i64 t275) ∧ w59.cell? ⟨gb280, 1, none⟩ = some (.int .i64 t276) ∧ w59.cell? ⟨gb280, 2, none⟩ = some (.slice Ao53 t277.length co53) ∧ w59.cell? ⟨gb257, 0, none⟩ = some (.int .i64 a2_0) ∧ w59.cell? ⟨gb257, 1, none⟩ = some (.int .i64 a2_1) ∧ w59.cell? ⟨gb257, 2, none⟩ = some (.string a2_2) := hS_
   obtain ⟨Ao62, co62, eo62⟩ := Kd.R_slice HO288.out
   (first | subst eo62 | (injection eo62 with f1_ f2_ f3_; have f4_ := f1_.symm; have f5_ := f3_.symm; clear f1_ f2_ f3_; subst f4_; subst f5_))
   refine norm_ (a' := ?_) ?_ ?_
   rotate_left
   ·simp only [putAll, Act.put, sia_, scz_, scs_]
    rfl
   refine one_ (i := 9) (N := none) #[true, true, true, true, true, true, true, true, true, true, false] rfl rfl (one_of HT_.out (by kernel_rfl)) (by decide) (fun K hK => ?_)
   have hs60 : w59.cell? ⟨gb290, 0, none⟩ = some (.int .i64 0) := bc_ BK290 0
   have hfs60 := blk_frozen BK290.out 0
   have hns60_0 := NB256_290.out
   have hns60_1 := NB257_290.out
   have hns60_2 := NB274_290.out
   have hns60_3 := NB280_290.out
   have hms60_0 := NB290_256.out
   have hms60_1 := NB290_257.out
   have hms60_2 := NB290_274.out
   have hms60_3 := NB290_280.out
   have hs61 : w59.cell? ⟨gb290, 1, none⟩ = some (.int .i64 0) := bc_ BK290 1
   have hfs61 := blk_frozen BK290.out 1
   have hns61_0 := NB256_290.out
   have hns61_1 := NB257_290.out
   have hns61_2 := NB274_290.out
   have hns61_3 := NB280_290.out
   have hms61_0 := NB290_256.out
   have hms61_1 := NB290_257.out
   have hms61_2 := NB290_274.out
   have hms61_3 := NB290_280.out
   have hs63 : w59.cell? ⟨gb290, 2, none⟩ = some (.slice none 0 0) := bc_ BK290 2
   have hfs63 := blk_frozen BK290.out 2
   have hns63_0 := NB256_290.out
   have hns63_1 := NB257_290.out
   have hns63_2 := NB274_290.out
   have hns63_3 := NB280_290.out
   have hms63_0 := NB290_256.out
   have hms63_1 := NB290_257.out
   have hms63_2 := NB290_274.out
   have hms63_3 := NB290_280.out
   refine skip_ (w1 := ?_) (by rfl) rfl ?_ ?_
   rotate_left
   ·go_simp
    rfl
   refine hK.out _ _ ⟨((cell_far (p := ⟨gb290, _, none⟩) NB280_290.out _).trans (((cell_far (p := ⟨gb290, _, none⟩) NB280_290.out _).trans (((cell_far (p := ⟨gb290, _, none⟩) NB280_290.out _).trans (hHeld.1)))))), ((cell_far (p := ⟨gb290, _, none⟩) NB280_290.out _).trans (((cell_far (p := ⟨gb290, _, none⟩) NB280_290.out _).trans (((cell_far (p := ⟨gb290, _, none⟩) NB280_290.out _).trans (hHeld.2.1)))))), ((cell_far (p := ⟨gb290, _, none⟩) NB280_290.out _).trans (((cell_far (p := ⟨gb290, _, none⟩) NB280_290.out _).trans (((cell_far (p := ⟨gb290, _, none⟩) NB280_290.out _).trans (hHeld.2.2.1)))))), ((cell_far (p := ⟨gb290, _, none⟩) NB257_290.out _).trans (((cell_far (p := ⟨gb290, _, none⟩) NB257_290.out _).trans (((cell_far (p := ⟨gb290, _, none⟩) NB257_290.out _).trans (hHeld.2.2.2.1)))))), ((cell_far (p := ⟨gb290, _, none⟩) NB257_290.out _).trans (((cell_far (p := ⟨gb290, _, none⟩) NB257_290.out _).trans (((cell_far (p := ⟨gb290, _, none⟩) NB257_290.out _).trans (hHeld.2.2.2.2.1)))))), ((cell_far (p := ⟨gb290, _, none⟩) NB257_290.out _).trans (((cell_far (p := ⟨gb290, _, none⟩) NB257_290.out _).trans (((cell_far (p := ⟨gb290, _, none⟩) NB257_290.out _).trans (hHeld.2.2.2.2.2))))))⟩ (fun hHeld => ?_)
   clear hK K
   refine pure_ (i := 10) (N := some 12) (v := ?_) (a' := ?_) #[true, true, true, true, true, true, true, true, true, true, true] rfl rfl (any_of HT_.out (by kernel_rfl)) (fun _ _ _ h => h) (Or.inl ⟨by rfl, ?_⟩) ?_ ?_
   rotate_left
   ·intro w'
    go_simp
    with_reducible rfl
   rotate_left
   ·simp only [Act.put, sia_, scz_, scs_, i64_w, i32_w]
    rfl
   refine done_ (done_of HT_.out (by kernel_rfl)) ?_
   go_upto_region 11 with (fail)
   go_cut [55] (fun v55 wc => ∃ (kq : Nat) (x55_25 : Bool), v55 = .bool x55_25 ∧ Aside0 (laws_FnExactLogPut.j0 kq a1 t273 t289 x55_25 a0_0 a0_1 l0_2 a2_0 a2_1 a2_2 t268 t269 t270 t275 t276 t277 t284 t285 t286 = some r) ∧ Aside0 (kq ≤ k) ∧ Aside0 (Kd.R k35 35 wc w.heap.size (fun k_ => some k_ ≠ ((.slice Ao53 t277.length co53) : Value).ownBlock ∧ some k_ ≠ ((.slice Ao62 t286.length co62) : Value).ownBlock) (.slice Ao43 t270.length co43) t270) ∧ Aside0 (Kd.R k35 35 wc w.heap.size (fun k_ => some k_ ≠ ((.slice Ao43 t270.length co43) : Value).ownBlock ∧ some k_ ≠ ((.slice Ao62 t286.length co62) : Value).ownBlock) (.slice Ao53 t277.length co53) t277) ∧ Aside0 (Kd.R k35 35 wc w.heap.size (fun k_ => some k_ ≠ ((.slice Ao43 t270.length co43) : Value).ownBlock ∧ some k_ ≠ ((.slice Ao53 t277.length co53) : Value).ownBlock) (.slice Ao62 t286.length co62) t286) ∧ Aside0 (wc.heap[gb256]? = some (.cells #[.int .i64 a0_0, .int .i64 a0_1, (.slice A0_2 l0_2.length c0_2)] 24 (0, 0))) ∧ Aside0 (wc.heap[gb257]? = some (.cells #[.int .i64 a2_0, .int .i64 a2_1, .string a2_2] 26 (0, 0))) ∧ Aside0 (wc.heap[gb274]? = some (.cells #[.int .i64 t268, .int .i64 t269, (.slice Ao43 t270.length co43)] 31 (0, 0))) ∧ Aside0 (wc.heap[gb280]? = some (.cells #[.int .i64 t275, .int .i64 t276, (.slice Ao53 t277.length co53)] 31 (0, 0))) ∧ Aside0 (wc.heap[gb290]? = some (.cells #[.int .i64 t284, .int .i64 t285, (.slice Ao62 t286.length co62)] 31 (0, 0))) ∧ Aside0 (Below w.heap.size w wc))
   case first =>
    have H := HC26.out
    clear HC26
    replace H := Option.bind_eq_some_iff.mp H
    obtain ⟨t291, A640, H⟩ := H
    replace H : (if t291 = true then (laws_FnExactLogPut.j0 k a1 t273 t289 (t289 != t273) a0_0 a0_1 l0_2 a2_0 a2_1 a2_2 t268 t269 t270 t275 t276 t277 t284 t285 t286) else (none)) = some r := H
    have A64 := Aside0.mk A640
    clear A640
    by_cases c65 : t291 = true
    ·subst c65
     have H1 : (laws_FnExactLogPut.j0 k a1 t273 t289 (t289 != t273) a0_0 a0_1 l0_2 a2_0 a2_1 a2_2 t268 t269 t270 t275 t276 t277 t284 t285 t286) = some r := by rw [if_pos rfl] at H; exact H
     clear H
     have H := H1
     clear H1
     have H' := Aside0.mk H
     clear H
     have hnb66 := NB290_256.out
     have hnc66 := NB256_290.out
     have hnb67 := NB290_257.out
     have hnc67 := NB257_290.out
     have hnb68 := NB290_274.out
     have hnc68 := NB274_290.out
     have hnb69 := NB290_280.out
     have hnc69 := NB280_290.out
     have hcz70_0 : w59.cell? ⟨gb290, 0, none⟩ = some (.int .i64 0) := bc_ BK290 0
     have hcz70_1 : w59.cell? ⟨gb290, 1, none⟩ = some (.int .i64 0) := bc_ BK290 1
     have hcz70_2 : w59.cell? ⟨gb290, 2, none⟩ = some (.slice none 0 0) := bc_ BK290 2
     have hfz70_0 := blk_frozen BK290.out 0
     have hfz70_1 := blk_frozen BK290.out 1
     have hfz70_2 := blk_frozen BK290.out 2
     have hnb71 := NB274_256.out
     have hnc71 := NB256_274.out
     have hnb72 := NB274_257.out
     have hnc72 := NB257_274.out
     have hnb73 := NB274_280.out
     have hnc73 := NB280_274.out
     have hcz74_0 : w59.cell? ⟨gb274, 0, none⟩ = some (.int .i64 t268) := bc_ BK274 0
     have hcz74_1 : w59.cell? ⟨gb274, 1, none⟩ = some (.int .i64 t269) := bc_ BK274 1
     have hcz74_2 : w59.cell? ⟨gb274, 2, none⟩ = some (.slice Ao43 t270.length co43) := bc_ BK274 2
     have hfz74_0 := blk_frozen BK274.out 0
     have hfz74_1 := blk_frozen BK274.out 1
     have hfz74_2 := blk_frozen BK274.out 2
     go_wp2_with (first | ((with_reducible refine gate_callee (f := 19) rfl ?_); refine goesL_ (some 49) rfl rfl Try.func19 (by kernel_rfl) rfl #[.agg #[.int .i64 t284, .int .i64 t285, .slice Ao62 t286.length co62], .agg #[.int .i64 t268, .int .i64 t269, .slice Ao43 t270.length co43]] rfl (by (try simp only [List.map_toArray, List.map_cons, List.map_nil]); first | done | rfl | (simp only [List.length_drop, List.length_take]; rfl)) ?_; (with_reducible refine (laws_eqLog.calls k t284 t285 _ _ t286 t268 t269 _ _ t270 true _ ?side1 ?side2 ?side3 ?side4 A64.out).mono ?_); (case side1 => refine (Kd.R_reads' (e := 35) (base := w.heap.size) (ok := fun k_ => (some k_ ≠ (v263 : Value).ownBlock ∧ (some k_ ≠ (.slice Ao43 t270.length co43 : Value).ownBlock ∧ some k_ ≠ (.slice Ao53 t277.length co53 : Value).ownBlock))) (n := t286.length) (c := co62) ?_).2.2; exact (by (with_reducible repeat (first | apply Kd.R_alloc | apply Kd.R_drewN | apply Kd.R_drew)); exact (Kd.R_mono (Kd.R_far (p := ⟨gb290, 2, none⟩) (Kd.R_far (p := ⟨gb290, 1, none⟩) (Kd.R_far (p := ⟨gb290, 0, none⟩) (Kd.R_types HO288.out BK290.out (by decide)) (fun _ hk => hk.2) (.int .i64 t284)) (fun _ hk => hk.2) (.int .i64 t285)) (fun _ hk => hk.2) (.slice Ao62 t286.length co62)) (fun _ h_ => h_.1)))); (case side2 => exact (Kd.R_reads' HO288.out).2.1); (case side3 => refine (Kd.R_reads' (e := 35) (base := w.heap.size) (ok := fun k_ => (some k_ ≠ (v263 : Value).ownBlock ∧ (some k_ ≠ (.slice Ao53 t277.length co53 : Value).ownBlock ∧ some k_ ≠ (.slice Ao62 t286.length co62 : Value).ownBlock))) (n := t270.length) (c := co43) ?_).2.2; exact (by (with_reducible repeat (first | apply Kd.R_alloc | apply Kd.R_drewN | apply Kd.R_drew)); exact (Kd.R_mono (Kd.R_far (p := ⟨gb290, 2, none⟩) (Kd.R_far (p := ⟨gb290, 1, none⟩) (Kd.R_far (p := ⟨gb290, 0, none⟩) (Kd.R_types HO272.out BK290.out (by decide)) (fun _ hk => hk.2) (.int .i64 t284)) (fun _ hk => hk.2) (.int .i64 t285)) (fun _ hk => hk.2) (.slice Ao62 t286.length co62)) (fun _ h_ => h_.1)))); (case side4 => exact (Kd.R_reads' HO272.out).2.1); rintro e w75 ⟨rfl, hb⟩; refine ⟨_, rfl, ?_⟩; replace HO264 := mk_ (Kd.R_below (by (with_reducible repeat (first | apply Kd.R_alloc | apply Kd.R_drewN | apply Kd.R_drew)); exact (Kd.R_mono (Kd.R_far (p := ⟨gb290, 2, none⟩) (Kd.R_far (p := ⟨gb290, 1, none⟩) (Kd.R_far (p := ⟨gb290, 0, none⟩) (Kd.R_types HO264.out BK290.out (by decide)) (fun _ hk => hk.2) (.int .i64 t284)) (fun _ hk => hk.2) (.int .i64 t285)) (fun _ hk => hk.2) (.slice Ao62 t286.length co62)) (fun _ h_ => h_.1))) hb); replace HO272 := mk_ (Kd.R_below (by (with_reducible repeat (first | apply Kd.R_alloc | apply Kd.R_drewN | apply Kd.R_drew)); exact (Kd.R_mono (Kd.R_far (p := ⟨gb290, 2, none⟩) (Kd.R_far (p := ⟨gb290, 1, none⟩) (Kd.R_far (p := ⟨gb290, 0, none⟩) (Kd.R_types HO272.out BK290.out (by decide)) (fun _ hk => hk.2) (.int .i64 t284)) (fun _ hk => hk.2) (.int .i64 t285)) (fun _ hk => hk.2) (.slice Ao62 t286.length co62)) (fun _ h_ => h_.1))) hb); replace HO279 := mk_ (Kd.R_below (by (with_reducible repeat (first | apply Kd.R_alloc | apply Kd.R_drewN | apply Kd.R_drew)); exact (Kd.R_mono (Kd.R_far (p := ⟨gb290, 2, none⟩) (Kd.R_far (p := ⟨gb290, 1, none⟩) (Kd.R_far (p := ⟨gb290, 0, none⟩) (Kd.R_types HO279.out BK290.out (by decide)) (fun _ hk => hk.2) (.int .i64 t284)) (fun _ hk => hk.2) (.int .i64 t285)) (fun _ hk => hk.2) (.slice Ao62 t286.length co62)) (fun _ h_ => h_.1))) hb); replace HO288 := mk_ (Kd.R_below (by (with_reducible repeat (first | apply Kd.R_alloc | apply Kd.R_drewN | apply Kd.R_drew)); exact (Kd.R_mono (Kd.R_far (p := ⟨gb290, 2, none⟩) (Kd.R_far (p := ⟨gb290, 1, none⟩) (Kd.R_far (p := ⟨gb290, 0, none⟩) (Kd.R_types HO288.out BK290.out (by decide)) (fun _ hk => hk.2) (.int .i64 t284)) (fun _ hk => hk.2) (.int .i64 t285)) (fun _ hk => hk.2) (.slice Ao62 t286.length co62)) (fun _ h_ => h_.1))) hb); replace BK256 := mk_ (blk_below (g := gb256) (o := .cells #[.int .i64 a0_0, .int .i64 a0_1, .slice A0_2 l0_2.length c0_2] 24 (0, 0)) (by (with_reducible repeat (first | refine blk_drewN ?_ _ | refine blk_drew ?_ | refine blk_alloc ?_ _)); refine blk_far ?_ NB256_290.out _; (with_reducible repeat (first | refine blk_drewN ?_ _ | refine blk_drew ?_ | refine blk_alloc ?_ _)); refine blk_far ?_ NB256_290.out _; (with_reducible repeat (first | refine blk_drewN ?_ _ | refine blk_drew ?_ | refine blk_alloc ?_ _)); refine blk_far ?_ NB256_290.out _; (with_reducible repeat (first | refine blk_drewN ?_ _ | refine blk_drew ?_ | refine blk_alloc ?_ _)); exact BK256.out) hb); replace BK257 := mk_ (blk_below (g := gb257) (o := .cells #[.int .i64 a2_0, .int .i64 a2_1, .string a2_2] 26 (0, 0)) (by (with_reducible repeat (first | refine blk_drewN ?_ _ | refine blk_drew ?_ | refine blk_alloc ?_ _)); refine blk_far ?_ NB257_290.out _; (with_reducible repeat (first | refine blk_drewN ?_ _ | refine blk_drew ?_ | refine blk_alloc ?_ _)); refine blk_far ?_ NB257_290.out _; (with_reducible repeat (first | refine blk_drewN ?_ _ | refine blk_drew ?_ | refine blk_alloc ?_ _)); refine blk_far ?_ NB257_290.out _; (with_reducible repeat (first | refine blk_drewN ?_ _ | refine blk_drew ?_ | refine blk_alloc ?_ _)); exact BK257.out) hb); replace BK274 := mk_ (blk_below (g := gb274) (o := .cells #[.int .i64 t268, .int .i64 t269, .slice Ao43 t270.length co43] 31 (0, 0)) (by (with_reducible repeat (first | refine blk_drewN ?_ _ | refine blk_drew ?_ | refine blk_alloc ?_ _)); refine blk_far ?_ NB274_290.out _; (with_reducible repeat (first | refine blk_drewN ?_ _ | refine blk_drew ?_ | refine blk_alloc ?_ _)); refine blk_far ?_ NB274_290.out _; (with_reducible repeat (first | refine blk_drewN ?_ _ | refine blk_drew ?_ | refine blk_alloc ?_ _)); refine blk_far ?_ NB274_290.out _; (with_reducible repeat (first | refine blk_drewN ?_ _ | refine blk_drew ?_ | refine blk_alloc ?_ _)); exact BK274.out) hb); replace BK280 := mk_ (blk_below (g := gb280) (o := .cells #[.int .i64 t275, .int .i64 t276, .slice Ao53 t277.length co53] 31 (0, 0)) (by (with_reducible repeat (first | refine blk_drewN ?_ _ | refine blk_drew ?_ | refine blk_alloc ?_ _)); refine blk_far ?_ NB280_290.out _; (with_reducible repeat (first | refine blk_drewN ?_ _ | refine blk_drew ?_ | refine blk_alloc ?_ _)); refine blk_far ?_ NB280_290.out _; (with_reducible repeat (first | refine blk_drewN ?_ _ | refine blk_drew ?_ | refine blk_alloc ?_ _)); refine blk_far ?_ NB280_290.out _; (with_reducible repeat (first | refine blk_drewN ?_ _ | refine blk_drew ?_ | refine blk_alloc ?_ _)); exact BK280.out) hb); replace BK290 := mk_ (blk_below (g := gb290) (o := .cells #[.int .i64 t284, .int .i64 t285, .slice Ao62 t286.length co62] 31 (0, 0)) (by (with_reducible repeat (first | refine blk_drewN ?_ _ | refine blk_drew ?_ | refine blk_alloc ?_ _)); refine blk_put (cs := #[.int .i64 t284, .int .i64 t285, .slice none 0 0]) ?_ 2 _ rfl; (with_reducible repeat (first | refine blk_drewN ?_ _ | refine blk_drew ?_ | refine blk_alloc ?_ _)); refine blk_put (cs := #[.int .i64 t284, .int .i64 0, .slice none 0 0]) ?_ 1 _ rfl; (with_reducible repeat (first | refine blk_drewN ?_ _ | refine blk_drew ?_ | refine blk_alloc ?_ _)); refine blk_put (cs := #[.int .i64 0, .int .i64 0, .slice none 0 0]) ?_ 0 _ rfl; (with_reducible repeat (first | refine blk_drewN ?_ _ | refine blk_drew ?_ | refine blk_alloc ?_ _)); exact BK290.out) hb); replace HB := bs_ HB hb; (try clear hb); (try clear hk)))
     go_meet
     case rel => exact ⟨_, ((t289 != t273)), (by first | rfl | (simp; done) | (simp [*]; done)), H', ⟨by first | omega | exact Nat.le_refl _⟩, ⟨by (with_reducible repeat (first | apply Kd.R_alloc | apply Kd.R_drewN | apply Kd.R_drew)); exact Kd.R_mono HO272.out (fun _ hk => ⟨hk.2.1, hk.2.2⟩)⟩, ⟨by (with_reducible repeat (first | apply Kd.R_alloc | apply Kd.R_drewN | apply Kd.R_drew)); exact Kd.R_mono HO279.out (fun _ hk => ⟨hk.2.1, hk.2.2⟩)⟩, ⟨by (with_reducible repeat (first | apply Kd.R_alloc | apply Kd.R_drewN | apply Kd.R_drew)); exact Kd.R_mono HO288.out (fun _ hk => ⟨hk.2.1, hk.2.2⟩)⟩, ⟨by (with_reducible repeat (first | refine blk_drewN ?_ _ | refine blk_drew ?_ | refine blk_alloc ?_ _)); exact BK256.out⟩, ⟨by (with_reducible repeat (first | refine blk_drewN ?_ _ | refine blk_drew ?_ | refine blk_alloc ?_ _)); exact BK257.out⟩, ⟨by (with_reducible repeat (first | refine blk_drewN ?_ _ | refine blk_drew ?_ | refine blk_alloc ?_ _)); exact BK274.out⟩, ⟨by (with_reducible repeat (first | refine blk_drewN ?_ _ | refine blk_drew ?_ | refine blk_alloc ?_ _)); exact BK280.out⟩, ⟨by (with_reducible repeat (first | refine blk_drewN ?_ _ | refine blk_drew ?_ | refine blk_alloc ?_ _)); exact BK290.out⟩, ⟨by repeat (first | (with_reducible first | exact HB.out | apply below_alloc | apply pw_below_drewN | apply below_drew1 | refine below_set ?_ GE256.out | refine below_set ?_ GE257.out | refine below_set ?_ GE274.out | refine below_set ?_ GE280.out | refine below_set ?_ GE290.out) | exact HB.out)⟩⟩
    ·replace c65 := Bool.eq_false_iff.mpr c65
     subst c65
     have H1 : (none) = some r := by rw [if_neg (show ¬ (false = true) by decide)] at H; exact H
     clear H
     have H := H1
     clear H1
     exact absurd H (by simp)
   case rest =>
    clear HC26
    try clear c1
    try clear p2
    try clear c6
    try clear c7
    try clear c17
    try clear c18
    try clear c19
    try clear c65
    try clear c66
    try clear c67
    try clear c68
    try clear c69
    try clear c71
    try clear c72
    try clear c73
    try clear hcz70_0
    try clear hcz70_1
    try clear hcz70_2
    try clear hcz74_0
    try clear hcz74_1
    try clear hcz74_2
    try clear hfz70_0
    try clear hfz70_1
    try clear hfz70_2
    try clear hfz74_0
    try clear hfz74_1
    try clear hfz74_2
    obtain ⟨kq, x55_25, rfl, HA, HJ25, HO_275002, HO_281002, HO_291002, BK256, BK257, BK274, BK280, BK290, HB⟩ := hcut
    cases kq with
    | zero => exact absurd HA.out (by simp [laws_FnExactLogPut.j0])
    | succ kj25 =>
     have H := HA.out
     clear HA
     simp only [laws_FnExactLogPut.j0] at H
     by_cases c76 : x55_25 = true
     ·subst c76
      have H1 : (none) = some r := by rw [if_pos rfl] at H; exact H
      clear H
      have H := H1
      clear H1
      exact absurd H (by simp)
     ·replace c76 := Bool.eq_false_iff.mpr c76
      subst c76
      have H1 : ((laws_toLog.f kj25 a0_0 a0_1 l0_2).bind fun bt292 => ((laws_eqLog.f kj25 t275 t276 t277 bt292.1 bt292.2.1 bt292.2.2).bind fun t297 => (if t297 = true then ((laws_markLog.f kj25 t275 t276 t277 1).bind fun bt298 => (if bt298.1 < 0 then (none) else ((laws_eqLog.f kj25 t284 t285 t286 t268 t269 t270).bind fun t300 => (if t300 = true then (laws_FnExactLogPut.j1 kj25 a1 t273 (t289 != t273) a0_0 a0_1 l0_2 a2_0 a2_1 a2_2 t268 t269 t270 t284 t285 t286) else (none))))) else (none)))) = some r := by rw [if_neg (show ¬ (false = true) by decide)] at H; exact H
      clear H
      have H := H1
      clear H1
      replace H := Option.bind_eq_some_iff.mp H
      obtain ⟨⟨t292, t293, t294⟩, A770, H⟩ := H
      replace H : ((laws_eqLog.f kj25 t275 t276 t277 t292 t293 t294).bind fun t297 => (if t297 = true then ((laws_markLog.f kj25 t275 t276 t277 1).bind fun bt298 => (if bt298.1 < 0 then (none) else ((laws_eqLog.f kj25 t284 t285 t286 t268 t269 t270).bind fun t300 => (if t300 = true then (laws_FnExactLogPut.j1 kj25 a1 t273 (t289 != t273) a0_0 a0_1 l0_2 a2_0 a2_1 a2_2 t268 t269 t270 t284 t285 t286) else (none))))) else (none))) = some r := H
      have A77 := Aside0.mk A770
      clear A770
      replace H := Option.bind_eq_some_iff.mp H
      obtain ⟨t297, A780, H⟩ := H
      replace H : (if t297 = true then ((laws_markLog.f kj25 t275 t276 t277 1).bind fun bt298 => (if bt298.1 < 0 then (none) else ((laws_eqLog.f kj25 t284 t285 t286 t268 t269 t270).bind fun t300 => (if t300 = true then (laws_FnExactLogPut.j1 kj25 a1 t273 (t289 != t273) a0_0 a0_1 l0_2 a2_0 a2_1 a2_2 t268 t269 t270 t284 t285 t286) else (none))))) else (none)) = some r := H
      have A78 := Aside0.mk A780
      clear A780
      by_cases c79 : t297 = true
      ·subst c79
       have H1 : ((laws_markLog.f kj25 t275 t276 t277 1).bind fun bt298 => (if bt298.1 < 0 then (none) else ((laws_eqLog.f kj25 t284 t285 t286 t268 t269 t270).bind fun t300 => (if t300 = true then (laws_FnExactLogPut.j1 kj25 a1 t273 (t289 != t273) a0_0 a0_1 l0_2 a2_0 a2_1 a2_2 t268 t269 t270 t284 t285 t286) else (none))))) = some r := by rw [if_pos rfl] at H; exact H
       clear H
       have H := H1
       clear H1
       replace H := Option.bind_eq_some_iff.mp H
       obtain ⟨⟨t298, t299⟩, A800, H⟩ := H
       replace H : (if t298 < 0 then (none) else ((laws_eqLog.f kj25 t284 t285 t286 t268 t269 t270).bind fun t300 => (if t300 = true then (laws_FnExactLogPut.j1 kj25 a1 t273 (t289 != t273) a0_0 a0_1 l0_2 a2_0 a2_1 a2_2 t268 t269 t270 t284 t285 t286) else (none)))) = some r := H
       have A80 := Aside0.mk A800
       clear A800
       have HC81 := Aside0.mk H
       clear H
       try go_wp2
       have n0_ := mk_ (Kd.R_drew HO_275002.out)
       have n1_ := mk_ (Kd.R_drew HO_281002.out)
       have n2_ := mk_ (Kd.R_drew HO_291002.out)
       have n3_ := mk_ (blk_drew BK256.out)
       have n4_ := mk_ (blk_drew BK257.out)
       have n5_ := mk_ (blk_drew BK274.out)
       have n6_ := mk_ (blk_drew BK280.out)
       have n7_ := mk_ (blk_drew BK290.out)
       have n8_ := mk_ (below_drew1 HB.out)
       clear HO_275002; clear HO_281002; clear HO_291002; clear BK256; clear BK257; clear BK274; clear BK280; clear BK290; clear HB; have HO_275002 := n0_; have HO_281002 := n1_; have HO_291002 := n2_; have BK256 := n3_; have BK257 := n4_; have BK274 := n5_; have BK280 := n6_; have BK290 := n7_; have HB := n8_; clear n0_ n1_ n2_ n3_ n4_ n5_ n6_ n7_ n8_
       refine start_ (n := 5) (S := fun w' => w'.cell? ⟨gb280, 0, none⟩ = some (.int .i64 t275) ∧ w'.cell? ⟨gb280, 1, none⟩ = some (.int .i64 t276) ∧ w'.cell? ⟨gb280, 2, none⟩ = some (.slice Ao53 t277.length co53) ∧ w'.cell? ⟨gb256, 0, none⟩ = some (.int .i64 a0_0) ∧ w'.cell? ⟨gb256, 1, none⟩ = some (.int .i64 a0_1) ∧ w'.cell? ⟨gb256, 2, none⟩ = some (.slice A0_2 l0_2.length c0_2)) (ds := []) #[false, false, false, false, false] (by kernel_rfl) rfl rfl ⟨bc_ BK280 0, bc_ BK280 1, bc_ BK280 2, bc_ BK256 0, bc_ BK256 1, bc_ BK256 2⟩ (fun hHeld => ?_)
       generalize wc.drew = w82 at HO_275002 HO_281002 HO_291002 BK256 BK257 BK274 BK280 BK290 HB hHeld ⊢
       refine take_ (i := 0) (N := some 56) (v := ?_) (a' := ?_) #[true, false, false, false, false] rfl rfl (by kernel_rfl) (fun _ _ _ h => h) (Or.inl ⟨by rfl, ?_⟩) hHeld ?_ ?_
       rotate_left
       ·rintro w' ⟨s0, s1, s2, s3, s4, s5⟩
        go_simp
        with_reducible rfl
       rotate_left
       ·simp only [Act.put, sia_, scz_, scs_, i64_w, i32_w]
        rfl
       refine take_ (i := 1) (N := some 57) (v := ?_) (a' := ?_) #[true, true, false, false, false] rfl rfl (by kernel_rfl) (fun _ _ _ h => h) (Or.inl ⟨by rfl, ?_⟩) hHeld ?_ ?_
       rotate_left
       ·rintro w' ⟨s0, s1, s2, s3, s4, s5⟩
        go_simp
        with_reducible rfl
       rotate_left
       ·simp only [Act.put, sia_, scz_, scs_, i64_w, i32_w]
        rfl
       refine one_ (i := 2) (N := some 58) #[true, true, true, false, false] rfl rfl (by kernel_rfl) (by decide) (fun K hK => ?_)
       refine goes_ Try.func16 (by kernel_rfl) rfl #[.agg #[.int .i64 a0_0, .int .i64 a0_1, .slice A0_2 l0_2.length c0_2]] (by rfl) rfl rfl (by (try simp only [List.map_toArray, List.map_cons, List.map_nil]); first | done | rfl | (simp only [List.length_drop, List.length_take]; rfl)) ?_
       with_reducible refine (laws_toLog.calls kj25 a0_0 a0_1 _ _ l0_2 t292 t293 t294 _ ?side1 ?side2 A77.out).mono ?_
       (case side1 => repeat (first | exact (Kd.C_below HR0_2.out HB.out) | (with_reducible refine Kd.C_alloc ?_ _) | (with_reducible refine Kd.C_drewN ?_ _) | (with_reducible refine Kd.C_drew ?_)))
       (case side2 => exact HC0_2.out)
       rintro e w83 ⟨v295, rfl, ho0, hb⟩
       refine ⟨_, rfl, ?_⟩
       have n0_ := mk_ (Kd.R_elder' (rp_ HO_275002) (Kd.R_base ho0) hb)
       have n1_ := mk_ (Kd.R_elder' (rp_ HO_281002) (Kd.R_base ho0) hb)
       have n2_ := mk_ (Kd.R_elder' (rp_ HO_291002) (Kd.R_base ho0) hb)
       have n3_ := mk_ (Kd.R_lower (Kd.R_new' (Kd.R_new' (Kd.R_new' ho0 (Kd.R_lt (rp_ HO_275002))) (Kd.R_lt (rp_ HO_281002))) (Kd.R_lt (rp_ HO_291002))) (below_size (bw_ HB)))
       have n4_ := bb_ BK256 hb; have n5_ := bb_ BK257 hb; have n6_ := bb_ BK274 hb; have n7_ := bb_ BK280 hb; have n8_ := bb_ BK290 hb
       have n9_ := bs_ HB hb
       clear HO_275002; clear HO_281002; clear HO_291002; clear BK256; clear BK257; clear BK274; clear BK280; clear BK290; clear HB; have HO_275002 := n0_; have HO_281002 := n1_; have HO_291002 := n2_; have HO296 := n3_; have BK256 := n4_; have BK257 := n5_; have BK274 := n6_; have BK280 := n7_; have BK290 := n8_; have HB := n9_; clear n0_ n1_ n2_ n3_ n4_ n5_ n6_ n7_ n8_ n9_; (try clear hb); (try clear hb2); (try clear hk); (try clear hi); (try clear ho0)
       obtain ⟨Ao84, co84, eo84⟩ := Kd.R_slice HO296.out
       (first | subst eo84 | (injection eo84 with f1_ f2_ f3_; have f4_ := f1_.symm; have f5_ := f3_.symm; clear f1_ f2_ f3_; subst f4_; subst f5_))
       refine hK.out _ _ ⟨bc_ BK280 0, bc_ BK280 1, bc_ BK280 2, bc_ BK256 0, bc_ BK256 1, bc_ BK256 2⟩ (fun hHeld => ?_)
       clear hK K
       refine norm_ (a' := ?_) ?_ ?_
       rotate_left
       ·show Act.put _ (some 58) _ = _
        simp only [Act.put, sia_, scz_, scs_, i64_w, i32_w]
        rfl
       refine one_ (i := 3) (N := some 59) #[true, true, true, true, false] rfl rfl (by kernel_rfl) (by decide) (fun K hK => ?_)
       refine goes_ Try.func19 (by kernel_rfl) rfl #[.agg #[.int .i64 t275, .int .i64 t276, .slice Ao53 t277.length co53], .agg #[.int .i64 t292, .int .i64 t293, .slice Ao84 t294.length co84]] (by rfl) rfl rfl (by (try simp only [List.map_toArray, List.map_cons, List.map_nil]); first | done | rfl | (simp only [List.length_drop, List.length_take]; rfl)) ?_
       with_reducible refine (laws_eqLog.calls kj25 t275 t276 _ _ t277 t292 t293 _ _ t294 true _ ?side1 ?side2 ?side3 ?side4 A78.out).mono ?_
       (case side1 => repeat (first | exact (Kd.R_reads' HO_281002.out).2.2 | (with_reducible refine Kd.C_alloc ?_ _) | (with_reducible refine Kd.C_drewN ?_ _) | (with_reducible refine Kd.C_drew ?_)))
       (case side2 => exact (Kd.R_reads' HO_281002.out).2.1)
       (case side3 => repeat (first | exact (Kd.R_reads' HO296.out).2.2 | (with_reducible refine Kd.C_alloc ?_ _) | (with_reducible refine Kd.C_drewN ?_ _) | (with_reducible refine Kd.C_drew ?_)))
       (case side4 => exact (Kd.R_reads' HO296.out).2.1)
       rintro e w85 ⟨rfl, hb⟩
       refine ⟨_, rfl, ?_⟩
       have n0_ := rb_ HO_275002 hb
       have n1_ := rb_ HO_281002 hb
       have n2_ := rb_ HO_291002 hb
       have n3_ := rb_ HO296 hb
       have n4_ := bb_ BK256 hb; have n5_ := bb_ BK257 hb; have n6_ := bb_ BK274 hb; have n7_ := bb_ BK280 hb; have n8_ := bb_ BK290 hb
       have n9_ := bs_ HB hb
       clear HO_275002; clear HO_281002; clear HO_291002; clear HO296; clear BK256; clear BK257; clear BK274; clear BK280; clear BK290; clear HB; have HO_275002 := n0_; have HO_281002 := n1_; have HO_291002 := n2_; have HO296 := n3_; have BK256 := n4_; have BK257 := n5_; have BK274 := n6_; have BK280 := n7_; have BK290 := n8_; have HB := n9_; clear n0_ n1_ n2_ n3_ n4_ n5_ n6_ n7_ n8_ n9_; (try clear hb); (try clear hb2); (try clear hk); (try clear hi)
       refine hK.out _ _ ⟨bc_ BK280 0, bc_ BK280 1, bc_ BK280 2, bc_ BK256 0, bc_ BK256 1, bc_ BK256 2⟩ (fun hHeld => ?_)
       clear hK K
       refine norm_ (a' := ?_) ?_ ?_
       rotate_left
       ·show Act.put _ (some 59) _ = _
        simp only [Act.put, sia_, scz_, scs_, i64_w, i32_w]
        rfl
       refine pure_ (i := 4) (N := some 60) (v := ?_) (a' := ?_) #[true, true, true, true, true] rfl rfl (by kernel_rfl) (fun _ _ _ h => h) (Or.inl ⟨by rfl, ?_⟩) ?_ ?_
       rotate_left
       ·intro w'
        go_simp
        with_reducible rfl
       rotate_left
       ·simp only [Act.put, sia_, scz_, scs_, i64_w, i32_w]
        rfl
       refine done_ (by kernel_rfl) ?_
       have hnb86 := NB280_256.out
       have hnc86 := NB256_280.out
       have hnb87 := NB280_257.out
       have hnc87 := NB257_280.out
       have hnb88 := NB280_274.out
       have hnc88 := NB274_280.out
       have hnb89 := NB280_290.out
       have hnc89 := NB290_280.out
       have hcz90_0 : w85.cell? ⟨gb280, 0, none⟩ = some (.int .i64 t275) := bc_ BK280 0
       have hcz90_1 : w85.cell? ⟨gb280, 1, none⟩ = some (.int .i64 t276) := bc_ BK280 1
       have hcz90_2 : w85.cell? ⟨gb280, 2, none⟩ = some (.slice Ao53 t277.length co53) := bc_ BK280 2
       have hfz90_0 := blk_frozen BK280.out 0
       have hfz90_1 := blk_frozen BK280.out 1
       have hfz90_2 := blk_frozen BK280.out 2
       go_upto_region 17 with (first | ((with_reducible refine gate_callee (f := 20) rfl ?_); refine goesL_ (some 63) rfl rfl Try.func20 (by kernel_rfl) rfl #[.agg #[.int .i64 t275, .int .i64 t276, .slice Ao53 t277.length co53], .int .i64 1] rfl (by (try simp only [List.map_toArray, List.map_cons, List.map_nil]); first | done | rfl | (simp only [List.length_drop, List.length_take]; rfl)) ?_; (with_reducible refine (laws_markLog.calls kj25 t275 t276 (fun k_ => some k_ = (.slice Ao53 t277.length co53 : Value).ownBlock) (.slice Ao53 t277.length co53) t277 1 t298 t299 w _ ?side1 ?side2 A80.out).mono ?_); (case side1 => repeat (first | (with_reducible first | exact HB.out | apply below_alloc | apply pw_below_drewN | apply below_drew1 | refine below_set ?_ GE256.out | refine below_set ?_ GE257.out | refine below_set ?_ GE274.out | refine below_set ?_ GE280.out | refine below_set ?_ GE290.out) | exact HB.out)); (case side2 => exact Kd.R_tight rfl HO_281002.out); rintro e w91 ⟨rfl, hy0, hb, hkp⟩; refine ⟨_, rfl, ?_⟩; have n0_ := mk_ (Kd.R_mono (ok' := fun k_ => some k_ ≠ (.slice Ao53 t277.length co53 : Value).ownBlock ∧ some k_ ≠ (.slice Ao62 t286.length co62 : Value).ownBlock ∧ some k_ ≠ (.slice Ao84 t294.length co84 : Value).ownBlock) (Kd.R_keptB (HO_275002.out) hkp (fun k_ hk_ hs_ => (hk_.1.1) hs_)) (fun k_ hk_ => ⟨hk_.1.1.1, hk_.1.1.2, hk_.1.2⟩)); have n1_ := mk_ (Kd.R_reok rfl hy0 (fun k_ e_ => HO_281002.out.1 k_ e_)); have n2_ := mk_ (Kd.R_mono (ok' := fun k_ => some k_ ≠ (.slice Ao43 t270.length co43 : Value).ownBlock ∧ some k_ ≠ (.slice Ao53 t277.length co53 : Value).ownBlock ∧ some k_ ≠ (.slice Ao84 t294.length co84 : Value).ownBlock) (Kd.R_keptB (HO_291002.out) hkp (fun k_ hk_ hs_ => (hk_.1.2) hs_)) (fun k_ hk_ => ⟨hk_.1.1.1, hk_.1.1.2, hk_.1.2⟩)); have n3_ := mk_ (blk_kept (bp_ BK256) hkp (fun hs_ => (fun e_ => (Kd.R_ne HO_281002.out BK256.out (by decide)) e_) hs_)); have n4_ := mk_ (blk_kept (bp_ BK257) hkp (fun hs_ => (fun e_ => (Kd.R_ne HO_281002.out BK257.out (by decide)) e_) hs_)); have n5_ := mk_ (blk_kept (bp_ BK274) hkp (fun hs_ => (fun e_ => (Kd.R_ne HO_281002.out BK274.out (by decide)) e_) hs_)); have n6_ := mk_ (blk_kept (bp_ BK280) hkp (fun hs_ => (fun e_ => (Kd.R_ne HO_281002.out BK280.out (by decide)) e_) hs_)); have n7_ := mk_ (blk_kept (bp_ BK290) hkp (fun hs_ => (fun e_ => (Kd.R_ne HO_281002.out BK290.out (by decide)) e_) hs_)); have n8_ := mk_ (Kd.R_mono (ok' := fun k_ => some k_ ≠ (.slice Ao43 t270.length co43 : Value).ownBlock ∧ some k_ ≠ (.slice Ao53 t277.length co53 : Value).ownBlock ∧ some k_ ≠ (.slice Ao62 t286.length co62 : Value).ownBlock) (Kd.R_keptB (HO296.out) hkp (fun k_ hk_ hs_ => (hk_.1.2) hs_)) (fun k_ hk_ => ⟨hk_.1.1.1.2, hk_.1.1.2, hk_.1.2⟩)); have n9_ := mk_ (hb); clear HO_275002; clear HO_281002; clear HO_291002; clear BK256; clear BK257; clear BK274; clear BK280; clear BK290; clear HO296; clear HB; have HO_275002 := n0_; have HO_281002 := n1_; have HO_291002 := n2_; have BK256 := n3_; have BK257 := n4_; have BK274 := n5_; have BK280 := n6_; have BK290 := n7_; have HO296 := n8_; have HB := n9_; clear n0_ n1_ n2_ n3_ n4_ n5_ n6_ n7_ n8_ n9_; (try clear hb); (try clear hkp); (try clear hy0)))
       (try simp only [Act.put, sia_, scz_, scs_])
       go_cut [76] (fun v76 wc => ∃ (kq : Nat) (x76_80 : Bool), v76 = .bool x76_80 ∧ Aside0 (laws_FnExactLogPut.j1 kq a1 t273 x76_80 a0_0 a0_1 l0_2 a2_0 a2_1 a2_2 t268 t269 t270 t284 t285 t286 = some r) ∧ Aside0 (kq ≤ kj25) ∧ Aside0 (Kd.R k35 35 wc w.heap.size (fun k_ => some k_ ≠ ((.slice Ao53 t277.length co53) : Value).ownBlock ∧ some k_ ≠ ((.slice Ao62 t286.length co62) : Value).ownBlock) (.slice Ao43 t270.length co43) t270) ∧ Aside0 (Kd.R k35 35 wc w.heap.size (fun k_ => some k_ ≠ ((.slice Ao43 t270.length co43) : Value).ownBlock ∧ some k_ ≠ ((.slice Ao62 t286.length co62) : Value).ownBlock) (.slice Ao53 t277.length co53) t299) ∧ Aside0 (Kd.R k35 35 wc w.heap.size (fun k_ => some k_ ≠ ((.slice Ao43 t270.length co43) : Value).ownBlock ∧ some k_ ≠ ((.slice Ao53 t277.length co53) : Value).ownBlock) (.slice Ao62 t286.length co62) t286) ∧ Aside0 (wc.heap[gb256]? = some (.cells #[.int .i64 a0_0, .int .i64 a0_1, (.slice A0_2 l0_2.length c0_2)] 24 (0, 0))) ∧ Aside0 (wc.heap[gb257]? = some (.cells #[.int .i64 a2_0, .int .i64 a2_1, .string a2_2] 26 (0, 0))) ∧ Aside0 (wc.heap[gb274]? = some (.cells #[.int .i64 t268, .int .i64 t269, (.slice Ao43 t270.length co43)] 31 (0, 0))) ∧ Aside0 (wc.heap[gb280]? = some (.cells #[.int .i64 t275, .int .i64 t276, (.slice Ao53 t277.length co53)] 31 (0, 0))) ∧ Aside0 (wc.heap[gb290]? = some (.cells #[.int .i64 t284, .int .i64 t285, (.slice Ao62 t286.length co62)] 31 (0, 0))) ∧ Aside0 (Below w.heap.size w wc))
       case first =>
        have H := HC81.out
        clear HC81
        by_cases c92 : t298 < 0
        ·rw [if_pos c92] at H
         exact absurd H (by simp)
        ·rw [if_neg c92] at H
         have c92b0 : decide (t298 < 0) = false := decide_eq_false c92
         clear c92
         (first | rw [c92b0] | (simp only [i64_w, i32_w]; rw [c92b0]) | skip)
         replace H := Option.bind_eq_some_iff.mp H
         obtain ⟨t300, A930, H⟩ := H
         replace H : (if t300 = true then (laws_FnExactLogPut.j1 kj25 a1 t273 (t289 != t273) a0_0 a0_1 l0_2 a2_0 a2_1 a2_2 t268 t269 t270 t284 t285 t286) else (none)) = some r := H
         have A93 := Aside0.mk A930
         clear A930
         by_cases c94 : t300 = true
         ·subst c94
          have H1 : (laws_FnExactLogPut.j1 kj25 a1 t273 (t289 != t273) a0_0 a0_1 l0_2 a2_0 a2_1 a2_2 t268 t269 t270 t284 t285 t286) = some r := by rw [if_pos rfl] at H; exact H
          clear H
          have H := H1
          clear H1
          have H' := Aside0.mk H
          clear H
          have hnb95 := NB290_256.out
          have hnc95 := NB256_290.out
          have hnb96 := NB290_257.out
          have hnc96 := NB257_290.out
          have hnb97 := NB290_274.out
          have hnc97 := NB274_290.out
          have hnb98 := NB290_280.out
          have hnc98 := NB280_290.out
          have hcz99_0 : w91.cell? ⟨gb290, 0, none⟩ = some (.int .i64 t284) := bc_ BK290 0
          have hcz99_1 : w91.cell? ⟨gb290, 1, none⟩ = some (.int .i64 t285) := bc_ BK290 1
          have hcz99_2 : w91.cell? ⟨gb290, 2, none⟩ = some (.slice Ao62 t286.length co62) := bc_ BK290 2
          have hfz99_0 := blk_frozen BK290.out 0
          have hfz99_1 := blk_frozen BK290.out 1
          have hfz99_2 := blk_frozen BK290.out 2
          have hnb100 := NB274_256.out
          have hnc100 := NB256_274.out
          have hnb101 := NB274_257.out
          have hnc101 := NB257_274.out
          have hnb102 := NB274_280.out
          have hnc102 := NB280_274.out
          have hcz103_0 : w91.cell? ⟨gb274, 0, none⟩ = some (.int .i64 t268) := bc_ BK274 0
          have hcz103_1 : w91.cell? ⟨gb274, 1, none⟩ = some (.int .i64 t269) := bc_ BK274 1
          have hcz103_2 : w91.cell? ⟨gb274, 2, none⟩ = some (.slice Ao43 t270.length co43) := bc_ BK274 2
          have hfz103_0 := blk_frozen BK274.out 0
          have hfz103_1 := blk_frozen BK274.out 1
          have hfz103_2 := blk_frozen BK274.out 2
          go_wp2_with (first | (go_at_call 19; (with_reducible refine (laws_eqLog.calls kj25 t284 t285 _ _ t286 t268 t269 _ _ t270 true _ ?side1 ?side2 ?side3 ?side4 A93.out).mono ?_); (case side1 => repeat (first | exact (Kd.R_reads' HO_291002.out).2.2 | (with_reducible refine Kd.C_alloc ?_ _) | (with_reducible refine Kd.C_drewN ?_ _) | (with_reducible refine Kd.C_drew ?_))); (case side2 => exact (Kd.R_reads' HO_291002.out).2.1); (case side3 => repeat (first | exact (Kd.R_reads' HO_275002.out).2.2 | (with_reducible refine Kd.C_alloc ?_ _) | (with_reducible refine Kd.C_drewN ?_ _) | (with_reducible refine Kd.C_drew ?_))); (case side4 => exact (Kd.R_reads' HO_275002.out).2.1); rintro e w104 ⟨rfl, hb⟩; replace HO_275002 := rb_ HO_275002 hb; replace HO_281002 := rb_ HO_281002 hb; replace HO_291002 := rb_ HO_291002 hb; replace HO296 := rb_ HO296 hb; replace BK256 := bb_ BK256 hb; replace BK257 := bb_ BK257 hb; replace BK274 := bb_ BK274 hb; replace BK280 := bb_ BK280 hb; replace BK290 := bb_ BK290 hb; replace HB := bs_ HB hb; (try clear hb)))
          go_meet
          case rel => exact ⟨_, ((t289 != t273)), (by first | rfl | (simp; done) | (simp [*]; done)), H', ⟨by have := HJ25.out; first | omega | exact Nat.le_refl _⟩, ⟨by (with_reducible repeat (first | apply Kd.R_alloc | apply Kd.R_drewN | apply Kd.R_drew)); exact Kd.R_mono HO_275002.out (fun _ hk => ⟨hk.1, hk.2.1⟩)⟩, ⟨by (with_reducible repeat (first | apply Kd.R_alloc | apply Kd.R_drewN | apply Kd.R_drew)); exact Kd.R_mono HO_281002.out (fun _ hk => ⟨hk.1.1, hk.1.2⟩)⟩, ⟨by (with_reducible repeat (first | apply Kd.R_alloc | apply Kd.R_drewN | apply Kd.R_drew)); exact Kd.R_mono HO_291002.out (fun _ hk => ⟨hk.1, hk.2.1⟩)⟩, ⟨by (with_reducible repeat (first | refine blk_drewN ?_ _ | refine blk_drew ?_ | refine blk_alloc ?_ _)); exact BK256.out⟩, ⟨by (with_reducible repeat (first | refine blk_drewN ?_ _ | refine blk_drew ?_ | refine blk_alloc ?_ _)); exact BK257.out⟩, ⟨by (with_reducible repeat (first | refine blk_drewN ?_ _ | refine blk_drew ?_ | refine blk_alloc ?_ _)); exact BK274.out⟩, ⟨by (with_reducible repeat (first | refine blk_drewN ?_ _ | refine blk_drew ?_ | refine blk_alloc ?_ _)); exact BK280.out⟩, ⟨by (with_reducible repeat (first | refine blk_drewN ?_ _ | refine blk_drew ?_ | refine blk_alloc ?_ _)); exact BK290.out⟩, ⟨by repeat (first | (with_reducible first | exact HB.out | apply below_alloc | apply pw_below_drewN | apply below_drew1 | refine below_set ?_ GE256.out | refine below_set ?_ GE257.out | refine below_set ?_ GE274.out | refine below_set ?_ GE280.out | refine below_set ?_ GE290.out) | exact HB.out)⟩⟩
         ·replace c94 := Bool.eq_false_iff.mpr c94
          subst c94
          have H1 : (none) = some r := by rw [if_neg (show ¬ (false = true) by decide)] at H; exact H
          clear H
          have H := H1
          clear H1
          exact absurd H (by simp)
       case rest =>
        clear HC81
        try clear c1
        try clear c2
        try clear p2
        try clear c6
        try clear c7
        try clear c8
        try clear c9
        try clear c10
        try clear c16
        try clear c17
        try clear c18
        try clear c19
        try clear c20
        try clear c65
        try clear c66
        try clear c67
        try clear c68
        try clear c69
        try clear c71
        try clear c72
        try clear c73
        try clear c76
        try clear c79
        try clear c86
        try clear c87
        try clear c88
        try clear c89
        try clear c92
        try clear c92b0
        try clear c94
        try clear c95
        try clear c96
        try clear c97
        try clear c98
        try clear c100
        try clear c101
        try clear c102
        try clear hcz103_0
        try clear hcz103_1
        try clear hcz103_2
        try clear hcz70_0
        try clear hcz70_1
        try clear hcz70_2
        try clear hcz74_0
        try clear hcz74_1
        try clear hcz74_2
        try clear hcz90_0
        try clear hcz90_1
        try clear hcz90_2
        try clear hcz99_0
        try clear hcz99_1
        try clear hcz99_2
        try clear hfz103_0
        try clear hfz103_1
        try clear hfz103_2
        try clear hfz70_0
        try clear hfz70_1
        try clear hfz70_2
        try clear hfz74_0
        try clear hfz74_1
        try clear hfz74_2
        try clear hfz90_0
        try clear hfz90_1
        try clear hfz90_2
        try clear hfz99_0
        try clear hfz99_1
        try clear hfz99_2
        try clear p2
        obtain ⟨kq, x76_80, rfl, HA, HJ80, HO_275002, HO_281002, HO_291002, BK256, BK257, BK274, BK280, BK290, HB⟩ := hcut
        have hl281002_80 := (Kd.R_reads' HO_281002.out).1
        rw [hl281002_80] at HO_281002
        (try simp only [hl281002_80])
        (try simp only [hl281002_80] at BK256)
        (try simp only [hl281002_80] at BK257)
        (try simp only [hl281002_80] at BK274)
        (try simp only [hl281002_80] at BK280)
        (try simp only [hl281002_80] at BK290)
        (try simp only [hl281002_80] at HO_275002)
        (try simp only [hl281002_80] at HO_291002)
        cases kq with
        | zero => exact absurd HA.out (by simp [laws_FnExactLogPut.j1])
        | succ kj80 =>
         have H := HA.out
         clear HA
         simp only [laws_FnExactLogPut.j1] at H
         by_cases c105 : x76_80 = true
         ·subst c105
          have H1 : (none) = some r := by rw [if_pos rfl] at H; exact H
          clear H
          have H := H1
          clear H1
          exact absurd H (by simp)
         ·replace c105 := Bool.eq_false_iff.mpr c105
          subst c105
          have H1 : ((laws_markLog.f kj80 t284 t285 t286 1).bind fun bt301 => ((laws_heldLog.f kj80 t284 t285 bt301.2 1).bind fun t303 => (if t303 < 0 then (none) else (if t303 = bt301.1 then ((laws_toLog.f kj80 a0_0 a0_1 l0_2).bind fun bt304 => ((laws_toEntry.f a2_0 a2_1 a2_2).bind fun bt309 => ((impl_LogPut.f kj80 bt304.1 bt304.2.1 bt304.2.2 a1 bt309.1 bt309.2.1 bt309.2.2).bind fun bt312 => ((laws_eqLog.f kj80 bt312.1 bt312.2.1 bt312.2.2.1 t268 t269 t270).bind fun t319 => (if t319 = true then (laws_FnExactLogPut.j2 kj80 bt301.1 (bt312.2.2.2 != t273) t284 t285 bt301.2) else (none)))))) else (none))))) = some r := by rw [if_neg (show ¬ (false = true) by decide)] at H; exact H
          clear H
          have H := H1
          clear H1
          replace H := Option.bind_eq_some_iff.mp H
          obtain ⟨⟨t301, t302⟩, A1060, H⟩ := H
          replace H : ((laws_heldLog.f kj80 t284 t285 t302 1).bind fun t303 => (if t303 < 0 then (none) else (if t303 = t301 then ((laws_toLog.f kj80 a0_0 a0_1 l0_2).bind fun bt304 => ((laws_toEntry.f a2_0 a2_1 a2_2).bind fun bt309 => ((impl_LogPut.f kj80 bt304.1 bt304.2.1 bt304.2.2 a1 bt309.1 bt309.2.1 bt309.2.2).bind fun bt312 => ((laws_eqLog.f kj80 bt312.1 bt312.2.1 bt312.2.2.1 t268 t269 t270).bind fun t319 => (if t319 = true then (laws_FnExactLogPut.j2 kj80 t301 (bt312.2.2.2 != t273) t284 t285 t302) else (none)))))) else (none)))) = some r := H
          have A106 := Aside0.mk A1060
          clear A1060
          replace H := Option.bind_eq_some_iff.mp H
          obtain ⟨t303, A1070, H⟩ := H
          replace H : (if t303 < 0 then (none) else (if t303 = t301 then ((laws_toLog.f kj80 a0_0 a0_1 l0_2).bind fun bt304 => ((laws_toEntry.f a2_0 a2_1 a2_2).bind fun bt309 => ((impl_LogPut.f kj80 bt304.1 bt304.2.1 bt304.2.2 a1 bt309.1 bt309.2.1 bt309.2.2).bind fun bt312 => ((laws_eqLog.f kj80 bt312.1 bt312.2.1 bt312.2.2.1 t268 t269 t270).bind fun t319 => (if t319 = true then (laws_FnExactLogPut.j2 kj80 t301 (bt312.2.2.2 != t273) t284 t285 t302) else (none)))))) else (none))) = some r := H
          have A107 := Aside0.mk A1070
          clear A1070
          by_cases c108 : t303 < 0
          ·rw [if_pos c108] at H
           exact absurd H (by simp)
          ·rw [if_neg c108] at H
           have c108b0 : decide (t303 < 0) = false := decide_eq_false c108
           clear c108
           by_cases c109 : t303 = t301
           ·rw [if_pos c109] at H
            have c109b0 : (t303 == t301) = true := beq_iff_eq.mpr c109
            have c109b1 : (t303 != t301) = false := bne_eq_false_iff_eq.mpr c109
            clear c109
            replace H := Option.bind_eq_some_iff.mp H
            obtain ⟨⟨t304, t305, t306⟩, A1100, H⟩ := H
            replace H : ((laws_toEntry.f a2_0 a2_1 a2_2).bind fun bt309 => ((impl_LogPut.f kj80 t304 t305 t306 a1 bt309.1 bt309.2.1 bt309.2.2).bind fun bt312 => ((laws_eqLog.f kj80 bt312.1 bt312.2.1 bt312.2.2.1 t268 t269 t270).bind fun t319 => (if t319 = true then (laws_FnExactLogPut.j2 kj80 t301 (bt312.2.2.2 != t273) t284 t285 t302) else (none))))) = some r := H
            have A110 := Aside0.mk A1100
            clear A1100
            replace H := Option.bind_eq_some_iff.mp H
            obtain ⟨⟨t309, t310, t311⟩, A1110, H⟩ := H
            replace H : ((impl_LogPut.f kj80 t304 t305 t306 a1 t309 t310 t311).bind fun bt312 => ((laws_eqLog.f kj80 bt312.1 bt312.2.1 bt312.2.2.1 t268 t269 t270).bind fun t319 => (if t319 = true then (laws_FnExactLogPut.j2 kj80 t301 (bt312.2.2.2 != t273) t284 t285 t302) else (none)))) = some r := H
            have A111 := Aside0.mk A1110
            clear A1110
            replace H := Option.bind_eq_some_iff.mp H
            obtain ⟨⟨t312, t313, t314, t317⟩, A1120, H⟩ := H
            replace H : ((laws_eqLog.f kj80 t312 t313 t314 t268 t269 t270).bind fun t319 => (if t319 = true then (laws_FnExactLogPut.j2 kj80 t301 (t317 != t273) t284 t285 t302) else (none))) = some r := H
            have A112 := Aside0.mk A1120
            clear A1120
            have HC113 := Aside0.mk H
            clear H
            have hnb114 := NB290_256.out
            have hnc114 := NB256_290.out
            have hnb115 := NB290_257.out
            have hnc115 := NB257_290.out
            have hnb116 := NB290_274.out
            have hnc116 := NB274_290.out
            have hnb117 := NB290_280.out
            have hnc117 := NB280_290.out
            have hcz118_0 : wc.cell? ⟨gb290, 0, none⟩ = some (.int .i64 t284) := bc_ BK290 0
            have hcz118_1 : wc.cell? ⟨gb290, 1, none⟩ = some (.int .i64 t285) := bc_ BK290 1
            have hcz118_2 : wc.cell? ⟨gb290, 2, none⟩ = some (.slice Ao62 t286.length co62) := bc_ BK290 2
            have hfz118_0 := blk_frozen BK290.out 0
            have hfz118_1 := blk_frozen BK290.out 1
            have hfz118_2 := blk_frozen BK290.out 2
            try go_wp2_with (first | ((with_reducible refine gate_callee (f := 20) rfl ?_); refine goesL_ (some 79) rfl rfl Try.func20 (by kernel_rfl) rfl #[.agg #[.int .i64 t284, .int .i64 t285, .slice Ao62 t286.length co62], .int .i64 1] rfl (by (try simp only [List.map_toArray, List.map_cons, List.map_nil]); first | done | rfl | (simp only [List.length_drop, List.length_take]; rfl)) ?_; (with_reducible refine (laws_markLog.calls kj80 t284 t285 (fun k_ => some k_ = (.slice Ao62 t286.length co62 : Value).ownBlock) (.slice Ao62 t286.length co62) t286 1 t301 t302 w _ ?side1 ?side2 A106.out).mono ?_); (case side1 => repeat (first | (with_reducible first | exact HB.out | apply below_alloc | apply pw_below_drewN | apply below_drew1 | refine below_set ?_ GE256.out | refine below_set ?_ GE257.out | refine below_set ?_ GE274.out | refine below_set ?_ GE280.out | refine below_set ?_ GE290.out) | exact HB.out)); (case side2 => exact Kd.R_tight rfl HO_291002.out); rintro e w119 ⟨rfl, hy0, hb, hkp⟩; refine ⟨_, rfl, ?_⟩; have n0_ := mk_ (Kd.R_mono (ok' := fun k_ => some k_ ≠ (.slice Ao53 t299.length co53 : Value).ownBlock ∧ some k_ ≠ (.slice Ao62 t286.length co62 : Value).ownBlock) (Kd.R_keptB (HO_275002.out) hkp (fun k_ hk_ hs_ => (hk_.2) hs_)) (fun k_ hk_ => ⟨hk_.1.1, hk_.1.2⟩)); have n1_ := mk_ (Kd.R_mono (ok' := fun k_ => some k_ ≠ (.slice Ao43 t270.length co43 : Value).ownBlock ∧ some k_ ≠ (.slice Ao62 t286.length co62 : Value).ownBlock) (Kd.R_keptB (HO_281002.out) hkp (fun k_ hk_ hs_ => (hk_.2) hs_)) (fun k_ hk_ => ⟨hk_.1.1, hk_.1.2⟩)); have n2_ := mk_ (Kd.R_reok rfl hy0 (fun k_ e_ => HO_291002.out.1 k_ e_)); have n3_ := mk_ (blk_kept (bp_ BK256) hkp (fun hs_ => (fun e_ => (Kd.R_ne HO_291002.out BK256.out (by decide)) e_) hs_)); have n4_ := mk_ (blk_kept (bp_ BK257) hkp (fun hs_ => (fun e_ => (Kd.R_ne HO_291002.out BK257.out (by decide)) e_) hs_)); have n5_ := mk_ (blk_kept (bp_ BK274) hkp (fun hs_ => (fun e_ => (Kd.R_ne HO_291002.out BK274.out (by decide)) e_) hs_)); have n6_ := mk_ (blk_kept (bp_ BK280) hkp (fun hs_ => (fun e_ => (Kd.R_ne HO_291002.out BK280.out (by decide)) e_) hs_)); have n7_ := mk_ (blk_kept (bp_ BK290) hkp (fun hs_ => (fun e_ => (Kd.R_ne HO_291002.out BK290.out (by decide)) e_) hs_)); have n8_ := mk_ (hb); clear HO_275002; clear HO_281002; clear HO_291002; clear BK256; clear BK257; clear BK274; clear BK280; clear BK290; clear HB; have HO_275002 := n0_; have HO_281002 := n1_; have HO_291002 := n2_; have BK256 := n3_; have BK257 := n4_; have BK274 := n5_; have BK280 := n6_; have BK290 := n7_; have HB := n8_; clear n0_ n1_ n2_ n3_ n4_ n5_ n6_ n7_ n8_; (try clear hb); (try clear hkp); (try clear hy0); have hcz120_0 : w119.cell? ⟨gb290, 0, none⟩ = some (.int .i64 t284) := bc_ BK290 0; have hcz120_1 : w119.cell? ⟨gb290, 1, none⟩ = some (.int .i64 t285) := bc_ BK290 1; have hcz120_2 : w119.cell? ⟨gb290, 2, none⟩ = some (.slice Ao62 t286.length co62) := bc_ BK290 2; have hfz120_0 := blk_frozen BK290.out 0; have hfz120_1 := blk_frozen BK290.out 1; have hfz120_2 := blk_frozen BK290.out 2) | ((with_reducible refine gate_callee (f := 21) rfl ?_); refine goesL_ (some 82) rfl rfl Try.func21 (by kernel_rfl) rfl #[.agg #[.int .i64 t284, .int .i64 t285, .slice Ao62 t302.length co62], .int .i64 1] rfl (by (try simp only [List.map_toArray, List.map_cons, List.map_nil]); first | done | (rw [show t302.length = t286.length from (Kd.R_reads' HO_291002.out).1.symm] <;> rfl) | rfl | (simp only [List.length_drop, List.length_take]; rfl)) ?_; (with_reducible refine (laws_heldLog.calls kj80 t284 t285 _ _ t302 1 t303 _ ?side1 ?side2 A107.out).mono ?_); (case side1 => repeat (first | exact (Kd.R_reads' HO_291002.out).2.2 | (with_reducible refine Kd.C_alloc ?_ _) | (with_reducible refine Kd.C_drewN ?_ _) | (with_reducible refine Kd.C_drew ?_))); (case side2 => rw [show t302.length = t286.length from (Kd.R_reads' HO_291002.out).1.symm]; exact (Kd.R_reads' HO_291002.out).2.1); rintro e w121 ⟨rfl, hb⟩; refine ⟨_, rfl, ?_⟩; replace HO_275002 := rb_ HO_275002 hb; replace HO_281002 := rb_ HO_281002 hb; replace HO_291002 := rb_ HO_291002 hb; replace BK256 := bb_ BK256 hb; replace BK257 := bb_ BK257 hb; replace BK274 := bb_ BK274 hb; replace BK280 := bb_ BK280 hb; replace BK290 := bb_ BK290 hb; replace HB := bs_ HB hb; (try clear hb)))
            have n0_ := mk_ (Kd.R_drew HO_275002.out)
            have n1_ := mk_ (Kd.R_drew HO_281002.out)
            have n2_ := mk_ (Kd.R_drew HO_291002.out)
            have n3_ := mk_ (blk_drew BK256.out)
            have n4_ := mk_ (blk_drew BK257.out)
            have n5_ := mk_ (blk_drew BK274.out)
            have n6_ := mk_ (blk_drew BK280.out)
            have n7_ := mk_ (blk_drew BK290.out)
            have n8_ := mk_ (below_drew1 HB.out)
            clear HO_275002; clear HO_281002; clear HO_291002; clear BK256; clear BK257; clear BK274; clear BK280; clear BK290; clear HB; have HO_275002 := n0_; have HO_281002 := n1_; have HO_291002 := n2_; have BK256 := n3_; have BK257 := n4_; have BK274 := n5_; have BK280 := n6_; have BK290 := n7_; have HB := n8_; clear n0_ n1_ n2_ n3_ n4_ n5_ n6_ n7_ n8_
            refine start_ (n := 12) (S := fun w' => w'.cell? ⟨gb256, 0, none⟩ = some (.int .i64 a0_0) ∧ w'.cell? ⟨gb256, 1, none⟩ = some (.int .i64 a0_1) ∧ w'.cell? ⟨gb256, 2, none⟩ = some (.slice A0_2 l0_2.length c0_2) ∧ w'.cell? ⟨gb257, 0, none⟩ = some (.int .i64 a2_0) ∧ w'.cell? ⟨gb257, 1, none⟩ = some (.int .i64 a2_1) ∧ w'.cell? ⟨gb257, 2, none⟩ = some (.string a2_2)) (ds := []) #[false, false, false, false, false, false, false, false, false, false, false, false] (by kernel_rfl) rfl rfl ⟨bc_ BK256 0, bc_ BK256 1, bc_ BK256 2, bc_ BK257 0, bc_ BK257 1, bc_ BK257 2⟩ (fun hHeld => ?_); refine with_tabW laws_FnExactLogPut.tab27 laws_FnExactLogPut.bits27 (fun HT_ HW_ => ?_)
            generalize w121.drew = w122 at HO_275002 HO_281002 HO_291002 BK256 BK257 BK274 BK280 BK290 HB hHeld ⊢
            refine pure_ (i := 2) (N := some 91) (v := ?_) (a' := ?_) #[false, false, true, false, false, false, false, false, false, false, false, false] rfl rfl (any_of HT_.out (by kernel_rfl)) (fun _ _ _ h => h) (Or.inl ⟨by rfl, ?_⟩) ?_ ?_
            rotate_left
            ·intro w'
             go_simp
             with_reducible rfl
            rotate_left
            ·simp only [Act.put, sia_, scz_, scs_, i64_w, i32_w]
             rfl
            refine take_ (i := 0) (N := some 89) (v := ?_) (a' := ?_) #[true, false, true, false, false, false, false, false, false, false, false, false] rfl rfl (take_ofW HT_.out HW_.out (by kernel_rfl)) (fun _ _ _ h => h) (Or.inl ⟨by rfl, ?_⟩) hHeld ?_ ?_
            rotate_left
            ·rintro w' ⟨s0, s1, s2, s3, s4, s5⟩
             go_simp
             with_reducible rfl
            rotate_left
            ·simp only [Act.put, sia_, scz_, scs_, i64_w, i32_w]
             rfl
            refine take_ (i := 3) (N := some 92) (v := ?_) (a' := ?_) #[true, false, true, true, false, false, false, false, false, false, false, false] rfl rfl (take_ofW HT_.out HW_.out (by kernel_rfl)) (fun _ _ _ h => h) (Or.inl ⟨by rfl, ?_⟩) hHeld ?_ ?_
            rotate_left
            ·rintro w' ⟨s0, s1, s2, s3, s4, s5⟩
             go_simp
             with_reducible rfl
            rotate_left
            ·simp only [Act.put, sia_, scz_, scs_, i64_w, i32_w]
             rfl
            refine join_ (σ := Value × Value × Nat) 2 #[true, true, true, true, true, true, true, true, true, true, false, false] (fun s_ => [(90, .agg #[.int .i64 t304, .int .i64 t305, s_.1]), (93, .agg #[.int .i64 t309, .int .i64 t310, .string t311]), (94, .tuple #[.agg #[.int .i64 t312, .int .i64 t313, s_.2.1], .bool t317]), (16, .pointer (some ⟨s_.2.2, 0, none⟩)), (88, .tuple #[.agg #[.int .i64 t312, .int .i64 t313, s_.2.1], .bool t317]), (95, .agg #[.int .i64 t312, .int .i64 t313, s_.2.1]), (96, .bool t317)]) (fun s_ w' => (w'.cell? ⟨gb256, 0, none⟩ = some (.int .i64 a0_0) ∧ w'.cell? ⟨gb256, 1, none⟩ = some (.int .i64 a0_1) ∧ w'.cell? ⟨gb256, 2, none⟩ = some (.slice A0_2 l0_2.length c0_2) ∧ w'.cell? ⟨gb257, 0, none⟩ = some (.int .i64 a2_0) ∧ w'.cell? ⟨gb257, 1, none⟩ = some (.int .i64 a2_1) ∧ w'.cell? ⟨gb257, 2, none⟩ = some (.string a2_2)) ∧ (Kd.R k35 35 w' w.heap.size (fun k_ => some k_ ≠ (s_.2.1 : Value).ownBlock ∧ some k_ ≠ (.slice Ao43 t270.length co43 : Value).ownBlock ∧ some k_ ≠ (.slice Ao53 t299.length co53 : Value).ownBlock ∧ some k_ ≠ (.slice Ao62 t286.length co62 : Value).ownBlock) s_.1 t306) ∧ (Kd.R k35 35 w' w.heap.size (fun k_ => some k_ ≠ (s_.1 : Value).ownBlock ∧ some k_ ≠ (.slice Ao43 t270.length co43 : Value).ownBlock ∧ some k_ ≠ (.slice Ao53 t299.length co53 : Value).ownBlock ∧ some k_ ≠ (.slice Ao62 t286.length co62 : Value).ownBlock) s_.2.1 t314) ∧ (Kd.R k35 35 w' w.heap.size (fun k_ => some k_ ≠ (s_.1 : Value).ownBlock ∧ some k_ ≠ (s_.2.1 : Value).ownBlock ∧ some k_ ≠ (.slice Ao53 t299.length co53 : Value).ownBlock ∧ some k_ ≠ (.slice Ao62 t286.length co62 : Value).ownBlock) (.slice Ao43 t270.length co43) t270) ∧ (Kd.R k35 35 w' w.heap.size (fun k_ => some k_ ≠ (s_.1 : Value).ownBlock ∧ some k_ ≠ (s_.2.1 : Value).ownBlock ∧ some k_ ≠ (.slice Ao43 t270.length co43 : Value).ownBlock ∧ some k_ ≠ (.slice Ao62 t286.length co62 : Value).ownBlock) (.slice Ao53 t299.length co53) t299) ∧ (Kd.R k35 35 w' w.heap.size (fun k_ => some k_ ≠ (s_.1 : Value).ownBlock ∧ some k_ ≠ (s_.2.1 : Value).ownBlock ∧ some k_ ≠ (.slice Ao43 t270.length co43 : Value).ownBlock ∧ some k_ ≠ (.slice Ao53 t299.length co53 : Value).ownBlock) (.slice Ao62 t286.length co62) t302) ∧ (w'.heap[gb256]? = some (.cells #[.int .i64 a0_0, .int .i64 a0_1, .slice A0_2 l0_2.length c0_2] 24 (0, 0))) ∧ (w'.heap[gb257]? = some (.cells #[.int .i64 a2_0, .int .i64 a2_1, .string a2_2] 26 (0, 0))) ∧ (w'.heap[gb274]? = some (.cells #[.int .i64 t268, .int .i64 t269, .slice Ao43 t270.length co43] 31 (0, 0))) ∧ (w'.heap[gb280]? = some (.cells #[.int .i64 t275, .int .i64 t276, .slice Ao53 t299.length co53] 31 (0, 0))) ∧ (w'.heap[gb290]? = some (.cells #[.int .i64 t284, .int .i64 t285, .slice Ao62 t286.length co62] 31 (0, 0))) ∧ (w'.heap[s_.2.2]? = some (.cells #[.int .i64 0, .int .i64 0, .slice none 0 0] 31 (0, 0))) ∧ (w.heap.size ≤ s_.2.2) ∧ (w.heap.size ≤ s_.2.2) ∧ (gb256 ≠ s_.2.2) ∧ (s_.2.2 ≠ gb256) ∧ (gb257 ≠ s_.2.2) ∧ (s_.2.2 ≠ gb257) ∧ (gb274 ≠ s_.2.2) ∧ (s_.2.2 ≠ gb274) ∧ (gb280 ≠ s_.2.2) ∧ (s_.2.2 ≠ gb280) ∧ (gb290 ≠ s_.2.2) ∧ (s_.2.2 ≠ gb290) ∧ (Below w.heap.size w w')) ?_ ?_
            rotate_left
            ·intro hCont
             refine two_ (i := 1) (j := 9) (Ni := some 90) (Nj := some 16) #[true, true, true, true, false, false, false, false, false, false, false, false] #[true, false, true, true, false, false, false, false, false, true, false, false] rfl rfl rfl rfl (two_of HT_.out (by kernel_rfl)) (by decide) (by decide) (fun K hK => ?_) (fun K hK => ?_)
             ·skip
              refine goes_ Try.func16 (by kernel_rfl) rfl #[.agg #[.int .i64 a0_0, .int .i64 a0_1, .slice A0_2 l0_2.length c0_2]] (by rfl) rfl rfl (by (try simp only [List.map_toArray, List.map_cons, List.map_nil]); first | done | rfl | (simp only [List.length_drop, List.length_take]; rfl)) ?_
              with_reducible refine (laws_toLog.calls kj80 a0_0 a0_1 _ _ l0_2 t304 t305 t306 _ ?side1 ?side2 A110.out).mono ?_
              (case side1 => repeat (first | exact (Kd.C_below HR0_2.out HB.out) | (with_reducible refine Kd.C_alloc ?_ _) | (with_reducible refine Kd.C_drewN ?_ _) | (with_reducible refine Kd.C_drew ?_)))
              (case side2 => exact HC0_2.out)
              rintro e w123 ⟨v307, rfl, ho0, hb⟩
              refine ⟨_, rfl, ?_⟩
              have n0_ := mk_ (Kd.R_elder' (rp_ HO_275002) (Kd.R_base ho0) hb)
              have n1_ := mk_ (Kd.R_elder' (rp_ HO_281002) (Kd.R_base ho0) hb)
              have n2_ := mk_ (Kd.R_elder' (rp_ HO_291002) (Kd.R_base ho0) hb)
              have n3_ := mk_ (Kd.R_lower (Kd.R_new' (Kd.R_new' (Kd.R_new' ho0 (Kd.R_lt (rp_ HO_275002))) (Kd.R_lt (rp_ HO_281002))) (Kd.R_lt (rp_ HO_291002))) (below_size (bw_ HB)))
              have n4_ := bb_ BK256 hb; have n5_ := bb_ BK257 hb; have n6_ := bb_ BK274 hb; have n7_ := bb_ BK280 hb; have n8_ := bb_ BK290 hb
              have n9_ := bs_ HB hb
              clear HO_275002; clear HO_281002; clear HO_291002; clear BK256; clear BK257; clear BK274; clear BK280; clear BK290; clear HB; have HO_275002 := n0_; have HO_281002 := n1_; have HO_291002 := n2_; have HO308 := n3_; have BK256 := n4_; have BK257 := n5_; have BK274 := n6_; have BK280 := n7_; have BK290 := n8_; have HB := n9_; clear n0_ n1_ n2_ n3_ n4_ n5_ n6_ n7_ n8_ n9_; (try clear hb); (try clear hb2); (try clear hk); (try clear hi); (try clear ho0)
              refine hK.out _ _ ⟨bc_ BK256 0, bc_ BK256 1, bc_ BK256 2, bc_ BK257 0, bc_ BK257 1, bc_ BK257 2⟩ (fun hHeld => ?_)
              clear hK K
              refine norm_ (a' := ?_) ?_ ?_
              rotate_left
              ·show Act.put _ (some 90) _ = _
               simp only [Act.put, sia_, scz_, scs_, i64_w, i32_w]
               rfl
              refine two_ (i := 4) (j := 9) (Ni := some 93) (Nj := some 16) #[true, true, true, true, true, false, false, false, false, false, false, false] #[true, true, true, true, false, false, false, false, false, true, false, false] rfl rfl rfl rfl (two_of HT_.out (by kernel_rfl)) (by decide) (by decide) (fun K hK => ?_) (fun K hK => ?_)
              ·skip
               refine goes_ Try.func17 (by kernel_rfl) rfl #[.agg #[.int .i64 a2_0, .int .i64 a2_1, .string a2_2]] (by rfl) rfl rfl (by (try simp only [List.map_toArray, List.map_cons, List.map_nil]); first | done | rfl | (simp only [List.length_drop, List.length_take]; rfl)) ?_
               with_reducible refine (laws_toEntry.calls a2_0 a2_1 a2_2 t309 t310 t311 _ A111.out).mono ?_
               rintro e w124 ⟨rfl, hb⟩
               refine ⟨_, rfl, ?_⟩
               have n0_ := rb_ HO_275002 hb
               have n1_ := rb_ HO_281002 hb
               have n2_ := rb_ HO_291002 hb
               have n3_ := rb_ HO308 hb
               have n4_ := bb_ BK256 hb; have n5_ := bb_ BK257 hb; have n6_ := bb_ BK274 hb; have n7_ := bb_ BK280 hb; have n8_ := bb_ BK290 hb
               have n9_ := bs_ HB hb
               clear HO_275002; clear HO_281002; clear HO_291002; clear HO308; clear BK256; clear BK257; clear BK274; clear BK280; clear BK290; clear HB; have HO_275002 := n0_; have HO_281002 := n1_; have HO_291002 := n2_; have HO308 := n3_; have BK256 := n4_; have BK257 := n5_; have BK274 := n6_; have BK280 := n7_; have BK290 := n8_; have HB := n9_; clear n0_ n1_ n2_ n3_ n4_ n5_ n6_ n7_ n8_ n9_; (try clear hb); (try clear hb2); (try clear hk); (try clear hi)
               obtain ⟨Ao125, co125, eo125⟩ := Kd.R_slice HO308.out
               (first | subst eo125 | (injection eo125 with f1_ f2_ f3_; have f4_ := f1_.symm; have f5_ := f3_.symm; clear f1_ f2_ f3_; subst f4_; subst f5_))
               refine hK.out _ _ ⟨bc_ BK256 0, bc_ BK256 1, bc_ BK256 2, bc_ BK257 0, bc_ BK257 1, bc_ BK257 2⟩ (fun hHeld => ?_)
               clear hK K
               refine norm_ (a' := ?_) ?_ ?_
               rotate_left
               ·show Act.put _ (some 93) _ = _
                simp only [Act.put, sia_, scz_, scs_, i64_w, i32_w]
                rfl
               refine two_ (i := 5) (j := 9) (Ni := some 94) (Nj := some 16) #[true, true, true, true, true, true, false, false, false, false, false, false] #[true, true, true, true, true, false, false, false, false, true, false, false] rfl rfl rfl rfl (two_of HT_.out (by kernel_rfl)) (by decide) (by decide) (fun K hK => ?_) (fun K hK => ?_)
               ·skip
                refine goes_ Try.func18 (by kernel_rfl) rfl #[.agg #[.int .i64 t304, .int .i64 t305, .slice Ao125 t306.length co125], .int .i64 a1, .agg #[.int .i64 t309, .int .i64 t310, .string t311]] (by rfl) rfl rfl (by (try simp only [List.map_toArray, List.map_cons, List.map_nil]); first | done | rfl | (simp only [List.length_drop, List.length_take]; rfl)) ?_
                with_reducible refine (impl_LogPut.calls kj80 t304 t305 _ _ t306 a1 t309 t310 t311 t312 t313 t314 t317 _ ?side1 ?side2 A112.out).mono ?_
                (case side1 => repeat (first | exact (Kd.R_reads' HO308.out).2.2 | (with_reducible refine Kd.C_alloc ?_ _) | (with_reducible refine Kd.C_drewN ?_ _) | (with_reducible refine Kd.C_drew ?_)))
                (case side2 => exact (Kd.R_reads' HO308.out).2.1)
                rintro e w126 ⟨v315, rfl, ho0, hb⟩
                refine ⟨_, rfl, ?_⟩
                have n0_ := mk_ (Kd.R_elder' (rp_ HO_275002) (Kd.R_base ho0) hb)
                have n1_ := mk_ (Kd.R_elder' (rp_ HO_281002) (Kd.R_base ho0) hb)
                have n2_ := mk_ (Kd.R_elder' (rp_ HO_291002) (Kd.R_base ho0) hb)
                have n3_ := mk_ (Kd.R_elder' (rp_ HO308) (Kd.R_base ho0) hb)
                have n4_ := mk_ (Kd.R_lower (Kd.R_new' (Kd.R_new' (Kd.R_new' (Kd.R_new' ho0 (Kd.R_lt (rp_ HO_275002))) (Kd.R_lt (rp_ HO_281002))) (Kd.R_lt (rp_ HO_291002))) (Kd.R_lt (rp_ HO308))) (below_size (bw_ HB)))
                have n5_ := bb_ BK256 hb; have n6_ := bb_ BK257 hb; have n7_ := bb_ BK274 hb; have n8_ := bb_ BK280 hb; have n9_ := bb_ BK290 hb
                have n10_ := bs_ HB hb
                clear HO_275002; clear HO_281002; clear HO_291002; clear HO308; clear BK256; clear BK257; clear BK274; clear BK280; clear BK290; clear HB; have HO_275002 := n0_; have HO_281002 := n1_; have HO_291002 := n2_; have HO308 := n3_; have HO316 := n4_; have BK256 := n5_; have BK257 := n6_; have BK274 := n7_; have BK280 := n8_; have BK290 := n9_; have HB := n10_; clear n0_ n1_ n2_ n3_ n4_ n5_ n6_ n7_ n8_ n9_ n10_; (try clear hb); (try clear hb2); (try clear hk); (try clear hi); (try clear ho0)
                refine hK.out _ _ ⟨bc_ BK256 0, bc_ BK256 1, bc_ BK256 2, bc_ BK257 0, bc_ BK257 1, bc_ BK257 2⟩ (fun hHeld => ?_)
                clear hK K
                refine norm_ (a' := ?_) ?_ ?_
                rotate_left
                ·show Act.put _ (some 94) _ = _
                 simp only [Act.put, sia_, scz_, scs_, i64_w, i32_w]
                 rfl
                refine pure_ (i := 6) (N := some 88) (v := ?_) (a' := ?_) #[true, true, true, true, true, true, true, false, false, false, false, false] rfl rfl (any_of HT_.out (by kernel_rfl)) (fun _ _ _ h => h) (Or.inl ⟨by rfl, ?_⟩) ?_ ?_
                rotate_left
                ·intro w'
                 go_simp
                 with_reducible rfl
                rotate_left
                ·simp only [Act.put, sia_, scz_, scs_, i64_w, i32_w]
                 rfl
                refine pure_ (i := 7) (N := some 95) (v := ?_) (a' := ?_) #[true, true, true, true, true, true, true, true, false, false, false, false] rfl rfl (any_of HT_.out (by kernel_rfl)) (fun _ _ _ h => h) (Or.inl ⟨by rfl, ?_⟩) ?_ ?_
                rotate_left
                ·intro w'
                 go_simp
                 with_reducible rfl
                rotate_left
                ·simp only [Act.put, sia_, scz_, scs_, i64_w, i32_w]
                 rfl
                refine pure_ (i := 8) (N := some 96) (v := ?_) (a' := ?_) #[true, true, true, true, true, true, true, true, true, false, false, false] rfl rfl (any_of HT_.out (by kernel_rfl)) (fun _ _ _ h => h) (Or.inl ⟨by rfl, ?_⟩) ?_ ?_
                rotate_left
                ·intro w'
                 go_simp
                 with_reducible rfl
                rotate_left
                ·simp only [Act.put, sia_, scz_, scs_, i64_w, i32_w]
                 rfl
                refine one_ (i := 9) (N := some 16) #[true, true, true, true, true, true, true, true, true, true, false, false] rfl rfl (one_of HT_.out (by kernel_rfl)) (by decide) (fun K hK => ?_)
                refine box_step ?hg (N := 16) ?hd (cs := #[.int .i64 0, .int .i64 0, .slice none 0 0]) (t := 31) ?hr ?_; (case hd => rfl); (case hg => rfl); (case hr => first | (go_simp; done) | (go_simp; rfl))
                intro gb318 hg w127 hbox hb
                have n0_ := rb_ HO_275002 hb
                have n1_ := rb_ HO_281002 hb
                have n2_ := rb_ HO_291002 hb
                have n3_ := rb_ HO308 hb
                have n4_ := rb_ HO316 hb
                have n5_ := bb_ BK256 hb; have n6_ := bb_ BK257 hb; have n7_ := bb_ BK274 hb; have n8_ := bb_ BK280 hb; have n9_ := bb_ BK290 hb
                have n10_ := bs_ HB hb
                have n11_ := mk_ (hbox)
                have n12_ : Aside0 (w.heap.size ≤ gb318) := bz_ hg
                have n13_ : Aside0 (w.heap.size ≤ gb318) := bz_ hg
                have n14_ : Aside0 (gb256 ≠ gb318) := bl_ BK256 hg
                have n15_ : Aside0 (gb318 ≠ gb256) := bg_ BK256 hg
                have n16_ : Aside0 (gb257 ≠ gb318) := bl_ BK257 hg
                have n17_ : Aside0 (gb318 ≠ gb257) := bg_ BK257 hg
                have n18_ : Aside0 (gb274 ≠ gb318) := bl_ BK274 hg
                have n19_ : Aside0 (gb318 ≠ gb274) := bg_ BK274 hg
                have n20_ : Aside0 (gb280 ≠ gb318) := bl_ BK280 hg
                have n21_ : Aside0 (gb318 ≠ gb280) := bg_ BK280 hg
                have n22_ : Aside0 (gb290 ≠ gb318) := bl_ BK290 hg
                have n23_ : Aside0 (gb318 ≠ gb290) := bg_ BK290 hg
                clear HO_275002; clear HO_281002; clear HO_291002; clear HO308; clear HO316; clear BK256; clear BK257; clear BK274; clear BK280; clear BK290; clear HB; have HO_275002 := n0_; have HO_281002 := n1_; have HO_291002 := n2_; have HO308 := n3_; have HO316 := n4_; have BK256 := n5_; have BK257 := n6_; have BK274 := n7_; have BK280 := n8_; have BK290 := n9_; have HB := n10_; have BK318 := n11_; have GW318 := n12_; have GE318 := n13_; have NB256_318 := n14_; have NB318_256 := n15_; have NB257_318 := n16_; have NB318_257 := n17_; have NB274_318 := n18_; have NB318_274 := n19_; have NB280_318 := n20_; have NB318_280 := n21_; have NB290_318 := n22_; have NB318_290 := n23_; clear n0_ n1_ n2_ n3_ n4_ n5_ n6_ n7_ n8_ n9_ n10_ n11_ n12_ n13_ n14_ n15_ n16_ n17_ n18_ n19_ n20_ n21_ n22_ n23_; clear hb hbox hg
                refine hK.out _ _ ⟨bc_ BK256 0, bc_ BK256 1, bc_ BK256 2, bc_ BK257 0, bc_ BK257 1, bc_ BK257 2⟩ (fun hHeld => ?_)
                clear hK K
                refine norm_ (a' := ?_) ?_ ?_
                rotate_left
                ·show Act.put _ (some 16) _ = _
                 simp only [Act.put, sia_, scz_, scs_, i64_w, i32_w]
                 rfl
                exact norm_ (by simp only [putAll, Act.put, sia_, scz_, scs_]) (hCont (.slice Ao125 t306.length co125, v315, gb318) _ ⟨hHeld, (by (with_reducible repeat (first | apply Kd.R_alloc | apply Kd.R_drewN | apply Kd.R_drew)); exact Kd.R_mono HO308.out (fun _ hk => ⟨hk.2, ⟨hk.1.1.1.2, ⟨hk.1.1.2, hk.1.2⟩⟩⟩)), (by (with_reducible repeat (first | apply Kd.R_alloc | apply Kd.R_drewN | apply Kd.R_drew)); exact Kd.R_mono HO316.out (fun _ hk => ⟨hk.2, ⟨hk.1.1.1.2, ⟨hk.1.1.2, hk.1.2⟩⟩⟩)), (by (with_reducible repeat (first | apply Kd.R_alloc | apply Kd.R_drewN | apply Kd.R_drew)); exact Kd.R_mono HO_275002.out (fun _ hk => ⟨hk.1.2, ⟨hk.2, ⟨hk.1.1.1, hk.1.1.2⟩⟩⟩)), (by (with_reducible repeat (first | apply Kd.R_alloc | apply Kd.R_drewN | apply Kd.R_drew)); exact Kd.R_mono HO_281002.out (fun _ hk => ⟨hk.1.2, ⟨hk.2, ⟨hk.1.1.1, hk.1.1.2⟩⟩⟩)), (by (with_reducible repeat (first | apply Kd.R_alloc | apply Kd.R_drewN | apply Kd.R_drew)); exact Kd.R_mono HO_291002.out (fun _ hk => ⟨hk.1.2, ⟨hk.2, ⟨hk.1.1.1, hk.1.1.2⟩⟩⟩)), (bp_ BK256), (bp_ BK257), (bp_ BK274), (bp_ BK280), (bp_ BK290), (bp_ BK318), GW318.out, GE318.out, NB256_318.out, NB318_256.out, NB257_318.out, NB318_257.out, NB274_318.out, NB318_274.out, NB280_318.out, NB318_280.out, NB290_318.out, NB318_290.out, (bw_ HB)⟩)
               ·skip
                refine box_step ?hg (N := 16) ?hd (cs := #[.int .i64 0, .int .i64 0, .slice none 0 0]) (t := 31) ?hr ?_; (case hd => rfl); (case hg => rfl); (case hr => first | (go_simp; done) | (go_simp; rfl))
                intro gb318 hg w125 hbox hb
                have n0_ := rb_ HO_275002 hb
                have n1_ := rb_ HO_281002 hb
                have n2_ := rb_ HO_291002 hb
                have n3_ := rb_ HO308 hb
                have n4_ := bb_ BK256 hb; have n5_ := bb_ BK257 hb; have n6_ := bb_ BK274 hb; have n7_ := bb_ BK280 hb; have n8_ := bb_ BK290 hb
                have n9_ := bs_ HB hb
                have n10_ := mk_ (hbox)
                have n11_ : Aside0 (w.heap.size ≤ gb318) := bz_ hg
                have n12_ : Aside0 (w.heap.size ≤ gb318) := bz_ hg
                have n13_ : Aside0 (gb256 ≠ gb318) := bl_ BK256 hg
                have n14_ : Aside0 (gb318 ≠ gb256) := bg_ BK256 hg
                have n15_ : Aside0 (gb257 ≠ gb318) := bl_ BK257 hg
                have n16_ : Aside0 (gb318 ≠ gb257) := bg_ BK257 hg
                have n17_ : Aside0 (gb274 ≠ gb318) := bl_ BK274 hg
                have n18_ : Aside0 (gb318 ≠ gb274) := bg_ BK274 hg
                have n19_ : Aside0 (gb280 ≠ gb318) := bl_ BK280 hg
                have n20_ : Aside0 (gb318 ≠ gb280) := bg_ BK280 hg
                have n21_ : Aside0 (gb290 ≠ gb318) := bl_ BK290 hg
                have n22_ : Aside0 (gb318 ≠ gb290) := bg_ BK290 hg
                clear HO_275002; clear HO_281002; clear HO_291002; clear HO308; clear BK256; clear BK257; clear BK274; clear BK280; clear BK290; clear HB; have HO_275002 := n0_; have HO_281002 := n1_; have HO_291002 := n2_; have HO308 := n3_; have BK256 := n4_; have BK257 := n5_; have BK274 := n6_; have BK280 := n7_; have BK290 := n8_; have HB := n9_; have BK318 := n10_; have GW318 := n11_; have GE318 := n12_; have NB256_318 := n13_; have NB318_256 := n14_; have NB257_318 := n15_; have NB318_257 := n16_; have NB274_318 := n17_; have NB318_274 := n18_; have NB280_318 := n19_; have NB318_280 := n20_; have NB290_318 := n21_; have NB318_290 := n22_; clear n0_ n1_ n2_ n3_ n4_ n5_ n6_ n7_ n8_ n9_ n10_ n11_ n12_ n13_ n14_ n15_ n16_ n17_ n18_ n19_ n20_ n21_ n22_; clear hb hbox hg
                obtain ⟨Ao126, co126, eo126⟩ := Kd.R_slice HO308.out
                (first | subst eo126 | (injection eo126 with f1_ f2_ f3_; have f4_ := f1_.symm; have f5_ := f3_.symm; clear f1_ f2_ f3_; subst f4_; subst f5_))
                refine hK.out _ _ ⟨bc_ BK256 0, bc_ BK256 1, bc_ BK256 2, bc_ BK257 0, bc_ BK257 1, bc_ BK257 2⟩ (fun hHeld => ?_)
                clear hK K
                refine norm_ (a' := ?_) ?_ ?_
                rotate_left
                ·show Act.put _ (some 16) _ = _
                 simp only [Act.put, sia_, scz_, scs_, i64_w, i32_w]
                 rfl
                refine one_ (i := 5) (N := some 94) #[true, true, true, true, true, true, false, false, false, true, false, false] rfl rfl (one_of HT_.out (by kernel_rfl)) (by decide) (fun K hK => ?_)
                refine goes_ Try.func18 (by kernel_rfl) rfl #[.agg #[.int .i64 t304, .int .i64 t305, .slice Ao126 t306.length co126], .int .i64 a1, .agg #[.int .i64 t309, .int .i64 t310, .string t311]] (by rfl) rfl rfl (by (try simp only [List.map_toArray, List.map_cons, List.map_nil]); first | done | rfl | (simp only [List.length_drop, List.length_take]; rfl)) ?_
                with_reducible refine (impl_LogPut.calls kj80 t304 t305 _ _ t306 a1 t309 t310 t311 t312 t313 t314 t317 _ ?side1 ?side2 A112.out).mono ?_
                (case side1 => repeat (first | exact (Kd.R_reads' HO308.out).2.2 | (with_reducible refine Kd.C_alloc ?_ _) | (with_reducible refine Kd.C_drewN ?_ _) | (with_reducible refine Kd.C_drew ?_)))
                (case side2 => exact (Kd.R_reads' HO308.out).2.1)
                rintro e w127 ⟨v315, rfl, ho0, hb⟩
                refine ⟨_, rfl, ?_⟩
                have n0_ := mk_ (Kd.R_elder' (rp_ HO_275002) (Kd.R_base ho0) hb)
                have n1_ := mk_ (Kd.R_elder' (rp_ HO_281002) (Kd.R_base ho0) hb)
                have n2_ := mk_ (Kd.R_elder' (rp_ HO_291002) (Kd.R_base ho0) hb)
                have n3_ := mk_ (Kd.R_elder' (rp_ HO308) (Kd.R_base ho0) hb)
                have n4_ := mk_ (Kd.R_lower (Kd.R_new' (Kd.R_new' (Kd.R_new' (Kd.R_new' ho0 (Kd.R_lt (rp_ HO_275002))) (Kd.R_lt (rp_ HO_281002))) (Kd.R_lt (rp_ HO_291002))) (Kd.R_lt (rp_ HO308))) (below_size (bw_ HB)))
                have n5_ := bb_ BK256 hb; have n6_ := bb_ BK257 hb; have n7_ := bb_ BK274 hb; have n8_ := bb_ BK280 hb; have n9_ := bb_ BK290 hb; have n10_ := bb_ BK318 hb
                have n11_ := bs_ HB hb
                clear HO_275002; clear HO_281002; clear HO_291002; clear HO308; clear BK256; clear BK257; clear BK274; clear BK280; clear BK290; clear BK318; clear HB; have HO_275002 := n0_; have HO_281002 := n1_; have HO_291002 := n2_; have HO308 := n3_; have HO316 := n4_; have BK256 := n5_; have BK257 := n6_; have BK274 := n7_; have BK280 := n8_; have BK290 := n9_; have BK318 := n10_; have HB := n11_; clear n0_ n1_ n2_ n3_ n4_ n5_ n6_ n7_ n8_ n9_ n10_ n11_; (try clear hb); (try clear hb2); (try clear hk); (try clear hi); (try clear ho0)
                refine hK.out _ _ ⟨bc_ BK256 0, bc_ BK256 1, bc_ BK256 2, bc_ BK257 0, bc_ BK257 1, bc_ BK257 2⟩ (fun hHeld => ?_)
                clear hK K
                refine norm_ (a' := ?_) ?_ ?_
                rotate_left
                ·show Act.put _ (some 94) _ = _
                 simp only [Act.put, sia_, scz_, scs_, i64_w, i32_w]
                 rfl
                refine pure_ (i := 6) (N := some 88) (v := ?_) (a' := ?_) #[true, true, true, true, true, true, true, false, false, true, false, false] rfl rfl (any_of HT_.out (by kernel_rfl)) (fun _ _ _ h => h) (Or.inl ⟨by rfl, ?_⟩) ?_ ?_
                rotate_left
                ·intro w'
                 go_simp
                 with_reducible rfl
                rotate_left
                ·simp only [Act.put, sia_, scz_, scs_, i64_w, i32_w]
                 rfl
                refine pure_ (i := 7) (N := some 95) (v := ?_) (a' := ?_) #[true, true, true, true, true, true, true, true, false, true, false, false] rfl rfl (any_of HT_.out (by kernel_rfl)) (fun _ _ _ h => h) (Or.inl ⟨by rfl, ?_⟩) ?_ ?_
                rotate_left
                ·intro w'
                 go_simp
                 with_reducible rfl
                rotate_left
                ·simp only [Act.put, sia_, scz_, scs_, i64_w, i32_w]
                 rfl
                refine pure_ (i := 8) (N := some 96) (v := ?_) (a' := ?_) #[true, true, true, true, true, true, true, true, true, true, false, false] rfl rfl (any_of HT_.out (by kernel_rfl)) (fun _ _ _ h => h) (Or.inl ⟨by rfl, ?_⟩) ?_ ?_
                rotate_left
                ·intro w'
                 go_simp
                 with_reducible rfl
                rotate_left
                ·simp only [Act.put, sia_, scz_, scs_, i64_w, i32_w]
                 rfl
                exact norm_ (by simp only [putAll, Act.put, sia_, scz_, scs_]) (hCont (.slice Ao126 t306.length co126, v315, gb318) _ ⟨hHeld, (by (with_reducible repeat (first | apply Kd.R_alloc | apply Kd.R_drewN | apply Kd.R_drew)); exact Kd.R_mono HO308.out (fun _ hk => ⟨hk.2, ⟨hk.1.1.1.2, ⟨hk.1.1.2, hk.1.2⟩⟩⟩)), (by (with_reducible repeat (first | apply Kd.R_alloc | apply Kd.R_drewN | apply Kd.R_drew)); exact Kd.R_mono HO316.out (fun _ hk => ⟨hk.2, ⟨hk.1.1.1.2, ⟨hk.1.1.2, hk.1.2⟩⟩⟩)), (by (with_reducible repeat (first | apply Kd.R_alloc | apply Kd.R_drewN | apply Kd.R_drew)); exact Kd.R_mono HO_275002.out (fun _ hk => ⟨hk.1.2, ⟨hk.2, ⟨hk.1.1.1, hk.1.1.2⟩⟩⟩)), (by (with_reducible repeat (first | apply Kd.R_alloc | apply Kd.R_drewN | apply Kd.R_drew)); exact Kd.R_mono HO_281002.out (fun _ hk => ⟨hk.1.2, ⟨hk.2, ⟨hk.1.1.1, hk.1.1.2⟩⟩⟩)), (by (with_reducible repeat (first | apply Kd.R_alloc | apply Kd.R_drewN | apply Kd.R_drew)); exact Kd.R_mono HO_291002.out (fun _ hk => ⟨hk.1.2, ⟨hk.2, ⟨hk.1.1.1, hk.1.1.2⟩⟩⟩)), (bp_ BK256), (bp_ BK257), (bp_ BK274), (bp_ BK280), (bp_ BK290), (bp_ BK318), GW318.out, GE318.out, NB256_318.out, NB318_256.out, NB257_318.out, NB318_257.out, NB274_318.out, NB318_274.out, NB280_318.out, NB318_280.out, NB290_318.out, NB318_290.out, (bw_ HB)⟩)
              ·skip
               refine box_step ?hg (N := 16) ?hd (cs := #[.int .i64 0, .int .i64 0, .slice none 0 0]) (t := 31) ?hr ?_; (case hd => rfl); (case hg => rfl); (case hr => first | (go_simp; done) | (go_simp; rfl))
               intro gb318 hg w124 hbox hb
               have n0_ := rb_ HO_275002 hb
               have n1_ := rb_ HO_281002 hb
               have n2_ := rb_ HO_291002 hb
               have n3_ := rb_ HO308 hb
               have n4_ := bb_ BK256 hb; have n5_ := bb_ BK257 hb; have n6_ := bb_ BK274 hb; have n7_ := bb_ BK280 hb; have n8_ := bb_ BK290 hb
               have n9_ := bs_ HB hb
               have n10_ := mk_ (hbox)
               have n11_ : Aside0 (w.heap.size ≤ gb318) := bz_ hg
               have n12_ : Aside0 (w.heap.size ≤ gb318) := bz_ hg
               have n13_ : Aside0 (gb256 ≠ gb318) := bl_ BK256 hg
               have n14_ : Aside0 (gb318 ≠ gb256) := bg_ BK256 hg
               have n15_ : Aside0 (gb257 ≠ gb318) := bl_ BK257 hg
               have n16_ : Aside0 (gb318 ≠ gb257) := bg_ BK257 hg
               have n17_ : Aside0 (gb274 ≠ gb318) := bl_ BK274 hg
               have n18_ : Aside0 (gb318 ≠ gb274) := bg_ BK274 hg
               have n19_ : Aside0 (gb280 ≠ gb318) := bl_ BK280 hg
               have n20_ : Aside0 (gb318 ≠ gb280) := bg_ BK280 hg
               have n21_ : Aside0 (gb290 ≠ gb318) := bl_ BK290 hg
               have n22_ : Aside0 (gb318 ≠ gb290) := bg_ BK290 hg
               clear HO_275002; clear HO_281002; clear HO_291002; clear HO308; clear BK256; clear BK257; clear BK274; clear BK280; clear BK290; clear HB; have HO_275002 := n0_; have HO_281002 := n1_; have HO_291002 := n2_; have HO308 := n3_; have BK256 := n4_; have BK257 := n5_; have BK274 := n6_; have BK280 := n7_; have BK290 := n8_; have HB := n9_; have BK318 := n10_; have GW318 := n11_; have GE318 := n12_; have NB256_318 := n13_; have NB318_256 := n14_; have NB257_318 := n15_; have NB318_257 := n16_; have NB274_318 := n17_; have NB318_274 := n18_; have NB280_318 := n19_; have NB318_280 := n20_; have NB290_318 := n21_; have NB318_290 := n22_; clear n0_ n1_ n2_ n3_ n4_ n5_ n6_ n7_ n8_ n9_ n10_ n11_ n12_ n13_ n14_ n15_ n16_ n17_ n18_ n19_ n20_ n21_ n22_; clear hb hbox hg
               refine hK.out _ _ ⟨bc_ BK256 0, bc_ BK256 1, bc_ BK256 2, bc_ BK257 0, bc_ BK257 1, bc_ BK257 2⟩ (fun hHeld => ?_)
               clear hK K
               refine norm_ (a' := ?_) ?_ ?_
               rotate_left
               ·show Act.put _ (some 16) _ = _
                simp only [Act.put, sia_, scz_, scs_, i64_w, i32_w]
                rfl
               refine one_ (i := 4) (N := some 93) #[true, true, true, true, true, false, false, false, false, true, false, false] rfl rfl (one_of HT_.out (by kernel_rfl)) (by decide) (fun K hK => ?_)
               refine goes_ Try.func17 (by kernel_rfl) rfl #[.agg #[.int .i64 a2_0, .int .i64 a2_1, .string a2_2]] (by rfl) rfl rfl (by (try simp only [List.map_toArray, List.map_cons, List.map_nil]); first | done | rfl | (simp only [List.length_drop, List.length_take]; rfl)) ?_
               with_reducible refine (laws_toEntry.calls a2_0 a2_1 a2_2 t309 t310 t311 _ A111.out).mono ?_
               rintro e w125 ⟨rfl, hb⟩
               refine ⟨_, rfl, ?_⟩
               have n0_ := rb_ HO_275002 hb
               have n1_ := rb_ HO_281002 hb
               have n2_ := rb_ HO_291002 hb
               have n3_ := rb_ HO308 hb
               have n4_ := bb_ BK256 hb; have n5_ := bb_ BK257 hb; have n6_ := bb_ BK274 hb; have n7_ := bb_ BK280 hb; have n8_ := bb_ BK290 hb; have n9_ := bb_ BK318 hb
               have n10_ := bs_ HB hb
               clear HO_275002; clear HO_281002; clear HO_291002; clear HO308; clear BK256; clear BK257; clear BK274; clear BK280; clear BK290; clear BK318; clear HB; have HO_275002 := n0_; have HO_281002 := n1_; have HO_291002 := n2_; have HO308 := n3_; have BK256 := n4_; have BK257 := n5_; have BK274 := n6_; have BK280 := n7_; have BK290 := n8_; have BK318 := n9_; have HB := n10_; clear n0_ n1_ n2_ n3_ n4_ n5_ n6_ n7_ n8_ n9_ n10_; (try clear hb); (try clear hb2); (try clear hk); (try clear hi)
               obtain ⟨Ao126, co126, eo126⟩ := Kd.R_slice HO308.out
               (first | subst eo126 | (injection eo126 with f1_ f2_ f3_; have f4_ := f1_.symm; have f5_ := f3_.symm; clear f1_ f2_ f3_; subst f4_; subst f5_))
               refine hK.out _ _ ⟨bc_ BK256 0, bc_ BK256 1, bc_ BK256 2, bc_ BK257 0, bc_ BK257 1, bc_ BK257 2⟩ (fun hHeld => ?_)
               clear hK K
               refine norm_ (a' := ?_) ?_ ?_
               rotate_left
               ·show Act.put _ (some 93) _ = _
                simp only [Act.put, sia_, scz_, scs_, i64_w, i32_w]
                rfl
               refine one_ (i := 5) (N := some 94) #[true, true, true, true, true, true, false, false, false, true, false, false] rfl rfl (one_of HT_.out (by kernel_rfl)) (by decide) (fun K hK => ?_)
               refine goes_ Try.func18 (by kernel_rfl) rfl #[.agg #[.int .i64 t304, .int .i64 t305, .slice Ao126 t306.length co126], .int .i64 a1, .agg #[.int .i64 t309, .int .i64 t310, .string t311]] (by rfl) rfl rfl (by (try simp only [List.map_toArray, List.map_cons, List.map_nil]); first | done | rfl | (simp only [List.length_drop, List.length_take]; rfl)) ?_
               with_reducible refine (impl_LogPut.calls kj80 t304 t305 _ _ t306 a1 t309 t310 t311 t312 t313 t314 t317 _ ?side1 ?side2 A112.out).mono ?_
               (case side1 => repeat (first | exact (Kd.R_reads' HO308.out).2.2 | (with_reducible refine Kd.C_alloc ?_ _) | (with_reducible refine Kd.C_drewN ?_ _) | (with_reducible refine Kd.C_drew ?_)))
               (case side2 => exact (Kd.R_reads' HO308.out).2.1)
               rintro e w127 ⟨v315, rfl, ho0, hb⟩
               refine ⟨_, rfl, ?_⟩
               have n0_ := mk_ (Kd.R_elder' (rp_ HO_275002) (Kd.R_base ho0) hb)
               have n1_ := mk_ (Kd.R_elder' (rp_ HO_281002) (Kd.R_base ho0) hb)
               have n2_ := mk_ (Kd.R_elder' (rp_ HO_291002) (Kd.R_base ho0) hb)
               have n3_ := mk_ (Kd.R_elder' (rp_ HO308) (Kd.R_base ho0) hb)
               have n4_ := mk_ (Kd.R_lower (Kd.R_new' (Kd.R_new' (Kd.R_new' (Kd.R_new' ho0 (Kd.R_lt (rp_ HO_275002))) (Kd.R_lt (rp_ HO_281002))) (Kd.R_lt (rp_ HO_291002))) (Kd.R_lt (rp_ HO308))) (below_size (bw_ HB)))
               have n5_ := bb_ BK256 hb; have n6_ := bb_ BK257 hb; have n7_ := bb_ BK274 hb; have n8_ := bb_ BK280 hb; have n9_ := bb_ BK290 hb; have n10_ := bb_ BK318 hb
               have n11_ := bs_ HB hb
               clear HO_275002; clear HO_281002; clear HO_291002; clear HO308; clear BK256; clear BK257; clear BK274; clear BK280; clear BK290; clear BK318; clear HB; have HO_275002 := n0_; have HO_281002 := n1_; have HO_291002 := n2_; have HO308 := n3_; have HO316 := n4_; have BK256 := n5_; have BK257 := n6_; have BK274 := n7_; have BK280 := n8_; have BK290 := n9_; have BK318 := n10_; have HB := n11_; clear n0_ n1_ n2_ n3_ n4_ n5_ n6_ n7_ n8_ n9_ n10_ n11_; (try clear hb); (try clear hb2); (try clear hk); (try clear hi); (try clear ho0)
               refine hK.out _ _ ⟨bc_ BK256 0, bc_ BK256 1, bc_ BK256 2, bc_ BK257 0, bc_ BK257 1, bc_ BK257 2⟩ (fun hHeld => ?_)
               clear hK K
               refine norm_ (a' := ?_) ?_ ?_
               rotate_left
               ·show Act.put _ (some 94) _ = _
                simp only [Act.put, sia_, scz_, scs_, i64_w, i32_w]
                rfl
               refine pure_ (i := 6) (N := some 88) (v := ?_) (a' := ?_) #[true, true, true, true, true, true, true, false, false, true, false, false] rfl rfl (any_of HT_.out (by kernel_rfl)) (fun _ _ _ h => h) (Or.inl ⟨by rfl, ?_⟩) ?_ ?_
               rotate_left
               ·intro w'
                go_simp
                with_reducible rfl
               rotate_left
               ·simp only [Act.put, sia_, scz_, scs_, i64_w, i32_w]
                rfl
               refine pure_ (i := 7) (N := some 95) (v := ?_) (a' := ?_) #[true, true, true, true, true, true, true, true, false, true, false, false] rfl rfl (any_of HT_.out (by kernel_rfl)) (fun _ _ _ h => h) (Or.inl ⟨by rfl, ?_⟩) ?_ ?_
               rotate_left
               ·intro w'
                go_simp
                with_reducible rfl
               rotate_left
               ·simp only [Act.put, sia_, scz_, scs_, i64_w, i32_w]
                rfl
               refine pure_ (i := 8) (N := some 96) (v := ?_) (a' := ?_) #[true, true, true, true, true, true, true, true, true, true, false, false] rfl rfl (any_of HT_.out (by kernel_rfl)) (fun _ _ _ h => h) (Or.inl ⟨by rfl, ?_⟩) ?_ ?_
               rotate_left
               ·intro w'
                go_simp
                with_reducible rfl
               rotate_left
               ·simp only [Act.put, sia_, scz_, scs_, i64_w, i32_w]
                rfl
               exact norm_ (by simp only [putAll, Act.put, sia_, scz_, scs_]) (hCont (.slice Ao126 t306.length co126, v315, gb318) _ ⟨hHeld, (by (with_reducible repeat (first | apply Kd.R_alloc | apply Kd.R_drewN | apply Kd.R_drew)); exact Kd.R_mono HO308.out (fun _ hk => ⟨hk.2, ⟨hk.1.1.1.2, ⟨hk.1.1.2, hk.1.2⟩⟩⟩)), (by (with_reducible repeat (first | apply Kd.R_alloc | apply Kd.R_drewN | apply Kd.R_drew)); exact Kd.R_mono HO316.out (fun _ hk => ⟨hk.2, ⟨hk.1.1.1.2, ⟨hk.1.1.2, hk.1.2⟩⟩⟩)), (by (with_reducible repeat (first | apply Kd.R_alloc | apply Kd.R_drewN | apply Kd.R_drew)); exact Kd.R_mono HO_275002.out (fun _ hk => ⟨hk.1.2, ⟨hk.2, ⟨hk.1.1.1, hk.1.1.2⟩⟩⟩)), (by (with_reducible repeat (first | apply Kd.R_alloc | apply Kd.R_drewN | apply Kd.R_drew)); exact Kd.R_mono HO_281002.out (fun _ hk => ⟨hk.1.2, ⟨hk.2, ⟨hk.1.1.1, hk.1.1.2⟩⟩⟩)), (by (with_reducible repeat (first | apply Kd.R_alloc | apply Kd.R_drewN | apply Kd.R_drew)); exact Kd.R_mono HO_291002.out (fun _ hk => ⟨hk.1.2, ⟨hk.2, ⟨hk.1.1.1, hk.1.1.2⟩⟩⟩)), (bp_ BK256), (bp_ BK257), (bp_ BK274), (bp_ BK280), (bp_ BK290), (bp_ BK318), GW318.out, GE318.out, NB256_318.out, NB318_256.out, NB257_318.out, NB318_257.out, NB274_318.out, NB318_274.out, NB280_318.out, NB318_280.out, NB290_318.out, NB318_290.out, (bw_ HB)⟩)
             ·skip
              refine box_step ?hg (N := 16) ?hd (cs := #[.int .i64 0, .int .i64 0, .slice none 0 0]) (t := 31) ?hr ?_; (case hd => rfl); (case hg => rfl); (case hr => first | (go_simp; done) | (go_simp; rfl))
              intro gb318 hg w123 hbox hb
              have n0_ := rb_ HO_275002 hb
              have n1_ := rb_ HO_281002 hb
              have n2_ := rb_ HO_291002 hb
              have n3_ := bb_ BK256 hb; have n4_ := bb_ BK257 hb; have n5_ := bb_ BK274 hb; have n6_ := bb_ BK280 hb; have n7_ := bb_ BK290 hb
              have n8_ := bs_ HB hb
              have n9_ := mk_ (hbox)
              have n10_ : Aside0 (w.heap.size ≤ gb318) := bz_ hg
              have n11_ : Aside0 (w.heap.size ≤ gb318) := bz_ hg
              have n12_ : Aside0 (gb256 ≠ gb318) := bl_ BK256 hg
              have n13_ : Aside0 (gb318 ≠ gb256) := bg_ BK256 hg
              have n14_ : Aside0 (gb257 ≠ gb318) := bl_ BK257 hg
              have n15_ : Aside0 (gb318 ≠ gb257) := bg_ BK257 hg
              have n16_ : Aside0 (gb274 ≠ gb318) := bl_ BK274 hg
              have n17_ : Aside0 (gb318 ≠ gb274) := bg_ BK274 hg
              have n18_ : Aside0 (gb280 ≠ gb318) := bl_ BK280 hg
              have n19_ : Aside0 (gb318 ≠ gb280) := bg_ BK280 hg
              have n20_ : Aside0 (gb290 ≠ gb318) := bl_ BK290 hg
              have n21_ : Aside0 (gb318 ≠ gb290) := bg_ BK290 hg
              clear HO_275002; clear HO_281002; clear HO_291002; clear BK256; clear BK257; clear BK274; clear BK280; clear BK290; clear HB; have HO_275002 := n0_; have HO_281002 := n1_; have HO_291002 := n2_; have BK256 := n3_; have BK257 := n4_; have BK274 := n5_; have BK280 := n6_; have BK290 := n7_; have HB := n8_; have BK318 := n9_; have GW318 := n10_; have GE318 := n11_; have NB256_318 := n12_; have NB318_256 := n13_; have NB257_318 := n14_; have NB318_257 := n15_; have NB274_318 := n16_; have NB318_274 := n17_; have NB280_318 := n18_; have NB318_280 := n19_; have NB290_318 := n20_; have NB318_290 := n21_; clear n0_ n1_ n2_ n3_ n4_ n5_ n6_ n7_ n8_ n9_ n10_ n11_ n12_ n13_ n14_ n15_ n16_ n17_ n18_ n19_ n20_ n21_; clear hb hbox hg
              refine hK.out _ _ ⟨bc_ BK256 0, bc_ BK256 1, bc_ BK256 2, bc_ BK257 0, bc_ BK257 1, bc_ BK257 2⟩ (fun hHeld => ?_)
              clear hK K
              refine norm_ (a' := ?_) ?_ ?_
              rotate_left
              ·show Act.put _ (some 16) _ = _
               simp only [Act.put, sia_, scz_, scs_, i64_w, i32_w]
               rfl
              refine one_ (i := 1) (N := some 90) #[true, true, true, true, false, false, false, false, false, true, false, false] rfl rfl (one_of HT_.out (by kernel_rfl)) (by decide) (fun K hK => ?_)
              refine goes_ Try.func16 (by kernel_rfl) rfl #[.agg #[.int .i64 a0_0, .int .i64 a0_1, .slice A0_2 l0_2.length c0_2]] (by rfl) rfl rfl (by (try simp only [List.map_toArray, List.map_cons, List.map_nil]); first | done | rfl | (simp only [List.length_drop, List.length_take]; rfl)) ?_
              with_reducible refine (laws_toLog.calls kj80 a0_0 a0_1 _ _ l0_2 t304 t305 t306 _ ?side1 ?side2 A110.out).mono ?_
              (case side1 => repeat (first | exact (Kd.C_below HR0_2.out HB.out) | (with_reducible refine Kd.C_alloc ?_ _) | (with_reducible refine Kd.C_drewN ?_ _) | (with_reducible refine Kd.C_drew ?_)))
              (case side2 => exact HC0_2.out)
              rintro e w124 ⟨v307, rfl, ho0, hb⟩
              refine ⟨_, rfl, ?_⟩
              have n0_ := mk_ (Kd.R_elder' (rp_ HO_275002) (Kd.R_base ho0) hb)
              have n1_ := mk_ (Kd.R_elder' (rp_ HO_281002) (Kd.R_base ho0) hb)
              have n2_ := mk_ (Kd.R_elder' (rp_ HO_291002) (Kd.R_base ho0) hb)
              have n3_ := mk_ (Kd.R_lower (Kd.R_new' (Kd.R_new' (Kd.R_new' ho0 (Kd.R_lt (rp_ HO_275002))) (Kd.R_lt (rp_ HO_281002))) (Kd.R_lt (rp_ HO_291002))) (below_size (bw_ HB)))
              have n4_ := bb_ BK256 hb; have n5_ := bb_ BK257 hb; have n6_ := bb_ BK274 hb; have n7_ := bb_ BK280 hb; have n8_ := bb_ BK290 hb; have n9_ := bb_ BK318 hb
              have n10_ := bs_ HB hb
              clear HO_275002; clear HO_281002; clear HO_291002; clear BK256; clear BK257; clear BK274; clear BK280; clear BK290; clear BK318; clear HB; have HO_275002 := n0_; have HO_281002 := n1_; have HO_291002 := n2_; have HO308 := n3_; have BK256 := n4_; have BK257 := n5_; have BK274 := n6_; have BK280 := n7_; have BK290 := n8_; have BK318 := n9_; have HB := n10_; clear n0_ n1_ n2_ n3_ n4_ n5_ n6_ n7_ n8_ n9_ n10_; (try clear hb); (try clear hb2); (try clear hk); (try clear hi); (try clear ho0)
              refine hK.out _ _ ⟨bc_ BK256 0, bc_ BK256 1, bc_ BK256 2, bc_ BK257 0, bc_ BK257 1, bc_ BK257 2⟩ (fun hHeld => ?_)
              clear hK K
              refine norm_ (a' := ?_) ?_ ?_
              rotate_left
              ·show Act.put _ (some 90) _ = _
               simp only [Act.put, sia_, scz_, scs_, i64_w, i32_w]
               rfl
              refine one_ (i := 4) (N := some 93) #[true, true, true, true, true, false, false, false, false, true, false, false] rfl rfl (one_of HT_.out (by kernel_rfl)) (by decide) (fun K hK => ?_)
              refine goes_ Try.func17 (by kernel_rfl) rfl #[.agg #[.int .i64 a2_0, .int .i64 a2_1, .string a2_2]] (by rfl) rfl rfl (by (try simp only [List.map_toArray, List.map_cons, List.map_nil]); first | done | rfl | (simp only [List.length_drop, List.length_take]; rfl)) ?_
              with_reducible refine (laws_toEntry.calls a2_0 a2_1 a2_2 t309 t310 t311 _ A111.out).mono ?_
              rintro e w125 ⟨rfl, hb⟩
              refine ⟨_, rfl, ?_⟩
              have n0_ := rb_ HO_275002 hb
              have n1_ := rb_ HO_281002 hb
              have n2_ := rb_ HO_291002 hb
              have n3_ := rb_ HO308 hb
              have n4_ := bb_ BK256 hb; have n5_ := bb_ BK257 hb; have n6_ := bb_ BK274 hb; have n7_ := bb_ BK280 hb; have n8_ := bb_ BK290 hb; have n9_ := bb_ BK318 hb
              have n10_ := bs_ HB hb
              clear HO_275002; clear HO_281002; clear HO_291002; clear HO308; clear BK256; clear BK257; clear BK274; clear BK280; clear BK290; clear BK318; clear HB; have HO_275002 := n0_; have HO_281002 := n1_; have HO_291002 := n2_; have HO308 := n3_; have BK256 := n4_; have BK257 := n5_; have BK274 := n6_; have BK280 := n7_; have BK290 := n8_; have BK318 := n9_; have HB := n10_; clear n0_ n1_ n2_ n3_ n4_ n5_ n6_ n7_ n8_ n9_ n10_; (try clear hb); (try clear hb2); (try clear hk); (try clear hi)
              obtain ⟨Ao126, co126, eo126⟩ := Kd.R_slice HO308.out
              (first | subst eo126 | (injection eo126 with f1_ f2_ f3_; have f4_ := f1_.symm; have f5_ := f3_.symm; clear f1_ f2_ f3_; subst f4_; subst f5_))
              refine hK.out _ _ ⟨bc_ BK256 0, bc_ BK256 1, bc_ BK256 2, bc_ BK257 0, bc_ BK257 1, bc_ BK257 2⟩ (fun hHeld => ?_)
              clear hK K
              refine norm_ (a' := ?_) ?_ ?_
              rotate_left
              ·show Act.put _ (some 93) _ = _
               simp only [Act.put, sia_, scz_, scs_, i64_w, i32_w]
               rfl
              refine one_ (i := 5) (N := some 94) #[true, true, true, true, true, true, false, false, false, true, false, false] rfl rfl (one_of HT_.out (by kernel_rfl)) (by decide) (fun K hK => ?_)
              refine goes_ Try.func18 (by kernel_rfl) rfl #[.agg #[.int .i64 t304, .int .i64 t305, .slice Ao126 t306.length co126], .int .i64 a1, .agg #[.int .i64 t309, .int .i64 t310, .string t311]] (by rfl) rfl rfl (by (try simp only [List.map_toArray, List.map_cons, List.map_nil]); first | done | rfl | (simp only [List.length_drop, List.length_take]; rfl)) ?_
              with_reducible refine (impl_LogPut.calls kj80 t304 t305 _ _ t306 a1 t309 t310 t311 t312 t313 t314 t317 _ ?side1 ?side2 A112.out).mono ?_
              (case side1 => repeat (first | exact (Kd.R_reads' HO308.out).2.2 | (with_reducible refine Kd.C_alloc ?_ _) | (with_reducible refine Kd.C_drewN ?_ _) | (with_reducible refine Kd.C_drew ?_)))
              (case side2 => exact (Kd.R_reads' HO308.out).2.1)
              rintro e w127 ⟨v315, rfl, ho0, hb⟩
              refine ⟨_, rfl, ?_⟩
              have n0_ := mk_ (Kd.R_elder' (rp_ HO_275002) (Kd.R_base ho0) hb)
              have n1_ := mk_ (Kd.R_elder' (rp_ HO_281002) (Kd.R_base ho0) hb)
              have n2_ := mk_ (Kd.R_elder' (rp_ HO_291002) (Kd.R_base ho0) hb)
              have n3_ := mk_ (Kd.R_elder' (rp_ HO308) (Kd.R_base ho0) hb)
              have n4_ := mk_ (Kd.R_lower (Kd.R_new' (Kd.R_new' (Kd.R_new' (Kd.R_new' ho0 (Kd.R_lt (rp_ HO_275002))) (Kd.R_lt (rp_ HO_281002))) (Kd.R_lt (rp_ HO_291002))) (Kd.R_lt (rp_ HO308))) (below_size (bw_ HB)))
              have n5_ := bb_ BK256 hb; have n6_ := bb_ BK257 hb; have n7_ := bb_ BK274 hb; have n8_ := bb_ BK280 hb; have n9_ := bb_ BK290 hb; have n10_ := bb_ BK318 hb
              have n11_ := bs_ HB hb
              clear HO_275002; clear HO_281002; clear HO_291002; clear HO308; clear BK256; clear BK257; clear BK274; clear BK280; clear BK290; clear BK318; clear HB; have HO_275002 := n0_; have HO_281002 := n1_; have HO_291002 := n2_; have HO308 := n3_; have HO316 := n4_; have BK256 := n5_; have BK257 := n6_; have BK274 := n7_; have BK280 := n8_; have BK290 := n9_; have BK318 := n10_; have HB := n11_; clear n0_ n1_ n2_ n3_ n4_ n5_ n6_ n7_ n8_ n9_ n10_ n11_; (try clear hb); (try clear hb2); (try clear hk); (try clear hi); (try clear ho0)
              refine hK.out _ _ ⟨bc_ BK256 0, bc_ BK256 1, bc_ BK256 2, bc_ BK257 0, bc_ BK257 1, bc_ BK257 2⟩ (fun hHeld => ?_)
              clear hK K
              refine norm_ (a' := ?_) ?_ ?_
              rotate_left
              ·show Act.put _ (some 94) _ = _
               simp only [Act.put, sia_, scz_, scs_, i64_w, i32_w]
               rfl
              refine pure_ (i := 6) (N := some 88) (v := ?_) (a' := ?_) #[true, true, true, true, true, true, true, false, false, true, false, false] rfl rfl (any_of HT_.out (by kernel_rfl)) (fun _ _ _ h => h) (Or.inl ⟨by rfl, ?_⟩) ?_ ?_
              rotate_left
              ·intro w'
               go_simp
               with_reducible rfl
              rotate_left
              ·simp only [Act.put, sia_, scz_, scs_, i64_w, i32_w]
               rfl
              refine pure_ (i := 7) (N := some 95) (v := ?_) (a' := ?_) #[true, true, true, true, true, true, true, true, false, true, false, false] rfl rfl (any_of HT_.out (by kernel_rfl)) (fun _ _ _ h => h) (Or.inl ⟨by rfl, ?_⟩) ?_ ?_
              rotate_left
              ·intro w'
               go_simp
               with_reducible rfl
              rotate_left
              ·simp only [Act.put, sia_, scz_, scs_, i64_w, i32_w]
               rfl
              refine pure_ (i := 8) (N := some 96) (v := ?_) (a' := ?_) #[true, true, true, true, true, true, true, true, true, true, false, false] rfl rfl (any_of HT_.out (by kernel_rfl)) (fun _ _ _ h => h) (Or.inl ⟨by rfl, ?_⟩) ?_ ?_
              rotate_left
              ·intro w'
               go_simp
               with_reducible rfl
              rotate_left
              ·simp only [Act.put, sia_, scz_, scs_, i64_w, i32_w]
               rfl
              exact norm_ (by simp only [putAll, Act.put, sia_, scz_, scs_]) (hCont (.slice Ao126 t306.length co126, v315, gb318) _ ⟨hHeld, (by (with_reducible repeat (first | apply Kd.R_alloc | apply Kd.R_drewN | apply Kd.R_drew)); exact Kd.R_mono HO308.out (fun _ hk => ⟨hk.2, ⟨hk.1.1.1.2, ⟨hk.1.1.2, hk.1.2⟩⟩⟩)), (by (with_reducible repeat (first | apply Kd.R_alloc | apply Kd.R_drewN | apply Kd.R_drew)); exact Kd.R_mono HO316.out (fun _ hk => ⟨hk.2, ⟨hk.1.1.1.2, ⟨hk.1.1.2, hk.1.2⟩⟩⟩)), (by (with_reducible repeat (first | apply Kd.R_alloc | apply Kd.R_drewN | apply Kd.R_drew)); exact Kd.R_mono HO_275002.out (fun _ hk => ⟨hk.1.2, ⟨hk.2, ⟨hk.1.1.1, hk.1.1.2⟩⟩⟩)), (by (with_reducible repeat (first | apply Kd.R_alloc | apply Kd.R_drewN | apply Kd.R_drew)); exact Kd.R_mono HO_281002.out (fun _ hk => ⟨hk.1.2, ⟨hk.2, ⟨hk.1.1.1, hk.1.1.2⟩⟩⟩)), (by (with_reducible repeat (first | apply Kd.R_alloc | apply Kd.R_drewN | apply Kd.R_drew)); exact Kd.R_mono HO_291002.out (fun _ hk => ⟨hk.1.2, ⟨hk.2, ⟨hk.1.1.1, hk.1.1.2⟩⟩⟩)), (bp_ BK256), (bp_ BK257), (bp_ BK274), (bp_ BK280), (bp_ BK290), (bp_ BK318), GW318.out, GE318.out, NB256_318.out, NB318_256.out, NB257_318.out, NB318_257.out, NB274_318.out, NB318_274.out, NB280_318.out, NB318_280.out, NB290_318.out, NB318_290.out, (bw_ HB)⟩)
            rintro ⟨v307, v315, gb318⟩ w128 ⟨hS_, h0_, h1_, h2_, h3_, h4_, h5_, h6_, h7_, h8_, h9_, h10_, h11_, h12_, h13_, h14_, h15_, h16_, h17_, h18_, h19_, h20_, h21_, h22_, h23_⟩
            have n0_ : Aside0 (Kd.R k35 35 w128 w.heap.size (fun k_ => some k_ ≠ (v315 : Value).ownBlock ∧ some k_ ≠ (.slice Ao43 t270.length co43 : Value).ownBlock ∧ some k_ ≠ (.slice Ao53 t299.length co53 : Value).ownBlock ∧ some k_ ≠ (.slice Ao62 t286.length co62 : Value).ownBlock) v307 t306) := ⟨h0_⟩
            have n1_ : Aside0 (Kd.R k35 35 w128 w.heap.size (fun k_ => some k_ ≠ (v307 : Value).ownBlock ∧ some k_ ≠ (.slice Ao43 t270.length co43 : Value).ownBlock ∧ some k_ ≠ (.slice Ao53 t299.length co53 : Value).ownBlock ∧ some k_ ≠ (.slice Ao62 t286.length co62 : Value).ownBlock) v315 t314) := ⟨h1_⟩
            have n2_ : Aside0 (Kd.R k35 35 w128 w.heap.size (fun k_ => some k_ ≠ (v307 : Value).ownBlock ∧ some k_ ≠ (v315 : Value).ownBlock ∧ some k_ ≠ (.slice Ao53 t299.length co53 : Value).ownBlock ∧ some k_ ≠ (.slice Ao62 t286.length co62 : Value).ownBlock) (.slice Ao43 t270.length co43) t270) := ⟨h2_⟩
            have n3_ : Aside0 (Kd.R k35 35 w128 w.heap.size (fun k_ => some k_ ≠ (v307 : Value).ownBlock ∧ some k_ ≠ (v315 : Value).ownBlock ∧ some k_ ≠ (.slice Ao43 t270.length co43 : Value).ownBlock ∧ some k_ ≠ (.slice Ao62 t286.length co62 : Value).ownBlock) (.slice Ao53 t299.length co53) t299) := ⟨h3_⟩
            have n4_ : Aside0 (Kd.R k35 35 w128 w.heap.size (fun k_ => some k_ ≠ (v307 : Value).ownBlock ∧ some k_ ≠ (v315 : Value).ownBlock ∧ some k_ ≠ (.slice Ao43 t270.length co43 : Value).ownBlock ∧ some k_ ≠ (.slice Ao53 t299.length co53 : Value).ownBlock) (.slice Ao62 t286.length co62) t302) := ⟨h4_⟩
            have n5_ : Aside0 (w128.heap[gb256]? = some (.cells #[.int .i64 a0_0, .int .i64 a0_1, .slice A0_2 l0_2.length c0_2] 24 (0, 0))) := ⟨h5_⟩
            have n6_ : Aside0 (w128.heap[gb257]? = some (.cells #[.int .i64 a2_0, .int .i64 a2_1, .string a2_2] 26 (0, 0))) := ⟨h6_⟩
            have n7_ : Aside0 (w128.heap[gb274]? = some (.cells #[.int .i64 t268, .int .i64 t269, .slice Ao43 t270.length co43] 31 (0, 0))) := ⟨h7_⟩
            have n8_ : Aside0 (w128.heap[gb280]? = some (.cells #[.int .i64 t275, .int .i64 t276, .slice Ao53 t299.length co53] 31 (0, 0))) := ⟨h8_⟩
            have n9_ : Aside0 (w128.heap[gb290]? = some (.cells #[.int .i64 t284, .int .i64 t285, .slice Ao62 t286.length co62] 31 (0, 0))) := ⟨h9_⟩
            have n10_ : Aside0 (w128.heap[gb318]? = some (.cells #[.int .i64 0, .int .i64 0, .slice none 0 0] 31 (0, 0))) := ⟨h10_⟩
            have n11_ : Aside0 (w.heap.size ≤ gb318) := ⟨h11_⟩
            have n12_ : Aside0 (w.heap.size ≤ gb318) := ⟨h12_⟩
            have n13_ : Aside0 (gb256 ≠ gb318) := ⟨h13_⟩
            have n14_ : Aside0 (gb318 ≠ gb256) := ⟨h14_⟩
            have n15_ : Aside0 (gb257 ≠ gb318) := ⟨h15_⟩
            have n16_ : Aside0 (gb318 ≠ gb257) := ⟨h16_⟩
            have n17_ : Aside0 (gb274 ≠ gb318) := ⟨h17_⟩
            have n18_ : Aside0 (gb318 ≠ gb274) := ⟨h18_⟩
            have n19_ : Aside0 (gb280 ≠ gb318) := ⟨h19_⟩
            have n20_ : Aside0 (gb318 ≠ gb280) := ⟨h20_⟩
            have n21_ : Aside0 (gb290 ≠ gb318) := ⟨h21_⟩
            have n22_ : Aside0 (gb318 ≠ gb290) := ⟨h22_⟩
            have n23_ : Aside0 (Below w.heap.size w w128) := ⟨h23_⟩
            clear HO_275002; clear HO_281002; clear HO_291002; clear BK256; clear BK257; clear BK274; clear BK280; clear BK290; clear HB; clear h0_ h1_ h2_ h3_ h4_ h5_ h6_ h7_ h8_ h9_ h10_ h11_ h12_ h13_ h14_ h15_ h16_ h17_ h18_ h19_ h20_ h21_ h22_ h23_; have HO308 := n0_; have HO316 := n1_; have HO_275002 := n2_; have HO_281002 := n3_; have HO_291002 := n4_; have BK256 := n5_; have BK257 := n6_; have BK274 := n7_; have BK280 := n8_; have BK290 := n9_; have BK318 := n10_; have GW318 := n11_; have GE318 := n12_; have NB256_318 := n13_; have NB318_256 := n14_; have NB257_318 := n15_; have NB318_257 := n16_; have NB274_318 := n17_; have NB318_274 := n18_; have NB280_318 := n19_; have NB318_280 := n20_; have NB290_318 := n21_; have NB318_290 := n22_; have HB := n23_; clear n0_ n1_ n2_ n3_ n4_ n5_ n6_ n7_ n8_ n9_ n10_ n11_ n12_ n13_ n14_ n15_ n16_ n17_ n18_ n19_ n20_ n21_ n22_ n23_
            have hHeld : w128.cell? ⟨gb256, 0, none⟩ = some (.int .i64 a0_0) ∧ w128.cell? ⟨gb256, 1, none⟩ = some (.int .i64 a0_1) ∧ w128.cell? ⟨gb256, 2, none⟩ = some (.slice A0_2 l0_2.length c0_2) ∧ w128.cell? ⟨gb257, 0, none⟩ = some (.int .i64 a2_0) ∧ w128.cell? ⟨gb257, 1, none⟩ = some (.int .i64 a2_1) ∧ w128.cell? ⟨gb257, 2, none⟩ = some (.string a2_2) := hS_
            obtain ⟨Ao131, co131, eo131⟩ := Kd.R_slice HO316.out
            (first | subst eo131 | (injection eo131 with f1_ f2_ f3_; have f4_ := f1_.symm; have f5_ := f3_.symm; clear f1_ f2_ f3_; subst f4_; subst f5_))
            refine norm_ (a' := ?_) ?_ ?_
            rotate_left
            ·simp only [putAll, Act.put, sia_, scz_, scs_]
             rfl
            refine one_ (i := 10) (N := none) #[true, true, true, true, true, true, true, true, true, true, true, false] rfl rfl (one_of HT_.out (by kernel_rfl)) (by decide) (fun K hK => ?_)
            have hs129 : w128.cell? ⟨gb318, 0, none⟩ = some (.int .i64 0) := bc_ BK318 0
            have hfs129 := blk_frozen BK318.out 0
            have hns129_0 := NB256_318.out
            have hns129_1 := NB257_318.out
            have hns129_2 := NB274_318.out
            have hns129_3 := NB280_318.out
            have hns129_4 := NB290_318.out
            have hms129_0 := NB318_256.out
            have hms129_1 := NB318_257.out
            have hms129_2 := NB318_274.out
            have hms129_3 := NB318_280.out
            have hms129_4 := NB318_290.out
            have hs130 : w128.cell? ⟨gb318, 1, none⟩ = some (.int .i64 0) := bc_ BK318 1
            have hfs130 := blk_frozen BK318.out 1
            have hns130_0 := NB256_318.out
            have hns130_1 := NB257_318.out
            have hns130_2 := NB274_318.out
            have hns130_3 := NB280_318.out
            have hns130_4 := NB290_318.out
            have hms130_0 := NB318_256.out
            have hms130_1 := NB318_257.out
            have hms130_2 := NB318_274.out
            have hms130_3 := NB318_280.out
            have hms130_4 := NB318_290.out
            have hs132 : w128.cell? ⟨gb318, 2, none⟩ = some (.slice none 0 0) := bc_ BK318 2
            have hfs132 := blk_frozen BK318.out 2
            have hns132_0 := NB256_318.out
            have hns132_1 := NB257_318.out
            have hns132_2 := NB274_318.out
            have hns132_3 := NB280_318.out
            have hns132_4 := NB290_318.out
            have hms132_0 := NB318_256.out
            have hms132_1 := NB318_257.out
            have hms132_2 := NB318_274.out
            have hms132_3 := NB318_280.out
            have hms132_4 := NB318_290.out
            refine skip_ (w1 := ?_) (by rfl) rfl ?_ ?_
            rotate_left
            ·go_simp
             rfl
            refine hK.out _ _ ⟨((cell_far (p := ⟨gb318, _, none⟩) NB256_318.out _).trans (((cell_far (p := ⟨gb318, _, none⟩) NB256_318.out _).trans (((cell_far (p := ⟨gb318, _, none⟩) NB256_318.out _).trans (hHeld.1)))))), ((cell_far (p := ⟨gb318, _, none⟩) NB256_318.out _).trans (((cell_far (p := ⟨gb318, _, none⟩) NB256_318.out _).trans (((cell_far (p := ⟨gb318, _, none⟩) NB256_318.out _).trans (hHeld.2.1)))))), ((cell_far (p := ⟨gb318, _, none⟩) NB256_318.out _).trans (((cell_far (p := ⟨gb318, _, none⟩) NB256_318.out _).trans (((cell_far (p := ⟨gb318, _, none⟩) NB256_318.out _).trans (hHeld.2.2.1)))))), ((cell_far (p := ⟨gb318, _, none⟩) NB257_318.out _).trans (((cell_far (p := ⟨gb318, _, none⟩) NB257_318.out _).trans (((cell_far (p := ⟨gb318, _, none⟩) NB257_318.out _).trans (hHeld.2.2.2.1)))))), ((cell_far (p := ⟨gb318, _, none⟩) NB257_318.out _).trans (((cell_far (p := ⟨gb318, _, none⟩) NB257_318.out _).trans (((cell_far (p := ⟨gb318, _, none⟩) NB257_318.out _).trans (hHeld.2.2.2.2.1)))))), ((cell_far (p := ⟨gb318, _, none⟩) NB257_318.out _).trans (((cell_far (p := ⟨gb318, _, none⟩) NB257_318.out _).trans (((cell_far (p := ⟨gb318, _, none⟩) NB257_318.out _).trans (hHeld.2.2.2.2.2))))))⟩ (fun hHeld => ?_)
            clear hK K
            refine pure_ (i := 11) (N := some 17) (v := ?_) (a' := ?_) #[true, true, true, true, true, true, true, true, true, true, true, true] rfl rfl (any_of HT_.out (by kernel_rfl)) (fun _ _ _ h => h) (Or.inl ⟨by rfl, ?_⟩) ?_ ?_
            rotate_left
            ·intro w'
             go_simp
             with_reducible rfl
            rotate_left
            ·simp only [Act.put, sia_, scz_, scs_, i64_w, i32_w]
             rfl
            refine done_ (done_of HT_.out (by kernel_rfl)) ?_
            go_upto_region 28 with (fail)
            go_cut [105] (fun v105 wc => ∃ (kq : Nat) (x105_112 : Bool), v105 = .bool x105_112 ∧ Aside0 (laws_FnExactLogPut.j2 kq t301 x105_112 t284 t285 t302 = some r) ∧ Aside0 (kq ≤ kj80) ∧ Aside0 (Kd.R k35 35 wc w.heap.size (fun k_ => some k_ ≠ ((.slice Ao53 t299.length co53) : Value).ownBlock ∧ some k_ ≠ ((.slice Ao62 t286.length co62) : Value).ownBlock ∧ some k_ ≠ ((.slice Ao131 t314.length co131) : Value).ownBlock) (.slice Ao43 t270.length co43) t270) ∧ Aside0 (Kd.R k35 35 wc w.heap.size (fun k_ => some k_ ≠ ((.slice Ao43 t270.length co43) : Value).ownBlock ∧ some k_ ≠ ((.slice Ao62 t286.length co62) : Value).ownBlock ∧ some k_ ≠ ((.slice Ao131 t314.length co131) : Value).ownBlock) (.slice Ao53 t299.length co53) t299) ∧ Aside0 (Kd.R k35 35 wc w.heap.size (fun k_ => some k_ ≠ ((.slice Ao43 t270.length co43) : Value).ownBlock ∧ some k_ ≠ ((.slice Ao53 t299.length co53) : Value).ownBlock ∧ some k_ ≠ ((.slice Ao131 t314.length co131) : Value).ownBlock) (.slice Ao62 t286.length co62) t302) ∧ Aside0 (Kd.R k35 35 wc w.heap.size (fun k_ => some k_ ≠ ((.slice Ao43 t270.length co43) : Value).ownBlock ∧ some k_ ≠ ((.slice Ao53 t299.length co53) : Value).ownBlock ∧ some k_ ≠ ((.slice Ao62 t286.length co62) : Value).ownBlock) (.slice Ao131 t314.length co131) t314) ∧ Aside0 (wc.heap[gb256]? = some (.cells #[.int .i64 a0_0, .int .i64 a0_1, (.slice A0_2 l0_2.length c0_2)] 24 (0, 0))) ∧ Aside0 (wc.heap[gb257]? = some (.cells #[.int .i64 a2_0, .int .i64 a2_1, .string a2_2] 26 (0, 0))) ∧ Aside0 (wc.heap[gb274]? = some (.cells #[.int .i64 t268, .int .i64 t269, (.slice Ao43 t270.length co43)] 31 (0, 0))) ∧ Aside0 (wc.heap[gb280]? = some (.cells #[.int .i64 t275, .int .i64 t276, (.slice Ao53 t299.length co53)] 31 (0, 0))) ∧ Aside0 (wc.heap[gb290]? = some (.cells #[.int .i64 t284, .int .i64 t285, (.slice Ao62 t286.length co62)] 31 (0, 0))) ∧ Aside0 (wc.heap[gb318]? = some (.cells #[.int .i64 t312, .int .i64 t313, (.slice Ao131 t314.length co131)] 31 (0, 0))) ∧ Aside0 (Below w.heap.size w wc))
            case first =>
             have H := HC113.out
             clear HC113
             replace H := Option.bind_eq_some_iff.mp H
             obtain ⟨t319, A1330, H⟩ := H
             replace H : (if t319 = true then (laws_FnExactLogPut.j2 kj80 t301 (t317 != t273) t284 t285 t302) else (none)) = some r := H
             have A133 := Aside0.mk A1330
             clear A1330
             by_cases c134 : t319 = true
             ·subst c134
              have H1 : (laws_FnExactLogPut.j2 kj80 t301 (t317 != t273) t284 t285 t302) = some r := by rw [if_pos rfl] at H; exact H
              clear H
              have H := H1
              clear H1
              have H' := Aside0.mk H
              clear H
              have hnb135 := NB318_256.out
              have hnc135 := NB256_318.out
              have hnb136 := NB318_257.out
              have hnc136 := NB257_318.out
              have hnb137 := NB318_274.out
              have hnc137 := NB274_318.out
              have hnb138 := NB318_280.out
              have hnc138 := NB280_318.out
              have hnb139 := NB318_290.out
              have hnc139 := NB290_318.out
              have hcz140_0 : w128.cell? ⟨gb318, 0, none⟩ = some (.int .i64 0) := bc_ BK318 0
              have hcz140_1 : w128.cell? ⟨gb318, 1, none⟩ = some (.int .i64 0) := bc_ BK318 1
              have hcz140_2 : w128.cell? ⟨gb318, 2, none⟩ = some (.slice none 0 0) := bc_ BK318 2
              have hfz140_0 := blk_frozen BK318.out 0
              have hfz140_1 := blk_frozen BK318.out 1
              have hfz140_2 := blk_frozen BK318.out 2
              have hnb141 := NB274_256.out
              have hnc141 := NB256_274.out
              have hnb142 := NB274_257.out
              have hnc142 := NB257_274.out
              have hnb143 := NB274_280.out
              have hnc143 := NB280_274.out
              have hnb144 := NB274_290.out
              have hnc144 := NB290_274.out
              have hcz145_0 : w128.cell? ⟨gb274, 0, none⟩ = some (.int .i64 t268) := bc_ BK274 0
              have hcz145_1 : w128.cell? ⟨gb274, 1, none⟩ = some (.int .i64 t269) := bc_ BK274 1
              have hcz145_2 : w128.cell? ⟨gb274, 2, none⟩ = some (.slice Ao43 t270.length co43) := bc_ BK274 2
              have hfz145_0 := blk_frozen BK274.out 0
              have hfz145_1 := blk_frozen BK274.out 1
              have hfz145_2 := blk_frozen BK274.out 2
              go_wp2_with (first | ((with_reducible refine gate_callee (f := 19) rfl ?_); refine goesL_ (some 99) rfl rfl Try.func19 (by kernel_rfl) rfl #[.agg #[.int .i64 t312, .int .i64 t313, .slice Ao131 t314.length co131], .agg #[.int .i64 t268, .int .i64 t269, .slice Ao43 t270.length co43]] rfl (by (try simp only [List.map_toArray, List.map_cons, List.map_nil]); first | done | rfl | (simp only [List.length_drop, List.length_take]; rfl)) ?_; (with_reducible refine (laws_eqLog.calls kj80 t312 t313 _ _ t314 t268 t269 _ _ t270 true _ ?side1 ?side2 ?side3 ?side4 A133.out).mono ?_); (case side1 => refine (Kd.R_reads' (e := 35) (base := w.heap.size) (ok := fun k_ => (some k_ ≠ (v307 : Value).ownBlock ∧ (some k_ ≠ (.slice Ao43 t270.length co43 : Value).ownBlock ∧ (some k_ ≠ (.slice Ao53 t299.length co53 : Value).ownBlock ∧ some k_ ≠ (.slice Ao62 t286.length co62 : Value).ownBlock)))) (n := t314.length) (c := co131) ?_).2.2; exact (by (with_reducible repeat (first | apply Kd.R_alloc | apply Kd.R_drewN | apply Kd.R_drew)); exact (Kd.R_mono (Kd.R_far (p := ⟨gb318, 2, none⟩) (Kd.R_far (p := ⟨gb318, 1, none⟩) (Kd.R_far (p := ⟨gb318, 0, none⟩) (Kd.R_types HO316.out BK318.out (by decide)) (fun _ hk => hk.2) (.int .i64 t312)) (fun _ hk => hk.2) (.int .i64 t313)) (fun _ hk => hk.2) (.slice Ao131 t314.length co131)) (fun _ h_ => h_.1)))); (case side2 => exact (Kd.R_reads' HO316.out).2.1); (case side3 => refine (Kd.R_reads' (e := 35) (base := w.heap.size) (ok := fun k_ => (some k_ ≠ (v307 : Value).ownBlock ∧ (some k_ ≠ (.slice Ao131 t314.length co131 : Value).ownBlock ∧ (some k_ ≠ (.slice Ao53 t299.length co53 : Value).ownBlock ∧ some k_ ≠ (.slice Ao62 t286.length co62 : Value).ownBlock)))) (n := t270.length) (c := co43) ?_).2.2; exact (by (with_reducible repeat (first | apply Kd.R_alloc | apply Kd.R_drewN | apply Kd.R_drew)); exact (Kd.R_mono (Kd.R_far (p := ⟨gb318, 2, none⟩) (Kd.R_far (p := ⟨gb318, 1, none⟩) (Kd.R_far (p := ⟨gb318, 0, none⟩) (Kd.R_types HO_275002.out BK318.out (by decide)) (fun _ hk => hk.2) (.int .i64 t312)) (fun _ hk => hk.2) (.int .i64 t313)) (fun _ hk => hk.2) (.slice Ao131 t314.length co131)) (fun _ h_ => h_.1)))); (case side4 => exact (Kd.R_reads' HO_275002.out).2.1); rintro e w146 ⟨rfl, hb⟩; refine ⟨_, rfl, ?_⟩; replace HO_275002 := mk_ (Kd.R_below (by (with_reducible repeat (first | apply Kd.R_alloc | apply Kd.R_drewN | apply Kd.R_drew)); exact (Kd.R_mono (Kd.R_far (p := ⟨gb318, 2, none⟩) (Kd.R_far (p := ⟨gb318, 1, none⟩) (Kd.R_far (p := ⟨gb318, 0, none⟩) (Kd.R_types HO_275002.out BK318.out (by decide)) (fun _ hk => hk.2) (.int .i64 t312)) (fun _ hk => hk.2) (.int .i64 t313)) (fun _ hk => hk.2) (.slice Ao131 t314.length co131)) (fun _ h_ => h_.1))) hb); replace HO_281002 := mk_ (Kd.R_below (by (with_reducible repeat (first | apply Kd.R_alloc | apply Kd.R_drewN | apply Kd.R_drew)); exact (Kd.R_mono (Kd.R_far (p := ⟨gb318, 2, none⟩) (Kd.R_far (p := ⟨gb318, 1, none⟩) (Kd.R_far (p := ⟨gb318, 0, none⟩) (Kd.R_types HO_281002.out BK318.out (by decide)) (fun _ hk => hk.2) (.int .i64 t312)) (fun _ hk => hk.2) (.int .i64 t313)) (fun _ hk => hk.2) (.slice Ao131 t314.length co131)) (fun _ h_ => h_.1))) hb); replace HO_291002 := mk_ (Kd.R_below (by (with_reducible repeat (first | apply Kd.R_alloc | apply Kd.R_drewN | apply Kd.R_drew)); exact (Kd.R_mono (Kd.R_far (p := ⟨gb318, 2, none⟩) (Kd.R_far (p := ⟨gb318, 1, none⟩) (Kd.R_far (p := ⟨gb318, 0, none⟩) (Kd.R_types HO_291002.out BK318.out (by decide)) (fun _ hk => hk.2) (.int .i64 t312)) (fun _ hk => hk.2) (.int .i64 t313)) (fun _ hk => hk.2) (.slice Ao131 t314.length co131)) (fun _ h_ => h_.1))) hb); replace HO308 := mk_ (Kd.R_below (by (with_reducible repeat (first | apply Kd.R_alloc | apply Kd.R_drewN | apply Kd.R_drew)); exact (Kd.R_mono (Kd.R_far (p := ⟨gb318, 2, none⟩) (Kd.R_far (p := ⟨gb318, 1, none⟩) (Kd.R_far (p := ⟨gb318, 0, none⟩) (Kd.R_types HO308.out BK318.out (by decide)) (fun _ hk => hk.2) (.int .i64 t312)) (fun _ hk => hk.2) (.int .i64 t313)) (fun _ hk => hk.2) (.slice Ao131 t314.length co131)) (fun _ h_ => h_.1))) hb); replace HO316 := mk_ (Kd.R_below (by (with_reducible repeat (first | apply Kd.R_alloc | apply Kd.R_drewN | apply Kd.R_drew)); exact (Kd.R_mono (Kd.R_far (p := ⟨gb318, 2, none⟩) (Kd.R_far (p := ⟨gb318, 1, none⟩) (Kd.R_far (p := ⟨gb318, 0, none⟩) (Kd.R_types HO316.out BK318.out (by decide)) (fun _ hk => hk.2) (.int .i64 t312)) (fun _ hk => hk.2) (.int .i64 t313)) (fun _ hk => hk.2) (.slice Ao131 t314.length co131)) (fun _ h_ => h_.1))) hb); replace BK256 := mk_ (blk_below (g := gb256) (o := .cells #[.int .i64 a0_0, .int .i64 a0_1, .slice A0_2 l0_2.length c0_2] 24 (0, 0)) (by (with_reducible repeat (first | refine blk_drewN ?_ _ | refine blk_drew ?_ | refine blk_alloc ?_ _)); refine blk_far ?_ NB256_318.out _; (with_reducible repeat (first | refine blk_drewN ?_ _ | refine blk_drew ?_ | refine blk_alloc ?_ _)); refine blk_far ?_ NB256_318.out _; (with_reducible repeat (first | refine blk_drewN ?_ _ | refine blk_drew ?_ | refine blk_alloc ?_ _)); refine blk_far ?_ NB256_318.out _; (with_reducible repeat (first | refine blk_drewN ?_ _ | refine blk_drew ?_ | refine blk_alloc ?_ _)); exact BK256.out) hb); replace BK257 := mk_ (blk_below (g := gb257) (o := .cells #[.int .i64 a2_0, .int .i64 a2_1, .string a2_2] 26 (0, 0)) (by (with_reducible repeat (first | refine blk_drewN ?_ _ | refine blk_drew ?_ | refine blk_alloc ?_ _)); refine blk_far ?_ NB257_318.out _; (with_reducible repeat (first | refine blk_drewN ?_ _ | refine blk_drew ?_ | refine blk_alloc ?_ _)); refine blk_far ?_ NB257_318.out _; (with_reducible repeat (first | refine blk_drewN ?_ _ | refine blk_drew ?_ | refine blk_alloc ?_ _)); refine blk_far ?_ NB257_318.out _; (with_reducible repeat (first | refine blk_drewN ?_ _ | refine blk_drew ?_ | refine blk_alloc ?_ _)); exact BK257.out) hb); replace BK274 := mk_ (blk_below (g := gb274) (o := .cells #[.int .i64 t268, .int .i64 t269, .slice Ao43 t270.length co43] 31 (0, 0)) (by (with_reducible repeat (first | refine blk_drewN ?_ _ | refine blk_drew ?_ | refine blk_alloc ?_ _)); refine blk_far ?_ NB274_318.out _; (with_reducible repeat (first | refine blk_drewN ?_ _ | refine blk_drew ?_ | refine blk_alloc ?_ _)); refine blk_far ?_ NB274_318.out _; (with_reducible repeat (first | refine blk_drewN ?_ _ | refine blk_drew ?_ | refine blk_alloc ?_ _)); refine blk_far ?_ NB274_318.out _; (with_reducible repeat (first | refine blk_drewN ?_ _ | refine blk_drew ?_ | refine blk_alloc ?_ _)); exact BK274.out) hb); replace BK280 := mk_ (blk_below (g := gb280) (o := .cells #[.int .i64 t275, .int .i64 t276, .slice Ao53 t299.length co53] 31 (0, 0)) (by (with_reducible repeat (first | refine blk_drewN ?_ _ | refine blk_drew ?_ | refine blk_alloc ?_ _)); refine blk_far ?_ NB280_318.out _; (with_reducible repeat (first | refine blk_drewN ?_ _ | refine blk_drew ?_ | refine blk_alloc ?_ _)); refine blk_far ?_ NB280_318.out _; (with_reducible repeat (first | refine blk_drewN ?_ _ | refine blk_drew ?_ | refine blk_alloc ?_ _)); refine blk_far ?_ NB280_318.out _; (with_reducible repeat (first | refine blk_drewN ?_ _ | refine blk_drew ?_ | refine blk_alloc ?_ _)); exact BK280.out) hb); replace BK290 := mk_ (blk_below (g := gb290) (o := .cells #[.int .i64 t284, .int .i64 t285, .slice Ao62 t286.length co62] 31 (0, 0)) (by (with_reducible repeat (first | refine blk_drewN ?_ _ | refine blk_drew ?_ | refine blk_alloc ?_ _)); refine blk_far ?_ NB290_318.out _; (with_reducible repeat (first | refine blk_drewN ?_ _ | refine blk_drew ?_ | refine blk_alloc ?_ _)); refine blk_far ?_ NB290_318.out _; (with_reducible repeat (first | refine blk_drewN ?_ _ | refine blk_drew ?_ | refine blk_alloc ?_ _)); refine blk_far ?_ NB290_318.out _; (with_reducible repeat (first | refine blk_drewN ?_ _ | refine blk_drew ?_ | refine blk_alloc ?_ _)); exact BK290.out) hb); replace BK318 := mk_ (blk_below (g := gb318) (o := .cells #[.int .i64 t312, .int .i64 t313, .slice Ao131 t314.length co131] 31 (0, 0)) (by (with_reducible repeat (first | refine blk_drewN ?_ _ | refine blk_drew ?_ | refine blk_alloc ?_ _)); refine blk_put (cs := #[.int .i64 t312, .int .i64 t313, .slice none 0 0]) ?_ 2 _ rfl; (with_reducible repeat (first | refine blk_drewN ?_ _ | refine blk_drew ?_ | refine blk_alloc ?_ _)); refine blk_put (cs := #[.int .i64 t312, .int .i64 0, .slice none 0 0]) ?_ 1 _ rfl; (with_reducible repeat (first | refine blk_drewN ?_ _ | refine blk_drew ?_ | refine blk_alloc ?_ _)); refine blk_put (cs := #[.int .i64 0, .int .i64 0, .slice none 0 0]) ?_ 0 _ rfl; (with_reducible repeat (first | refine blk_drewN ?_ _ | refine blk_drew ?_ | refine blk_alloc ?_ _)); exact BK318.out) hb); replace HB := bs_ HB hb; (try clear hb); (try clear hk)))
              go_meet
              case rel => exact ⟨_, ((t317 != t273)), (by first | rfl | (simp; done) | (simp [*]; done)), H', ⟨by have := HJ25.out; have := HJ80.out; first | omega | exact Nat.le_refl _⟩, ⟨by (try simp only [hl281002_80]); (with_reducible repeat (first | apply Kd.R_alloc | apply Kd.R_drewN | apply Kd.R_drew)); exact Kd.R_mono HO_275002.out (fun _ hk => ⟨hk.2.2.1, ⟨hk.2.2.2, hk.2.1⟩⟩)⟩, ⟨by (try simp only [hl281002_80]); (with_reducible repeat (first | apply Kd.R_alloc | apply Kd.R_drewN | apply Kd.R_drew)); exact Kd.R_mono HO_281002.out (fun _ hk => ⟨hk.2.2.1, ⟨hk.2.2.2, hk.2.1⟩⟩)⟩, ⟨by (try simp only [hl281002_80]); (with_reducible repeat (first | apply Kd.R_alloc | apply Kd.R_drewN | apply Kd.R_drew)); exact Kd.R_mono HO_291002.out (fun _ hk => ⟨hk.2.2.1, ⟨hk.2.2.2, hk.2.1⟩⟩)⟩, ⟨by (try simp only [hl281002_80]); (with_reducible repeat (first | apply Kd.R_alloc | apply Kd.R_drewN | apply Kd.R_drew)); exact Kd.R_mono HO316.out (fun _ hk => ⟨hk.2.1, ⟨hk.2.2.1, hk.2.2.2⟩⟩)⟩, ⟨by (try simp only [hl281002_80]); (with_reducible repeat (first | refine blk_drewN ?_ _ | refine blk_drew ?_ | refine blk_alloc ?_ _)); exact BK256.out⟩, ⟨by (try simp only [hl281002_80]); (with_reducible repeat (first | refine blk_drewN ?_ _ | refine blk_drew ?_ | refine blk_alloc ?_ _)); exact BK257.out⟩, ⟨by (try simp only [hl281002_80]); (with_reducible repeat (first | refine blk_drewN ?_ _ | refine blk_drew ?_ | refine blk_alloc ?_ _)); exact BK274.out⟩, ⟨by (try simp only [hl281002_80]); (with_reducible repeat (first | refine blk_drewN ?_ _ | refine blk_drew ?_ | refine blk_alloc ?_ _)); exact BK280.out⟩, ⟨by (try simp only [hl281002_80]); (with_reducible repeat (first | refine blk_drewN ?_ _ | refine blk_drew ?_ | refine blk_alloc ?_ _)); exact BK290.out⟩, ⟨by (try simp only [hl281002_80]); (with_reducible repeat (first | refine blk_drewN ?_ _ | refine blk_drew ?_ | refine blk_alloc ?_ _)); exact BK318.out⟩, ⟨by repeat (first | (with_reducible first | exact HB.out | apply below_alloc | apply pw_below_drewN | apply below_drew1 | refine below_set ?_ GE256.out | refine below_set ?_ GE257.out | refine below_set ?_ GE274.out | refine below_set ?_ GE280.out | refine below_set ?_ GE290.out | refine below_set ?_ GE318.out) | exact HB.out)⟩⟩
             ·replace c134 := Bool.eq_false_iff.mpr c134
              subst c134
              have H1 : (none) = some r := by rw [if_neg (show ¬ (false = true) by decide)] at H; exact H
              clear H
              have H := H1
              clear H1
              exact absurd H (by simp)
            case rest =>
             clear HC113
             try clear c1
             try clear p2
             try clear c13
             try clear c14
             try clear c16
             try clear c17
             try clear c18
             try clear c19
             try clear c134
             try clear c135
             try clear c136
             try clear c137
             try clear c138
             try clear c139
             try clear c141
             try clear c142
             try clear c143
             try clear c144
             try clear hcz140_0
             try clear hcz140_1
             try clear hcz140_2
             try clear hcz145_0
             try clear hcz145_1
             try clear hcz145_2
             try clear hfz140_0
             try clear hfz140_1
             try clear hfz140_2
             try clear hfz145_0
             try clear hfz145_1
             try clear hfz145_2
             obtain ⟨kq, x105_112, rfl, HA, HJ112, HO_275002, HO_281002, HO_291002, HO_319002, BK256, BK257, BK274, BK280, BK290, BK318, HB⟩ := hcut
             have hl291002_112 := (Kd.R_reads' HO_291002.out).1
             rw [hl291002_112] at HO_291002
             (try simp only [hl291002_112])
             (try simp only [hl291002_112] at BK256)
             (try simp only [hl291002_112] at BK257)
             (try simp only [hl291002_112] at BK274)
             (try simp only [hl291002_112] at BK280)
             (try simp only [hl291002_112] at BK290)
             (try simp only [hl291002_112] at BK318)
             (try simp only [hl291002_112] at HO_275002)
             (try simp only [hl291002_112] at HO_281002)
             (try simp only [hl291002_112] at HO_319002)
             cases kq with
             | zero => exact absurd HA.out (by simp [laws_FnExactLogPut.j2])
             | succ kj112 =>
              have H := HA.out
              clear HA
              simp only [laws_FnExactLogPut.j2] at H
              by_cases c147 : x105_112 = true
              ·subst c147
               have H1 : (none) = some r := by rw [if_pos rfl] at H; exact H
               clear H
               have H := H1
               clear H1
               exact absurd H (by simp)
              ·replace c147 := Bool.eq_false_iff.mpr c147
               subst c147
               have H1 : ((laws_heldLog.f kj112 t284 t285 t302 1).bind fun t320 => (if t320 < 0 then (none) else (if t320 = t301 then (some true) else (none)))) = some r := by rw [if_neg (show ¬ (false = true) by decide)] at H; exact H
               clear H
               have H := H1
               clear H1
               replace H := Option.bind_eq_some_iff.mp H
               obtain ⟨t320, A1480, H⟩ := H
               replace H : (if t320 < 0 then (none) else (if t320 = t301 then (some true) else (none))) = some r := H
               have A148 := Aside0.mk A1480
               clear A1480
               by_cases c149 : t320 < 0
               ·rw [if_pos c149] at H
                exact absurd H (by simp)
               ·rw [if_neg c149] at H
                have c149b0 : decide (t320 < 0) = false := decide_eq_false c149
                clear c149
                by_cases c150 : t320 = t301
                ·rw [if_pos c150] at H
                 have c150b0 : (t320 == t301) = true := beq_iff_eq.mpr c150
                 have c150b1 : (t320 != t301) = false := bne_eq_false_iff_eq.mpr c150
                 clear c150
                 obtain rfl := Option.some.inj H
                 have hnb151 := NB290_256.out
                 have hnc151 := NB256_290.out
                 have hnb152 := NB290_257.out
                 have hnc152 := NB257_290.out
                 have hnb153 := NB290_274.out
                 have hnc153 := NB274_290.out
                 have hnb154 := NB290_280.out
                 have hnc154 := NB280_290.out
                 have hnb155 := NB290_318.out
                 have hnc155 := NB318_290.out
                 have hcz156_0 : wc.cell? ⟨gb290, 0, none⟩ = some (.int .i64 t284) := bc_ BK290 0
                 have hcz156_1 : wc.cell? ⟨gb290, 1, none⟩ = some (.int .i64 t285) := bc_ BK290 1
                 have hcz156_2 : wc.cell? ⟨gb290, 2, none⟩ = some (.slice Ao62 t302.length co62) := bc_ BK290 2
                 have hfz156_0 := blk_frozen BK290.out 0
                 have hfz156_1 := blk_frozen BK290.out 1
                 have hfz156_2 := blk_frozen BK290.out 2
                 go_wp2_with (first | ((with_reducible refine gate_callee (f := 21) rfl ?_); refine goesL_ (some 108) rfl rfl Try.func21 (by kernel_rfl) rfl #[.agg #[.int .i64 t284, .int .i64 t285, .slice Ao62 t302.length co62], .int .i64 1] rfl (by (try simp only [List.map_toArray, List.map_cons, List.map_nil]); first | done | rfl | (simp only [List.length_drop, List.length_take]; rfl)) ?_; (with_reducible refine (laws_heldLog.calls kj112 t284 t285 _ _ t302 1 t320 _ ?side1 ?side2 A148.out).mono ?_); (case side1 => repeat (first | exact (Kd.R_reads' HO_291002.out).2.2 | (with_reducible refine Kd.C_alloc ?_ _) | (with_reducible refine Kd.C_drewN ?_ _) | (with_reducible refine Kd.C_drew ?_))); (case side2 => exact (Kd.R_reads' HO_291002.out).2.1); rintro e w157 ⟨rfl, hb⟩; refine ⟨_, rfl, ?_⟩; replace HO_275002 := rb_ HO_275002 hb; replace HO_281002 := rb_ HO_281002 hb; replace HO_291002 := rb_ HO_291002 hb; replace HO_319002 := rb_ HO_319002 hb; replace BK256 := bb_ BK256 hb; replace BK257 := bb_ BK257 hb; replace BK274 := bb_ BK274 hb; replace BK280 := bb_ BK280 hb; replace BK290 := bb_ BK290 hb; replace BK318 := bb_ BK318 hb; replace HB := bs_ HB hb; (try clear hb)))
                 go_ret
                 exact ⟨by first | rfl | (simp [errW_none, errW_some] <;> rfl) | (simp [*, errW_none, errW_some] <;> rfl), by repeat (first | (with_reducible first | exact HB.out | apply below_alloc | apply pw_below_drewN | apply below_drew1 | refine below_set ?_ GE256.out | refine below_set ?_ GE257.out | refine below_set ?_ GE274.out | refine below_set ?_ GE280.out | refine below_set ?_ GE290.out | refine below_set ?_ GE318.out) | exact HB.out)⟩
                ·rw [if_neg c150] at H
                 exact absurd H (by simp)
           ·rw [if_neg c109] at H
            exact absurd H (by simp)
      ·replace c79 := Bool.eq_false_iff.mpr c79
       subst c79
       have H1 : (none) = some r := by rw [if_neg (show ¬ (false = true) by decide)] at H; exact H
       clear H
       have H := H1
       clear H1
       exact absurd H (by simp)

end Go.Proofs.Ytknbkjajfiediaa.QFnExactLogPut
