/- Written by this session's own program (wip/tpl/pp.py): what the law's functions come to, and that the machine's calls do just that. -/
import Derived.Test.YtgnmlgoadkhceaaGreatDoorQFnExactShedActsx0
import Derived.Test.YtgnmlgoadkhceaaGreatDoorQFnExactShedActsx5
import Derived.Test.YtgnmlgoadkhceaaGreatDoorQFnExactShedActsx6
import Derived.Test.YtgnmlgoadkhceaaGreatDoorQFnExactShedActsx7
import Derived.Test.YtgnmlgoadkhceaaGreatDoorQFnExactShedActsx8
namespace Go.Proofs.YtgnmlgoadkhceaaGreatDoor.QFnExactShedActs
open Go.RowKit Go.Proofs.YtgnmlgoadkhceaaGreatDoorW.PrintWords Go.Proofs.YtgnmlgoadkhceaaGreatDoorW.PrintLast Go.Proofs.YtgnmlgoadkhceaaGreatDoorW.PrintMore
attribute [local go_sem] Go.Proofs.YtgnmlgoadkhceaaGreatDoor.Sem.string_geq Go.Proofs.YtgnmlgoadkhceaaGreatDoor.Sem.string_leq Go.Proofs.YtgnmlgoadkhceaaGreatDoor.Sem.string_gtr
attribute [local go_sem] max2_int min2_int max_two min_two max_three min_three max_four min_four   -- for this text's walks alone
set_option linter.unusedVariables false
set_option linter.unusedSimpArgs false

/-! ### spec_SnapText: function 89 -/
def spec_SnapText.j0 : Nat → ByteArray → Bool → Int → Int → List Int → ByteArray → Option (ByteArray × Bool)
 | 0, _, _, _, _, _, _ => none
 | k + 1, x4, x32, x245000, x245001, x245002, x245003 => if x32 = true then (some ((⟨#[]⟩ : ByteArray), false)) else ((spec_l01Var.f k x245000).bind fun t249 => ((spec_l01Var.f k x245001).bind fun t250 => (if t249.size + t250.size ≤ 9223372036854775807 then ((spec_l05Short.f k x4).bind fun t251 => (if (t249 ++ t250).size + t251.size ≤ 9223372036854775807 then ((spec_l05Short.f k x245003).bind fun t252 => (if ((t249 ++ t250) ++ t251).size + t252.size ≤ 9223372036854775807 then (if (wrap64 (((((t249 ++ t250) ++ t251) ++ t252).size : Int) + 4)) > 20000 then (some ((⟨#[]⟩ : ByteArray), false)) else ((spec_Sealed.f k (((t249 ++ t250) ++ t251) ++ t252)).bind fun bt253 => (some (bt253.1, bt253.2)))) else (none))) else (none))) else (none))))
def spec_SnapText.f (k : Nat) (a0_0 : Int) (a0_1 : Int) (l0_2 : List Int) (a0_3 : ByteArray) : Option (ByteArray × Bool) := (spec_ConfText.f k l0_2).bind fun bt245 => (if bt245.2 = true then ((spec_l01In.f a0_0 0 1000000).bind fun t247 => (if t247 = true then ((spec_l01In.f a0_1 0 100000).bind fun t248 => (if t248 = true then (spec_SnapText.j0 k bt245.1 (decide ((a0_3.size : Int) > 20000)) a0_0 a0_1 l0_2 a0_3) else (spec_SnapText.j0 k bt245.1 true a0_0 a0_1 l0_2 a0_3))) else (spec_SnapText.j0 k bt245.1 true a0_0 a0_1 l0_2 a0_3))) else (spec_SnapText.j0 k bt245.1 true a0_0 a0_1 l0_2 a0_3))
theorem spec_SnapText.mono_l : ∀ k, (∀ y0 y1 y2 y3 y4 y5, LeO (spec_SnapText.j0 k y0 y1 y2 y3 y4 y5) (spec_SnapText.j0 (k + 1) y0 y1 y2 y3 y4 y5))
 | 0 => fun _ _ _ _ _ _ r h => by simp [spec_SnapText.j0] at h
 | k + 1 => by
  have ih0 := spec_SnapText.mono_l k
  ·intro y0 y1 y2 y3 y4 y5
   unfold spec_SnapText.j0
   repeat' first
   | (with_reducible exact spec_Sealed.mono _ _)
   | (with_reducible exact spec_l01Var.mono _ _)
   | (with_reducible exact spec_l05Short.mono _ _)
   | (with_reducible exact LeO.refl _)
   | (with_reducible refine LeO.ite ?_ ?_)
   | (with_reducible refine LeO.bind ?_ (fun _ => ?_))
theorem spec_SnapText.mono : ∀ a0 a1 a2 a3 k, LeO (spec_SnapText.f k a0 a1 a2 a3) (spec_SnapText.f (k + 1) a0 a1 a2 a3) := by
 intro a0 a1 a2 a3 k
 have ih0 := spec_SnapText.mono_l k
 unfold spec_SnapText.f
 repeat' first
   | (with_reducible exact ih0 _ _ _ _ _ _)
   | (with_reducible exact spec_ConfText.mono _ _)
   | (with_reducible exact LeO.refl _)
   | (with_reducible refine LeO.ite ?_ ?_)
   | (with_reducible refine LeO.bind ?_ (fun _ => ?_))
def spec_SnapText.T4 : Bool × List (List Nat × List Nat) := (true, [([], []), ([0], [0]), ([1], [1]), ([], []), ([3], [3]), ([4, 2], [4]), ([2, 5], [2, 5]), ([], []), ([7, 5], [7]), ([6, 8], [6, 8]), ([], []), ([10], [10]), ([11, 8], [11]), ([9, 12], [9, 12]), ([13, 12, 0, 1, 2, 3, 4, 5, 6, 7, 8, 9, 10, 11, 12, 13], [13])])
def spec_SnapText.B4 : List Nat := [0, 1, 3, 0, 8, 31, 63, 0, 191, 511, 0, 1024, 3519, 8191, 16383]
theorem spec_SnapText.tab4 : rtab .any (opsOf Tryz.f89 4) = spec_SnapText.T4 := by kernel_rfl
theorem spec_SnapText.bits4 : waitsOk spec_SnapText.T4.2 spec_SnapText.B4 = true := by kernel_rfl
set_option maxHeartbeats 8000000 in
set_option maxRecDepth 100000 in
theorem spec_SnapText.calls (k : Nat) (a0_0 : Int) (a0_1 : Int) (A0_2 : Option Addr) (c0_2 : Nat) (l0_2 : List Int) (a0_3 : ByteArray) (r1 : ByteArray) (r2 : Bool) (w : World) (hr0_2 : Kd.C (Kd.int .i64) w A0_2 l0_2.length l0_2) (hc0_2 : l0_2.length ≤ c0_2) (h : spec_SnapText.f k a0_0 a0_1 l0_2 a0_3 = some (r1, r2)) :
  Calls Tryz.prog 89 #[.agg #[.int .i64 a0_0, .int .i64 a0_1, .slice A0_2 l0_2.length c0_2, .string a0_3]] w fun e w' => e = .returned (.tuple #[.string r1, .bool r2]) ∧ Below w.heap.size w w' := by
 have hu47 := Tryz.underlying47
 have HR0_2 := Aside0.mk hr0_2
 have HC0_2 := Aside0.mk hc0_2
 clear hr0_2 hc0_2
 have HB := mk_ (Below.refl w.heap.size w)
 have H : ((spec_ConfText.f k l0_2).bind fun bt245 => (if bt245.2 = true then ((spec_l01In.f a0_0 0 1000000).bind fun t247 => (if t247 = true then ((spec_l01In.f a0_1 0 100000).bind fun t248 => (if t248 = true then (spec_SnapText.j0 k bt245.1 (decide ((a0_3.size : Int) > 20000)) a0_0 a0_1 l0_2 a0_3) else (spec_SnapText.j0 k bt245.1 true a0_0 a0_1 l0_2 a0_3))) else (spec_SnapText.j0 k bt245.1 true a0_0 a0_1 l0_2 a0_3))) else (spec_SnapText.j0 k bt245.1 true a0_0 a0_1 l0_2 a0_3))) = some (r1, r2) := h
 clear h
 replace H := Option.bind_eq_some_iff.mp H
 obtain ⟨⟨t245, t246⟩, A20, H⟩ := H
 replace H : (if t246 = true then ((spec_l01In.f a0_0 0 1000000).bind fun t247 => (if t247 = true then ((spec_l01In.f a0_1 0 100000).bind fun t248 => (if t248 = true then (spec_SnapText.j0 k t245 (decide ((a0_3.size : Int) > 20000)) a0_0 a0_1 l0_2 a0_3) else (spec_SnapText.j0 k t245 true a0_0 a0_1 l0_2 a0_3))) else (spec_SnapText.j0 k t245 true a0_0 a0_1 l0_2 a0_3))) else (spec_SnapText.j0 k t245 true a0_0 a0_1 l0_2 a0_3)) = some (r1, r2) := H
 have A2 := Aside0.mk A20
 clear A20
 have HC3 := Aside0.mk H
 clear H
 go_enter Tryz.func89, Tryz.ntmps89
 go_upto_region 2 with (first | ((with_reducible refine gate_dst (N := 1) rfl ?_); (try (refine gate_guard (by rfl) ?_; dsimp only)); refine bx_ (N := 1) (cs := #[.int .i64 a0_0, .int .i64 a0_1, .slice A0_2 l0_2.length c0_2, .string a0_3]) (t := 47) ?_; intro gb244 hg w4 hbox hb; have BK244 := mk_ (hbox); have GW244 : Aside0 (w.heap.size ≤ gb244) := bz_ hg; have GE244 := GW244; replace HB := bs_ HB hb; clear hb hbox hg; obtain ⟨hcz5_0, hcz5_1, hcz5_2, hcz5_3, hfz5_0, hfz5_1, hfz5_2, hfz5_3⟩ := b4_ BK244) | ((with_reducible refine gate_callee (f := 124) rfl ?_); refine goesL_ (some 10) rfl rfl Tryz.func124 (by kernel_rfl) rfl #[.slice A0_2 l0_2.length c0_2] rfl ga_ ?_; (with_reducible refine (spec_ConfText.calls k _ _ l0_2 t245 t246 _ ?side1 ?side2 A2.out).mono ?_); (case side1 => repeat (first | exact (Kd.C_below HR0_2.out HB.out) | (with_reducible refine Kd.C_alloc ?_ _) | (with_reducible refine Kd.C_drewN ?_ _) | (with_reducible refine Kd.C_drew ?_))); (case side2 => exact HC0_2.out); rintro e w6 ⟨rfl, hb⟩; refine ⟨_, rfl, ?_⟩; replace BK244 := bb_ BK244 hb; replace HB := bs_ HB hb; (try clear hb)))
 (try simp only [Act.put, sia_, scz_, scs_])
 go_cut [32] (fun v32 wc => ∃ (kq : Nat) (x32_2 : Bool), v32 = .bool x32_2 ∧ Aside0 (spec_SnapText.j0 kq t245 x32_2 a0_0 a0_1 l0_2 a0_3 = some (r1, r2)) ∧ Aside0 (kq ≤ k) ∧ Aside0 (wc.heap[gb244]? = some (.cells #[.int .i64 a0_0, .int .i64 a0_1, (.slice A0_2 l0_2.length c0_2), .string a0_3] 47 (0, 0))) ∧ Aside0 (Below w.heap.size w wc))
 case first =>
  have H := HC3.out
  clear HC3
  by_cases c7 : t246 = true
  ·subst c7
   have H1 : ((spec_l01In.f a0_0 0 1000000).bind fun t247 => (if t247 = true then ((spec_l01In.f a0_1 0 100000).bind fun t248 => (if t248 = true then (spec_SnapText.j0 k t245 (decide ((a0_3.size : Int) > 20000)) a0_0 a0_1 l0_2 a0_3) else (spec_SnapText.j0 k t245 true a0_0 a0_1 l0_2 a0_3))) else (spec_SnapText.j0 k t245 true a0_0 a0_1 l0_2 a0_3))) = some (r1, r2) := by rw [if_pos rfl] at H; exact H
   clear H
   have H := H1
   clear H1
   replace H := Option.bind_eq_some_iff.mp H
   obtain ⟨t247, A80, H⟩ := H
   replace H : (if t247 = true then ((spec_l01In.f a0_1 0 100000).bind fun t248 => (if t248 = true then (spec_SnapText.j0 k t245 (decide ((a0_3.size : Int) > 20000)) a0_0 a0_1 l0_2 a0_3) else (spec_SnapText.j0 k t245 true a0_0 a0_1 l0_2 a0_3))) else (spec_SnapText.j0 k t245 true a0_0 a0_1 l0_2 a0_3)) = some (r1, r2) := H
   have A8 := Aside0.mk A80
   clear A80
   by_cases c9 : t247 = true
   ·subst c9
    have H1 : ((spec_l01In.f a0_1 0 100000).bind fun t248 => (if t248 = true then (spec_SnapText.j0 k t245 (decide ((a0_3.size : Int) > 20000)) a0_0 a0_1 l0_2 a0_3) else (spec_SnapText.j0 k t245 true a0_0 a0_1 l0_2 a0_3))) = some (r1, r2) := by rw [if_pos rfl] at H; exact H
    clear H
    have H := H1
    clear H1
    replace H := Option.bind_eq_some_iff.mp H
    obtain ⟨t248, A100, H⟩ := H
    replace H : (if t248 = true then (spec_SnapText.j0 k t245 (decide ((a0_3.size : Int) > 20000)) a0_0 a0_1 l0_2 a0_3) else (spec_SnapText.j0 k t245 true a0_0 a0_1 l0_2 a0_3)) = some (r1, r2) := H
    have A10 := Aside0.mk A100
    clear A100
    by_cases c11 : t248 = true
    ·subst c11
     have H1 : (spec_SnapText.j0 k t245 (decide ((a0_3.size : Int) > 20000)) a0_0 a0_1 l0_2 a0_3) = some (r1, r2) := by rw [if_pos rfl] at H; exact H
     clear H
     have H := H1
     clear H1
     have H' := Aside0.mk H
     clear H
     have hcz12_0 : w6.cell? ⟨gb244, 0, none⟩ = some (.int .i64 a0_0) := bc_ BK244 0
     have hcz12_1 : w6.cell? ⟨gb244, 1, none⟩ = some (.int .i64 a0_1) := bc_ BK244 1
     have hcz12_2 : w6.cell? ⟨gb244, 2, none⟩ = some (.slice A0_2 l0_2.length c0_2) := bc_ BK244 2
     have hcz12_3 : w6.cell? ⟨gb244, 3, none⟩ = some (.string a0_3) := bc_ BK244 3
     have hfz12_0 := blk_frozen BK244.out 0
     have hfz12_1 := blk_frozen BK244.out 1
     have hfz12_2 := blk_frozen BK244.out 2
     have hfz12_3 := blk_frozen BK244.out 3
     go_wp2_with (first | (go_at_call 58; (with_reducible refine (spec_l01In.calls a0_0 0 1000000 true _ A8.out).mono ?_); rintro e w' ⟨rfl, ⟨nd, rfl⟩⟩) | (go_at_call 58; (with_reducible refine (spec_l01In.calls a0_1 0 100000 true _ A10.out).mono ?_); rintro e w' ⟨rfl, ⟨nd, rfl⟩⟩))
     go_meet
     case rel => exact ⟨_, (decide ((a0_3.size : Int) > 20000)), (by first | rfl | (simp; done) | (simp [*]; done)), H', ⟨by first | omega | exact Nat.le_refl _⟩, ⟨bf_⟩, ⟨bw_ HB⟩⟩
    ·replace c11 := Bool.eq_false_iff.mpr c11
     subst c11
     have H1 : (spec_SnapText.j0 k t245 true a0_0 a0_1 l0_2 a0_3) = some (r1, r2) := by rw [if_neg (show ¬ (false = true) by decide)] at H; exact H
     clear H
     have H := H1
     clear H1
     have H' := Aside0.mk H
     clear H
     have hcz13_0 : w6.cell? ⟨gb244, 0, none⟩ = some (.int .i64 a0_0) := bc_ BK244 0
     have hcz13_1 : w6.cell? ⟨gb244, 1, none⟩ = some (.int .i64 a0_1) := bc_ BK244 1
     have hcz13_2 : w6.cell? ⟨gb244, 2, none⟩ = some (.slice A0_2 l0_2.length c0_2) := bc_ BK244 2
     have hcz13_3 : w6.cell? ⟨gb244, 3, none⟩ = some (.string a0_3) := bc_ BK244 3
     have hfz13_0 := blk_frozen BK244.out 0
     have hfz13_1 := blk_frozen BK244.out 1
     have hfz13_2 := blk_frozen BK244.out 2
     have hfz13_3 := blk_frozen BK244.out 3
     go_wp2_with (first | (go_at_call 58; (with_reducible refine (spec_l01In.calls a0_0 0 1000000 true _ A8.out).mono ?_); rintro e w' ⟨rfl, ⟨nd, rfl⟩⟩) | (go_at_call 58; (with_reducible refine (spec_l01In.calls a0_1 0 100000 false _ A10.out).mono ?_); rintro e w' ⟨rfl, ⟨nd, rfl⟩⟩))
     go_meet
     case rel => exact ⟨_, (true), (by first | rfl | (simp; done) | (simp [*]; done)), H', ⟨by first | omega | exact Nat.le_refl _⟩, ⟨bf_⟩, ⟨bw_ HB⟩⟩
   ·replace c9 := Bool.eq_false_iff.mpr c9
    subst c9
    have H1 : (spec_SnapText.j0 k t245 true a0_0 a0_1 l0_2 a0_3) = some (r1, r2) := by rw [if_neg (show ¬ (false = true) by decide)] at H; exact H
    clear H
    have H := H1
    clear H1
    have H' := Aside0.mk H
    clear H
    have hcz14_0 : w6.cell? ⟨gb244, 0, none⟩ = some (.int .i64 a0_0) := bc_ BK244 0
    have hcz14_1 : w6.cell? ⟨gb244, 1, none⟩ = some (.int .i64 a0_1) := bc_ BK244 1
    have hcz14_2 : w6.cell? ⟨gb244, 2, none⟩ = some (.slice A0_2 l0_2.length c0_2) := bc_ BK244 2
    have hcz14_3 : w6.cell? ⟨gb244, 3, none⟩ = some (.string a0_3) := bc_ BK244 3
    have hfz14_0 := blk_frozen BK244.out 0
    have hfz14_1 := blk_frozen BK244.out 1
    have hfz14_2 := blk_frozen BK244.out 2
    have hfz14_3 := blk_frozen BK244.out 3
    go_wp2_with (first | (go_at_call 58; (with_reducible refine (spec_l01In.calls a0_0 0 1000000 false _ A8.out).mono ?_); rintro e w' ⟨rfl, ⟨nd, rfl⟩⟩))
    go_meet
    case rel => exact ⟨_, (true), (by first | rfl | (simp; done) | (simp [*]; done)), H', ⟨by first | omega | exact Nat.le_refl _⟩, ⟨bf_⟩, ⟨bw_ HB⟩⟩
  ·replace c7 := Bool.eq_false_iff.mpr c7
   subst c7
   have H1 : (spec_SnapText.j0 k t245 true a0_0 a0_1 l0_2 a0_3) = some (r1, r2) := by rw [if_neg (show ¬ (false = true) by decide)] at H; exact H
   clear H
   have H := H1
   clear H1
   have H' := Aside0.mk H
   clear H
   go_wp2
   go_meet
   case rel => exact ⟨_, (true), (by first | rfl | (simp; done) | (simp [*]; done)), H', ⟨by first | omega | exact Nat.le_refl _⟩, ⟨bf_⟩, ⟨bw_ HB⟩⟩
 case rest =>
  clear HC3
  try clear c1
  try clear p2
  try clear c7
  try clear c8
  try clear c9
  try clear c11
  try clear c12
  try clear hcz12_0
  try clear hcz12_1
  try clear hcz12_2
  try clear hcz12_3
  try clear hcz13_0
  try clear hcz13_1
  try clear hcz13_2
  try clear hcz13_3
  try clear hcz14_0
  try clear hcz14_1
  try clear hcz14_2
  try clear hcz14_3
  try clear hcz5_0
  try clear hcz5_1
  try clear hcz5_2
  try clear hcz5_3
  try clear hfz12_0
  try clear hfz12_1
  try clear hfz12_2
  try clear hfz12_3
  try clear hfz13_0
  try clear hfz13_1
  try clear hfz13_2
  try clear hfz13_3
  try clear hfz14_0
  try clear hfz14_1
  try clear hfz14_2
  try clear hfz14_3
  try clear hfz5_0
  try clear hfz5_1
  try clear hfz5_2
  try clear hfz5_3
  obtain ⟨kq, x32_2, rfl, HA, HJ2, BK244, HB⟩ := hcut
  cases kq with
  | zero => exact absurd HA.out (by simp [spec_SnapText.j0])
  | succ kj2 =>
   have H := HA.out
   clear HA
   simp only [spec_SnapText.j0] at H
   by_cases c15 : x32_2 = true
   ·subst c15
    have H1 : (some ((⟨#[]⟩ : ByteArray), false)) = some (r1, r2) := by rw [if_pos rfl] at H; exact H
    clear H
    have H := H1
    clear H1
    simp only [Option.some.injEq, Prod.mk.injEq] at H
    obtain ⟨rfl, rfl⟩ := H
    go_wp2
    go_ret2
    exact ⟨er_, bw_ HB⟩
   ·replace c15 := Bool.eq_false_iff.mpr c15
    subst c15
    have H1 : ((spec_l01Var.f kj2 a0_0).bind fun t249 => ((spec_l01Var.f kj2 a0_1).bind fun t250 => (if t249.size + t250.size ≤ 9223372036854775807 then ((spec_l05Short.f kj2 t245).bind fun t251 => (if (t249 ++ t250).size + t251.size ≤ 9223372036854775807 then ((spec_l05Short.f kj2 a0_3).bind fun t252 => (if ((t249 ++ t250) ++ t251).size + t252.size ≤ 9223372036854775807 then (if (wrap64 (((((t249 ++ t250) ++ t251) ++ t252).size : Int) + 4)) > 20000 then (some ((⟨#[]⟩ : ByteArray), false)) else ((spec_Sealed.f kj2 (((t249 ++ t250) ++ t251) ++ t252)).bind fun bt253 => (some (bt253.1, bt253.2)))) else (none))) else (none))) else (none)))) = some (r1, r2) := by rw [if_neg (show ¬ (false = true) by decide)] at H; exact H
    clear H
    have H := H1
    clear H1
    replace H := Option.bind_eq_some_iff.mp H
    obtain ⟨t249, A160, H⟩ := H
    replace H : ((spec_l01Var.f kj2 a0_1).bind fun t250 => (if t249.size + t250.size ≤ 9223372036854775807 then ((spec_l05Short.f kj2 t245).bind fun t251 => (if (t249 ++ t250).size + t251.size ≤ 9223372036854775807 then ((spec_l05Short.f kj2 a0_3).bind fun t252 => (if ((t249 ++ t250) ++ t251).size + t252.size ≤ 9223372036854775807 then (if (wrap64 (((((t249 ++ t250) ++ t251) ++ t252).size : Int) + 4)) > 20000 then (some ((⟨#[]⟩ : ByteArray), false)) else ((spec_Sealed.f kj2 (((t249 ++ t250) ++ t251) ++ t252)).bind fun bt253 => (some (bt253.1, bt253.2)))) else (none))) else (none))) else (none))) = some (r1, r2) := H
    have A16 := Aside0.mk A160
    clear A160
    replace H := Option.bind_eq_some_iff.mp H
    obtain ⟨t250, A170, H⟩ := H
    replace H : (if t249.size + t250.size ≤ 9223372036854775807 then ((spec_l05Short.f kj2 t245).bind fun t251 => (if (t249 ++ t250).size + t251.size ≤ 9223372036854775807 then ((spec_l05Short.f kj2 a0_3).bind fun t252 => (if ((t249 ++ t250) ++ t251).size + t252.size ≤ 9223372036854775807 then (if (wrap64 (((((t249 ++ t250) ++ t251) ++ t252).size : Int) + 4)) > 20000 then (some ((⟨#[]⟩ : ByteArray), false)) else ((spec_Sealed.f kj2 (((t249 ++ t250) ++ t251) ++ t252)).bind fun bt253 => (some (bt253.1, bt253.2)))) else (none))) else (none))) else (none)) = some (r1, r2) := H
    have A17 := Aside0.mk A170
    clear A170
    by_cases c18 : t249.size + t250.size ≤ 9223372036854775807
    ·rw [if_pos c18] at H
     have c18b0 := eq_true c18
     have c18b1 : decide (t249.size + t250.size ≤ 9223372036854775807) = true := decide_eq_true c18
     try have c18b2 : (9223372036854775807 < t249.size + t250.size) = False := eq_false (Nat.not_lt.2 c18)
     replace H := Option.bind_eq_some_iff.mp H
     obtain ⟨t251, A190, H⟩ := H
     replace H : (if (t249 ++ t250).size + t251.size ≤ 9223372036854775807 then ((spec_l05Short.f kj2 a0_3).bind fun t252 => (if ((t249 ++ t250) ++ t251).size + t252.size ≤ 9223372036854775807 then (if (wrap64 (((((t249 ++ t250) ++ t251) ++ t252).size : Int) + 4)) > 20000 then (some ((⟨#[]⟩ : ByteArray), false)) else ((spec_Sealed.f kj2 (((t249 ++ t250) ++ t251) ++ t252)).bind fun bt253 => (some (bt253.1, bt253.2)))) else (none))) else (none)) = some (r1, r2) := H
     have A19 := Aside0.mk A190
     clear A190
     by_cases c20 : (t249 ++ t250).size + t251.size ≤ 9223372036854775807
     ·rw [if_pos c20] at H
      have c20b0 := eq_true c20
      have c20b1 : decide ((t249 ++ t250).size + t251.size ≤ 9223372036854775807) = true := decide_eq_true c20
      try have c20b2 : (9223372036854775807 < (t249 ++ t250).size + t251.size) = False := eq_false (Nat.not_lt.2 c20)
      have c20x0 : (9223372036854775807 < t249.size + t250.size + t251.size) = False := eq_false (by have h_ := c20; simp only [ByteArray.size_append] at h_; exact Nat.not_lt.2 h_)
      replace H := Option.bind_eq_some_iff.mp H
      obtain ⟨t252, A210, H⟩ := H
      replace H : (if ((t249 ++ t250) ++ t251).size + t252.size ≤ 9223372036854775807 then (if (wrap64 (((((t249 ++ t250) ++ t251) ++ t252).size : Int) + 4)) > 20000 then (some ((⟨#[]⟩ : ByteArray), false)) else ((spec_Sealed.f kj2 (((t249 ++ t250) ++ t251) ++ t252)).bind fun bt253 => (some (bt253.1, bt253.2)))) else (none)) = some (r1, r2) := H
      have A21 := Aside0.mk A210
      clear A210
      by_cases c22 : ((t249 ++ t250) ++ t251).size + t252.size ≤ 9223372036854775807
      ·rw [if_pos c22] at H
       have c22b0 := eq_true c22
       have c22b1 : decide (((t249 ++ t250) ++ t251).size + t252.size ≤ 9223372036854775807) = true := decide_eq_true c22
       try have c22b2 : (9223372036854775807 < ((t249 ++ t250) ++ t251).size + t252.size) = False := eq_false (Nat.not_lt.2 c22)
       have c22x0 : (9223372036854775807 < t249.size + t250.size + t251.size + t252.size) = False := eq_false (by have h_ := c22; simp only [ByteArray.size_append] at h_; exact Nat.not_lt.2 h_)
       by_cases c23 : (wrap64 (((((t249 ++ t250) ++ t251) ++ t252).size : Int) + 4)) > 20000
       ·rw [if_pos c23] at H
        have c23b0 : decide (20000 < (wrap64 (((((t249 ++ t250) ++ t251) ++ t252).size : Int) + 4))) = true := decide_eq_true c23
        try have c23y0 : decide (20000 < (wrap64 (((t249.size : Int) + (t250.size : Int) + (t251.size : Int) + (t252.size : Int)) + 4))) = true := by simpa only [ByteArray.size_append, Int.natCast_add] using c23b0
        clear c23
        simp only [Option.some.injEq, Prod.mk.injEq] at H
        obtain ⟨rfl, rfl⟩ := H
        try go_wp2
        have n0_ := mk_ (blk_drew BK244.out)
        have n1_ := mk_ (below_drew1 HB.out)
        clear BK244; clear HB; have BK244 := n0_; have HB := n1_; clear n0_ n1_
        refine start_ (n := 15) (S := fun w' => w'.cell? ⟨gb244, 0, none⟩ = some (.int .i64 a0_0) ∧ w'.cell? ⟨gb244, 1, none⟩ = some (.int .i64 a0_1) ∧ w'.cell? ⟨gb244, 2, none⟩ = some (.slice A0_2 l0_2.length c0_2) ∧ w'.cell? ⟨gb244, 3, none⟩ = some (.string a0_3)) (ds := []) #[false, false, false, false, false, false, false, false, false, false, false, false, false, false, false] (by kernel_rfl) rfl rfl ⟨bc_ BK244 0, bc_ BK244 1, bc_ BK244 2, bc_ BK244 3⟩ (fun hHeld => ?_); refine with_tabW spec_SnapText.tab4 spec_SnapText.bits4 (fun HT_ HW_ => ?_)
        generalize wc.drew = w24 at BK244 HB hHeld ⊢
        refine pure_ (i := 0) (N := some 33) (v := ?_) (a' := ?_) #[true, false, false, false, false, false, false, false, false, false, false, false, false, false, false] rfl rfl (any_of HT_.out (by kernel_rfl)) (fun _ _ _ h => h) (Or.inl ⟨by rfl, ?_⟩) ?_ ?_
        rotate_left
        ·intro w'
         go_simp
         with_reducible rfl
        rotate_left
        ·simp only [Act.put, sia_, scz_, scs_, i64_w, i32_w]
         rfl
        refine pure_ (i := 3) (N := some 36) (v := ?_) (a' := ?_) #[true, false, false, true, false, false, false, false, false, false, false, false, false, false, false] rfl rfl (any_of HT_.out (by kernel_rfl)) (fun _ _ _ h => h) (Or.inl ⟨by rfl, ?_⟩) ?_ ?_
        rotate_left
        ·intro w'
         go_simp
         with_reducible rfl
        rotate_left
        ·simp only [Act.put, sia_, scz_, scs_, i64_w, i32_w]
         rfl
        refine pure_ (i := 7) (N := some 40) (v := ?_) (a' := ?_) #[true, false, false, true, false, false, false, true, false, false, false, false, false, false, false] rfl rfl (any_of HT_.out (by kernel_rfl)) (fun _ _ _ h => h) (Or.inl ⟨by rfl, ?_⟩) ?_ ?_
        rotate_left
        ·intro w'
         go_simp
         with_reducible rfl
        rotate_left
        ·simp only [Act.put, sia_, scz_, scs_, i64_w, i32_w]
         rfl
        refine pure_ (i := 10) (N := some 43) (v := ?_) (a' := ?_) #[true, false, false, true, false, false, false, true, false, false, true, false, false, false, false] rfl rfl (any_of HT_.out (by kernel_rfl)) (fun _ _ _ h => h) (Or.inl ⟨by rfl, ?_⟩) ?_ ?_
        rotate_left
        ·intro w'
         go_simp
         with_reducible rfl
        rotate_left
        ·simp only [Act.put, sia_, scz_, scs_, i64_w, i32_w]
         rfl
        refine take_ (i := 1) (N := some 34) (v := ?_) (a' := ?_) #[true, true, false, true, false, false, false, true, false, false, true, false, false, false, false] rfl rfl (take_ofW HT_.out HW_.out (by kernel_rfl)) (fun _ _ _ h => h) (Or.inl ⟨by rfl, ?_⟩) hHeld ?_ ?_
        rotate_left
        ·rintro w' ⟨s0, s1, s2, s3⟩
         go_simp
         with_reducible rfl
        rotate_left
        ·simp only [Act.put, sia_, scz_, scs_, i64_w, i32_w]
         rfl
        refine take_ (i := 4) (N := some 37) (v := ?_) (a' := ?_) #[true, true, false, true, true, false, false, true, false, false, true, false, false, false, false] rfl rfl (take_ofW HT_.out HW_.out (by kernel_rfl)) (fun _ _ _ h => h) (Or.inl ⟨by rfl, ?_⟩) hHeld ?_ ?_
        rotate_left
        ·rintro w' ⟨s0, s1, s2, s3⟩
         go_simp
         with_reducible rfl
        rotate_left
        ·simp only [Act.put, sia_, scz_, scs_, i64_w, i32_w]
         rfl
        refine take_ (i := 11) (N := some 44) (v := ?_) (a' := ?_) #[true, true, false, true, true, false, false, true, false, false, true, true, false, false, false] rfl rfl (take_ofW HT_.out HW_.out (by kernel_rfl)) (fun _ _ _ h => h) (Or.inl ⟨by rfl, ?_⟩) hHeld ?_ ?_
        rotate_left
        ·rintro w' ⟨s0, s1, s2, s3⟩
         go_simp
         with_reducible rfl
        rotate_left
        ·simp only [Act.put, sia_, scz_, scs_, i64_w, i32_w]
         rfl
        refine one_ (i := 2) (N := some 35) #[true, true, true, true, true, false, false, true, false, false, true, true, false, false, false] rfl rfl (one_of HT_.out (by kernel_rfl)) (by decide) (fun K hK => ?_)
        refine goes_ Tryz.func98 (by kernel_rfl) rfl #[.int .i64 a0_0] (by rfl) rfl rfl ga_ ?_
        with_reducible refine (spec_l01Var.calls kj2 a0_0 t249 _ A16.out).mono ?_
        rintro e w25 ⟨rfl, hb⟩
        refine ⟨_, rfl, ?_⟩
        have n0_ := bb_ BK244 hb
        have n1_ := bs_ HB hb
        clear BK244; clear HB; have BK244 := n0_; have HB := n1_; clear n0_ n1_; (try clear hb); (try clear hb2); (try clear hk); (try clear hi)
        refine hK.out _ _ ⟨bc_ BK244 0, bc_ BK244 1, bc_ BK244 2, bc_ BK244 3⟩ (fun hHeld => ?_)
        clear hK K
        refine norm_ (a' := ?_) ?_ ?_
        rotate_left
        ·show Act.put _ (some 35) _ = _
         simp only [Act.put, sia_, scz_, scs_, i64_w, i32_w]
         rfl
        refine one_ (i := 5) (N := some 38) #[true, true, true, true, true, true, false, true, false, false, true, true, false, false, false] rfl rfl (one_of HT_.out (by kernel_rfl)) (by decide) (fun K hK => ?_)
        refine goes_ Tryz.func98 (by kernel_rfl) rfl #[.int .i64 a0_1] (by rfl) rfl rfl ga_ ?_
        with_reducible refine (spec_l01Var.calls kj2 a0_1 t250 _ A17.out).mono ?_
        rintro e w26 ⟨rfl, hb⟩
        refine ⟨_, rfl, ?_⟩
        have n0_ := bb_ BK244 hb
        have n1_ := bs_ HB hb
        clear BK244; clear HB; have BK244 := n0_; have HB := n1_; clear n0_ n1_; (try clear hb); (try clear hb2); (try clear hk); (try clear hi)
        refine hK.out _ _ ⟨bc_ BK244 0, bc_ BK244 1, bc_ BK244 2, bc_ BK244 3⟩ (fun hHeld => ?_)
        clear hK K
        refine norm_ (a' := ?_) ?_ ?_
        rotate_left
        ·show Act.put _ (some 38) _ = _
         simp only [Act.put, sia_, scz_, scs_, i64_w, i32_w]
         rfl
        refine pure_ (i := 6) (N := some 39) (v := ?_) (a' := ?_) #[true, true, true, true, true, true, true, true, false, false, true, true, false, false, false] rfl rfl (any_of HT_.out (by kernel_rfl)) (fun _ _ _ h => h) (Or.inl ⟨by rfl, ?_⟩) ?_ ?_
        rotate_left
        ·intro w'
         go_simp
         with_reducible rfl
        rotate_left
        ·simp only [Act.put, sia_, scz_, scs_, i64_w, i32_w]
         rfl
        refine one_ (i := 8) (N := some 41) #[true, true, true, true, true, true, true, true, true, false, true, true, false, false, false] rfl rfl (one_of HT_.out (by kernel_rfl)) (by decide) (fun K hK => ?_)
        refine goes_ Tryz.func125 (by kernel_rfl) rfl #[.string t245] (by rfl) rfl rfl ga_ ?_
        with_reducible refine (spec_l05Short.calls kj2 t245 t251 _ A19.out).mono ?_
        rintro e w27 ⟨rfl, hb⟩
        refine ⟨_, rfl, ?_⟩
        have n0_ := bb_ BK244 hb
        have n1_ := bs_ HB hb
        clear BK244; clear HB; have BK244 := n0_; have HB := n1_; clear n0_ n1_; (try clear hb); (try clear hb2); (try clear hk); (try clear hi)
        refine hK.out _ _ ⟨bc_ BK244 0, bc_ BK244 1, bc_ BK244 2, bc_ BK244 3⟩ (fun hHeld => ?_)
        clear hK K
        refine norm_ (a' := ?_) ?_ ?_
        rotate_left
        ·show Act.put _ (some 41) _ = _
         simp only [Act.put, sia_, scz_, scs_, i64_w, i32_w]
         rfl
        refine pure_ (i := 9) (N := some 42) (v := ?_) (a' := ?_) #[true, true, true, true, true, true, true, true, true, true, true, true, false, false, false] rfl rfl (any_of HT_.out (by kernel_rfl)) (fun _ _ _ h => h) (Or.inl ⟨by rfl, ?_⟩) ?_ ?_
        rotate_left
        ·intro w'
         go_simp
         with_reducible rfl
        rotate_left
        ·simp only [Act.put, sia_, scz_, scs_, i64_w, i32_w]
         rfl
        refine one_ (i := 12) (N := some 45) #[true, true, true, true, true, true, true, true, true, true, true, true, true, false, false] rfl rfl (one_of HT_.out (by kernel_rfl)) (by decide) (fun K hK => ?_)
        refine goes_ Tryz.func125 (by kernel_rfl) rfl #[.string a0_3] (by rfl) rfl rfl ga_ ?_
        with_reducible refine (spec_l05Short.calls kj2 a0_3 t252 _ A21.out).mono ?_
        rintro e w28 ⟨rfl, hb⟩
        refine ⟨_, rfl, ?_⟩
        have n0_ := bb_ BK244 hb
        have n1_ := bs_ HB hb
        clear BK244; clear HB; have BK244 := n0_; have HB := n1_; clear n0_ n1_; (try clear hb); (try clear hb2); (try clear hk); (try clear hi)
        refine hK.out _ _ ⟨bc_ BK244 0, bc_ BK244 1, bc_ BK244 2, bc_ BK244 3⟩ (fun hHeld => ?_)
        clear hK K
        refine norm_ (a' := ?_) ?_ ?_
        rotate_left
        ·show Act.put _ (some 45) _ = _
         simp only [Act.put, sia_, scz_, scs_, i64_w, i32_w]
         rfl
        refine pure_ (i := 13) (N := some 46) (v := ?_) (a' := ?_) #[true, true, true, true, true, true, true, true, true, true, true, true, true, true, false] rfl rfl (any_of HT_.out (by kernel_rfl)) (fun _ _ _ h => h) (Or.inl ⟨by rfl, ?_⟩) ?_ ?_
        rotate_left
        ·intro w'
         go_simp
         with_reducible rfl
        rotate_left
        ·simp only [Act.put, sia_, scz_, scs_, i64_w, i32_w]
         rfl
        refine pure_ (i := 14) (N := some 6) (v := ?_) (a' := ?_) #[true, true, true, true, true, true, true, true, true, true, true, true, true, true, true] rfl rfl (any_of HT_.out (by kernel_rfl)) (fun _ _ _ h => h) (Or.inl ⟨by rfl, ?_⟩) ?_ ?_
        rotate_left
        ·intro w'
         go_simp
         with_reducible rfl
        rotate_left
        ·simp only [Act.put, sia_, scz_, scs_, i64_w, i32_w]
         rfl
        refine done_ (done_of HT_.out (by kernel_rfl)) ?_
        try go_wp2
        go_ret2
        exact ⟨er_, bw_ HB⟩
       ·rw [if_neg c23] at H
        have c23b0 : decide (20000 < (wrap64 (((((t249 ++ t250) ++ t251) ++ t252).size : Int) + 4))) = false := decide_eq_false c23
        try have c23y0 : decide (20000 < (wrap64 (((t249.size : Int) + (t250.size : Int) + (t251.size : Int) + (t252.size : Int)) + 4))) = false := by simpa only [ByteArray.size_append, Int.natCast_add] using c23b0
        clear c23
        replace H := Option.bind_eq_some_iff.mp H
        obtain ⟨⟨t253, t254⟩, A290, H⟩ := H
        replace H : (some (t253, t254)) = some (r1, r2) := H
        have A29 := Aside0.mk A290
        clear A290
        simp only [Option.some.injEq, Prod.mk.injEq] at H
        obtain ⟨rfl, rfl⟩ := H
        try go_wp2
        have n0_ := mk_ (blk_drew BK244.out)
        have n1_ := mk_ (below_drew1 HB.out)
        clear BK244; clear HB; have BK244 := n0_; have HB := n1_; clear n0_ n1_
        refine start_ (n := 15) (S := fun w' => w'.cell? ⟨gb244, 0, none⟩ = some (.int .i64 a0_0) ∧ w'.cell? ⟨gb244, 1, none⟩ = some (.int .i64 a0_1) ∧ w'.cell? ⟨gb244, 2, none⟩ = some (.slice A0_2 l0_2.length c0_2) ∧ w'.cell? ⟨gb244, 3, none⟩ = some (.string a0_3)) (ds := []) #[false, false, false, false, false, false, false, false, false, false, false, false, false, false, false] (by kernel_rfl) rfl rfl ⟨bc_ BK244 0, bc_ BK244 1, bc_ BK244 2, bc_ BK244 3⟩ (fun hHeld => ?_); refine with_tabW spec_SnapText.tab4 spec_SnapText.bits4 (fun HT_ HW_ => ?_)
        generalize wc.drew = w30 at BK244 HB hHeld ⊢
        refine pure_ (i := 0) (N := some 33) (v := ?_) (a' := ?_) #[true, false, false, false, false, false, false, false, false, false, false, false, false, false, false] rfl rfl (any_of HT_.out (by kernel_rfl)) (fun _ _ _ h => h) (Or.inl ⟨by rfl, ?_⟩) ?_ ?_
        rotate_left
        ·intro w'
         go_simp
         with_reducible rfl
        rotate_left
        ·simp only [Act.put, sia_, scz_, scs_, i64_w, i32_w]
         rfl
        refine pure_ (i := 3) (N := some 36) (v := ?_) (a' := ?_) #[true, false, false, true, false, false, false, false, false, false, false, false, false, false, false] rfl rfl (any_of HT_.out (by kernel_rfl)) (fun _ _ _ h => h) (Or.inl ⟨by rfl, ?_⟩) ?_ ?_
        rotate_left
        ·intro w'
         go_simp
         with_reducible rfl
        rotate_left
        ·simp only [Act.put, sia_, scz_, scs_, i64_w, i32_w]
         rfl
        refine pure_ (i := 7) (N := some 40) (v := ?_) (a' := ?_) #[true, false, false, true, false, false, false, true, false, false, false, false, false, false, false] rfl rfl (any_of HT_.out (by kernel_rfl)) (fun _ _ _ h => h) (Or.inl ⟨by rfl, ?_⟩) ?_ ?_
        rotate_left
        ·intro w'
         go_simp
         with_reducible rfl
        rotate_left
        ·simp only [Act.put, sia_, scz_, scs_, i64_w, i32_w]
         rfl
        refine pure_ (i := 10) (N := some 43) (v := ?_) (a' := ?_) #[true, false, false, true, false, false, false, true, false, false, true, false, false, false, false] rfl rfl (any_of HT_.out (by kernel_rfl)) (fun _ _ _ h => h) (Or.inl ⟨by rfl, ?_⟩) ?_ ?_
        rotate_left
        ·intro w'
         go_simp
         with_reducible rfl
        rotate_left
        ·simp only [Act.put, sia_, scz_, scs_, i64_w, i32_w]
         rfl
        refine take_ (i := 1) (N := some 34) (v := ?_) (a' := ?_) #[true, true, false, true, false, false, false, true, false, false, true, false, false, false, false] rfl rfl (take_ofW HT_.out HW_.out (by kernel_rfl)) (fun _ _ _ h => h) (Or.inl ⟨by rfl, ?_⟩) hHeld ?_ ?_
        rotate_left
        ·rintro w' ⟨s0, s1, s2, s3⟩
         go_simp
         with_reducible rfl
        rotate_left
        ·simp only [Act.put, sia_, scz_, scs_, i64_w, i32_w]
         rfl
        refine take_ (i := 4) (N := some 37) (v := ?_) (a' := ?_) #[true, true, false, true, true, false, false, true, false, false, true, false, false, false, false] rfl rfl (take_ofW HT_.out HW_.out (by kernel_rfl)) (fun _ _ _ h => h) (Or.inl ⟨by rfl, ?_⟩) hHeld ?_ ?_
        rotate_left
        ·rintro w' ⟨s0, s1, s2, s3⟩
         go_simp
         with_reducible rfl
        rotate_left
        ·simp only [Act.put, sia_, scz_, scs_, i64_w, i32_w]
         rfl
        refine take_ (i := 11) (N := some 44) (v := ?_) (a' := ?_) #[true, true, false, true, true, false, false, true, false, false, true, true, false, false, false] rfl rfl (take_ofW HT_.out HW_.out (by kernel_rfl)) (fun _ _ _ h => h) (Or.inl ⟨by rfl, ?_⟩) hHeld ?_ ?_
        rotate_left
        ·rintro w' ⟨s0, s1, s2, s3⟩
         go_simp
         with_reducible rfl
        rotate_left
        ·simp only [Act.put, sia_, scz_, scs_, i64_w, i32_w]
         rfl
        refine one_ (i := 2) (N := some 35) #[true, true, true, true, true, false, false, true, false, false, true, true, false, false, false] rfl rfl (one_of HT_.out (by kernel_rfl)) (by decide) (fun K hK => ?_)
        refine goes_ Tryz.func98 (by kernel_rfl) rfl #[.int .i64 a0_0] (by rfl) rfl rfl ga_ ?_
        with_reducible refine (spec_l01Var.calls kj2 a0_0 t249 _ A16.out).mono ?_
        rintro e w31 ⟨rfl, hb⟩
        refine ⟨_, rfl, ?_⟩
        have n0_ := bb_ BK244 hb
        have n1_ := bs_ HB hb
        clear BK244; clear HB; have BK244 := n0_; have HB := n1_; clear n0_ n1_; (try clear hb); (try clear hb2); (try clear hk); (try clear hi)
        refine hK.out _ _ ⟨bc_ BK244 0, bc_ BK244 1, bc_ BK244 2, bc_ BK244 3⟩ (fun hHeld => ?_)
        clear hK K
        refine norm_ (a' := ?_) ?_ ?_
        rotate_left
        ·show Act.put _ (some 35) _ = _
         simp only [Act.put, sia_, scz_, scs_, i64_w, i32_w]
         rfl
        refine one_ (i := 5) (N := some 38) #[true, true, true, true, true, true, false, true, false, false, true, true, false, false, false] rfl rfl (one_of HT_.out (by kernel_rfl)) (by decide) (fun K hK => ?_)
        refine goes_ Tryz.func98 (by kernel_rfl) rfl #[.int .i64 a0_1] (by rfl) rfl rfl ga_ ?_
        with_reducible refine (spec_l01Var.calls kj2 a0_1 t250 _ A17.out).mono ?_
        rintro e w32 ⟨rfl, hb⟩
        refine ⟨_, rfl, ?_⟩
        have n0_ := bb_ BK244 hb
        have n1_ := bs_ HB hb
        clear BK244; clear HB; have BK244 := n0_; have HB := n1_; clear n0_ n1_; (try clear hb); (try clear hb2); (try clear hk); (try clear hi)
        refine hK.out _ _ ⟨bc_ BK244 0, bc_ BK244 1, bc_ BK244 2, bc_ BK244 3⟩ (fun hHeld => ?_)
        clear hK K
        refine norm_ (a' := ?_) ?_ ?_
        rotate_left
        ·show Act.put _ (some 38) _ = _
         simp only [Act.put, sia_, scz_, scs_, i64_w, i32_w]
         rfl
        refine pure_ (i := 6) (N := some 39) (v := ?_) (a' := ?_) #[true, true, true, true, true, true, true, true, false, false, true, true, false, false, false] rfl rfl (any_of HT_.out (by kernel_rfl)) (fun _ _ _ h => h) (Or.inl ⟨by rfl, ?_⟩) ?_ ?_
        rotate_left
        ·intro w'
         go_simp
         with_reducible rfl
        rotate_left
        ·simp only [Act.put, sia_, scz_, scs_, i64_w, i32_w]
         rfl
        refine one_ (i := 8) (N := some 41) #[true, true, true, true, true, true, true, true, true, false, true, true, false, false, false] rfl rfl (one_of HT_.out (by kernel_rfl)) (by decide) (fun K hK => ?_)
        refine goes_ Tryz.func125 (by kernel_rfl) rfl #[.string t245] (by rfl) rfl rfl ga_ ?_
        with_reducible refine (spec_l05Short.calls kj2 t245 t251 _ A19.out).mono ?_
        rintro e w33 ⟨rfl, hb⟩
        refine ⟨_, rfl, ?_⟩
        have n0_ := bb_ BK244 hb
        have n1_ := bs_ HB hb
        clear BK244; clear HB; have BK244 := n0_; have HB := n1_; clear n0_ n1_; (try clear hb); (try clear hb2); (try clear hk); (try clear hi)
        refine hK.out _ _ ⟨bc_ BK244 0, bc_ BK244 1, bc_ BK244 2, bc_ BK244 3⟩ (fun hHeld => ?_)
        clear hK K
        refine norm_ (a' := ?_) ?_ ?_
        rotate_left
        ·show Act.put _ (some 41) _ = _
         simp only [Act.put, sia_, scz_, scs_, i64_w, i32_w]
         rfl
        refine pure_ (i := 9) (N := some 42) (v := ?_) (a' := ?_) #[true, true, true, true, true, true, true, true, true, true, true, true, false, false, false] rfl rfl (any_of HT_.out (by kernel_rfl)) (fun _ _ _ h => h) (Or.inl ⟨by rfl, ?_⟩) ?_ ?_
        rotate_left
        ·intro w'
         go_simp
         with_reducible rfl
        rotate_left
        ·simp only [Act.put, sia_, scz_, scs_, i64_w, i32_w]
         rfl
        refine one_ (i := 12) (N := some 45) #[true, true, true, true, true, true, true, true, true, true, true, true, true, false, false] rfl rfl (one_of HT_.out (by kernel_rfl)) (by decide) (fun K hK => ?_)
        refine goes_ Tryz.func125 (by kernel_rfl) rfl #[.string a0_3] (by rfl) rfl rfl ga_ ?_
        with_reducible refine (spec_l05Short.calls kj2 a0_3 t252 _ A21.out).mono ?_
        rintro e w34 ⟨rfl, hb⟩
        refine ⟨_, rfl, ?_⟩
        have n0_ := bb_ BK244 hb
        have n1_ := bs_ HB hb
        clear BK244; clear HB; have BK244 := n0_; have HB := n1_; clear n0_ n1_; (try clear hb); (try clear hb2); (try clear hk); (try clear hi)
        refine hK.out _ _ ⟨bc_ BK244 0, bc_ BK244 1, bc_ BK244 2, bc_ BK244 3⟩ (fun hHeld => ?_)
        clear hK K
        refine norm_ (a' := ?_) ?_ ?_
        rotate_left
        ·show Act.put _ (some 45) _ = _
         simp only [Act.put, sia_, scz_, scs_, i64_w, i32_w]
         rfl
        refine pure_ (i := 13) (N := some 46) (v := ?_) (a' := ?_) #[true, true, true, true, true, true, true, true, true, true, true, true, true, true, false] rfl rfl (any_of HT_.out (by kernel_rfl)) (fun _ _ _ h => h) (Or.inl ⟨by rfl, ?_⟩) ?_ ?_
        rotate_left
        ·intro w'
         go_simp
         with_reducible rfl
        rotate_left
        ·simp only [Act.put, sia_, scz_, scs_, i64_w, i32_w]
         rfl
        refine pure_ (i := 14) (N := some 6) (v := ?_) (a' := ?_) #[true, true, true, true, true, true, true, true, true, true, true, true, true, true, true] rfl rfl (any_of HT_.out (by kernel_rfl)) (fun _ _ _ h => h) (Or.inl ⟨by rfl, ?_⟩) ?_ ?_
        rotate_left
        ·intro w'
         go_simp
         with_reducible rfl
        rotate_left
        ·simp only [Act.put, sia_, scz_, scs_, i64_w, i32_w]
         rfl
        refine done_ (done_of HT_.out (by kernel_rfl)) ?_
        try go_wp2_with (first | ((with_reducible refine gate_callee (f := 126) rfl ?_); refine goesL_ (some 52) rfl rfl Tryz.func126 (by kernel_rfl) rfl #[.string (((t249 ++ t250) ++ t251) ++ t252)] rfl ga_ ?_; (with_reducible refine (spec_Sealed.calls kj2 (((t249 ++ t250) ++ t251) ++ t252) t253 t254 _ A29.out).mono ?_); rintro e w35 ⟨rfl, hb⟩; refine ⟨_, rfl, ?_⟩; replace BK244 := bb_ BK244 hb; replace HB := bs_ HB hb; (try clear hb)))
        go_ret2
        exact ⟨er_, bw_ HB⟩
      ·rw [if_neg c22] at H
       exact absurd H (by simp)
     ·rw [if_neg c20] at H
      exact absurd H (by simp)
    ·rw [if_neg c18] at H
     exact absurd H (by simp)

/-! ### spec_ReadSnap: function 49 -/
def spec_ReadSnap.f (k : Nat) (a0 : ByteArray) : Option (Int × Int × List Int × ByteArray × Bool) := (spec_Unsealed.f k a0).bind fun bt256 => ((spec_l05Var.f k bt256.1 0 (!bt256.2)).bind fun bt260 => ((spec_l05Var.f k bt260.2.1 bt260.2.2.1 bt260.2.2.2).bind fun bt264 => ((spec_l05ReadShort.f k bt264.2.1 bt264.2.2.1 bt264.2.2.2).bind fun bt268 => ((spec_ReadConf.f k bt268.1).bind fun bt272 => ((spec_l05ReadShort.f k bt268.2.1 bt268.2.2.1 bt268.2.2.2).bind fun bt276 => ((spec_SnapText.f k bt260.1 bt264.1 bt272.1 bt276.1).bind fun bt280 => (if bt276.2.2.2 = true then (some (0, 0, ([] : List Int), (⟨#[]⟩ : ByteArray), false)) else (if bt280.2 = true then (if bt280.1.toList = a0.toList then (some (bt260.1, bt264.1, bt272.1, bt276.1, true)) else (some (0, 0, ([] : List Int), (⟨#[]⟩ : ByteArray), false))) else (some (0, 0, ([] : List Int), (⟨#[]⟩ : ByteArray), false))))))))))
theorem spec_ReadSnap.mono : ∀ a0 k, LeO (spec_ReadSnap.f k a0) (spec_ReadSnap.f (k + 1) a0) := by
 intro a0 k
 unfold spec_ReadSnap.f
 repeat' first
   | (with_reducible exact spec_ReadConf.mono _ _)
   | (with_reducible exact spec_SnapText.mono _ _ _ _ _)
   | (with_reducible exact spec_Unsealed.mono _ _)
   | (with_reducible exact spec_l05ReadShort.mono _ _ _ _)
   | (with_reducible exact spec_l05Var.mono _ _ _ _)
   | (with_reducible exact LeO.refl _)
   | (with_reducible refine LeO.bind ?_ (fun _ => ?_))
set_option maxHeartbeats 8000000 in
set_option maxRecDepth 100000 in
theorem spec_ReadSnap.calls (k : Nat) (a0 : ByteArray) (r1 : Int) (r2 : Int) (r3 : List Int) (r4 : ByteArray) (r5 : Bool) (w : World) (h : spec_ReadSnap.f k a0 = some (r1, r2, r3, r4, r5)) :
  Calls Tryz.prog 49 #[.string a0] w fun e w' => ∃ v2_ : Value, e = .returned (.tuple #[.agg #[.int .i64 r1, .int .i64 r2, v2_, .string r4], .bool r5]) ∧ Kd.R (Kd.int .i64) 3 w' w.heap.size (fun _ => True) v2_ r3 ∧ Below w.heap.size w w' := by
 have hu47 := Tryz.underlying47
 have hu110 := Tryz.underlying110
 have HB := mk_ (Below.refl w.heap.size w)
 have H : ((spec_Unsealed.f k a0).bind fun bt256 => ((spec_l05Var.f k bt256.1 0 (!bt256.2)).bind fun bt260 => ((spec_l05Var.f k bt260.2.1 bt260.2.2.1 bt260.2.2.2).bind fun bt264 => ((spec_l05ReadShort.f k bt264.2.1 bt264.2.2.1 bt264.2.2.2).bind fun bt268 => ((spec_ReadConf.f k bt268.1).bind fun bt272 => ((spec_l05ReadShort.f k bt268.2.1 bt268.2.2.1 bt268.2.2.2).bind fun bt276 => ((spec_SnapText.f k bt260.1 bt264.1 bt272.1 bt276.1).bind fun bt280 => (if bt276.2.2.2 = true then (some (0, 0, ([] : List Int), (⟨#[]⟩ : ByteArray), false)) else (if bt280.2 = true then (if bt280.1.toList = a0.toList then (some (bt260.1, bt264.1, bt272.1, bt276.1, true)) else (some (0, 0, ([] : List Int), (⟨#[]⟩ : ByteArray), false))) else (some (0, 0, ([] : List Int), (⟨#[]⟩ : ByteArray), false))))))))))) = some (r1, r2, r3, r4, r5) := h
 clear h
 replace H := Option.bind_eq_some_iff.mp H
 obtain ⟨⟨t256, t257⟩, A20, H⟩ := H
 replace H : ((spec_l05Var.f k t256 0 (!t257)).bind fun bt260 => ((spec_l05Var.f k bt260.2.1 bt260.2.2.1 bt260.2.2.2).bind fun bt264 => ((spec_l05ReadShort.f k bt264.2.1 bt264.2.2.1 bt264.2.2.2).bind fun bt268 => ((spec_ReadConf.f k bt268.1).bind fun bt272 => ((spec_l05ReadShort.f k bt268.2.1 bt268.2.2.1 bt268.2.2.2).bind fun bt276 => ((spec_SnapText.f k bt260.1 bt264.1 bt272.1 bt276.1).bind fun bt280 => (if bt276.2.2.2 = true then (some (0, 0, ([] : List Int), (⟨#[]⟩ : ByteArray), false)) else (if bt280.2 = true then (if bt280.1.toList = a0.toList then (some (bt260.1, bt264.1, bt272.1, bt276.1, true)) else (some (0, 0, ([] : List Int), (⟨#[]⟩ : ByteArray), false))) else (some (0, 0, ([] : List Int), (⟨#[]⟩ : ByteArray), false)))))))))) = some (r1, r2, r3, r4, r5) := H
 have A2 := Aside0.mk A20
 clear A20
 replace H := Option.bind_eq_some_iff.mp H
 obtain ⟨⟨t260, t261, t262, t263⟩, A30, H⟩ := H
 replace H : ((spec_l05Var.f k t261 t262 t263).bind fun bt264 => ((spec_l05ReadShort.f k bt264.2.1 bt264.2.2.1 bt264.2.2.2).bind fun bt268 => ((spec_ReadConf.f k bt268.1).bind fun bt272 => ((spec_l05ReadShort.f k bt268.2.1 bt268.2.2.1 bt268.2.2.2).bind fun bt276 => ((spec_SnapText.f k t260 bt264.1 bt272.1 bt276.1).bind fun bt280 => (if bt276.2.2.2 = true then (some (0, 0, ([] : List Int), (⟨#[]⟩ : ByteArray), false)) else (if bt280.2 = true then (if bt280.1.toList = a0.toList then (some (t260, bt264.1, bt272.1, bt276.1, true)) else (some (0, 0, ([] : List Int), (⟨#[]⟩ : ByteArray), false))) else (some (0, 0, ([] : List Int), (⟨#[]⟩ : ByteArray), false))))))))) = some (r1, r2, r3, r4, r5) := H
 have A3 := Aside0.mk A30
 clear A30
 replace H := Option.bind_eq_some_iff.mp H
 obtain ⟨⟨t264, t265, t266, t267⟩, A40, H⟩ := H
 replace H : ((spec_l05ReadShort.f k t265 t266 t267).bind fun bt268 => ((spec_ReadConf.f k bt268.1).bind fun bt272 => ((spec_l05ReadShort.f k bt268.2.1 bt268.2.2.1 bt268.2.2.2).bind fun bt276 => ((spec_SnapText.f k t260 t264 bt272.1 bt276.1).bind fun bt280 => (if bt276.2.2.2 = true then (some (0, 0, ([] : List Int), (⟨#[]⟩ : ByteArray), false)) else (if bt280.2 = true then (if bt280.1.toList = a0.toList then (some (t260, t264, bt272.1, bt276.1, true)) else (some (0, 0, ([] : List Int), (⟨#[]⟩ : ByteArray), false))) else (some (0, 0, ([] : List Int), (⟨#[]⟩ : ByteArray), false)))))))) = some (r1, r2, r3, r4, r5) := H
 have A4 := Aside0.mk A40
 clear A40
 replace H := Option.bind_eq_some_iff.mp H
 obtain ⟨⟨t268, t269, t270, t271⟩, A50, H⟩ := H
 replace H : ((spec_ReadConf.f k t268).bind fun bt272 => ((spec_l05ReadShort.f k t269 t270 t271).bind fun bt276 => ((spec_SnapText.f k t260 t264 bt272.1 bt276.1).bind fun bt280 => (if bt276.2.2.2 = true then (some (0, 0, ([] : List Int), (⟨#[]⟩ : ByteArray), false)) else (if bt280.2 = true then (if bt280.1.toList = a0.toList then (some (t260, t264, bt272.1, bt276.1, true)) else (some (0, 0, ([] : List Int), (⟨#[]⟩ : ByteArray), false))) else (some (0, 0, ([] : List Int), (⟨#[]⟩ : ByteArray), false))))))) = some (r1, r2, r3, r4, r5) := H
 have A5 := Aside0.mk A50
 clear A50
 replace H := Option.bind_eq_some_iff.mp H
 obtain ⟨⟨t272, t273⟩, A60, H⟩ := H
 replace H : ((spec_l05ReadShort.f k t269 t270 t271).bind fun bt276 => ((spec_SnapText.f k t260 t264 t272 bt276.1).bind fun bt280 => (if bt276.2.2.2 = true then (some (0, 0, ([] : List Int), (⟨#[]⟩ : ByteArray), false)) else (if bt280.2 = true then (if bt280.1.toList = a0.toList then (some (t260, t264, t272, bt276.1, true)) else (some (0, 0, ([] : List Int), (⟨#[]⟩ : ByteArray), false))) else (some (0, 0, ([] : List Int), (⟨#[]⟩ : ByteArray), false)))))) = some (r1, r2, r3, r4, r5) := H
 have A6 := Aside0.mk A60
 clear A60
 replace H := Option.bind_eq_some_iff.mp H
 obtain ⟨⟨t276, t277, t278, t279⟩, A70, H⟩ := H
 replace H : ((spec_SnapText.f k t260 t264 t272 t276).bind fun bt280 => (if t279 = true then (some (0, 0, ([] : List Int), (⟨#[]⟩ : ByteArray), false)) else (if bt280.2 = true then (if bt280.1.toList = a0.toList then (some (t260, t264, t272, t276, true)) else (some (0, 0, ([] : List Int), (⟨#[]⟩ : ByteArray), false))) else (some (0, 0, ([] : List Int), (⟨#[]⟩ : ByteArray), false))))) = some (r1, r2, r3, r4, r5) := H
 have A7 := Aside0.mk A70
 clear A70
 replace H := Option.bind_eq_some_iff.mp H
 obtain ⟨⟨t280, t281⟩, A80, H⟩ := H
 replace H : (if t279 = true then (some (0, 0, ([] : List Int), (⟨#[]⟩ : ByteArray), false)) else (if t281 = true then (if t280.toList = a0.toList then (some (t260, t264, t272, t276, true)) else (some (0, 0, ([] : List Int), (⟨#[]⟩ : ByteArray), false))) else (some (0, 0, ([] : List Int), (⟨#[]⟩ : ByteArray), false)))) = some (r1, r2, r3, r4, r5) := H
 have A8 := Aside0.mk A80
 clear A80
 by_cases c9 : t279 = true
 ·subst c9
  have H1 : (some (0, 0, ([] : List Int), (⟨#[]⟩ : ByteArray), false)) = some (r1, r2, r3, r4, r5) := by rw [if_pos rfl] at H; exact H
  clear H
  have H := H1
  clear H1
  simp only [Option.some.injEq, Prod.mk.injEq] at H
  obtain ⟨rfl, rfl, rfl, rfl, rfl⟩ := H
  go_enter Tryz.func49, Tryz.ntmps49
  go_wp2_with (first | ((with_reducible refine gate_dst (N := 2) rfl ?_); refine bx_ (N := 2) (cs := #[.int .i64 0, .int .i64 0, .slice none 0 0, .string (⟨#[]⟩ : ByteArray)]) (t := 47) ?_; intro gb255 hg w10 hbox hb; have BK255 := mk_ (hbox); have GW255 : Aside0 (w.heap.size ≤ gb255) := bz_ hg; have GE255 := GW255; replace HB := bs_ HB hb; clear hb hbox hg) | ((with_reducible refine gate_callee (f := 85) rfl ?_); refine goesL_ (some 12) rfl rfl Tryz.func85 (by kernel_rfl) rfl #[.string a0] rfl ga_ ?_; (with_reducible refine (spec_Unsealed.calls k a0 t256 t257 _ A2.out).mono ?_); rintro e w11 ⟨rfl, hb⟩; refine ⟨_, rfl, ?_⟩; replace BK255 := bb_ BK255 hb; replace HB := bs_ HB hb; (try clear hb); (try clear hk); (try clear hi)) | ((with_reducible refine gate_dst (N := 19) rfl ?_); refine bx_ (N := 19) (cs := #[.string t256, .int .i64 0, .bool (!t257)]) (t := 110) ?_; intro gb258 hg w12 hbox hb; have GW258 : Aside0 (w.heap.size ≤ gb258) := bz_ hg; have GE258 := GW258; have NB255_258 := bl_ BK255 hg; have NB258_255 := bg_ BK255 hg; have HI258 := mk_ ((⟨hbox, (by rw [hg]; exact (below_size (bw_ HB)) : w.heap.size ≤ gb258)⟩ : IsS110 w w12 gb258 t256 0 (!t257))); replace BK255 := bb_ BK255 hb; replace HB := bs_ HB hb; clear hb hbox hg) | ((with_reducible refine gate_dst (N := 7) rfl ?_); refine bx_ (N := 7) (cs := #[.int .i64 0, .int .i64 0, .slice none 0 0, .string (⟨#[]⟩ : ByteArray)]) (t := 47) ?_; intro gb259 hg w13 hbox hb; have n0_ := bb_ BK255 hb; have n1_ := mk_ (IsS110.below (IsS110.ii_ HI258) hb); have n2_ := mk_ (below_step (bwi_ HB (IsS110.ge HI258.out)) hb); have n3_ := mk_ (hbox); have n4_ := mk_ ((by rw [hg]; exact (below_size (bwi_ HB (IsS110.ge HI258.out))) : w.heap.size ≤ gb259)); have n5_ := mk_ ((by rw [hg]; exact (below_size (bwi_ HB (IsS110.ge HI258.out))) : w.heap.size ≤ gb259)); have n6_ : Aside0 (gb255 ≠ gb259) := bl_ BK255 hg; have n7_ : Aside0 (gb259 ≠ gb255) := bg_ BK255 hg; have n8_ := mk_ ((by rw [hg]; exact Nat.ne_of_lt (IsS110.lt (show IsS110 w _ gb258 t256 0 (!t257) from IsS110.ii_ HI258)) : gb258 ≠ gb259)); have n9_ := mk_ ((by rw [hg]; exact Nat.ne_of_gt (IsS110.lt (show IsS110 w _ gb258 t256 0 (!t257) from IsS110.ii_ HI258)) : gb259 ≠ gb258)); clear BK255; clear HI258; clear HB; have BK255 := n0_; have HI258 := n1_; have HB := n2_; have BK259 := n3_; have GW259 := n4_; have GE259 := n5_; have NB255_259 := n6_; have NB259_255 := n7_; have NB258_259 := n8_; have NB259_258 := n9_; clear n0_ n1_ n2_ n3_ n4_ n5_ n6_ n7_ n8_ n9_; clear hb hbox hg; have hnb14 := NB259_255.out; have hnc14 := NB255_259.out; have hnb15 := NB259_258.out; have hnc15 := NB258_259.out; obtain ⟨hcz16_0, hcz16_1, hcz16_2, hcz16_3, hfz16_0, hfz16_1, hfz16_2, hfz16_3⟩ := b4_ BK259) | ((with_reducible refine gate_callee (f := 86) rfl ?_); refine goesL_ (some 22) rfl rfl Tryz.func86 (by kernel_rfl) rfl #[.pointer (some ⟨gb258, 0, none⟩)] rfl ga_ ?_; (with_reducible refine (spec_l05Var.calls k gb258 t256 0 (!t257) t260 t261 t262 t263 w _ ?side1 ?side2 A3.out).mono ?_); (case side1 => exact IsS110.ii_ HI258); (case side2 => exact bwi_ HB (IsS110.ge HI258.out)); rintro e w17 ⟨rfl, hi, hb, hk⟩; refine ⟨_, rfl, ?_⟩; replace BK255 := mk_ (KeepBut.blk hk (g' := gb255) (o := .cells #[.int .i64 0, .int .i64 0, .slice none 0 0, .string (⟨#[]⟩ : ByteArray)] 47 (0, 0)) bf_ NB255_258.out (by simp)); replace BK259 := mk_ (KeepBut.blk hk (g' := gb259) (o := .cells #[.int .i64 0, .int .i64 0, .slice none 0 0, .string (⟨#[]⟩ : ByteArray)] 47 (0, 0)) bu_ NB259_258.out (by simp)); replace HB := mk_ (hb); replace HI258 := mk_ (hi); (try clear hb); (try clear hk); (try clear hi); obtain ⟨hcz18_0, hcz18_1, hcz18_2, hcz18_3, hfz18_0, hfz18_1, hfz18_2, hfz18_3⟩ := b4_ BK259) | ((with_reducible refine gate_callee (f := 86) rfl ?_); refine goesL_ (some 25) rfl rfl Tryz.func86 (by kernel_rfl) rfl #[.pointer (some ⟨gb258, 0, none⟩)] rfl ga_ ?_; (with_reducible refine (spec_l05Var.calls k gb258 t261 t262 t263 t264 t265 t266 t267 w _ ?side1 ?side2 A4.out).mono ?_); (case side1 => exact IsS110.ii_ HI258); (case side2 => exact bwi_ HB (IsS110.ge HI258.out)); rintro e w19 ⟨rfl, hi, hb, hk⟩; refine ⟨_, rfl, ?_⟩; replace BK255 := mk_ (KeepBut.blk hk (g' := gb255) (o := .cells #[.int .i64 0, .int .i64 0, .slice none 0 0, .string (⟨#[]⟩ : ByteArray)] 47 (0, 0)) bf_ NB255_258.out (by simp)); replace BK259 := mk_ (KeepBut.blk hk (g' := gb259) (o := .cells #[.int .i64 t260, .int .i64 0, .slice none 0 0, .string (⟨#[]⟩ : ByteArray)] 47 (0, 0)) bu_ NB259_258.out (by simp)); replace HB := mk_ (hb); replace HI258 := mk_ (hi); (try clear hb); (try clear hk); (try clear hi); obtain ⟨hcz20_0, hcz20_1, hcz20_2, hcz20_3, hfz20_0, hfz20_1, hfz20_2, hfz20_3⟩ := b4_ BK259) | ((with_reducible refine gate_callee (f := 88) rfl ?_); refine goesL_ (some 29) rfl rfl Tryz.func88 (by kernel_rfl) rfl #[.pointer (some ⟨gb258, 0, none⟩)] rfl ga_ ?_; (with_reducible refine (spec_l05ReadShort.calls k gb258 t265 t266 t267 t268 t269 t270 t271 w _ ?side1 ?side2 A5.out).mono ?_); (case side1 => exact IsS110.ii_ HI258); (case side2 => exact bwi_ HB (IsS110.ge HI258.out)); rintro e w21 ⟨rfl, hi, hb, hk⟩; refine ⟨_, rfl, ?_⟩; replace BK255 := mk_ (KeepBut.blk hk (g' := gb255) (o := .cells #[.int .i64 0, .int .i64 0, .slice none 0 0, .string (⟨#[]⟩ : ByteArray)] 47 (0, 0)) bf_ NB255_258.out (by simp)); replace BK259 := mk_ (KeepBut.blk hk (g' := gb259) (o := .cells #[.int .i64 t260, .int .i64 t264, .slice none 0 0, .string (⟨#[]⟩ : ByteArray)] 47 (0, 0)) bu_ NB259_258.out (by simp)); replace HB := mk_ (hb); replace HI258 := mk_ (hi); (try clear hb); (try clear hk); (try clear hi)) | ((with_reducible refine gate_callee (f := 87) rfl ?_); refine goesL_ (some 30) rfl rfl Tryz.func87 (by kernel_rfl) rfl #[.string t268] rfl ga_ ?_; (with_reducible refine (spec_ReadConf.calls k t268 t272 t273 _ A6.out).mono ?_); rintro e w22 ⟨v274, rfl, ho0, hb⟩; refine ⟨_, rfl, ?_⟩; have n0_ := mk_ (Kd.R_lower ho0 (below_size (bwi_ HB (IsS110.ge HI258.out)))); have n1_ := bb_ BK255 hb; have n2_ := mk_ (IsS110.below (IsS110.ii_ HI258) hb); have n3_ := bb_ BK259 hb; have n4_ := mk_ (below_step (bwi_ HB (IsS110.ge HI258.out)) hb); clear BK255; clear HI258; clear BK259; clear HB; have HO275 := n0_; have BK255 := n1_; have HI258 := n2_; have BK259 := n3_; have HB := n4_; clear n0_ n1_ n2_ n3_ n4_; (try clear hb); (try clear hk); (try clear hi); (try clear ho0); obtain ⟨Ao23, co23, eo23⟩ := Kd.R_slice HO275.out; subst eo23; obtain ⟨hcz24_0, hcz24_1, hcz24_2, hcz24_3, hfz24_0, hfz24_1, hfz24_2, hfz24_3⟩ := b4_ BK259) | ((with_reducible refine gate_callee (f := 88) rfl ?_); refine goesL_ (some 35) rfl rfl Tryz.func88 (by kernel_rfl) rfl #[.pointer (some ⟨gb258, 0, none⟩)] rfl ga_ ?_; (with_reducible refine (spec_l05ReadShort.calls k gb258 t269 t270 t271 t276 t277 t278 true w _ ?side1 ?side2 A7.out).mono ?_); (case side1 => exact IsS110.ii_ HI258); (case side2 => exact bwi_ HB (IsS110.ge HI258.out)); rintro e w25 ⟨rfl, hi, hb, hk⟩; refine ⟨_, rfl, ?_⟩; have n0_ := mk_ (KeepBut.blk hk (g' := gb255) (o := .cells #[.int .i64 0, .int .i64 0, .slice none 0 0, .string (⟨#[]⟩ : ByteArray)] 47 (0, 0)) bf_ NB255_258.out (by simp)); have n1_ := mk_ (KeepBut.blk hk (g' := gb259) (o := .cells #[.int .i64 t260, .int .i64 t264, .slice Ao23 t272.length co23, .string (⟨#[]⟩ : ByteArray)] 47 (0, 0)) bu_ NB259_258.out (by simp)); have n2_ := mk_ (Kd.R_mono (Kd.R_keep (IsS110.apart (show IsS110 w _ gb258 t269 t270 t271 from IsS110.ii_ HI258) (by (with_reducible repeat (first | apply Kd.R_alloc | apply Kd.R_drewN | apply Kd.R_drew)); exact (Kd.R_mono (Kd.R_far (p := ⟨gb259, 2, none⟩) (Kd.R_types HO275.out BK259.out (by decide)) (fun _ hk => hk.2) (.slice Ao23 t272.length co23)) (fun _ h_ => h_.1))) (by decide)) hk (fun _ h => h.2)) (fun _ h => h.1)); have n3_ := mk_ (hb); have n4_ := mk_ (hi); clear BK255; clear BK259; clear HO275; clear HB; clear HI258; have BK255 := n0_; have BK259 := n1_; have HO275 := n2_; have HB := n3_; have HI258 := n4_; clear n0_ n1_ n2_ n3_ n4_; (try clear hb); (try clear hk); (try clear hi); obtain ⟨hcz26_0, hcz26_1, hcz26_2, hcz26_3, hfz26_0, hfz26_1, hfz26_2, hfz26_3⟩ := b4_ BK259) | ((with_reducible refine gate_callee (f := 89) rfl ?_); refine goesL_ (some 39) rfl rfl Tryz.func89 (by kernel_rfl) rfl #[.agg #[.int .i64 t260, .int .i64 t264, .slice Ao23 t272.length co23, .string t276]] rfl ga_ ?_; (with_reducible refine (spec_SnapText.calls k t260 t264 _ _ t272 t276 t280 t281 _ ?side1 ?side2 A8.out).mono ?_); (case side1 => refine (Kd.R_reads' (e := 3) (base := w.heap.size) (ok := fun k_ => True) (n := t272.length) (c := co23) ?_).2.2; exact (by (with_reducible repeat (first | apply Kd.R_alloc | apply Kd.R_drewN | apply Kd.R_drew)); exact (Kd.R_mono (Kd.R_far (p := ⟨gb259, 3, none⟩) (Kd.R_types HO275.out BK259.out (by decide)) (fun _ hk => hk.2) (.string t276)) (fun _ h_ => h_.1)))); (case side2 => exact (Kd.R_reads' HO275.out).2.1); rintro e w27 ⟨rfl, hb⟩; refine ⟨_, rfl, ?_⟩; have n0_ := mk_ (Kd.R_below (by (with_reducible repeat (first | apply Kd.R_alloc | apply Kd.R_drewN | apply Kd.R_drew)); exact (Kd.R_mono (Kd.R_far (p := ⟨gb259, 3, none⟩) (Kd.R_types HO275.out BK259.out (by decide)) (fun _ hk => hk.2) (.string t276)) (fun _ h_ => h_.1))) hb); have n1_ := mk_ (blk_below (g := gb255) (o := .cells #[.int .i64 0, .int .i64 0, .slice none 0 0, .string (⟨#[]⟩ : ByteArray)] 47 (0, 0)) bf_ hb); have n2_ := mk_ (IsS110.below (show IsS110 w (w25.setCell ⟨gb259, 3, none⟩ (.string t276)) gb258 t277 t278 true from IsS110.ii_ HI258) hb); have n3_ := mk_ (blk_below (g := gb259) (o := .cells #[.int .i64 t260, .int .i64 t264, .slice Ao23 t272.length co23, .string t276] 47 (0, 0)) bu_ hb); have n4_ := mk_ (below_step (bwi_ HB (IsS110.ge HI258.out)) hb); clear HO275; clear BK255; clear HI258; clear BK259; clear HB; have HO275 := n0_; have BK255 := n1_; have HI258 := n2_; have BK259 := n3_; have HB := n4_; clear n0_ n1_ n2_ n3_ n4_; (try clear hb); (try clear hk); (try clear hi); obtain ⟨HGz28, hgz28⟩ := HI258.out; have hcz28_0 := cellS110_0 HGz28; have hcz28_1 := cellS110_1 HGz28; have hcz28_2 := cellS110_2 HGz28; have hfz28_0 := blk_frozen HGz28 0; have hfz28_1 := blk_frozen HGz28 1; have hfz28_2 := blk_frozen HGz28 2; clear HGz28 hgz28; have hnb29 := NB255_258.out; have hnc29 := NB258_255.out; obtain ⟨hcz30_0, hcz30_1, hcz30_2, hcz30_3, hfz30_0, hfz30_1, hfz30_2, hfz30_3⟩ := b4_ BK255))
  refine bodyPost_ret (results_ct rfl _ _ gb255 47 #[.int .i64 0, .int .i64 0, .slice none 0 0, .string (⟨#[]⟩ : ByteArray)] (0, 0) _ rfl bu_ Tryz.underlying47 rfl (by kernel_rfl)) rfl ?_
  exact ⟨_, er_, by first | exact Kd.R_nil _ _ _ _ _ | exact Kd.N_nil _ _ _ _ _ | exact Kd.V_nil _ _ _ _ _ | exact Kd.Q_nil _ _ _ _ _ | exact Kd.S_nil _ _ _ _ _, bwi_ HB (IsS110.ge HI258.out)⟩
 ·replace c9 := Bool.eq_false_iff.mpr c9
  subst c9
  have H1 : (if t281 = true then (if t280.toList = a0.toList then (some (t260, t264, t272, t276, true)) else (some (0, 0, ([] : List Int), (⟨#[]⟩ : ByteArray), false))) else (some (0, 0, ([] : List Int), (⟨#[]⟩ : ByteArray), false))) = some (r1, r2, r3, r4, r5) := by rw [if_neg (show ¬ (false = true) by decide)] at H; exact H
  clear H
  have H := H1
  clear H1
  by_cases c31 : t281 = true
  ·subst c31
   have H1 : (if t280.toList = a0.toList then (some (t260, t264, t272, t276, true)) else (some (0, 0, ([] : List Int), (⟨#[]⟩ : ByteArray), false))) = some (r1, r2, r3, r4, r5) := by rw [if_pos rfl] at H; exact H
   clear H
   have H := H1
   clear H1
   by_cases c32 : t280.toList = a0.toList
   ·rw [if_pos c32] at H
    have c32b0 : (t280.toList == a0.toList) = true := beq_iff_eq.mpr c32
    have c32b1 : (t280.toList != a0.toList) = false := bne_eq_false_iff_eq.mpr c32
    clear c32
    simp only [Option.some.injEq, Prod.mk.injEq] at H
    obtain ⟨rfl, rfl, rfl, rfl, rfl⟩ := H
    go_enter Tryz.func49, Tryz.ntmps49
    go_wp2_with (first | ((with_reducible refine gate_dst (N := 2) rfl ?_); refine bx_ (N := 2) (cs := #[.int .i64 0, .int .i64 0, .slice none 0 0, .string (⟨#[]⟩ : ByteArray)]) (t := 47) ?_; intro gb255 hg w33 hbox hb; have BK255 := mk_ (hbox); have GW255 : Aside0 (w.heap.size ≤ gb255) := bz_ hg; have GE255 := GW255; replace HB := bs_ HB hb; clear hb hbox hg) | ((with_reducible refine gate_callee (f := 85) rfl ?_); refine goesL_ (some 12) rfl rfl Tryz.func85 (by kernel_rfl) rfl #[.string a0] rfl ga_ ?_; (with_reducible refine (spec_Unsealed.calls k a0 t256 t257 _ A2.out).mono ?_); rintro e w34 ⟨rfl, hb⟩; refine ⟨_, rfl, ?_⟩; replace BK255 := bb_ BK255 hb; replace HB := bs_ HB hb; (try clear hb); (try clear hk); (try clear hi)) | ((with_reducible refine gate_dst (N := 19) rfl ?_); refine bx_ (N := 19) (cs := #[.string t256, .int .i64 0, .bool (!t257)]) (t := 110) ?_; intro gb258 hg w35 hbox hb; have GW258 : Aside0 (w.heap.size ≤ gb258) := bz_ hg; have GE258 := GW258; have NB255_258 := bl_ BK255 hg; have NB258_255 := bg_ BK255 hg; have HI258 := mk_ ((⟨hbox, (by rw [hg]; exact (below_size (bw_ HB)) : w.heap.size ≤ gb258)⟩ : IsS110 w w35 gb258 t256 0 (!t257))); replace BK255 := bb_ BK255 hb; replace HB := bs_ HB hb; clear hb hbox hg) | ((with_reducible refine gate_dst (N := 7) rfl ?_); refine bx_ (N := 7) (cs := #[.int .i64 0, .int .i64 0, .slice none 0 0, .string (⟨#[]⟩ : ByteArray)]) (t := 47) ?_; intro gb259 hg w36 hbox hb; have n0_ := bb_ BK255 hb; have n1_ := mk_ (IsS110.below (IsS110.ii_ HI258) hb); have n2_ := mk_ (below_step (bwi_ HB (IsS110.ge HI258.out)) hb); have n3_ := mk_ (hbox); have n4_ := mk_ ((by rw [hg]; exact (below_size (bwi_ HB (IsS110.ge HI258.out))) : w.heap.size ≤ gb259)); have n5_ := mk_ ((by rw [hg]; exact (below_size (bwi_ HB (IsS110.ge HI258.out))) : w.heap.size ≤ gb259)); have n6_ : Aside0 (gb255 ≠ gb259) := bl_ BK255 hg; have n7_ : Aside0 (gb259 ≠ gb255) := bg_ BK255 hg; have n8_ := mk_ ((by rw [hg]; exact Nat.ne_of_lt (IsS110.lt (show IsS110 w _ gb258 t256 0 (!t257) from IsS110.ii_ HI258)) : gb258 ≠ gb259)); have n9_ := mk_ ((by rw [hg]; exact Nat.ne_of_gt (IsS110.lt (show IsS110 w _ gb258 t256 0 (!t257) from IsS110.ii_ HI258)) : gb259 ≠ gb258)); clear BK255; clear HI258; clear HB; have BK255 := n0_; have HI258 := n1_; have HB := n2_; have BK259 := n3_; have GW259 := n4_; have GE259 := n5_; have NB255_259 := n6_; have NB259_255 := n7_; have NB258_259 := n8_; have NB259_258 := n9_; clear n0_ n1_ n2_ n3_ n4_ n5_ n6_ n7_ n8_ n9_; clear hb hbox hg; have hnb37 := NB259_255.out; have hnc37 := NB255_259.out; have hnb38 := NB259_258.out; have hnc38 := NB258_259.out; obtain ⟨hcz39_0, hcz39_1, hcz39_2, hcz39_3, hfz39_0, hfz39_1, hfz39_2, hfz39_3⟩ := b4_ BK259) | ((with_reducible refine gate_callee (f := 86) rfl ?_); refine goesL_ (some 22) rfl rfl Tryz.func86 (by kernel_rfl) rfl #[.pointer (some ⟨gb258, 0, none⟩)] rfl ga_ ?_; (with_reducible refine (spec_l05Var.calls k gb258 t256 0 (!t257) t260 t261 t262 t263 w _ ?side1 ?side2 A3.out).mono ?_); (case side1 => exact IsS110.ii_ HI258); (case side2 => exact bwi_ HB (IsS110.ge HI258.out)); rintro e w40 ⟨rfl, hi, hb, hk⟩; refine ⟨_, rfl, ?_⟩; replace BK255 := mk_ (KeepBut.blk hk (g' := gb255) (o := .cells #[.int .i64 0, .int .i64 0, .slice none 0 0, .string (⟨#[]⟩ : ByteArray)] 47 (0, 0)) bf_ NB255_258.out (by simp)); replace BK259 := mk_ (KeepBut.blk hk (g' := gb259) (o := .cells #[.int .i64 0, .int .i64 0, .slice none 0 0, .string (⟨#[]⟩ : ByteArray)] 47 (0, 0)) bu_ NB259_258.out (by simp)); replace HB := mk_ (hb); replace HI258 := mk_ (hi); (try clear hb); (try clear hk); (try clear hi); obtain ⟨hcz41_0, hcz41_1, hcz41_2, hcz41_3, hfz41_0, hfz41_1, hfz41_2, hfz41_3⟩ := b4_ BK259) | ((with_reducible refine gate_callee (f := 86) rfl ?_); refine goesL_ (some 25) rfl rfl Tryz.func86 (by kernel_rfl) rfl #[.pointer (some ⟨gb258, 0, none⟩)] rfl ga_ ?_; (with_reducible refine (spec_l05Var.calls k gb258 t261 t262 t263 t264 t265 t266 t267 w _ ?side1 ?side2 A4.out).mono ?_); (case side1 => exact IsS110.ii_ HI258); (case side2 => exact bwi_ HB (IsS110.ge HI258.out)); rintro e w42 ⟨rfl, hi, hb, hk⟩; refine ⟨_, rfl, ?_⟩; replace BK255 := mk_ (KeepBut.blk hk (g' := gb255) (o := .cells #[.int .i64 0, .int .i64 0, .slice none 0 0, .string (⟨#[]⟩ : ByteArray)] 47 (0, 0)) bf_ NB255_258.out (by simp)); replace BK259 := mk_ (KeepBut.blk hk (g' := gb259) (o := .cells #[.int .i64 t260, .int .i64 0, .slice none 0 0, .string (⟨#[]⟩ : ByteArray)] 47 (0, 0)) bu_ NB259_258.out (by simp)); replace HB := mk_ (hb); replace HI258 := mk_ (hi); (try clear hb); (try clear hk); (try clear hi); obtain ⟨hcz43_0, hcz43_1, hcz43_2, hcz43_3, hfz43_0, hfz43_1, hfz43_2, hfz43_3⟩ := b4_ BK259) | ((with_reducible refine gate_callee (f := 88) rfl ?_); refine goesL_ (some 29) rfl rfl Tryz.func88 (by kernel_rfl) rfl #[.pointer (some ⟨gb258, 0, none⟩)] rfl ga_ ?_; (with_reducible refine (spec_l05ReadShort.calls k gb258 t265 t266 t267 t268 t269 t270 t271 w _ ?side1 ?side2 A5.out).mono ?_); (case side1 => exact IsS110.ii_ HI258); (case side2 => exact bwi_ HB (IsS110.ge HI258.out)); rintro e w44 ⟨rfl, hi, hb, hk⟩; refine ⟨_, rfl, ?_⟩; replace BK255 := mk_ (KeepBut.blk hk (g' := gb255) (o := .cells #[.int .i64 0, .int .i64 0, .slice none 0 0, .string (⟨#[]⟩ : ByteArray)] 47 (0, 0)) bf_ NB255_258.out (by simp)); replace BK259 := mk_ (KeepBut.blk hk (g' := gb259) (o := .cells #[.int .i64 t260, .int .i64 t264, .slice none 0 0, .string (⟨#[]⟩ : ByteArray)] 47 (0, 0)) bu_ NB259_258.out (by simp)); replace HB := mk_ (hb); replace HI258 := mk_ (hi); (try clear hb); (try clear hk); (try clear hi)) | ((with_reducible refine gate_callee (f := 87) rfl ?_); refine goesL_ (some 30) rfl rfl Tryz.func87 (by kernel_rfl) rfl #[.string t268] rfl ga_ ?_; (with_reducible refine (spec_ReadConf.calls k t268 t272 t273 _ A6.out).mono ?_); rintro e w45 ⟨v274, rfl, ho0, hb⟩; refine ⟨_, rfl, ?_⟩; have n0_ := mk_ (Kd.R_lower ho0 (below_size (bwi_ HB (IsS110.ge HI258.out)))); have n1_ := bb_ BK255 hb; have n2_ := mk_ (IsS110.below (IsS110.ii_ HI258) hb); have n3_ := bb_ BK259 hb; have n4_ := mk_ (below_step (bwi_ HB (IsS110.ge HI258.out)) hb); clear BK255; clear HI258; clear BK259; clear HB; have HO275 := n0_; have BK255 := n1_; have HI258 := n2_; have BK259 := n3_; have HB := n4_; clear n0_ n1_ n2_ n3_ n4_; (try clear hb); (try clear hk); (try clear hi); (try clear ho0); obtain ⟨Ao46, co46, eo46⟩ := Kd.R_slice HO275.out; subst eo46; obtain ⟨hcz47_0, hcz47_1, hcz47_2, hcz47_3, hfz47_0, hfz47_1, hfz47_2, hfz47_3⟩ := b4_ BK259) | ((with_reducible refine gate_callee (f := 88) rfl ?_); refine goesL_ (some 35) rfl rfl Tryz.func88 (by kernel_rfl) rfl #[.pointer (some ⟨gb258, 0, none⟩)] rfl ga_ ?_; (with_reducible refine (spec_l05ReadShort.calls k gb258 t269 t270 t271 t276 t277 t278 false w _ ?side1 ?side2 A7.out).mono ?_); (case side1 => exact IsS110.ii_ HI258); (case side2 => exact bwi_ HB (IsS110.ge HI258.out)); rintro e w48 ⟨rfl, hi, hb, hk⟩; refine ⟨_, rfl, ?_⟩; have n0_ := mk_ (KeepBut.blk hk (g' := gb255) (o := .cells #[.int .i64 0, .int .i64 0, .slice none 0 0, .string (⟨#[]⟩ : ByteArray)] 47 (0, 0)) bf_ NB255_258.out (by simp)); have n1_ := mk_ (KeepBut.blk hk (g' := gb259) (o := .cells #[.int .i64 t260, .int .i64 t264, .slice Ao46 t272.length co46, .string (⟨#[]⟩ : ByteArray)] 47 (0, 0)) bu_ NB259_258.out (by simp)); have n2_ := mk_ (Kd.R_mono (Kd.R_keep (IsS110.apart (show IsS110 w _ gb258 t269 t270 t271 from IsS110.ii_ HI258) (by (with_reducible repeat (first | apply Kd.R_alloc | apply Kd.R_drewN | apply Kd.R_drew)); exact (Kd.R_mono (Kd.R_far (p := ⟨gb259, 2, none⟩) (Kd.R_types HO275.out BK259.out (by decide)) (fun _ hk => hk.2) (.slice Ao46 t272.length co46)) (fun _ h_ => h_.1))) (by decide)) hk (fun _ h => h.2)) (fun _ h => h.1)); have n3_ := mk_ (hb); have n4_ := mk_ (hi); clear BK255; clear BK259; clear HO275; clear HB; clear HI258; have BK255 := n0_; have BK259 := n1_; have HO275 := n2_; have HB := n3_; have HI258 := n4_; clear n0_ n1_ n2_ n3_ n4_; (try clear hb); (try clear hk); (try clear hi); obtain ⟨hcz49_0, hcz49_1, hcz49_2, hcz49_3, hfz49_0, hfz49_1, hfz49_2, hfz49_3⟩ := b4_ BK259) | ((with_reducible refine gate_callee (f := 89) rfl ?_); refine goesL_ (some 39) rfl rfl Tryz.func89 (by kernel_rfl) rfl #[.agg #[.int .i64 t260, .int .i64 t264, .slice Ao46 t272.length co46, .string t276]] rfl ga_ ?_; (with_reducible refine (spec_SnapText.calls k t260 t264 _ _ t272 t276 t280 true _ ?side1 ?side2 A8.out).mono ?_); (case side1 => refine (Kd.R_reads' (e := 3) (base := w.heap.size) (ok := fun k_ => True) (n := t272.length) (c := co46) ?_).2.2; exact (by (with_reducible repeat (first | apply Kd.R_alloc | apply Kd.R_drewN | apply Kd.R_drew)); exact (Kd.R_mono (Kd.R_far (p := ⟨gb259, 3, none⟩) (Kd.R_types HO275.out BK259.out (by decide)) (fun _ hk => hk.2) (.string t276)) (fun _ h_ => h_.1)))); (case side2 => exact (Kd.R_reads' HO275.out).2.1); rintro e w50 ⟨rfl, hb⟩; refine ⟨_, rfl, ?_⟩; have n0_ := mk_ (Kd.R_below (by (with_reducible repeat (first | apply Kd.R_alloc | apply Kd.R_drewN | apply Kd.R_drew)); exact (Kd.R_mono (Kd.R_far (p := ⟨gb259, 3, none⟩) (Kd.R_types HO275.out BK259.out (by decide)) (fun _ hk => hk.2) (.string t276)) (fun _ h_ => h_.1))) hb); have n1_ := mk_ (blk_below (g := gb255) (o := .cells #[.int .i64 0, .int .i64 0, .slice none 0 0, .string (⟨#[]⟩ : ByteArray)] 47 (0, 0)) bf_ hb); have n2_ := mk_ (IsS110.below (show IsS110 w (w48.setCell ⟨gb259, 3, none⟩ (.string t276)) gb258 t277 t278 false from IsS110.ii_ HI258) hb); have n3_ := mk_ (blk_below (g := gb259) (o := .cells #[.int .i64 t260, .int .i64 t264, .slice Ao46 t272.length co46, .string t276] 47 (0, 0)) bu_ hb); have n4_ := mk_ (below_step (bwi_ HB (IsS110.ge HI258.out)) hb); clear HO275; clear BK255; clear HI258; clear BK259; clear HB; have HO275 := n0_; have BK255 := n1_; have HI258 := n2_; have BK259 := n3_; have HB := n4_; clear n0_ n1_ n2_ n3_ n4_; (try clear hb); (try clear hk); (try clear hi); obtain ⟨HGz51, hgz51⟩ := HI258.out; have hcz51_0 := cellS110_0 HGz51; have hcz51_1 := cellS110_1 HGz51; have hcz51_2 := cellS110_2 HGz51; have hfz51_0 := blk_frozen HGz51 0; have hfz51_1 := blk_frozen HGz51 1; have hfz51_2 := blk_frozen HGz51 2; clear HGz51 hgz51; obtain ⟨hcz52_0, hcz52_1, hcz52_2, hcz52_3, hfz52_0, hfz52_1, hfz52_2, hfz52_3⟩ := b4_ BK259; have hnb53 := NB255_258.out; have hnc53 := NB258_255.out; obtain ⟨hcz54_0, hcz54_1, hcz54_2, hcz54_3, hfz54_0, hfz54_1, hfz54_2, hfz54_3⟩ := b4_ BK255))
    refine bodyPost_ret (results_ct rfl _ _ gb255 47 #[.int .i64 t260, .int .i64 t264, .slice Ao46 t272.length co46, .string t276] (0, 0) _ rfl bu_ Tryz.underlying47 rfl (by kernel_rfl)) rfl ?_
    exact ⟨_, er_, by (with_reducible repeat (first | apply Kd.R_alloc | apply Kd.R_drewN | apply Kd.R_drew)); exact Kd.R_mono (Kd.R_far (p := ⟨gb255, 3, none⟩) (Kd.R_far (p := ⟨gb255, 2, none⟩) (Kd.R_far (p := ⟨gb255, 1, none⟩) (Kd.R_far (p := ⟨gb255, 0, none⟩) (Kd.R_types HO275.out BK255.out (by decide)) (fun _ hk => hk.2) (.int .i64 t260)) (fun _ hk => hk.2) (.int .i64 t264)) (fun _ hk => hk.2) (.slice Ao46 t272.length co46)) (fun _ hk => hk.2) (.string t276)) (fun _ hk => trivial), bwi_ HB (IsS110.ge HI258.out)⟩
   ·rw [if_neg c32] at H
    have c32b0 : (t280.toList == a0.toList) = false := beq_eq_false_iff_ne.mpr c32
    have c32b1 : (t280.toList != a0.toList) = true := bne_iff_ne.mpr c32
    simp only [Option.some.injEq, Prod.mk.injEq] at H
    obtain ⟨rfl, rfl, rfl, rfl, rfl⟩ := H
    go_enter Tryz.func49, Tryz.ntmps49
    go_wp2_with (first | ((with_reducible refine gate_dst (N := 2) rfl ?_); refine bx_ (N := 2) (cs := #[.int .i64 0, .int .i64 0, .slice none 0 0, .string (⟨#[]⟩ : ByteArray)]) (t := 47) ?_; intro gb255 hg w55 hbox hb; have BK255 := mk_ (hbox); have GW255 : Aside0 (w.heap.size ≤ gb255) := bz_ hg; have GE255 := GW255; replace HB := bs_ HB hb; clear hb hbox hg) | ((with_reducible refine gate_callee (f := 85) rfl ?_); refine goesL_ (some 12) rfl rfl Tryz.func85 (by kernel_rfl) rfl #[.string a0] rfl ga_ ?_; (with_reducible refine (spec_Unsealed.calls k a0 t256 t257 _ A2.out).mono ?_); rintro e w56 ⟨rfl, hb⟩; refine ⟨_, rfl, ?_⟩; replace BK255 := bb_ BK255 hb; replace HB := bs_ HB hb; (try clear hb); (try clear hk); (try clear hi)) | ((with_reducible refine gate_dst (N := 19) rfl ?_); refine bx_ (N := 19) (cs := #[.string t256, .int .i64 0, .bool (!t257)]) (t := 110) ?_; intro gb258 hg w57 hbox hb; have GW258 : Aside0 (w.heap.size ≤ gb258) := bz_ hg; have GE258 := GW258; have NB255_258 := bl_ BK255 hg; have NB258_255 := bg_ BK255 hg; have HI258 := mk_ ((⟨hbox, (by rw [hg]; exact (below_size (bw_ HB)) : w.heap.size ≤ gb258)⟩ : IsS110 w w57 gb258 t256 0 (!t257))); replace BK255 := bb_ BK255 hb; replace HB := bs_ HB hb; clear hb hbox hg) | ((with_reducible refine gate_dst (N := 7) rfl ?_); refine bx_ (N := 7) (cs := #[.int .i64 0, .int .i64 0, .slice none 0 0, .string (⟨#[]⟩ : ByteArray)]) (t := 47) ?_; intro gb259 hg w58 hbox hb; have n0_ := bb_ BK255 hb; have n1_ := mk_ (IsS110.below (IsS110.ii_ HI258) hb); have n2_ := mk_ (below_step (bwi_ HB (IsS110.ge HI258.out)) hb); have n3_ := mk_ (hbox); have n4_ := mk_ ((by rw [hg]; exact (below_size (bwi_ HB (IsS110.ge HI258.out))) : w.heap.size ≤ gb259)); have n5_ := mk_ ((by rw [hg]; exact (below_size (bwi_ HB (IsS110.ge HI258.out))) : w.heap.size ≤ gb259)); have n6_ : Aside0 (gb255 ≠ gb259) := bl_ BK255 hg; have n7_ : Aside0 (gb259 ≠ gb255) := bg_ BK255 hg; have n8_ := mk_ ((by rw [hg]; exact Nat.ne_of_lt (IsS110.lt (show IsS110 w _ gb258 t256 0 (!t257) from IsS110.ii_ HI258)) : gb258 ≠ gb259)); have n9_ := mk_ ((by rw [hg]; exact Nat.ne_of_gt (IsS110.lt (show IsS110 w _ gb258 t256 0 (!t257) from IsS110.ii_ HI258)) : gb259 ≠ gb258)); clear BK255; clear HI258; clear HB; have BK255 := n0_; have HI258 := n1_; have HB := n2_; have BK259 := n3_; have GW259 := n4_; have GE259 := n5_; have NB255_259 := n6_; have NB259_255 := n7_; have NB258_259 := n8_; have NB259_258 := n9_; clear n0_ n1_ n2_ n3_ n4_ n5_ n6_ n7_ n8_ n9_; clear hb hbox hg; have hnb59 := NB259_255.out; have hnc59 := NB255_259.out; have hnb60 := NB259_258.out; have hnc60 := NB258_259.out; obtain ⟨hcz61_0, hcz61_1, hcz61_2, hcz61_3, hfz61_0, hfz61_1, hfz61_2, hfz61_3⟩ := b4_ BK259) | ((with_reducible refine gate_callee (f := 86) rfl ?_); refine goesL_ (some 22) rfl rfl Tryz.func86 (by kernel_rfl) rfl #[.pointer (some ⟨gb258, 0, none⟩)] rfl ga_ ?_; (with_reducible refine (spec_l05Var.calls k gb258 t256 0 (!t257) t260 t261 t262 t263 w _ ?side1 ?side2 A3.out).mono ?_); (case side1 => exact IsS110.ii_ HI258); (case side2 => exact bwi_ HB (IsS110.ge HI258.out)); rintro e w62 ⟨rfl, hi, hb, hk⟩; refine ⟨_, rfl, ?_⟩; replace BK255 := mk_ (KeepBut.blk hk (g' := gb255) (o := .cells #[.int .i64 0, .int .i64 0, .slice none 0 0, .string (⟨#[]⟩ : ByteArray)] 47 (0, 0)) bf_ NB255_258.out (by simp)); replace BK259 := mk_ (KeepBut.blk hk (g' := gb259) (o := .cells #[.int .i64 0, .int .i64 0, .slice none 0 0, .string (⟨#[]⟩ : ByteArray)] 47 (0, 0)) bu_ NB259_258.out (by simp)); replace HB := mk_ (hb); replace HI258 := mk_ (hi); (try clear hb); (try clear hk); (try clear hi); obtain ⟨hcz63_0, hcz63_1, hcz63_2, hcz63_3, hfz63_0, hfz63_1, hfz63_2, hfz63_3⟩ := b4_ BK259) | ((with_reducible refine gate_callee (f := 86) rfl ?_); refine goesL_ (some 25) rfl rfl Tryz.func86 (by kernel_rfl) rfl #[.pointer (some ⟨gb258, 0, none⟩)] rfl ga_ ?_; (with_reducible refine (spec_l05Var.calls k gb258 t261 t262 t263 t264 t265 t266 t267 w _ ?side1 ?side2 A4.out).mono ?_); (case side1 => exact IsS110.ii_ HI258); (case side2 => exact bwi_ HB (IsS110.ge HI258.out)); rintro e w64 ⟨rfl, hi, hb, hk⟩; refine ⟨_, rfl, ?_⟩; replace BK255 := mk_ (KeepBut.blk hk (g' := gb255) (o := .cells #[.int .i64 0, .int .i64 0, .slice none 0 0, .string (⟨#[]⟩ : ByteArray)] 47 (0, 0)) bf_ NB255_258.out (by simp)); replace BK259 := mk_ (KeepBut.blk hk (g' := gb259) (o := .cells #[.int .i64 t260, .int .i64 0, .slice none 0 0, .string (⟨#[]⟩ : ByteArray)] 47 (0, 0)) bu_ NB259_258.out (by simp)); replace HB := mk_ (hb); replace HI258 := mk_ (hi); (try clear hb); (try clear hk); (try clear hi); obtain ⟨hcz65_0, hcz65_1, hcz65_2, hcz65_3, hfz65_0, hfz65_1, hfz65_2, hfz65_3⟩ := b4_ BK259) | ((with_reducible refine gate_callee (f := 88) rfl ?_); refine goesL_ (some 29) rfl rfl Tryz.func88 (by kernel_rfl) rfl #[.pointer (some ⟨gb258, 0, none⟩)] rfl ga_ ?_; (with_reducible refine (spec_l05ReadShort.calls k gb258 t265 t266 t267 t268 t269 t270 t271 w _ ?side1 ?side2 A5.out).mono ?_); (case side1 => exact IsS110.ii_ HI258); (case side2 => exact bwi_ HB (IsS110.ge HI258.out)); rintro e w66 ⟨rfl, hi, hb, hk⟩; refine ⟨_, rfl, ?_⟩; replace BK255 := mk_ (KeepBut.blk hk (g' := gb255) (o := .cells #[.int .i64 0, .int .i64 0, .slice none 0 0, .string (⟨#[]⟩ : ByteArray)] 47 (0, 0)) bf_ NB255_258.out (by simp)); replace BK259 := mk_ (KeepBut.blk hk (g' := gb259) (o := .cells #[.int .i64 t260, .int .i64 t264, .slice none 0 0, .string (⟨#[]⟩ : ByteArray)] 47 (0, 0)) bu_ NB259_258.out (by simp)); replace HB := mk_ (hb); replace HI258 := mk_ (hi); (try clear hb); (try clear hk); (try clear hi)) | ((with_reducible refine gate_callee (f := 87) rfl ?_); refine goesL_ (some 30) rfl rfl Tryz.func87 (by kernel_rfl) rfl #[.string t268] rfl ga_ ?_; (with_reducible refine (spec_ReadConf.calls k t268 t272 t273 _ A6.out).mono ?_); rintro e w67 ⟨v274, rfl, ho0, hb⟩; refine ⟨_, rfl, ?_⟩; have n0_ := mk_ (Kd.R_lower ho0 (below_size (bwi_ HB (IsS110.ge HI258.out)))); have n1_ := bb_ BK255 hb; have n2_ := mk_ (IsS110.below (IsS110.ii_ HI258) hb); have n3_ := bb_ BK259 hb; have n4_ := mk_ (below_step (bwi_ HB (IsS110.ge HI258.out)) hb); clear BK255; clear HI258; clear BK259; clear HB; have HO275 := n0_; have BK255 := n1_; have HI258 := n2_; have BK259 := n3_; have HB := n4_; clear n0_ n1_ n2_ n3_ n4_; (try clear hb); (try clear hk); (try clear hi); (try clear ho0); obtain ⟨Ao68, co68, eo68⟩ := Kd.R_slice HO275.out; subst eo68; obtain ⟨hcz69_0, hcz69_1, hcz69_2, hcz69_3, hfz69_0, hfz69_1, hfz69_2, hfz69_3⟩ := b4_ BK259) | ((with_reducible refine gate_callee (f := 88) rfl ?_); refine goesL_ (some 35) rfl rfl Tryz.func88 (by kernel_rfl) rfl #[.pointer (some ⟨gb258, 0, none⟩)] rfl ga_ ?_; (with_reducible refine (spec_l05ReadShort.calls k gb258 t269 t270 t271 t276 t277 t278 false w _ ?side1 ?side2 A7.out).mono ?_); (case side1 => exact IsS110.ii_ HI258); (case side2 => exact bwi_ HB (IsS110.ge HI258.out)); rintro e w70 ⟨rfl, hi, hb, hk⟩; refine ⟨_, rfl, ?_⟩; have n0_ := mk_ (KeepBut.blk hk (g' := gb255) (o := .cells #[.int .i64 0, .int .i64 0, .slice none 0 0, .string (⟨#[]⟩ : ByteArray)] 47 (0, 0)) bf_ NB255_258.out (by simp)); have n1_ := mk_ (KeepBut.blk hk (g' := gb259) (o := .cells #[.int .i64 t260, .int .i64 t264, .slice Ao68 t272.length co68, .string (⟨#[]⟩ : ByteArray)] 47 (0, 0)) bu_ NB259_258.out (by simp)); have n2_ := mk_ (Kd.R_mono (Kd.R_keep (IsS110.apart (show IsS110 w _ gb258 t269 t270 t271 from IsS110.ii_ HI258) (by (with_reducible repeat (first | apply Kd.R_alloc | apply Kd.R_drewN | apply Kd.R_drew)); exact (Kd.R_mono (Kd.R_far (p := ⟨gb259, 2, none⟩) (Kd.R_types HO275.out BK259.out (by decide)) (fun _ hk => hk.2) (.slice Ao68 t272.length co68)) (fun _ h_ => h_.1))) (by decide)) hk (fun _ h => h.2)) (fun _ h => h.1)); have n3_ := mk_ (hb); have n4_ := mk_ (hi); clear BK255; clear BK259; clear HO275; clear HB; clear HI258; have BK255 := n0_; have BK259 := n1_; have HO275 := n2_; have HB := n3_; have HI258 := n4_; clear n0_ n1_ n2_ n3_ n4_; (try clear hb); (try clear hk); (try clear hi); obtain ⟨hcz71_0, hcz71_1, hcz71_2, hcz71_3, hfz71_0, hfz71_1, hfz71_2, hfz71_3⟩ := b4_ BK259) | ((with_reducible refine gate_callee (f := 89) rfl ?_); refine goesL_ (some 39) rfl rfl Tryz.func89 (by kernel_rfl) rfl #[.agg #[.int .i64 t260, .int .i64 t264, .slice Ao68 t272.length co68, .string t276]] rfl ga_ ?_; (with_reducible refine (spec_SnapText.calls k t260 t264 _ _ t272 t276 t280 true _ ?side1 ?side2 A8.out).mono ?_); (case side1 => refine (Kd.R_reads' (e := 3) (base := w.heap.size) (ok := fun k_ => True) (n := t272.length) (c := co68) ?_).2.2; exact (by (with_reducible repeat (first | apply Kd.R_alloc | apply Kd.R_drewN | apply Kd.R_drew)); exact (Kd.R_mono (Kd.R_far (p := ⟨gb259, 3, none⟩) (Kd.R_types HO275.out BK259.out (by decide)) (fun _ hk => hk.2) (.string t276)) (fun _ h_ => h_.1)))); (case side2 => exact (Kd.R_reads' HO275.out).2.1); rintro e w72 ⟨rfl, hb⟩; refine ⟨_, rfl, ?_⟩; have n0_ := mk_ (Kd.R_below (by (with_reducible repeat (first | apply Kd.R_alloc | apply Kd.R_drewN | apply Kd.R_drew)); exact (Kd.R_mono (Kd.R_far (p := ⟨gb259, 3, none⟩) (Kd.R_types HO275.out BK259.out (by decide)) (fun _ hk => hk.2) (.string t276)) (fun _ h_ => h_.1))) hb); have n1_ := mk_ (blk_below (g := gb255) (o := .cells #[.int .i64 0, .int .i64 0, .slice none 0 0, .string (⟨#[]⟩ : ByteArray)] 47 (0, 0)) bf_ hb); have n2_ := mk_ (IsS110.below (show IsS110 w (w70.setCell ⟨gb259, 3, none⟩ (.string t276)) gb258 t277 t278 false from IsS110.ii_ HI258) hb); have n3_ := mk_ (blk_below (g := gb259) (o := .cells #[.int .i64 t260, .int .i64 t264, .slice Ao68 t272.length co68, .string t276] 47 (0, 0)) bu_ hb); have n4_ := mk_ (below_step (bwi_ HB (IsS110.ge HI258.out)) hb); clear HO275; clear BK255; clear HI258; clear BK259; clear HB; have HO275 := n0_; have BK255 := n1_; have HI258 := n2_; have BK259 := n3_; have HB := n4_; clear n0_ n1_ n2_ n3_ n4_; (try clear hb); (try clear hk); (try clear hi); obtain ⟨HGz73, hgz73⟩ := HI258.out; have hcz73_0 := cellS110_0 HGz73; have hcz73_1 := cellS110_1 HGz73; have hcz73_2 := cellS110_2 HGz73; have hfz73_0 := blk_frozen HGz73 0; have hfz73_1 := blk_frozen HGz73 1; have hfz73_2 := blk_frozen HGz73 2; clear HGz73 hgz73; have hnb74 := NB255_258.out; have hnc74 := NB258_255.out; obtain ⟨hcz75_0, hcz75_1, hcz75_2, hcz75_3, hfz75_0, hfz75_1, hfz75_2, hfz75_3⟩ := b4_ BK255))
    refine bodyPost_ret (results_ct rfl _ _ gb255 47 #[.int .i64 0, .int .i64 0, .slice none 0 0, .string (⟨#[]⟩ : ByteArray)] (0, 0) _ rfl bu_ Tryz.underlying47 rfl (by kernel_rfl)) rfl ?_
    exact ⟨_, er_, by first | exact Kd.R_nil _ _ _ _ _ | exact Kd.N_nil _ _ _ _ _ | exact Kd.V_nil _ _ _ _ _ | exact Kd.Q_nil _ _ _ _ _ | exact Kd.S_nil _ _ _ _ _, bwi_ HB (IsS110.ge HI258.out)⟩
  ·replace c31 := Bool.eq_false_iff.mpr c31
   subst c31
   have H1 : (some (0, 0, ([] : List Int), (⟨#[]⟩ : ByteArray), false)) = some (r1, r2, r3, r4, r5) := by rw [if_neg (show ¬ (false = true) by decide)] at H; exact H
   clear H
   have H := H1
   clear H1
   simp only [Option.some.injEq, Prod.mk.injEq] at H
   obtain ⟨rfl, rfl, rfl, rfl, rfl⟩ := H
   go_enter Tryz.func49, Tryz.ntmps49
   go_wp2_with (first | ((with_reducible refine gate_dst (N := 2) rfl ?_); refine bx_ (N := 2) (cs := #[.int .i64 0, .int .i64 0, .slice none 0 0, .string (⟨#[]⟩ : ByteArray)]) (t := 47) ?_; intro gb255 hg w76 hbox hb; have BK255 := mk_ (hbox); have GW255 : Aside0 (w.heap.size ≤ gb255) := bz_ hg; have GE255 := GW255; replace HB := bs_ HB hb; clear hb hbox hg) | ((with_reducible refine gate_callee (f := 85) rfl ?_); refine goesL_ (some 12) rfl rfl Tryz.func85 (by kernel_rfl) rfl #[.string a0] rfl ga_ ?_; (with_reducible refine (spec_Unsealed.calls k a0 t256 t257 _ A2.out).mono ?_); rintro e w77 ⟨rfl, hb⟩; refine ⟨_, rfl, ?_⟩; replace BK255 := bb_ BK255 hb; replace HB := bs_ HB hb; (try clear hb); (try clear hk); (try clear hi)) | ((with_reducible refine gate_dst (N := 19) rfl ?_); refine bx_ (N := 19) (cs := #[.string t256, .int .i64 0, .bool (!t257)]) (t := 110) ?_; intro gb258 hg w78 hbox hb; have GW258 : Aside0 (w.heap.size ≤ gb258) := bz_ hg; have GE258 := GW258; have NB255_258 := bl_ BK255 hg; have NB258_255 := bg_ BK255 hg; have HI258 := mk_ ((⟨hbox, (by rw [hg]; exact (below_size (bw_ HB)) : w.heap.size ≤ gb258)⟩ : IsS110 w w78 gb258 t256 0 (!t257))); replace BK255 := bb_ BK255 hb; replace HB := bs_ HB hb; clear hb hbox hg) | ((with_reducible refine gate_dst (N := 7) rfl ?_); refine bx_ (N := 7) (cs := #[.int .i64 0, .int .i64 0, .slice none 0 0, .string (⟨#[]⟩ : ByteArray)]) (t := 47) ?_; intro gb259 hg w79 hbox hb; have n0_ := bb_ BK255 hb; have n1_ := mk_ (IsS110.below (IsS110.ii_ HI258) hb); have n2_ := mk_ (below_step (bwi_ HB (IsS110.ge HI258.out)) hb); have n3_ := mk_ (hbox); have n4_ := mk_ ((by rw [hg]; exact (below_size (bwi_ HB (IsS110.ge HI258.out))) : w.heap.size ≤ gb259)); have n5_ := mk_ ((by rw [hg]; exact (below_size (bwi_ HB (IsS110.ge HI258.out))) : w.heap.size ≤ gb259)); have n6_ : Aside0 (gb255 ≠ gb259) := bl_ BK255 hg; have n7_ : Aside0 (gb259 ≠ gb255) := bg_ BK255 hg; have n8_ := mk_ ((by rw [hg]; exact Nat.ne_of_lt (IsS110.lt (show IsS110 w _ gb258 t256 0 (!t257) from IsS110.ii_ HI258)) : gb258 ≠ gb259)); have n9_ := mk_ ((by rw [hg]; exact Nat.ne_of_gt (IsS110.lt (show IsS110 w _ gb258 t256 0 (!t257) from IsS110.ii_ HI258)) : gb259 ≠ gb258)); clear BK255; clear HI258; clear HB; have BK255 := n0_; have HI258 := n1_; have HB := n2_; have BK259 := n3_; have GW259 := n4_; have GE259 := n5_; have NB255_259 := n6_; have NB259_255 := n7_; have NB258_259 := n8_; have NB259_258 := n9_; clear n0_ n1_ n2_ n3_ n4_ n5_ n6_ n7_ n8_ n9_; clear hb hbox hg; have hnb80 := NB259_255.out; have hnc80 := NB255_259.out; have hnb81 := NB259_258.out; have hnc81 := NB258_259.out; obtain ⟨hcz82_0, hcz82_1, hcz82_2, hcz82_3, hfz82_0, hfz82_1, hfz82_2, hfz82_3⟩ := b4_ BK259) | ((with_reducible refine gate_callee (f := 86) rfl ?_); refine goesL_ (some 22) rfl rfl Tryz.func86 (by kernel_rfl) rfl #[.pointer (some ⟨gb258, 0, none⟩)] rfl ga_ ?_; (with_reducible refine (spec_l05Var.calls k gb258 t256 0 (!t257) t260 t261 t262 t263 w _ ?side1 ?side2 A3.out).mono ?_); (case side1 => exact IsS110.ii_ HI258); (case side2 => exact bwi_ HB (IsS110.ge HI258.out)); rintro e w83 ⟨rfl, hi, hb, hk⟩; refine ⟨_, rfl, ?_⟩; replace BK255 := mk_ (KeepBut.blk hk (g' := gb255) (o := .cells #[.int .i64 0, .int .i64 0, .slice none 0 0, .string (⟨#[]⟩ : ByteArray)] 47 (0, 0)) bf_ NB255_258.out (by simp)); replace BK259 := mk_ (KeepBut.blk hk (g' := gb259) (o := .cells #[.int .i64 0, .int .i64 0, .slice none 0 0, .string (⟨#[]⟩ : ByteArray)] 47 (0, 0)) bu_ NB259_258.out (by simp)); replace HB := mk_ (hb); replace HI258 := mk_ (hi); (try clear hb); (try clear hk); (try clear hi); obtain ⟨hcz84_0, hcz84_1, hcz84_2, hcz84_3, hfz84_0, hfz84_1, hfz84_2, hfz84_3⟩ := b4_ BK259) | ((with_reducible refine gate_callee (f := 86) rfl ?_); refine goesL_ (some 25) rfl rfl Tryz.func86 (by kernel_rfl) rfl #[.pointer (some ⟨gb258, 0, none⟩)] rfl ga_ ?_; (with_reducible refine (spec_l05Var.calls k gb258 t261 t262 t263 t264 t265 t266 t267 w _ ?side1 ?side2 A4.out).mono ?_); (case side1 => exact IsS110.ii_ HI258); (case side2 => exact bwi_ HB (IsS110.ge HI258.out)); rintro e w85 ⟨rfl, hi, hb, hk⟩; refine ⟨_, rfl, ?_⟩; replace BK255 := mk_ (KeepBut.blk hk (g' := gb255) (o := .cells #[.int .i64 0, .int .i64 0, .slice none 0 0, .string (⟨#[]⟩ : ByteArray)] 47 (0, 0)) bf_ NB255_258.out (by simp)); replace BK259 := mk_ (KeepBut.blk hk (g' := gb259) (o := .cells #[.int .i64 t260, .int .i64 0, .slice none 0 0, .string (⟨#[]⟩ : ByteArray)] 47 (0, 0)) bu_ NB259_258.out (by simp)); replace HB := mk_ (hb); replace HI258 := mk_ (hi); (try clear hb); (try clear hk); (try clear hi); obtain ⟨hcz86_0, hcz86_1, hcz86_2, hcz86_3, hfz86_0, hfz86_1, hfz86_2, hfz86_3⟩ := b4_ BK259) | ((with_reducible refine gate_callee (f := 88) rfl ?_); refine goesL_ (some 29) rfl rfl Tryz.func88 (by kernel_rfl) rfl #[.pointer (some ⟨gb258, 0, none⟩)] rfl ga_ ?_; (with_reducible refine (spec_l05ReadShort.calls k gb258 t265 t266 t267 t268 t269 t270 t271 w _ ?side1 ?side2 A5.out).mono ?_); (case side1 => exact IsS110.ii_ HI258); (case side2 => exact bwi_ HB (IsS110.ge HI258.out)); rintro e w87 ⟨rfl, hi, hb, hk⟩; refine ⟨_, rfl, ?_⟩; replace BK255 := mk_ (KeepBut.blk hk (g' := gb255) (o := .cells #[.int .i64 0, .int .i64 0, .slice none 0 0, .string (⟨#[]⟩ : ByteArray)] 47 (0, 0)) bf_ NB255_258.out (by simp)); replace BK259 := mk_ (KeepBut.blk hk (g' := gb259) (o := .cells #[.int .i64 t260, .int .i64 t264, .slice none 0 0, .string (⟨#[]⟩ : ByteArray)] 47 (0, 0)) bu_ NB259_258.out (by simp)); replace HB := mk_ (hb); replace HI258 := mk_ (hi); (try clear hb); (try clear hk); (try clear hi)) | ((with_reducible refine gate_callee (f := 87) rfl ?_); refine goesL_ (some 30) rfl rfl Tryz.func87 (by kernel_rfl) rfl #[.string t268] rfl ga_ ?_; (with_reducible refine (spec_ReadConf.calls k t268 t272 t273 _ A6.out).mono ?_); rintro e w88 ⟨v274, rfl, ho0, hb⟩; refine ⟨_, rfl, ?_⟩; have n0_ := mk_ (Kd.R_lower ho0 (below_size (bwi_ HB (IsS110.ge HI258.out)))); have n1_ := bb_ BK255 hb; have n2_ := mk_ (IsS110.below (IsS110.ii_ HI258) hb); have n3_ := bb_ BK259 hb; have n4_ := mk_ (below_step (bwi_ HB (IsS110.ge HI258.out)) hb); clear BK255; clear HI258; clear BK259; clear HB; have HO275 := n0_; have BK255 := n1_; have HI258 := n2_; have BK259 := n3_; have HB := n4_; clear n0_ n1_ n2_ n3_ n4_; (try clear hb); (try clear hk); (try clear hi); (try clear ho0); obtain ⟨Ao89, co89, eo89⟩ := Kd.R_slice HO275.out; subst eo89; obtain ⟨hcz90_0, hcz90_1, hcz90_2, hcz90_3, hfz90_0, hfz90_1, hfz90_2, hfz90_3⟩ := b4_ BK259) | ((with_reducible refine gate_callee (f := 88) rfl ?_); refine goesL_ (some 35) rfl rfl Tryz.func88 (by kernel_rfl) rfl #[.pointer (some ⟨gb258, 0, none⟩)] rfl ga_ ?_; (with_reducible refine (spec_l05ReadShort.calls k gb258 t269 t270 t271 t276 t277 t278 false w _ ?side1 ?side2 A7.out).mono ?_); (case side1 => exact IsS110.ii_ HI258); (case side2 => exact bwi_ HB (IsS110.ge HI258.out)); rintro e w91 ⟨rfl, hi, hb, hk⟩; refine ⟨_, rfl, ?_⟩; have n0_ := mk_ (KeepBut.blk hk (g' := gb255) (o := .cells #[.int .i64 0, .int .i64 0, .slice none 0 0, .string (⟨#[]⟩ : ByteArray)] 47 (0, 0)) bf_ NB255_258.out (by simp)); have n1_ := mk_ (KeepBut.blk hk (g' := gb259) (o := .cells #[.int .i64 t260, .int .i64 t264, .slice Ao89 t272.length co89, .string (⟨#[]⟩ : ByteArray)] 47 (0, 0)) bu_ NB259_258.out (by simp)); have n2_ := mk_ (Kd.R_mono (Kd.R_keep (IsS110.apart (show IsS110 w _ gb258 t269 t270 t271 from IsS110.ii_ HI258) (by (with_reducible repeat (first | apply Kd.R_alloc | apply Kd.R_drewN | apply Kd.R_drew)); exact (Kd.R_mono (Kd.R_far (p := ⟨gb259, 2, none⟩) (Kd.R_types HO275.out BK259.out (by decide)) (fun _ hk => hk.2) (.slice Ao89 t272.length co89)) (fun _ h_ => h_.1))) (by decide)) hk (fun _ h => h.2)) (fun _ h => h.1)); have n3_ := mk_ (hb); have n4_ := mk_ (hi); clear BK255; clear BK259; clear HO275; clear HB; clear HI258; have BK255 := n0_; have BK259 := n1_; have HO275 := n2_; have HB := n3_; have HI258 := n4_; clear n0_ n1_ n2_ n3_ n4_; (try clear hb); (try clear hk); (try clear hi); obtain ⟨hcz92_0, hcz92_1, hcz92_2, hcz92_3, hfz92_0, hfz92_1, hfz92_2, hfz92_3⟩ := b4_ BK259) | ((with_reducible refine gate_callee (f := 89) rfl ?_); refine goesL_ (some 39) rfl rfl Tryz.func89 (by kernel_rfl) rfl #[.agg #[.int .i64 t260, .int .i64 t264, .slice Ao89 t272.length co89, .string t276]] rfl ga_ ?_; (with_reducible refine (spec_SnapText.calls k t260 t264 _ _ t272 t276 t280 false _ ?side1 ?side2 A8.out).mono ?_); (case side1 => refine (Kd.R_reads' (e := 3) (base := w.heap.size) (ok := fun k_ => True) (n := t272.length) (c := co89) ?_).2.2; exact (by (with_reducible repeat (first | apply Kd.R_alloc | apply Kd.R_drewN | apply Kd.R_drew)); exact (Kd.R_mono (Kd.R_far (p := ⟨gb259, 3, none⟩) (Kd.R_types HO275.out BK259.out (by decide)) (fun _ hk => hk.2) (.string t276)) (fun _ h_ => h_.1)))); (case side2 => exact (Kd.R_reads' HO275.out).2.1); rintro e w93 ⟨rfl, hb⟩; refine ⟨_, rfl, ?_⟩; have n0_ := mk_ (Kd.R_below (by (with_reducible repeat (first | apply Kd.R_alloc | apply Kd.R_drewN | apply Kd.R_drew)); exact (Kd.R_mono (Kd.R_far (p := ⟨gb259, 3, none⟩) (Kd.R_types HO275.out BK259.out (by decide)) (fun _ hk => hk.2) (.string t276)) (fun _ h_ => h_.1))) hb); have n1_ := mk_ (blk_below (g := gb255) (o := .cells #[.int .i64 0, .int .i64 0, .slice none 0 0, .string (⟨#[]⟩ : ByteArray)] 47 (0, 0)) bf_ hb); have n2_ := mk_ (IsS110.below (show IsS110 w (w91.setCell ⟨gb259, 3, none⟩ (.string t276)) gb258 t277 t278 false from IsS110.ii_ HI258) hb); have n3_ := mk_ (blk_below (g := gb259) (o := .cells #[.int .i64 t260, .int .i64 t264, .slice Ao89 t272.length co89, .string t276] 47 (0, 0)) bu_ hb); have n4_ := mk_ (below_step (bwi_ HB (IsS110.ge HI258.out)) hb); clear HO275; clear BK255; clear HI258; clear BK259; clear HB; have HO275 := n0_; have BK255 := n1_; have HI258 := n2_; have BK259 := n3_; have HB := n4_; clear n0_ n1_ n2_ n3_ n4_; (try clear hb); (try clear hk); (try clear hi); obtain ⟨HGz94, hgz94⟩ := HI258.out; have hcz94_0 := cellS110_0 HGz94; have hcz94_1 := cellS110_1 HGz94; have hcz94_2 := cellS110_2 HGz94; have hfz94_0 := blk_frozen HGz94 0; have hfz94_1 := blk_frozen HGz94 1; have hfz94_2 := blk_frozen HGz94 2; clear HGz94 hgz94; have hnb95 := NB255_258.out; have hnc95 := NB258_255.out; obtain ⟨hcz96_0, hcz96_1, hcz96_2, hcz96_3, hfz96_0, hfz96_1, hfz96_2, hfz96_3⟩ := b4_ BK255))
   refine bodyPost_ret (results_ct rfl _ _ gb255 47 #[.int .i64 0, .int .i64 0, .slice none 0 0, .string (⟨#[]⟩ : ByteArray)] (0, 0) _ rfl bu_ Tryz.underlying47 rfl (by kernel_rfl)) rfl ?_
   exact ⟨_, er_, by first | exact Kd.R_nil _ _ _ _ _ | exact Kd.N_nil _ _ _ _ _ | exact Kd.V_nil _ _ _ _ _ | exact Kd.Q_nil _ _ _ _ _ | exact Kd.S_nil _ _ _ _ _, bwi_ HB (IsS110.ge HI258.out)⟩

end Go.Proofs.YtgnmlgoadkhceaaGreatDoor.QFnExactShedActs
