/- Written by this session's own program (wip/tpl/pp.py): what the law's functions come to, and that the machine's calls do just that. -/
import Derived.Test.YtgnmlgoadkhceaaGreatDoorQFnExactNewestSnapx0
import Derived.Test.YtgnmlgoadkhceaaGreatDoorQFnExactNewestSnapx2
import Derived.Test.YtgnmlgoadkhceaaGreatDoorQFnExactNewestSnapx4
import Derived.Test.YtgnmlgoadkhceaaGreatDoorQFnExactNewestSnapx5
import Derived.Test.YtgnmlgoadkhceaaGreatDoorQFnExactNewestSnapx6
namespace Go.Proofs.YtgnmlgoadkhceaaGreatDoor.QFnExactNewestSnap
open Go.RowKit Go.Proofs.YtgnmlgoadkhceaaGreatDoorW.PrintWords Go.Proofs.YtgnmlgoadkhceaaGreatDoorW.PrintLast Go.Proofs.YtgnmlgoadkhceaaGreatDoorW.PrintMore
attribute [local go_sem] Go.Proofs.YtgnmlgoadkhceaaGreatDoor.Sem.string_geq Go.Proofs.YtgnmlgoadkhceaaGreatDoor.Sem.string_leq Go.Proofs.YtgnmlgoadkhceaaGreatDoor.Sem.string_gtr
attribute [local go_sem] max2_int min2_int max_two min_two max_three min_three max_four min_four   -- for this text's walks alone
set_option linter.unusedVariables false
set_option linter.unusedSimpArgs false

/-! ### spec_SnapText: function 89 -/
def spec_SnapText.j0 : Nat → ByteArray → Bool → Int → Int → List Int → ByteArray → Option (ByteArray × Bool)
 | 0, _, _, _, _, _, _ => none
 | k + 1, x4, x32, x226000, x226001, x226002, x226003 => if x32 = true then (some ((⟨#[]⟩ : ByteArray), false)) else ((spec_l01Var.f k x226000).bind fun t230 => ((spec_l01Var.f k x226001).bind fun t231 => (if t230.size + t231.size ≤ 9223372036854775807 then ((spec_l05Short.f k x4).bind fun t232 => (if (t230 ++ t231).size + t232.size ≤ 9223372036854775807 then ((spec_l05Short.f k x226003).bind fun t233 => (if ((t230 ++ t231) ++ t232).size + t233.size ≤ 9223372036854775807 then (if (wrap64 (((((t230 ++ t231) ++ t232) ++ t233).size : Int) + 4)) > 20000 then (some ((⟨#[]⟩ : ByteArray), false)) else ((spec_Sealed.f k (((t230 ++ t231) ++ t232) ++ t233)).bind fun bt234 => (some (bt234.1, bt234.2)))) else (none))) else (none))) else (none))))
def spec_SnapText.f (k : Nat) (a0_0 : Int) (a0_1 : Int) (l0_2 : List Int) (a0_3 : ByteArray) : Option (ByteArray × Bool) := (spec_ConfText.f k l0_2).bind fun bt226 => (if bt226.2 = true then ((spec_l01In.f a0_0 0 1000000).bind fun t228 => (if t228 = true then ((spec_l01In.f a0_1 0 100000).bind fun t229 => (if t229 = true then (spec_SnapText.j0 k bt226.1 (decide ((a0_3.size : Int) > 20000)) a0_0 a0_1 l0_2 a0_3) else (spec_SnapText.j0 k bt226.1 true a0_0 a0_1 l0_2 a0_3))) else (spec_SnapText.j0 k bt226.1 true a0_0 a0_1 l0_2 a0_3))) else (spec_SnapText.j0 k bt226.1 true a0_0 a0_1 l0_2 a0_3))
theorem spec_SnapText.mono_l : ∀ k, (∀ y0 y1 y2 y3 y4 y5, LeO (spec_SnapText.j0 k y0 y1 y2 y3 y4 y5) (spec_SnapText.j0 (k + 1) y0 y1 y2 y3 y4 y5))
 | 0 => fun _ _ _ _ _ _ r h => by simp [spec_SnapText.j0] at h
 | k + 1 => by
  have ih0 := spec_SnapText.mono_l k
  ·intro y0 y1 y2 y3 y4 y5
   unfold spec_SnapText.j0
   repeat' first
   | (with_reducible exact ih0 _ _ _ _ _ _)
   | (with_reducible exact spec_ConfText.mono _ _)
   | (with_reducible exact spec_Sealed.mono _ _)
   | (with_reducible exact spec_l01Var.mono _ _)
   | (with_reducible exact spec_l05Short.mono _ _)
   | (with_reducible exact LeO.refl _)
   | (with_reducible exact LeO.none _)
   | (with_reducible refine LeO.ite ?_ ?_)
   | (with_reducible refine LeO.bind ?_ (fun _ => ?_))
   | exact ih0 _ _ _ _ _ _
   | exact spec_ConfText.mono _ _
   | exact spec_Sealed.mono _ _
   | exact spec_l01Var.mono _ _
   | exact spec_l05Short.mono _ _
   | exact LeO.none _
   | refine LeO.ite ?_ ?_
   | refine LeO.bind ?_ (fun _ => ?_)
theorem spec_SnapText.mono : ∀ a0 a1 a2 a3 k, LeO (spec_SnapText.f k a0 a1 a2 a3) (spec_SnapText.f (k + 1) a0 a1 a2 a3) := by
 intro a0 a1 a2 a3 k
 have ih0 := spec_SnapText.mono_l k
 unfold spec_SnapText.f
 repeat' first
   | (with_reducible exact ih0 _ _ _ _ _ _)
   | (with_reducible exact spec_ConfText.mono _ _)
   | (with_reducible exact spec_Sealed.mono _ _)
   | (with_reducible exact spec_l01Var.mono _ _)
   | (with_reducible exact spec_l05Short.mono _ _)
   | (with_reducible exact LeO.refl _)
   | (with_reducible exact LeO.none _)
   | (with_reducible refine LeO.ite ?_ ?_)
   | (with_reducible refine LeO.bind ?_ (fun _ => ?_))
   | exact ih0 _ _ _ _ _ _
   | exact spec_ConfText.mono _ _
   | exact spec_Sealed.mono _ _
   | exact spec_l01Var.mono _ _
   | exact spec_l05Short.mono _ _
   | exact LeO.none _
   | refine LeO.ite ?_ ?_
   | refine LeO.bind ?_ (fun _ => ?_)
def spec_SnapText.T4 : Bool × List (List Nat × List Nat) := (true, [([], []), ([0], [0]), ([1], [1]), ([], []), ([3], [3]), ([4, 2], [4]), ([2, 5], [2, 5]), ([], []), ([7, 5], [7]), ([6, 8], [6, 8]), ([], []), ([10], [10]), ([11, 8], [11]), ([9, 12], [9, 12]), ([13, 12, 0, 1, 2, 3, 4, 5, 6, 7, 8, 9, 10, 11, 12, 13], [13])])
def spec_SnapText.B4 : List Nat := [0, 1, 3, 0, 8, 31, 63, 0, 191, 511, 0, 1024, 3519, 8191, 16383]
theorem spec_SnapText.tab4 : rtab .any (opsOf Tryz.f89 4) = spec_SnapText.T4 := by kernel_rfl
theorem spec_SnapText.bits4 : waitsOk spec_SnapText.T4.2 spec_SnapText.B4 = true := by kernel_rfl
set_option maxHeartbeats 8000000 in
set_option maxRecDepth 100000 in
theorem spec_SnapText.calls (k : Nat) (a0_0 : Int) (a0_1 : Int) (A0_2 : Option Addr) (c0_2 : Nat) (l0_2 : List Int) (a0_3 : ByteArray) (r1 : ByteArray) (r2 : Bool) (w : World) (hr0_2 : Kd.C (Kd.int .i64) w A0_2 l0_2.length l0_2) (hc0_2 : l0_2.length ≤ c0_2) (h : spec_SnapText.f k a0_0 a0_1 l0_2 a0_3 = some (r1, r2)) :
  Calls Tryz.prog 89 #[.agg #[.int .i64 a0_0, .int .i64 a0_1, .slice A0_2 l0_2.length c0_2, .string a0_3]] w fun e w' => e = .returned (.tuple #[.string r1, .bool r2]) ∧ Below w.heap.size w w' := by
 have hu47 := Tryz.underlying47
 have HR0_2 := Aside0.mk hr0_2
 have HC0_2 := Aside0.mk hc0_2
 clear hr0_2 hc0_2
 have HB := mk_ (Below.refl w.heap.size w)
 have H : ((spec_ConfText.f k l0_2).bind fun bt226 => (if bt226.2 = true then ((spec_l01In.f a0_0 0 1000000).bind fun t228 => (if t228 = true then ((spec_l01In.f a0_1 0 100000).bind fun t229 => (if t229 = true then (spec_SnapText.j0 k bt226.1 (decide ((a0_3.size : Int) > 20000)) a0_0 a0_1 l0_2 a0_3) else (spec_SnapText.j0 k bt226.1 true a0_0 a0_1 l0_2 a0_3))) else (spec_SnapText.j0 k bt226.1 true a0_0 a0_1 l0_2 a0_3))) else (spec_SnapText.j0 k bt226.1 true a0_0 a0_1 l0_2 a0_3))) = some (r1, r2) := h
 clear h
 replace H := Option.bind_eq_some_iff.mp H
 obtain ⟨⟨t226, t227⟩, A20, H⟩ := H
 replace H : (if t227 = true then ((spec_l01In.f a0_0 0 1000000).bind fun t228 => (if t228 = true then ((spec_l01In.f a0_1 0 100000).bind fun t229 => (if t229 = true then (spec_SnapText.j0 k t226 (decide ((a0_3.size : Int) > 20000)) a0_0 a0_1 l0_2 a0_3) else (spec_SnapText.j0 k t226 true a0_0 a0_1 l0_2 a0_3))) else (spec_SnapText.j0 k t226 true a0_0 a0_1 l0_2 a0_3))) else (spec_SnapText.j0 k t226 true a0_0 a0_1 l0_2 a0_3)) = some (r1, r2) := H
 have A2 := Aside0.mk A20
 clear A20
 have HC3 := Aside0.mk H
 clear H
 go_enter Tryz.func89, Tryz.ntmps89
 go_upto_region 2 with (first | ((with_reducible refine gate_dst (N := 1) rfl ?_); (try (refine gate_guard (by rfl) ?_; dsimp only)); refine box_event ?hg (N := 1) ?hd (cs := #[.int .i64 a0_0, .int .i64 a0_1, .slice A0_2 l0_2.length c0_2, .string a0_3]) (t := 47) ?hr ?_; (case hd => rfl); (case hg => rfl); (case hr => first | (go_simp; done) | (go_simp; rfl)); intro gb225 hg w4 hbox hb; have BK225 := mk_ (hbox); have GW225 : Aside0 (w.heap.size ≤ gb225) := bz_ hg; have GE225 : Aside0 (w.heap.size ≤ gb225) := bz_ hg; replace HB := bs_ HB hb; clear hb hbox hg; have hcz5_0 : w4.cell? ⟨gb225, 0, none⟩ = some (.int .i64 a0_0) := bc_ BK225 0; have hcz5_1 : w4.cell? ⟨gb225, 1, none⟩ = some (.int .i64 a0_1) := bc_ BK225 1; have hcz5_2 : w4.cell? ⟨gb225, 2, none⟩ = some (.slice A0_2 l0_2.length c0_2) := bc_ BK225 2; have hcz5_3 : w4.cell? ⟨gb225, 3, none⟩ = some (.string a0_3) := bc_ BK225 3; have hfz5_0 := blk_frozen BK225.out 0; have hfz5_1 := blk_frozen BK225.out 1; have hfz5_2 := blk_frozen BK225.out 2; have hfz5_3 := blk_frozen BK225.out 3) | ((with_reducible refine gate_callee (f := 124) rfl ?_); refine goesL_ (some 10) rfl rfl Tryz.func124 (by kernel_rfl) rfl #[.slice A0_2 l0_2.length c0_2] rfl ga_ ?_; (with_reducible refine (spec_ConfText.calls k _ _ l0_2 t226 t227 _ ?side1 ?side2 A2.out).mono ?_); (case side1 => repeat (first | exact (Kd.C_below HR0_2.out HB.out) | (with_reducible refine Kd.C_alloc ?_ _) | (with_reducible refine Kd.C_drewN ?_ _) | (with_reducible refine Kd.C_drew ?_))); (case side2 => exact HC0_2.out); rintro e w6 ⟨rfl, hb⟩; refine ⟨_, rfl, ?_⟩; replace BK225 := bb_ BK225 hb; replace HB := bs_ HB hb; (try clear hb)))
 (try simp only [Act.put, sia_, scz_, scs_])
 go_cut [32] (fun v32 wc => ∃ (kq : Nat) (x32_2 : Bool), v32 = .bool x32_2 ∧ Aside0 (spec_SnapText.j0 kq t226 x32_2 a0_0 a0_1 l0_2 a0_3 = some (r1, r2)) ∧ Aside0 (kq ≤ k) ∧ Aside0 (wc.heap[gb225]? = some (.cells #[.int .i64 a0_0, .int .i64 a0_1, (.slice A0_2 l0_2.length c0_2), .string a0_3] 47 (0, 0))) ∧ Aside0 (Below w.heap.size w wc))
 case first =>
  have H := HC3.out
  clear HC3
  by_cases c7 : t227 = true
  ·subst c7
   have H1 : ((spec_l01In.f a0_0 0 1000000).bind fun t228 => (if t228 = true then ((spec_l01In.f a0_1 0 100000).bind fun t229 => (if t229 = true then (spec_SnapText.j0 k t226 (decide ((a0_3.size : Int) > 20000)) a0_0 a0_1 l0_2 a0_3) else (spec_SnapText.j0 k t226 true a0_0 a0_1 l0_2 a0_3))) else (spec_SnapText.j0 k t226 true a0_0 a0_1 l0_2 a0_3))) = some (r1, r2) := by rw [if_pos rfl] at H; exact H
   clear H
   have H := H1
   clear H1
   replace H := Option.bind_eq_some_iff.mp H
   obtain ⟨t228, A80, H⟩ := H
   replace H : (if t228 = true then ((spec_l01In.f a0_1 0 100000).bind fun t229 => (if t229 = true then (spec_SnapText.j0 k t226 (decide ((a0_3.size : Int) > 20000)) a0_0 a0_1 l0_2 a0_3) else (spec_SnapText.j0 k t226 true a0_0 a0_1 l0_2 a0_3))) else (spec_SnapText.j0 k t226 true a0_0 a0_1 l0_2 a0_3)) = some (r1, r2) := H
   have A8 := Aside0.mk A80
   clear A80
   by_cases c9 : t228 = true
   ·subst c9
    have H1 : ((spec_l01In.f a0_1 0 100000).bind fun t229 => (if t229 = true then (spec_SnapText.j0 k t226 (decide ((a0_3.size : Int) > 20000)) a0_0 a0_1 l0_2 a0_3) else (spec_SnapText.j0 k t226 true a0_0 a0_1 l0_2 a0_3))) = some (r1, r2) := by rw [if_pos rfl] at H; exact H
    clear H
    have H := H1
    clear H1
    replace H := Option.bind_eq_some_iff.mp H
    obtain ⟨t229, A100, H⟩ := H
    replace H : (if t229 = true then (spec_SnapText.j0 k t226 (decide ((a0_3.size : Int) > 20000)) a0_0 a0_1 l0_2 a0_3) else (spec_SnapText.j0 k t226 true a0_0 a0_1 l0_2 a0_3)) = some (r1, r2) := H
    have A10 := Aside0.mk A100
    clear A100
    by_cases c11 : t229 = true
    ·subst c11
     have H1 : (spec_SnapText.j0 k t226 (decide ((a0_3.size : Int) > 20000)) a0_0 a0_1 l0_2 a0_3) = some (r1, r2) := by rw [if_pos rfl] at H; exact H
     clear H
     have H := H1
     clear H1
     have H' := Aside0.mk H
     clear H
     have hcz12_0 : w6.cell? ⟨gb225, 0, none⟩ = some (.int .i64 a0_0) := bc_ BK225 0
     have hcz12_1 : w6.cell? ⟨gb225, 1, none⟩ = some (.int .i64 a0_1) := bc_ BK225 1
     have hcz12_2 : w6.cell? ⟨gb225, 2, none⟩ = some (.slice A0_2 l0_2.length c0_2) := bc_ BK225 2
     have hcz12_3 : w6.cell? ⟨gb225, 3, none⟩ = some (.string a0_3) := bc_ BK225 3
     have hfz12_0 := blk_frozen BK225.out 0
     have hfz12_1 := blk_frozen BK225.out 1
     have hfz12_2 := blk_frozen BK225.out 2
     have hfz12_3 := blk_frozen BK225.out 3
     go_wp2_with (first | (go_at_call 58; (with_reducible refine (spec_l01In.calls a0_0 0 1000000 true _ A8.out).mono ?_); rintro e w' ⟨rfl, ⟨nd, rfl⟩⟩) | (go_at_call 58; (with_reducible refine (spec_l01In.calls a0_1 0 100000 true _ A10.out).mono ?_); rintro e w' ⟨rfl, ⟨nd, rfl⟩⟩))
     go_meet
     case rel => exact ⟨_, (decide ((a0_3.size : Int) > 20000)), (by first | rfl | (simp; done) | (simp [*]; done)), H', ⟨by first | omega | exact Nat.le_refl _⟩, ⟨bf_⟩, ⟨bw_ HB⟩⟩
    ·replace c11 := Bool.eq_false_iff.mpr c11
     subst c11
     have H1 : (spec_SnapText.j0 k t226 true a0_0 a0_1 l0_2 a0_3) = some (r1, r2) := by rw [if_neg (show ¬ (false = true) by decide)] at H; exact H
     clear H
     have H := H1
     clear H1
     have H' := Aside0.mk H
     clear H
     have hcz13_0 : w6.cell? ⟨gb225, 0, none⟩ = some (.int .i64 a0_0) := bc_ BK225 0
     have hcz13_1 : w6.cell? ⟨gb225, 1, none⟩ = some (.int .i64 a0_1) := bc_ BK225 1
     have hcz13_2 : w6.cell? ⟨gb225, 2, none⟩ = some (.slice A0_2 l0_2.length c0_2) := bc_ BK225 2
     have hcz13_3 : w6.cell? ⟨gb225, 3, none⟩ = some (.string a0_3) := bc_ BK225 3
     have hfz13_0 := blk_frozen BK225.out 0
     have hfz13_1 := blk_frozen BK225.out 1
     have hfz13_2 := blk_frozen BK225.out 2
     have hfz13_3 := blk_frozen BK225.out 3
     go_wp2_with (first | (go_at_call 58; (with_reducible refine (spec_l01In.calls a0_0 0 1000000 true _ A8.out).mono ?_); rintro e w' ⟨rfl, ⟨nd, rfl⟩⟩) | (go_at_call 58; (with_reducible refine (spec_l01In.calls a0_1 0 100000 false _ A10.out).mono ?_); rintro e w' ⟨rfl, ⟨nd, rfl⟩⟩))
     go_meet
     case rel => exact ⟨_, (true), (by first | rfl | (simp; done) | (simp [*]; done)), H', ⟨by first | omega | exact Nat.le_refl _⟩, ⟨bf_⟩, ⟨bw_ HB⟩⟩
   ·replace c9 := Bool.eq_false_iff.mpr c9
    subst c9
    have H1 : (spec_SnapText.j0 k t226 true a0_0 a0_1 l0_2 a0_3) = some (r1, r2) := by rw [if_neg (show ¬ (false = true) by decide)] at H; exact H
    clear H
    have H := H1
    clear H1
    have H' := Aside0.mk H
    clear H
    have hcz14_0 : w6.cell? ⟨gb225, 0, none⟩ = some (.int .i64 a0_0) := bc_ BK225 0
    have hcz14_1 : w6.cell? ⟨gb225, 1, none⟩ = some (.int .i64 a0_1) := bc_ BK225 1
    have hcz14_2 : w6.cell? ⟨gb225, 2, none⟩ = some (.slice A0_2 l0_2.length c0_2) := bc_ BK225 2
    have hcz14_3 : w6.cell? ⟨gb225, 3, none⟩ = some (.string a0_3) := bc_ BK225 3
    have hfz14_0 := blk_frozen BK225.out 0
    have hfz14_1 := blk_frozen BK225.out 1
    have hfz14_2 := blk_frozen BK225.out 2
    have hfz14_3 := blk_frozen BK225.out 3
    go_wp2_with (first | (go_at_call 58; (with_reducible refine (spec_l01In.calls a0_0 0 1000000 false _ A8.out).mono ?_); rintro e w' ⟨rfl, ⟨nd, rfl⟩⟩))
    go_meet
    case rel => exact ⟨_, (true), (by first | rfl | (simp; done) | (simp [*]; done)), H', ⟨by first | omega | exact Nat.le_refl _⟩, ⟨bf_⟩, ⟨bw_ HB⟩⟩
  ·replace c7 := Bool.eq_false_iff.mpr c7
   subst c7
   have H1 : (spec_SnapText.j0 k t226 true a0_0 a0_1 l0_2 a0_3) = some (r1, r2) := by rw [if_neg (show ¬ (false = true) by decide)] at H; exact H
   clear H
   have H := H1
   clear H1
   have H' := Aside0.mk H
   clear H
   go_wp2
   go_meet
   case rel => exact ⟨_, (true), (by first | rfl | (simp; done) | (simp [*]; done)), H', ⟨by first | omega | exact Nat.le_refl _⟩, ⟨bf_⟩, ⟨bw_ HB⟩⟩
 case rest =>
  clear HC3
  try clear c1
  try clear p2
  try clear c7
  try clear c8
  try clear c9
  try clear c11
  try clear c12
  try clear hcz12_0
  try clear hcz12_1
  try clear hcz12_2
  try clear hcz12_3
  try clear hcz13_0
  try clear hcz13_1
  try clear hcz13_2
  try clear hcz13_3
  try clear hcz14_0
  try clear hcz14_1
  try clear hcz14_2
  try clear hcz14_3
  try clear hcz5_0
  try clear hcz5_1
  try clear hcz5_2
  try clear hcz5_3
  try clear hfz12_0
  try clear hfz12_1
  try clear hfz12_2
  try clear hfz12_3
  try clear hfz13_0
  try clear hfz13_1
  try clear hfz13_2
  try clear hfz13_3
  try clear hfz14_0
  try clear hfz14_1
  try clear hfz14_2
  try clear hfz14_3
  try clear hfz5_0
  try clear hfz5_1
  try clear hfz5_2
  try clear hfz5_3
  obtain ⟨kq, x32_2, rfl, HA, HJ2, BK225, HB⟩ := hcut
  cases kq with
  | zero => exact absurd HA.out (by simp [spec_SnapText.j0])
  | succ kj2 =>
   have H := HA.out
   clear HA
   simp only [spec_SnapText.j0] at H
   by_cases c15 : x32_2 = true
   ·subst c15
    have H1 : (some ((⟨#[]⟩ : ByteArray), false)) = some (r1, r2) := by rw [if_pos rfl] at H; exact H
    clear H
    have H := H1
    clear H1
    simp only [Option.some.injEq, Prod.mk.injEq] at H
    obtain ⟨rfl, rfl⟩ := H
    go_wp2
    go_ret2
    exact ⟨er_, bw_ HB⟩
   ·replace c15 := Bool.eq_false_iff.mpr c15
    subst c15
    have H1 : ((spec_l01Var.f kj2 a0_0).bind fun t230 => ((spec_l01Var.f kj2 a0_1).bind fun t231 => (if t230.size + t231.size ≤ 9223372036854775807 then ((spec_l05Short.f kj2 t226).bind fun t232 => (if (t230 ++ t231).size + t232.size ≤ 9223372036854775807 then ((spec_l05Short.f kj2 a0_3).bind fun t233 => (if ((t230 ++ t231) ++ t232).size + t233.size ≤ 9223372036854775807 then (if (wrap64 (((((t230 ++ t231) ++ t232) ++ t233).size : Int) + 4)) > 20000 then (some ((⟨#[]⟩ : ByteArray), false)) else ((spec_Sealed.f kj2 (((t230 ++ t231) ++ t232) ++ t233)).bind fun bt234 => (some (bt234.1, bt234.2)))) else (none))) else (none))) else (none)))) = some (r1, r2) := by rw [if_neg (show ¬ (false = true) by decide)] at H; exact H
    clear H
    have H := H1
    clear H1
    replace H := Option.bind_eq_some_iff.mp H
    obtain ⟨t230, A160, H⟩ := H
    replace H : ((spec_l01Var.f kj2 a0_1).bind fun t231 => (if t230.size + t231.size ≤ 9223372036854775807 then ((spec_l05Short.f kj2 t226).bind fun t232 => (if (t230 ++ t231).size + t232.size ≤ 9223372036854775807 then ((spec_l05Short.f kj2 a0_3).bind fun t233 => (if ((t230 ++ t231) ++ t232).size + t233.size ≤ 9223372036854775807 then (if (wrap64 (((((t230 ++ t231) ++ t232) ++ t233).size : Int) + 4)) > 20000 then (some ((⟨#[]⟩ : ByteArray), false)) else ((spec_Sealed.f kj2 (((t230 ++ t231) ++ t232) ++ t233)).bind fun bt234 => (some (bt234.1, bt234.2)))) else (none))) else (none))) else (none))) = some (r1, r2) := H
    have A16 := Aside0.mk A160
    clear A160
    replace H := Option.bind_eq_some_iff.mp H
    obtain ⟨t231, A170, H⟩ := H
    replace H : (if t230.size + t231.size ≤ 9223372036854775807 then ((spec_l05Short.f kj2 t226).bind fun t232 => (if (t230 ++ t231).size + t232.size ≤ 9223372036854775807 then ((spec_l05Short.f kj2 a0_3).bind fun t233 => (if ((t230 ++ t231) ++ t232).size + t233.size ≤ 9223372036854775807 then (if (wrap64 (((((t230 ++ t231) ++ t232) ++ t233).size : Int) + 4)) > 20000 then (some ((⟨#[]⟩ : ByteArray), false)) else ((spec_Sealed.f kj2 (((t230 ++ t231) ++ t232) ++ t233)).bind fun bt234 => (some (bt234.1, bt234.2)))) else (none))) else (none))) else (none)) = some (r1, r2) := H
    have A17 := Aside0.mk A170
    clear A170
    by_cases c18 : t230.size + t231.size ≤ 9223372036854775807
    ·rw [if_pos c18] at H
     have c18b0 := eq_true c18
     have c18b1 : decide (t230.size + t231.size ≤ 9223372036854775807) = true := decide_eq_true c18
     try have c18b2 : (9223372036854775807 < t230.size + t231.size) = False := eq_false (Nat.not_lt.2 c18)
     replace H := Option.bind_eq_some_iff.mp H
     obtain ⟨t232, A190, H⟩ := H
     replace H : (if (t230 ++ t231).size + t232.size ≤ 9223372036854775807 then ((spec_l05Short.f kj2 a0_3).bind fun t233 => (if ((t230 ++ t231) ++ t232).size + t233.size ≤ 9223372036854775807 then (if (wrap64 (((((t230 ++ t231) ++ t232) ++ t233).size : Int) + 4)) > 20000 then (some ((⟨#[]⟩ : ByteArray), false)) else ((spec_Sealed.f kj2 (((t230 ++ t231) ++ t232) ++ t233)).bind fun bt234 => (some (bt234.1, bt234.2)))) else (none))) else (none)) = some (r1, r2) := H
     have A19 := Aside0.mk A190
     clear A190
     by_cases c20 : (t230 ++ t231).size + t232.size ≤ 9223372036854775807
     ·rw [if_pos c20] at H
      have c20b0 := eq_true c20
      have c20b1 : decide ((t230 ++ t231).size + t232.size ≤ 9223372036854775807) = true := decide_eq_true c20
      try have c20b2 : (9223372036854775807 < (t230 ++ t231).size + t232.size) = False := eq_false (Nat.not_lt.2 c20)
      have c20x0 : (9223372036854775807 < t230.size + t231.size + t232.size) = False := eq_false (by have h_ := c20; simp only [ByteArray.size_append] at h_; exact Nat.not_lt.2 h_)
      replace H := Option.bind_eq_some_iff.mp H
      obtain ⟨t233, A210, H⟩ := H
      replace H : (if ((t230 ++ t231) ++ t232).size + t233.size ≤ 9223372036854775807 then (if (wrap64 (((((t230 ++ t231) ++ t232) ++ t233).size : Int) + 4)) > 20000 then (some ((⟨#[]⟩ : ByteArray), false)) else ((spec_Sealed.f kj2 (((t230 ++ t231) ++ t232) ++ t233)).bind fun bt234 => (some (bt234.1, bt234.2)))) else (none)) = some (r1, r2) := H
      have A21 := Aside0.mk A210
      clear A210
      by_cases c22 : ((t230 ++ t231) ++ t232).size + t233.size ≤ 9223372036854775807
      ·rw [if_pos c22] at H
       have c22b0 := eq_true c22
       have c22b1 : decide (((t230 ++ t231) ++ t232).size + t233.size ≤ 9223372036854775807) = true := decide_eq_true c22
       try have c22b2 : (9223372036854775807 < ((t230 ++ t231) ++ t232).size + t233.size) = False := eq_false (Nat.not_lt.2 c22)
       have c22x0 : (9223372036854775807 < t230.size + t231.size + t232.size + t233.size) = False := eq_false (by have h_ := c22; simp only [ByteArray.size_append] at h_; exact Nat.not_lt.2 h_)
       by_cases c23 : (wrap64 (((((t230 ++ t231) ++ t232) ++ t233).size : Int) + 4)) > 20000
       ·rw [if_pos c23] at H
        have c23b0 : decide (20000 < (wrap64 (((((t230 ++ t231) ++ t232) ++ t233).size : Int) + 4))) = true := decide_eq_true c23
        try have c23y0 : decide (20000 < (wrap64 (((t230.size : Int) + (t231.size : Int) + (t232.size : Int) + (t233.size : Int)) + 4))) = true := by simpa only [ByteArray.size_append, Int.natCast_add] using c23b0
        clear c23
        simp only [Option.some.injEq, Prod.mk.injEq] at H
        obtain ⟨rfl, rfl⟩ := H
        try go_wp2
        have n0_ := mk_ (blk_drew BK225.out)
        have n1_ := mk_ (below_drew1 HB.out)
        clear BK225; clear HB; have BK225 := n0_; have HB := n1_; clear n0_ n1_
        refine start_ (n := 15) (S := fun w' => w'.cell? ⟨gb225, 0, none⟩ = some (.int .i64 a0_0) ∧ w'.cell? ⟨gb225, 1, none⟩ = some (.int .i64 a0_1) ∧ w'.cell? ⟨gb225, 2, none⟩ = some (.slice A0_2 l0_2.length c0_2) ∧ w'.cell? ⟨gb225, 3, none⟩ = some (.string a0_3)) (ds := []) #[false, false, false, false, false, false, false, false, false, false, false, false, false, false, false] (by kernel_rfl) rfl rfl ⟨bc_ BK225 0, bc_ BK225 1, bc_ BK225 2, bc_ BK225 3⟩ (fun hHeld => ?_); refine with_tabW spec_SnapText.tab4 spec_SnapText.bits4 (fun HT_ HW_ => ?_)
        generalize wc.drew = w24 at BK225 HB hHeld ⊢
        refine pure_ (i := 0) (N := some 33) (v := ?_) (a' := ?_) #[true, false, false, false, false, false, false, false, false, false, false, false, false, false, false] rfl rfl (any_of HT_.out (by kernel_rfl)) (fun _ _ _ h => h) (Or.inl ⟨by rfl, ?_⟩) ?_ ?_
        rotate_left
        ·intro w'
         go_simp
         with_reducible rfl
        rotate_left
        ·simp only [Act.put, sia_, scz_, scs_, i64_w, i32_w]
         rfl
        refine pure_ (i := 3) (N := some 36) (v := ?_) (a' := ?_) #[true, false, false, true, false, false, false, false, false, false, false, false, false, false, false] rfl rfl (any_of HT_.out (by kernel_rfl)) (fun _ _ _ h => h) (Or.inl ⟨by rfl, ?_⟩) ?_ ?_
        rotate_left
        ·intro w'
         go_simp
         with_reducible rfl
        rotate_left
        ·simp only [Act.put, sia_, scz_, scs_, i64_w, i32_w]
         rfl
        refine pure_ (i := 7) (N := some 40) (v := ?_) (a' := ?_) #[true, false, false, true, false, false, false, true, false, false, false, false, false, false, false] rfl rfl (any_of HT_.out (by kernel_rfl)) (fun _ _ _ h => h) (Or.inl ⟨by rfl, ?_⟩) ?_ ?_
        rotate_left
        ·intro w'
         go_simp
         with_reducible rfl
        rotate_left
        ·simp only [Act.put, sia_, scz_, scs_, i64_w, i32_w]
         rfl
        refine pure_ (i := 10) (N := some 43) (v := ?_) (a' := ?_) #[true, false, false, true, false, false, false, true, false, false, true, false, false, false, false] rfl rfl (any_of HT_.out (by kernel_rfl)) (fun _ _ _ h => h) (Or.inl ⟨by rfl, ?_⟩) ?_ ?_
        rotate_left
        ·intro w'
         go_simp
         with_reducible rfl
        rotate_left
        ·simp only [Act.put, sia_, scz_, scs_, i64_w, i32_w]
         rfl
        refine take_ (i := 1) (N := some 34) (v := ?_) (a' := ?_) #[true, true, false, true, false, false, false, true, false, false, true, false, false, false, false] rfl rfl (take_ofW HT_.out HW_.out (by kernel_rfl)) (fun _ _ _ h => h) (Or.inl ⟨by rfl, ?_⟩) hHeld ?_ ?_
        rotate_left
        ·rintro w' ⟨s0, s1, s2, s3⟩
         go_simp
         with_reducible rfl
        rotate_left
        ·simp only [Act.put, sia_, scz_, scs_, i64_w, i32_w]
         rfl
        refine take_ (i := 4) (N := some 37) (v := ?_) (a' := ?_) #[true, true, false, true, true, false, false, true, false, false, true, false, false, false, false] rfl rfl (take_ofW HT_.out HW_.out (by kernel_rfl)) (fun _ _ _ h => h) (Or.inl ⟨by rfl, ?_⟩) hHeld ?_ ?_
        rotate_left
        ·rintro w' ⟨s0, s1, s2, s3⟩
         go_simp
         with_reducible rfl
        rotate_left
        ·simp only [Act.put, sia_, scz_, scs_, i64_w, i32_w]
         rfl
        refine take_ (i := 11) (N := some 44) (v := ?_) (a' := ?_) #[true, true, false, true, true, false, false, true, false, false, true, true, false, false, false] rfl rfl (take_ofW HT_.out HW_.out (by kernel_rfl)) (fun _ _ _ h => h) (Or.inl ⟨by rfl, ?_⟩) hHeld ?_ ?_
        rotate_left
        ·rintro w' ⟨s0, s1, s2, s3⟩
         go_simp
         with_reducible rfl
        rotate_left
        ·simp only [Act.put, sia_, scz_, scs_, i64_w, i32_w]
         rfl
        refine one_ (i := 2) (N := some 35) #[true, true, true, true, true, false, false, true, false, false, true, true, false, false, false] rfl rfl (one_of HT_.out (by kernel_rfl)) (by decide) (fun K hK => ?_)
        refine goes_ Tryz.func98 (by kernel_rfl) rfl #[.int .i64 a0_0] (by rfl) rfl rfl ga_ ?_
        with_reducible refine (spec_l01Var.calls kj2 a0_0 t230 _ A16.out).mono ?_
        rintro e w25 ⟨rfl, hb⟩
        refine ⟨_, rfl, ?_⟩
        have n0_ := bb_ BK225 hb
        have n1_ := bs_ HB hb
        clear BK225; clear HB; have BK225 := n0_; have HB := n1_; clear n0_ n1_; (try clear hb); (try clear hb2); (try clear hk); (try clear hi)
        refine hK.out _ _ ⟨bc_ BK225 0, bc_ BK225 1, bc_ BK225 2, bc_ BK225 3⟩ (fun hHeld => ?_)
        clear hK K
        refine norm_ (a' := ?_) ?_ ?_
        rotate_left
        ·show Act.put _ (some 35) _ = _
         simp only [Act.put, sia_, scz_, scs_, i64_w, i32_w]
         rfl
        refine one_ (i := 5) (N := some 38) #[true, true, true, true, true, true, false, true, false, false, true, true, false, false, false] rfl rfl (one_of HT_.out (by kernel_rfl)) (by decide) (fun K hK => ?_)
        refine goes_ Tryz.func98 (by kernel_rfl) rfl #[.int .i64 a0_1] (by rfl) rfl rfl ga_ ?_
        with_reducible refine (spec_l01Var.calls kj2 a0_1 t231 _ A17.out).mono ?_
        rintro e w26 ⟨rfl, hb⟩
        refine ⟨_, rfl, ?_⟩
        have n0_ := bb_ BK225 hb
        have n1_ := bs_ HB hb
        clear BK225; clear HB; have BK225 := n0_; have HB := n1_; clear n0_ n1_; (try clear hb); (try clear hb2); (try clear hk); (try clear hi)
        refine hK.out _ _ ⟨bc_ BK225 0, bc_ BK225 1, bc_ BK225 2, bc_ BK225 3⟩ (fun hHeld => ?_)
        clear hK K
        refine norm_ (a' := ?_) ?_ ?_
        rotate_left
        ·show Act.put _ (some 38) _ = _
         simp only [Act.put, sia_, scz_, scs_, i64_w, i32_w]
         rfl
        refine pure_ (i := 6) (N := some 39) (v := ?_) (a' := ?_) #[true, true, true, true, true, true, true, true, false, false, true, true, false, false, false] rfl rfl (any_of HT_.out (by kernel_rfl)) (fun _ _ _ h => h) (Or.inl ⟨by rfl, ?_⟩) ?_ ?_
        rotate_left
        ·intro w'
         go_simp
         with_reducible rfl
        rotate_left
        ·simp only [Act.put, sia_, scz_, scs_, i64_w, i32_w]
         rfl
        refine one_ (i := 8) (N := some 41) #[true, true, true, true, true, true, true, true, true, false, true, true, false, false, false] rfl rfl (one_of HT_.out (by kernel_rfl)) (by decide) (fun K hK => ?_)
        refine goes_ Tryz.func125 (by kernel_rfl) rfl #[.string t226] (by rfl) rfl rfl ga_ ?_
        with_reducible refine (spec_l05Short.calls kj2 t226 t232 _ A19.out).mono ?_
        rintro e w27 ⟨rfl, hb⟩
        refine ⟨_, rfl, ?_⟩
        have n0_ := bb_ BK225 hb
        have n1_ := bs_ HB hb
        clear BK225; clear HB; have BK225 := n0_; have HB := n1_; clear n0_ n1_; (try clear hb); (try clear hb2); (try clear hk); (try clear hi)
        refine hK.out _ _ ⟨bc_ BK225 0, bc_ BK225 1, bc_ BK225 2, bc_ BK225 3⟩ (fun hHeld => ?_)
        clear hK K
        refine norm_ (a' := ?_) ?_ ?_
        rotate_left
        ·show Act.put _ (some 41) _ = _
         simp only [Act.put, sia_, scz_, scs_, i64_w, i32_w]
         rfl
        refine pure_ (i := 9) (N := some 42) (v := ?_) (a' := ?_) #[true, true, true, true, true, true, true, true, true, true, true, true, false, false, false] rfl rfl (any_of HT_.out (by kernel_rfl)) (fun _ _ _ h => h) (Or.inl ⟨by rfl, ?_⟩) ?_ ?_
        rotate_left
        ·intro w'
         go_simp
         with_reducible rfl
        rotate_left
        ·simp only [Act.put, sia_, scz_, scs_, i64_w, i32_w]
         rfl
        refine one_ (i := 12) (N := some 45) #[true, true, true, true, true, true, true, true, true, true, true, true, true, false, false] rfl rfl (one_of HT_.out (by kernel_rfl)) (by decide) (fun K hK => ?_)
        refine goes_ Tryz.func125 (by kernel_rfl) rfl #[.string a0_3] (by rfl) rfl rfl ga_ ?_
        with_reducible refine (spec_l05Short.calls kj2 a0_3 t233 _ A21.out).mono ?_
        rintro e w28 ⟨rfl, hb⟩
        refine ⟨_, rfl, ?_⟩
        have n0_ := bb_ BK225 hb
        have n1_ := bs_ HB hb
        clear BK225; clear HB; have BK225 := n0_; have HB := n1_; clear n0_ n1_; (try clear hb); (try clear hb2); (try clear hk); (try clear hi)
        refine hK.out _ _ ⟨bc_ BK225 0, bc_ BK225 1, bc_ BK225 2, bc_ BK225 3⟩ (fun hHeld => ?_)
        clear hK K
        refine norm_ (a' := ?_) ?_ ?_
        rotate_left
        ·show Act.put _ (some 45) _ = _
         simp only [Act.put, sia_, scz_, scs_, i64_w, i32_w]
         rfl
        refine pure_ (i := 13) (N := some 46) (v := ?_) (a' := ?_) #[true, true, true, true, true, true, true, true, true, true, true, true, true, true, false] rfl rfl (any_of HT_.out (by kernel_rfl)) (fun _ _ _ h => h) (Or.inl ⟨by rfl, ?_⟩) ?_ ?_
        rotate_left
        ·intro w'
         go_simp
         with_reducible rfl
        rotate_left
        ·simp only [Act.put, sia_, scz_, scs_, i64_w, i32_w]
         rfl
        refine pure_ (i := 14) (N := some 6) (v := ?_) (a' := ?_) #[true, true, true, true, true, true, true, true, true, true, true, true, true, true, true] rfl rfl (any_of HT_.out (by kernel_rfl)) (fun _ _ _ h => h) (Or.inl ⟨by rfl, ?_⟩) ?_ ?_
        rotate_left
        ·intro w'
         go_simp
         with_reducible rfl
        rotate_left
        ·simp only [Act.put, sia_, scz_, scs_, i64_w, i32_w]
         rfl
        refine done_ (done_of HT_.out (by kernel_rfl)) ?_
        try go_wp2
        go_ret2
        exact ⟨er_, bw_ HB⟩
       ·rw [if_neg c23] at H
        have c23b0 : decide (20000 < (wrap64 (((((t230 ++ t231) ++ t232) ++ t233).size : Int) + 4))) = false := decide_eq_false c23
        try have c23y0 : decide (20000 < (wrap64 (((t230.size : Int) + (t231.size : Int) + (t232.size : Int) + (t233.size : Int)) + 4))) = false := by simpa only [ByteArray.size_append, Int.natCast_add] using c23b0
        clear c23
        replace H := Option.bind_eq_some_iff.mp H
        obtain ⟨⟨t234, t235⟩, A290, H⟩ := H
        replace H : (some (t234, t235)) = some (r1, r2) := H
        have A29 := Aside0.mk A290
        clear A290
        simp only [Option.some.injEq, Prod.mk.injEq] at H
        obtain ⟨rfl, rfl⟩ := H
        try go_wp2
        have n0_ := mk_ (blk_drew BK225.out)
        have n1_ := mk_ (below_drew1 HB.out)
        clear BK225; clear HB; have BK225 := n0_; have HB := n1_; clear n0_ n1_
        refine start_ (n := 15) (S := fun w' => w'.cell? ⟨gb225, 0, none⟩ = some (.int .i64 a0_0) ∧ w'.cell? ⟨gb225, 1, none⟩ = some (.int .i64 a0_1) ∧ w'.cell? ⟨gb225, 2, none⟩ = some (.slice A0_2 l0_2.length c0_2) ∧ w'.cell? ⟨gb225, 3, none⟩ = some (.string a0_3)) (ds := []) #[false, false, false, false, false, false, false, false, false, false, false, false, false, false, false] (by kernel_rfl) rfl rfl ⟨bc_ BK225 0, bc_ BK225 1, bc_ BK225 2, bc_ BK225 3⟩ (fun hHeld => ?_); refine with_tabW spec_SnapText.tab4 spec_SnapText.bits4 (fun HT_ HW_ => ?_)
        generalize wc.drew = w30 at BK225 HB hHeld ⊢
        refine pure_ (i := 0) (N := some 33) (v := ?_) (a' := ?_) #[true, false, false, false, false, false, false, false, false, false, false, false, false, false, false] rfl rfl (any_of HT_.out (by kernel_rfl)) (fun _ _ _ h => h) (Or.inl ⟨by rfl, ?_⟩) ?_ ?_
        rotate_left
        ·intro w'
         go_simp
         with_reducible rfl
        rotate_left
        ·simp only [Act.put, sia_, scz_, scs_, i64_w, i32_w]
         rfl
        refine pure_ (i := 3) (N := some 36) (v := ?_) (a' := ?_) #[true, false, false, true, false, false, false, false, false, false, false, false, false, false, false] rfl rfl (any_of HT_.out (by kernel_rfl)) (fun _ _ _ h => h) (Or.inl ⟨by rfl, ?_⟩) ?_ ?_
        rotate_left
        ·intro w'
         go_simp
         with_reducible rfl
        rotate_left
        ·simp only [Act.put, sia_, scz_, scs_, i64_w, i32_w]
         rfl
        refine pure_ (i := 7) (N := some 40) (v := ?_) (a' := ?_) #[true, false, false, true, false, false, false, true, false, false, false, false, false, false, false] rfl rfl (any_of HT_.out (by kernel_rfl)) (fun _ _ _ h => h) (Or.inl ⟨by rfl, ?_⟩) ?_ ?_
        rotate_left
        ·intro w'
         go_simp
         with_reducible rfl
        rotate_left
        ·simp only [Act.put, sia_, scz_, scs_, i64_w, i32_w]
         rfl
        refine pure_ (i := 10) (N := some 43) (v := ?_) (a' := ?_) #[true, false, false, true, false, false, false, true, false, false, true, false, false, false, false] rfl rfl (any_of HT_.out (by kernel_rfl)) (fun _ _ _ h => h) (Or.inl ⟨by rfl, ?_⟩) ?_ ?_
        rotate_left
        ·intro w'
         go_simp
         with_reducible rfl
        rotate_left
        ·simp only [Act.put, sia_, scz_, scs_, i64_w, i32_w]
         rfl
        refine take_ (i := 1) (N := some 34) (v := ?_) (a' := ?_) #[true, true, false, true, false, false, false, true, false, false, true, false, false, false, false] rfl rfl (take_ofW HT_.out HW_.out (by kernel_rfl)) (fun _ _ _ h => h) (Or.inl ⟨by rfl, ?_⟩) hHeld ?_ ?_
        rotate_left
        ·rintro w' ⟨s0, s1, s2, s3⟩
         go_simp
         with_reducible rfl
        rotate_left
        ·simp only [Act.put, sia_, scz_, scs_, i64_w, i32_w]
         rfl
        refine take_ (i := 4) (N := some 37) (v := ?_) (a' := ?_) #[true, true, false, true, true, false, false, true, false, false, true, false, false, false, false] rfl rfl (take_ofW HT_.out HW_.out (by kernel_rfl)) (fun _ _ _ h => h) (Or.inl ⟨by rfl, ?_⟩) hHeld ?_ ?_
        rotate_left
        ·rintro w' ⟨s0, s1, s2, s3⟩
         go_simp
         with_reducible rfl
        rotate_left
        ·simp only [Act.put, sia_, scz_, scs_, i64_w, i32_w]
         rfl
        refine take_ (i := 11) (N := some 44) (v := ?_) (a' := ?_) #[true, true, false, true, true, false, false, true, false, false, true, true, false, false, false] rfl rfl (take_ofW HT_.out HW_.out (by kernel_rfl)) (fun _ _ _ h => h) (Or.inl ⟨by rfl, ?_⟩) hHeld ?_ ?_
        rotate_left
        ·rintro w' ⟨s0, s1, s2, s3⟩
         go_simp
         with_reducible rfl
        rotate_left
        ·simp only [Act.put, sia_, scz_, scs_, i64_w, i32_w]
         rfl
        refine one_ (i := 2) (N := some 35) #[true, true, true, true, true, false, false, true, false, false, true, true, false, false, false] rfl rfl (one_of HT_.out (by kernel_rfl)) (by decide) (fun K hK => ?_)
        refine goes_ Tryz.func98 (by kernel_rfl) rfl #[.int .i64 a0_0] (by rfl) rfl rfl ga_ ?_
        with_reducible refine (spec_l01Var.calls kj2 a0_0 t230 _ A16.out).mono ?_
        rintro e w31 ⟨rfl, hb⟩
        refine ⟨_, rfl, ?_⟩
        have n0_ := bb_ BK225 hb
        have n1_ := bs_ HB hb
        clear BK225; clear HB; have BK225 := n0_; have HB := n1_; clear n0_ n1_; (try clear hb); (try clear hb2); (try clear hk); (try clear hi)
        refine hK.out _ _ ⟨bc_ BK225 0, bc_ BK225 1, bc_ BK225 2, bc_ BK225 3⟩ (fun hHeld => ?_)
        clear hK K
        refine norm_ (a' := ?_) ?_ ?_
        rotate_left
        ·show Act.put _ (some 35) _ = _
         simp only [Act.put, sia_, scz_, scs_, i64_w, i32_w]
         rfl
        refine one_ (i := 5) (N := some 38) #[true, true, true, true, true, true, false, true, false, false, true, true, false, false, false] rfl rfl (one_of HT_.out (by kernel_rfl)) (by decide) (fun K hK => ?_)
        refine goes_ Tryz.func98 (by kernel_rfl) rfl #[.int .i64 a0_1] (by rfl) rfl rfl ga_ ?_
        with_reducible refine (spec_l01Var.calls kj2 a0_1 t231 _ A17.out).mono ?_
        rintro e w32 ⟨rfl, hb⟩
        refine ⟨_, rfl, ?_⟩
        have n0_ := bb_ BK225 hb
        have n1_ := bs_ HB hb
        clear BK225; clear HB; have BK225 := n0_; have HB := n1_; clear n0_ n1_; (try clear hb); (try clear hb2); (try clear hk); (try clear hi)
        refine hK.out _ _ ⟨bc_ BK225 0, bc_ BK225 1, bc_ BK225 2, bc_ BK225 3⟩ (fun hHeld => ?_)
        clear hK K
        refine norm_ (a' := ?_) ?_ ?_
        rotate_left
        ·show Act.put _ (some 38) _ = _
         simp only [Act.put, sia_, scz_, scs_, i64_w, i32_w]
         rfl
        refine pure_ (i := 6) (N := some 39) (v := ?_) (a' := ?_) #[true, true, true, true, true, true, true, true, false, false, true, true, false, false, false] rfl rfl (any_of HT_.out (by kernel_rfl)) (fun _ _ _ h => h) (Or.inl ⟨by rfl, ?_⟩) ?_ ?_
        rotate_left
        ·intro w'
         go_simp
         with_reducible rfl
        rotate_left
        ·simp only [Act.put, sia_, scz_, scs_, i64_w, i32_w]
         rfl
        refine one_ (i := 8) (N := some 41) #[true, true, true, true, true, true, true, true, true, false, true, true, false, false, false] rfl rfl (one_of HT_.out (by kernel_rfl)) (by decide) (fun K hK => ?_)
        refine goes_ Tryz.func125 (by kernel_rfl) rfl #[.string t226] (by rfl) rfl rfl ga_ ?_
        with_reducible refine (spec_l05Short.calls kj2 t226 t232 _ A19.out).mono ?_
        rintro e w33 ⟨rfl, hb⟩
        refine ⟨_, rfl, ?_⟩
        have n0_ := bb_ BK225 hb
        have n1_ := bs_ HB hb
        clear BK225; clear HB; have BK225 := n0_; have HB := n1_; clear n0_ n1_; (try clear hb); (try clear hb2); (try clear hk); (try clear hi)
        refine hK.out _ _ ⟨bc_ BK225 0, bc_ BK225 1, bc_ BK225 2, bc_ BK225 3⟩ (fun hHeld => ?_)
        clear hK K
        refine norm_ (a' := ?_) ?_ ?_
        rotate_left
        ·show Act.put _ (some 41) _ = _
         simp only [Act.put, sia_, scz_, scs_, i64_w, i32_w]
         rfl
        refine pure_ (i := 9) (N := some 42) (v := ?_) (a' := ?_) #[true, true, true, true, true, true, true, true, true, true, true, true, false, false, false] rfl rfl (any_of HT_.out (by kernel_rfl)) (fun _ _ _ h => h) (Or.inl ⟨by rfl, ?_⟩) ?_ ?_
        rotate_left
        ·intro w'
         go_simp
         with_reducible rfl
        rotate_left
        ·simp only [Act.put, sia_, scz_, scs_, i64_w, i32_w]
         rfl
        refine one_ (i := 12) (N := some 45) #[true, true, true, true, true, true, true, true, true, true, true, true, true, false, false] rfl rfl (one_of HT_.out (by kernel_rfl)) (by decide) (fun K hK => ?_)
        refine goes_ Tryz.func125 (by kernel_rfl) rfl #[.string a0_3] (by rfl) rfl rfl ga_ ?_
        with_reducible refine (spec_l05Short.calls kj2 a0_3 t233 _ A21.out).mono ?_
        rintro e w34 ⟨rfl, hb⟩
        refine ⟨_, rfl, ?_⟩
        have n0_ := bb_ BK225 hb
        have n1_ := bs_ HB hb
        clear BK225; clear HB; have BK225 := n0_; have HB := n1_; clear n0_ n1_; (try clear hb); (try clear hb2); (try clear hk); (try clear hi)
        refine hK.out _ _ ⟨bc_ BK225 0, bc_ BK225 1, bc_ BK225 2, bc_ BK225 3⟩ (fun hHeld => ?_)
        clear hK K
        refine norm_ (a' := ?_) ?_ ?_
        rotate_left
        ·show Act.put _ (some 45) _ = _
         simp only [Act.put, sia_, scz_, scs_, i64_w, i32_w]
         rfl
        refine pure_ (i := 13) (N := some 46) (v := ?_) (a' := ?_) #[true, true, true, true, true, true, true, true, true, true, true, true, true, true, false] rfl rfl (any_of HT_.out (by kernel_rfl)) (fun _ _ _ h => h) (Or.inl ⟨by rfl, ?_⟩) ?_ ?_
        rotate_left
        ·intro w'
         go_simp
         with_reducible rfl
        rotate_left
        ·simp only [Act.put, sia_, scz_, scs_, i64_w, i32_w]
         rfl
        refine pure_ (i := 14) (N := some 6) (v := ?_) (a' := ?_) #[true, true, true, true, true, true, true, true, true, true, true, true, true, true, true] rfl rfl (any_of HT_.out (by kernel_rfl)) (fun _ _ _ h => h) (Or.inl ⟨by rfl, ?_⟩) ?_ ?_
        rotate_left
        ·intro w'
         go_simp
         with_reducible rfl
        rotate_left
        ·simp only [Act.put, sia_, scz_, scs_, i64_w, i32_w]
         rfl
        refine done_ (done_of HT_.out (by kernel_rfl)) ?_
        try go_wp2_with (first | ((with_reducible refine gate_callee (f := 126) rfl ?_); refine goesL_ (some 52) rfl rfl Tryz.func126 (by kernel_rfl) rfl #[.string (((t230 ++ t231) ++ t232) ++ t233)] rfl ga_ ?_; (with_reducible refine (spec_Sealed.calls kj2 (((t230 ++ t231) ++ t232) ++ t233) t234 t235 _ A29.out).mono ?_); rintro e w35 ⟨rfl, hb⟩; refine ⟨_, rfl, ?_⟩; replace BK225 := bb_ BK225 hb; replace HB := bs_ HB hb; (try clear hb)))
        go_ret2
        exact ⟨er_, bw_ HB⟩
      ·rw [if_neg c22] at H
       exact absurd H (by simp)
     ·rw [if_neg c20] at H
      exact absurd H (by simp)
    ·rw [if_neg c18] at H
     exact absurd H (by simp)

/-! ### spec_ReadSnap: function 49 -/
def spec_ReadSnap.f (k : Nat) (a0 : ByteArray) : Option (Int × Int × List Int × ByteArray × Bool) := (spec_Unsealed.f k a0).bind fun bt237 => ((spec_l05Var.f k bt237.1 0 (!bt237.2)).bind fun bt241 => ((spec_l05Var.f k bt241.2.1 bt241.2.2.1 bt241.2.2.2).bind fun bt245 => ((spec_l05ReadShort.f k bt245.2.1 bt245.2.2.1 bt245.2.2.2).bind fun bt249 => ((spec_ReadConf.f k bt249.1).bind fun bt253 => ((spec_l05ReadShort.f k bt249.2.1 bt249.2.2.1 bt249.2.2.2).bind fun bt257 => ((spec_SnapText.f k bt241.1 bt245.1 bt253.1 bt257.1).bind fun bt261 => (if bt257.2.2.2 = true then (some (0, 0, ([] : List Int), (⟨#[]⟩ : ByteArray), false)) else (if bt261.2 = true then (if bt261.1.toList = a0.toList then (some (bt241.1, bt245.1, bt253.1, bt257.1, true)) else (some (0, 0, ([] : List Int), (⟨#[]⟩ : ByteArray), false))) else (some (0, 0, ([] : List Int), (⟨#[]⟩ : ByteArray), false))))))))))
theorem spec_ReadSnap.mono : ∀ a0 k, LeO (spec_ReadSnap.f k a0) (spec_ReadSnap.f (k + 1) a0) := by
 intro a0 k
 unfold spec_ReadSnap.f
 repeat' first
   | (with_reducible exact spec_ReadConf.mono _ _)
   | (with_reducible exact spec_SnapText.mono _ _ _ _ _)
   | (with_reducible exact spec_Unsealed.mono _ _)
   | (with_reducible exact spec_l05ReadShort.mono _ _ _ _)
   | (with_reducible exact spec_l05Var.mono _ _ _ _)
   | (with_reducible exact LeO.refl _)
   | (with_reducible exact LeO.none _)
   | (with_reducible refine LeO.ite ?_ ?_)
   | (with_reducible refine LeO.bind ?_ (fun _ => ?_))
   | exact spec_ReadConf.mono _ _
   | exact spec_SnapText.mono _ _ _ _ _
   | exact spec_Unsealed.mono _ _
   | exact spec_l05ReadShort.mono _ _ _ _
   | exact spec_l05Var.mono _ _ _ _
   | exact LeO.none _
   | refine LeO.ite ?_ ?_
   | refine LeO.bind ?_ (fun _ => ?_)
set_option maxHeartbeats 8000000 in
set_option maxRecDepth 100000 in
theorem spec_ReadSnap.calls (k : Nat) (a0 : ByteArray) (r1 : Int) (r2 : Int) (r3 : List Int) (r4 : ByteArray) (r5 : Bool) (w : World) (h : spec_ReadSnap.f k a0 = some (r1, r2, r3, r4, r5)) :
  Calls Tryz.prog 49 #[.string a0] w fun e w' => ∃ v2_ : Value, e = .returned (.tuple #[.agg #[.int .i64 r1, .int .i64 r2, v2_, .string r4], .bool r5]) ∧ Kd.R (Kd.int .i64) 3 w' w.heap.size (fun _ => True) v2_ r3 ∧ Below w.heap.size w w' := by
 have hu47 := Tryz.underlying47
 have hu110 := Tryz.underlying110
 have HB := mk_ (Below.refl w.heap.size w)
 have H : ((spec_Unsealed.f k a0).bind fun bt237 => ((spec_l05Var.f k bt237.1 0 (!bt237.2)).bind fun bt241 => ((spec_l05Var.f k bt241.2.1 bt241.2.2.1 bt241.2.2.2).bind fun bt245 => ((spec_l05ReadShort.f k bt245.2.1 bt245.2.2.1 bt245.2.2.2).bind fun bt249 => ((spec_ReadConf.f k bt249.1).bind fun bt253 => ((spec_l05ReadShort.f k bt249.2.1 bt249.2.2.1 bt249.2.2.2).bind fun bt257 => ((spec_SnapText.f k bt241.1 bt245.1 bt253.1 bt257.1).bind fun bt261 => (if bt257.2.2.2 = true then (some (0, 0, ([] : List Int), (⟨#[]⟩ : ByteArray), false)) else (if bt261.2 = true then (if bt261.1.toList = a0.toList then (some (bt241.1, bt245.1, bt253.1, bt257.1, true)) else (some (0, 0, ([] : List Int), (⟨#[]⟩ : ByteArray), false))) else (some (0, 0, ([] : List Int), (⟨#[]⟩ : ByteArray), false))))))))))) = some (r1, r2, r3, r4, r5) := h
 clear h
 replace H := Option.bind_eq_some_iff.mp H
 obtain ⟨⟨t237, t238⟩, A20, H⟩ := H
 replace H : ((spec_l05Var.f k t237 0 (!t238)).bind fun bt241 => ((spec_l05Var.f k bt241.2.1 bt241.2.2.1 bt241.2.2.2).bind fun bt245 => ((spec_l05ReadShort.f k bt245.2.1 bt245.2.2.1 bt245.2.2.2).bind fun bt249 => ((spec_ReadConf.f k bt249.1).bind fun bt253 => ((spec_l05ReadShort.f k bt249.2.1 bt249.2.2.1 bt249.2.2.2).bind fun bt257 => ((spec_SnapText.f k bt241.1 bt245.1 bt253.1 bt257.1).bind fun bt261 => (if bt257.2.2.2 = true then (some (0, 0, ([] : List Int), (⟨#[]⟩ : ByteArray), false)) else (if bt261.2 = true then (if bt261.1.toList = a0.toList then (some (bt241.1, bt245.1, bt253.1, bt257.1, true)) else (some (0, 0, ([] : List Int), (⟨#[]⟩ : ByteArray), false))) else (some (0, 0, ([] : List Int), (⟨#[]⟩ : ByteArray), false)))))))))) = some (r1, r2, r3, r4, r5) := H
 have A2 := Aside0.mk A20
 clear A20
 replace H := Option.bind_eq_some_iff.mp H
 obtain ⟨⟨t241, t242, t243, t244⟩, A30, H⟩ := H
 replace H : ((spec_l05Var.f k t242 t243 t244).bind fun bt245 => ((spec_l05ReadShort.f k bt245.2.1 bt245.2.2.1 bt245.2.2.2).bind fun bt249 => ((spec_ReadConf.f k bt249.1).bind fun bt253 => ((spec_l05ReadShort.f k bt249.2.1 bt249.2.2.1 bt249.2.2.2).bind fun bt257 => ((spec_SnapText.f k t241 bt245.1 bt253.1 bt257.1).bind fun bt261 => (if bt257.2.2.2 = true then (some (0, 0, ([] : List Int), (⟨#[]⟩ : ByteArray), false)) else (if bt261.2 = true then (if bt261.1.toList = a0.toList then (some (t241, bt245.1, bt253.1, bt257.1, true)) else (some (0, 0, ([] : List Int), (⟨#[]⟩ : ByteArray), false))) else (some (0, 0, ([] : List Int), (⟨#[]⟩ : ByteArray), false))))))))) = some (r1, r2, r3, r4, r5) := H
 have A3 := Aside0.mk A30
 clear A30
 replace H := Option.bind_eq_some_iff.mp H
 obtain ⟨⟨t245, t246, t247, t248⟩, A40, H⟩ := H
 replace H : ((spec_l05ReadShort.f k t246 t247 t248).bind fun bt249 => ((spec_ReadConf.f k bt249.1).bind fun bt253 => ((spec_l05ReadShort.f k bt249.2.1 bt249.2.2.1 bt249.2.2.2).bind fun bt257 => ((spec_SnapText.f k t241 t245 bt253.1 bt257.1).bind fun bt261 => (if bt257.2.2.2 = true then (some (0, 0, ([] : List Int), (⟨#[]⟩ : ByteArray), false)) else (if bt261.2 = true then (if bt261.1.toList = a0.toList then (some (t241, t245, bt253.1, bt257.1, true)) else (some (0, 0, ([] : List Int), (⟨#[]⟩ : ByteArray), false))) else (some (0, 0, ([] : List Int), (⟨#[]⟩ : ByteArray), false)))))))) = some (r1, r2, r3, r4, r5) := H
 have A4 := Aside0.mk A40
 clear A40
 replace H := Option.bind_eq_some_iff.mp H
 obtain ⟨⟨t249, t250, t251, t252⟩, A50, H⟩ := H
 replace H : ((spec_ReadConf.f k t249).bind fun bt253 => ((spec_l05ReadShort.f k t250 t251 t252).bind fun bt257 => ((spec_SnapText.f k t241 t245 bt253.1 bt257.1).bind fun bt261 => (if bt257.2.2.2 = true then (some (0, 0, ([] : List Int), (⟨#[]⟩ : ByteArray), false)) else (if bt261.2 = true then (if bt261.1.toList = a0.toList then (some (t241, t245, bt253.1, bt257.1, true)) else (some (0, 0, ([] : List Int), (⟨#[]⟩ : ByteArray), false))) else (some (0, 0, ([] : List Int), (⟨#[]⟩ : ByteArray), false))))))) = some (r1, r2, r3, r4, r5) := H
 have A5 := Aside0.mk A50
 clear A50
 replace H := Option.bind_eq_some_iff.mp H
 obtain ⟨⟨t253, t254⟩, A60, H⟩ := H
 replace H : ((spec_l05ReadShort.f k t250 t251 t252).bind fun bt257 => ((spec_SnapText.f k t241 t245 t253 bt257.1).bind fun bt261 => (if bt257.2.2.2 = true then (some (0, 0, ([] : List Int), (⟨#[]⟩ : ByteArray), false)) else (if bt261.2 = true then (if bt261.1.toList = a0.toList then (some (t241, t245, t253, bt257.1, true)) else (some (0, 0, ([] : List Int), (⟨#[]⟩ : ByteArray), false))) else (some (0, 0, ([] : List Int), (⟨#[]⟩ : ByteArray), false)))))) = some (r1, r2, r3, r4, r5) := H
 have A6 := Aside0.mk A60
 clear A60
 replace H := Option.bind_eq_some_iff.mp H
 obtain ⟨⟨t257, t258, t259, t260⟩, A70, H⟩ := H
 replace H : ((spec_SnapText.f k t241 t245 t253 t257).bind fun bt261 => (if t260 = true then (some (0, 0, ([] : List Int), (⟨#[]⟩ : ByteArray), false)) else (if bt261.2 = true then (if bt261.1.toList = a0.toList then (some (t241, t245, t253, t257, true)) else (some (0, 0, ([] : List Int), (⟨#[]⟩ : ByteArray), false))) else (some (0, 0, ([] : List Int), (⟨#[]⟩ : ByteArray), false))))) = some (r1, r2, r3, r4, r5) := H
 have A7 := Aside0.mk A70
 clear A70
 replace H := Option.bind_eq_some_iff.mp H
 obtain ⟨⟨t261, t262⟩, A80, H⟩ := H
 replace H : (if t260 = true then (some (0, 0, ([] : List Int), (⟨#[]⟩ : ByteArray), false)) else (if t262 = true then (if t261.toList = a0.toList then (some (t241, t245, t253, t257, true)) else (some (0, 0, ([] : List Int), (⟨#[]⟩ : ByteArray), false))) else (some (0, 0, ([] : List Int), (⟨#[]⟩ : ByteArray), false)))) = some (r1, r2, r3, r4, r5) := H
 have A8 := Aside0.mk A80
 clear A80
 by_cases c9 : t260 = true
 ·subst c9
  have H1 : (some (0, 0, ([] : List Int), (⟨#[]⟩ : ByteArray), false)) = some (r1, r2, r3, r4, r5) := by rw [if_pos rfl] at H; exact H
  clear H
  have H := H1
  clear H1
  simp only [Option.some.injEq, Prod.mk.injEq] at H
  obtain ⟨rfl, rfl, rfl, rfl, rfl⟩ := H
  go_enter Tryz.func49, Tryz.ntmps49
  go_wp2_with (first | ((with_reducible refine gate_dst (N := 2) rfl ?_); refine box_event ?hg (N := 2) ?hd (cs := #[.int .i64 0, .int .i64 0, .slice none 0 0, .string (⟨#[]⟩ : ByteArray)]) (t := 47) ?hr ?_; (case hd => rfl); (case hg => rfl); (case hr => first | (go_simp; done) | (go_simp; rfl)); intro gb236 hg w10 hbox hb; have BK236 := mk_ (hbox); have GW236 : Aside0 (w.heap.size ≤ gb236) := bz_ hg; have GE236 : Aside0 (w.heap.size ≤ gb236) := bz_ hg; replace HB := bs_ HB hb; clear hb hbox hg) | ((with_reducible refine gate_callee (f := 85) rfl ?_); refine goesL_ (some 12) rfl rfl Tryz.func85 (by kernel_rfl) rfl #[.string a0] rfl ga_ ?_; (with_reducible refine (spec_Unsealed.calls k a0 t237 t238 _ A2.out).mono ?_); rintro e w11 ⟨rfl, hb⟩; refine ⟨_, rfl, ?_⟩; replace BK236 := bb_ BK236 hb; replace HB := bs_ HB hb; (try clear hb); (try clear hk); (try clear hi)) | ((with_reducible refine gate_dst (N := 19) rfl ?_); refine box_event ?hg (N := 19) ?hd (cs := #[.string t237, .int .i64 0, .bool (!t238)]) (t := 110) ?hr ?_; (case hd => rfl); (case hg => rfl); (case hr => first | (go_simp; done) | (go_simp; rfl)); intro gb239 hg w12 hbox hb; have GW239 : Aside0 (w.heap.size ≤ gb239) := bz_ hg; have GE239 : Aside0 (w.heap.size ≤ gb239) := bz_ hg; have NB236_239 : Aside0 (gb236 ≠ gb239) := bl_ BK236 hg; have NB239_236 : Aside0 (gb239 ≠ gb236) := bg_ BK236 hg; have HI239 := mk_ ((⟨hbox, (by rw [hg]; exact (below_size (bw_ HB)) : w.heap.size ≤ gb239)⟩ : IsS110 w w12 gb239 t237 0 (!t238))); replace BK236 := bb_ BK236 hb; replace HB := bs_ HB hb; clear hb hbox hg) | ((with_reducible refine gate_dst (N := 7) rfl ?_); refine box_event ?hg (N := 7) ?hd (cs := #[.int .i64 0, .int .i64 0, .slice none 0 0, .string (⟨#[]⟩ : ByteArray)]) (t := 47) ?hr ?_; (case hd => rfl); (case hg => rfl); (case hr => first | (go_simp; done) | (go_simp; rfl)); intro gb240 hg w13 hbox hb; have n0_ := bb_ BK236 hb; have n1_ := mk_ (IsS110.below (IsS110.ii_ HI239) hb); have n2_ := mk_ (below_step (bwi_ HB (IsS110.ge HI239.out)) hb); have n3_ := mk_ (hbox); have n4_ := mk_ ((by rw [hg]; exact (below_size (bwi_ HB (IsS110.ge HI239.out))) : w.heap.size ≤ gb240)); have n5_ := mk_ ((by rw [hg]; exact (below_size (bwi_ HB (IsS110.ge HI239.out))) : w.heap.size ≤ gb240)); have n6_ : Aside0 (gb236 ≠ gb240) := bl_ BK236 hg; have n7_ : Aside0 (gb240 ≠ gb236) := bg_ BK236 hg; have n8_ := mk_ ((by rw [hg]; exact Nat.ne_of_lt (IsS110.lt (show IsS110 w _ gb239 t237 0 (!t238) from IsS110.ii_ HI239)) : gb239 ≠ gb240)); have n9_ := mk_ ((by rw [hg]; exact Nat.ne_of_gt (IsS110.lt (show IsS110 w _ gb239 t237 0 (!t238) from IsS110.ii_ HI239)) : gb240 ≠ gb239)); clear BK236; clear HI239; clear HB; have BK236 := n0_; have HI239 := n1_; have HB := n2_; have BK240 := n3_; have GW240 := n4_; have GE240 := n5_; have NB236_240 := n6_; have NB240_236 := n7_; have NB239_240 := n8_; have NB240_239 := n9_; clear n0_ n1_ n2_ n3_ n4_ n5_ n6_ n7_ n8_ n9_; clear hb hbox hg; have hnb14 := NB240_236.out; have hnc14 := NB236_240.out; have hnb15 := NB240_239.out; have hnc15 := NB239_240.out; have hcz16_0 : w13.cell? ⟨gb240, 0, none⟩ = some (.int .i64 0) := bc_ BK240 0; have hcz16_1 : w13.cell? ⟨gb240, 1, none⟩ = some (.int .i64 0) := bc_ BK240 1; have hcz16_2 : w13.cell? ⟨gb240, 2, none⟩ = some (.slice none 0 0) := bc_ BK240 2; have hcz16_3 : w13.cell? ⟨gb240, 3, none⟩ = some (.string (⟨#[]⟩ : ByteArray)) := bc_ BK240 3; have hfz16_0 := blk_frozen BK240.out 0; have hfz16_1 := blk_frozen BK240.out 1; have hfz16_2 := blk_frozen BK240.out 2; have hfz16_3 := blk_frozen BK240.out 3) | ((with_reducible refine gate_callee (f := 86) rfl ?_); refine goesL_ (some 22) rfl rfl Tryz.func86 (by kernel_rfl) rfl #[.pointer (some ⟨gb239, 0, none⟩)] rfl ga_ ?_; (with_reducible refine (spec_l05Var.calls k gb239 t237 0 (!t238) t241 t242 t243 t244 w _ ?side1 ?side2 A3.out).mono ?_); (case side1 => exact IsS110.ii_ HI239); (case side2 => exact bwi_ HB (IsS110.ge HI239.out)); rintro e w17 ⟨rfl, hi, hb, hk⟩; refine ⟨_, rfl, ?_⟩; replace BK236 := mk_ (KeepBut.blk hk (g' := gb236) (o := .cells #[.int .i64 0, .int .i64 0, .slice none 0 0, .string (⟨#[]⟩ : ByteArray)] 47 (0, 0)) bf_ NB236_239.out (by simp)); replace BK240 := mk_ (KeepBut.blk hk (g' := gb240) (o := .cells #[.int .i64 0, .int .i64 0, .slice none 0 0, .string (⟨#[]⟩ : ByteArray)] 47 (0, 0)) bu_ NB240_239.out (by simp)); replace HB := mk_ (hb); replace HI239 := mk_ (hi); (try clear hb); (try clear hk); (try clear hi); have hcz18_0 : w17.cell? ⟨gb240, 0, none⟩ = some (.int .i64 0) := bc_ BK240 0; have hcz18_1 : w17.cell? ⟨gb240, 1, none⟩ = some (.int .i64 0) := bc_ BK240 1; have hcz18_2 : w17.cell? ⟨gb240, 2, none⟩ = some (.slice none 0 0) := bc_ BK240 2; have hcz18_3 : w17.cell? ⟨gb240, 3, none⟩ = some (.string (⟨#[]⟩ : ByteArray)) := bc_ BK240 3; have hfz18_0 := blk_frozen BK240.out 0; have hfz18_1 := blk_frozen BK240.out 1; have hfz18_2 := blk_frozen BK240.out 2; have hfz18_3 := blk_frozen BK240.out 3) | ((with_reducible refine gate_callee (f := 86) rfl ?_); refine goesL_ (some 25) rfl rfl Tryz.func86 (by kernel_rfl) rfl #[.pointer (some ⟨gb239, 0, none⟩)] rfl ga_ ?_; (with_reducible refine (spec_l05Var.calls k gb239 t242 t243 t244 t245 t246 t247 t248 w _ ?side1 ?side2 A4.out).mono ?_); (case side1 => exact IsS110.ii_ HI239); (case side2 => exact bwi_ HB (IsS110.ge HI239.out)); rintro e w19 ⟨rfl, hi, hb, hk⟩; refine ⟨_, rfl, ?_⟩; replace BK236 := mk_ (KeepBut.blk hk (g' := gb236) (o := .cells #[.int .i64 0, .int .i64 0, .slice none 0 0, .string (⟨#[]⟩ : ByteArray)] 47 (0, 0)) bf_ NB236_239.out (by simp)); replace BK240 := mk_ (KeepBut.blk hk (g' := gb240) (o := .cells #[.int .i64 t241, .int .i64 0, .slice none 0 0, .string (⟨#[]⟩ : ByteArray)] 47 (0, 0)) bu_ NB240_239.out (by simp)); replace HB := mk_ (hb); replace HI239 := mk_ (hi); (try clear hb); (try clear hk); (try clear hi); have hcz20_0 : w19.cell? ⟨gb240, 0, none⟩ = some (.int .i64 t241) := bc_ BK240 0; have hcz20_1 : w19.cell? ⟨gb240, 1, none⟩ = some (.int .i64 0) := bc_ BK240 1; have hcz20_2 : w19.cell? ⟨gb240, 2, none⟩ = some (.slice none 0 0) := bc_ BK240 2; have hcz20_3 : w19.cell? ⟨gb240, 3, none⟩ = some (.string (⟨#[]⟩ : ByteArray)) := bc_ BK240 3; have hfz20_0 := blk_frozen BK240.out 0; have hfz20_1 := blk_frozen BK240.out 1; have hfz20_2 := blk_frozen BK240.out 2; have hfz20_3 := blk_frozen BK240.out 3) | ((with_reducible refine gate_callee (f := 88) rfl ?_); refine goesL_ (some 29) rfl rfl Tryz.func88 (by kernel_rfl) rfl #[.pointer (some ⟨gb239, 0, none⟩)] rfl ga_ ?_; (with_reducible refine (spec_l05ReadShort.calls k gb239 t246 t247 t248 t249 t250 t251 t252 w _ ?side1 ?side2 A5.out).mono ?_); (case side1 => exact IsS110.ii_ HI239); (case side2 => exact bwi_ HB (IsS110.ge HI239.out)); rintro e w21 ⟨rfl, hi, hb, hk⟩; refine ⟨_, rfl, ?_⟩; replace BK236 := mk_ (KeepBut.blk hk (g' := gb236) (o := .cells #[.int .i64 0, .int .i64 0, .slice none 0 0, .string (⟨#[]⟩ : ByteArray)] 47 (0, 0)) bf_ NB236_239.out (by simp)); replace BK240 := mk_ (KeepBut.blk hk (g' := gb240) (o := .cells #[.int .i64 t241, .int .i64 t245, .slice none 0 0, .string (⟨#[]⟩ : ByteArray)] 47 (0, 0)) bu_ NB240_239.out (by simp)); replace HB := mk_ (hb); replace HI239 := mk_ (hi); (try clear hb); (try clear hk); (try clear hi)) | ((with_reducible refine gate_callee (f := 87) rfl ?_); refine goesL_ (some 30) rfl rfl Tryz.func87 (by kernel_rfl) rfl #[.string t249] rfl ga_ ?_; (with_reducible refine (spec_ReadConf.calls k t249 t253 t254 _ A6.out).mono ?_); rintro e w22 ⟨v255, rfl, ho0, hb⟩; refine ⟨_, rfl, ?_⟩; have n0_ := mk_ (Kd.R_lower ho0 (below_size (bwi_ HB (IsS110.ge HI239.out)))); have n1_ := bb_ BK236 hb; have n2_ := mk_ (IsS110.below (IsS110.ii_ HI239) hb); have n3_ := bb_ BK240 hb; have n4_ := mk_ (below_step (bwi_ HB (IsS110.ge HI239.out)) hb); clear BK236; clear HI239; clear BK240; clear HB; have HO256 := n0_; have BK236 := n1_; have HI239 := n2_; have BK240 := n3_; have HB := n4_; clear n0_ n1_ n2_ n3_ n4_; (try clear hb); (try clear hk); (try clear hi); (try clear ho0); obtain ⟨Ao23, co23, eo23⟩ := Kd.R_slice HO256.out; subst eo23; have hcz24_0 : w22.cell? ⟨gb240, 0, none⟩ = some (.int .i64 t241) := bc_ BK240 0; have hcz24_1 : w22.cell? ⟨gb240, 1, none⟩ = some (.int .i64 t245) := bc_ BK240 1; have hcz24_2 : w22.cell? ⟨gb240, 2, none⟩ = some (.slice none 0 0) := bc_ BK240 2; have hcz24_3 : w22.cell? ⟨gb240, 3, none⟩ = some (.string (⟨#[]⟩ : ByteArray)) := bc_ BK240 3; have hfz24_0 := blk_frozen BK240.out 0; have hfz24_1 := blk_frozen BK240.out 1; have hfz24_2 := blk_frozen BK240.out 2; have hfz24_3 := blk_frozen BK240.out 3) | ((with_reducible refine gate_callee (f := 88) rfl ?_); refine goesL_ (some 35) rfl rfl Tryz.func88 (by kernel_rfl) rfl #[.pointer (some ⟨gb239, 0, none⟩)] rfl ga_ ?_; (with_reducible refine (spec_l05ReadShort.calls k gb239 t250 t251 t252 t257 t258 t259 true w _ ?side1 ?side2 A7.out).mono ?_); (case side1 => exact IsS110.ii_ HI239); (case side2 => exact bwi_ HB (IsS110.ge HI239.out)); rintro e w25 ⟨rfl, hi, hb, hk⟩; refine ⟨_, rfl, ?_⟩; have n0_ := mk_ (KeepBut.blk hk (g' := gb236) (o := .cells #[.int .i64 0, .int .i64 0, .slice none 0 0, .string (⟨#[]⟩ : ByteArray)] 47 (0, 0)) bf_ NB236_239.out (by simp)); have n1_ := mk_ (KeepBut.blk hk (g' := gb240) (o := .cells #[.int .i64 t241, .int .i64 t245, .slice Ao23 t253.length co23, .string (⟨#[]⟩ : ByteArray)] 47 (0, 0)) bu_ NB240_239.out (by simp)); have n2_ := mk_ (Kd.R_mono (Kd.R_keep (IsS110.apart (show IsS110 w _ gb239 t250 t251 t252 from IsS110.ii_ HI239) (by (with_reducible repeat (first | apply Kd.R_alloc | apply Kd.R_drewN | apply Kd.R_drew)); exact (Kd.R_mono (Kd.R_far (p := ⟨gb240, 2, none⟩) (Kd.R_types HO256.out BK240.out (by decide)) (fun _ hk => hk.2) (.slice Ao23 t253.length co23)) (fun _ h_ => h_.1))) (by decide)) hk (fun _ h => h.2)) (fun _ h => h.1)); have n3_ := mk_ (hb); have n4_ := mk_ (hi); clear BK236; clear BK240; clear HO256; clear HB; clear HI239; have BK236 := n0_; have BK240 := n1_; have HO256 := n2_; have HB := n3_; have HI239 := n4_; clear n0_ n1_ n2_ n3_ n4_; (try clear hb); (try clear hk); (try clear hi); have hcz26_0 : w25.cell? ⟨gb240, 0, none⟩ = some (.int .i64 t241) := bc_ BK240 0; have hcz26_1 : w25.cell? ⟨gb240, 1, none⟩ = some (.int .i64 t245) := bc_ BK240 1; have hcz26_2 : w25.cell? ⟨gb240, 2, none⟩ = some (.slice Ao23 t253.length co23) := bc_ BK240 2; have hcz26_3 : w25.cell? ⟨gb240, 3, none⟩ = some (.string (⟨#[]⟩ : ByteArray)) := bc_ BK240 3; have hfz26_0 := blk_frozen BK240.out 0; have hfz26_1 := blk_frozen BK240.out 1; have hfz26_2 := blk_frozen BK240.out 2; have hfz26_3 := blk_frozen BK240.out 3) | ((with_reducible refine gate_callee (f := 89) rfl ?_); refine goesL_ (some 39) rfl rfl Tryz.func89 (by kernel_rfl) rfl #[.agg #[.int .i64 t241, .int .i64 t245, .slice Ao23 t253.length co23, .string t257]] rfl ga_ ?_; (with_reducible refine (spec_SnapText.calls k t241 t245 _ _ t253 t257 t261 t262 _ ?side1 ?side2 A8.out).mono ?_); (case side1 => refine (Kd.R_reads' (e := 3) (base := w.heap.size) (ok := fun k_ => True) (n := t253.length) (c := co23) ?_).2.2; exact (by (with_reducible repeat (first | apply Kd.R_alloc | apply Kd.R_drewN | apply Kd.R_drew)); exact (Kd.R_mono (Kd.R_far (p := ⟨gb240, 3, none⟩) (Kd.R_types HO256.out BK240.out (by decide)) (fun _ hk => hk.2) (.string t257)) (fun _ h_ => h_.1)))); (case side2 => exact (Kd.R_reads' HO256.out).2.1); rintro e w27 ⟨rfl, hb⟩; refine ⟨_, rfl, ?_⟩; have n0_ := mk_ (Kd.R_below (by (with_reducible repeat (first | apply Kd.R_alloc | apply Kd.R_drewN | apply Kd.R_drew)); exact (Kd.R_mono (Kd.R_far (p := ⟨gb240, 3, none⟩) (Kd.R_types HO256.out BK240.out (by decide)) (fun _ hk => hk.2) (.string t257)) (fun _ h_ => h_.1))) hb); have n1_ := mk_ (blk_below (g := gb236) (o := .cells #[.int .i64 0, .int .i64 0, .slice none 0 0, .string (⟨#[]⟩ : ByteArray)] 47 (0, 0)) bf_ hb); have n2_ := mk_ (IsS110.below (show IsS110 w (w25.setCell ⟨gb240, 3, none⟩ (.string t257)) gb239 t258 t259 true from IsS110.ii_ HI239) hb); have n3_ := mk_ (blk_below (g := gb240) (o := .cells #[.int .i64 t241, .int .i64 t245, .slice Ao23 t253.length co23, .string t257] 47 (0, 0)) bu_ hb); have n4_ := mk_ (below_step (bwi_ HB (IsS110.ge HI239.out)) hb); clear HO256; clear BK236; clear HI239; clear BK240; clear HB; have HO256 := n0_; have BK236 := n1_; have HI239 := n2_; have BK240 := n3_; have HB := n4_; clear n0_ n1_ n2_ n3_ n4_; (try clear hb); (try clear hk); (try clear hi); obtain ⟨HGz28, hgz28⟩ := HI239.out; have hcz28_0 := cellS110_0 HGz28; have hcz28_1 := cellS110_1 HGz28; have hcz28_2 := cellS110_2 HGz28; have hfz28_0 := blk_frozen HGz28 0; have hfz28_1 := blk_frozen HGz28 1; have hfz28_2 := blk_frozen HGz28 2; clear HGz28 hgz28; have hnb29 := NB236_239.out; have hnc29 := NB239_236.out; have hcz30_0 : w27.cell? ⟨gb236, 0, none⟩ = some (.int .i64 0) := bc_ BK236 0; have hcz30_1 : w27.cell? ⟨gb236, 1, none⟩ = some (.int .i64 0) := bc_ BK236 1; have hcz30_2 : w27.cell? ⟨gb236, 2, none⟩ = some (.slice none 0 0) := bc_ BK236 2; have hcz30_3 : w27.cell? ⟨gb236, 3, none⟩ = some (.string (⟨#[]⟩ : ByteArray)) := bc_ BK236 3; have hfz30_0 := blk_frozen BK236.out 0; have hfz30_1 := blk_frozen BK236.out 1; have hfz30_2 := blk_frozen BK236.out 2; have hfz30_3 := blk_frozen BK236.out 3))
  refine bodyPost_ret (results_ct rfl _ _ gb236 47 #[.int .i64 0, .int .i64 0, .slice none 0 0, .string (⟨#[]⟩ : ByteArray)] (0, 0) _ rfl bu_ Tryz.underlying47 rfl (by kernel_rfl)) rfl ?_
  exact ⟨_, er_, by first | exact Kd.R_nil _ _ _ _ _ | exact Kd.N_nil _ _ _ _ _ | exact Kd.V_nil _ _ _ _ _ | exact Kd.Q_nil _ _ _ _ _ | exact Kd.S_nil _ _ _ _ _, bwi_ HB (IsS110.ge HI239.out)⟩
 ·replace c9 := Bool.eq_false_iff.mpr c9
  subst c9
  have H1 : (if t262 = true then (if t261.toList = a0.toList then (some (t241, t245, t253, t257, true)) else (some (0, 0, ([] : List Int), (⟨#[]⟩ : ByteArray), false))) else (some (0, 0, ([] : List Int), (⟨#[]⟩ : ByteArray), false))) = some (r1, r2, r3, r4, r5) := by rw [if_neg (show ¬ (false = true) by decide)] at H; exact H
  clear H
  have H := H1
  clear H1
  by_cases c31 : t262 = true
  ·subst c31
   have H1 : (if t261.toList = a0.toList then (some (t241, t245, t253, t257, true)) else (some (0, 0, ([] : List Int), (⟨#[]⟩ : ByteArray), false))) = some (r1, r2, r3, r4, r5) := by rw [if_pos rfl] at H; exact H
   clear H
   have H := H1
   clear H1
   by_cases c32 : t261.toList = a0.toList
   ·rw [if_pos c32] at H
    have c32b0 : (t261.toList == a0.toList) = true := beq_iff_eq.mpr c32
    have c32b1 : (t261.toList != a0.toList) = false := bne_eq_false_iff_eq.mpr c32
    clear c32
    simp only [Option.some.injEq, Prod.mk.injEq] at H
    obtain ⟨rfl, rfl, rfl, rfl, rfl⟩ := H
    go_enter Tryz.func49, Tryz.ntmps49
    go_wp2_with (first | ((with_reducible refine gate_dst (N := 2) rfl ?_); refine box_event ?hg (N := 2) ?hd (cs := #[.int .i64 0, .int .i64 0, .slice none 0 0, .string (⟨#[]⟩ : ByteArray)]) (t := 47) ?hr ?_; (case hd => rfl); (case hg => rfl); (case hr => first | (go_simp; done) | (go_simp; rfl)); intro gb236 hg w33 hbox hb; have BK236 := mk_ (hbox); have GW236 : Aside0 (w.heap.size ≤ gb236) := bz_ hg; have GE236 : Aside0 (w.heap.size ≤ gb236) := bz_ hg; replace HB := bs_ HB hb; clear hb hbox hg) | ((with_reducible refine gate_callee (f := 85) rfl ?_); refine goesL_ (some 12) rfl rfl Tryz.func85 (by kernel_rfl) rfl #[.string a0] rfl ga_ ?_; (with_reducible refine (spec_Unsealed.calls k a0 t237 t238 _ A2.out).mono ?_); rintro e w34 ⟨rfl, hb⟩; refine ⟨_, rfl, ?_⟩; replace BK236 := bb_ BK236 hb; replace HB := bs_ HB hb; (try clear hb); (try clear hk); (try clear hi)) | ((with_reducible refine gate_dst (N := 19) rfl ?_); refine box_event ?hg (N := 19) ?hd (cs := #[.string t237, .int .i64 0, .bool (!t238)]) (t := 110) ?hr ?_; (case hd => rfl); (case hg => rfl); (case hr => first | (go_simp; done) | (go_simp; rfl)); intro gb239 hg w35 hbox hb; have GW239 : Aside0 (w.heap.size ≤ gb239) := bz_ hg; have GE239 : Aside0 (w.heap.size ≤ gb239) := bz_ hg; have NB236_239 : Aside0 (gb236 ≠ gb239) := bl_ BK236 hg; have NB239_236 : Aside0 (gb239 ≠ gb236) := bg_ BK236 hg; have HI239 := mk_ ((⟨hbox, (by rw [hg]; exact (below_size (bw_ HB)) : w.heap.size ≤ gb239)⟩ : IsS110 w w35 gb239 t237 0 (!t238))); replace BK236 := bb_ BK236 hb; replace HB := bs_ HB hb; clear hb hbox hg) | ((with_reducible refine gate_dst (N := 7) rfl ?_); refine box_event ?hg (N := 7) ?hd (cs := #[.int .i64 0, .int .i64 0, .slice none 0 0, .string (⟨#[]⟩ : ByteArray)]) (t := 47) ?hr ?_; (case hd => rfl); (case hg => rfl); (case hr => first | (go_simp; done) | (go_simp; rfl)); intro gb240 hg w36 hbox hb; have n0_ := bb_ BK236 hb; have n1_ := mk_ (IsS110.below (IsS110.ii_ HI239) hb); have n2_ := mk_ (below_step (bwi_ HB (IsS110.ge HI239.out)) hb); have n3_ := mk_ (hbox); have n4_ := mk_ ((by rw [hg]; exact (below_size (bwi_ HB (IsS110.ge HI239.out))) : w.heap.size ≤ gb240)); have n5_ := mk_ ((by rw [hg]; exact (below_size (bwi_ HB (IsS110.ge HI239.out))) : w.heap.size ≤ gb240)); have n6_ : Aside0 (gb236 ≠ gb240) := bl_ BK236 hg; have n7_ : Aside0 (gb240 ≠ gb236) := bg_ BK236 hg; have n8_ := mk_ ((by rw [hg]; exact Nat.ne_of_lt (IsS110.lt (show IsS110 w _ gb239 t237 0 (!t238) from IsS110.ii_ HI239)) : gb239 ≠ gb240)); have n9_ := mk_ ((by rw [hg]; exact Nat.ne_of_gt (IsS110.lt (show IsS110 w _ gb239 t237 0 (!t238) from IsS110.ii_ HI239)) : gb240 ≠ gb239)); clear BK236; clear HI239; clear HB; have BK236 := n0_; have HI239 := n1_; have HB := n2_; have BK240 := n3_; have GW240 := n4_; have GE240 := n5_; have NB236_240 := n6_; have NB240_236 := n7_; have NB239_240 := n8_; have NB240_239 := n9_; clear n0_ n1_ n2_ n3_ n4_ n5_ n6_ n7_ n8_ n9_; clear hb hbox hg; have hnb37 := NB240_236.out; have hnc37 := NB236_240.out; have hnb38 := NB240_239.out; have hnc38 := NB239_240.out; have hcz39_0 : w36.cell? ⟨gb240, 0, none⟩ = some (.int .i64 0) := bc_ BK240 0; have hcz39_1 : w36.cell? ⟨gb240, 1, none⟩ = some (.int .i64 0) := bc_ BK240 1; have hcz39_2 : w36.cell? ⟨gb240, 2, none⟩ = some (.slice none 0 0) := bc_ BK240 2; have hcz39_3 : w36.cell? ⟨gb240, 3, none⟩ = some (.string (⟨#[]⟩ : ByteArray)) := bc_ BK240 3; have hfz39_0 := blk_frozen BK240.out 0; have hfz39_1 := blk_frozen BK240.out 1; have hfz39_2 := blk_frozen BK240.out 2; have hfz39_3 := blk_frozen BK240.out 3) | ((with_reducible refine gate_callee (f := 86) rfl ?_); refine goesL_ (some 22) rfl rfl Tryz.func86 (by kernel_rfl) rfl #[.pointer (some ⟨gb239, 0, none⟩)] rfl ga_ ?_; (with_reducible refine (spec_l05Var.calls k gb239 t237 0 (!t238) t241 t242 t243 t244 w _ ?side1 ?side2 A3.out).mono ?_); (case side1 => exact IsS110.ii_ HI239); (case side2 => exact bwi_ HB (IsS110.ge HI239.out)); rintro e w40 ⟨rfl, hi, hb, hk⟩; refine ⟨_, rfl, ?_⟩; replace BK236 := mk_ (KeepBut.blk hk (g' := gb236) (o := .cells #[.int .i64 0, .int .i64 0, .slice none 0 0, .string (⟨#[]⟩ : ByteArray)] 47 (0, 0)) bf_ NB236_239.out (by simp)); replace BK240 := mk_ (KeepBut.blk hk (g' := gb240) (o := .cells #[.int .i64 0, .int .i64 0, .slice none 0 0, .string (⟨#[]⟩ : ByteArray)] 47 (0, 0)) bu_ NB240_239.out (by simp)); replace HB := mk_ (hb); replace HI239 := mk_ (hi); (try clear hb); (try clear hk); (try clear hi); have hcz41_0 : w40.cell? ⟨gb240, 0, none⟩ = some (.int .i64 0) := bc_ BK240 0; have hcz41_1 : w40.cell? ⟨gb240, 1, none⟩ = some (.int .i64 0) := bc_ BK240 1; have hcz41_2 : w40.cell? ⟨gb240, 2, none⟩ = some (.slice none 0 0) := bc_ BK240 2; have hcz41_3 : w40.cell? ⟨gb240, 3, none⟩ = some (.string (⟨#[]⟩ : ByteArray)) := bc_ BK240 3; have hfz41_0 := blk_frozen BK240.out 0; have hfz41_1 := blk_frozen BK240.out 1; have hfz41_2 := blk_frozen BK240.out 2; have hfz41_3 := blk_frozen BK240.out 3) | ((with_reducible refine gate_callee (f := 86) rfl ?_); refine goesL_ (some 25) rfl rfl Tryz.func86 (by kernel_rfl) rfl #[.pointer (some ⟨gb239, 0, none⟩)] rfl ga_ ?_; (with_reducible refine (spec_l05Var.calls k gb239 t242 t243 t244 t245 t246 t247 t248 w _ ?side1 ?side2 A4.out).mono ?_); (case side1 => exact IsS110.ii_ HI239); (case side2 => exact bwi_ HB (IsS110.ge HI239.out)); rintro e w42 ⟨rfl, hi, hb, hk⟩; refine ⟨_, rfl, ?_⟩; replace BK236 := mk_ (KeepBut.blk hk (g' := gb236) (o := .cells #[.int .i64 0, .int .i64 0, .slice none 0 0, .string (⟨#[]⟩ : ByteArray)] 47 (0, 0)) bf_ NB236_239.out (by simp)); replace BK240 := mk_ (KeepBut.blk hk (g' := gb240) (o := .cells #[.int .i64 t241, .int .i64 0, .slice none 0 0, .string (⟨#[]⟩ : ByteArray)] 47 (0, 0)) bu_ NB240_239.out (by simp)); replace HB := mk_ (hb); replace HI239 := mk_ (hi); (try clear hb); (try clear hk); (try clear hi); have hcz43_0 : w42.cell? ⟨gb240, 0, none⟩ = some (.int .i64 t241) := bc_ BK240 0; have hcz43_1 : w42.cell? ⟨gb240, 1, none⟩ = some (.int .i64 0) := bc_ BK240 1; have hcz43_2 : w42.cell? ⟨gb240, 2, none⟩ = some (.slice none 0 0) := bc_ BK240 2; have hcz43_3 : w42.cell? ⟨gb240, 3, none⟩ = some (.string (⟨#[]⟩ : ByteArray)) := bc_ BK240 3; have hfz43_0 := blk_frozen BK240.out 0; have hfz43_1 := blk_frozen BK240.out 1; have hfz43_2 := blk_frozen BK240.out 2; have hfz43_3 := blk_frozen BK240.out 3) | ((with_reducible refine gate_callee (f := 88) rfl ?_); refine goesL_ (some 29) rfl rfl Tryz.func88 (by kernel_rfl) rfl #[.pointer (some ⟨gb239, 0, none⟩)] rfl ga_ ?_; (with_reducible refine (spec_l05ReadShort.calls k gb239 t246 t247 t248 t249 t250 t251 t252 w _ ?side1 ?side2 A5.out).mono ?_); (case side1 => exact IsS110.ii_ HI239); (case side2 => exact bwi_ HB (IsS110.ge HI239.out)); rintro e w44 ⟨rfl, hi, hb, hk⟩; refine ⟨_, rfl, ?_⟩; replace BK236 := mk_ (KeepBut.blk hk (g' := gb236) (o := .cells #[.int .i64 0, .int .i64 0, .slice none 0 0, .string (⟨#[]⟩ : ByteArray)] 47 (0, 0)) bf_ NB236_239.out (by simp)); replace BK240 := mk_ (KeepBut.blk hk (g' := gb240) (o := .cells #[.int .i64 t241, .int .i64 t245, .slice none 0 0, .string (⟨#[]⟩ : ByteArray)] 47 (0, 0)) bu_ NB240_239.out (by simp)); replace HB := mk_ (hb); replace HI239 := mk_ (hi); (try clear hb); (try clear hk); (try clear hi)) | ((with_reducible refine gate_callee (f := 87) rfl ?_); refine goesL_ (some 30) rfl rfl Tryz.func87 (by kernel_rfl) rfl #[.string t249] rfl ga_ ?_; (with_reducible refine (spec_ReadConf.calls k t249 t253 t254 _ A6.out).mono ?_); rintro e w45 ⟨v255, rfl, ho0, hb⟩; refine ⟨_, rfl, ?_⟩; have n0_ := mk_ (Kd.R_lower ho0 (below_size (bwi_ HB (IsS110.ge HI239.out)))); have n1_ := bb_ BK236 hb; have n2_ := mk_ (IsS110.below (IsS110.ii_ HI239) hb); have n3_ := bb_ BK240 hb; have n4_ := mk_ (below_step (bwi_ HB (IsS110.ge HI239.out)) hb); clear BK236; clear HI239; clear BK240; clear HB; have HO256 := n0_; have BK236 := n1_; have HI239 := n2_; have BK240 := n3_; have HB := n4_; clear n0_ n1_ n2_ n3_ n4_; (try clear hb); (try clear hk); (try clear hi); (try clear ho0); obtain ⟨Ao46, co46, eo46⟩ := Kd.R_slice HO256.out; subst eo46; have hcz47_0 : w45.cell? ⟨gb240, 0, none⟩ = some (.int .i64 t241) := bc_ BK240 0; have hcz47_1 : w45.cell? ⟨gb240, 1, none⟩ = some (.int .i64 t245) := bc_ BK240 1; have hcz47_2 : w45.cell? ⟨gb240, 2, none⟩ = some (.slice none 0 0) := bc_ BK240 2; have hcz47_3 : w45.cell? ⟨gb240, 3, none⟩ = some (.string (⟨#[]⟩ : ByteArray)) := bc_ BK240 3; have hfz47_0 := blk_frozen BK240.out 0; have hfz47_1 := blk_frozen BK240.out 1; have hfz47_2 := blk_frozen BK240.out 2; have hfz47_3 := blk_frozen BK240.out 3) | ((with_reducible refine gate_callee (f := 88) rfl ?_); refine goesL_ (some 35) rfl rfl Tryz.func88 (by kernel_rfl) rfl #[.pointer (some ⟨gb239, 0, none⟩)] rfl ga_ ?_; (with_reducible refine (spec_l05ReadShort.calls k gb239 t250 t251 t252 t257 t258 t259 false w _ ?side1 ?side2 A7.out).mono ?_); (case side1 => exact IsS110.ii_ HI239); (case side2 => exact bwi_ HB (IsS110.ge HI239.out)); rintro e w48 ⟨rfl, hi, hb, hk⟩; refine ⟨_, rfl, ?_⟩; have n0_ := mk_ (KeepBut.blk hk (g' := gb236) (o := .cells #[.int .i64 0, .int .i64 0, .slice none 0 0, .string (⟨#[]⟩ : ByteArray)] 47 (0, 0)) bf_ NB236_239.out (by simp)); have n1_ := mk_ (KeepBut.blk hk (g' := gb240) (o := .cells #[.int .i64 t241, .int .i64 t245, .slice Ao46 t253.length co46, .string (⟨#[]⟩ : ByteArray)] 47 (0, 0)) bu_ NB240_239.out (by simp)); have n2_ := mk_ (Kd.R_mono (Kd.R_keep (IsS110.apart (show IsS110 w _ gb239 t250 t251 t252 from IsS110.ii_ HI239) (by (with_reducible repeat (first | apply Kd.R_alloc | apply Kd.R_drewN | apply Kd.R_drew)); exact (Kd.R_mono (Kd.R_far (p := ⟨gb240, 2, none⟩) (Kd.R_types HO256.out BK240.out (by decide)) (fun _ hk => hk.2) (.slice Ao46 t253.length co46)) (fun _ h_ => h_.1))) (by decide)) hk (fun _ h => h.2)) (fun _ h => h.1)); have n3_ := mk_ (hb); have n4_ := mk_ (hi); clear BK236; clear BK240; clear HO256; clear HB; clear HI239; have BK236 := n0_; have BK240 := n1_; have HO256 := n2_; have HB := n3_; have HI239 := n4_; clear n0_ n1_ n2_ n3_ n4_; (try clear hb); (try clear hk); (try clear hi); have hcz49_0 : w48.cell? ⟨gb240, 0, none⟩ = some (.int .i64 t241) := bc_ BK240 0; have hcz49_1 : w48.cell? ⟨gb240, 1, none⟩ = some (.int .i64 t245) := bc_ BK240 1; have hcz49_2 : w48.cell? ⟨gb240, 2, none⟩ = some (.slice Ao46 t253.length co46) := bc_ BK240 2; have hcz49_3 : w48.cell? ⟨gb240, 3, none⟩ = some (.string (⟨#[]⟩ : ByteArray)) := bc_ BK240 3; have hfz49_0 := blk_frozen BK240.out 0; have hfz49_1 := blk_frozen BK240.out 1; have hfz49_2 := blk_frozen BK240.out 2; have hfz49_3 := blk_frozen BK240.out 3) | ((with_reducible refine gate_callee (f := 89) rfl ?_); refine goesL_ (some 39) rfl rfl Tryz.func89 (by kernel_rfl) rfl #[.agg #[.int .i64 t241, .int .i64 t245, .slice Ao46 t253.length co46, .string t257]] rfl ga_ ?_; (with_reducible refine (spec_SnapText.calls k t241 t245 _ _ t253 t257 t261 true _ ?side1 ?side2 A8.out).mono ?_); (case side1 => refine (Kd.R_reads' (e := 3) (base := w.heap.size) (ok := fun k_ => True) (n := t253.length) (c := co46) ?_).2.2; exact (by (with_reducible repeat (first | apply Kd.R_alloc | apply Kd.R_drewN | apply Kd.R_drew)); exact (Kd.R_mono (Kd.R_far (p := ⟨gb240, 3, none⟩) (Kd.R_types HO256.out BK240.out (by decide)) (fun _ hk => hk.2) (.string t257)) (fun _ h_ => h_.1)))); (case side2 => exact (Kd.R_reads' HO256.out).2.1); rintro e w50 ⟨rfl, hb⟩; refine ⟨_, rfl, ?_⟩; have n0_ := mk_ (Kd.R_below (by (with_reducible repeat (first | apply Kd.R_alloc | apply Kd.R_drewN | apply Kd.R_drew)); exact (Kd.R_mono (Kd.R_far (p := ⟨gb240, 3, none⟩) (Kd.R_types HO256.out BK240.out (by decide)) (fun _ hk => hk.2) (.string t257)) (fun _ h_ => h_.1))) hb); have n1_ := mk_ (blk_below (g := gb236) (o := .cells #[.int .i64 0, .int .i64 0, .slice none 0 0, .string (⟨#[]⟩ : ByteArray)] 47 (0, 0)) bf_ hb); have n2_ := mk_ (IsS110.below (show IsS110 w (w48.setCell ⟨gb240, 3, none⟩ (.string t257)) gb239 t258 t259 false from IsS110.ii_ HI239) hb); have n3_ := mk_ (blk_below (g := gb240) (o := .cells #[.int .i64 t241, .int .i64 t245, .slice Ao46 t253.length co46, .string t257] 47 (0, 0)) bu_ hb); have n4_ := mk_ (below_step (bwi_ HB (IsS110.ge HI239.out)) hb); clear HO256; clear BK236; clear HI239; clear BK240; clear HB; have HO256 := n0_; have BK236 := n1_; have HI239 := n2_; have BK240 := n3_; have HB := n4_; clear n0_ n1_ n2_ n3_ n4_; (try clear hb); (try clear hk); (try clear hi); obtain ⟨HGz51, hgz51⟩ := HI239.out; have hcz51_0 := cellS110_0 HGz51; have hcz51_1 := cellS110_1 HGz51; have hcz51_2 := cellS110_2 HGz51; have hfz51_0 := blk_frozen HGz51 0; have hfz51_1 := blk_frozen HGz51 1; have hfz51_2 := blk_frozen HGz51 2; clear HGz51 hgz51; have hcz52_0 : w50.cell? ⟨gb240, 0, none⟩ = some (.int .i64 t241) := bc_ BK240 0; have hcz52_1 : w50.cell? ⟨gb240, 1, none⟩ = some (.int .i64 t245) := bc_ BK240 1; have hcz52_2 : w50.cell? ⟨gb240, 2, none⟩ = some (.slice Ao46 t253.length co46) := bc_ BK240 2; have hcz52_3 : w50.cell? ⟨gb240, 3, none⟩ = some (.string t257) := bc_ BK240 3; have hfz52_0 := blk_frozen BK240.out 0; have hfz52_1 := blk_frozen BK240.out 1; have hfz52_2 := blk_frozen BK240.out 2; have hfz52_3 := blk_frozen BK240.out 3; have hnb53 := NB236_239.out; have hnc53 := NB239_236.out; have hcz54_0 : w50.cell? ⟨gb236, 0, none⟩ = some (.int .i64 0) := bc_ BK236 0; have hcz54_1 : w50.cell? ⟨gb236, 1, none⟩ = some (.int .i64 0) := bc_ BK236 1; have hcz54_2 : w50.cell? ⟨gb236, 2, none⟩ = some (.slice none 0 0) := bc_ BK236 2; have hcz54_3 : w50.cell? ⟨gb236, 3, none⟩ = some (.string (⟨#[]⟩ : ByteArray)) := bc_ BK236 3; have hfz54_0 := blk_frozen BK236.out 0; have hfz54_1 := blk_frozen BK236.out 1; have hfz54_2 := blk_frozen BK236.out 2; have hfz54_3 := blk_frozen BK236.out 3))
    refine bodyPost_ret (results_ct rfl _ _ gb236 47 #[.int .i64 t241, .int .i64 t245, .slice Ao46 t253.length co46, .string t257] (0, 0) _ rfl bu_ Tryz.underlying47 rfl (by kernel_rfl)) rfl ?_
    exact ⟨_, er_, by (with_reducible repeat (first | apply Kd.R_alloc | apply Kd.R_drewN | apply Kd.R_drew)); exact Kd.R_mono (Kd.R_far (p := ⟨gb236, 3, none⟩) (Kd.R_far (p := ⟨gb236, 2, none⟩) (Kd.R_far (p := ⟨gb236, 1, none⟩) (Kd.R_far (p := ⟨gb236, 0, none⟩) (Kd.R_types HO256.out BK236.out (by decide)) (fun _ hk => hk.2) (.int .i64 t241)) (fun _ hk => hk.2) (.int .i64 t245)) (fun _ hk => hk.2) (.slice Ao46 t253.length co46)) (fun _ hk => hk.2) (.string t257)) (fun _ hk => trivial), bwi_ HB (IsS110.ge HI239.out)⟩
   ·rw [if_neg c32] at H
    have c32b0 : (t261.toList == a0.toList) = false := beq_eq_false_iff_ne.mpr c32
    have c32b1 : (t261.toList != a0.toList) = true := bne_iff_ne.mpr c32
    simp only [Option.some.injEq, Prod.mk.injEq] at H
    obtain ⟨rfl, rfl, rfl, rfl, rfl⟩ := H
    go_enter Tryz.func49, Tryz.ntmps49
    go_wp2_with (first | ((with_reducible refine gate_dst (N := 2) rfl ?_); refine box_event ?hg (N := 2) ?hd (cs := #[.int .i64 0, .int .i64 0, .slice none 0 0, .string (⟨#[]⟩ : ByteArray)]) (t := 47) ?hr ?_; (case hd => rfl); (case hg => rfl); (case hr => first | (go_simp; done) | (go_simp; rfl)); intro gb236 hg w55 hbox hb; have BK236 := mk_ (hbox); have GW236 : Aside0 (w.heap.size ≤ gb236) := bz_ hg; have GE236 : Aside0 (w.heap.size ≤ gb236) := bz_ hg; replace HB := bs_ HB hb; clear hb hbox hg) | ((with_reducible refine gate_callee (f := 85) rfl ?_); refine goesL_ (some 12) rfl rfl Tryz.func85 (by kernel_rfl) rfl #[.string a0] rfl ga_ ?_; (with_reducible refine (spec_Unsealed.calls k a0 t237 t238 _ A2.out).mono ?_); rintro e w56 ⟨rfl, hb⟩; refine ⟨_, rfl, ?_⟩; replace BK236 := bb_ BK236 hb; replace HB := bs_ HB hb; (try clear hb); (try clear hk); (try clear hi)) | ((with_reducible refine gate_dst (N := 19) rfl ?_); refine box_event ?hg (N := 19) ?hd (cs := #[.string t237, .int .i64 0, .bool (!t238)]) (t := 110) ?hr ?_; (case hd => rfl); (case hg => rfl); (case hr => first | (go_simp; done) | (go_simp; rfl)); intro gb239 hg w57 hbox hb; have GW239 : Aside0 (w.heap.size ≤ gb239) := bz_ hg; have GE239 : Aside0 (w.heap.size ≤ gb239) := bz_ hg; have NB236_239 : Aside0 (gb236 ≠ gb239) := bl_ BK236 hg; have NB239_236 : Aside0 (gb239 ≠ gb236) := bg_ BK236 hg; have HI239 := mk_ ((⟨hbox, (by rw [hg]; exact (below_size (bw_ HB)) : w.heap.size ≤ gb239)⟩ : IsS110 w w57 gb239 t237 0 (!t238))); replace BK236 := bb_ BK236 hb; replace HB := bs_ HB hb; clear hb hbox hg) | ((with_reducible refine gate_dst (N := 7) rfl ?_); refine box_event ?hg (N := 7) ?hd (cs := #[.int .i64 0, .int .i64 0, .slice none 0 0, .string (⟨#[]⟩ : ByteArray)]) (t := 47) ?hr ?_; (case hd => rfl); (case hg => rfl); (case hr => first | (go_simp; done) | (go_simp; rfl)); intro gb240 hg w58 hbox hb; have n0_ := bb_ BK236 hb; have n1_ := mk_ (IsS110.below (IsS110.ii_ HI239) hb); have n2_ := mk_ (below_step (bwi_ HB (IsS110.ge HI239.out)) hb); have n3_ := mk_ (hbox); have n4_ := mk_ ((by rw [hg]; exact (below_size (bwi_ HB (IsS110.ge HI239.out))) : w.heap.size ≤ gb240)); have n5_ := mk_ ((by rw [hg]; exact (below_size (bwi_ HB (IsS110.ge HI239.out))) : w.heap.size ≤ gb240)); have n6_ : Aside0 (gb236 ≠ gb240) := bl_ BK236 hg; have n7_ : Aside0 (gb240 ≠ gb236) := bg_ BK236 hg; have n8_ := mk_ ((by rw [hg]; exact Nat.ne_of_lt (IsS110.lt (show IsS110 w _ gb239 t237 0 (!t238) from IsS110.ii_ HI239)) : gb239 ≠ gb240)); have n9_ := mk_ ((by rw [hg]; exact Nat.ne_of_gt (IsS110.lt (show IsS110 w _ gb239 t237 0 (!t238) from IsS110.ii_ HI239)) : gb240 ≠ gb239)); clear BK236; clear HI239; clear HB; have BK236 := n0_; have HI239 := n1_; have HB := n2_; have BK240 := n3_; have GW240 := n4_; have GE240 := n5_; have NB236_240 := n6_; have NB240_236 := n7_; have NB239_240 := n8_; have NB240_239 := n9_; clear n0_ n1_ n2_ n3_ n4_ n5_ n6_ n7_ n8_ n9_; clear hb hbox hg; have hnb59 := NB240_236.out; have hnc59 := NB236_240.out; have hnb60 := NB240_239.out; have hnc60 := NB239_240.out; have hcz61_0 : w58.cell? ⟨gb240, 0, none⟩ = some (.int .i64 0) := bc_ BK240 0; have hcz61_1 : w58.cell? ⟨gb240, 1, none⟩ = some (.int .i64 0) := bc_ BK240 1; have hcz61_2 : w58.cell? ⟨gb240, 2, none⟩ = some (.slice none 0 0) := bc_ BK240 2; have hcz61_3 : w58.cell? ⟨gb240, 3, none⟩ = some (.string (⟨#[]⟩ : ByteArray)) := bc_ BK240 3; have hfz61_0 := blk_frozen BK240.out 0; have hfz61_1 := blk_frozen BK240.out 1; have hfz61_2 := blk_frozen BK240.out 2; have hfz61_3 := blk_frozen BK240.out 3) | ((with_reducible refine gate_callee (f := 86) rfl ?_); refine goesL_ (some 22) rfl rfl Tryz.func86 (by kernel_rfl) rfl #[.pointer (some ⟨gb239, 0, none⟩)] rfl ga_ ?_; (with_reducible refine (spec_l05Var.calls k gb239 t237 0 (!t238) t241 t242 t243 t244 w _ ?side1 ?side2 A3.out).mono ?_); (case side1 => exact IsS110.ii_ HI239); (case side2 => exact bwi_ HB (IsS110.ge HI239.out)); rintro e w62 ⟨rfl, hi, hb, hk⟩; refine ⟨_, rfl, ?_⟩; replace BK236 := mk_ (KeepBut.blk hk (g' := gb236) (o := .cells #[.int .i64 0, .int .i64 0, .slice none 0 0, .string (⟨#[]⟩ : ByteArray)] 47 (0, 0)) bf_ NB236_239.out (by simp)); replace BK240 := mk_ (KeepBut.blk hk (g' := gb240) (o := .cells #[.int .i64 0, .int .i64 0, .slice none 0 0, .string (⟨#[]⟩ : ByteArray)] 47 (0, 0)) bu_ NB240_239.out (by simp)); replace HB := mk_ (hb); replace HI239 := mk_ (hi); (try clear hb); (try clear hk); (try clear hi); have hcz63_0 : w62.cell? ⟨gb240, 0, none⟩ = some (.int .i64 0) := bc_ BK240 0; have hcz63_1 : w62.cell? ⟨gb240, 1, none⟩ = some (.int .i64 0) := bc_ BK240 1; have hcz63_2 : w62.cell? ⟨gb240, 2, none⟩ = some (.slice none 0 0) := bc_ BK240 2; have hcz63_3 : w62.cell? ⟨gb240, 3, none⟩ = some (.string (⟨#[]⟩ : ByteArray)) := bc_ BK240 3; have hfz63_0 := blk_frozen BK240.out 0; have hfz63_1 := blk_frozen BK240.out 1; have hfz63_2 := blk_frozen BK240.out 2; have hfz63_3 := blk_frozen BK240.out 3) | ((with_reducible refine gate_callee (f := 86) rfl ?_); refine goesL_ (some 25) rfl rfl Tryz.func86 (by kernel_rfl) rfl #[.pointer (some ⟨gb239, 0, none⟩)] rfl ga_ ?_; (with_reducible refine (spec_l05Var.calls k gb239 t242 t243 t244 t245 t246 t247 t248 w _ ?side1 ?side2 A4.out).mono ?_); (case side1 => exact IsS110.ii_ HI239); (case side2 => exact bwi_ HB (IsS110.ge HI239.out)); rintro e w64 ⟨rfl, hi, hb, hk⟩; refine ⟨_, rfl, ?_⟩; replace BK236 := mk_ (KeepBut.blk hk (g' := gb236) (o := .cells #[.int .i64 0, .int .i64 0, .slice none 0 0, .string (⟨#[]⟩ : ByteArray)] 47 (0, 0)) bf_ NB236_239.out (by simp)); replace BK240 := mk_ (KeepBut.blk hk (g' := gb240) (o := .cells #[.int .i64 t241, .int .i64 0, .slice none 0 0, .string (⟨#[]⟩ : ByteArray)] 47 (0, 0)) bu_ NB240_239.out (by simp)); replace HB := mk_ (hb); replace HI239 := mk_ (hi); (try clear hb); (try clear hk); (try clear hi); have hcz65_0 : w64.cell? ⟨gb240, 0, none⟩ = some (.int .i64 t241) := bc_ BK240 0; have hcz65_1 : w64.cell? ⟨gb240, 1, none⟩ = some (.int .i64 0) := bc_ BK240 1; have hcz65_2 : w64.cell? ⟨gb240, 2, none⟩ = some (.slice none 0 0) := bc_ BK240 2; have hcz65_3 : w64.cell? ⟨gb240, 3, none⟩ = some (.string (⟨#[]⟩ : ByteArray)) := bc_ BK240 3; have hfz65_0 := blk_frozen BK240.out 0; have hfz65_1 := blk_frozen BK240.out 1; have hfz65_2 := blk_frozen BK240.out 2; have hfz65_3 := blk_frozen BK240.out 3) | ((with_reducible refine gate_callee (f := 88) rfl ?_); refine goesL_ (some 29) rfl rfl Tryz.func88 (by kernel_rfl) rfl #[.pointer (some ⟨gb239, 0, none⟩)] rfl ga_ ?_; (with_reducible refine (spec_l05ReadShort.calls k gb239 t246 t247 t248 t249 t250 t251 t252 w _ ?side1 ?side2 A5.out).mono ?_); (case side1 => exact IsS110.ii_ HI239); (case side2 => exact bwi_ HB (IsS110.ge HI239.out)); rintro e w66 ⟨rfl, hi, hb, hk⟩; refine ⟨_, rfl, ?_⟩; replace BK236 := mk_ (KeepBut.blk hk (g' := gb236) (o := .cells #[.int .i64 0, .int .i64 0, .slice none 0 0, .string (⟨#[]⟩ : ByteArray)] 47 (0, 0)) bf_ NB236_239.out (by simp)); replace BK240 := mk_ (KeepBut.blk hk (g' := gb240) (o := .cells #[.int .i64 t241, .int .i64 t245, .slice none 0 0, .string (⟨#[]⟩ : ByteArray)] 47 (0, 0)) bu_ NB240_239.out (by simp)); replace HB := mk_ (hb); replace HI239 := mk_ (hi); (try clear hb); (try clear hk); (try clear hi)) | ((with_reducible refine gate_callee (f := 87) rfl ?_); refine goesL_ (some 30) rfl rfl Tryz.func87 (by kernel_rfl) rfl #[.string t249] rfl ga_ ?_; (with_reducible refine (spec_ReadConf.calls k t249 t253 t254 _ A6.out).mono ?_); rintro e w67 ⟨v255, rfl, ho0, hb⟩; refine ⟨_, rfl, ?_⟩; have n0_ := mk_ (Kd.R_lower ho0 (below_size (bwi_ HB (IsS110.ge HI239.out)))); have n1_ := bb_ BK236 hb; have n2_ := mk_ (IsS110.below (IsS110.ii_ HI239) hb); have n3_ := bb_ BK240 hb; have n4_ := mk_ (below_step (bwi_ HB (IsS110.ge HI239.out)) hb); clear BK236; clear HI239; clear BK240; clear HB; have HO256 := n0_; have BK236 := n1_; have HI239 := n2_; have BK240 := n3_; have HB := n4_; clear n0_ n1_ n2_ n3_ n4_; (try clear hb); (try clear hk); (try clear hi); (try clear ho0); obtain ⟨Ao68, co68, eo68⟩ := Kd.R_slice HO256.out; subst eo68; have hcz69_0 : w67.cell? ⟨gb240, 0, none⟩ = some (.int .i64 t241) := bc_ BK240 0; have hcz69_1 : w67.cell? ⟨gb240, 1, none⟩ = some (.int .i64 t245) := bc_ BK240 1; have hcz69_2 : w67.cell? ⟨gb240, 2, none⟩ = some (.slice none 0 0) := bc_ BK240 2; have hcz69_3 : w67.cell? ⟨gb240, 3, none⟩ = some (.string (⟨#[]⟩ : ByteArray)) := bc_ BK240 3; have hfz69_0 := blk_frozen BK240.out 0; have hfz69_1 := blk_frozen BK240.out 1; have hfz69_2 := blk_frozen BK240.out 2; have hfz69_3 := blk_frozen BK240.out 3) | ((with_reducible refine gate_callee (f := 88) rfl ?_); refine goesL_ (some 35) rfl rfl Tryz.func88 (by kernel_rfl) rfl #[.pointer (some ⟨gb239, 0, none⟩)] rfl ga_ ?_; (with_reducible refine (spec_l05ReadShort.calls k gb239 t250 t251 t252 t257 t258 t259 false w _ ?side1 ?side2 A7.out).mono ?_); (case side1 => exact IsS110.ii_ HI239); (case side2 => exact bwi_ HB (IsS110.ge HI239.out)); rintro e w70 ⟨rfl, hi, hb, hk⟩; refine ⟨_, rfl, ?_⟩; have n0_ := mk_ (KeepBut.blk hk (g' := gb236) (o := .cells #[.int .i64 0, .int .i64 0, .slice none 0 0, .string (⟨#[]⟩ : ByteArray)] 47 (0, 0)) bf_ NB236_239.out (by simp)); have n1_ := mk_ (KeepBut.blk hk (g' := gb240) (o := .cells #[.int .i64 t241, .int .i64 t245, .slice Ao68 t253.length co68, .string (⟨#[]⟩ : ByteArray)] 47 (0, 0)) bu_ NB240_239.out (by simp)); have n2_ := mk_ (Kd.R_mono (Kd.R_keep (IsS110.apart (show IsS110 w _ gb239 t250 t251 t252 from IsS110.ii_ HI239) (by (with_reducible repeat (first | apply Kd.R_alloc | apply Kd.R_drewN | apply Kd.R_drew)); exact (Kd.R_mono (Kd.R_far (p := ⟨gb240, 2, none⟩) (Kd.R_types HO256.out BK240.out (by decide)) (fun _ hk => hk.2) (.slice Ao68 t253.length co68)) (fun _ h_ => h_.1))) (by decide)) hk (fun _ h => h.2)) (fun _ h => h.1)); have n3_ := mk_ (hb); have n4_ := mk_ (hi); clear BK236; clear BK240; clear HO256; clear HB; clear HI239; have BK236 := n0_; have BK240 := n1_; have HO256 := n2_; have HB := n3_; have HI239 := n4_; clear n0_ n1_ n2_ n3_ n4_; (try clear hb); (try clear hk); (try clear hi); have hcz71_0 : w70.cell? ⟨gb240, 0, none⟩ = some (.int .i64 t241) := bc_ BK240 0; have hcz71_1 : w70.cell? ⟨gb240, 1, none⟩ = some (.int .i64 t245) := bc_ BK240 1; have hcz71_2 : w70.cell? ⟨gb240, 2, none⟩ = some (.slice Ao68 t253.length co68) := bc_ BK240 2; have hcz71_3 : w70.cell? ⟨gb240, 3, none⟩ = some (.string (⟨#[]⟩ : ByteArray)) := bc_ BK240 3; have hfz71_0 := blk_frozen BK240.out 0; have hfz71_1 := blk_frozen BK240.out 1; have hfz71_2 := blk_frozen BK240.out 2; have hfz71_3 := blk_frozen BK240.out 3) | ((with_reducible refine gate_callee (f := 89) rfl ?_); refine goesL_ (some 39) rfl rfl Tryz.func89 (by kernel_rfl) rfl #[.agg #[.int .i64 t241, .int .i64 t245, .slice Ao68 t253.length co68, .string t257]] rfl ga_ ?_; (with_reducible refine (spec_SnapText.calls k t241 t245 _ _ t253 t257 t261 true _ ?side1 ?side2 A8.out).mono ?_); (case side1 => refine (Kd.R_reads' (e := 3) (base := w.heap.size) (ok := fun k_ => True) (n := t253.length) (c := co68) ?_).2.2; exact (by (with_reducible repeat (first | apply Kd.R_alloc | apply Kd.R_drewN | apply Kd.R_drew)); exact (Kd.R_mono (Kd.R_far (p := ⟨gb240, 3, none⟩) (Kd.R_types HO256.out BK240.out (by decide)) (fun _ hk => hk.2) (.string t257)) (fun _ h_ => h_.1)))); (case side2 => exact (Kd.R_reads' HO256.out).2.1); rintro e w72 ⟨rfl, hb⟩; refine ⟨_, rfl, ?_⟩; have n0_ := mk_ (Kd.R_below (by (with_reducible repeat (first | apply Kd.R_alloc | apply Kd.R_drewN | apply Kd.R_drew)); exact (Kd.R_mono (Kd.R_far (p := ⟨gb240, 3, none⟩) (Kd.R_types HO256.out BK240.out (by decide)) (fun _ hk => hk.2) (.string t257)) (fun _ h_ => h_.1))) hb); have n1_ := mk_ (blk_below (g := gb236) (o := .cells #[.int .i64 0, .int .i64 0, .slice none 0 0, .string (⟨#[]⟩ : ByteArray)] 47 (0, 0)) bf_ hb); have n2_ := mk_ (IsS110.below (show IsS110 w (w70.setCell ⟨gb240, 3, none⟩ (.string t257)) gb239 t258 t259 false from IsS110.ii_ HI239) hb); have n3_ := mk_ (blk_below (g := gb240) (o := .cells #[.int .i64 t241, .int .i64 t245, .slice Ao68 t253.length co68, .string t257] 47 (0, 0)) bu_ hb); have n4_ := mk_ (below_step (bwi_ HB (IsS110.ge HI239.out)) hb); clear HO256; clear BK236; clear HI239; clear BK240; clear HB; have HO256 := n0_; have BK236 := n1_; have HI239 := n2_; have BK240 := n3_; have HB := n4_; clear n0_ n1_ n2_ n3_ n4_; (try clear hb); (try clear hk); (try clear hi); obtain ⟨HGz73, hgz73⟩ := HI239.out; have hcz73_0 := cellS110_0 HGz73; have hcz73_1 := cellS110_1 HGz73; have hcz73_2 := cellS110_2 HGz73; have hfz73_0 := blk_frozen HGz73 0; have hfz73_1 := blk_frozen HGz73 1; have hfz73_2 := blk_frozen HGz73 2; clear HGz73 hgz73; have hnb74 := NB236_239.out; have hnc74 := NB239_236.out; have hcz75_0 : w72.cell? ⟨gb236, 0, none⟩ = some (.int .i64 0) := bc_ BK236 0; have hcz75_1 : w72.cell? ⟨gb236, 1, none⟩ = some (.int .i64 0) := bc_ BK236 1; have hcz75_2 : w72.cell? ⟨gb236, 2, none⟩ = some (.slice none 0 0) := bc_ BK236 2; have hcz75_3 : w72.cell? ⟨gb236, 3, none⟩ = some (.string (⟨#[]⟩ : ByteArray)) := bc_ BK236 3; have hfz75_0 := blk_frozen BK236.out 0; have hfz75_1 := blk_frozen BK236.out 1; have hfz75_2 := blk_frozen BK236.out 2; have hfz75_3 := blk_frozen BK236.out 3))
    refine bodyPost_ret (results_ct rfl _ _ gb236 47 #[.int .i64 0, .int .i64 0, .slice none 0 0, .string (⟨#[]⟩ : ByteArray)] (0, 0) _ rfl bu_ Tryz.underlying47 rfl (by kernel_rfl)) rfl ?_
    exact ⟨_, er_, by first | exact Kd.R_nil _ _ _ _ _ | exact Kd.N_nil _ _ _ _ _ | exact Kd.V_nil _ _ _ _ _ | exact Kd.Q_nil _ _ _ _ _ | exact Kd.S_nil _ _ _ _ _, bwi_ HB (IsS110.ge HI239.out)⟩
  ·replace c31 := Bool.eq_false_iff.mpr c31
   subst c31
   have H1 : (some (0, 0, ([] : List Int), (⟨#[]⟩ : ByteArray), false)) = some (r1, r2, r3, r4, r5) := by rw [if_neg (show ¬ (false = true) by decide)] at H; exact H
   clear H
   have H := H1
   clear H1
   simp only [Option.some.injEq, Prod.mk.injEq] at H
   obtain ⟨rfl, rfl, rfl, rfl, rfl⟩ := H
   go_enter Tryz.func49, Tryz.ntmps49
   go_wp2_with (first | ((with_reducible refine gate_dst (N := 2) rfl ?_); refine box_event ?hg (N := 2) ?hd (cs := #[.int .i64 0, .int .i64 0, .slice none 0 0, .string (⟨#[]⟩ : ByteArray)]) (t := 47) ?hr ?_; (case hd => rfl); (case hg => rfl); (case hr => first | (go_simp; done) | (go_simp; rfl)); intro gb236 hg w76 hbox hb; have BK236 := mk_ (hbox); have GW236 : Aside0 (w.heap.size ≤ gb236) := bz_ hg; have GE236 : Aside0 (w.heap.size ≤ gb236) := bz_ hg; replace HB := bs_ HB hb; clear hb hbox hg) | ((with_reducible refine gate_callee (f := 85) rfl ?_); refine goesL_ (some 12) rfl rfl Tryz.func85 (by kernel_rfl) rfl #[.string a0] rfl ga_ ?_; (with_reducible refine (spec_Unsealed.calls k a0 t237 t238 _ A2.out).mono ?_); rintro e w77 ⟨rfl, hb⟩; refine ⟨_, rfl, ?_⟩; replace BK236 := bb_ BK236 hb; replace HB := bs_ HB hb; (try clear hb); (try clear hk); (try clear hi)) | ((with_reducible refine gate_dst (N := 19) rfl ?_); refine box_event ?hg (N := 19) ?hd (cs := #[.string t237, .int .i64 0, .bool (!t238)]) (t := 110) ?hr ?_; (case hd => rfl); (case hg => rfl); (case hr => first | (go_simp; done) | (go_simp; rfl)); intro gb239 hg w78 hbox hb; have GW239 : Aside0 (w.heap.size ≤ gb239) := bz_ hg; have GE239 : Aside0 (w.heap.size ≤ gb239) := bz_ hg; have NB236_239 : Aside0 (gb236 ≠ gb239) := bl_ BK236 hg; have NB239_236 : Aside0 (gb239 ≠ gb236) := bg_ BK236 hg; have HI239 := mk_ ((⟨hbox, (by rw [hg]; exact (below_size (bw_ HB)) : w.heap.size ≤ gb239)⟩ : IsS110 w w78 gb239 t237 0 (!t238))); replace BK236 := bb_ BK236 hb; replace HB := bs_ HB hb; clear hb hbox hg) | ((with_reducible refine gate_dst (N := 7) rfl ?_); refine box_event ?hg (N := 7) ?hd (cs := #[.int .i64 0, .int .i64 0, .slice none 0 0, .string (⟨#[]⟩ : ByteArray)]) (t := 47) ?hr ?_; (case hd => rfl); (case hg => rfl); (case hr => first | (go_simp; done) | (go_simp; rfl)); intro gb240 hg w79 hbox hb; have n0_ := bb_ BK236 hb; have n1_ := mk_ (IsS110.below (IsS110.ii_ HI239) hb); have n2_ := mk_ (below_step (bwi_ HB (IsS110.ge HI239.out)) hb); have n3_ := mk_ (hbox); have n4_ := mk_ ((by rw [hg]; exact (below_size (bwi_ HB (IsS110.ge HI239.out))) : w.heap.size ≤ gb240)); have n5_ := mk_ ((by rw [hg]; exact (below_size (bwi_ HB (IsS110.ge HI239.out))) : w.heap.size ≤ gb240)); have n6_ : Aside0 (gb236 ≠ gb240) := bl_ BK236 hg; have n7_ : Aside0 (gb240 ≠ gb236) := bg_ BK236 hg; have n8_ := mk_ ((by rw [hg]; exact Nat.ne_of_lt (IsS110.lt (show IsS110 w _ gb239 t237 0 (!t238) from IsS110.ii_ HI239)) : gb239 ≠ gb240)); have n9_ := mk_ ((by rw [hg]; exact Nat.ne_of_gt (IsS110.lt (show IsS110 w _ gb239 t237 0 (!t238) from IsS110.ii_ HI239)) : gb240 ≠ gb239)); clear BK236; clear HI239; clear HB; have BK236 := n0_; have HI239 := n1_; have HB := n2_; have BK240 := n3_; have GW240 := n4_; have GE240 := n5_; have NB236_240 := n6_; have NB240_236 := n7_; have NB239_240 := n8_; have NB240_239 := n9_; clear n0_ n1_ n2_ n3_ n4_ n5_ n6_ n7_ n8_ n9_; clear hb hbox hg; have hnb80 := NB240_236.out; have hnc80 := NB236_240.out; have hnb81 := NB240_239.out; have hnc81 := NB239_240.out; have hcz82_0 : w79.cell? ⟨gb240, 0, none⟩ = some (.int .i64 0) := bc_ BK240 0; have hcz82_1 : w79.cell? ⟨gb240, 1, none⟩ = some (.int .i64 0) := bc_ BK240 1; have hcz82_2 : w79.cell? ⟨gb240, 2, none⟩ = some (.slice none 0 0) := bc_ BK240 2; have hcz82_3 : w79.cell? ⟨gb240, 3, none⟩ = some (.string (⟨#[]⟩ : ByteArray)) := bc_ BK240 3; have hfz82_0 := blk_frozen BK240.out 0; have hfz82_1 := blk_frozen BK240.out 1; have hfz82_2 := blk_frozen BK240.out 2; have hfz82_3 := blk_frozen BK240.out 3) | ((with_reducible refine gate_callee (f := 86) rfl ?_); refine goesL_ (some 22) rfl rfl Tryz.func86 (by kernel_rfl) rfl #[.pointer (some ⟨gb239, 0, none⟩)] rfl ga_ ?_; (with_reducible refine (spec_l05Var.calls k gb239 t237 0 (!t238) t241 t242 t243 t244 w _ ?side1 ?side2 A3.out).mono ?_); (case side1 => exact IsS110.ii_ HI239); (case side2 => exact bwi_ HB (IsS110.ge HI239.out)); rintro e w83 ⟨rfl, hi, hb, hk⟩; refine ⟨_, rfl, ?_⟩; replace BK236 := mk_ (KeepBut.blk hk (g' := gb236) (o := .cells #[.int .i64 0, .int .i64 0, .slice none 0 0, .string (⟨#[]⟩ : ByteArray)] 47 (0, 0)) bf_ NB236_239.out (by simp)); replace BK240 := mk_ (KeepBut.blk hk (g' := gb240) (o := .cells #[.int .i64 0, .int .i64 0, .slice none 0 0, .string (⟨#[]⟩ : ByteArray)] 47 (0, 0)) bu_ NB240_239.out (by simp)); replace HB := mk_ (hb); replace HI239 := mk_ (hi); (try clear hb); (try clear hk); (try clear hi); have hcz84_0 : w83.cell? ⟨gb240, 0, none⟩ = some (.int .i64 0) := bc_ BK240 0; have hcz84_1 : w83.cell? ⟨gb240, 1, none⟩ = some (.int .i64 0) := bc_ BK240 1; have hcz84_2 : w83.cell? ⟨gb240, 2, none⟩ = some (.slice none 0 0) := bc_ BK240 2; have hcz84_3 : w83.cell? ⟨gb240, 3, none⟩ = some (.string (⟨#[]⟩ : ByteArray)) := bc_ BK240 3; have hfz84_0 := blk_frozen BK240.out 0; have hfz84_1 := blk_frozen BK240.out 1; have hfz84_2 := blk_frozen BK240.out 2; have hfz84_3 := blk_frozen BK240.out 3) | ((with_reducible refine gate_callee (f := 86) rfl ?_); refine goesL_ (some 25) rfl rfl Tryz.func86 (by kernel_rfl) rfl #[.pointer (some ⟨gb239, 0, none⟩)] rfl ga_ ?_; (with_reducible refine (spec_l05Var.calls k gb239 t242 t243 t244 t245 t246 t247 t248 w _ ?side1 ?side2 A4.out).mono ?_); (case side1 => exact IsS110.ii_ HI239); (case side2 => exact bwi_ HB (IsS110.ge HI239.out)); rintro e w85 ⟨rfl, hi, hb, hk⟩; refine ⟨_, rfl, ?_⟩; replace BK236 := mk_ (KeepBut.blk hk (g' := gb236) (o := .cells #[.int .i64 0, .int .i64 0, .slice none 0 0, .string (⟨#[]⟩ : ByteArray)] 47 (0, 0)) bf_ NB236_239.out (by simp)); replace BK240 := mk_ (KeepBut.blk hk (g' := gb240) (o := .cells #[.int .i64 t241, .int .i64 0, .slice none 0 0, .string (⟨#[]⟩ : ByteArray)] 47 (0, 0)) bu_ NB240_239.out (by simp)); replace HB := mk_ (hb); replace HI239 := mk_ (hi); (try clear hb); (try clear hk); (try clear hi); have hcz86_0 : w85.cell? ⟨gb240, 0, none⟩ = some (.int .i64 t241) := bc_ BK240 0; have hcz86_1 : w85.cell? ⟨gb240, 1, none⟩ = some (.int .i64 0) := bc_ BK240 1; have hcz86_2 : w85.cell? ⟨gb240, 2, none⟩ = some (.slice none 0 0) := bc_ BK240 2; have hcz86_3 : w85.cell? ⟨gb240, 3, none⟩ = some (.string (⟨#[]⟩ : ByteArray)) := bc_ BK240 3; have hfz86_0 := blk_frozen BK240.out 0; have hfz86_1 := blk_frozen BK240.out 1; have hfz86_2 := blk_frozen BK240.out 2; have hfz86_3 := blk_frozen BK240.out 3) | ((with_reducible refine gate_callee (f := 88) rfl ?_); refine goesL_ (some 29) rfl rfl Tryz.func88 (by kernel_rfl) rfl #[.pointer (some ⟨gb239, 0, none⟩)] rfl ga_ ?_; (with_reducible refine (spec_l05ReadShort.calls k gb239 t246 t247 t248 t249 t250 t251 t252 w _ ?side1 ?side2 A5.out).mono ?_); (case side1 => exact IsS110.ii_ HI239); (case side2 => exact bwi_ HB (IsS110.ge HI239.out)); rintro e w87 ⟨rfl, hi, hb, hk⟩; refine ⟨_, rfl, ?_⟩; replace BK236 := mk_ (KeepBut.blk hk (g' := gb236) (o := .cells #[.int .i64 0, .int .i64 0, .slice none 0 0, .string (⟨#[]⟩ : ByteArray)] 47 (0, 0)) bf_ NB236_239.out (by simp)); replace BK240 := mk_ (KeepBut.blk hk (g' := gb240) (o := .cells #[.int .i64 t241, .int .i64 t245, .slice none 0 0, .string (⟨#[]⟩ : ByteArray)] 47 (0, 0)) bu_ NB240_239.out (by simp)); replace HB := mk_ (hb); replace HI239 := mk_ (hi); (try clear hb); (try clear hk); (try clear hi)) | ((with_reducible refine gate_callee (f := 87) rfl ?_); refine goesL_ (some 30) rfl rfl Tryz.func87 (by kernel_rfl) rfl #[.string t249] rfl ga_ ?_; (with_reducible refine (spec_ReadConf.calls k t249 t253 t254 _ A6.out).mono ?_); rintro e w88 ⟨v255, rfl, ho0, hb⟩; refine ⟨_, rfl, ?_⟩; have n0_ := mk_ (Kd.R_lower ho0 (below_size (bwi_ HB (IsS110.ge HI239.out)))); have n1_ := bb_ BK236 hb; have n2_ := mk_ (IsS110.below (IsS110.ii_ HI239) hb); have n3_ := bb_ BK240 hb; have n4_ := mk_ (below_step (bwi_ HB (IsS110.ge HI239.out)) hb); clear BK236; clear HI239; clear BK240; clear HB; have HO256 := n0_; have BK236 := n1_; have HI239 := n2_; have BK240 := n3_; have HB := n4_; clear n0_ n1_ n2_ n3_ n4_; (try clear hb); (try clear hk); (try clear hi); (try clear ho0); obtain ⟨Ao89, co89, eo89⟩ := Kd.R_slice HO256.out; subst eo89; have hcz90_0 : w88.cell? ⟨gb240, 0, none⟩ = some (.int .i64 t241) := bc_ BK240 0; have hcz90_1 : w88.cell? ⟨gb240, 1, none⟩ = some (.int .i64 t245) := bc_ BK240 1; have hcz90_2 : w88.cell? ⟨gb240, 2, none⟩ = some (.slice none 0 0) := bc_ BK240 2; have hcz90_3 : w88.cell? ⟨gb240, 3, none⟩ = some (.string (⟨#[]⟩ : ByteArray)) := bc_ BK240 3; have hfz90_0 := blk_frozen BK240.out 0; have hfz90_1 := blk_frozen BK240.out 1; have hfz90_2 := blk_frozen BK240.out 2; have hfz90_3 := blk_frozen BK240.out 3) | ((with_reducible refine gate_callee (f := 88) rfl ?_); refine goesL_ (some 35) rfl rfl Tryz.func88 (by kernel_rfl) rfl #[.pointer (some ⟨gb239, 0, none⟩)] rfl ga_ ?_; (with_reducible refine (spec_l05ReadShort.calls k gb239 t250 t251 t252 t257 t258 t259 false w _ ?side1 ?side2 A7.out).mono ?_); (case side1 => exact IsS110.ii_ HI239); (case side2 => exact bwi_ HB (IsS110.ge HI239.out)); rintro e w91 ⟨rfl, hi, hb, hk⟩; refine ⟨_, rfl, ?_⟩; have n0_ := mk_ (KeepBut.blk hk (g' := gb236) (o := .cells #[.int .i64 0, .int .i64 0, .slice none 0 0, .string (⟨#[]⟩ : ByteArray)] 47 (0, 0)) bf_ NB236_239.out (by simp)); have n1_ := mk_ (KeepBut.blk hk (g' := gb240) (o := .cells #[.int .i64 t241, .int .i64 t245, .slice Ao89 t253.length co89, .string (⟨#[]⟩ : ByteArray)] 47 (0, 0)) bu_ NB240_239.out (by simp)); have n2_ := mk_ (Kd.R_mono (Kd.R_keep (IsS110.apart (show IsS110 w _ gb239 t250 t251 t252 from IsS110.ii_ HI239) (by (with_reducible repeat (first | apply Kd.R_alloc | apply Kd.R_drewN | apply Kd.R_drew)); exact (Kd.R_mono (Kd.R_far (p := ⟨gb240, 2, none⟩) (Kd.R_types HO256.out BK240.out (by decide)) (fun _ hk => hk.2) (.slice Ao89 t253.length co89)) (fun _ h_ => h_.1))) (by decide)) hk (fun _ h => h.2)) (fun _ h => h.1)); have n3_ := mk_ (hb); have n4_ := mk_ (hi); clear BK236; clear BK240; clear HO256; clear HB; clear HI239; have BK236 := n0_; have BK240 := n1_; have HO256 := n2_; have HB := n3_; have HI239 := n4_; clear n0_ n1_ n2_ n3_ n4_; (try clear hb); (try clear hk); (try clear hi); have hcz92_0 : w91.cell? ⟨gb240, 0, none⟩ = some (.int .i64 t241) := bc_ BK240 0; have hcz92_1 : w91.cell? ⟨gb240, 1, none⟩ = some (.int .i64 t245) := bc_ BK240 1; have hcz92_2 : w91.cell? ⟨gb240, 2, none⟩ = some (.slice Ao89 t253.length co89) := bc_ BK240 2; have hcz92_3 : w91.cell? ⟨gb240, 3, none⟩ = some (.string (⟨#[]⟩ : ByteArray)) := bc_ BK240 3; have hfz92_0 := blk_frozen BK240.out 0; have hfz92_1 := blk_frozen BK240.out 1; have hfz92_2 := blk_frozen BK240.out 2; have hfz92_3 := blk_frozen BK240.out 3) | ((with_reducible refine gate_callee (f := 89) rfl ?_); refine goesL_ (some 39) rfl rfl Tryz.func89 (by kernel_rfl) rfl #[.agg #[.int .i64 t241, .int .i64 t245, .slice Ao89 t253.length co89, .string t257]] rfl ga_ ?_; (with_reducible refine (spec_SnapText.calls k t241 t245 _ _ t253 t257 t261 false _ ?side1 ?side2 A8.out).mono ?_); (case side1 => refine (Kd.R_reads' (e := 3) (base := w.heap.size) (ok := fun k_ => True) (n := t253.length) (c := co89) ?_).2.2; exact (by (with_reducible repeat (first | apply Kd.R_alloc | apply Kd.R_drewN | apply Kd.R_drew)); exact (Kd.R_mono (Kd.R_far (p := ⟨gb240, 3, none⟩) (Kd.R_types HO256.out BK240.out (by decide)) (fun _ hk => hk.2) (.string t257)) (fun _ h_ => h_.1)))); (case side2 => exact (Kd.R_reads' HO256.out).2.1); rintro e w93 ⟨rfl, hb⟩; refine ⟨_, rfl, ?_⟩; have n0_ := mk_ (Kd.R_below (by (with_reducible repeat (first | apply Kd.R_alloc | apply Kd.R_drewN | apply Kd.R_drew)); exact (Kd.R_mono (Kd.R_far (p := ⟨gb240, 3, none⟩) (Kd.R_types HO256.out BK240.out (by decide)) (fun _ hk => hk.2) (.string t257)) (fun _ h_ => h_.1))) hb); have n1_ := mk_ (blk_below (g := gb236) (o := .cells #[.int .i64 0, .int .i64 0, .slice none 0 0, .string (⟨#[]⟩ : ByteArray)] 47 (0, 0)) bf_ hb); have n2_ := mk_ (IsS110.below (show IsS110 w (w91.setCell ⟨gb240, 3, none⟩ (.string t257)) gb239 t258 t259 false from IsS110.ii_ HI239) hb); have n3_ := mk_ (blk_below (g := gb240) (o := .cells #[.int .i64 t241, .int .i64 t245, .slice Ao89 t253.length co89, .string t257] 47 (0, 0)) bu_ hb); have n4_ := mk_ (below_step (bwi_ HB (IsS110.ge HI239.out)) hb); clear HO256; clear BK236; clear HI239; clear BK240; clear HB; have HO256 := n0_; have BK236 := n1_; have HI239 := n2_; have BK240 := n3_; have HB := n4_; clear n0_ n1_ n2_ n3_ n4_; (try clear hb); (try clear hk); (try clear hi); obtain ⟨HGz94, hgz94⟩ := HI239.out; have hcz94_0 := cellS110_0 HGz94; have hcz94_1 := cellS110_1 HGz94; have hcz94_2 := cellS110_2 HGz94; have hfz94_0 := blk_frozen HGz94 0; have hfz94_1 := blk_frozen HGz94 1; have hfz94_2 := blk_frozen HGz94 2; clear HGz94 hgz94; have hnb95 := NB236_239.out; have hnc95 := NB239_236.out; have hcz96_0 : w93.cell? ⟨gb236, 0, none⟩ = some (.int .i64 0) := bc_ BK236 0; have hcz96_1 : w93.cell? ⟨gb236, 1, none⟩ = some (.int .i64 0) := bc_ BK236 1; have hcz96_2 : w93.cell? ⟨gb236, 2, none⟩ = some (.slice none 0 0) := bc_ BK236 2; have hcz96_3 : w93.cell? ⟨gb236, 3, none⟩ = some (.string (⟨#[]⟩ : ByteArray)) := bc_ BK236 3; have hfz96_0 := blk_frozen BK236.out 0; have hfz96_1 := blk_frozen BK236.out 1; have hfz96_2 := blk_frozen BK236.out 2; have hfz96_3 := blk_frozen BK236.out 3))
   refine bodyPost_ret (results_ct rfl _ _ gb236 47 #[.int .i64 0, .int .i64 0, .slice none 0 0, .string (⟨#[]⟩ : ByteArray)] (0, 0) _ rfl bu_ Tryz.underlying47 rfl (by kernel_rfl)) rfl ?_
   exact ⟨_, er_, by first | exact Kd.R_nil _ _ _ _ _ | exact Kd.N_nil _ _ _ _ _ | exact Kd.V_nil _ _ _ _ _ | exact Kd.Q_nil _ _ _ _ _ | exact Kd.S_nil _ _ _ _ _, bwi_ HB (IsS110.ge HI239.out)⟩

end Go.Proofs.YtgnmlgoadkhceaaGreatDoor.QFnExactNewestSnap
