/- Written by this session's own program (wip/tpl/pp.py): what the law's functions come to, and that the machine's calls do just that. -/
import Derived.Test.YtgnmlgoadkhceaaDoorQFnExactSnapActsx0
import Derived.Test.YtgnmlgoadkhceaaDoorQFnExactSnapActsx1
import Derived.Test.YtgnmlgoadkhceaaDoorQFnExactSnapActsx2
namespace Go.Proofs.YtgnmlgoadkhceaaDoor.QFnExactSnapActs
open Go.RowKit Go.Proofs.YtgnmlgoadkhceaaDoorW.PrintWords Go.Proofs.YtgnmlgoadkhceaaDoorW.PrintLast Go.Proofs.YtgnmlgoadkhceaaDoorW.PrintMore
attribute [local go_sem] Go.Proofs.YtgnmlgoadkhceaaDoor.Sem.string_geq Go.Proofs.YtgnmlgoadkhceaaDoor.Sem.string_leq Go.Proofs.YtgnmlgoadkhceaaDoor.Sem.string_gtr
attribute [local go_sem] max2_int min2_int max_two min_two max_three min_three max_four min_four   -- for this text's walks alone
set_option linter.unusedVariables false
set_option linter.unusedSimpArgs false

/-! ### spec_SnapText: function 53 -/
def spec_SnapText.j0 : Nat → ByteArray → Bool → Int → Int → List Int → ByteArray → Option (ByteArray × Bool)
 | 0, _, _, _, _, _, _ => none
 | k + 1, x4, x32, x149000, x149001, x149002, x149003 => if x32 = true then (some ((⟨#[]⟩ : ByteArray), false)) else ((spec_l01Var.f k x149000).bind fun t153 => ((spec_l01Var.f k x149001).bind fun t154 => (if t153.size + t154.size ≤ 9223372036854775807 then ((spec_l05Short.f k x4).bind fun t155 => (if (t153 ++ t154).size + t155.size ≤ 9223372036854775807 then ((spec_l05Short.f k x149003).bind fun t156 => (if ((t153 ++ t154) ++ t155).size + t156.size ≤ 9223372036854775807 then (if (wrap64 (((((t153 ++ t154) ++ t155) ++ t156).size : Int) + 4)) > 20000 then (some ((⟨#[]⟩ : ByteArray), false)) else ((spec_Sealed.f k (((t153 ++ t154) ++ t155) ++ t156)).bind fun bt157 => (some (bt157.1, bt157.2)))) else (none))) else (none))) else (none))))
def spec_SnapText.f (k : Nat) (a0_0 : Int) (a0_1 : Int) (l0_2 : List Int) (a0_3 : ByteArray) : Option (ByteArray × Bool) := (spec_ConfText.f k l0_2).bind fun bt149 => (if bt149.2 = true then ((spec_l01In.f a0_0 0 1000000).bind fun t151 => (if t151 = true then ((spec_l01In.f a0_1 0 100000).bind fun t152 => (if t152 = true then (spec_SnapText.j0 k bt149.1 (decide ((a0_3.size : Int) > 20000)) a0_0 a0_1 l0_2 a0_3) else (spec_SnapText.j0 k bt149.1 true a0_0 a0_1 l0_2 a0_3))) else (spec_SnapText.j0 k bt149.1 true a0_0 a0_1 l0_2 a0_3))) else (spec_SnapText.j0 k bt149.1 true a0_0 a0_1 l0_2 a0_3))
theorem spec_SnapText.mono_l : ∀ k, (∀ y0 y1 y2 y3 y4 y5, LeO (spec_SnapText.j0 k y0 y1 y2 y3 y4 y5) (spec_SnapText.j0 (k + 1) y0 y1 y2 y3 y4 y5))
 | 0 => fun _ _ _ _ _ _ r h => by simp [spec_SnapText.j0] at h
 | k + 1 => by
  have ih0 := spec_SnapText.mono_l k
  ·intro y0 y1 y2 y3 y4 y5
   unfold spec_SnapText.j0
   repeat' first
   | (with_reducible exact ih0 _ _ _ _ _ _)
   | (with_reducible exact spec_ConfText.mono _ _)
   | (with_reducible exact spec_Sealed.mono _ _)
   | (with_reducible exact spec_l01Var.mono _ _)
   | (with_reducible exact spec_l05Short.mono _ _)
   | (with_reducible exact LeO.refl _)
   | (with_reducible exact LeO.none _)
   | (with_reducible refine LeO.ite ?_ ?_)
   | (with_reducible refine LeO.bind ?_ (fun _ => ?_))
   | exact ih0 _ _ _ _ _ _
   | exact spec_ConfText.mono _ _
   | exact spec_Sealed.mono _ _
   | exact spec_l01Var.mono _ _
   | exact spec_l05Short.mono _ _
   | exact LeO.none _
   | refine LeO.ite ?_ ?_
   | refine LeO.bind ?_ (fun _ => ?_)
theorem spec_SnapText.mono : ∀ a0 a1 a2 a3 k, LeO (spec_SnapText.f k a0 a1 a2 a3) (spec_SnapText.f (k + 1) a0 a1 a2 a3) := by
 intro a0 a1 a2 a3 k
 have ih0 := spec_SnapText.mono_l k
 unfold spec_SnapText.f
 repeat' first
   | (with_reducible exact ih0 _ _ _ _ _ _)
   | (with_reducible exact spec_ConfText.mono _ _)
   | (with_reducible exact spec_Sealed.mono _ _)
   | (with_reducible exact spec_l01Var.mono _ _)
   | (with_reducible exact spec_l05Short.mono _ _)
   | (with_reducible exact LeO.refl _)
   | (with_reducible exact LeO.none _)
   | (with_reducible refine LeO.ite ?_ ?_)
   | (with_reducible refine LeO.bind ?_ (fun _ => ?_))
   | exact ih0 _ _ _ _ _ _
   | exact spec_ConfText.mono _ _
   | exact spec_Sealed.mono _ _
   | exact spec_l01Var.mono _ _
   | exact spec_l05Short.mono _ _
   | exact LeO.none _
   | refine LeO.ite ?_ ?_
   | refine LeO.bind ?_ (fun _ => ?_)
def spec_SnapText.T4 : Bool × List (List Nat × List Nat) := (true, [([], []), ([0], [0]), ([1], [1]), ([], []), ([3], [3]), ([4, 2], [4]), ([2, 5], [2, 5]), ([], []), ([7, 5], [7]), ([6, 8], [6, 8]), ([], []), ([10], [10]), ([11, 8], [11]), ([9, 12], [9, 12]), ([13, 12, 0, 1, 2, 3, 4, 5, 6, 7, 8, 9, 10, 11, 12, 13], [13])])
def spec_SnapText.B4 : List Nat := [0, 1, 3, 0, 8, 31, 63, 0, 191, 511, 0, 1024, 3519, 8191, 16383]
theorem spec_SnapText.tab4 : rtab .any (opsOf Tryd.f53 4) = spec_SnapText.T4 := by kernel_rfl
theorem spec_SnapText.bits4 : waitsOk spec_SnapText.T4.2 spec_SnapText.B4 = true := by kernel_rfl
set_option maxHeartbeats 8000000 in
set_option maxRecDepth 100000 in
theorem spec_SnapText.calls (k : Nat) (a0_0 : Int) (a0_1 : Int) (A0_2 : Option Addr) (c0_2 : Nat) (l0_2 : List Int) (a0_3 : ByteArray) (r1 : ByteArray) (r2 : Bool) (w : World) (hr0_2 : Kd.C (Kd.int .i64) w A0_2 l0_2.length l0_2) (hc0_2 : l0_2.length ≤ c0_2) (h : spec_SnapText.f k a0_0 a0_1 l0_2 a0_3 = some (r1, r2)) :
  Calls Tryd.prog 53 #[.agg #[.int .i64 a0_0, .int .i64 a0_1, .slice A0_2 l0_2.length c0_2, .string a0_3]] w fun e w' => e = .returned (.tuple #[.string r1, .bool r2]) ∧ Below w.heap.size w w' := by
 have hu53 := Tryd.underlying53
 have HR0_2 := Aside0.mk hr0_2
 have HC0_2 := Aside0.mk hc0_2
 clear hr0_2 hc0_2
 have HB := mk_ (Below.refl w.heap.size w)
 have H : ((spec_ConfText.f k l0_2).bind fun bt149 => (if bt149.2 = true then ((spec_l01In.f a0_0 0 1000000).bind fun t151 => (if t151 = true then ((spec_l01In.f a0_1 0 100000).bind fun t152 => (if t152 = true then (spec_SnapText.j0 k bt149.1 (decide ((a0_3.size : Int) > 20000)) a0_0 a0_1 l0_2 a0_3) else (spec_SnapText.j0 k bt149.1 true a0_0 a0_1 l0_2 a0_3))) else (spec_SnapText.j0 k bt149.1 true a0_0 a0_1 l0_2 a0_3))) else (spec_SnapText.j0 k bt149.1 true a0_0 a0_1 l0_2 a0_3))) = some (r1, r2) := h
 clear h
 replace H := Option.bind_eq_some_iff.mp H
 obtain ⟨⟨t149, t150⟩, A20, H⟩ := H
 replace H : (if t150 = true then ((spec_l01In.f a0_0 0 1000000).bind fun t151 => (if t151 = true then ((spec_l01In.f a0_1 0 100000).bind fun t152 => (if t152 = true then (spec_SnapText.j0 k t149 (decide ((a0_3.size : Int) > 20000)) a0_0 a0_1 l0_2 a0_3) else (spec_SnapText.j0 k t149 true a0_0 a0_1 l0_2 a0_3))) else (spec_SnapText.j0 k t149 true a0_0 a0_1 l0_2 a0_3))) else (spec_SnapText.j0 k t149 true a0_0 a0_1 l0_2 a0_3)) = some (r1, r2) := H
 have A2 := Aside0.mk A20
 clear A20
 have HC3 := Aside0.mk H
 clear H
 go_enter Tryd.func53, Tryd.ntmps53
 go_upto_region 2 with (first | ((with_reducible refine gate_dst (N := 1) rfl ?_); (try (refine gate_guard (by rfl) ?_; dsimp only)); refine box_event ?hg (N := 1) ?hd (cs := #[.int .i64 a0_0, .int .i64 a0_1, .slice A0_2 l0_2.length c0_2, .string a0_3]) (t := 53) ?hr ?_; (case hd => rfl); (case hg => rfl); (case hr => first | (go_simp; done) | (go_simp; rfl)); intro gb148 hg w4 hbox hb; have BK148 := mk_ (hbox); have GW148 : Aside0 (w.heap.size ≤ gb148) := bz_ hg; have GE148 : Aside0 (w.heap.size ≤ gb148) := bz_ hg; replace HB := bs_ HB hb; clear hb hbox hg; have hcz5_0 : w4.cell? ⟨gb148, 0, none⟩ = some (.int .i64 a0_0) := bc_ BK148 0; have hcz5_1 : w4.cell? ⟨gb148, 1, none⟩ = some (.int .i64 a0_1) := bc_ BK148 1; have hcz5_2 : w4.cell? ⟨gb148, 2, none⟩ = some (.slice A0_2 l0_2.length c0_2) := bc_ BK148 2; have hcz5_3 : w4.cell? ⟨gb148, 3, none⟩ = some (.string a0_3) := bc_ BK148 3; have hfz5_0 := blk_frozen BK148.out 0; have hfz5_1 := blk_frozen BK148.out 1; have hfz5_2 := blk_frozen BK148.out 2; have hfz5_3 := blk_frozen BK148.out 3) | ((with_reducible refine gate_callee (f := 76) rfl ?_); refine goesL_ (some 10) rfl rfl Tryd.func76 (by kernel_rfl) rfl #[.slice A0_2 l0_2.length c0_2] rfl (by (try simp only [List.map_toArray, List.map_cons, List.map_nil]); first | done | rfl | (simp only [List.length_drop, List.length_take]; rfl)) ?_; (with_reducible refine (spec_ConfText.calls k _ _ l0_2 t149 t150 _ ?side1 ?side2 A2.out).mono ?_); (case side1 => repeat (first | exact (Kd.C_below HR0_2.out HB.out) | (with_reducible refine Kd.C_alloc ?_ _) | (with_reducible refine Kd.C_drewN ?_ _) | (with_reducible refine Kd.C_drew ?_))); (case side2 => exact HC0_2.out); rintro e w6 ⟨rfl, hb⟩; refine ⟨_, rfl, ?_⟩; replace BK148 := bb_ BK148 hb; replace HB := bs_ HB hb; (try clear hb)))
 (try simp only [Act.put, sia_, scz_, scs_])
 go_cut [32] (fun v32 wc => ∃ (kq : Nat) (x32_2 : Bool), v32 = .bool x32_2 ∧ Aside0 (spec_SnapText.j0 kq t149 x32_2 a0_0 a0_1 l0_2 a0_3 = some (r1, r2)) ∧ Aside0 (kq ≤ k) ∧ Aside0 (wc.heap[gb148]? = some (.cells #[.int .i64 a0_0, .int .i64 a0_1, (.slice A0_2 l0_2.length c0_2), .string a0_3] 53 (0, 0))) ∧ Aside0 (Below w.heap.size w wc))
 case first =>
  have H := HC3.out
  clear HC3
  by_cases c7 : t150 = true
  ·subst c7
   have H1 : ((spec_l01In.f a0_0 0 1000000).bind fun t151 => (if t151 = true then ((spec_l01In.f a0_1 0 100000).bind fun t152 => (if t152 = true then (spec_SnapText.j0 k t149 (decide ((a0_3.size : Int) > 20000)) a0_0 a0_1 l0_2 a0_3) else (spec_SnapText.j0 k t149 true a0_0 a0_1 l0_2 a0_3))) else (spec_SnapText.j0 k t149 true a0_0 a0_1 l0_2 a0_3))) = some (r1, r2) := by rw [if_pos rfl] at H; exact H
   clear H
   have H := H1
   clear H1
   replace H := Option.bind_eq_some_iff.mp H
   obtain ⟨t151, A80, H⟩ := H
   replace H : (if t151 = true then ((spec_l01In.f a0_1 0 100000).bind fun t152 => (if t152 = true then (spec_SnapText.j0 k t149 (decide ((a0_3.size : Int) > 20000)) a0_0 a0_1 l0_2 a0_3) else (spec_SnapText.j0 k t149 true a0_0 a0_1 l0_2 a0_3))) else (spec_SnapText.j0 k t149 true a0_0 a0_1 l0_2 a0_3)) = some (r1, r2) := H
   have A8 := Aside0.mk A80
   clear A80
   by_cases c9 : t151 = true
   ·subst c9
    have H1 : ((spec_l01In.f a0_1 0 100000).bind fun t152 => (if t152 = true then (spec_SnapText.j0 k t149 (decide ((a0_3.size : Int) > 20000)) a0_0 a0_1 l0_2 a0_3) else (spec_SnapText.j0 k t149 true a0_0 a0_1 l0_2 a0_3))) = some (r1, r2) := by rw [if_pos rfl] at H; exact H
    clear H
    have H := H1
    clear H1
    replace H := Option.bind_eq_some_iff.mp H
    obtain ⟨t152, A100, H⟩ := H
    replace H : (if t152 = true then (spec_SnapText.j0 k t149 (decide ((a0_3.size : Int) > 20000)) a0_0 a0_1 l0_2 a0_3) else (spec_SnapText.j0 k t149 true a0_0 a0_1 l0_2 a0_3)) = some (r1, r2) := H
    have A10 := Aside0.mk A100
    clear A100
    by_cases c11 : t152 = true
    ·subst c11
     have H1 : (spec_SnapText.j0 k t149 (decide ((a0_3.size : Int) > 20000)) a0_0 a0_1 l0_2 a0_3) = some (r1, r2) := by rw [if_pos rfl] at H; exact H
     clear H
     have H := H1
     clear H1
     have H' := Aside0.mk H
     clear H
     have hcz12_0 : w6.cell? ⟨gb148, 0, none⟩ = some (.int .i64 a0_0) := bc_ BK148 0
     have hcz12_1 : w6.cell? ⟨gb148, 1, none⟩ = some (.int .i64 a0_1) := bc_ BK148 1
     have hcz12_2 : w6.cell? ⟨gb148, 2, none⟩ = some (.slice A0_2 l0_2.length c0_2) := bc_ BK148 2
     have hcz12_3 : w6.cell? ⟨gb148, 3, none⟩ = some (.string a0_3) := bc_ BK148 3
     have hfz12_0 := blk_frozen BK148.out 0
     have hfz12_1 := blk_frozen BK148.out 1
     have hfz12_2 := blk_frozen BK148.out 2
     have hfz12_3 := blk_frozen BK148.out 3
     go_wp2_with (first | (go_at_call 41; (with_reducible refine (spec_l01In.calls a0_0 0 1000000 true _ A8.out).mono ?_); rintro e w' ⟨rfl, ⟨nd, rfl⟩⟩) | (go_at_call 41; (with_reducible refine (spec_l01In.calls a0_1 0 100000 true _ A10.out).mono ?_); rintro e w' ⟨rfl, ⟨nd, rfl⟩⟩))
     go_meet
     case rel => exact ⟨_, (decide ((a0_3.size : Int) > 20000)), (by first | rfl | (simp; done) | (simp [*]; done)), H', ⟨by first | omega | exact Nat.le_refl _⟩, ⟨by (with_reducible repeat (first | refine blk_drewN ?_ _ | refine blk_drew ?_ | refine blk_alloc ?_ _)); exact BK148.out⟩, ⟨by repeat (first | (with_reducible first | exact HB.out | apply below_alloc | apply pw_below_drewN | apply below_drew1 | refine below_set ?_ GE148.out) | exact HB.out)⟩⟩
    ·replace c11 := Bool.eq_false_iff.mpr c11
     subst c11
     have H1 : (spec_SnapText.j0 k t149 true a0_0 a0_1 l0_2 a0_3) = some (r1, r2) := by rw [if_neg (show ¬ (false = true) by decide)] at H; exact H
     clear H
     have H := H1
     clear H1
     have H' := Aside0.mk H
     clear H
     have hcz13_0 : w6.cell? ⟨gb148, 0, none⟩ = some (.int .i64 a0_0) := bc_ BK148 0
     have hcz13_1 : w6.cell? ⟨gb148, 1, none⟩ = some (.int .i64 a0_1) := bc_ BK148 1
     have hcz13_2 : w6.cell? ⟨gb148, 2, none⟩ = some (.slice A0_2 l0_2.length c0_2) := bc_ BK148 2
     have hcz13_3 : w6.cell? ⟨gb148, 3, none⟩ = some (.string a0_3) := bc_ BK148 3
     have hfz13_0 := blk_frozen BK148.out 0
     have hfz13_1 := blk_frozen BK148.out 1
     have hfz13_2 := blk_frozen BK148.out 2
     have hfz13_3 := blk_frozen BK148.out 3
     go_wp2_with (first | (go_at_call 41; (with_reducible refine (spec_l01In.calls a0_0 0 1000000 true _ A8.out).mono ?_); rintro e w' ⟨rfl, ⟨nd, rfl⟩⟩) | (go_at_call 41; (with_reducible refine (spec_l01In.calls a0_1 0 100000 false _ A10.out).mono ?_); rintro e w' ⟨rfl, ⟨nd, rfl⟩⟩))
     go_meet
     case rel => exact ⟨_, (true), (by first | rfl | (simp; done) | (simp [*]; done)), H', ⟨by first | omega | exact Nat.le_refl _⟩, ⟨by (with_reducible repeat (first | refine blk_drewN ?_ _ | refine blk_drew ?_ | refine blk_alloc ?_ _)); exact BK148.out⟩, ⟨by repeat (first | (with_reducible first | exact HB.out | apply below_alloc | apply pw_below_drewN | apply below_drew1 | refine below_set ?_ GE148.out) | exact HB.out)⟩⟩
   ·replace c9 := Bool.eq_false_iff.mpr c9
    subst c9
    have H1 : (spec_SnapText.j0 k t149 true a0_0 a0_1 l0_2 a0_3) = some (r1, r2) := by rw [if_neg (show ¬ (false = true) by decide)] at H; exact H
    clear H
    have H := H1
    clear H1
    have H' := Aside0.mk H
    clear H
    have hcz14_0 : w6.cell? ⟨gb148, 0, none⟩ = some (.int .i64 a0_0) := bc_ BK148 0
    have hcz14_1 : w6.cell? ⟨gb148, 1, none⟩ = some (.int .i64 a0_1) := bc_ BK148 1
    have hcz14_2 : w6.cell? ⟨gb148, 2, none⟩ = some (.slice A0_2 l0_2.length c0_2) := bc_ BK148 2
    have hcz14_3 : w6.cell? ⟨gb148, 3, none⟩ = some (.string a0_3) := bc_ BK148 3
    have hfz14_0 := blk_frozen BK148.out 0
    have hfz14_1 := blk_frozen BK148.out 1
    have hfz14_2 := blk_frozen BK148.out 2
    have hfz14_3 := blk_frozen BK148.out 3
    go_wp2_with (first | (go_at_call 41; (with_reducible refine (spec_l01In.calls a0_0 0 1000000 false _ A8.out).mono ?_); rintro e w' ⟨rfl, ⟨nd, rfl⟩⟩))
    go_meet
    case rel => exact ⟨_, (true), (by first | rfl | (simp; done) | (simp [*]; done)), H', ⟨by first | omega | exact Nat.le_refl _⟩, ⟨by (with_reducible repeat (first | refine blk_drewN ?_ _ | refine blk_drew ?_ | refine blk_alloc ?_ _)); exact BK148.out⟩, ⟨by repeat (first | (with_reducible first | exact HB.out | apply below_alloc | apply pw_below_drewN | apply below_drew1 | refine below_set ?_ GE148.out) | exact HB.out)⟩⟩
  ·replace c7 := Bool.eq_false_iff.mpr c7
   subst c7
   have H1 : (spec_SnapText.j0 k t149 true a0_0 a0_1 l0_2 a0_3) = some (r1, r2) := by rw [if_neg (show ¬ (false = true) by decide)] at H; exact H
   clear H
   have H := H1
   clear H1
   have H' := Aside0.mk H
   clear H
   go_wp2
   go_meet
   case rel => exact ⟨_, (true), (by first | rfl | (simp; done) | (simp [*]; done)), H', ⟨by first | omega | exact Nat.le_refl _⟩, ⟨by (with_reducible repeat (first | refine blk_drewN ?_ _ | refine blk_drew ?_ | refine blk_alloc ?_ _)); exact BK148.out⟩, ⟨by repeat (first | (with_reducible first | exact HB.out | apply below_alloc | apply pw_below_drewN | apply below_drew1 | refine below_set ?_ GE148.out) | exact HB.out)⟩⟩
 case rest =>
  clear HC3
  try clear c1
  try clear p2
  try clear c5
  try clear c7
  try clear c9
  try clear c11
  try clear hcz12_0
  try clear hcz12_1
  try clear hcz12_2
  try clear hcz12_3
  try clear hcz13_0
  try clear hcz13_1
  try clear hcz13_2
  try clear hcz13_3
  try clear hcz14_0
  try clear hcz14_1
  try clear hcz14_2
  try clear hcz14_3
  try clear hcz5_0
  try clear hcz5_1
  try clear hcz5_2
  try clear hcz5_3
  try clear hfz12_0
  try clear hfz12_1
  try clear hfz12_2
  try clear hfz12_3
  try clear hfz13_0
  try clear hfz13_1
  try clear hfz13_2
  try clear hfz13_3
  try clear hfz14_0
  try clear hfz14_1
  try clear hfz14_2
  try clear hfz14_3
  try clear hfz5_0
  try clear hfz5_1
  try clear hfz5_2
  try clear hfz5_3
  obtain ⟨kq, x32_2, rfl, HA, HJ2, BK148, HB⟩ := hcut
  cases kq with
  | zero => exact absurd HA.out (by simp [spec_SnapText.j0])
  | succ kj2 =>
   have H := HA.out
   clear HA
   simp only [spec_SnapText.j0] at H
   by_cases c15 : x32_2 = true
   ·subst c15
    have H1 : (some ((⟨#[]⟩ : ByteArray), false)) = some (r1, r2) := by rw [if_pos rfl] at H; exact H
    clear H
    have H := H1
    clear H1
    simp only [Option.some.injEq, Prod.mk.injEq] at H
    obtain ⟨rfl, rfl⟩ := H
    go_wp2
    go_ret2
    exact ⟨by first | rfl | (simp [errW_none, errW_some] <;> rfl) | (simp [*, errW_none, errW_some] <;> rfl), by repeat (first | (with_reducible first | exact HB.out | apply below_alloc | apply pw_below_drewN | apply below_drew1 | refine below_set ?_ GE148.out) | exact HB.out)⟩
   ·replace c15 := Bool.eq_false_iff.mpr c15
    subst c15
    have H1 : ((spec_l01Var.f kj2 a0_0).bind fun t153 => ((spec_l01Var.f kj2 a0_1).bind fun t154 => (if t153.size + t154.size ≤ 9223372036854775807 then ((spec_l05Short.f kj2 t149).bind fun t155 => (if (t153 ++ t154).size + t155.size ≤ 9223372036854775807 then ((spec_l05Short.f kj2 a0_3).bind fun t156 => (if ((t153 ++ t154) ++ t155).size + t156.size ≤ 9223372036854775807 then (if (wrap64 (((((t153 ++ t154) ++ t155) ++ t156).size : Int) + 4)) > 20000 then (some ((⟨#[]⟩ : ByteArray), false)) else ((spec_Sealed.f kj2 (((t153 ++ t154) ++ t155) ++ t156)).bind fun bt157 => (some (bt157.1, bt157.2)))) else (none))) else (none))) else (none)))) = some (r1, r2) := by rw [if_neg (show ¬ (false = true) by decide)] at H; exact H
    clear H
    have H := H1
    clear H1
    replace H := Option.bind_eq_some_iff.mp H
    obtain ⟨t153, A160, H⟩ := H
    replace H : ((spec_l01Var.f kj2 a0_1).bind fun t154 => (if t153.size + t154.size ≤ 9223372036854775807 then ((spec_l05Short.f kj2 t149).bind fun t155 => (if (t153 ++ t154).size + t155.size ≤ 9223372036854775807 then ((spec_l05Short.f kj2 a0_3).bind fun t156 => (if ((t153 ++ t154) ++ t155).size + t156.size ≤ 9223372036854775807 then (if (wrap64 (((((t153 ++ t154) ++ t155) ++ t156).size : Int) + 4)) > 20000 then (some ((⟨#[]⟩ : ByteArray), false)) else ((spec_Sealed.f kj2 (((t153 ++ t154) ++ t155) ++ t156)).bind fun bt157 => (some (bt157.1, bt157.2)))) else (none))) else (none))) else (none))) = some (r1, r2) := H
    have A16 := Aside0.mk A160
    clear A160
    replace H := Option.bind_eq_some_iff.mp H
    obtain ⟨t154, A170, H⟩ := H
    replace H : (if t153.size + t154.size ≤ 9223372036854775807 then ((spec_l05Short.f kj2 t149).bind fun t155 => (if (t153 ++ t154).size + t155.size ≤ 9223372036854775807 then ((spec_l05Short.f kj2 a0_3).bind fun t156 => (if ((t153 ++ t154) ++ t155).size + t156.size ≤ 9223372036854775807 then (if (wrap64 (((((t153 ++ t154) ++ t155) ++ t156).size : Int) + 4)) > 20000 then (some ((⟨#[]⟩ : ByteArray), false)) else ((spec_Sealed.f kj2 (((t153 ++ t154) ++ t155) ++ t156)).bind fun bt157 => (some (bt157.1, bt157.2)))) else (none))) else (none))) else (none)) = some (r1, r2) := H
    have A17 := Aside0.mk A170
    clear A170
    by_cases c18 : t153.size + t154.size ≤ 9223372036854775807
    ·rw [if_pos c18] at H
     have c18b0 := eq_true c18
     have c18b1 : decide (t153.size + t154.size ≤ 9223372036854775807) = true := decide_eq_true c18
     try have c18b2 : (9223372036854775807 < t153.size + t154.size) = False := eq_false (Nat.not_lt.2 c18)
     replace H := Option.bind_eq_some_iff.mp H
     obtain ⟨t155, A190, H⟩ := H
     replace H : (if (t153 ++ t154).size + t155.size ≤ 9223372036854775807 then ((spec_l05Short.f kj2 a0_3).bind fun t156 => (if ((t153 ++ t154) ++ t155).size + t156.size ≤ 9223372036854775807 then (if (wrap64 (((((t153 ++ t154) ++ t155) ++ t156).size : Int) + 4)) > 20000 then (some ((⟨#[]⟩ : ByteArray), false)) else ((spec_Sealed.f kj2 (((t153 ++ t154) ++ t155) ++ t156)).bind fun bt157 => (some (bt157.1, bt157.2)))) else (none))) else (none)) = some (r1, r2) := H
     have A19 := Aside0.mk A190
     clear A190
     by_cases c20 : (t153 ++ t154).size + t155.size ≤ 9223372036854775807
     ·rw [if_pos c20] at H
      have c20b0 := eq_true c20
      have c20b1 : decide ((t153 ++ t154).size + t155.size ≤ 9223372036854775807) = true := decide_eq_true c20
      try have c20b2 : (9223372036854775807 < (t153 ++ t154).size + t155.size) = False := eq_false (Nat.not_lt.2 c20)
      have c20x0 : (9223372036854775807 < t153.size + t154.size + t155.size) = False := eq_false (by have h_ := c20; simp only [ByteArray.size_append] at h_; exact Nat.not_lt.2 h_)
      replace H := Option.bind_eq_some_iff.mp H
      obtain ⟨t156, A210, H⟩ := H
      replace H : (if ((t153 ++ t154) ++ t155).size + t156.size ≤ 9223372036854775807 then (if (wrap64 (((((t153 ++ t154) ++ t155) ++ t156).size : Int) + 4)) > 20000 then (some ((⟨#[]⟩ : ByteArray), false)) else ((spec_Sealed.f kj2 (((t153 ++ t154) ++ t155) ++ t156)).bind fun bt157 => (some (bt157.1, bt157.2)))) else (none)) = some (r1, r2) := H
      have A21 := Aside0.mk A210
      clear A210
      by_cases c22 : ((t153 ++ t154) ++ t155).size + t156.size ≤ 9223372036854775807
      ·rw [if_pos c22] at H
       have c22b0 := eq_true c22
       have c22b1 : decide (((t153 ++ t154) ++ t155).size + t156.size ≤ 9223372036854775807) = true := decide_eq_true c22
       try have c22b2 : (9223372036854775807 < ((t153 ++ t154) ++ t155).size + t156.size) = False := eq_false (Nat.not_lt.2 c22)
       have c22x0 : (9223372036854775807 < t153.size + t154.size + t155.size + t156.size) = False := eq_false (by have h_ := c22; simp only [ByteArray.size_append] at h_; exact Nat.not_lt.2 h_)
       by_cases c23 : (wrap64 (((((t153 ++ t154) ++ t155) ++ t156).size : Int) + 4)) > 20000
       ·rw [if_pos c23] at H
        have c23b0 : decide (20000 < (wrap64 (((((t153 ++ t154) ++ t155) ++ t156).size : Int) + 4))) = true := decide_eq_true c23
        try have c23y0 : decide (20000 < (wrap64 (((t153.size : Int) + (t154.size : Int) + (t155.size : Int) + (t156.size : Int)) + 4))) = true := by simpa only [ByteArray.size_append, Int.natCast_add] using c23b0
        clear c23
        simp only [Option.some.injEq, Prod.mk.injEq] at H
        obtain ⟨rfl, rfl⟩ := H
        try go_wp2
        have n0_ := mk_ (blk_drew BK148.out)
        have n1_ := mk_ (below_drew1 HB.out)
        clear BK148; clear HB; have BK148 := n0_; have HB := n1_; clear n0_ n1_
        refine start_ (n := 15) (S := fun w' => w'.cell? ⟨gb148, 0, none⟩ = some (.int .i64 a0_0) ∧ w'.cell? ⟨gb148, 1, none⟩ = some (.int .i64 a0_1) ∧ w'.cell? ⟨gb148, 2, none⟩ = some (.slice A0_2 l0_2.length c0_2) ∧ w'.cell? ⟨gb148, 3, none⟩ = some (.string a0_3)) (ds := []) #[false, false, false, false, false, false, false, false, false, false, false, false, false, false, false] (by kernel_rfl) rfl rfl ⟨bc_ BK148 0, bc_ BK148 1, bc_ BK148 2, bc_ BK148 3⟩ (fun hHeld => ?_); refine with_tabW spec_SnapText.tab4 spec_SnapText.bits4 (fun HT_ HW_ => ?_)
        generalize wc.drew = w24 at BK148 HB hHeld ⊢
        refine pure_ (i := 0) (N := some 33) (v := ?_) (a' := ?_) #[true, false, false, false, false, false, false, false, false, false, false, false, false, false, false] rfl rfl (any_of HT_.out (by kernel_rfl)) (fun _ _ _ h => h) (Or.inl ⟨by rfl, ?_⟩) ?_ ?_
        rotate_left
        ·intro w'
         go_simp
         with_reducible rfl
        rotate_left
        ·simp only [Act.put, sia_, scz_, scs_, i64_w, i32_w]
         rfl
        refine pure_ (i := 3) (N := some 36) (v := ?_) (a' := ?_) #[true, false, false, true, false, false, false, false, false, false, false, false, false, false, false] rfl rfl (any_of HT_.out (by kernel_rfl)) (fun _ _ _ h => h) (Or.inl ⟨by rfl, ?_⟩) ?_ ?_
        rotate_left
        ·intro w'
         go_simp
         with_reducible rfl
        rotate_left
        ·simp only [Act.put, sia_, scz_, scs_, i64_w, i32_w]
         rfl
        refine pure_ (i := 7) (N := some 40) (v := ?_) (a' := ?_) #[true, false, false, true, false, false, false, true, false, false, false, false, false, false, false] rfl rfl (any_of HT_.out (by kernel_rfl)) (fun _ _ _ h => h) (Or.inl ⟨by rfl, ?_⟩) ?_ ?_
        rotate_left
        ·intro w'
         go_simp
         with_reducible rfl
        rotate_left
        ·simp only [Act.put, sia_, scz_, scs_, i64_w, i32_w]
         rfl
        refine pure_ (i := 10) (N := some 43) (v := ?_) (a' := ?_) #[true, false, false, true, false, false, false, true, false, false, true, false, false, false, false] rfl rfl (any_of HT_.out (by kernel_rfl)) (fun _ _ _ h => h) (Or.inl ⟨by rfl, ?_⟩) ?_ ?_
        rotate_left
        ·intro w'
         go_simp
         with_reducible rfl
        rotate_left
        ·simp only [Act.put, sia_, scz_, scs_, i64_w, i32_w]
         rfl
        refine take_ (i := 1) (N := some 34) (v := ?_) (a' := ?_) #[true, true, false, true, false, false, false, true, false, false, true, false, false, false, false] rfl rfl (take_ofW HT_.out HW_.out (by kernel_rfl)) (fun _ _ _ h => h) (Or.inl ⟨by rfl, ?_⟩) hHeld ?_ ?_
        rotate_left
        ·rintro w' ⟨s0, s1, s2, s3⟩
         go_simp
         with_reducible rfl
        rotate_left
        ·simp only [Act.put, sia_, scz_, scs_, i64_w, i32_w]
         rfl
        refine take_ (i := 4) (N := some 37) (v := ?_) (a' := ?_) #[true, true, false, true, true, false, false, true, false, false, true, false, false, false, false] rfl rfl (take_ofW HT_.out HW_.out (by kernel_rfl)) (fun _ _ _ h => h) (Or.inl ⟨by rfl, ?_⟩) hHeld ?_ ?_
        rotate_left
        ·rintro w' ⟨s0, s1, s2, s3⟩
         go_simp
         with_reducible rfl
        rotate_left
        ·simp only [Act.put, sia_, scz_, scs_, i64_w, i32_w]
         rfl
        refine take_ (i := 11) (N := some 44) (v := ?_) (a' := ?_) #[true, true, false, true, true, false, false, true, false, false, true, true, false, false, false] rfl rfl (take_ofW HT_.out HW_.out (by kernel_rfl)) (fun _ _ _ h => h) (Or.inl ⟨by rfl, ?_⟩) hHeld ?_ ?_
        rotate_left
        ·rintro w' ⟨s0, s1, s2, s3⟩
         go_simp
         with_reducible rfl
        rotate_left
        ·simp only [Act.put, sia_, scz_, scs_, i64_w, i32_w]
         rfl
        refine one_ (i := 2) (N := some 35) #[true, true, true, true, true, false, false, true, false, false, true, true, false, false, false] rfl rfl (one_of HT_.out (by kernel_rfl)) (by decide) (fun K hK => ?_)
        refine goes_ Tryd.func77 (by kernel_rfl) rfl #[.int .i64 a0_0] (by rfl) rfl rfl (by (try simp only [List.map_toArray, List.map_cons, List.map_nil]); first | done | rfl | (simp only [List.length_drop, List.length_take]; rfl)) ?_
        with_reducible refine (spec_l01Var.calls kj2 a0_0 t153 _ A16.out).mono ?_
        rintro e w25 ⟨rfl, hb⟩
        refine ⟨_, rfl, ?_⟩
        have n0_ := bb_ BK148 hb
        have n1_ := bs_ HB hb
        clear BK148; clear HB; have BK148 := n0_; have HB := n1_; clear n0_ n1_; (try clear hb); (try clear hb2); (try clear hk); (try clear hi)
        refine hK.out _ _ ⟨bc_ BK148 0, bc_ BK148 1, bc_ BK148 2, bc_ BK148 3⟩ (fun hHeld => ?_)
        clear hK K
        refine norm_ (a' := ?_) ?_ ?_
        rotate_left
        ·show Act.put _ (some 35) _ = _
         simp only [Act.put, sia_, scz_, scs_, i64_w, i32_w]
         rfl
        refine one_ (i := 5) (N := some 38) #[true, true, true, true, true, true, false, true, false, false, true, true, false, false, false] rfl rfl (one_of HT_.out (by kernel_rfl)) (by decide) (fun K hK => ?_)
        refine goes_ Tryd.func77 (by kernel_rfl) rfl #[.int .i64 a0_1] (by rfl) rfl rfl (by (try simp only [List.map_toArray, List.map_cons, List.map_nil]); first | done | rfl | (simp only [List.length_drop, List.length_take]; rfl)) ?_
        with_reducible refine (spec_l01Var.calls kj2 a0_1 t154 _ A17.out).mono ?_
        rintro e w26 ⟨rfl, hb⟩
        refine ⟨_, rfl, ?_⟩
        have n0_ := bb_ BK148 hb
        have n1_ := bs_ HB hb
        clear BK148; clear HB; have BK148 := n0_; have HB := n1_; clear n0_ n1_; (try clear hb); (try clear hb2); (try clear hk); (try clear hi)
        refine hK.out _ _ ⟨bc_ BK148 0, bc_ BK148 1, bc_ BK148 2, bc_ BK148 3⟩ (fun hHeld => ?_)
        clear hK K
        refine norm_ (a' := ?_) ?_ ?_
        rotate_left
        ·show Act.put _ (some 38) _ = _
         simp only [Act.put, sia_, scz_, scs_, i64_w, i32_w]
         rfl
        refine pure_ (i := 6) (N := some 39) (v := ?_) (a' := ?_) #[true, true, true, true, true, true, true, true, false, false, true, true, false, false, false] rfl rfl (any_of HT_.out (by kernel_rfl)) (fun _ _ _ h => h) (Or.inl ⟨by rfl, ?_⟩) ?_ ?_
        rotate_left
        ·intro w'
         go_simp
         with_reducible rfl
        rotate_left
        ·simp only [Act.put, sia_, scz_, scs_, i64_w, i32_w]
         rfl
        refine one_ (i := 8) (N := some 41) #[true, true, true, true, true, true, true, true, true, false, true, true, false, false, false] rfl rfl (one_of HT_.out (by kernel_rfl)) (by decide) (fun K hK => ?_)
        refine goes_ Tryd.func78 (by kernel_rfl) rfl #[.string t149] (by rfl) rfl rfl (by (try simp only [List.map_toArray, List.map_cons, List.map_nil]); first | done | rfl | (simp only [List.length_drop, List.length_take]; rfl)) ?_
        with_reducible refine (spec_l05Short.calls kj2 t149 t155 _ A19.out).mono ?_
        rintro e w27 ⟨rfl, hb⟩
        refine ⟨_, rfl, ?_⟩
        have n0_ := bb_ BK148 hb
        have n1_ := bs_ HB hb
        clear BK148; clear HB; have BK148 := n0_; have HB := n1_; clear n0_ n1_; (try clear hb); (try clear hb2); (try clear hk); (try clear hi)
        refine hK.out _ _ ⟨bc_ BK148 0, bc_ BK148 1, bc_ BK148 2, bc_ BK148 3⟩ (fun hHeld => ?_)
        clear hK K
        refine norm_ (a' := ?_) ?_ ?_
        rotate_left
        ·show Act.put _ (some 41) _ = _
         simp only [Act.put, sia_, scz_, scs_, i64_w, i32_w]
         rfl
        refine pure_ (i := 9) (N := some 42) (v := ?_) (a' := ?_) #[true, true, true, true, true, true, true, true, true, true, true, true, false, false, false] rfl rfl (any_of HT_.out (by kernel_rfl)) (fun _ _ _ h => h) (Or.inl ⟨by rfl, ?_⟩) ?_ ?_
        rotate_left
        ·intro w'
         go_simp
         with_reducible rfl
        rotate_left
        ·simp only [Act.put, sia_, scz_, scs_, i64_w, i32_w]
         rfl
        refine one_ (i := 12) (N := some 45) #[true, true, true, true, true, true, true, true, true, true, true, true, true, false, false] rfl rfl (one_of HT_.out (by kernel_rfl)) (by decide) (fun K hK => ?_)
        refine goes_ Tryd.func78 (by kernel_rfl) rfl #[.string a0_3] (by rfl) rfl rfl (by (try simp only [List.map_toArray, List.map_cons, List.map_nil]); first | done | rfl | (simp only [List.length_drop, List.length_take]; rfl)) ?_
        with_reducible refine (spec_l05Short.calls kj2 a0_3 t156 _ A21.out).mono ?_
        rintro e w28 ⟨rfl, hb⟩
        refine ⟨_, rfl, ?_⟩
        have n0_ := bb_ BK148 hb
        have n1_ := bs_ HB hb
        clear BK148; clear HB; have BK148 := n0_; have HB := n1_; clear n0_ n1_; (try clear hb); (try clear hb2); (try clear hk); (try clear hi)
        refine hK.out _ _ ⟨bc_ BK148 0, bc_ BK148 1, bc_ BK148 2, bc_ BK148 3⟩ (fun hHeld => ?_)
        clear hK K
        refine norm_ (a' := ?_) ?_ ?_
        rotate_left
        ·show Act.put _ (some 45) _ = _
         simp only [Act.put, sia_, scz_, scs_, i64_w, i32_w]
         rfl
        refine pure_ (i := 13) (N := some 46) (v := ?_) (a' := ?_) #[true, true, true, true, true, true, true, true, true, true, true, true, true, true, false] rfl rfl (any_of HT_.out (by kernel_rfl)) (fun _ _ _ h => h) (Or.inl ⟨by rfl, ?_⟩) ?_ ?_
        rotate_left
        ·intro w'
         go_simp
         with_reducible rfl
        rotate_left
        ·simp only [Act.put, sia_, scz_, scs_, i64_w, i32_w]
         rfl
        refine pure_ (i := 14) (N := some 6) (v := ?_) (a' := ?_) #[true, true, true, true, true, true, true, true, true, true, true, true, true, true, true] rfl rfl (any_of HT_.out (by kernel_rfl)) (fun _ _ _ h => h) (Or.inl ⟨by rfl, ?_⟩) ?_ ?_
        rotate_left
        ·intro w'
         go_simp
         with_reducible rfl
        rotate_left
        ·simp only [Act.put, sia_, scz_, scs_, i64_w, i32_w]
         rfl
        refine done_ (done_of HT_.out (by kernel_rfl)) ?_
        try go_wp2
        go_ret2
        exact ⟨by first | rfl | (simp [errW_none, errW_some] <;> rfl) | (simp [*, errW_none, errW_some] <;> rfl), by repeat (first | (with_reducible first | exact HB.out | apply below_alloc | apply pw_below_drewN | apply below_drew1 | refine below_set ?_ GE148.out) | exact HB.out)⟩
       ·rw [if_neg c23] at H
        have c23b0 : decide (20000 < (wrap64 (((((t153 ++ t154) ++ t155) ++ t156).size : Int) + 4))) = false := decide_eq_false c23
        try have c23y0 : decide (20000 < (wrap64 (((t153.size : Int) + (t154.size : Int) + (t155.size : Int) + (t156.size : Int)) + 4))) = false := by simpa only [ByteArray.size_append, Int.natCast_add] using c23b0
        clear c23
        replace H := Option.bind_eq_some_iff.mp H
        obtain ⟨⟨t157, t158⟩, A290, H⟩ := H
        replace H : (some (t157, t158)) = some (r1, r2) := H
        have A29 := Aside0.mk A290
        clear A290
        simp only [Option.some.injEq, Prod.mk.injEq] at H
        obtain ⟨rfl, rfl⟩ := H
        try go_wp2
        have n0_ := mk_ (blk_drew BK148.out)
        have n1_ := mk_ (below_drew1 HB.out)
        clear BK148; clear HB; have BK148 := n0_; have HB := n1_; clear n0_ n1_
        refine start_ (n := 15) (S := fun w' => w'.cell? ⟨gb148, 0, none⟩ = some (.int .i64 a0_0) ∧ w'.cell? ⟨gb148, 1, none⟩ = some (.int .i64 a0_1) ∧ w'.cell? ⟨gb148, 2, none⟩ = some (.slice A0_2 l0_2.length c0_2) ∧ w'.cell? ⟨gb148, 3, none⟩ = some (.string a0_3)) (ds := []) #[false, false, false, false, false, false, false, false, false, false, false, false, false, false, false] (by kernel_rfl) rfl rfl ⟨bc_ BK148 0, bc_ BK148 1, bc_ BK148 2, bc_ BK148 3⟩ (fun hHeld => ?_); refine with_tabW spec_SnapText.tab4 spec_SnapText.bits4 (fun HT_ HW_ => ?_)
        generalize wc.drew = w30 at BK148 HB hHeld ⊢
        refine pure_ (i := 0) (N := some 33) (v := ?_) (a' := ?_) #[true, false, false, false, false, false, false, false, false, false, false, false, false, false, false] rfl rfl (any_of HT_.out (by kernel_rfl)) (fun _ _ _ h => h) (Or.inl ⟨by rfl, ?_⟩) ?_ ?_
        rotate_left
        ·intro w'
         go_simp
         with_reducible rfl
        rotate_left
        ·simp only [Act.put, sia_, scz_, scs_, i64_w, i32_w]
         rfl
        refine pure_ (i := 3) (N := some 36) (v := ?_) (a' := ?_) #[true, false, false, true, false, false, false, false, false, false, false, false, false, false, false] rfl rfl (any_of HT_.out (by kernel_rfl)) (fun _ _ _ h => h) (Or.inl ⟨by rfl, ?_⟩) ?_ ?_
        rotate_left
        ·intro w'
         go_simp
         with_reducible rfl
        rotate_left
        ·simp only [Act.put, sia_, scz_, scs_, i64_w, i32_w]
         rfl
        refine pure_ (i := 7) (N := some 40) (v := ?_) (a' := ?_) #[true, false, false, true, false, false, false, true, false, false, false, false, false, false, false] rfl rfl (any_of HT_.out (by kernel_rfl)) (fun _ _ _ h => h) (Or.inl ⟨by rfl, ?_⟩) ?_ ?_
        rotate_left
        ·intro w'
         go_simp
         with_reducible rfl
        rotate_left
        ·simp only [Act.put, sia_, scz_, scs_, i64_w, i32_w]
         rfl
        refine pure_ (i := 10) (N := some 43) (v := ?_) (a' := ?_) #[true, false, false, true, false, false, false, true, false, false, true, false, false, false, false] rfl rfl (any_of HT_.out (by kernel_rfl)) (fun _ _ _ h => h) (Or.inl ⟨by rfl, ?_⟩) ?_ ?_
        rotate_left
        ·intro w'
         go_simp
         with_reducible rfl
        rotate_left
        ·simp only [Act.put, sia_, scz_, scs_, i64_w, i32_w]
         rfl
        refine take_ (i := 1) (N := some 34) (v := ?_) (a' := ?_) #[true, true, false, true, false, false, false, true, false, false, true, false, false, false, false] rfl rfl (take_ofW HT_.out HW_.out (by kernel_rfl)) (fun _ _ _ h => h) (Or.inl ⟨by rfl, ?_⟩) hHeld ?_ ?_
        rotate_left
        ·rintro w' ⟨s0, s1, s2, s3⟩
         go_simp
         with_reducible rfl
        rotate_left
        ·simp only [Act.put, sia_, scz_, scs_, i64_w, i32_w]
         rfl
        refine take_ (i := 4) (N := some 37) (v := ?_) (a' := ?_) #[true, true, false, true, true, false, false, true, false, false, true, false, false, false, false] rfl rfl (take_ofW HT_.out HW_.out (by kernel_rfl)) (fun _ _ _ h => h) (Or.inl ⟨by rfl, ?_⟩) hHeld ?_ ?_
        rotate_left
        ·rintro w' ⟨s0, s1, s2, s3⟩
         go_simp
         with_reducible rfl
        rotate_left
        ·simp only [Act.put, sia_, scz_, scs_, i64_w, i32_w]
         rfl
        refine take_ (i := 11) (N := some 44) (v := ?_) (a' := ?_) #[true, true, false, true, true, false, false, true, false, false, true, true, false, false, false] rfl rfl (take_ofW HT_.out HW_.out (by kernel_rfl)) (fun _ _ _ h => h) (Or.inl ⟨by rfl, ?_⟩) hHeld ?_ ?_
        rotate_left
        ·rintro w' ⟨s0, s1, s2, s3⟩
         go_simp
         with_reducible rfl
        rotate_left
        ·simp only [Act.put, sia_, scz_, scs_, i64_w, i32_w]
         rfl
        refine one_ (i := 2) (N := some 35) #[true, true, true, true, true, false, false, true, false, false, true, true, false, false, false] rfl rfl (one_of HT_.out (by kernel_rfl)) (by decide) (fun K hK => ?_)
        refine goes_ Tryd.func77 (by kernel_rfl) rfl #[.int .i64 a0_0] (by rfl) rfl rfl (by (try simp only [List.map_toArray, List.map_cons, List.map_nil]); first | done | rfl | (simp only [List.length_drop, List.length_take]; rfl)) ?_
        with_reducible refine (spec_l01Var.calls kj2 a0_0 t153 _ A16.out).mono ?_
        rintro e w31 ⟨rfl, hb⟩
        refine ⟨_, rfl, ?_⟩
        have n0_ := bb_ BK148 hb
        have n1_ := bs_ HB hb
        clear BK148; clear HB; have BK148 := n0_; have HB := n1_; clear n0_ n1_; (try clear hb); (try clear hb2); (try clear hk); (try clear hi)
        refine hK.out _ _ ⟨bc_ BK148 0, bc_ BK148 1, bc_ BK148 2, bc_ BK148 3⟩ (fun hHeld => ?_)
        clear hK K
        refine norm_ (a' := ?_) ?_ ?_
        rotate_left
        ·show Act.put _ (some 35) _ = _
         simp only [Act.put, sia_, scz_, scs_, i64_w, i32_w]
         rfl
        refine one_ (i := 5) (N := some 38) #[true, true, true, true, true, true, false, true, false, false, true, true, false, false, false] rfl rfl (one_of HT_.out (by kernel_rfl)) (by decide) (fun K hK => ?_)
        refine goes_ Tryd.func77 (by kernel_rfl) rfl #[.int .i64 a0_1] (by rfl) rfl rfl (by (try simp only [List.map_toArray, List.map_cons, List.map_nil]); first | done | rfl | (simp only [List.length_drop, List.length_take]; rfl)) ?_
        with_reducible refine (spec_l01Var.calls kj2 a0_1 t154 _ A17.out).mono ?_
        rintro e w32 ⟨rfl, hb⟩
        refine ⟨_, rfl, ?_⟩
        have n0_ := bb_ BK148 hb
        have n1_ := bs_ HB hb
        clear BK148; clear HB; have BK148 := n0_; have HB := n1_; clear n0_ n1_; (try clear hb); (try clear hb2); (try clear hk); (try clear hi)
        refine hK.out _ _ ⟨bc_ BK148 0, bc_ BK148 1, bc_ BK148 2, bc_ BK148 3⟩ (fun hHeld => ?_)
        clear hK K
        refine norm_ (a' := ?_) ?_ ?_
        rotate_left
        ·show Act.put _ (some 38) _ = _
         simp only [Act.put, sia_, scz_, scs_, i64_w, i32_w]
         rfl
        refine pure_ (i := 6) (N := some 39) (v := ?_) (a' := ?_) #[true, true, true, true, true, true, true, true, false, false, true, true, false, false, false] rfl rfl (any_of HT_.out (by kernel_rfl)) (fun _ _ _ h => h) (Or.inl ⟨by rfl, ?_⟩) ?_ ?_
        rotate_left
        ·intro w'
         go_simp
         with_reducible rfl
        rotate_left
        ·simp only [Act.put, sia_, scz_, scs_, i64_w, i32_w]
         rfl
        refine one_ (i := 8) (N := some 41) #[true, true, true, true, true, true, true, true, true, false, true, true, false, false, false] rfl rfl (one_of HT_.out (by kernel_rfl)) (by decide) (fun K hK => ?_)
        refine goes_ Tryd.func78 (by kernel_rfl) rfl #[.string t149] (by rfl) rfl rfl (by (try simp only [List.map_toArray, List.map_cons, List.map_nil]); first | done | rfl | (simp only [List.length_drop, List.length_take]; rfl)) ?_
        with_reducible refine (spec_l05Short.calls kj2 t149 t155 _ A19.out).mono ?_
        rintro e w33 ⟨rfl, hb⟩
        refine ⟨_, rfl, ?_⟩
        have n0_ := bb_ BK148 hb
        have n1_ := bs_ HB hb
        clear BK148; clear HB; have BK148 := n0_; have HB := n1_; clear n0_ n1_; (try clear hb); (try clear hb2); (try clear hk); (try clear hi)
        refine hK.out _ _ ⟨bc_ BK148 0, bc_ BK148 1, bc_ BK148 2, bc_ BK148 3⟩ (fun hHeld => ?_)
        clear hK K
        refine norm_ (a' := ?_) ?_ ?_
        rotate_left
        ·show Act.put _ (some 41) _ = _
         simp only [Act.put, sia_, scz_, scs_, i64_w, i32_w]
         rfl
        refine pure_ (i := 9) (N := some 42) (v := ?_) (a' := ?_) #[true, true, true, true, true, true, true, true, true, true, true, true, false, false, false] rfl rfl (any_of HT_.out (by kernel_rfl)) (fun _ _ _ h => h) (Or.inl ⟨by rfl, ?_⟩) ?_ ?_
        rotate_left
        ·intro w'
         go_simp
         with_reducible rfl
        rotate_left
        ·simp only [Act.put, sia_, scz_, scs_, i64_w, i32_w]
         rfl
        refine one_ (i := 12) (N := some 45) #[true, true, true, true, true, true, true, true, true, true, true, true, true, false, false] rfl rfl (one_of HT_.out (by kernel_rfl)) (by decide) (fun K hK => ?_)
        refine goes_ Tryd.func78 (by kernel_rfl) rfl #[.string a0_3] (by rfl) rfl rfl (by (try simp only [List.map_toArray, List.map_cons, List.map_nil]); first | done | rfl | (simp only [List.length_drop, List.length_take]; rfl)) ?_
        with_reducible refine (spec_l05Short.calls kj2 a0_3 t156 _ A21.out).mono ?_
        rintro e w34 ⟨rfl, hb⟩
        refine ⟨_, rfl, ?_⟩
        have n0_ := bb_ BK148 hb
        have n1_ := bs_ HB hb
        clear BK148; clear HB; have BK148 := n0_; have HB := n1_; clear n0_ n1_; (try clear hb); (try clear hb2); (try clear hk); (try clear hi)
        refine hK.out _ _ ⟨bc_ BK148 0, bc_ BK148 1, bc_ BK148 2, bc_ BK148 3⟩ (fun hHeld => ?_)
        clear hK K
        refine norm_ (a' := ?_) ?_ ?_
        rotate_left
        ·show Act.put _ (some 45) _ = _
         simp only [Act.put, sia_, scz_, scs_, i64_w, i32_w]
         rfl
        refine pure_ (i := 13) (N := some 46) (v := ?_) (a' := ?_) #[true, true, true, true, true, true, true, true, true, true, true, true, true, true, false] rfl rfl (any_of HT_.out (by kernel_rfl)) (fun _ _ _ h => h) (Or.inl ⟨by rfl, ?_⟩) ?_ ?_
        rotate_left
        ·intro w'
         go_simp
         with_reducible rfl
        rotate_left
        ·simp only [Act.put, sia_, scz_, scs_, i64_w, i32_w]
         rfl
        refine pure_ (i := 14) (N := some 6) (v := ?_) (a' := ?_) #[true, true, true, true, true, true, true, true, true, true, true, true, true, true, true] rfl rfl (any_of HT_.out (by kernel_rfl)) (fun _ _ _ h => h) (Or.inl ⟨by rfl, ?_⟩) ?_ ?_
        rotate_left
        ·intro w'
         go_simp
         with_reducible rfl
        rotate_left
        ·simp only [Act.put, sia_, scz_, scs_, i64_w, i32_w]
         rfl
        refine done_ (done_of HT_.out (by kernel_rfl)) ?_
        try go_wp2_with (first | ((with_reducible refine gate_callee (f := 79) rfl ?_); refine goesL_ (some 52) rfl rfl Tryd.func79 (by kernel_rfl) rfl #[.string (((t153 ++ t154) ++ t155) ++ t156)] rfl (by (try simp only [List.map_toArray, List.map_cons, List.map_nil]); first | done | rfl | (simp only [List.length_drop, List.length_take]; rfl)) ?_; (with_reducible refine (spec_Sealed.calls kj2 (((t153 ++ t154) ++ t155) ++ t156) t157 t158 _ A29.out).mono ?_); rintro e w35 ⟨rfl, hb⟩; refine ⟨_, rfl, ?_⟩; replace BK148 := bb_ BK148 hb; replace HB := bs_ HB hb; (try clear hb)))
        go_ret2
        exact ⟨by first | rfl | (simp [errW_none, errW_some] <;> rfl) | (simp [*, errW_none, errW_some] <;> rfl), by repeat (first | (with_reducible first | exact HB.out | apply below_alloc | apply pw_below_drewN | apply below_drew1 | refine below_set ?_ GE148.out) | exact HB.out)⟩
      ·rw [if_neg c22] at H
       exact absurd H (by simp)
     ·rw [if_neg c20] at H
      exact absurd H (by simp)
    ·rw [if_neg c18] at H
     exact absurd H (by simp)

/-! ### spec_l03Name: function 80 -/
def spec_l03Name.f (a0 : ByteArray) : Option (Bool) := (spec_l01In.f (a0.size : Int) 1 8).bind fun t159 => (some t159)
set_option maxHeartbeats 8000000 in
set_option maxRecDepth 100000 in
theorem spec_l03Name.calls (a0 : ByteArray) (r : Bool) (w : World) (h : spec_l03Name.f a0 = some r) :
  Calls Tryd.prog 80 #[.string a0] w fun e w' => e = .returned (.bool r) ∧ Drawn0 w w' := by
 have H : ((spec_l01In.f (a0.size : Int) 1 8).bind fun t159 => (some t159)) = some r := h
 clear h
 replace H := Option.bind_eq_some_iff.mp H
 obtain ⟨t159, A20, H⟩ := H
 replace H : (some t159) = some r := H
 have A2 := Aside0.mk A20
 clear A20
 obtain rfl := Option.some.inj H
 go_enter Tryd.func80, Tryd.ntmps80
 go_wp2_with (first | ((with_reducible refine gate_callee (f := 41) rfl ?_); refine goesL_ (some 5) rfl rfl Tryd.func41 (by kernel_rfl) rfl #[.int .i64 (a0.size : Int), .int .i64 1, .int .i64 8] rfl (by (try simp only [List.map_toArray, List.map_cons, List.map_nil]); first | done | rfl | (simp only [List.length_drop, List.length_take]; rfl)) ?_; (with_reducible refine (spec_l01In.calls (a0.size : Int) 1 8 t159 _ A2.out).mono ?_); rintro e w' ⟨rfl, ⟨nd, rfl⟩⟩; refine ⟨_, rfl, ?_⟩))
 go_ret
 exact ⟨by first | rfl | (simp; done) | (simp [*]; done), by repeat (first | exact Drawn0.refl _ | apply Drawn0.step)⟩

end Go.Proofs.YtgnmlgoadkhceaaDoor.QFnExactSnapActs
