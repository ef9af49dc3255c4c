/- Written by this session's own program (wip/tpl/pp.py): what the law's functions come to, and that the machine's calls do just that. -/
import Derived.Test.YtgnmlgoadkhceaaGreatDoorQFnExactShedActsx0
import Derived.Test.YtgnmlgoadkhceaaGreatDoorQFnExactShedActsx11
import Derived.Test.YtgnmlgoadkhceaaGreatDoorQFnExactShedActsx12
import Derived.Test.YtgnmlgoadkhceaaGreatDoorQFnExactShedActsx13
namespace Go.Proofs.YtgnmlgoadkhceaaGreatDoor.QFnExactShedActs
open Go.RowKit Go.Proofs.YtgnmlgoadkhceaaGreatDoorW.PrintWords Go.Proofs.YtgnmlgoadkhceaaGreatDoorW.PrintLast Go.Proofs.YtgnmlgoadkhceaaGreatDoorW.PrintMore
attribute [local go_sem] Go.Proofs.YtgnmlgoadkhceaaGreatDoor.Sem.string_geq Go.Proofs.YtgnmlgoadkhceaaGreatDoor.Sem.string_leq Go.Proofs.YtgnmlgoadkhceaaGreatDoor.Sem.string_gtr
attribute [local go_sem] max2_int min2_int max_two min_two max_three min_three max_four min_four   -- for this text's walks alone
set_option linter.unusedVariables false
set_option linter.unusedSimpArgs false

/-! ### impl_SnapText: function 94 -/
def impl_SnapText.j0 : Nat → ByteArray → Bool → Int → Int → List Int → ByteArray → Option (ByteArray × Bool)
 | 0, _, _, _, _, _, _ => none
 | k + 1, x4, x38, x390000, x390001, x390002, x390003 => if x38 = true then (some ((⟨#[]⟩ : ByteArray), false)) else ((impl_vars.f k (([x390000, x390001] : List Int))).bind fun bt397 => ((impl_ShortText.f k x4).bind fun bt399 => ((impl_ShortText.f k x390003).bind fun bt401 => (if bt397.1.size + bt399.1.size ≤ 9223372036854775807 then (if (bt397.1 ++ bt399.1).size + bt401.1.size ≤ 9223372036854775807 then ((impl_Sealed.f k ((bt397.1 ++ bt399.1) ++ bt401.1)).bind fun bt403 => (if bt403.2 = true then (if (bt403.1.size : Int) > 20000 then (some ((⟨#[]⟩ : ByteArray), false)) else (some (bt403.1, true))) else (some ((⟨#[]⟩ : ByteArray), false)))) else (none)) else (none)))))
def impl_SnapText.f (k : Nat) (a0_0 : Int) (a0_1 : Int) (l0_2 : List Int) (a0_3 : ByteArray) : Option (ByteArray × Bool) := (impl_ConfText.f k l0_2).bind fun bt390 => (if bt390.2 = true then ((impl_within.f a0_0 0 1000000).bind fun t392 => (if t392 = true then ((impl_within.f a0_1 0 100000).bind fun t393 => (if t393 = true then (impl_SnapText.j0 k bt390.1 (decide ((a0_3.size : Int) > 20000)) a0_0 a0_1 l0_2 a0_3) else (impl_SnapText.j0 k bt390.1 true a0_0 a0_1 l0_2 a0_3))) else (impl_SnapText.j0 k bt390.1 true a0_0 a0_1 l0_2 a0_3))) else (impl_SnapText.j0 k bt390.1 true a0_0 a0_1 l0_2 a0_3))
theorem impl_SnapText.mono_l : ∀ k, (∀ y0 y1 y2 y3 y4 y5, LeO (impl_SnapText.j0 k y0 y1 y2 y3 y4 y5) (impl_SnapText.j0 (k + 1) y0 y1 y2 y3 y4 y5))
 | 0 => fun _ _ _ _ _ _ r h => by simp [impl_SnapText.j0] at h
 | k + 1 => by
  have ih0 := impl_SnapText.mono_l k
  ·intro y0 y1 y2 y3 y4 y5
   unfold impl_SnapText.j0
   repeat' first
   | (with_reducible exact impl_Sealed.mono _ _)
   | (with_reducible exact impl_ShortText.mono _ _)
   | (with_reducible exact impl_vars.mono _ _)
   | (with_reducible exact LeO.refl _)
   | (with_reducible refine LeO.ite ?_ ?_)
   | (with_reducible refine LeO.bind ?_ (fun _ => ?_))
theorem impl_SnapText.mono : ∀ a0 a1 a2 a3 k, LeO (impl_SnapText.f k a0 a1 a2 a3) (impl_SnapText.f (k + 1) a0 a1 a2 a3) := by
 intro a0 a1 a2 a3 k
 have ih0 := impl_SnapText.mono_l k
 unfold impl_SnapText.f
 repeat' first
   | (with_reducible exact ih0 _ _ _ _ _ _)
   | (with_reducible exact impl_ConfText.mono _ _)
   | (with_reducible exact LeO.refl _)
   | (with_reducible refine LeO.ite ?_ ?_)
   | (with_reducible refine LeO.bind ?_ (fun _ => ?_))
set_option maxHeartbeats 8000000 in
set_option maxRecDepth 100000 in
theorem impl_SnapText.calls (k : Nat) (a0_0 : Int) (a0_1 : Int) (A0_2 : Option Addr) (c0_2 : Nat) (l0_2 : List Int) (a0_3 : ByteArray) (r1 : ByteArray) (r2 : Bool) (w : World) (hr0_2 : Kd.C (Kd.int .i64) w A0_2 l0_2.length l0_2) (hc0_2 : l0_2.length ≤ c0_2) (h : impl_SnapText.f k a0_0 a0_1 l0_2 a0_3 = some (r1, r2)) :
  Calls Tryz.prog 94 #[.agg #[.int .i64 a0_0, .int .i64 a0_1, .slice A0_2 l0_2.length c0_2, .string a0_3]] w fun e w' => e = .returned (.tuple #[.string r1, .bool r2]) ∧ Below w.heap.size w w' := by
 have hu47 := Tryz.underlying47
 have HR0_2 := Aside0.mk hr0_2
 have HC0_2 := Aside0.mk hc0_2
 clear hr0_2 hc0_2
 have HB := mk_ (Below.refl w.heap.size w)
 have H : ((impl_ConfText.f k l0_2).bind fun bt390 => (if bt390.2 = true then ((impl_within.f a0_0 0 1000000).bind fun t392 => (if t392 = true then ((impl_within.f a0_1 0 100000).bind fun t393 => (if t393 = true then (impl_SnapText.j0 k bt390.1 (decide ((a0_3.size : Int) > 20000)) a0_0 a0_1 l0_2 a0_3) else (impl_SnapText.j0 k bt390.1 true a0_0 a0_1 l0_2 a0_3))) else (impl_SnapText.j0 k bt390.1 true a0_0 a0_1 l0_2 a0_3))) else (impl_SnapText.j0 k bt390.1 true a0_0 a0_1 l0_2 a0_3))) = some (r1, r2) := h
 clear h
 replace H := Option.bind_eq_some_iff.mp H
 obtain ⟨⟨t390, t391⟩, A20, H⟩ := H
 replace H : (if t391 = true then ((impl_within.f a0_0 0 1000000).bind fun t392 => (if t392 = true then ((impl_within.f a0_1 0 100000).bind fun t393 => (if t393 = true then (impl_SnapText.j0 k t390 (decide ((a0_3.size : Int) > 20000)) a0_0 a0_1 l0_2 a0_3) else (impl_SnapText.j0 k t390 true a0_0 a0_1 l0_2 a0_3))) else (impl_SnapText.j0 k t390 true a0_0 a0_1 l0_2 a0_3))) else (impl_SnapText.j0 k t390 true a0_0 a0_1 l0_2 a0_3)) = some (r1, r2) := H
 have A2 := Aside0.mk A20
 clear A20
 have HC3 := Aside0.mk H
 clear H
 go_enter Tryz.func94, Tryz.ntmps94
 go_upto_region 2 with (first | ((with_reducible refine gate_dst (N := 1) rfl ?_); (try (refine gate_guard (by rfl) ?_; dsimp only)); refine bx_ (N := 1) (cs := #[.int .i64 a0_0, .int .i64 a0_1, .slice A0_2 l0_2.length c0_2, .string a0_3]) (t := 47) ?_; intro gb389 hg w4 hbox hb; have BK389 := mk_ (hbox); have GW389 : Aside0 (w.heap.size ≤ gb389) := bz_ hg; have GE389 := GW389; replace HB := bs_ HB hb; clear hb hbox hg; obtain ⟨hcz5_0, hcz5_1, hcz5_2, hcz5_3, hfz5_0, hfz5_1, hfz5_2, hfz5_3⟩ := b4_ BK389) | ((with_reducible refine gate_callee (f := 130) rfl ?_); refine goesL_ (some 16) rfl rfl Tryz.func130 (by kernel_rfl) rfl #[.slice A0_2 l0_2.length c0_2] rfl ga_ ?_; (with_reducible refine (impl_ConfText.calls k _ _ l0_2 t390 t391 _ ?side1 ?side2 A2.out).mono ?_); (case side1 => repeat (first | exact (Kd.C_below HR0_2.out HB.out) | (with_reducible refine Kd.C_alloc ?_ _) | (with_reducible refine Kd.C_drewN ?_ _) | (with_reducible refine Kd.C_drew ?_))); (case side2 => exact HC0_2.out); rintro e w6 ⟨rfl, hb⟩; refine ⟨_, rfl, ?_⟩; replace BK389 := bb_ BK389 hb; replace HB := bs_ HB hb; (try clear hb)))
 (try simp only [Act.put, sia_, scz_, scs_])
 go_cut [38] (fun v38 wc => ∃ (kq : Nat) (x38_2 : Bool), v38 = .bool x38_2 ∧ Aside0 (impl_SnapText.j0 kq t390 x38_2 a0_0 a0_1 l0_2 a0_3 = some (r1, r2)) ∧ Aside0 (kq ≤ k) ∧ Aside0 (wc.heap[gb389]? = some (.cells #[.int .i64 a0_0, .int .i64 a0_1, (.slice A0_2 l0_2.length c0_2), .string a0_3] 47 (0, 0))) ∧ Aside0 (Below w.heap.size w wc))
 case first =>
  have H := HC3.out
  clear HC3
  by_cases c7 : t391 = true
  ·subst c7
   have H1 : ((impl_within.f a0_0 0 1000000).bind fun t392 => (if t392 = true then ((impl_within.f a0_1 0 100000).bind fun t393 => (if t393 = true then (impl_SnapText.j0 k t390 (decide ((a0_3.size : Int) > 20000)) a0_0 a0_1 l0_2 a0_3) else (impl_SnapText.j0 k t390 true a0_0 a0_1 l0_2 a0_3))) else (impl_SnapText.j0 k t390 true a0_0 a0_1 l0_2 a0_3))) = some (r1, r2) := by rw [if_pos rfl] at H; exact H
   clear H
   have H := H1
   clear H1
   replace H := Option.bind_eq_some_iff.mp H
   obtain ⟨t392, A80, H⟩ := H
   replace H : (if t392 = true then ((impl_within.f a0_1 0 100000).bind fun t393 => (if t393 = true then (impl_SnapText.j0 k t390 (decide ((a0_3.size : Int) > 20000)) a0_0 a0_1 l0_2 a0_3) else (impl_SnapText.j0 k t390 true a0_0 a0_1 l0_2 a0_3))) else (impl_SnapText.j0 k t390 true a0_0 a0_1 l0_2 a0_3)) = some (r1, r2) := H
   have A8 := Aside0.mk A80
   clear A80
   by_cases c9 : t392 = true
   ·subst c9
    have H1 : ((impl_within.f a0_1 0 100000).bind fun t393 => (if t393 = true then (impl_SnapText.j0 k t390 (decide ((a0_3.size : Int) > 20000)) a0_0 a0_1 l0_2 a0_3) else (impl_SnapText.j0 k t390 true a0_0 a0_1 l0_2 a0_3))) = some (r1, r2) := by rw [if_pos rfl] at H; exact H
    clear H
    have H := H1
    clear H1
    replace H := Option.bind_eq_some_iff.mp H
    obtain ⟨t393, A100, H⟩ := H
    replace H : (if t393 = true then (impl_SnapText.j0 k t390 (decide ((a0_3.size : Int) > 20000)) a0_0 a0_1 l0_2 a0_3) else (impl_SnapText.j0 k t390 true a0_0 a0_1 l0_2 a0_3)) = some (r1, r2) := H
    have A10 := Aside0.mk A100
    clear A100
    by_cases c11 : t393 = true
    ·subst c11
     have H1 : (impl_SnapText.j0 k t390 (decide ((a0_3.size : Int) > 20000)) a0_0 a0_1 l0_2 a0_3) = some (r1, r2) := by rw [if_pos rfl] at H; exact H
     clear H
     have H := H1
     clear H1
     have H' := Aside0.mk H
     clear H
     have hcz12_0 : w6.cell? ⟨gb389, 0, none⟩ = some (.int .i64 a0_0) := bc_ BK389 0
     have hcz12_1 : w6.cell? ⟨gb389, 1, none⟩ = some (.int .i64 a0_1) := bc_ BK389 1
     have hcz12_2 : w6.cell? ⟨gb389, 2, none⟩ = some (.slice A0_2 l0_2.length c0_2) := bc_ BK389 2
     have hcz12_3 : w6.cell? ⟨gb389, 3, none⟩ = some (.string a0_3) := bc_ BK389 3
     have hfz12_0 := blk_frozen BK389.out 0
     have hfz12_1 := blk_frozen BK389.out 1
     have hfz12_2 := blk_frozen BK389.out 2
     have hfz12_3 := blk_frozen BK389.out 3
     go_wp2_with (first | (go_at_call 70; (with_reducible refine (impl_within.calls a0_0 0 1000000 true _ A8.out).mono ?_); rintro e w' ⟨rfl, ⟨nd, rfl⟩⟩) | (go_at_call 70; (with_reducible refine (impl_within.calls a0_1 0 100000 true _ A10.out).mono ?_); rintro e w' ⟨rfl, ⟨nd, rfl⟩⟩))
     go_meet
     case rel => exact ⟨_, (decide ((a0_3.size : Int) > 20000)), (by first | rfl | (simp; done) | (simp [*]; done)), H', ⟨by first | omega | exact Nat.le_refl _⟩, ⟨bf_⟩, ⟨bw_ HB⟩⟩
    ·replace c11 := Bool.eq_false_iff.mpr c11
     subst c11
     have H1 : (impl_SnapText.j0 k t390 true a0_0 a0_1 l0_2 a0_3) = some (r1, r2) := by rw [if_neg (show ¬ (false = true) by decide)] at H; exact H
     clear H
     have H := H1
     clear H1
     have H' := Aside0.mk H
     clear H
     have hcz13_0 : w6.cell? ⟨gb389, 0, none⟩ = some (.int .i64 a0_0) := bc_ BK389 0
     have hcz13_1 : w6.cell? ⟨gb389, 1, none⟩ = some (.int .i64 a0_1) := bc_ BK389 1
     have hcz13_2 : w6.cell? ⟨gb389, 2, none⟩ = some (.slice A0_2 l0_2.length c0_2) := bc_ BK389 2
     have hcz13_3 : w6.cell? ⟨gb389, 3, none⟩ = some (.string a0_3) := bc_ BK389 3
     have hfz13_0 := blk_frozen BK389.out 0
     have hfz13_1 := blk_frozen BK389.out 1
     have hfz13_2 := blk_frozen BK389.out 2
     have hfz13_3 := blk_frozen BK389.out 3
     go_wp2_with (first | (go_at_call 70; (with_reducible refine (impl_within.calls a0_0 0 1000000 true _ A8.out).mono ?_); rintro e w' ⟨rfl, ⟨nd, rfl⟩⟩) | (go_at_call 70; (with_reducible refine (impl_within.calls a0_1 0 100000 false _ A10.out).mono ?_); rintro e w' ⟨rfl, ⟨nd, rfl⟩⟩))
     go_meet
     case rel => exact ⟨_, (true), (by first | rfl | (simp; done) | (simp [*]; done)), H', ⟨by first | omega | exact Nat.le_refl _⟩, ⟨bf_⟩, ⟨bw_ HB⟩⟩
   ·replace c9 := Bool.eq_false_iff.mpr c9
    subst c9
    have H1 : (impl_SnapText.j0 k t390 true a0_0 a0_1 l0_2 a0_3) = some (r1, r2) := by rw [if_neg (show ¬ (false = true) by decide)] at H; exact H
    clear H
    have H := H1
    clear H1
    have H' := Aside0.mk H
    clear H
    have hcz14_0 : w6.cell? ⟨gb389, 0, none⟩ = some (.int .i64 a0_0) := bc_ BK389 0
    have hcz14_1 : w6.cell? ⟨gb389, 1, none⟩ = some (.int .i64 a0_1) := bc_ BK389 1
    have hcz14_2 : w6.cell? ⟨gb389, 2, none⟩ = some (.slice A0_2 l0_2.length c0_2) := bc_ BK389 2
    have hcz14_3 : w6.cell? ⟨gb389, 3, none⟩ = some (.string a0_3) := bc_ BK389 3
    have hfz14_0 := blk_frozen BK389.out 0
    have hfz14_1 := blk_frozen BK389.out 1
    have hfz14_2 := blk_frozen BK389.out 2
    have hfz14_3 := blk_frozen BK389.out 3
    go_wp2_with (first | (go_at_call 70; (with_reducible refine (impl_within.calls a0_0 0 1000000 false _ A8.out).mono ?_); rintro e w' ⟨rfl, ⟨nd, rfl⟩⟩))
    go_meet
    case rel => exact ⟨_, (true), (by first | rfl | (simp; done) | (simp [*]; done)), H', ⟨by first | omega | exact Nat.le_refl _⟩, ⟨bf_⟩, ⟨bw_ HB⟩⟩
  ·replace c7 := Bool.eq_false_iff.mpr c7
   subst c7
   have H1 : (impl_SnapText.j0 k t390 true a0_0 a0_1 l0_2 a0_3) = some (r1, r2) := by rw [if_neg (show ¬ (false = true) by decide)] at H; exact H
   clear H
   have H := H1
   clear H1
   have H' := Aside0.mk H
   clear H
   go_wp2
   go_meet
   case rel => exact ⟨_, (true), (by first | rfl | (simp; done) | (simp [*]; done)), H', ⟨by first | omega | exact Nat.le_refl _⟩, ⟨bf_⟩, ⟨bw_ HB⟩⟩
 case rest =>
  clear HC3
  try clear c1
  try clear p2
  try clear c7
  try clear c9
  try clear c11
  try clear c13
  try clear hcz12_0
  try clear hcz12_1
  try clear hcz12_2
  try clear hcz12_3
  try clear hcz13_0
  try clear hcz13_1
  try clear hcz13_2
  try clear hcz13_3
  try clear hcz14_0
  try clear hcz14_1
  try clear hcz14_2
  try clear hcz14_3
  try clear hcz5_0
  try clear hcz5_1
  try clear hcz5_2
  try clear hcz5_3
  try clear hfz12_0
  try clear hfz12_1
  try clear hfz12_2
  try clear hfz12_3
  try clear hfz13_0
  try clear hfz13_1
  try clear hfz13_2
  try clear hfz13_3
  try clear hfz14_0
  try clear hfz14_1
  try clear hfz14_2
  try clear hfz14_3
  try clear hfz5_0
  try clear hfz5_1
  try clear hfz5_2
  try clear hfz5_3
  obtain ⟨kq, x38_2, rfl, HA, HJ2, BK389, HB⟩ := hcut
  cases kq with
  | zero => exact absurd HA.out (by simp [impl_SnapText.j0])
  | succ kj2 =>
   have H := HA.out
   clear HA
   simp only [impl_SnapText.j0] at H
   by_cases c15 : x38_2 = true
   ·subst c15
    have H1 : (some ((⟨#[]⟩ : ByteArray), false)) = some (r1, r2) := by rw [if_pos rfl] at H; exact H
    clear H
    have H := H1
    clear H1
    simp only [Option.some.injEq, Prod.mk.injEq] at H
    obtain ⟨rfl, rfl⟩ := H
    go_wp2
    go_ret2
    exact ⟨er_, bw_ HB⟩
   ·replace c15 := Bool.eq_false_iff.mpr c15
    subst c15
    have H1 : ((impl_vars.f kj2 (([a0_0, a0_1] : List Int))).bind fun bt397 => ((impl_ShortText.f kj2 t390).bind fun bt399 => ((impl_ShortText.f kj2 a0_3).bind fun bt401 => (if bt397.1.size + bt399.1.size ≤ 9223372036854775807 then (if (bt397.1 ++ bt399.1).size + bt401.1.size ≤ 9223372036854775807 then ((impl_Sealed.f kj2 ((bt397.1 ++ bt399.1) ++ bt401.1)).bind fun bt403 => (if bt403.2 = true then (if (bt403.1.size : Int) > 20000 then (some ((⟨#[]⟩ : ByteArray), false)) else (some (bt403.1, true))) else (some ((⟨#[]⟩ : ByteArray), false)))) else (none)) else (none))))) = some (r1, r2) := by rw [if_neg (show ¬ (false = true) by decide)] at H; exact H
    clear H
    have H := H1
    clear H1
    obtain ⟨y394, hy394⟩ : ∃ y_ : List Int, y_ = (([a0_0, a0_1] : List Int)) := ⟨_, rfl⟩
    replace H : ((impl_vars.f kj2 y394).bind fun bt397 => ((impl_ShortText.f kj2 t390).bind fun bt399 => ((impl_ShortText.f kj2 a0_3).bind fun bt401 => (if bt397.1.size + bt399.1.size ≤ 9223372036854775807 then (if (bt397.1 ++ bt399.1).size + bt401.1.size ≤ 9223372036854775807 then ((impl_Sealed.f kj2 ((bt397.1 ++ bt399.1) ++ bt401.1)).bind fun bt403 => (if bt403.2 = true then (if (bt403.1.size : Int) > 20000 then (some ((⟨#[]⟩ : ByteArray), false)) else (some (bt403.1, true))) else (some ((⟨#[]⟩ : ByteArray), false)))) else (none)) else (none))))) = some (r1, r2) := by first | (rw [hy394]; with_reducible exact H) | (have H2_ := (Option.bind_some _ _).symm.trans H; rw [hy394]; with_reducible exact H2_) | (have H2_ := (Option.bind_some _ _).symm.trans H; with_reducible exact H2_) | with_reducible exact H | (rw [hy394]; exact H) | exact H
    have Ny394 := Aside0.mk hy394
    clear hy394
    replace H := Option.bind_eq_some_iff.mp H
    obtain ⟨⟨t397, t398⟩, A160, H⟩ := H
    replace H : ((impl_ShortText.f kj2 t390).bind fun bt399 => ((impl_ShortText.f kj2 a0_3).bind fun bt401 => (if t397.size + bt399.1.size ≤ 9223372036854775807 then (if (t397 ++ bt399.1).size + bt401.1.size ≤ 9223372036854775807 then ((impl_Sealed.f kj2 ((t397 ++ bt399.1) ++ bt401.1)).bind fun bt403 => (if bt403.2 = true then (if (bt403.1.size : Int) > 20000 then (some ((⟨#[]⟩ : ByteArray), false)) else (some (bt403.1, true))) else (some ((⟨#[]⟩ : ByteArray), false)))) else (none)) else (none)))) = some (r1, r2) := H
    have A16 := Aside0.mk A160
    clear A160
    replace H := Option.bind_eq_some_iff.mp H
    obtain ⟨⟨t399, t400⟩, A170, H⟩ := H
    replace H : ((impl_ShortText.f kj2 a0_3).bind fun bt401 => (if t397.size + t399.size ≤ 9223372036854775807 then (if (t397 ++ t399).size + bt401.1.size ≤ 9223372036854775807 then ((impl_Sealed.f kj2 ((t397 ++ t399) ++ bt401.1)).bind fun bt403 => (if bt403.2 = true then (if (bt403.1.size : Int) > 20000 then (some ((⟨#[]⟩ : ByteArray), false)) else (some (bt403.1, true))) else (some ((⟨#[]⟩ : ByteArray), false)))) else (none)) else (none))) = some (r1, r2) := H
    have A17 := Aside0.mk A170
    clear A170
    replace H := Option.bind_eq_some_iff.mp H
    obtain ⟨⟨t401, t402⟩, A180, H⟩ := H
    replace H : (if t397.size + t399.size ≤ 9223372036854775807 then (if (t397 ++ t399).size + t401.size ≤ 9223372036854775807 then ((impl_Sealed.f kj2 ((t397 ++ t399) ++ t401)).bind fun bt403 => (if bt403.2 = true then (if (bt403.1.size : Int) > 20000 then (some ((⟨#[]⟩ : ByteArray), false)) else (some (bt403.1, true))) else (some ((⟨#[]⟩ : ByteArray), false)))) else (none)) else (none)) = some (r1, r2) := H
    have A18 := Aside0.mk A180
    clear A180
    by_cases c19 : t397.size + t399.size ≤ 9223372036854775807
    ·rw [if_pos c19] at H
     have c19b0 := eq_true c19
     have c19b1 : decide (t397.size + t399.size ≤ 9223372036854775807) = true := decide_eq_true c19
     try have c19b2 : (9223372036854775807 < t397.size + t399.size) = False := eq_false (Nat.not_lt.2 c19)
     by_cases c20 : (t397 ++ t399).size + t401.size ≤ 9223372036854775807
     ·rw [if_pos c20] at H
      have c20b0 := eq_true c20
      have c20b1 : decide ((t397 ++ t399).size + t401.size ≤ 9223372036854775807) = true := decide_eq_true c20
      try have c20b2 : (9223372036854775807 < (t397 ++ t399).size + t401.size) = False := eq_false (Nat.not_lt.2 c20)
      have c20x0 : (9223372036854775807 < t397.size + t399.size + t401.size) = False := eq_false (by have h_ := c20; simp only [ByteArray.size_append] at h_; exact Nat.not_lt.2 h_)
      replace H := Option.bind_eq_some_iff.mp H
      obtain ⟨⟨t403, t404⟩, A210, H⟩ := H
      replace H : (if t404 = true then (if (t403.size : Int) > 20000 then (some ((⟨#[]⟩ : ByteArray), false)) else (some (t403, true))) else (some ((⟨#[]⟩ : ByteArray), false))) = some (r1, r2) := H
      have A21 := Aside0.mk A210
      clear A210
      by_cases c22 : t404 = true
      ·subst c22
       have H1 : (if (t403.size : Int) > 20000 then (some ((⟨#[]⟩ : ByteArray), false)) else (some (t403, true))) = some (r1, r2) := by rw [if_pos rfl] at H; exact H
       clear H
       have H := H1
       clear H1
       by_cases c23 : (t403.size : Int) > 20000
       ·rw [if_pos c23] at H
        have c23b0 : decide (20000 < (t403.size : Int)) = true := decide_eq_true c23
        have c23b1 : decide (20000 < t403.size) = true := decide_eq_true (by omega)
        clear c23
        simp only [Option.some.injEq, Prod.mk.injEq] at H
        obtain ⟨rfl, rfl⟩ := H
        have hcz24_0 : wc.cell? ⟨gb389, 0, none⟩ = some (.int .i64 a0_0) := bc_ BK389 0
        have hcz24_1 : wc.cell? ⟨gb389, 1, none⟩ = some (.int .i64 a0_1) := bc_ BK389 1
        have hcz24_2 : wc.cell? ⟨gb389, 2, none⟩ = some (.slice A0_2 l0_2.length c0_2) := bc_ BK389 2
        have hcz24_3 : wc.cell? ⟨gb389, 3, none⟩ = some (.string a0_3) := bc_ BK389 3
        have hfz24_0 := blk_frozen BK389.out 0
        have hfz24_1 := blk_frozen BK389.out 1
        have hfz24_2 := blk_frozen BK389.out 2
        have hfz24_3 := blk_frozen BK389.out 3
        go_wp2_with (first | ((with_reducible refine gate_dst (N := 44) rfl ?_); (try (refine gate_guard (by rfl) ?_; dsimp only)); refine Kd.R_lit (Kd.int .i64) _ 3 ?hg (N := 44) ?hd (xs := ([a0_0, a0_1] : List Int)) (inner := [.int .i64 a0_0, .int .i64 a0_1]) (ok := fun _ => True) (okp := fun _ => True) ?hr ?hp (fun _ hk => hk) trivial (Below.refl _ _) (Nat.le_refl _) (by simp) ?_; (case hd => rfl); (case hg => rfl); (case hr => first | (go_simp; done) | (go_simp; rfl)); (case hp => exact (Reps.one (show Kd.M (Kd.int .i64) _ _ _ a0_0 [.int .i64 a0_0] from rfl) (Reps.one (show Kd.M (Kd.int .i64) _ _ _ a0_1 [.int .i64 a0_1] from rfl) (Reps.none _ _)))); intro v395 w25 ho26 hb hg_ hnew_; clear hg_ hnew_; (first | rw [← Ny394.out] at ho26 | (simp only [Int.reduceToNat] at ho26; rw [← Ny394.out] at ho26)); have HO396 := mk_ (Kd.R_lower ho26 (below_size (bw_ HB))); replace BK389 := bb_ BK389 hb; replace HB := bs_ HB hb; clear hb ho26; obtain ⟨Ao27, co27, eo27⟩ := Kd.R_slice HO396.out; subst eo27) | ((with_reducible refine gate_callee (f := 131) rfl ?_); refine goesL_ (some 45) rfl rfl Tryz.func131 (by kernel_rfl) rfl #[.slice Ao27 y394.length co27] rfl ga_ ?_; (with_reducible refine (impl_vars.calls kj2 _ _ y394 t397 t398 _ ?side1 ?side2 A16.out).mono ?_); (case side1 => repeat (first | exact (Kd.R_reads' HO396.out).2.2 | (with_reducible refine Kd.C_alloc ?_ _) | (with_reducible refine Kd.C_drewN ?_ _) | (with_reducible refine Kd.C_drew ?_))); (case side2 => exact (Kd.R_reads' HO396.out).2.1); rintro e w28 ⟨rfl, hb⟩; refine ⟨_, rfl, ?_⟩; replace HO396 := rb_ HO396 hb; replace BK389 := bb_ BK389 hb; replace HB := bs_ HB hb; (try clear hb); (try clear hk)) | ((with_reducible refine gate_callee (f := 132) rfl ?_); refine goesL_ (some 50) rfl rfl Tryz.func132 (by kernel_rfl) rfl #[.string t390] rfl ga_ ?_; (with_reducible refine (impl_ShortText.calls kj2 t390 t399 t400 _ A17.out).mono ?_); rintro e w29 ⟨rfl, hb⟩; refine ⟨_, rfl, ?_⟩; replace HO396 := rb_ HO396 hb; replace BK389 := bb_ BK389 hb; replace HB := bs_ HB hb; (try clear hb); (try clear hk); obtain ⟨hcz30_0, hcz30_1, hcz30_2, hcz30_3, hfz30_0, hfz30_1, hfz30_2, hfz30_3⟩ := b4_ BK389) | ((with_reducible refine gate_callee (f := 132) rfl ?_); refine goesL_ (some 56) rfl rfl Tryz.func132 (by kernel_rfl) rfl #[.string a0_3] rfl ga_ ?_; (with_reducible refine (impl_ShortText.calls kj2 a0_3 t401 t402 _ A18.out).mono ?_); rintro e w31 ⟨rfl, hb⟩; refine ⟨_, rfl, ?_⟩; replace HO396 := rb_ HO396 hb; replace BK389 := bb_ BK389 hb; replace HB := bs_ HB hb; (try clear hb); (try clear hk)) | ((with_reducible refine gate_callee (f := 127) rfl ?_); refine goesL_ (some 65) rfl rfl Tryz.func127 (by kernel_rfl) rfl #[.string ((t397 ++ t399) ++ t401)] rfl ga_ ?_; (with_reducible refine (impl_Sealed.calls kj2 ((t397 ++ t399) ++ t401) t403 true _ A21.out).mono ?_); rintro e w32 ⟨rfl, hb⟩; refine ⟨_, rfl, ?_⟩; replace HO396 := rb_ HO396 hb; replace BK389 := bb_ BK389 hb; replace HB := bs_ HB hb; (try clear hb); (try clear hk)))
        go_ret2
        exact ⟨er_, bw_ HB⟩
       ·rw [if_neg c23] at H
        have c23b0 : decide (20000 < (t403.size : Int)) = false := decide_eq_false c23
        have c23b1 : decide (20000 < t403.size) = false := decide_eq_false (by omega)
        clear c23
        simp only [Option.some.injEq, Prod.mk.injEq] at H
        obtain ⟨rfl, rfl⟩ := H
        have hcz33_0 : wc.cell? ⟨gb389, 0, none⟩ = some (.int .i64 a0_0) := bc_ BK389 0
        have hcz33_1 : wc.cell? ⟨gb389, 1, none⟩ = some (.int .i64 a0_1) := bc_ BK389 1
        have hcz33_2 : wc.cell? ⟨gb389, 2, none⟩ = some (.slice A0_2 l0_2.length c0_2) := bc_ BK389 2
        have hcz33_3 : wc.cell? ⟨gb389, 3, none⟩ = some (.string a0_3) := bc_ BK389 3
        have hfz33_0 := blk_frozen BK389.out 0
        have hfz33_1 := blk_frozen BK389.out 1
        have hfz33_2 := blk_frozen BK389.out 2
        have hfz33_3 := blk_frozen BK389.out 3
        go_wp2_with (first | ((with_reducible refine gate_dst (N := 44) rfl ?_); (try (refine gate_guard (by rfl) ?_; dsimp only)); refine Kd.R_lit (Kd.int .i64) _ 3 ?hg (N := 44) ?hd (xs := ([a0_0, a0_1] : List Int)) (inner := [.int .i64 a0_0, .int .i64 a0_1]) (ok := fun _ => True) (okp := fun _ => True) ?hr ?hp (fun _ hk => hk) trivial (Below.refl _ _) (Nat.le_refl _) (by simp) ?_; (case hd => rfl); (case hg => rfl); (case hr => first | (go_simp; done) | (go_simp; rfl)); (case hp => exact (Reps.one (show Kd.M (Kd.int .i64) _ _ _ a0_0 [.int .i64 a0_0] from rfl) (Reps.one (show Kd.M (Kd.int .i64) _ _ _ a0_1 [.int .i64 a0_1] from rfl) (Reps.none _ _)))); intro v395 w34 ho35 hb hg_ hnew_; clear hg_ hnew_; (first | rw [← Ny394.out] at ho35 | (simp only [Int.reduceToNat] at ho35; rw [← Ny394.out] at ho35)); have HO396 := mk_ (Kd.R_lower ho35 (below_size (bw_ HB))); replace BK389 := bb_ BK389 hb; replace HB := bs_ HB hb; clear hb ho35; obtain ⟨Ao36, co36, eo36⟩ := Kd.R_slice HO396.out; subst eo36) | ((with_reducible refine gate_callee (f := 131) rfl ?_); refine goesL_ (some 45) rfl rfl Tryz.func131 (by kernel_rfl) rfl #[.slice Ao36 y394.length co36] rfl ga_ ?_; (with_reducible refine (impl_vars.calls kj2 _ _ y394 t397 t398 _ ?side1 ?side2 A16.out).mono ?_); (case side1 => repeat (first | exact (Kd.R_reads' HO396.out).2.2 | (with_reducible refine Kd.C_alloc ?_ _) | (with_reducible refine Kd.C_drewN ?_ _) | (with_reducible refine Kd.C_drew ?_))); (case side2 => exact (Kd.R_reads' HO396.out).2.1); rintro e w37 ⟨rfl, hb⟩; refine ⟨_, rfl, ?_⟩; replace HO396 := rb_ HO396 hb; replace BK389 := bb_ BK389 hb; replace HB := bs_ HB hb; (try clear hb); (try clear hk)) | ((with_reducible refine gate_callee (f := 132) rfl ?_); refine goesL_ (some 50) rfl rfl Tryz.func132 (by kernel_rfl) rfl #[.string t390] rfl ga_ ?_; (with_reducible refine (impl_ShortText.calls kj2 t390 t399 t400 _ A17.out).mono ?_); rintro e w38 ⟨rfl, hb⟩; refine ⟨_, rfl, ?_⟩; replace HO396 := rb_ HO396 hb; replace BK389 := bb_ BK389 hb; replace HB := bs_ HB hb; (try clear hb); (try clear hk); obtain ⟨hcz39_0, hcz39_1, hcz39_2, hcz39_3, hfz39_0, hfz39_1, hfz39_2, hfz39_3⟩ := b4_ BK389) | ((with_reducible refine gate_callee (f := 132) rfl ?_); refine goesL_ (some 56) rfl rfl Tryz.func132 (by kernel_rfl) rfl #[.string a0_3] rfl ga_ ?_; (with_reducible refine (impl_ShortText.calls kj2 a0_3 t401 t402 _ A18.out).mono ?_); rintro e w40 ⟨rfl, hb⟩; refine ⟨_, rfl, ?_⟩; replace HO396 := rb_ HO396 hb; replace BK389 := bb_ BK389 hb; replace HB := bs_ HB hb; (try clear hb); (try clear hk)) | ((with_reducible refine gate_callee (f := 127) rfl ?_); refine goesL_ (some 65) rfl rfl Tryz.func127 (by kernel_rfl) rfl #[.string ((t397 ++ t399) ++ t401)] rfl ga_ ?_; (with_reducible refine (impl_Sealed.calls kj2 ((t397 ++ t399) ++ t401) t403 true _ A21.out).mono ?_); rintro e w41 ⟨rfl, hb⟩; refine ⟨_, rfl, ?_⟩; replace HO396 := rb_ HO396 hb; replace BK389 := bb_ BK389 hb; replace HB := bs_ HB hb; (try clear hb); (try clear hk)))
        go_ret2
        exact ⟨er_, bw_ HB⟩
      ·replace c22 := Bool.eq_false_iff.mpr c22
       subst c22
       have H1 : (some ((⟨#[]⟩ : ByteArray), false)) = some (r1, r2) := by rw [if_neg (show ¬ (false = true) by decide)] at H; exact H
       clear H
       have H := H1
       clear H1
       simp only [Option.some.injEq, Prod.mk.injEq] at H
       obtain ⟨rfl, rfl⟩ := H
       have hcz42_0 : wc.cell? ⟨gb389, 0, none⟩ = some (.int .i64 a0_0) := bc_ BK389 0
       have hcz42_1 : wc.cell? ⟨gb389, 1, none⟩ = some (.int .i64 a0_1) := bc_ BK389 1
       have hcz42_2 : wc.cell? ⟨gb389, 2, none⟩ = some (.slice A0_2 l0_2.length c0_2) := bc_ BK389 2
       have hcz42_3 : wc.cell? ⟨gb389, 3, none⟩ = some (.string a0_3) := bc_ BK389 3
       have hfz42_0 := blk_frozen BK389.out 0
       have hfz42_1 := blk_frozen BK389.out 1
       have hfz42_2 := blk_frozen BK389.out 2
       have hfz42_3 := blk_frozen BK389.out 3
       go_wp2_with (first | ((with_reducible refine gate_dst (N := 44) rfl ?_); (try (refine gate_guard (by rfl) ?_; dsimp only)); refine Kd.R_lit (Kd.int .i64) _ 3 ?hg (N := 44) ?hd (xs := ([a0_0, a0_1] : List Int)) (inner := [.int .i64 a0_0, .int .i64 a0_1]) (ok := fun _ => True) (okp := fun _ => True) ?hr ?hp (fun _ hk => hk) trivial (Below.refl _ _) (Nat.le_refl _) (by simp) ?_; (case hd => rfl); (case hg => rfl); (case hr => first | (go_simp; done) | (go_simp; rfl)); (case hp => exact (Reps.one (show Kd.M (Kd.int .i64) _ _ _ a0_0 [.int .i64 a0_0] from rfl) (Reps.one (show Kd.M (Kd.int .i64) _ _ _ a0_1 [.int .i64 a0_1] from rfl) (Reps.none _ _)))); intro v395 w43 ho44 hb hg_ hnew_; clear hg_ hnew_; (first | rw [← Ny394.out] at ho44 | (simp only [Int.reduceToNat] at ho44; rw [← Ny394.out] at ho44)); have HO396 := mk_ (Kd.R_lower ho44 (below_size (bw_ HB))); replace BK389 := bb_ BK389 hb; replace HB := bs_ HB hb; clear hb ho44; obtain ⟨Ao45, co45, eo45⟩ := Kd.R_slice HO396.out; subst eo45) | ((with_reducible refine gate_callee (f := 131) rfl ?_); refine goesL_ (some 45) rfl rfl Tryz.func131 (by kernel_rfl) rfl #[.slice Ao45 y394.length co45] rfl ga_ ?_; (with_reducible refine (impl_vars.calls kj2 _ _ y394 t397 t398 _ ?side1 ?side2 A16.out).mono ?_); (case side1 => repeat (first | exact (Kd.R_reads' HO396.out).2.2 | (with_reducible refine Kd.C_alloc ?_ _) | (with_reducible refine Kd.C_drewN ?_ _) | (with_reducible refine Kd.C_drew ?_))); (case side2 => exact (Kd.R_reads' HO396.out).2.1); rintro e w46 ⟨rfl, hb⟩; refine ⟨_, rfl, ?_⟩; replace HO396 := rb_ HO396 hb; replace BK389 := bb_ BK389 hb; replace HB := bs_ HB hb; (try clear hb); (try clear hk)) | ((with_reducible refine gate_callee (f := 132) rfl ?_); refine goesL_ (some 50) rfl rfl Tryz.func132 (by kernel_rfl) rfl #[.string t390] rfl ga_ ?_; (with_reducible refine (impl_ShortText.calls kj2 t390 t399 t400 _ A17.out).mono ?_); rintro e w47 ⟨rfl, hb⟩; refine ⟨_, rfl, ?_⟩; replace HO396 := rb_ HO396 hb; replace BK389 := bb_ BK389 hb; replace HB := bs_ HB hb; (try clear hb); (try clear hk); obtain ⟨hcz48_0, hcz48_1, hcz48_2, hcz48_3, hfz48_0, hfz48_1, hfz48_2, hfz48_3⟩ := b4_ BK389) | ((with_reducible refine gate_callee (f := 132) rfl ?_); refine goesL_ (some 56) rfl rfl Tryz.func132 (by kernel_rfl) rfl #[.string a0_3] rfl ga_ ?_; (with_reducible refine (impl_ShortText.calls kj2 a0_3 t401 t402 _ A18.out).mono ?_); rintro e w49 ⟨rfl, hb⟩; refine ⟨_, rfl, ?_⟩; replace HO396 := rb_ HO396 hb; replace BK389 := bb_ BK389 hb; replace HB := bs_ HB hb; (try clear hb); (try clear hk)) | ((with_reducible refine gate_callee (f := 127) rfl ?_); refine goesL_ (some 65) rfl rfl Tryz.func127 (by kernel_rfl) rfl #[.string ((t397 ++ t399) ++ t401)] rfl ga_ ?_; (with_reducible refine (impl_Sealed.calls kj2 ((t397 ++ t399) ++ t401) t403 false _ A21.out).mono ?_); rintro e w50 ⟨rfl, hb⟩; refine ⟨_, rfl, ?_⟩; replace HO396 := rb_ HO396 hb; replace BK389 := bb_ BK389 hb; replace HB := bs_ HB hb; (try clear hb); (try clear hk)))
       go_ret2
       exact ⟨er_, bw_ HB⟩
     ·rw [if_neg c20] at H
      exact absurd H (by simp)
    ·rw [if_neg c19] at H
     exact absurd H (by simp)

/-! ### impl_ReadSnap: function 50 -/
def impl_ReadSnap.f (k : Nat) (a0 : ByteArray) : Option (Int × Int × List Int × ByteArray × Bool) := (impl_Unsealed.f k a0).bind fun bt406 => (if bt406.2 = true then ((impl_reader_num.f k bt406.1 0 false).bind fun bt409 => ((impl_reader_num.f k bt409.2.1 bt409.2.2.1 bt409.2.2.2).bind fun bt413 => ((impl_reader_text.f k bt413.2.1 bt413.2.2.1 bt413.2.2.2).bind fun bt418 => ((impl_ReadConf.f k bt418.1).bind fun bt422 => ((impl_reader_text.f k bt418.2.1 bt418.2.2.1 bt418.2.2.2).bind fun bt426 => ((impl_SnapText.f k bt409.1 bt413.1 bt422.1 bt426.1).bind fun bt430 => (if bt426.2.2.2 = true then (some (0, 0, ([] : List Int), (⟨#[]⟩ : ByteArray), false)) else (if bt430.2 = true then (if bt430.1.toList = a0.toList then (some (bt409.1, bt413.1, bt422.1, bt426.1, true)) else (some (0, 0, ([] : List Int), (⟨#[]⟩ : ByteArray), false))) else (some (0, 0, ([] : List Int), (⟨#[]⟩ : ByteArray), false)))))))))) else (some (0, 0, ([] : List Int), (⟨#[]⟩ : ByteArray), false)))
theorem impl_ReadSnap.mono : ∀ a0 k, LeO (impl_ReadSnap.f k a0) (impl_ReadSnap.f (k + 1) a0) := by
 intro a0 k
 unfold impl_ReadSnap.f
 repeat' first
   | (with_reducible exact impl_ReadConf.mono _ _)
   | (with_reducible exact impl_SnapText.mono _ _ _ _ _)
   | (with_reducible exact impl_Unsealed.mono _ _)
   | (with_reducible exact impl_reader_num.mono _ _ _ _)
   | (with_reducible exact impl_reader_text.mono _ _ _ _)
   | (with_reducible exact LeO.refl _)
   | (with_reducible refine LeO.ite ?_ ?_)
   | (with_reducible refine LeO.bind ?_ (fun _ => ?_))
set_option maxHeartbeats 8000000 in
set_option maxRecDepth 100000 in
theorem impl_ReadSnap.calls (k : Nat) (a0 : ByteArray) (r1 : Int) (r2 : Int) (r3 : List Int) (r4 : ByteArray) (r5 : Bool) (w : World) (h : impl_ReadSnap.f k a0 = some (r1, r2, r3, r4, r5)) :
  Calls Tryz.prog 50 #[.string a0] w fun e w' => ∃ v2_ : Value, e = .returned (.tuple #[.agg #[.int .i64 r1, .int .i64 r2, v2_, .string r4], .bool r5]) ∧ Kd.R (Kd.int .i64) 3 w' w.heap.size (fun _ => True) v2_ r3 ∧ Below w.heap.size w w' := by
 have hu47 := Tryz.underlying47
 have hu118 := Tryz.underlying118
 have HB := mk_ (Below.refl w.heap.size w)
 have H : ((impl_Unsealed.f k a0).bind fun bt406 => (if bt406.2 = true then ((impl_reader_num.f k bt406.1 0 false).bind fun bt409 => ((impl_reader_num.f k bt409.2.1 bt409.2.2.1 bt409.2.2.2).bind fun bt413 => ((impl_reader_text.f k bt413.2.1 bt413.2.2.1 bt413.2.2.2).bind fun bt418 => ((impl_ReadConf.f k bt418.1).bind fun bt422 => ((impl_reader_text.f k bt418.2.1 bt418.2.2.1 bt418.2.2.2).bind fun bt426 => ((impl_SnapText.f k bt409.1 bt413.1 bt422.1 bt426.1).bind fun bt430 => (if bt426.2.2.2 = true then (some (0, 0, ([] : List Int), (⟨#[]⟩ : ByteArray), false)) else (if bt430.2 = true then (if bt430.1.toList = a0.toList then (some (bt409.1, bt413.1, bt422.1, bt426.1, true)) else (some (0, 0, ([] : List Int), (⟨#[]⟩ : ByteArray), false))) else (some (0, 0, ([] : List Int), (⟨#[]⟩ : ByteArray), false)))))))))) else (some (0, 0, ([] : List Int), (⟨#[]⟩ : ByteArray), false)))) = some (r1, r2, r3, r4, r5) := h
 clear h
 replace H := Option.bind_eq_some_iff.mp H
 obtain ⟨⟨t406, t407⟩, A20, H⟩ := H
 replace H : (if t407 = true then ((impl_reader_num.f k t406 0 false).bind fun bt409 => ((impl_reader_num.f k bt409.2.1 bt409.2.2.1 bt409.2.2.2).bind fun bt413 => ((impl_reader_text.f k bt413.2.1 bt413.2.2.1 bt413.2.2.2).bind fun bt418 => ((impl_ReadConf.f k bt418.1).bind fun bt422 => ((impl_reader_text.f k bt418.2.1 bt418.2.2.1 bt418.2.2.2).bind fun bt426 => ((impl_SnapText.f k bt409.1 bt413.1 bt422.1 bt426.1).bind fun bt430 => (if bt426.2.2.2 = true then (some (0, 0, ([] : List Int), (⟨#[]⟩ : ByteArray), false)) else (if bt430.2 = true then (if bt430.1.toList = a0.toList then (some (bt409.1, bt413.1, bt422.1, bt426.1, true)) else (some (0, 0, ([] : List Int), (⟨#[]⟩ : ByteArray), false))) else (some (0, 0, ([] : List Int), (⟨#[]⟩ : ByteArray), false)))))))))) else (some (0, 0, ([] : List Int), (⟨#[]⟩ : ByteArray), false))) = some (r1, r2, r3, r4, r5) := H
 have A2 := Aside0.mk A20
 clear A20
 by_cases c3 : t407 = true
 ·subst c3
  have H1 : ((impl_reader_num.f k t406 0 false).bind fun bt409 => ((impl_reader_num.f k bt409.2.1 bt409.2.2.1 bt409.2.2.2).bind fun bt413 => ((impl_reader_text.f k bt413.2.1 bt413.2.2.1 bt413.2.2.2).bind fun bt418 => ((impl_ReadConf.f k bt418.1).bind fun bt422 => ((impl_reader_text.f k bt418.2.1 bt418.2.2.1 bt418.2.2.2).bind fun bt426 => ((impl_SnapText.f k bt409.1 bt413.1 bt422.1 bt426.1).bind fun bt430 => (if bt426.2.2.2 = true then (some (0, 0, ([] : List Int), (⟨#[]⟩ : ByteArray), false)) else (if bt430.2 = true then (if bt430.1.toList = a0.toList then (some (bt409.1, bt413.1, bt422.1, bt426.1, true)) else (some (0, 0, ([] : List Int), (⟨#[]⟩ : ByteArray), false))) else (some (0, 0, ([] : List Int), (⟨#[]⟩ : ByteArray), false)))))))))) = some (r1, r2, r3, r4, r5) := by rw [if_pos rfl] at H; exact H
  clear H
  have H := H1
  clear H1
  replace H := Option.bind_eq_some_iff.mp H
  obtain ⟨⟨t409, t410, t411, t412⟩, A40, H⟩ := H
  replace H : ((impl_reader_num.f k t410 t411 t412).bind fun bt413 => ((impl_reader_text.f k bt413.2.1 bt413.2.2.1 bt413.2.2.2).bind fun bt418 => ((impl_ReadConf.f k bt418.1).bind fun bt422 => ((impl_reader_text.f k bt418.2.1 bt418.2.2.1 bt418.2.2.2).bind fun bt426 => ((impl_SnapText.f k t409 bt413.1 bt422.1 bt426.1).bind fun bt430 => (if bt426.2.2.2 = true then (some (0, 0, ([] : List Int), (⟨#[]⟩ : ByteArray), false)) else (if bt430.2 = true then (if bt430.1.toList = a0.toList then (some (t409, bt413.1, bt422.1, bt426.1, true)) else (some (0, 0, ([] : List Int), (⟨#[]⟩ : ByteArray), false))) else (some (0, 0, ([] : List Int), (⟨#[]⟩ : ByteArray), false))))))))) = some (r1, r2, r3, r4, r5) := H
  have A4 := Aside0.mk A40
  clear A40
  replace H := Option.bind_eq_some_iff.mp H
  obtain ⟨⟨t413, t414, t415, t416⟩, A50, H⟩ := H
  replace H : ((impl_reader_text.f k t414 t415 t416).bind fun bt418 => ((impl_ReadConf.f k bt418.1).bind fun bt422 => ((impl_reader_text.f k bt418.2.1 bt418.2.2.1 bt418.2.2.2).bind fun bt426 => ((impl_SnapText.f k t409 t413 bt422.1 bt426.1).bind fun bt430 => (if bt426.2.2.2 = true then (some (0, 0, ([] : List Int), (⟨#[]⟩ : ByteArray), false)) else (if bt430.2 = true then (if bt430.1.toList = a0.toList then (some (t409, t413, bt422.1, bt426.1, true)) else (some (0, 0, ([] : List Int), (⟨#[]⟩ : ByteArray), false))) else (some (0, 0, ([] : List Int), (⟨#[]⟩ : ByteArray), false)))))))) = some (r1, r2, r3, r4, r5) := H
  have A5 := Aside0.mk A50
  clear A50
  replace H := Option.bind_eq_some_iff.mp H
  obtain ⟨⟨t418, t419, t420, t421⟩, A60, H⟩ := H
  replace H : ((impl_ReadConf.f k t418).bind fun bt422 => ((impl_reader_text.f k t419 t420 t421).bind fun bt426 => ((impl_SnapText.f k t409 t413 bt422.1 bt426.1).bind fun bt430 => (if bt426.2.2.2 = true then (some (0, 0, ([] : List Int), (⟨#[]⟩ : ByteArray), false)) else (if bt430.2 = true then (if bt430.1.toList = a0.toList then (some (t409, t413, bt422.1, bt426.1, true)) else (some (0, 0, ([] : List Int), (⟨#[]⟩ : ByteArray), false))) else (some (0, 0, ([] : List Int), (⟨#[]⟩ : ByteArray), false))))))) = some (r1, r2, r3, r4, r5) := H
  have A6 := Aside0.mk A60
  clear A60
  replace H := Option.bind_eq_some_iff.mp H
  obtain ⟨⟨t422, t423⟩, A70, H⟩ := H
  replace H : ((impl_reader_text.f k t419 t420 t421).bind fun bt426 => ((impl_SnapText.f k t409 t413 t422 bt426.1).bind fun bt430 => (if bt426.2.2.2 = true then (some (0, 0, ([] : List Int), (⟨#[]⟩ : ByteArray), false)) else (if bt430.2 = true then (if bt430.1.toList = a0.toList then (some (t409, t413, t422, bt426.1, true)) else (some (0, 0, ([] : List Int), (⟨#[]⟩ : ByteArray), false))) else (some (0, 0, ([] : List Int), (⟨#[]⟩ : ByteArray), false)))))) = some (r1, r2, r3, r4, r5) := H
  have A7 := Aside0.mk A70
  clear A70
  replace H := Option.bind_eq_some_iff.mp H
  obtain ⟨⟨t426, t427, t428, t429⟩, A80, H⟩ := H
  replace H : ((impl_SnapText.f k t409 t413 t422 t426).bind fun bt430 => (if t429 = true then (some (0, 0, ([] : List Int), (⟨#[]⟩ : ByteArray), false)) else (if bt430.2 = true then (if bt430.1.toList = a0.toList then (some (t409, t413, t422, t426, true)) else (some (0, 0, ([] : List Int), (⟨#[]⟩ : ByteArray), false))) else (some (0, 0, ([] : List Int), (⟨#[]⟩ : ByteArray), false))))) = some (r1, r2, r3, r4, r5) := H
  have A8 := Aside0.mk A80
  clear A80
  replace H := Option.bind_eq_some_iff.mp H
  obtain ⟨⟨t430, t431⟩, A90, H⟩ := H
  replace H : (if t429 = true then (some (0, 0, ([] : List Int), (⟨#[]⟩ : ByteArray), false)) else (if t431 = true then (if t430.toList = a0.toList then (some (t409, t413, t422, t426, true)) else (some (0, 0, ([] : List Int), (⟨#[]⟩ : ByteArray), false))) else (some (0, 0, ([] : List Int), (⟨#[]⟩ : ByteArray), false)))) = some (r1, r2, r3, r4, r5) := H
  have A9 := Aside0.mk A90
  clear A90
  by_cases c10 : t429 = true
  ·subst c10
   have H1 : (some (0, 0, ([] : List Int), (⟨#[]⟩ : ByteArray), false)) = some (r1, r2, r3, r4, r5) := by rw [if_pos rfl] at H; exact H
   clear H
   have H := H1
   clear H1
   simp only [Option.some.injEq, Prod.mk.injEq] at H
   obtain ⟨rfl, rfl, rfl, rfl, rfl⟩ := H
   go_enter Tryz.func50, Tryz.ntmps50
   go_wp2_with (first | ((with_reducible refine gate_dst (N := 2) rfl ?_); refine bx_ (N := 2) (cs := #[.int .i64 0, .int .i64 0, .slice none 0 0, .string (⟨#[]⟩ : ByteArray)]) (t := 47) ?_; intro gb405 hg w11 hbox hb; have BK405 := mk_ (hbox); have GW405 : Aside0 (w.heap.size ≤ gb405) := bz_ hg; have GE405 := GW405; replace HB := bs_ HB hb; clear hb hbox hg) | ((with_reducible refine gate_callee (f := 90) rfl ?_); refine goesL_ (some 12) rfl rfl Tryz.func90 (by kernel_rfl) rfl #[.string a0] rfl ga_ ?_; (with_reducible refine (impl_Unsealed.calls k a0 t406 true _ A2.out).mono ?_); rintro e w12 ⟨rfl, hb⟩; refine ⟨_, rfl, ?_⟩; replace BK405 := bb_ BK405 hb; replace HB := bs_ HB hb; (try clear hb); (try clear hk); (try clear hi)) | ((with_reducible refine gate_dst (N := 20) rfl ?_); refine bx_ (N := 20) (cs := #[.string t406, .int .i64 0, .bool false]) (t := 118) ?_; intro gb408 hg w13 hbox hb; have GW408 : Aside0 (w.heap.size ≤ gb408) := bz_ hg; have GE408 := GW408; have NB405_408 := bl_ BK405 hg; have NB408_405 := bg_ BK405 hg; have HI408 := mk_ ((⟨hbox, (by rw [hg]; exact (below_size (bw_ HB)) : w.heap.size ≤ gb408)⟩ : IsS118 w w13 gb408 t406 0 false)); replace BK405 := bb_ BK405 hb; replace HB := bs_ HB hb; clear hb hbox hg) | ((with_reducible refine gate_callee (f := 91) rfl ?_); refine goesL_ (some 22) rfl rfl Tryz.func91 (by kernel_rfl) rfl #[.pointer (some ⟨gb408, 0, none⟩)] rfl ga_ ?_; (with_reducible refine (impl_reader_num.calls k gb408 t406 0 false t409 t410 t411 t412 w _ ?side1 ?side2 A4.out).mono ?_); (case side1 => exact IsS118.ii_ HI408); (case side2 => exact bwi_ HB (IsS118.ge HI408.out)); rintro e w14 ⟨rfl, hi, hb, hk⟩; refine ⟨_, rfl, ?_⟩; replace BK405 := mk_ (KeepBut.blk hk (g' := gb405) (o := .cells #[.int .i64 0, .int .i64 0, .slice none 0 0, .string (⟨#[]⟩ : ByteArray)] 47 (0, 0)) (bp_ BK405) NB405_408.out (by simp)); replace HB := mk_ (hb); replace HI408 := mk_ (hi); (try clear hb); (try clear hk); (try clear hi)) | ((with_reducible refine gate_callee (f := 91) rfl ?_); refine goesL_ (some 24) rfl rfl Tryz.func91 (by kernel_rfl) rfl #[.pointer (some ⟨gb408, 0, none⟩)] rfl ga_ ?_; (with_reducible refine (impl_reader_num.calls k gb408 t410 t411 t412 t413 t414 t415 t416 w _ ?side1 ?side2 A5.out).mono ?_); (case side1 => exact IsS118.ii_ HI408); (case side2 => exact bwi_ HB (IsS118.ge HI408.out)); rintro e w15 ⟨rfl, hi, hb, hk⟩; refine ⟨_, rfl, ?_⟩; replace BK405 := mk_ (KeepBut.blk hk (g' := gb405) (o := .cells #[.int .i64 0, .int .i64 0, .slice none 0 0, .string (⟨#[]⟩ : ByteArray)] 47 (0, 0)) (bp_ BK405) NB405_408.out (by simp)); replace HB := mk_ (hb); replace HI408 := mk_ (hi); (try clear hb); (try clear hk); (try clear hi)) | ((with_reducible refine gate_dst (N := 7) rfl ?_); refine bx_ (N := 7) (cs := #[.int .i64 0, .int .i64 0, .slice none 0 0, .string (⟨#[]⟩ : ByteArray)]) (t := 47) ?_; intro gb417 hg w16 hbox hb; have n0_ := bb_ BK405 hb; have n1_ := mk_ (IsS118.below (IsS118.ii_ HI408) hb); have n2_ := mk_ (below_step (bwi_ HB (IsS118.ge HI408.out)) hb); have n3_ := mk_ (hbox); have n4_ := mk_ ((by rw [hg]; exact (below_size (bwi_ HB (IsS118.ge HI408.out))) : w.heap.size ≤ gb417)); have n5_ := mk_ ((by rw [hg]; exact (below_size (bwi_ HB (IsS118.ge HI408.out))) : w.heap.size ≤ gb417)); have n6_ : Aside0 (gb405 ≠ gb417) := bl_ BK405 hg; have n7_ : Aside0 (gb417 ≠ gb405) := bg_ BK405 hg; have n8_ := mk_ ((by rw [hg]; exact Nat.ne_of_lt (IsS118.lt (show IsS118 w _ gb408 t414 t415 t416 from IsS118.ii_ HI408)) : gb408 ≠ gb417)); have n9_ := mk_ ((by rw [hg]; exact Nat.ne_of_gt (IsS118.lt (show IsS118 w _ gb408 t414 t415 t416 from IsS118.ii_ HI408)) : gb417 ≠ gb408)); clear BK405; clear HI408; clear HB; have BK405 := n0_; have HI408 := n1_; have HB := n2_; have BK417 := n3_; have GW417 := n4_; have GE417 := n5_; have NB405_417 := n6_; have NB417_405 := n7_; have NB408_417 := n8_; have NB417_408 := n9_; clear n0_ n1_ n2_ n3_ n4_ n5_ n6_ n7_ n8_ n9_; clear hb hbox hg; have hnb17 := NB417_405.out; have hnc17 := NB405_417.out; have hnb18 := NB417_408.out; have hnc18 := NB408_417.out; obtain ⟨hcz19_0, hcz19_1, hcz19_2, hcz19_3, hfz19_0, hfz19_1, hfz19_2, hfz19_3⟩ := b4_ BK417) | ((with_reducible refine gate_callee (f := 93) rfl ?_); refine goesL_ (some 28) rfl rfl Tryz.func93 (by kernel_rfl) rfl #[.pointer (some ⟨gb408, 0, none⟩)] rfl ga_ ?_; (with_reducible refine (impl_reader_text.calls k gb408 t414 t415 t416 t418 t419 t420 t421 w _ ?side1 ?side2 A6.out).mono ?_); (case side1 => exact IsS118.ii_ HI408); (case side2 => exact bwi_ HB (IsS118.ge HI408.out)); rintro e w20 ⟨rfl, hi, hb, hk⟩; refine ⟨_, rfl, ?_⟩; replace BK405 := mk_ (KeepBut.blk hk (g' := gb405) (o := .cells #[.int .i64 0, .int .i64 0, .slice none 0 0, .string (⟨#[]⟩ : ByteArray)] 47 (0, 0)) bf_ NB405_408.out (by simp)); replace BK417 := mk_ (KeepBut.blk hk (g' := gb417) (o := .cells #[.int .i64 t409, .int .i64 t413, .slice none 0 0, .string (⟨#[]⟩ : ByteArray)] 47 (0, 0)) bu_ NB417_408.out (by simp)); replace HB := mk_ (hb); replace HI408 := mk_ (hi); (try clear hb); (try clear hk); (try clear hi)) | ((with_reducible refine gate_callee (f := 92) rfl ?_); refine goesL_ (some 29) rfl rfl Tryz.func92 (by kernel_rfl) rfl #[.string t418] rfl ga_ ?_; (with_reducible refine (impl_ReadConf.calls k t418 t422 t423 _ A7.out).mono ?_); rintro e w21 ⟨v424, rfl, ho0, hb⟩; refine ⟨_, rfl, ?_⟩; have n0_ := mk_ (Kd.R_lower ho0 (below_size (bwi_ HB (IsS118.ge HI408.out)))); have n1_ := bb_ BK405 hb; have n2_ := mk_ (IsS118.below (IsS118.ii_ HI408) hb); have n3_ := bb_ BK417 hb; have n4_ := mk_ (below_step (bwi_ HB (IsS118.ge HI408.out)) hb); clear BK405; clear HI408; clear BK417; clear HB; have HO425 := n0_; have BK405 := n1_; have HI408 := n2_; have BK417 := n3_; have HB := n4_; clear n0_ n1_ n2_ n3_ n4_; (try clear hb); (try clear hk); (try clear hi); (try clear ho0); obtain ⟨Ao22, co22, eo22⟩ := Kd.R_slice HO425.out; subst eo22; obtain ⟨hcz23_0, hcz23_1, hcz23_2, hcz23_3, hfz23_0, hfz23_1, hfz23_2, hfz23_3⟩ := b4_ BK417) | ((with_reducible refine gate_callee (f := 93) rfl ?_); refine goesL_ (some 34) rfl rfl Tryz.func93 (by kernel_rfl) rfl #[.pointer (some ⟨gb408, 0, none⟩)] rfl ga_ ?_; (with_reducible refine (impl_reader_text.calls k gb408 t419 t420 t421 t426 t427 t428 true w _ ?side1 ?side2 A8.out).mono ?_); (case side1 => exact IsS118.ii_ HI408); (case side2 => exact bwi_ HB (IsS118.ge HI408.out)); rintro e w24 ⟨rfl, hi, hb, hk⟩; refine ⟨_, rfl, ?_⟩; have n0_ := mk_ (KeepBut.blk hk (g' := gb405) (o := .cells #[.int .i64 0, .int .i64 0, .slice none 0 0, .string (⟨#[]⟩ : ByteArray)] 47 (0, 0)) bf_ NB405_408.out (by simp)); have n1_ := mk_ (KeepBut.blk hk (g' := gb417) (o := .cells #[.int .i64 t409, .int .i64 t413, .slice Ao22 t422.length co22, .string (⟨#[]⟩ : ByteArray)] 47 (0, 0)) bu_ NB417_408.out (by simp)); have n2_ := mk_ (Kd.R_mono (Kd.R_keep (IsS118.apart (show IsS118 w _ gb408 t419 t420 t421 from IsS118.ii_ HI408) (by (with_reducible repeat (first | apply Kd.R_alloc | apply Kd.R_drewN | apply Kd.R_drew)); exact (Kd.R_mono (Kd.R_far (p := ⟨gb417, 2, none⟩) (Kd.R_types HO425.out BK417.out (by decide)) (fun _ hk => hk.2) (.slice Ao22 t422.length co22)) (fun _ h_ => h_.1))) (by decide)) hk (fun _ h => h.2)) (fun _ h => h.1)); have n3_ := mk_ (hb); have n4_ := mk_ (hi); clear BK405; clear BK417; clear HO425; clear HB; clear HI408; have BK405 := n0_; have BK417 := n1_; have HO425 := n2_; have HB := n3_; have HI408 := n4_; clear n0_ n1_ n2_ n3_ n4_; (try clear hb); (try clear hk); (try clear hi); obtain ⟨hcz25_0, hcz25_1, hcz25_2, hcz25_3, hfz25_0, hfz25_1, hfz25_2, hfz25_3⟩ := b4_ BK417) | ((with_reducible refine gate_callee (f := 94) rfl ?_); refine goesL_ (some 38) rfl rfl Tryz.func94 (by kernel_rfl) rfl #[.agg #[.int .i64 t409, .int .i64 t413, .slice Ao22 t422.length co22, .string t426]] rfl ga_ ?_; (with_reducible refine (impl_SnapText.calls k t409 t413 _ _ t422 t426 t430 t431 _ ?side1 ?side2 A9.out).mono ?_); (case side1 => refine (Kd.R_reads' (e := 3) (base := w.heap.size) (ok := fun k_ => True) (n := t422.length) (c := co22) ?_).2.2; exact (by (with_reducible repeat (first | apply Kd.R_alloc | apply Kd.R_drewN | apply Kd.R_drew)); exact (Kd.R_mono (Kd.R_far (p := ⟨gb417, 3, none⟩) (Kd.R_types HO425.out BK417.out (by decide)) (fun _ hk => hk.2) (.string t426)) (fun _ h_ => h_.1)))); (case side2 => exact (Kd.R_reads' HO425.out).2.1); rintro e w26 ⟨rfl, hb⟩; refine ⟨_, rfl, ?_⟩; have n0_ := mk_ (Kd.R_below (by (with_reducible repeat (first | apply Kd.R_alloc | apply Kd.R_drewN | apply Kd.R_drew)); exact (Kd.R_mono (Kd.R_far (p := ⟨gb417, 3, none⟩) (Kd.R_types HO425.out BK417.out (by decide)) (fun _ hk => hk.2) (.string t426)) (fun _ h_ => h_.1))) hb); have n1_ := mk_ (blk_below (g := gb405) (o := .cells #[.int .i64 0, .int .i64 0, .slice none 0 0, .string (⟨#[]⟩ : ByteArray)] 47 (0, 0)) bf_ hb); have n2_ := mk_ (IsS118.below (show IsS118 w (w24.setCell ⟨gb417, 3, none⟩ (.string t426)) gb408 t427 t428 true from IsS118.ii_ HI408) hb); have n3_ := mk_ (blk_below (g := gb417) (o := .cells #[.int .i64 t409, .int .i64 t413, .slice Ao22 t422.length co22, .string t426] 47 (0, 0)) bu_ hb); have n4_ := mk_ (below_step (bwi_ HB (IsS118.ge HI408.out)) hb); clear HO425; clear BK405; clear HI408; clear BK417; clear HB; have HO425 := n0_; have BK405 := n1_; have HI408 := n2_; have BK417 := n3_; have HB := n4_; clear n0_ n1_ n2_ n3_ n4_; (try clear hb); (try clear hk); (try clear hi); obtain ⟨HGz27, hgz27⟩ := HI408.out; have hcz27_0 := cellS118_0 HGz27; have hcz27_1 := cellS118_1 HGz27; have hcz27_2 := cellS118_2 HGz27; have hfz27_0 := blk_frozen HGz27 0; have hfz27_1 := blk_frozen HGz27 1; have hfz27_2 := blk_frozen HGz27 2; clear HGz27 hgz27; have hnb28 := NB405_408.out; have hnc28 := NB408_405.out; obtain ⟨hcz29_0, hcz29_1, hcz29_2, hcz29_3, hfz29_0, hfz29_1, hfz29_2, hfz29_3⟩ := b4_ BK405))
   refine bodyPost_ret (results_ct rfl _ _ gb405 47 #[.int .i64 0, .int .i64 0, .slice none 0 0, .string (⟨#[]⟩ : ByteArray)] (0, 0) _ rfl bu_ Tryz.underlying47 rfl (by kernel_rfl)) rfl ?_
   exact ⟨_, er_, by first | exact Kd.R_nil _ _ _ _ _ | exact Kd.N_nil _ _ _ _ _ | exact Kd.V_nil _ _ _ _ _ | exact Kd.Q_nil _ _ _ _ _ | exact Kd.S_nil _ _ _ _ _, bwi_ HB (IsS118.ge HI408.out)⟩
  ·replace c10 := Bool.eq_false_iff.mpr c10
   subst c10
   have H1 : (if t431 = true then (if t430.toList = a0.toList then (some (t409, t413, t422, t426, true)) else (some (0, 0, ([] : List Int), (⟨#[]⟩ : ByteArray), false))) else (some (0, 0, ([] : List Int), (⟨#[]⟩ : ByteArray), false))) = some (r1, r2, r3, r4, r5) := by rw [if_neg (show ¬ (false = true) by decide)] at H; exact H
   clear H
   have H := H1
   clear H1
   by_cases c30 : t431 = true
   ·subst c30
    have H1 : (if t430.toList = a0.toList then (some (t409, t413, t422, t426, true)) else (some (0, 0, ([] : List Int), (⟨#[]⟩ : ByteArray), false))) = some (r1, r2, r3, r4, r5) := by rw [if_pos rfl] at H; exact H
    clear H
    have H := H1
    clear H1
    by_cases c31 : t430.toList = a0.toList
    ·rw [if_pos c31] at H
     have c31b0 : (t430.toList == a0.toList) = true := beq_iff_eq.mpr c31
     have c31b1 : (t430.toList != a0.toList) = false := bne_eq_false_iff_eq.mpr c31
     clear c31
     simp only [Option.some.injEq, Prod.mk.injEq] at H
     obtain ⟨rfl, rfl, rfl, rfl, rfl⟩ := H
     go_enter Tryz.func50, Tryz.ntmps50
     go_wp2_with (first | ((with_reducible refine gate_dst (N := 2) rfl ?_); refine bx_ (N := 2) (cs := #[.int .i64 0, .int .i64 0, .slice none 0 0, .string (⟨#[]⟩ : ByteArray)]) (t := 47) ?_; intro gb405 hg w32 hbox hb; have BK405 := mk_ (hbox); have GW405 : Aside0 (w.heap.size ≤ gb405) := bz_ hg; have GE405 := GW405; replace HB := bs_ HB hb; clear hb hbox hg) | ((with_reducible refine gate_callee (f := 90) rfl ?_); refine goesL_ (some 12) rfl rfl Tryz.func90 (by kernel_rfl) rfl #[.string a0] rfl ga_ ?_; (with_reducible refine (impl_Unsealed.calls k a0 t406 true _ A2.out).mono ?_); rintro e w33 ⟨rfl, hb⟩; refine ⟨_, rfl, ?_⟩; replace BK405 := bb_ BK405 hb; replace HB := bs_ HB hb; (try clear hb); (try clear hk); (try clear hi)) | ((with_reducible refine gate_dst (N := 20) rfl ?_); refine bx_ (N := 20) (cs := #[.string t406, .int .i64 0, .bool false]) (t := 118) ?_; intro gb408 hg w34 hbox hb; have GW408 : Aside0 (w.heap.size ≤ gb408) := bz_ hg; have GE408 := GW408; have NB405_408 := bl_ BK405 hg; have NB408_405 := bg_ BK405 hg; have HI408 := mk_ ((⟨hbox, (by rw [hg]; exact (below_size (bw_ HB)) : w.heap.size ≤ gb408)⟩ : IsS118 w w34 gb408 t406 0 false)); replace BK405 := bb_ BK405 hb; replace HB := bs_ HB hb; clear hb hbox hg) | ((with_reducible refine gate_callee (f := 91) rfl ?_); refine goesL_ (some 22) rfl rfl Tryz.func91 (by kernel_rfl) rfl #[.pointer (some ⟨gb408, 0, none⟩)] rfl ga_ ?_; (with_reducible refine (impl_reader_num.calls k gb408 t406 0 false t409 t410 t411 t412 w _ ?side1 ?side2 A4.out).mono ?_); (case side1 => exact IsS118.ii_ HI408); (case side2 => exact bwi_ HB (IsS118.ge HI408.out)); rintro e w35 ⟨rfl, hi, hb, hk⟩; refine ⟨_, rfl, ?_⟩; replace BK405 := mk_ (KeepBut.blk hk (g' := gb405) (o := .cells #[.int .i64 0, .int .i64 0, .slice none 0 0, .string (⟨#[]⟩ : ByteArray)] 47 (0, 0)) (bp_ BK405) NB405_408.out (by simp)); replace HB := mk_ (hb); replace HI408 := mk_ (hi); (try clear hb); (try clear hk); (try clear hi)) | ((with_reducible refine gate_callee (f := 91) rfl ?_); refine goesL_ (some 24) rfl rfl Tryz.func91 (by kernel_rfl) rfl #[.pointer (some ⟨gb408, 0, none⟩)] rfl ga_ ?_; (with_reducible refine (impl_reader_num.calls k gb408 t410 t411 t412 t413 t414 t415 t416 w _ ?side1 ?side2 A5.out).mono ?_); (case side1 => exact IsS118.ii_ HI408); (case side2 => exact bwi_ HB (IsS118.ge HI408.out)); rintro e w36 ⟨rfl, hi, hb, hk⟩; refine ⟨_, rfl, ?_⟩; replace BK405 := mk_ (KeepBut.blk hk (g' := gb405) (o := .cells #[.int .i64 0, .int .i64 0, .slice none 0 0, .string (⟨#[]⟩ : ByteArray)] 47 (0, 0)) (bp_ BK405) NB405_408.out (by simp)); replace HB := mk_ (hb); replace HI408 := mk_ (hi); (try clear hb); (try clear hk); (try clear hi)) | ((with_reducible refine gate_dst (N := 7) rfl ?_); refine bx_ (N := 7) (cs := #[.int .i64 0, .int .i64 0, .slice none 0 0, .string (⟨#[]⟩ : ByteArray)]) (t := 47) ?_; intro gb417 hg w37 hbox hb; have n0_ := bb_ BK405 hb; have n1_ := mk_ (IsS118.below (IsS118.ii_ HI408) hb); have n2_ := mk_ (below_step (bwi_ HB (IsS118.ge HI408.out)) hb); have n3_ := mk_ (hbox); have n4_ := mk_ ((by rw [hg]; exact (below_size (bwi_ HB (IsS118.ge HI408.out))) : w.heap.size ≤ gb417)); have n5_ := mk_ ((by rw [hg]; exact (below_size (bwi_ HB (IsS118.ge HI408.out))) : w.heap.size ≤ gb417)); have n6_ : Aside0 (gb405 ≠ gb417) := bl_ BK405 hg; have n7_ : Aside0 (gb417 ≠ gb405) := bg_ BK405 hg; have n8_ := mk_ ((by rw [hg]; exact Nat.ne_of_lt (IsS118.lt (show IsS118 w _ gb408 t414 t415 t416 from IsS118.ii_ HI408)) : gb408 ≠ gb417)); have n9_ := mk_ ((by rw [hg]; exact Nat.ne_of_gt (IsS118.lt (show IsS118 w _ gb408 t414 t415 t416 from IsS118.ii_ HI408)) : gb417 ≠ gb408)); clear BK405; clear HI408; clear HB; have BK405 := n0_; have HI408 := n1_; have HB := n2_; have BK417 := n3_; have GW417 := n4_; have GE417 := n5_; have NB405_417 := n6_; have NB417_405 := n7_; have NB408_417 := n8_; have NB417_408 := n9_; clear n0_ n1_ n2_ n3_ n4_ n5_ n6_ n7_ n8_ n9_; clear hb hbox hg; have hnb38 := NB417_405.out; have hnc38 := NB405_417.out; have hnb39 := NB417_408.out; have hnc39 := NB408_417.out; obtain ⟨hcz40_0, hcz40_1, hcz40_2, hcz40_3, hfz40_0, hfz40_1, hfz40_2, hfz40_3⟩ := b4_ BK417) | ((with_reducible refine gate_callee (f := 93) rfl ?_); refine goesL_ (some 28) rfl rfl Tryz.func93 (by kernel_rfl) rfl #[.pointer (some ⟨gb408, 0, none⟩)] rfl ga_ ?_; (with_reducible refine (impl_reader_text.calls k gb408 t414 t415 t416 t418 t419 t420 t421 w _ ?side1 ?side2 A6.out).mono ?_); (case side1 => exact IsS118.ii_ HI408); (case side2 => exact bwi_ HB (IsS118.ge HI408.out)); rintro e w41 ⟨rfl, hi, hb, hk⟩; refine ⟨_, rfl, ?_⟩; replace BK405 := mk_ (KeepBut.blk hk (g' := gb405) (o := .cells #[.int .i64 0, .int .i64 0, .slice none 0 0, .string (⟨#[]⟩ : ByteArray)] 47 (0, 0)) bf_ NB405_408.out (by simp)); replace BK417 := mk_ (KeepBut.blk hk (g' := gb417) (o := .cells #[.int .i64 t409, .int .i64 t413, .slice none 0 0, .string (⟨#[]⟩ : ByteArray)] 47 (0, 0)) bu_ NB417_408.out (by simp)); replace HB := mk_ (hb); replace HI408 := mk_ (hi); (try clear hb); (try clear hk); (try clear hi)) | ((with_reducible refine gate_callee (f := 92) rfl ?_); refine goesL_ (some 29) rfl rfl Tryz.func92 (by kernel_rfl) rfl #[.string t418] rfl ga_ ?_; (with_reducible refine (impl_ReadConf.calls k t418 t422 t423 _ A7.out).mono ?_); rintro e w42 ⟨v424, rfl, ho0, hb⟩; refine ⟨_, rfl, ?_⟩; have n0_ := mk_ (Kd.R_lower ho0 (below_size (bwi_ HB (IsS118.ge HI408.out)))); have n1_ := bb_ BK405 hb; have n2_ := mk_ (IsS118.below (IsS118.ii_ HI408) hb); have n3_ := bb_ BK417 hb; have n4_ := mk_ (below_step (bwi_ HB (IsS118.ge HI408.out)) hb); clear BK405; clear HI408; clear BK417; clear HB; have HO425 := n0_; have BK405 := n1_; have HI408 := n2_; have BK417 := n3_; have HB := n4_; clear n0_ n1_ n2_ n3_ n4_; (try clear hb); (try clear hk); (try clear hi); (try clear ho0); obtain ⟨Ao43, co43, eo43⟩ := Kd.R_slice HO425.out; subst eo43; obtain ⟨hcz44_0, hcz44_1, hcz44_2, hcz44_3, hfz44_0, hfz44_1, hfz44_2, hfz44_3⟩ := b4_ BK417) | ((with_reducible refine gate_callee (f := 93) rfl ?_); refine goesL_ (some 34) rfl rfl Tryz.func93 (by kernel_rfl) rfl #[.pointer (some ⟨gb408, 0, none⟩)] rfl ga_ ?_; (with_reducible refine (impl_reader_text.calls k gb408 t419 t420 t421 t426 t427 t428 false w _ ?side1 ?side2 A8.out).mono ?_); (case side1 => exact IsS118.ii_ HI408); (case side2 => exact bwi_ HB (IsS118.ge HI408.out)); rintro e w45 ⟨rfl, hi, hb, hk⟩; refine ⟨_, rfl, ?_⟩; have n0_ := mk_ (KeepBut.blk hk (g' := gb405) (o := .cells #[.int .i64 0, .int .i64 0, .slice none 0 0, .string (⟨#[]⟩ : ByteArray)] 47 (0, 0)) bf_ NB405_408.out (by simp)); have n1_ := mk_ (KeepBut.blk hk (g' := gb417) (o := .cells #[.int .i64 t409, .int .i64 t413, .slice Ao43 t422.length co43, .string (⟨#[]⟩ : ByteArray)] 47 (0, 0)) bu_ NB417_408.out (by simp)); have n2_ := mk_ (Kd.R_mono (Kd.R_keep (IsS118.apart (show IsS118 w _ gb408 t419 t420 t421 from IsS118.ii_ HI408) (by (with_reducible repeat (first | apply Kd.R_alloc | apply Kd.R_drewN | apply Kd.R_drew)); exact (Kd.R_mono (Kd.R_far (p := ⟨gb417, 2, none⟩) (Kd.R_types HO425.out BK417.out (by decide)) (fun _ hk => hk.2) (.slice Ao43 t422.length co43)) (fun _ h_ => h_.1))) (by decide)) hk (fun _ h => h.2)) (fun _ h => h.1)); have n3_ := mk_ (hb); have n4_ := mk_ (hi); clear BK405; clear BK417; clear HO425; clear HB; clear HI408; have BK405 := n0_; have BK417 := n1_; have HO425 := n2_; have HB := n3_; have HI408 := n4_; clear n0_ n1_ n2_ n3_ n4_; (try clear hb); (try clear hk); (try clear hi); obtain ⟨hcz46_0, hcz46_1, hcz46_2, hcz46_3, hfz46_0, hfz46_1, hfz46_2, hfz46_3⟩ := b4_ BK417) | ((with_reducible refine gate_callee (f := 94) rfl ?_); refine goesL_ (some 38) rfl rfl Tryz.func94 (by kernel_rfl) rfl #[.agg #[.int .i64 t409, .int .i64 t413, .slice Ao43 t422.length co43, .string t426]] rfl ga_ ?_; (with_reducible refine (impl_SnapText.calls k t409 t413 _ _ t422 t426 t430 true _ ?side1 ?side2 A9.out).mono ?_); (case side1 => refine (Kd.R_reads' (e := 3) (base := w.heap.size) (ok := fun k_ => True) (n := t422.length) (c := co43) ?_).2.2; exact (by (with_reducible repeat (first | apply Kd.R_alloc | apply Kd.R_drewN | apply Kd.R_drew)); exact (Kd.R_mono (Kd.R_far (p := ⟨gb417, 3, none⟩) (Kd.R_types HO425.out BK417.out (by decide)) (fun _ hk => hk.2) (.string t426)) (fun _ h_ => h_.1)))); (case side2 => exact (Kd.R_reads' HO425.out).2.1); rintro e w47 ⟨rfl, hb⟩; refine ⟨_, rfl, ?_⟩; have n0_ := mk_ (Kd.R_below (by (with_reducible repeat (first | apply Kd.R_alloc | apply Kd.R_drewN | apply Kd.R_drew)); exact (Kd.R_mono (Kd.R_far (p := ⟨gb417, 3, none⟩) (Kd.R_types HO425.out BK417.out (by decide)) (fun _ hk => hk.2) (.string t426)) (fun _ h_ => h_.1))) hb); have n1_ := mk_ (blk_below (g := gb405) (o := .cells #[.int .i64 0, .int .i64 0, .slice none 0 0, .string (⟨#[]⟩ : ByteArray)] 47 (0, 0)) bf_ hb); have n2_ := mk_ (IsS118.below (show IsS118 w (w45.setCell ⟨gb417, 3, none⟩ (.string t426)) gb408 t427 t428 false from IsS118.ii_ HI408) hb); have n3_ := mk_ (blk_below (g := gb417) (o := .cells #[.int .i64 t409, .int .i64 t413, .slice Ao43 t422.length co43, .string t426] 47 (0, 0)) bu_ hb); have n4_ := mk_ (below_step (bwi_ HB (IsS118.ge HI408.out)) hb); clear HO425; clear BK405; clear HI408; clear BK417; clear HB; have HO425 := n0_; have BK405 := n1_; have HI408 := n2_; have BK417 := n3_; have HB := n4_; clear n0_ n1_ n2_ n3_ n4_; (try clear hb); (try clear hk); (try clear hi); obtain ⟨HGz48, hgz48⟩ := HI408.out; have hcz48_0 := cellS118_0 HGz48; have hcz48_1 := cellS118_1 HGz48; have hcz48_2 := cellS118_2 HGz48; have hfz48_0 := blk_frozen HGz48 0; have hfz48_1 := blk_frozen HGz48 1; have hfz48_2 := blk_frozen HGz48 2; clear HGz48 hgz48; obtain ⟨hcz49_0, hcz49_1, hcz49_2, hcz49_3, hfz49_0, hfz49_1, hfz49_2, hfz49_3⟩ := b4_ BK417; have hnb50 := NB405_408.out; have hnc50 := NB408_405.out; obtain ⟨hcz51_0, hcz51_1, hcz51_2, hcz51_3, hfz51_0, hfz51_1, hfz51_2, hfz51_3⟩ := b4_ BK405))
     refine bodyPost_ret (results_ct rfl _ _ gb405 47 #[.int .i64 t409, .int .i64 t413, .slice Ao43 t422.length co43, .string t426] (0, 0) _ rfl bu_ Tryz.underlying47 rfl (by kernel_rfl)) rfl ?_
     exact ⟨_, er_, by (with_reducible repeat (first | apply Kd.R_alloc | apply Kd.R_drewN | apply Kd.R_drew)); exact Kd.R_mono (Kd.R_far (p := ⟨gb405, 3, none⟩) (Kd.R_far (p := ⟨gb405, 2, none⟩) (Kd.R_far (p := ⟨gb405, 1, none⟩) (Kd.R_far (p := ⟨gb405, 0, none⟩) (Kd.R_types HO425.out BK405.out (by decide)) (fun _ hk => hk.2) (.int .i64 t409)) (fun _ hk => hk.2) (.int .i64 t413)) (fun _ hk => hk.2) (.slice Ao43 t422.length co43)) (fun _ hk => hk.2) (.string t426)) (fun _ hk => trivial), bwi_ HB (IsS118.ge HI408.out)⟩
    ·rw [if_neg c31] at H
     have c31b0 : (t430.toList == a0.toList) = false := beq_eq_false_iff_ne.mpr c31
     have c31b1 : (t430.toList != a0.toList) = true := bne_iff_ne.mpr c31
     simp only [Option.some.injEq, Prod.mk.injEq] at H
     obtain ⟨rfl, rfl, rfl, rfl, rfl⟩ := H
     go_enter Tryz.func50, Tryz.ntmps50
     go_wp2_with (first | ((with_reducible refine gate_dst (N := 2) rfl ?_); refine bx_ (N := 2) (cs := #[.int .i64 0, .int .i64 0, .slice none 0 0, .string (⟨#[]⟩ : ByteArray)]) (t := 47) ?_; intro gb405 hg w52 hbox hb; have BK405 := mk_ (hbox); have GW405 : Aside0 (w.heap.size ≤ gb405) := bz_ hg; have GE405 := GW405; replace HB := bs_ HB hb; clear hb hbox hg) | ((with_reducible refine gate_callee (f := 90) rfl ?_); refine goesL_ (some 12) rfl rfl Tryz.func90 (by kernel_rfl) rfl #[.string a0] rfl ga_ ?_; (with_reducible refine (impl_Unsealed.calls k a0 t406 true _ A2.out).mono ?_); rintro e w53 ⟨rfl, hb⟩; refine ⟨_, rfl, ?_⟩; replace BK405 := bb_ BK405 hb; replace HB := bs_ HB hb; (try clear hb); (try clear hk); (try clear hi)) | ((with_reducible refine gate_dst (N := 20) rfl ?_); refine bx_ (N := 20) (cs := #[.string t406, .int .i64 0, .bool false]) (t := 118) ?_; intro gb408 hg w54 hbox hb; have GW408 : Aside0 (w.heap.size ≤ gb408) := bz_ hg; have GE408 := GW408; have NB405_408 := bl_ BK405 hg; have NB408_405 := bg_ BK405 hg; have HI408 := mk_ ((⟨hbox, (by rw [hg]; exact (below_size (bw_ HB)) : w.heap.size ≤ gb408)⟩ : IsS118 w w54 gb408 t406 0 false)); replace BK405 := bb_ BK405 hb; replace HB := bs_ HB hb; clear hb hbox hg) | ((with_reducible refine gate_callee (f := 91) rfl ?_); refine goesL_ (some 22) rfl rfl Tryz.func91 (by kernel_rfl) rfl #[.pointer (some ⟨gb408, 0, none⟩)] rfl ga_ ?_; (with_reducible refine (impl_reader_num.calls k gb408 t406 0 false t409 t410 t411 t412 w _ ?side1 ?side2 A4.out).mono ?_); (case side1 => exact IsS118.ii_ HI408); (case side2 => exact bwi_ HB (IsS118.ge HI408.out)); rintro e w55 ⟨rfl, hi, hb, hk⟩; refine ⟨_, rfl, ?_⟩; replace BK405 := mk_ (KeepBut.blk hk (g' := gb405) (o := .cells #[.int .i64 0, .int .i64 0, .slice none 0 0, .string (⟨#[]⟩ : ByteArray)] 47 (0, 0)) (bp_ BK405) NB405_408.out (by simp)); replace HB := mk_ (hb); replace HI408 := mk_ (hi); (try clear hb); (try clear hk); (try clear hi)) | ((with_reducible refine gate_callee (f := 91) rfl ?_); refine goesL_ (some 24) rfl rfl Tryz.func91 (by kernel_rfl) rfl #[.pointer (some ⟨gb408, 0, none⟩)] rfl ga_ ?_; (with_reducible refine (impl_reader_num.calls k gb408 t410 t411 t412 t413 t414 t415 t416 w _ ?side1 ?side2 A5.out).mono ?_); (case side1 => exact IsS118.ii_ HI408); (case side2 => exact bwi_ HB (IsS118.ge HI408.out)); rintro e w56 ⟨rfl, hi, hb, hk⟩; refine ⟨_, rfl, ?_⟩; replace BK405 := mk_ (KeepBut.blk hk (g' := gb405) (o := .cells #[.int .i64 0, .int .i64 0, .slice none 0 0, .string (⟨#[]⟩ : ByteArray)] 47 (0, 0)) (bp_ BK405) NB405_408.out (by simp)); replace HB := mk_ (hb); replace HI408 := mk_ (hi); (try clear hb); (try clear hk); (try clear hi)) | ((with_reducible refine gate_dst (N := 7) rfl ?_); refine bx_ (N := 7) (cs := #[.int .i64 0, .int .i64 0, .slice none 0 0, .string (⟨#[]⟩ : ByteArray)]) (t := 47) ?_; intro gb417 hg w57 hbox hb; have n0_ := bb_ BK405 hb; have n1_ := mk_ (IsS118.below (IsS118.ii_ HI408) hb); have n2_ := mk_ (below_step (bwi_ HB (IsS118.ge HI408.out)) hb); have n3_ := mk_ (hbox); have n4_ := mk_ ((by rw [hg]; exact (below_size (bwi_ HB (IsS118.ge HI408.out))) : w.heap.size ≤ gb417)); have n5_ := mk_ ((by rw [hg]; exact (below_size (bwi_ HB (IsS118.ge HI408.out))) : w.heap.size ≤ gb417)); have n6_ : Aside0 (gb405 ≠ gb417) := bl_ BK405 hg; have n7_ : Aside0 (gb417 ≠ gb405) := bg_ BK405 hg; have n8_ := mk_ ((by rw [hg]; exact Nat.ne_of_lt (IsS118.lt (show IsS118 w _ gb408 t414 t415 t416 from IsS118.ii_ HI408)) : gb408 ≠ gb417)); have n9_ := mk_ ((by rw [hg]; exact Nat.ne_of_gt (IsS118.lt (show IsS118 w _ gb408 t414 t415 t416 from IsS118.ii_ HI408)) : gb417 ≠ gb408)); clear BK405; clear HI408; clear HB; have BK405 := n0_; have HI408 := n1_; have HB := n2_; have BK417 := n3_; have GW417 := n4_; have GE417 := n5_; have NB405_417 := n6_; have NB417_405 := n7_; have NB408_417 := n8_; have NB417_408 := n9_; clear n0_ n1_ n2_ n3_ n4_ n5_ n6_ n7_ n8_ n9_; clear hb hbox hg; have hnb58 := NB417_405.out; have hnc58 := NB405_417.out; have hnb59 := NB417_408.out; have hnc59 := NB408_417.out; obtain ⟨hcz60_0, hcz60_1, hcz60_2, hcz60_3, hfz60_0, hfz60_1, hfz60_2, hfz60_3⟩ := b4_ BK417) | ((with_reducible refine gate_callee (f := 93) rfl ?_); refine goesL_ (some 28) rfl rfl Tryz.func93 (by kernel_rfl) rfl #[.pointer (some ⟨gb408, 0, none⟩)] rfl ga_ ?_; (with_reducible refine (impl_reader_text.calls k gb408 t414 t415 t416 t418 t419 t420 t421 w _ ?side1 ?side2 A6.out).mono ?_); (case side1 => exact IsS118.ii_ HI408); (case side2 => exact bwi_ HB (IsS118.ge HI408.out)); rintro e w61 ⟨rfl, hi, hb, hk⟩; refine ⟨_, rfl, ?_⟩; replace BK405 := mk_ (KeepBut.blk hk (g' := gb405) (o := .cells #[.int .i64 0, .int .i64 0, .slice none 0 0, .string (⟨#[]⟩ : ByteArray)] 47 (0, 0)) bf_ NB405_408.out (by simp)); replace BK417 := mk_ (KeepBut.blk hk (g' := gb417) (o := .cells #[.int .i64 t409, .int .i64 t413, .slice none 0 0, .string (⟨#[]⟩ : ByteArray)] 47 (0, 0)) bu_ NB417_408.out (by simp)); replace HB := mk_ (hb); replace HI408 := mk_ (hi); (try clear hb); (try clear hk); (try clear hi)) | ((with_reducible refine gate_callee (f := 92) rfl ?_); refine goesL_ (some 29) rfl rfl Tryz.func92 (by kernel_rfl) rfl #[.string t418] rfl ga_ ?_; (with_reducible refine (impl_ReadConf.calls k t418 t422 t423 _ A7.out).mono ?_); rintro e w62 ⟨v424, rfl, ho0, hb⟩; refine ⟨_, rfl, ?_⟩; have n0_ := mk_ (Kd.R_lower ho0 (below_size (bwi_ HB (IsS118.ge HI408.out)))); have n1_ := bb_ BK405 hb; have n2_ := mk_ (IsS118.below (IsS118.ii_ HI408) hb); have n3_ := bb_ BK417 hb; have n4_ := mk_ (below_step (bwi_ HB (IsS118.ge HI408.out)) hb); clear BK405; clear HI408; clear BK417; clear HB; have HO425 := n0_; have BK405 := n1_; have HI408 := n2_; have BK417 := n3_; have HB := n4_; clear n0_ n1_ n2_ n3_ n4_; (try clear hb); (try clear hk); (try clear hi); (try clear ho0); obtain ⟨Ao63, co63, eo63⟩ := Kd.R_slice HO425.out; subst eo63; obtain ⟨hcz64_0, hcz64_1, hcz64_2, hcz64_3, hfz64_0, hfz64_1, hfz64_2, hfz64_3⟩ := b4_ BK417) | ((with_reducible refine gate_callee (f := 93) rfl ?_); refine goesL_ (some 34) rfl rfl Tryz.func93 (by kernel_rfl) rfl #[.pointer (some ⟨gb408, 0, none⟩)] rfl ga_ ?_; (with_reducible refine (impl_reader_text.calls k gb408 t419 t420 t421 t426 t427 t428 false w _ ?side1 ?side2 A8.out).mono ?_); (case side1 => exact IsS118.ii_ HI408); (case side2 => exact bwi_ HB (IsS118.ge HI408.out)); rintro e w65 ⟨rfl, hi, hb, hk⟩; refine ⟨_, rfl, ?_⟩; have n0_ := mk_ (KeepBut.blk hk (g' := gb405) (o := .cells #[.int .i64 0, .int .i64 0, .slice none 0 0, .string (⟨#[]⟩ : ByteArray)] 47 (0, 0)) bf_ NB405_408.out (by simp)); have n1_ := mk_ (KeepBut.blk hk (g' := gb417) (o := .cells #[.int .i64 t409, .int .i64 t413, .slice Ao63 t422.length co63, .string (⟨#[]⟩ : ByteArray)] 47 (0, 0)) bu_ NB417_408.out (by simp)); have n2_ := mk_ (Kd.R_mono (Kd.R_keep (IsS118.apart (show IsS118 w _ gb408 t419 t420 t421 from IsS118.ii_ HI408) (by (with_reducible repeat (first | apply Kd.R_alloc | apply Kd.R_drewN | apply Kd.R_drew)); exact (Kd.R_mono (Kd.R_far (p := ⟨gb417, 2, none⟩) (Kd.R_types HO425.out BK417.out (by decide)) (fun _ hk => hk.2) (.slice Ao63 t422.length co63)) (fun _ h_ => h_.1))) (by decide)) hk (fun _ h => h.2)) (fun _ h => h.1)); have n3_ := mk_ (hb); have n4_ := mk_ (hi); clear BK405; clear BK417; clear HO425; clear HB; clear HI408; have BK405 := n0_; have BK417 := n1_; have HO425 := n2_; have HB := n3_; have HI408 := n4_; clear n0_ n1_ n2_ n3_ n4_; (try clear hb); (try clear hk); (try clear hi); obtain ⟨hcz66_0, hcz66_1, hcz66_2, hcz66_3, hfz66_0, hfz66_1, hfz66_2, hfz66_3⟩ := b4_ BK417) | ((with_reducible refine gate_callee (f := 94) rfl ?_); refine goesL_ (some 38) rfl rfl Tryz.func94 (by kernel_rfl) rfl #[.agg #[.int .i64 t409, .int .i64 t413, .slice Ao63 t422.length co63, .string t426]] rfl ga_ ?_; (with_reducible refine (impl_SnapText.calls k t409 t413 _ _ t422 t426 t430 true _ ?side1 ?side2 A9.out).mono ?_); (case side1 => refine (Kd.R_reads' (e := 3) (base := w.heap.size) (ok := fun k_ => True) (n := t422.length) (c := co63) ?_).2.2; exact (by (with_reducible repeat (first | apply Kd.R_alloc | apply Kd.R_drewN | apply Kd.R_drew)); exact (Kd.R_mono (Kd.R_far (p := ⟨gb417, 3, none⟩) (Kd.R_types HO425.out BK417.out (by decide)) (fun _ hk => hk.2) (.string t426)) (fun _ h_ => h_.1)))); (case side2 => exact (Kd.R_reads' HO425.out).2.1); rintro e w67 ⟨rfl, hb⟩; refine ⟨_, rfl, ?_⟩; have n0_ := mk_ (Kd.R_below (by (with_reducible repeat (first | apply Kd.R_alloc | apply Kd.R_drewN | apply Kd.R_drew)); exact (Kd.R_mono (Kd.R_far (p := ⟨gb417, 3, none⟩) (Kd.R_types HO425.out BK417.out (by decide)) (fun _ hk => hk.2) (.string t426)) (fun _ h_ => h_.1))) hb); have n1_ := mk_ (blk_below (g := gb405) (o := .cells #[.int .i64 0, .int .i64 0, .slice none 0 0, .string (⟨#[]⟩ : ByteArray)] 47 (0, 0)) bf_ hb); have n2_ := mk_ (IsS118.below (show IsS118 w (w65.setCell ⟨gb417, 3, none⟩ (.string t426)) gb408 t427 t428 false from IsS118.ii_ HI408) hb); have n3_ := mk_ (blk_below (g := gb417) (o := .cells #[.int .i64 t409, .int .i64 t413, .slice Ao63 t422.length co63, .string t426] 47 (0, 0)) bu_ hb); have n4_ := mk_ (below_step (bwi_ HB (IsS118.ge HI408.out)) hb); clear HO425; clear BK405; clear HI408; clear BK417; clear HB; have HO425 := n0_; have BK405 := n1_; have HI408 := n2_; have BK417 := n3_; have HB := n4_; clear n0_ n1_ n2_ n3_ n4_; (try clear hb); (try clear hk); (try clear hi); obtain ⟨HGz68, hgz68⟩ := HI408.out; have hcz68_0 := cellS118_0 HGz68; have hcz68_1 := cellS118_1 HGz68; have hcz68_2 := cellS118_2 HGz68; have hfz68_0 := blk_frozen HGz68 0; have hfz68_1 := blk_frozen HGz68 1; have hfz68_2 := blk_frozen HGz68 2; clear HGz68 hgz68; have hnb69 := NB405_408.out; have hnc69 := NB408_405.out; obtain ⟨hcz70_0, hcz70_1, hcz70_2, hcz70_3, hfz70_0, hfz70_1, hfz70_2, hfz70_3⟩ := b4_ BK405))
     refine bodyPost_ret (results_ct rfl _ _ gb405 47 #[.int .i64 0, .int .i64 0, .slice none 0 0, .string (⟨#[]⟩ : ByteArray)] (0, 0) _ rfl bu_ Tryz.underlying47 rfl (by kernel_rfl)) rfl ?_
     exact ⟨_, er_, by first | exact Kd.R_nil _ _ _ _ _ | exact Kd.N_nil _ _ _ _ _ | exact Kd.V_nil _ _ _ _ _ | exact Kd.Q_nil _ _ _ _ _ | exact Kd.S_nil _ _ _ _ _, bwi_ HB (IsS118.ge HI408.out)⟩
   ·replace c30 := Bool.eq_false_iff.mpr c30
    subst c30
    have H1 : (some (0, 0, ([] : List Int), (⟨#[]⟩ : ByteArray), false)) = some (r1, r2, r3, r4, r5) := by rw [if_neg (show ¬ (false = true) by decide)] at H; exact H
    clear H
    have H := H1
    clear H1
    simp only [Option.some.injEq, Prod.mk.injEq] at H
    obtain ⟨rfl, rfl, rfl, rfl, rfl⟩ := H
    go_enter Tryz.func50, Tryz.ntmps50
    go_wp2_with (first | ((with_reducible refine gate_dst (N := 2) rfl ?_); refine bx_ (N := 2) (cs := #[.int .i64 0, .int .i64 0, .slice none 0 0, .string (⟨#[]⟩ : ByteArray)]) (t := 47) ?_; intro gb405 hg w71 hbox hb; have BK405 := mk_ (hbox); have GW405 : Aside0 (w.heap.size ≤ gb405) := bz_ hg; have GE405 := GW405; replace HB := bs_ HB hb; clear hb hbox hg) | ((with_reducible refine gate_callee (f := 90) rfl ?_); refine goesL_ (some 12) rfl rfl Tryz.func90 (by kernel_rfl) rfl #[.string a0] rfl ga_ ?_; (with_reducible refine (impl_Unsealed.calls k a0 t406 true _ A2.out).mono ?_); rintro e w72 ⟨rfl, hb⟩; refine ⟨_, rfl, ?_⟩; replace BK405 := bb_ BK405 hb; replace HB := bs_ HB hb; (try clear hb); (try clear hk); (try clear hi)) | ((with_reducible refine gate_dst (N := 20) rfl ?_); refine bx_ (N := 20) (cs := #[.string t406, .int .i64 0, .bool false]) (t := 118) ?_; intro gb408 hg w73 hbox hb; have GW408 : Aside0 (w.heap.size ≤ gb408) := bz_ hg; have GE408 := GW408; have NB405_408 := bl_ BK405 hg; have NB408_405 := bg_ BK405 hg; have HI408 := mk_ ((⟨hbox, (by rw [hg]; exact (below_size (bw_ HB)) : w.heap.size ≤ gb408)⟩ : IsS118 w w73 gb408 t406 0 false)); replace BK405 := bb_ BK405 hb; replace HB := bs_ HB hb; clear hb hbox hg) | ((with_reducible refine gate_callee (f := 91) rfl ?_); refine goesL_ (some 22) rfl rfl Tryz.func91 (by kernel_rfl) rfl #[.pointer (some ⟨gb408, 0, none⟩)] rfl ga_ ?_; (with_reducible refine (impl_reader_num.calls k gb408 t406 0 false t409 t410 t411 t412 w _ ?side1 ?side2 A4.out).mono ?_); (case side1 => exact IsS118.ii_ HI408); (case side2 => exact bwi_ HB (IsS118.ge HI408.out)); rintro e w74 ⟨rfl, hi, hb, hk⟩; refine ⟨_, rfl, ?_⟩; replace BK405 := mk_ (KeepBut.blk hk (g' := gb405) (o := .cells #[.int .i64 0, .int .i64 0, .slice none 0 0, .string (⟨#[]⟩ : ByteArray)] 47 (0, 0)) (bp_ BK405) NB405_408.out (by simp)); replace HB := mk_ (hb); replace HI408 := mk_ (hi); (try clear hb); (try clear hk); (try clear hi)) | ((with_reducible refine gate_callee (f := 91) rfl ?_); refine goesL_ (some 24) rfl rfl Tryz.func91 (by kernel_rfl) rfl #[.pointer (some ⟨gb408, 0, none⟩)] rfl ga_ ?_; (with_reducible refine (impl_reader_num.calls k gb408 t410 t411 t412 t413 t414 t415 t416 w _ ?side1 ?side2 A5.out).mono ?_); (case side1 => exact IsS118.ii_ HI408); (case side2 => exact bwi_ HB (IsS118.ge HI408.out)); rintro e w75 ⟨rfl, hi, hb, hk⟩; refine ⟨_, rfl, ?_⟩; replace BK405 := mk_ (KeepBut.blk hk (g' := gb405) (o := .cells #[.int .i64 0, .int .i64 0, .slice none 0 0, .string (⟨#[]⟩ : ByteArray)] 47 (0, 0)) (bp_ BK405) NB405_408.out (by simp)); replace HB := mk_ (hb); replace HI408 := mk_ (hi); (try clear hb); (try clear hk); (try clear hi)) | ((with_reducible refine gate_dst (N := 7) rfl ?_); refine bx_ (N := 7) (cs := #[.int .i64 0, .int .i64 0, .slice none 0 0, .string (⟨#[]⟩ : ByteArray)]) (t := 47) ?_; intro gb417 hg w76 hbox hb; have n0_ := bb_ BK405 hb; have n1_ := mk_ (IsS118.below (IsS118.ii_ HI408) hb); have n2_ := mk_ (below_step (bwi_ HB (IsS118.ge HI408.out)) hb); have n3_ := mk_ (hbox); have n4_ := mk_ ((by rw [hg]; exact (below_size (bwi_ HB (IsS118.ge HI408.out))) : w.heap.size ≤ gb417)); have n5_ := mk_ ((by rw [hg]; exact (below_size (bwi_ HB (IsS118.ge HI408.out))) : w.heap.size ≤ gb417)); have n6_ : Aside0 (gb405 ≠ gb417) := bl_ BK405 hg; have n7_ : Aside0 (gb417 ≠ gb405) := bg_ BK405 hg; have n8_ := mk_ ((by rw [hg]; exact Nat.ne_of_lt (IsS118.lt (show IsS118 w _ gb408 t414 t415 t416 from IsS118.ii_ HI408)) : gb408 ≠ gb417)); have n9_ := mk_ ((by rw [hg]; exact Nat.ne_of_gt (IsS118.lt (show IsS118 w _ gb408 t414 t415 t416 from IsS118.ii_ HI408)) : gb417 ≠ gb408)); clear BK405; clear HI408; clear HB; have BK405 := n0_; have HI408 := n1_; have HB := n2_; have BK417 := n3_; have GW417 := n4_; have GE417 := n5_; have NB405_417 := n6_; have NB417_405 := n7_; have NB408_417 := n8_; have NB417_408 := n9_; clear n0_ n1_ n2_ n3_ n4_ n5_ n6_ n7_ n8_ n9_; clear hb hbox hg; have hnb77 := NB417_405.out; have hnc77 := NB405_417.out; have hnb78 := NB417_408.out; have hnc78 := NB408_417.out; obtain ⟨hcz79_0, hcz79_1, hcz79_2, hcz79_3, hfz79_0, hfz79_1, hfz79_2, hfz79_3⟩ := b4_ BK417) | ((with_reducible refine gate_callee (f := 93) rfl ?_); refine goesL_ (some 28) rfl rfl Tryz.func93 (by kernel_rfl) rfl #[.pointer (some ⟨gb408, 0, none⟩)] rfl ga_ ?_; (with_reducible refine (impl_reader_text.calls k gb408 t414 t415 t416 t418 t419 t420 t421 w _ ?side1 ?side2 A6.out).mono ?_); (case side1 => exact IsS118.ii_ HI408); (case side2 => exact bwi_ HB (IsS118.ge HI408.out)); rintro e w80 ⟨rfl, hi, hb, hk⟩; refine ⟨_, rfl, ?_⟩; replace BK405 := mk_ (KeepBut.blk hk (g' := gb405) (o := .cells #[.int .i64 0, .int .i64 0, .slice none 0 0, .string (⟨#[]⟩ : ByteArray)] 47 (0, 0)) bf_ NB405_408.out (by simp)); replace BK417 := mk_ (KeepBut.blk hk (g' := gb417) (o := .cells #[.int .i64 t409, .int .i64 t413, .slice none 0 0, .string (⟨#[]⟩ : ByteArray)] 47 (0, 0)) bu_ NB417_408.out (by simp)); replace HB := mk_ (hb); replace HI408 := mk_ (hi); (try clear hb); (try clear hk); (try clear hi)) | ((with_reducible refine gate_callee (f := 92) rfl ?_); refine goesL_ (some 29) rfl rfl Tryz.func92 (by kernel_rfl) rfl #[.string t418] rfl ga_ ?_; (with_reducible refine (impl_ReadConf.calls k t418 t422 t423 _ A7.out).mono ?_); rintro e w81 ⟨v424, rfl, ho0, hb⟩; refine ⟨_, rfl, ?_⟩; have n0_ := mk_ (Kd.R_lower ho0 (below_size (bwi_ HB (IsS118.ge HI408.out)))); have n1_ := bb_ BK405 hb; have n2_ := mk_ (IsS118.below (IsS118.ii_ HI408) hb); have n3_ := bb_ BK417 hb; have n4_ := mk_ (below_step (bwi_ HB (IsS118.ge HI408.out)) hb); clear BK405; clear HI408; clear BK417; clear HB; have HO425 := n0_; have BK405 := n1_; have HI408 := n2_; have BK417 := n3_; have HB := n4_; clear n0_ n1_ n2_ n3_ n4_; (try clear hb); (try clear hk); (try clear hi); (try clear ho0); obtain ⟨Ao82, co82, eo82⟩ := Kd.R_slice HO425.out; subst eo82; obtain ⟨hcz83_0, hcz83_1, hcz83_2, hcz83_3, hfz83_0, hfz83_1, hfz83_2, hfz83_3⟩ := b4_ BK417) | ((with_reducible refine gate_callee (f := 93) rfl ?_); refine goesL_ (some 34) rfl rfl Tryz.func93 (by kernel_rfl) rfl #[.pointer (some ⟨gb408, 0, none⟩)] rfl ga_ ?_; (with_reducible refine (impl_reader_text.calls k gb408 t419 t420 t421 t426 t427 t428 false w _ ?side1 ?side2 A8.out).mono ?_); (case side1 => exact IsS118.ii_ HI408); (case side2 => exact bwi_ HB (IsS118.ge HI408.out)); rintro e w84 ⟨rfl, hi, hb, hk⟩; refine ⟨_, rfl, ?_⟩; have n0_ := mk_ (KeepBut.blk hk (g' := gb405) (o := .cells #[.int .i64 0, .int .i64 0, .slice none 0 0, .string (⟨#[]⟩ : ByteArray)] 47 (0, 0)) bf_ NB405_408.out (by simp)); have n1_ := mk_ (KeepBut.blk hk (g' := gb417) (o := .cells #[.int .i64 t409, .int .i64 t413, .slice Ao82 t422.length co82, .string (⟨#[]⟩ : ByteArray)] 47 (0, 0)) bu_ NB417_408.out (by simp)); have n2_ := mk_ (Kd.R_mono (Kd.R_keep (IsS118.apart (show IsS118 w _ gb408 t419 t420 t421 from IsS118.ii_ HI408) (by (with_reducible repeat (first | apply Kd.R_alloc | apply Kd.R_drewN | apply Kd.R_drew)); exact (Kd.R_mono (Kd.R_far (p := ⟨gb417, 2, none⟩) (Kd.R_types HO425.out BK417.out (by decide)) (fun _ hk => hk.2) (.slice Ao82 t422.length co82)) (fun _ h_ => h_.1))) (by decide)) hk (fun _ h => h.2)) (fun _ h => h.1)); have n3_ := mk_ (hb); have n4_ := mk_ (hi); clear BK405; clear BK417; clear HO425; clear HB; clear HI408; have BK405 := n0_; have BK417 := n1_; have HO425 := n2_; have HB := n3_; have HI408 := n4_; clear n0_ n1_ n2_ n3_ n4_; (try clear hb); (try clear hk); (try clear hi); obtain ⟨hcz85_0, hcz85_1, hcz85_2, hcz85_3, hfz85_0, hfz85_1, hfz85_2, hfz85_3⟩ := b4_ BK417) | ((with_reducible refine gate_callee (f := 94) rfl ?_); refine goesL_ (some 38) rfl rfl Tryz.func94 (by kernel_rfl) rfl #[.agg #[.int .i64 t409, .int .i64 t413, .slice Ao82 t422.length co82, .string t426]] rfl ga_ ?_; (with_reducible refine (impl_SnapText.calls k t409 t413 _ _ t422 t426 t430 false _ ?side1 ?side2 A9.out).mono ?_); (case side1 => refine (Kd.R_reads' (e := 3) (base := w.heap.size) (ok := fun k_ => True) (n := t422.length) (c := co82) ?_).2.2; exact (by (with_reducible repeat (first | apply Kd.R_alloc | apply Kd.R_drewN | apply Kd.R_drew)); exact (Kd.R_mono (Kd.R_far (p := ⟨gb417, 3, none⟩) (Kd.R_types HO425.out BK417.out (by decide)) (fun _ hk => hk.2) (.string t426)) (fun _ h_ => h_.1)))); (case side2 => exact (Kd.R_reads' HO425.out).2.1); rintro e w86 ⟨rfl, hb⟩; refine ⟨_, rfl, ?_⟩; have n0_ := mk_ (Kd.R_below (by (with_reducible repeat (first | apply Kd.R_alloc | apply Kd.R_drewN | apply Kd.R_drew)); exact (Kd.R_mono (Kd.R_far (p := ⟨gb417, 3, none⟩) (Kd.R_types HO425.out BK417.out (by decide)) (fun _ hk => hk.2) (.string t426)) (fun _ h_ => h_.1))) hb); have n1_ := mk_ (blk_below (g := gb405) (o := .cells #[.int .i64 0, .int .i64 0, .slice none 0 0, .string (⟨#[]⟩ : ByteArray)] 47 (0, 0)) bf_ hb); have n2_ := mk_ (IsS118.below (show IsS118 w (w84.setCell ⟨gb417, 3, none⟩ (.string t426)) gb408 t427 t428 false from IsS118.ii_ HI408) hb); have n3_ := mk_ (blk_below (g := gb417) (o := .cells #[.int .i64 t409, .int .i64 t413, .slice Ao82 t422.length co82, .string t426] 47 (0, 0)) bu_ hb); have n4_ := mk_ (below_step (bwi_ HB (IsS118.ge HI408.out)) hb); clear HO425; clear BK405; clear HI408; clear BK417; clear HB; have HO425 := n0_; have BK405 := n1_; have HI408 := n2_; have BK417 := n3_; have HB := n4_; clear n0_ n1_ n2_ n3_ n4_; (try clear hb); (try clear hk); (try clear hi); obtain ⟨HGz87, hgz87⟩ := HI408.out; have hcz87_0 := cellS118_0 HGz87; have hcz87_1 := cellS118_1 HGz87; have hcz87_2 := cellS118_2 HGz87; have hfz87_0 := blk_frozen HGz87 0; have hfz87_1 := blk_frozen HGz87 1; have hfz87_2 := blk_frozen HGz87 2; clear HGz87 hgz87; have hnb88 := NB405_408.out; have hnc88 := NB408_405.out; obtain ⟨hcz89_0, hcz89_1, hcz89_2, hcz89_3, hfz89_0, hfz89_1, hfz89_2, hfz89_3⟩ := b4_ BK405))
    refine bodyPost_ret (results_ct rfl _ _ gb405 47 #[.int .i64 0, .int .i64 0, .slice none 0 0, .string (⟨#[]⟩ : ByteArray)] (0, 0) _ rfl bu_ Tryz.underlying47 rfl (by kernel_rfl)) rfl ?_
    exact ⟨_, er_, by first | exact Kd.R_nil _ _ _ _ _ | exact Kd.N_nil _ _ _ _ _ | exact Kd.V_nil _ _ _ _ _ | exact Kd.Q_nil _ _ _ _ _ | exact Kd.S_nil _ _ _ _ _, bwi_ HB (IsS118.ge HI408.out)⟩
 ·replace c3 := Bool.eq_false_iff.mpr c3
  subst c3
  have H1 : (some (0, 0, ([] : List Int), (⟨#[]⟩ : ByteArray), false)) = some (r1, r2, r3, r4, r5) := by rw [if_neg (show ¬ (false = true) by decide)] at H; exact H
  clear H
  have H := H1
  clear H1
  simp only [Option.some.injEq, Prod.mk.injEq] at H
  obtain ⟨rfl, rfl, rfl, rfl, rfl⟩ := H
  go_enter Tryz.func50, Tryz.ntmps50
  go_wp2_with (first | ((with_reducible refine gate_dst (N := 2) rfl ?_); refine bx_ (N := 2) (cs := #[.int .i64 0, .int .i64 0, .slice none 0 0, .string (⟨#[]⟩ : ByteArray)]) (t := 47) ?_; intro gb405 hg w90 hbox hb; have BK405 := mk_ (hbox); have GW405 : Aside0 (w.heap.size ≤ gb405) := bz_ hg; have GE405 := GW405; replace HB := bs_ HB hb; clear hb hbox hg) | ((with_reducible refine gate_callee (f := 90) rfl ?_); refine goesL_ (some 12) rfl rfl Tryz.func90 (by kernel_rfl) rfl #[.string a0] rfl ga_ ?_; (with_reducible refine (impl_Unsealed.calls k a0 t406 false _ A2.out).mono ?_); rintro e w91 ⟨rfl, hb⟩; refine ⟨_, rfl, ?_⟩; replace BK405 := bb_ BK405 hb; replace HB := bs_ HB hb; (try clear hb); obtain ⟨hcz92_0, hcz92_1, hcz92_2, hcz92_3, hfz92_0, hfz92_1, hfz92_2, hfz92_3⟩ := b4_ BK405))
  refine bodyPost_ret (results_ct rfl _ _ gb405 47 #[.int .i64 0, .int .i64 0, .slice none 0 0, .string (⟨#[]⟩ : ByteArray)] (0, 0) _ rfl bu_ Tryz.underlying47 rfl (by kernel_rfl)) rfl ?_
  exact ⟨_, er_, by first | exact Kd.R_nil _ _ _ _ _ | exact Kd.N_nil _ _ _ _ _ | exact Kd.V_nil _ _ _ _ _ | exact Kd.Q_nil _ _ _ _ _ | exact Kd.S_nil _ _ _ _ _, bw_ HB⟩

end Go.Proofs.YtgnmlgoadkhceaaGreatDoor.QFnExactShedActs
