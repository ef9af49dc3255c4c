/- Written by this session's own program (wip/tpl/pp.py): what the law's functions come to, and that the machine's calls do just that. -/
import Derived.Test.YthbaoefbccdioaaTMPack
import Derived.Test.YthbaoefbccdioaaQFnActsx0
import Derived.Test.YthbaoefbccdioaaQFnActsx3
import Derived.Test.YthbaoefbccdioaaQFnActsx8
import Derived.Test.YthbaoefbccdioaaQFnActsx9
import Derived.Test.YthbaoefbccdioaaQFnActsx12
import Derived.Test.YthbaoefbccdioaaQFnActsx13
import Derived.Test.YthbaoefbccdioaaQFnActsx14
import Derived.Test.YthbaoefbccdioaaQFnActsx16
namespace Go.Proofs.Ythbaoefbccdioaa.QFnActs
open Go.RowKit Go.Proofs.YthbaoefbccdioaaW.PrintWords Go.Proofs.YthbaoefbccdioaaW.PrintLast Go.Proofs.YthbaoefbccdioaaW.PrintMore
attribute [local go_sem] Go.Proofs.Ythbaoefbccdioaa.Sem.string_geq Go.Proofs.Ythbaoefbccdioaa.Sem.string_leq Go.Proofs.Ythbaoefbccdioaa.Sem.string_gtr
attribute [local go_sem] max2_int min2_int max_two min_two max_three min_three max_four min_four   -- for this text's walks alone
set_option linter.unusedVariables false
set_option linter.unusedSimpArgs false

/-! ### laws_FnActs: function 5 -/
mutual
def laws_FnActs.j0 : Nat → List (S35) → Int → List Int → Int → Bool → List (S76) → List (S76) → Option (Bool)
 | 0, _, _, _, _, _, _, _ => none
 | k + 1, x4, x5, x6, x8, x52, x501000, x506000 => if x52 = true then (none) else (laws_FnActs.l0 k x4 x5 x6 x8 0 x501000 x506000 x501000)
def laws_FnActs.l0 : Nat → List (S35) → Int → List Int → Int → Int → List (S76) → List (S76) → List (S76) → Option (Bool)
 | 0, _, _, _, _, _, _, _, _ => none
 | k + 1, x4, x5, x6, x8, x12, x501000, x506000, x513000 => if x12 < x8 then (if 0 ≤ x12 then (if x12 < (x4.length : Int) then ((impl_DoAct.f k x513000 ((rd_T35 x4 x12).f0) ((rd_T35 x4 x12).f1) ((rd_T35 x4 x12).f2) ((rd_T35 x4 x12).f3)).bind fun bt514 => (if bt514.2 = true then ((impl_FileAt.f x513000 ((rd_T35 x4 x12).f1)).bind fun bt520 => ((impl_FileAt.f bt514.1 ((rd_T35 x4 x12).f1)).bind fun bt523 => (if ((rd_T35 x4 x12).f0) = 1 then (if bt523.2 = true then (if bt520.1.size + ((rd_T35 x4 x12).f2).size ≤ 9223372036854775807 then (if bt523.1.toList = (bt520.1 ++ ((rd_T35 x4 x12).f2)).toList then (if ((rd_T35 x4 x12).f0) = 4 then (none) else (laws_FnActs.l0 k x4 x5 x6 x8 (wrap64 (x12 + 1)) x501000 x506000 bt514.1)) else (none)) else (none)) else (none)) else (if ((rd_T35 x4 x12).f0) = 4 then (if bt523.2 = true then (none) else (laws_FnActs.l0 k x4 x5 x6 x8 (wrap64 (x12 + 1)) x501000 x506000 bt514.1)) else (laws_FnActs.l0 k x4 x5 x6 x8 (wrap64 (x12 + 1)) x501000 x506000 bt514.1))))) else (none))) else (none)) else (none)) else ((impl_CutActs.f k x501000 x4 x5 x6).bind fun bt529 => ((spec_CutActs.f k x501000 x4 x5 x6).bind fun bt534 => (if (bt529.2 == bt534.2) = true then ((laws_sameDisk.f k bt529.1 bt534.1).bind fun t539 => (if t539 = true then (if x8 = 0 then (some true) else ((laws_sameDisk.f k x513000 x506000).bind fun t540 => (some t540))) else (none))) else (none))))
end
def laws_FnActs.f (k : Nat) (l0 : List Int) : Option (Bool) := (laws_big.f l0).bind fun t489 => (if t489 = true then (some true) else ((spec_DrawCutActs.f k l0).bind fun bt490 => ((impl_DoActs.f k bt490.1 bt490.2.1).bind fun bt501 => ((spec_DoActs.f k bt490.1 bt490.2.1).bind fun bt506 => (if bt501.2 = bt506.2 then ((laws_sameDisk.f k bt501.1 bt506.1).bind fun t511 => (laws_FnActs.j0 k bt490.2.1 bt490.2.2.1 bt490.2.2.2 bt501.2 (!t511) bt490.1 bt501.1)) else (none))))))
theorem laws_FnActs.mono_l : ∀ k, (∀ y0 y1 y2 y3 y4 y5 y6, LeO (laws_FnActs.j0 k y0 y1 y2 y3 y4 y5 y6) (laws_FnActs.j0 (k + 1) y0 y1 y2 y3 y4 y5 y6)) ∧ (∀ y0 y1 y2 y3 y4 y5 y6 y7, LeO (laws_FnActs.l0 k y0 y1 y2 y3 y4 y5 y6 y7) (laws_FnActs.l0 (k + 1) y0 y1 y2 y3 y4 y5 y6 y7))
 | 0 => ⟨fun _ _ _ _ _ _ _ r h => by simp [laws_FnActs.j0] at h, fun _ _ _ _ _ _ _ _ r h => by simp [laws_FnActs.l0] at h⟩
 | k + 1 => by
  obtain ⟨ih0, ih1⟩ := laws_FnActs.mono_l k
  refine ⟨?_, ?_⟩
  ·intro y0 y1 y2 y3 y4 y5 y6
   unfold laws_FnActs.j0
   repeat' first
   | (with_reducible exact ih1 _ _ _ _ _ _ _ _)
   | (with_reducible exact LeO.refl _)
   | (with_reducible refine LeO.ite ?_ ?_)
  ·intro y0 y1 y2 y3 y4 y5 y6 y7
   unfold laws_FnActs.l0
   repeat' first
   | (with_reducible exact ih1 _ _ _ _ _ _ _ _)
   | (with_reducible exact impl_CutActs.mono _ _ _ _ _)
   | (with_reducible exact impl_DoAct.mono _ _ _ _ _ _)
   | (with_reducible exact laws_sameDisk.mono _ _ _)
   | (with_reducible exact spec_CutActs.mono _ _ _ _ _)
   | (with_reducible exact LeO.refl _)
   | (with_reducible refine LeO.ite ?_ ?_)
   | (with_reducible refine LeO.bind ?_ (fun _ => ?_))
theorem laws_FnActs.mono : ∀ a0 k, LeO (laws_FnActs.f k a0) (laws_FnActs.f (k + 1) a0) := by
 intro a0 k
 obtain ⟨ih0, ih1⟩ := laws_FnActs.mono_l k
 unfold laws_FnActs.f
 repeat' first
   | (with_reducible exact ih0 _ _ _ _ _ _ _)
   | (with_reducible exact impl_DoActs.mono _ _ _)
   | (with_reducible exact laws_sameDisk.mono _ _ _)
   | (with_reducible exact spec_DoActs.mono _ _ _)
   | (with_reducible exact spec_DrawCutActs.mono _ _)
   | (with_reducible exact LeO.refl _)
   | (with_reducible refine LeO.ite ?_ ?_)
   | (with_reducible refine LeO.bind ?_ (fun _ => ?_))
def laws_FnActs.T12 : Bool × List (List Nat × List Nat) := (true, [([], []), ([], []), ([], []), ([1, 2], [1, 2]), ([3], [3]), ([0, 4], [0, 4]), ([5], [5]), ([6], [6]), ([6], [6]), ([], []), ([9, 7, 5, 0, 1, 2, 3, 4, 5, 6, 7, 9], [7, 9]), ([8, 10, 0, 1, 2, 3, 4, 5, 6, 7, 8, 9, 10], [8])])
def laws_FnActs.B12 : List Nat := [0, 0, 0, 6, 14, 31, 63, 127, 127, 0, 767, 2047]
theorem laws_FnActs.tab12 : rtab .any (opsOf Try.f5 12) = laws_FnActs.T12 := by kernel_rfl
theorem laws_FnActs.bits12 : waitsOk laws_FnActs.T12.2 laws_FnActs.B12 = true := by kernel_rfl
def laws_FnActs.T15 : Bool × List (List Nat × List Nat) := (true, [([], []), ([], []), ([], []), ([1, 2], [1, 2]), ([3], [3]), ([4], [4]), ([0, 5], [0, 5]), ([6], [6]), ([7], [7]), ([7], [7]), ([8, 6, 0, 1, 2, 3, 4, 5, 6, 7, 8], [8]), ([9, 10, 0, 1, 2, 3, 4, 5, 6, 7, 8, 9, 10], [9])])
def laws_FnActs.B15 : List Nat := [0, 0, 0, 6, 14, 30, 63, 127, 255, 255, 511, 2047]
theorem laws_FnActs.tab15 : rtab .any (opsOf Try.f5 15) = laws_FnActs.T15 := by kernel_rfl
theorem laws_FnActs.bits15 : waitsOk laws_FnActs.T15.2 laws_FnActs.B15 = true := by kernel_rfl
def laws_FnActs.T16 : Bool × List (List Nat × List Nat) := (true, [([], []), ([], []), ([], []), ([1, 2], [1, 2]), ([3], [3]), ([4], [4]), ([0, 5], [0, 5]), ([6], [6]), ([7], [7]), ([7], [7]), ([8, 6, 0, 1, 2, 3, 4, 5, 6, 7, 8], [8]), ([9, 10, 0, 1, 2, 3, 4, 5, 6, 7, 8, 9, 10], [9])])
def laws_FnActs.B16 : List Nat := [0, 0, 0, 6, 14, 30, 63, 127, 255, 255, 511, 2047]
theorem laws_FnActs.tab16 : rtab .any (opsOf Try.f5 16) = laws_FnActs.T16 := by kernel_rfl
theorem laws_FnActs.bits16 : waitsOk laws_FnActs.T16.2 laws_FnActs.B16 = true := by kernel_rfl
set_option maxHeartbeats 8000000 in
set_option maxRecDepth 100000 in
theorem laws_FnActs.calls (k : Nat) (A0 : Option Addr) (c0 : Nat) (l0 : List Int) (r : Bool) (w : World) (hr0 : Kd.C (Kd.int .u8) w A0 l0.length l0) (hc0 : l0.length ≤ c0) (h : laws_FnActs.f k l0 = some r) :
  Calls Try.prog 5 #[.slice A0 l0.length c0] w fun e w' => e = .returned (.bool r) ∧ Below w.heap.size w w' := by
 have hu31 := Try.underlying31
 have hu35 := Try.underlying35
 have HR0 := Aside0.mk hr0
 have HC0 := Aside0.mk hc0
 clear hr0 hc0
 have HB := mk_ (Below.refl w.heap.size w)
 have H : ((laws_big.f l0).bind fun t489 => (if t489 = true then (some true) else ((spec_DrawCutActs.f k l0).bind fun bt490 => ((impl_DoActs.f k bt490.1 bt490.2.1).bind fun bt501 => ((spec_DoActs.f k bt490.1 bt490.2.1).bind fun bt506 => (if bt501.2 = bt506.2 then ((laws_sameDisk.f k bt501.1 bt506.1).bind fun t511 => (laws_FnActs.j0 k bt490.2.1 bt490.2.2.1 bt490.2.2.2 bt501.2 (!t511) bt490.1 bt501.1)) else (none))))))) = some r := h
 clear h
 replace H := Option.bind_eq_some_iff.mp H
 obtain ⟨t489, A20, H⟩ := H
 try dsimp only at H
 have A2 := Aside0.mk A20
 clear A20
 by_cases c3 : t489 = true
 ·subst c3
  rw [if_pos rfl] at H
  obtain rfl := Option.some.inj H
  go_enter Try.func5, Try.ntmps5
  go_wp2_with (first | ((with_reducible refine gate_callee (f := 23) rfl ?_); refine gl_ 24 Try.func23 #[.slice A0 l0.length c0] ?_; (with_reducible refine (laws_big.calls _ _ l0 true _ ?side1 ?side2 A2.out).mono ?_); (case side1 => repeat (first | exact HR0.out | (with_reducible refine Kd.C_alloc ?_ _) | (with_reducible refine Kd.C_drewN ?_ _) | (with_reducible refine Kd.C_drew ?_))); (case side2 => exact HC0.out); rintro e w' ⟨rfl, ⟨nd, rfl⟩⟩; refine ⟨_, rfl, ?_⟩))
  go_ret
  exact ⟨er_, bw_ HB⟩
 replace c3 := Bool.eq_false_iff.mpr c3
 subst c3
 rw [if_neg (show ¬ (false = true) by decide)] at H
 replace H := Option.bind_eq_some_iff.mp H
 obtain ⟨⟨t490, t493, t496, t497⟩, A40, H⟩ := H
 try dsimp only at H
 have A4 := Aside0.mk A40
 clear A40
 replace H := Option.bind_eq_some_iff.mp H
 obtain ⟨⟨t501, t504⟩, A50, H⟩ := H
 try dsimp only at H
 have A5 := Aside0.mk A50
 clear A50
 replace H := Option.bind_eq_some_iff.mp H
 obtain ⟨⟨t506, t509⟩, A60, H⟩ := H
 try dsimp only at H
 have A6 := Aside0.mk A60
 clear A60
 have HC7 := Aside0.mk H
 clear H
 go_enter Try.func5, Try.ntmps5
 go_upto_region 6 with (first | ((with_reducible refine gate_callee (f := 23) rfl ?_); refine gl_ 24 Try.func23 #[.slice A0 l0.length c0] ?_; (with_reducible refine (laws_big.calls _ _ l0 false _ ?side1 ?side2 A2.out).mono ?_); (case side1 => repeat (first | exact HR0.out | (with_reducible refine Kd.C_alloc ?_ _) | (with_reducible refine Kd.C_drewN ?_ _) | (with_reducible refine Kd.C_drew ?_))); (case side2 => exact HC0.out); rintro e w' ⟨rfl, ⟨nd, rfl⟩⟩; refine ⟨_, rfl, ?_⟩) | ((with_reducible refine gate_callee (f := 24) rfl ?_); refine gl_ 27 Try.func24 #[.slice A0 l0.length c0] ?_; (with_reducible refine (spec_DrawCutActs.calls k _ _ l0 t490 t493 t496 t497 _ ?side1 ?side2 A4.out).mono ?_); (case side1 => repeat (first | exact HR0.out | (with_reducible refine Kd.C_alloc ?_ _) | (with_reducible refine Kd.C_drewN ?_ _) | (with_reducible refine Kd.C_drew ?_))); (case side2 => exact HC0.out); rintro e w8 ⟨v491, v494, v498, rfl, ho0, ho1, ho2, hb⟩; refine ⟨_, rfl, ?_⟩; have HO492 := mk_ (Kd.R_lower ho0 (below_size (bw_ HB))); have HO495 := mk_ (Kd.R_lower ho1 (below_size (bw_ HB))); have HO499 := mk_ (Kd.R_lower ho2 (below_size (bw_ HB))); replace HB := bs_ HB hb; (try clear hb); (try clear hk); (try clear ho0); (try clear ho1); (try clear ho2)) | ((with_reducible refine gate_dst (N := 3) rfl ?_); refine bx_ (N := 3) (cs := #[.slice none 0 0]) (t := 31) ?_; intro gb500 hg w9 hbox hb; have BK500 := mk_ (hbox); have GW500 : Aside0 (w.heap.size ≤ gb500) := bz_ hg; have GE500 := GW500; replace HO492 := rb_ HO492 hb; replace HO495 := rb_ HO495 hb; replace HO499 := rb_ HO499 hb; replace HB := bs_ HB hb; clear hb hbox hg; obtain ⟨Ao10, co10, eo10⟩ := Kd.R_slice HO492.out; subst eo10; obtain ⟨hcz11_0, hfz11_0⟩ := b1_ BK500; obtain ⟨Ao12, co12, eo12⟩ := Kd.R_slice HO495.out; subst eo12) | ((with_reducible refine gate_callee (f := 20) rfl ?_); refine gl_ 35 Try.func20 #[.agg #[.slice Ao10 t490.length co10], .slice Ao12 t493.length co12] ?_; (with_reducible refine (impl_DoActs.calls k _ _ t490 _ _ t493 t501 t504 _ ?side1 ?side2 ?side3 ?side4 A5.out).mono ?_); (case side1 => refine (Kd.R_reads' (e := 76) (base := w.heap.size) (ok := fun k_ => True) (n := t490.length) (c := co10) ?_).2.2; exact (rq_ (rf_ HO492 BK500 0 (.slice Ao10 t490.length co10)))); (case side2 => exact (Kd.R_reads' HO492.out).2.1); (case side3 => refine (Kd.R_reads' (e := 35) (base := w.heap.size) (ok := fun k_ => True) (n := t493.length) (c := co12) ?_).2.2; exact (rq_ (rf_ HO495 BK500 0 (.slice Ao10 t490.length co10)))); (case side4 => exact (Kd.R_reads' HO495.out).2.1); rintro e w13 ⟨v502, rfl, ho0, hb⟩; refine ⟨_, rfl, ?_⟩; have HO503 := mk_ (Kd.R_lower (Kd.R_new' ho0 (Kd.R_lt (rq_ (rf_ HO492 BK500 0 (.slice Ao10 t490.length co10))))) (below_size (bw_ HB))); replace HO492 := mk_ (Kd.R_elder' (rq_ (rf_ HO492 BK500 0 (.slice Ao10 t490.length co10))) (Kd.R_base ho0) hb); replace HO495 := mk_ (Kd.R_below (rq_ (rf_ HO495 BK500 0 (.slice Ao10 t490.length co10))) hb); replace HO499 := mk_ (Kd.R_below (rq_ (rf_ HO499 BK500 0 (.slice Ao10 t490.length co10))) hb); replace BK500 := mk_ (blk_below (g := gb500) (o := .cells #[.slice Ao10 t490.length co10] 31 (0, 0)) bu_ hb); replace HB := bs_ HB hb; (try clear hb); (try clear hk); (try clear ho0)) | ((with_reducible refine gate_dst (N := 7) rfl ?_); refine bx_ (N := 7) (cs := #[.slice none 0 0]) (t := 31) ?_; intro gb505 hg w14 hbox hb; have BK505 := mk_ (hbox); have GW505 : Aside0 (w.heap.size ≤ gb505) := bz_ hg; have GE505 := GW505; have NB500_505 := bl_ BK500 hg; have NB505_500 := bg_ BK500 hg; replace HO492 := rb_ HO492 hb; replace HO495 := rb_ HO495 hb; replace HO499 := rb_ HO499 hb; replace HO503 := rb_ HO503 hb; replace BK500 := bb_ BK500 hb; replace HB := bs_ HB hb; clear hb hbox hg; obtain ⟨Ao15, co15, eo15⟩ := Kd.R_slice HO503.out; subst eo15; obtain ⟨hnb16, hnc16⟩ := ns_ NB505_500; obtain ⟨hcz17_0, hfz17_0⟩ := b1_ BK505; obtain ⟨hcz18_0, hfz18_0⟩ := b1_ BK500) | ((with_reducible refine gate_callee (f := 18) rfl ?_); refine gl_ 41 Try.func18 #[.agg #[.slice Ao10 t490.length co10], .slice Ao12 t493.length co12] ?_; (with_reducible refine (spec_DoActs.calls k _ _ t490 _ _ t493 t506 t509 _ ?side1 ?side2 ?side3 ?side4 A6.out).mono ?_); (case side1 => refine (Kd.R_reads' (e := 76) (base := w.heap.size) (ok := fun k_ => (True ∧ some k_ ≠ (.slice Ao15 t501.length co15 : Value).ownBlock)) (n := t490.length) (c := co10) ?_).2.2; exact (rq_ (rf_ HO492 BK505 0 (.slice Ao15 t501.length co15)))); (case side2 => exact (Kd.R_reads' HO492.out).2.1); (case side3 => refine (Kd.R_reads' (e := 35) (base := w.heap.size) (ok := fun k_ => True) (n := t493.length) (c := co12) ?_).2.2; exact (rq_ (rf_ HO495 BK505 0 (.slice Ao15 t501.length co15)))); (case side4 => exact (Kd.R_reads' HO495.out).2.1); rintro e w19 ⟨v507, rfl, ho0, hb⟩; refine ⟨_, rfl, ?_⟩; have HO508 := mk_ (Kd.R_lower (Kd.R_new' (Kd.R_new' ho0 (Kd.R_lt (rq_ (rf_ HO492 BK505 0 (.slice Ao15 t501.length co15))))) (Kd.R_lt (rq_ (rf_ HO503 BK505 0 (.slice Ao15 t501.length co15))))) (below_size (bw_ HB))); replace HO492 := mk_ (Kd.R_elder' (rq_ (rf_ HO492 BK505 0 (.slice Ao15 t501.length co15))) (Kd.R_base ho0) hb); replace HO495 := mk_ (Kd.R_below (rq_ (rf_ HO495 BK505 0 (.slice Ao15 t501.length co15))) hb); replace HO499 := mk_ (Kd.R_below (rq_ (rf_ HO499 BK505 0 (.slice Ao15 t501.length co15))) hb); replace HO503 := mk_ (Kd.R_elder' (rq_ (rf_ HO503 BK505 0 (.slice Ao15 t501.length co15))) (Kd.R_base ho0) hb); replace BK500 := mk_ (blk_below (g := gb500) (o := .cells #[.slice Ao10 t490.length co10] 31 (0, 0)) bf_ hb); replace BK505 := mk_ (blk_below (g := gb505) (o := .cells #[.slice Ao15 t501.length co15] 31 (0, 0)) bu_ hb); replace HB := bs_ HB hb; (try clear hb); (try clear hk); (try clear ho0)) | ((with_reducible refine gate_dst (N := 9) rfl ?_); refine bx_ (N := 9) (cs := #[.slice none 0 0]) (t := 31) ?_; intro gb510 hg w20 hbox hb; have BK510 := mk_ (hbox); have GW510 : Aside0 (w.heap.size ≤ gb510) := bz_ hg; have GE510 := GW510; have NB500_510 := bl_ BK500 hg; have NB510_500 := bg_ BK500 hg; have NB505_510 := bl_ BK505 hg; have NB510_505 := bg_ BK505 hg; replace HO492 := rb_ HO492 hb; replace HO495 := rb_ HO495 hb; replace HO499 := rb_ HO499 hb; replace HO503 := rb_ HO503 hb; replace HO508 := rb_ HO508 hb; replace BK500 := bb_ BK500 hb; replace BK505 := bb_ BK505 hb; replace HB := bs_ HB hb; clear hb hbox hg; obtain ⟨Ao21, co21, eo21⟩ := Kd.R_slice HO508.out; subst eo21; obtain ⟨hnb22, hnc22⟩ := ns_ NB510_500; obtain ⟨hnb23, hnc23⟩ := ns_ NB510_505; obtain ⟨hcz24_0, hfz24_0⟩ := b1_ BK510))
 (try simp only [Act.put, sia_, scz_, scs_])
 go_cut [52] (fun v52 wc => ∃ (kq : Nat) (x52_6 : Bool), v52 = .bool x52_6 ∧ Aside0 (laws_FnActs.j0 kq t493 t496 t497 t504 x52_6 t490 t501 = some r) ∧ Aside0 (kq ≤ k) ∧ Aside0 (Kd.R k35 35 wc w.heap.size (fun _ => True) (.slice Ao12 t493.length co12) t493) ∧ Aside0 (Kd.R (Kd.int .i64) 3 wc w.heap.size (fun _ => True) v498 t497) ∧ Aside0 (Kd.R k76 76 wc w.heap.size (fun k_ => some k_ ≠ ((.slice Ao15 t501.length co15) : Value).ownBlock ∧ some k_ ≠ ((.slice Ao21 t506.length co21) : Value).ownBlock) (.slice Ao10 t490.length co10) t490) ∧ Aside0 (Kd.R k76 76 wc w.heap.size (fun k_ => some k_ ≠ ((.slice Ao10 t490.length co10) : Value).ownBlock ∧ some k_ ≠ ((.slice Ao21 t506.length co21) : Value).ownBlock) (.slice Ao15 t501.length co15) t501) ∧ Aside0 (Kd.R k76 76 wc w.heap.size (fun k_ => some k_ ≠ ((.slice Ao10 t490.length co10) : Value).ownBlock ∧ some k_ ≠ ((.slice Ao15 t501.length co15) : Value).ownBlock) (.slice Ao21 t506.length co21) t506) ∧ Aside0 (wc.heap[gb500]? = some (.cells #[(.slice Ao10 t490.length co10)] 31 (0, 0))) ∧ Aside0 (wc.heap[gb505]? = some (.cells #[(.slice Ao15 t501.length co15)] 31 (0, 0))) ∧ Aside0 (wc.heap[gb510]? = some (.cells #[(.slice Ao21 t506.length co21)] 31 (0, 0))) ∧ Aside0 (Below w.heap.size w wc))
 case first =>
  have H := HC7.out
  clear HC7
  by_cases c25 : t504 = t509
  rotate_left
  ·rw [if_neg c25] at H
   exact absurd H (by simp)
  rw [if_pos c25] at H
  have c25b0 : (t504 == t509) = true := beq_iff_eq.mpr c25
  have c25b1 : (t504 != t509) = false := bne_eq_false_iff_eq.mpr c25
  clear c25
  (first | rw [c25b0] | (simp only [i64_w, i32_w]; rw [c25b0]) | skip)
  replace H := Option.bind_eq_some_iff.mp H
  obtain ⟨t511, A260, H⟩ := H
  try dsimp only at H
  have A26 := Aside0.mk A260
  clear A260
  have H' := Aside0.mk H
  clear H
  obtain ⟨hnb27, hnc27⟩ := ns_ NB505_500
  obtain ⟨hnb28, hnc28⟩ := ns_ NB505_510
  have hcz29_0 : w20.cell? ⟨gb505, 0, none⟩ = some (.slice Ao15 t501.length co15) := bc_ BK505 0
  have hfz29_0 := blk_frozen BK505.out 0
  obtain ⟨hnb30, hnc30⟩ := ns_ NB510_500
  have hcz31_0 : w20.cell? ⟨gb510, 0, none⟩ = some (.slice none 0 0) := bc_ BK510 0
  have hfz31_0 := blk_frozen BK510.out 0
  go_wp2_with (first | (go_at_call 25; (with_reducible refine (laws_sameDisk.calls k _ _ t501 _ _ t506 t511 _ ?side1 ?side2 ?side3 ?side4 A26.out).mono ?_); (case side1 => refine (Kd.R_reads' (e := 76) (base := w.heap.size) (ok := fun k_ => ((True ∧ some k_ ≠ (.slice Ao10 t490.length co10 : Value).ownBlock) ∧ some k_ ≠ (.slice Ao21 t506.length co21 : Value).ownBlock)) (n := t501.length) (c := co15) ?_).2.2; exact (rq_ (rf_ HO503 BK510 0 (.slice Ao21 t506.length co21)))); (case side2 => exact (Kd.R_reads' HO503.out).2.1); (case side3 => refine (Kd.R_reads' (e := 76) (base := w.heap.size) (ok := fun k_ => ((True ∧ some k_ ≠ (.slice Ao10 t490.length co10 : Value).ownBlock) ∧ some k_ ≠ (.slice Ao15 t501.length co15 : Value).ownBlock)) (n := t506.length) (c := co21) ?_).2.2; exact (rq_ (rf_ HO508 BK510 0 (.slice Ao21 t506.length co21)))); (case side4 => exact (Kd.R_reads' HO508.out).2.1); rintro e w32 ⟨rfl, hb⟩; replace HO492 := mk_ (Kd.R_below (rq_ (rf_ HO492 BK510 0 (.slice Ao21 t506.length co21))) hb); replace HO495 := mk_ (Kd.R_below (rq_ (rf_ HO495 BK510 0 (.slice Ao21 t506.length co21))) hb); replace HO499 := mk_ (Kd.R_below (rq_ (rf_ HO499 BK510 0 (.slice Ao21 t506.length co21))) hb); replace HO503 := mk_ (Kd.R_below (rq_ (rf_ HO503 BK510 0 (.slice Ao21 t506.length co21))) hb); replace HO508 := mk_ (Kd.R_below (rq_ (rf_ HO508 BK510 0 (.slice Ao21 t506.length co21))) hb); replace BK500 := mk_ (blk_below (g := gb500) (o := .cells #[.slice Ao10 t490.length co10] 31 (0, 0)) bf_ hb); replace BK505 := mk_ (blk_below (g := gb505) (o := .cells #[.slice Ao15 t501.length co15] 31 (0, 0)) bf_ hb); replace BK510 := mk_ (blk_below (g := gb510) (o := .cells #[.slice Ao21 t506.length co21] 31 (0, 0)) bu_ hb); replace HB := bs_ HB hb; (try clear hb); (try clear hk)))
  go_meet
  case rel => exact ⟨_, (!t511), (by first | rfl | (simp; done) | (simp [*]; done) | (simp [bne]; done)), H', ⟨by first | omega | exact Nat.le_refl _⟩, ⟨rq_ HO495.out⟩, ⟨rq_ HO499.out⟩, ⟨rq_ (Kd.R_mono HO492.out (fun _ hk => ⟨hk.1.2, hk.2⟩))⟩, ⟨rq_ (Kd.R_mono HO503.out (fun _ hk => ⟨hk.1.2, hk.2⟩))⟩, ⟨rq_ (Kd.R_mono HO508.out (fun _ hk => ⟨hk.1.2, hk.2⟩))⟩, ⟨bf_⟩, ⟨bf_⟩, ⟨bf_⟩, ⟨bw_ HB⟩⟩
 case rest =>
  clear HC7
  (try clear c1); (try clear c2); (try clear p2); (try clear c3); (try clear c5); (try clear c16); (try clear c18); (try clear c20); (try clear c22); (try clear c23); (try clear c24); (try clear c25); (try clear c25b0); (try clear c25b1); (try clear c27); (try clear c28); (try clear c30); (try clear hcz11_0); (try clear hcz17_0); (try clear hcz18_0); (try clear hcz24_0); (try clear hcz29_0); (try clear hcz31_0); (try clear hfz11_0); (try clear hfz17_0); (try clear hfz18_0); (try clear hfz24_0); (try clear hfz29_0); (try clear hfz31_0)
  obtain ⟨kq, x52_6, rfl, HA, HJ6, HO_4, HO_6, HO_501000, HO_506000, HO_511000, BK500, BK505, BK510, HB⟩ := hcut
  cases kq with
  | zero => exact absurd HA.out (by simp [laws_FnActs.j0])
  | succ kj6 =>
   have H := HA.out
   clear HA
   simp only [laws_FnActs.j0] at H
   by_cases c33 : x52_6 = true
   ·subst c33
    rw [if_pos rfl] at H
    exact absurd H (by simp)
   replace c33 := Bool.eq_false_iff.mpr c33
   subst c33
   rw [if_neg (show ¬ (false = true) by decide)] at H
   have H' := Aside0.mk H
   clear H
   obtain ⟨hnb34, hnc34⟩ := ns_ NB500_505
   obtain ⟨hnb35, hnc35⟩ := ns_ NB500_510
   have hcz36_0 : wc.cell? ⟨gb500, 0, none⟩ = some (.slice Ao10 t490.length co10) := bc_ BK500 0
   have hfz36_0 := blk_frozen BK500.out 0
   go_wp2_with (first | ((with_reducible refine gate_dst (N := 11) rfl ?_); refine bx_ (N := 11) (cs := #[.slice none 0 0]) (t := 31) ?_; intro gb512 hg w37 hbox hb; have BK512 := mk_ (hbox); have GW512 : Aside0 (w.heap.size ≤ gb512) := bz_ hg; have GE512 := GW512; have NB500_512 := bl_ BK500 hg; have NB512_500 := bg_ BK500 hg; have NB505_512 := bl_ BK505 hg; have NB512_505 := bg_ BK505 hg; have NB510_512 := bl_ BK510 hg; have NB512_510 := bg_ BK510 hg; replace HO_4 := rb_ HO_4 hb; replace HO_6 := rb_ HO_6 hb; replace HO_501000 := rb_ HO_501000 hb; replace HO_506000 := rb_ HO_506000 hb; replace HO_511000 := rb_ HO_511000 hb; replace BK500 := bb_ BK500 hb; replace BK505 := bb_ BK505 hb; replace BK510 := bb_ BK510 hb; replace HB := bs_ HB hb; clear hb hbox hg; obtain ⟨hnb38, hnc38⟩ := ns_ NB512_500; obtain ⟨hnb39, hnc39⟩ := ns_ NB512_505; obtain ⟨hnb40, hnc40⟩ := ns_ NB512_510; obtain ⟨hcz41_0, hfz41_0⟩ := b1_ BK512))
   go_loopg [12] kj6 (fun kq v12 w' => ∃ (x12_2 : Int) (x513000_2 : List (S76)) (u513000 : Value), v12 = .int .i64 x12_2 ∧ Aside0 (laws_FnActs.l0 kq t493 t496 t497 t504 x12_2 t490 t501 x513000_2 = some r) ∧ Aside0 (kq ≤ kj6) ∧ Aside0 (Kd.R k35 35 w' w.heap.size (fun _ => True) (.slice Ao12 t493.length co12) t493) ∧ Aside0 (Kd.R (Kd.int .i64) 3 w' w.heap.size (fun _ => True) v498 t497) ∧ Aside0 (Kd.R k76 76 w' w.heap.size (fun k_ => some k_ ≠ ((.slice Ao15 t501.length co15) : Value).ownBlock ∧ some k_ ≠ ((.slice Ao21 t506.length co21) : Value).ownBlock) (.slice Ao10 t490.length co10) t490) ∧ Aside0 (Kd.R k76 76 w' w.heap.size (fun k_ => some k_ ≠ ((.slice Ao10 t490.length co10) : Value).ownBlock ∧ some k_ ≠ ((.slice Ao21 t506.length co21) : Value).ownBlock ∧ some k_ ≠ (u513000 : Value).ownBlock) (.slice Ao15 t501.length co15) t501) ∧ Aside0 (Kd.R k76 76 w' w.heap.size (fun k_ => some k_ ≠ ((.slice Ao10 t490.length co10) : Value).ownBlock ∧ some k_ ≠ ((.slice Ao15 t501.length co15) : Value).ownBlock ∧ some k_ ≠ (u513000 : Value).ownBlock) (.slice Ao21 t506.length co21) t506) ∧ Aside0 (Kd.R k76 76 w' w.heap.size (fun k_ => some k_ ≠ ((.slice Ao15 t501.length co15) : Value).ownBlock ∧ some k_ ≠ ((.slice Ao21 t506.length co21) : Value).ownBlock) u513000 x513000_2) ∧ Aside0 (w'.heap[gb500]? = some (.cells #[(.slice Ao10 t490.length co10)] 31 (0, 0))) ∧ Aside0 (w'.heap[gb505]? = some (.cells #[(.slice Ao15 t501.length co15)] 31 (0, 0))) ∧ Aside0 (w'.heap[gb510]? = some (.cells #[(.slice Ao21 t506.length co21)] 31 (0, 0))) ∧ Aside0 (w'.heap[gb512]? = some (.cells #[u513000] 31 (0, 0))) ∧ Aside0 (Below w.heap.size w w'))
   case atStart => exact ⟨(0), (t490), (.slice Ao10 t490.length co10), (by first | rfl | (simp; done) | (simp [*]; done) | (simp [bne]; done)), H', ⟨Nat.le_refl _⟩, ⟨rq_ (rt_ HO_4 BK512 0 (.slice Ao10 t490.length co10))⟩, ⟨rq_ (rt_ HO_6 BK512 0 (.slice Ao10 t490.length co10))⟩, ⟨rq_ (Kd.R_mono (Kd.R_far (p := ⟨gb512, 0, none⟩) (Kd.R_types HO_501000.out BK512.out (by decide)) (fun _ hk => hk.2) (.slice Ao10 t490.length co10)) (fun _ hk => ⟨hk.1.1, hk.1.2⟩))⟩, ⟨rq_ (Kd.R_mono (Kd.R_far (p := ⟨gb512, 0, none⟩) (Kd.R_types HO_506000.out BK512.out (by decide)) (fun _ hk => hk.2) (.slice Ao10 t490.length co10)) (fun _ hk => ⟨hk.1.1, ⟨hk.1.2, hk.1.1⟩⟩))⟩, ⟨rq_ (Kd.R_mono (Kd.R_far (p := ⟨gb512, 0, none⟩) (Kd.R_types HO_511000.out BK512.out (by decide)) (fun _ hk => hk.2) (.slice Ao10 t490.length co10)) (fun _ hk => ⟨hk.1.1, ⟨hk.1.2, hk.1.1⟩⟩))⟩, ⟨rq_ (Kd.R_mono (Kd.R_far (p := ⟨gb512, 0, none⟩) (Kd.R_types HO_501000.out BK512.out (by decide)) (fun _ hk => hk.2) (.slice Ao10 t490.length co10)) (fun _ hk => ⟨hk.1.1, hk.1.2⟩))⟩, ⟨bf_⟩, ⟨bf_⟩, ⟨bf_⟩, ⟨bu_⟩, ⟨bw_ HB⟩⟩
   case round =>
    clear H'
    (try clear c1); (try clear c2); (try clear p2); (try clear c3); (try clear c4); (try clear c5); (try clear c16); (try clear c18); (try clear c20); (try clear c22); (try clear c23); (try clear c24); (try clear c25); (try clear c25b0); (try clear c25b1); (try clear c27); (try clear c28); (try clear c30); (try clear c33); (try clear c34); (try clear c35); (try clear c38); (try clear c39); (try clear c40); (try clear hcz11_0); (try clear hcz17_0); (try clear hcz18_0); (try clear hcz24_0); (try clear hcz29_0); (try clear hcz31_0); (try clear hcz36_0); (try clear hcz41_0); (try clear hfz11_0); (try clear hfz17_0); (try clear hfz18_0); (try clear hfz24_0); (try clear hfz29_0); (try clear hfz31_0); (try clear hfz36_0); (try clear hfz41_0); (try clear p2)
    obtain ⟨x12_2, x513000_2, u513000, rfl, HA, HK2, HO_4, HO_6, HO_501000, HO_506000, HO_511000, HO_513000, BK500, BK505, BK510, BK512, HB⟩ := hrel
    cases gk with
    | zero => exact absurd HA.out (by simp [laws_FnActs.l0])
    | succ k2 =>
     have H := HA.out
     clear HA
     simp only [laws_FnActs.l0] at H
     by_cases c42 : x12_2 < t504
     rotate_left
     ·rw [if_neg c42] at H
      have c42b0 : decide (x12_2 < t504) = false := decide_eq_false c42
      clear c42
      replace H := Option.bind_eq_some_iff.mp H
      obtain ⟨⟨t529, t532⟩, A1190, H⟩ := H
      try dsimp only at H
      have A119 := Aside0.mk A1190
      clear A1190
      replace H := Option.bind_eq_some_iff.mp H
      obtain ⟨⟨t534, t537⟩, A1200, H⟩ := H
      try dsimp only at H
      have A120 := Aside0.mk A1200
      clear A1200
      by_cases c121 : (t532 == t537) = true
      rotate_left
      ·rw [if_neg c121] at H
       exact absurd H (by simp)
      rw [if_pos c121] at H
      have c121b0 : (t532 == t537) = true := c121
      (try (have c121b1 : decide (t532 = t537) = true := by simpa using c121))
      (try (have c121b2 : (t532 == t537) = true := by simpa using c121))
      clear c121
      replace H := Option.bind_eq_some_iff.mp H
      obtain ⟨t539, A1220, H⟩ := H
      try dsimp only at H
      have A122 := Aside0.mk A1220
      clear A1220
      by_cases c123 : t539 = true
      rotate_left
      ·replace c123 := Bool.eq_false_iff.mpr c123
       subst c123
       rw [if_neg (show ¬ (false = true) by decide)] at H
       exact absurd H (by simp)
      subst c123
      rw [if_pos rfl] at H
      by_cases c124 : t504 = 0
      ·rw [if_pos c124] at H
       have c124b0 : (t504 == 0) = true := beq_iff_eq.mpr c124
       have c124b1 : (t504 != 0) = false := bne_eq_false_iff_eq.mpr c124
       clear c124
       obtain rfl := Option.some.inj H
       obtain ⟨hnb125, hnc125⟩ := ns_ NB500_505
       obtain ⟨hnb126, hnc126⟩ := ns_ NB500_510
       obtain ⟨hnb127, hnc127⟩ := ns_ NB500_512
       have hcz128_0 : wr.cell? ⟨gb500, 0, none⟩ = some (.slice Ao10 t490.length co10) := bc_ BK500 0
       have hfz128_0 := blk_frozen BK500.out 0
       obtain ⟨Ao129, co129, eo129⟩ := Kd.R_slice HO_6.out
       subst eo129
       go_wp2_with (first | ((with_reducible refine gate_callee (f := 27) rfl ?_); refine gl_ 128 Try.func27 #[.agg #[.slice Ao10 t490.length co10], .slice Ao12 t493.length co12, .int .i64 t496, .slice Ao129 t497.length co129] ?_; (with_reducible refine (impl_CutActs.calls k2 _ _ t490 _ _ t493 t496 _ _ t497 t529 t532 _ ?side1 ?side2 ?side3 ?side4 ?side5 ?side6 A119.out).mono ?_); (case side1 => exact cr_ HO_501000); (case side2 => exact (Kd.R_reads' HO_501000.out).2.1); (case side3 => exact cr_ HO_4); (case side4 => exact (Kd.R_reads' HO_4.out).2.1); (case side5 => exact cr_ HO_6); (case side6 => exact (Kd.R_reads' HO_6.out).2.1); rintro e w130 ⟨v530, rfl, ho0, hb⟩; refine ⟨_, rfl, ?_⟩; have HO531 := mk_ (Kd.R_lower (Kd.R_new' (Kd.R_new' (Kd.R_new' (Kd.R_new' ho0 (Kd.R_lt (rp_ HO_501000))) (Kd.R_lt (rp_ HO_506000))) (Kd.R_lt (rp_ HO_511000))) (Kd.R_lt (rp_ HO_513000))) (below_size (bw_ HB))); replace HO_4 := rb_ HO_4 hb; replace HO_6 := rb_ HO_6 hb; replace HO_501000 := mk_ (Kd.R_elder' (rp_ HO_501000) (Kd.R_base ho0) hb); replace HO_506000 := mk_ (Kd.R_elder' (rp_ HO_506000) (Kd.R_base ho0) hb); replace HO_511000 := mk_ (Kd.R_elder' (rp_ HO_511000) (Kd.R_base ho0) hb); replace HO_513000 := mk_ (Kd.R_elder' (rp_ HO_513000) (Kd.R_base ho0) hb); replace BK500 := bb_ BK500 hb; replace BK505 := bb_ BK505 hb; replace BK510 := bb_ BK510 hb; replace BK512 := bb_ BK512 hb; replace HB := bs_ HB hb; (try clear hb); (try clear hk); (try clear ho0)) | ((with_reducible refine gate_dst (N := 19) rfl ?_); refine bx_ (N := 19) (cs := #[.slice none 0 0]) (t := 31) ?_; intro gb533 hg w131 hbox hb; have BK533 := mk_ (hbox); have GW533 : Aside0 (w.heap.size ≤ gb533) := bz_ hg; have GE533 := GW533; have NB500_533 := bl_ BK500 hg; have NB533_500 := bg_ BK500 hg; have NB505_533 := bl_ BK505 hg; have NB533_505 := bg_ BK505 hg; have NB510_533 := bl_ BK510 hg; have NB533_510 := bg_ BK510 hg; have NB512_533 := bl_ BK512 hg; have NB533_512 := bg_ BK512 hg; replace HO_4 := rb_ HO_4 hb; replace HO_6 := rb_ HO_6 hb; replace HO_501000 := rb_ HO_501000 hb; replace HO_506000 := rb_ HO_506000 hb; replace HO_511000 := rb_ HO_511000 hb; replace HO_513000 := rb_ HO_513000 hb; replace HO531 := rb_ HO531 hb; replace BK500 := bb_ BK500 hb; replace BK505 := bb_ BK505 hb; replace BK510 := bb_ BK510 hb; replace BK512 := bb_ BK512 hb; replace HB := bs_ HB hb; clear hb hbox hg; obtain ⟨Ao132, co132, eo132⟩ := Kd.R_slice HO531.out; subst eo132; obtain ⟨hnb133, hnc133⟩ := ns_ NB533_500; obtain ⟨hnb134, hnc134⟩ := ns_ NB533_505; obtain ⟨hnb135, hnc135⟩ := ns_ NB533_510; obtain ⟨hnb136, hnc136⟩ := ns_ NB533_512; obtain ⟨hcz137_0, hfz137_0⟩ := b1_ BK533; obtain ⟨hcz138_0, hfz138_0⟩ := b1_ BK500) | ((with_reducible refine gate_callee (f := 28) rfl ?_); refine gl_ 136 Try.func28 #[.agg #[.slice Ao10 t490.length co10], .slice Ao12 t493.length co12, .int .i64 t496, .slice Ao129 t497.length co129] ?_; (with_reducible refine (spec_CutActs.calls k2 _ _ t490 _ _ t493 t496 _ _ t497 t534 t537 _ ?side1 ?side2 ?side3 ?side4 ?side5 ?side6 A120.out).mono ?_); (case side1 => refine (Kd.R_reads' (e := 76) (base := w.heap.size) (ok := fun k_ => ((some k_ ≠ (.slice Ao15 t501.length co15 : Value).ownBlock ∧ some k_ ≠ (.slice Ao21 t506.length co21 : Value).ownBlock) ∧ some k_ ≠ (.slice Ao132 t529.length co132 : Value).ownBlock)) (n := t490.length) (c := co10) ?_).2.2; exact (rq_ (rf_ HO_501000 BK533 0 (.slice Ao132 t529.length co132)))); (case side2 => exact (Kd.R_reads' HO_501000.out).2.1); (case side3 => refine (Kd.R_reads' (e := 35) (base := w.heap.size) (ok := fun k_ => True) (n := t493.length) (c := co12) ?_).2.2; exact (rq_ (rf_ HO_4 BK533 0 (.slice Ao132 t529.length co132)))); (case side4 => exact (Kd.R_reads' HO_4.out).2.1); (case side5 => refine (Kd.R_reads' (e := 3) (base := w.heap.size) (ok := fun k_ => True) (n := t497.length) (c := co129) ?_).2.2; exact (rq_ (rf_ HO_6 BK533 0 (.slice Ao132 t529.length co132)))); (case side6 => exact (Kd.R_reads' HO_6.out).2.1); rintro e w139 ⟨v535, rfl, ho0, hb⟩; refine ⟨_, rfl, ?_⟩; have HO536 := mk_ (Kd.R_lower (Kd.R_new' (Kd.R_new' (Kd.R_new' (Kd.R_new' (Kd.R_new' ho0 (Kd.R_lt (rq_ (rf_ HO_501000 BK533 0 (.slice Ao132 t529.length co132))))) (Kd.R_lt (rq_ (rf_ HO_506000 BK533 0 (.slice Ao132 t529.length co132))))) (Kd.R_lt (rq_ (rf_ HO_511000 BK533 0 (.slice Ao132 t529.length co132))))) (Kd.R_lt (rq_ (rf_ HO_513000 BK533 0 (.slice Ao132 t529.length co132))))) (Kd.R_lt (rq_ (rf_ HO531 BK533 0 (.slice Ao132 t529.length co132))))) (below_size (bw_ HB))); replace HO_4 := mk_ (Kd.R_below (rq_ (rf_ HO_4 BK533 0 (.slice Ao132 t529.length co132))) hb); replace HO_6 := mk_ (Kd.R_below (rq_ (rf_ HO_6 BK533 0 (.slice Ao132 t529.length co132))) hb); replace HO_501000 := mk_ (Kd.R_elder' (rq_ (rf_ HO_501000 BK533 0 (.slice Ao132 t529.length co132))) (Kd.R_base ho0) hb); replace HO_506000 := mk_ (Kd.R_elder' (rq_ (rf_ HO_506000 BK533 0 (.slice Ao132 t529.length co132))) (Kd.R_base ho0) hb); replace HO_511000 := mk_ (Kd.R_elder' (rq_ (rf_ HO_511000 BK533 0 (.slice Ao132 t529.length co132))) (Kd.R_base ho0) hb); replace HO_513000 := mk_ (Kd.R_elder' (rq_ (rf_ HO_513000 BK533 0 (.slice Ao132 t529.length co132))) (Kd.R_base ho0) hb); replace HO531 := mk_ (Kd.R_elder' (rq_ (rf_ HO531 BK533 0 (.slice Ao132 t529.length co132))) (Kd.R_base ho0) hb); replace BK500 := mk_ (blk_below (g := gb500) (o := .cells #[.slice Ao10 t490.length co10] 31 (0, 0)) bf_ hb); replace BK505 := mk_ (blk_below (g := gb505) (o := .cells #[.slice Ao15 t501.length co15] 31 (0, 0)) bf_ hb); replace BK510 := mk_ (blk_below (g := gb510) (o := .cells #[.slice Ao21 t506.length co21] 31 (0, 0)) bf_ hb); replace BK512 := mk_ (blk_below (g := gb512) (o := .cells #[u513000] 31 (0, 0)) bf_ hb); replace BK533 := mk_ (blk_below (g := gb533) (o := .cells #[.slice Ao132 t529.length co132] 31 (0, 0)) bu_ hb); replace HB := bs_ HB hb; (try clear hb); (try clear hk); (try clear ho0)) | ((with_reducible refine gate_dst (N := 21) rfl ?_); refine bx_ (N := 21) (cs := #[.slice none 0 0]) (t := 31) ?_; intro gb538 hg w140 hbox hb; have BK538 := mk_ (hbox); have GW538 : Aside0 (w.heap.size ≤ gb538) := bz_ hg; have GE538 := GW538; have NB500_538 := bl_ BK500 hg; have NB538_500 := bg_ BK500 hg; have NB505_538 := bl_ BK505 hg; have NB538_505 := bg_ BK505 hg; have NB510_538 := bl_ BK510 hg; have NB538_510 := bg_ BK510 hg; have NB512_538 := bl_ BK512 hg; have NB538_512 := bg_ BK512 hg; have NB533_538 := bl_ BK533 hg; have NB538_533 := bg_ BK533 hg; replace HO_4 := rb_ HO_4 hb; replace HO_6 := rb_ HO_6 hb; replace HO_501000 := rb_ HO_501000 hb; replace HO_506000 := rb_ HO_506000 hb; replace HO_511000 := rb_ HO_511000 hb; replace HO_513000 := rb_ HO_513000 hb; replace HO531 := rb_ HO531 hb; replace HO536 := rb_ HO536 hb; replace BK500 := bb_ BK500 hb; replace BK505 := bb_ BK505 hb; replace BK510 := bb_ BK510 hb; replace BK512 := bb_ BK512 hb; replace BK533 := bb_ BK533 hb; replace HB := bs_ HB hb; clear hb hbox hg; obtain ⟨Ao141, co141, eo141⟩ := Kd.R_slice HO536.out; subst eo141; obtain ⟨hnb142, hnc142⟩ := ns_ NB538_500; obtain ⟨hnb143, hnc143⟩ := ns_ NB538_505; obtain ⟨hnb144, hnc144⟩ := ns_ NB538_510; obtain ⟨hnb145, hnc145⟩ := ns_ NB538_512; obtain ⟨hnb146, hnc146⟩ := ns_ NB538_533; obtain ⟨hcz147_0, hfz147_0⟩ := b1_ BK538; obtain ⟨hcz148_0, hfz148_0⟩ := b1_ BK533) | (go_at_call 25; (with_reducible refine (laws_sameDisk.calls k2 _ _ t529 _ _ t534 true _ ?side1 ?side2 ?side3 ?side4 A122.out).mono ?_); (case side1 => refine (Kd.R_reads' (e := 76) (base := w.heap.size) (ok := fun k_ => (((((True ∧ some k_ ≠ (.slice Ao10 t490.length co10 : Value).ownBlock) ∧ some k_ ≠ (.slice Ao15 t501.length co15 : Value).ownBlock) ∧ some k_ ≠ (.slice Ao21 t506.length co21 : Value).ownBlock) ∧ some k_ ≠ (u513000 : Value).ownBlock) ∧ some k_ ≠ (.slice Ao141 t534.length co141 : Value).ownBlock)) (n := t529.length) (c := co132) ?_).2.2; exact (rq_ (rf_ HO531 BK538 0 (.slice Ao141 t534.length co141)))); (case side2 => exact (Kd.R_reads' HO531.out).2.1); (case side3 => refine (Kd.R_reads' (e := 76) (base := w.heap.size) (ok := fun k_ => (((((True ∧ some k_ ≠ (.slice Ao10 t490.length co10 : Value).ownBlock) ∧ some k_ ≠ (.slice Ao15 t501.length co15 : Value).ownBlock) ∧ some k_ ≠ (.slice Ao21 t506.length co21 : Value).ownBlock) ∧ some k_ ≠ (u513000 : Value).ownBlock) ∧ some k_ ≠ (.slice Ao132 t529.length co132 : Value).ownBlock)) (n := t534.length) (c := co141) ?_).2.2; exact (rq_ (rf_ HO536 BK538 0 (.slice Ao141 t534.length co141)))); (case side4 => exact (Kd.R_reads' HO536.out).2.1); rintro e w149 ⟨rfl, hb⟩; replace HO_4 := mk_ (Kd.R_below (rq_ (rf_ HO_4 BK538 0 (.slice Ao141 t534.length co141))) hb); replace HO_6 := mk_ (Kd.R_below (rq_ (rf_ HO_6 BK538 0 (.slice Ao141 t534.length co141))) hb); replace HO_501000 := mk_ (Kd.R_below (rq_ (rf_ HO_501000 BK538 0 (.slice Ao141 t534.length co141))) hb); replace HO_506000 := mk_ (Kd.R_below (rq_ (rf_ HO_506000 BK538 0 (.slice Ao141 t534.length co141))) hb); replace HO_511000 := mk_ (Kd.R_below (rq_ (rf_ HO_511000 BK538 0 (.slice Ao141 t534.length co141))) hb); replace HO_513000 := mk_ (Kd.R_below (rq_ (rf_ HO_513000 BK538 0 (.slice Ao141 t534.length co141))) hb); replace HO531 := mk_ (Kd.R_below (rq_ (rf_ HO531 BK538 0 (.slice Ao141 t534.length co141))) hb); replace HO536 := mk_ (Kd.R_below (rq_ (rf_ HO536 BK538 0 (.slice Ao141 t534.length co141))) hb); replace BK500 := mk_ (blk_below (g := gb500) (o := .cells #[.slice Ao10 t490.length co10] 31 (0, 0)) bf_ hb); replace BK505 := mk_ (blk_below (g := gb505) (o := .cells #[.slice Ao15 t501.length co15] 31 (0, 0)) bf_ hb); replace BK510 := mk_ (blk_below (g := gb510) (o := .cells #[.slice Ao21 t506.length co21] 31 (0, 0)) bf_ hb); replace BK512 := mk_ (blk_below (g := gb512) (o := .cells #[u513000] 31 (0, 0)) bf_ hb); replace BK533 := mk_ (blk_below (g := gb533) (o := .cells #[.slice Ao132 t529.length co132] 31 (0, 0)) bf_ hb); replace BK538 := mk_ (blk_below (g := gb538) (o := .cells #[.slice Ao141 t534.length co141] 31 (0, 0)) bu_ hb); replace HB := bs_ HB hb; (try clear hb); (try clear hk)))
       go_ret
       exact ⟨er_, bw_ HB⟩
      rw [if_neg c124] at H
      have c124b0 : (t504 == 0) = false := beq_eq_false_iff_ne.mpr c124
      have c124b1 : (t504 != 0) = true := bne_iff_ne.mpr c124
      replace H := Option.bind_eq_some_iff.mp H
      obtain ⟨t540, A1500, H⟩ := H
      try dsimp only at H
      have A150 := Aside0.mk A1500
      clear A1500
      obtain rfl := Option.some.inj H
      obtain ⟨hnb151, hnc151⟩ := ns_ NB500_505
      obtain ⟨hnb152, hnc152⟩ := ns_ NB500_510
      obtain ⟨hnb153, hnc153⟩ := ns_ NB500_512
      have hcz154_0 : wr.cell? ⟨gb500, 0, none⟩ = some (.slice Ao10 t490.length co10) := bc_ BK500 0
      have hfz154_0 := blk_frozen BK500.out 0
      obtain ⟨Ao155, co155, eo155⟩ := Kd.R_slice HO_6.out
      subst eo155
      go_wp2_with (first | ((with_reducible refine gate_callee (f := 27) rfl ?_); refine gl_ 128 Try.func27 #[.agg #[.slice Ao10 t490.length co10], .slice Ao12 t493.length co12, .int .i64 t496, .slice Ao155 t497.length co155] ?_; (with_reducible refine (impl_CutActs.calls k2 _ _ t490 _ _ t493 t496 _ _ t497 t529 t532 _ ?side1 ?side2 ?side3 ?side4 ?side5 ?side6 A119.out).mono ?_); (case side1 => exact cr_ HO_501000); (case side2 => exact (Kd.R_reads' HO_501000.out).2.1); (case side3 => exact cr_ HO_4); (case side4 => exact (Kd.R_reads' HO_4.out).2.1); (case side5 => exact cr_ HO_6); (case side6 => exact (Kd.R_reads' HO_6.out).2.1); rintro e w156 ⟨v530, rfl, ho0, hb⟩; refine ⟨_, rfl, ?_⟩; have HO531 := mk_ (Kd.R_lower (Kd.R_new' (Kd.R_new' (Kd.R_new' (Kd.R_new' ho0 (Kd.R_lt (rp_ HO_501000))) (Kd.R_lt (rp_ HO_506000))) (Kd.R_lt (rp_ HO_511000))) (Kd.R_lt (rp_ HO_513000))) (below_size (bw_ HB))); replace HO_4 := rb_ HO_4 hb; replace HO_6 := rb_ HO_6 hb; replace HO_501000 := mk_ (Kd.R_elder' (rp_ HO_501000) (Kd.R_base ho0) hb); replace HO_506000 := mk_ (Kd.R_elder' (rp_ HO_506000) (Kd.R_base ho0) hb); replace HO_511000 := mk_ (Kd.R_elder' (rp_ HO_511000) (Kd.R_base ho0) hb); replace HO_513000 := mk_ (Kd.R_elder' (rp_ HO_513000) (Kd.R_base ho0) hb); replace BK500 := bb_ BK500 hb; replace BK505 := bb_ BK505 hb; replace BK510 := bb_ BK510 hb; replace BK512 := bb_ BK512 hb; replace HB := bs_ HB hb; (try clear hb); (try clear hk); (try clear ho0)) | ((with_reducible refine gate_dst (N := 19) rfl ?_); refine bx_ (N := 19) (cs := #[.slice none 0 0]) (t := 31) ?_; intro gb533 hg w157 hbox hb; have BK533 := mk_ (hbox); have GW533 : Aside0 (w.heap.size ≤ gb533) := bz_ hg; have GE533 := GW533; have NB500_533 := bl_ BK500 hg; have NB533_500 := bg_ BK500 hg; have NB505_533 := bl_ BK505 hg; have NB533_505 := bg_ BK505 hg; have NB510_533 := bl_ BK510 hg; have NB533_510 := bg_ BK510 hg; have NB512_533 := bl_ BK512 hg; have NB533_512 := bg_ BK512 hg; replace HO_4 := rb_ HO_4 hb; replace HO_6 := rb_ HO_6 hb; replace HO_501000 := rb_ HO_501000 hb; replace HO_506000 := rb_ HO_506000 hb; replace HO_511000 := rb_ HO_511000 hb; replace HO_513000 := rb_ HO_513000 hb; replace HO531 := rb_ HO531 hb; replace BK500 := bb_ BK500 hb; replace BK505 := bb_ BK505 hb; replace BK510 := bb_ BK510 hb; replace BK512 := bb_ BK512 hb; replace HB := bs_ HB hb; clear hb hbox hg; obtain ⟨Ao158, co158, eo158⟩ := Kd.R_slice HO531.out; subst eo158; obtain ⟨hnb159, hnc159⟩ := ns_ NB533_500; obtain ⟨hnb160, hnc160⟩ := ns_ NB533_505; obtain ⟨hnb161, hnc161⟩ := ns_ NB533_510; obtain ⟨hnb162, hnc162⟩ := ns_ NB533_512; obtain ⟨hcz163_0, hfz163_0⟩ := b1_ BK533; obtain ⟨hcz164_0, hfz164_0⟩ := b1_ BK500) | ((with_reducible refine gate_callee (f := 28) rfl ?_); refine gl_ 136 Try.func28 #[.agg #[.slice Ao10 t490.length co10], .slice Ao12 t493.length co12, .int .i64 t496, .slice Ao155 t497.length co155] ?_; (with_reducible refine (spec_CutActs.calls k2 _ _ t490 _ _ t493 t496 _ _ t497 t534 t537 _ ?side1 ?side2 ?side3 ?side4 ?side5 ?side6 A120.out).mono ?_); (case side1 => refine (Kd.R_reads' (e := 76) (base := w.heap.size) (ok := fun k_ => ((some k_ ≠ (.slice Ao15 t501.length co15 : Value).ownBlock ∧ some k_ ≠ (.slice Ao21 t506.length co21 : Value).ownBlock) ∧ some k_ ≠ (.slice Ao158 t529.length co158 : Value).ownBlock)) (n := t490.length) (c := co10) ?_).2.2; exact (rq_ (rf_ HO_501000 BK533 0 (.slice Ao158 t529.length co158)))); (case side2 => exact (Kd.R_reads' HO_501000.out).2.1); (case side3 => refine (Kd.R_reads' (e := 35) (base := w.heap.size) (ok := fun k_ => True) (n := t493.length) (c := co12) ?_).2.2; exact (rq_ (rf_ HO_4 BK533 0 (.slice Ao158 t529.length co158)))); (case side4 => exact (Kd.R_reads' HO_4.out).2.1); (case side5 => refine (Kd.R_reads' (e := 3) (base := w.heap.size) (ok := fun k_ => True) (n := t497.length) (c := co155) ?_).2.2; exact (rq_ (rf_ HO_6 BK533 0 (.slice Ao158 t529.length co158)))); (case side6 => exact (Kd.R_reads' HO_6.out).2.1); rintro e w165 ⟨v535, rfl, ho0, hb⟩; refine ⟨_, rfl, ?_⟩; have HO536 := mk_ (Kd.R_lower (Kd.R_new' (Kd.R_new' (Kd.R_new' (Kd.R_new' (Kd.R_new' ho0 (Kd.R_lt (rq_ (rf_ HO_501000 BK533 0 (.slice Ao158 t529.length co158))))) (Kd.R_lt (rq_ (rf_ HO_506000 BK533 0 (.slice Ao158 t529.length co158))))) (Kd.R_lt (rq_ (rf_ HO_511000 BK533 0 (.slice Ao158 t529.length co158))))) (Kd.R_lt (rq_ (rf_ HO_513000 BK533 0 (.slice Ao158 t529.length co158))))) (Kd.R_lt (rq_ (rf_ HO531 BK533 0 (.slice Ao158 t529.length co158))))) (below_size (bw_ HB))); replace HO_4 := mk_ (Kd.R_below (rq_ (rf_ HO_4 BK533 0 (.slice Ao158 t529.length co158))) hb); replace HO_6 := mk_ (Kd.R_below (rq_ (rf_ HO_6 BK533 0 (.slice Ao158 t529.length co158))) hb); replace HO_501000 := mk_ (Kd.R_elder' (rq_ (rf_ HO_501000 BK533 0 (.slice Ao158 t529.length co158))) (Kd.R_base ho0) hb); replace HO_506000 := mk_ (Kd.R_elder' (rq_ (rf_ HO_506000 BK533 0 (.slice Ao158 t529.length co158))) (Kd.R_base ho0) hb); replace HO_511000 := mk_ (Kd.R_elder' (rq_ (rf_ HO_511000 BK533 0 (.slice Ao158 t529.length co158))) (Kd.R_base ho0) hb); replace HO_513000 := mk_ (Kd.R_elder' (rq_ (rf_ HO_513000 BK533 0 (.slice Ao158 t529.length co158))) (Kd.R_base ho0) hb); replace HO531 := mk_ (Kd.R_elder' (rq_ (rf_ HO531 BK533 0 (.slice Ao158 t529.length co158))) (Kd.R_base ho0) hb); replace BK500 := mk_ (blk_below (g := gb500) (o := .cells #[.slice Ao10 t490.length co10] 31 (0, 0)) bf_ hb); replace BK505 := mk_ (blk_below (g := gb505) (o := .cells #[.slice Ao15 t501.length co15] 31 (0, 0)) bf_ hb); replace BK510 := mk_ (blk_below (g := gb510) (o := .cells #[.slice Ao21 t506.length co21] 31 (0, 0)) bf_ hb); replace BK512 := mk_ (blk_below (g := gb512) (o := .cells #[u513000] 31 (0, 0)) bf_ hb); replace BK533 := mk_ (blk_below (g := gb533) (o := .cells #[.slice Ao158 t529.length co158] 31 (0, 0)) bu_ hb); replace HB := bs_ HB hb; (try clear hb); (try clear hk); (try clear ho0)) | ((with_reducible refine gate_dst (N := 21) rfl ?_); refine bx_ (N := 21) (cs := #[.slice none 0 0]) (t := 31) ?_; intro gb538 hg w166 hbox hb; have BK538 := mk_ (hbox); have GW538 : Aside0 (w.heap.size ≤ gb538) := bz_ hg; have GE538 := GW538; have NB500_538 := bl_ BK500 hg; have NB538_500 := bg_ BK500 hg; have NB505_538 := bl_ BK505 hg; have NB538_505 := bg_ BK505 hg; have NB510_538 := bl_ BK510 hg; have NB538_510 := bg_ BK510 hg; have NB512_538 := bl_ BK512 hg; have NB538_512 := bg_ BK512 hg; have NB533_538 := bl_ BK533 hg; have NB538_533 := bg_ BK533 hg; replace HO_4 := rb_ HO_4 hb; replace HO_6 := rb_ HO_6 hb; replace HO_501000 := rb_ HO_501000 hb; replace HO_506000 := rb_ HO_506000 hb; replace HO_511000 := rb_ HO_511000 hb; replace HO_513000 := rb_ HO_513000 hb; replace HO531 := rb_ HO531 hb; replace HO536 := rb_ HO536 hb; replace BK500 := bb_ BK500 hb; replace BK505 := bb_ BK505 hb; replace BK510 := bb_ BK510 hb; replace BK512 := bb_ BK512 hb; replace BK533 := bb_ BK533 hb; replace HB := bs_ HB hb; clear hb hbox hg; obtain ⟨Ao167, co167, eo167⟩ := Kd.R_slice HO536.out; subst eo167; obtain ⟨hnb168, hnc168⟩ := ns_ NB538_500; obtain ⟨hnb169, hnc169⟩ := ns_ NB538_505; obtain ⟨hnb170, hnc170⟩ := ns_ NB538_510; obtain ⟨hnb171, hnc171⟩ := ns_ NB538_512; obtain ⟨hnb172, hnc172⟩ := ns_ NB538_533; obtain ⟨hcz173_0, hfz173_0⟩ := b1_ BK538; obtain ⟨hcz174_0, hfz174_0⟩ := b1_ BK533) | (go_at_call 25; (with_reducible refine (laws_sameDisk.calls k2 _ _ t529 _ _ t534 true _ ?side1 ?side2 ?side3 ?side4 A122.out).mono ?_); (case side1 => refine (Kd.R_reads' (e := 76) (base := w.heap.size) (ok := fun k_ => (((((True ∧ some k_ ≠ (.slice Ao10 t490.length co10 : Value).ownBlock) ∧ some k_ ≠ (.slice Ao15 t501.length co15 : Value).ownBlock) ∧ some k_ ≠ (.slice Ao21 t506.length co21 : Value).ownBlock) ∧ some k_ ≠ (u513000 : Value).ownBlock) ∧ some k_ ≠ (.slice Ao167 t534.length co167 : Value).ownBlock)) (n := t529.length) (c := co158) ?_).2.2; exact (rq_ (rf_ HO531 BK538 0 (.slice Ao167 t534.length co167)))); (case side2 => exact (Kd.R_reads' HO531.out).2.1); (case side3 => refine (Kd.R_reads' (e := 76) (base := w.heap.size) (ok := fun k_ => (((((True ∧ some k_ ≠ (.slice Ao10 t490.length co10 : Value).ownBlock) ∧ some k_ ≠ (.slice Ao15 t501.length co15 : Value).ownBlock) ∧ some k_ ≠ (.slice Ao21 t506.length co21 : Value).ownBlock) ∧ some k_ ≠ (u513000 : Value).ownBlock) ∧ some k_ ≠ (.slice Ao158 t529.length co158 : Value).ownBlock)) (n := t534.length) (c := co167) ?_).2.2; exact (rq_ (rf_ HO536 BK538 0 (.slice Ao167 t534.length co167)))); (case side4 => exact (Kd.R_reads' HO536.out).2.1); rintro e w175 ⟨rfl, hb⟩; replace HO_4 := mk_ (Kd.R_below (rq_ (rf_ HO_4 BK538 0 (.slice Ao167 t534.length co167))) hb); replace HO_6 := mk_ (Kd.R_below (rq_ (rf_ HO_6 BK538 0 (.slice Ao167 t534.length co167))) hb); replace HO_501000 := mk_ (Kd.R_below (rq_ (rf_ HO_501000 BK538 0 (.slice Ao167 t534.length co167))) hb); replace HO_506000 := mk_ (Kd.R_below (rq_ (rf_ HO_506000 BK538 0 (.slice Ao167 t534.length co167))) hb); replace HO_511000 := mk_ (Kd.R_below (rq_ (rf_ HO_511000 BK538 0 (.slice Ao167 t534.length co167))) hb); replace HO_513000 := mk_ (Kd.R_below (rq_ (rf_ HO_513000 BK538 0 (.slice Ao167 t534.length co167))) hb); replace HO531 := mk_ (Kd.R_below (rq_ (rf_ HO531 BK538 0 (.slice Ao167 t534.length co167))) hb); replace HO536 := mk_ (Kd.R_below (rq_ (rf_ HO536 BK538 0 (.slice Ao167 t534.length co167))) hb); replace BK500 := mk_ (blk_below (g := gb500) (o := .cells #[.slice Ao10 t490.length co10] 31 (0, 0)) bf_ hb); replace BK505 := mk_ (blk_below (g := gb505) (o := .cells #[.slice Ao15 t501.length co15] 31 (0, 0)) bf_ hb); replace BK510 := mk_ (blk_below (g := gb510) (o := .cells #[.slice Ao21 t506.length co21] 31 (0, 0)) bf_ hb); replace BK512 := mk_ (blk_below (g := gb512) (o := .cells #[u513000] 31 (0, 0)) bf_ hb); replace BK533 := mk_ (blk_below (g := gb533) (o := .cells #[.slice Ao158 t529.length co158] 31 (0, 0)) bf_ hb); replace BK538 := mk_ (blk_below (g := gb538) (o := .cells #[.slice Ao167 t534.length co167] 31 (0, 0)) bu_ hb); replace HB := bs_ HB hb; (try clear hb); (try clear hk); obtain ⟨hnb176, hnc176⟩ := ns_ NB512_505; obtain ⟨hnb177, hnc177⟩ := ns_ NB512_510; obtain ⟨hcz178_0, hfz178_0⟩ := b1_ BK512; obtain ⟨hnb179, hnc179⟩ := ns_ NB505_510; obtain ⟨hcz180_0, hfz180_0⟩ := b1_ BK505; obtain ⟨Ao181, co181, eo181⟩ := Kd.R_slice HO_513000.out; subst eo181) | (go_at_call 25; (with_reducible refine (laws_sameDisk.calls k2 _ _ x513000_2 _ _ t501 t540 _ ?side1 ?side2 ?side3 ?side4 A150.out).mono ?_); (case side1 => exact cr_ HO_513000); (case side2 => exact (Kd.R_reads' HO_513000.out).2.1); (case side3 => exact cr_ HO_506000); (case side4 => exact (Kd.R_reads' HO_506000.out).2.1); rintro e w182 ⟨rfl, hb⟩; replace HO_4 := rb_ HO_4 hb; replace HO_6 := rb_ HO_6 hb; replace HO_501000 := rb_ HO_501000 hb; replace HO_506000 := rb_ HO_506000 hb; replace HO_511000 := rb_ HO_511000 hb; replace HO_513000 := rb_ HO_513000 hb; replace HO531 := rb_ HO531 hb; replace HO536 := rb_ HO536 hb; replace BK500 := bb_ BK500 hb; replace BK505 := bb_ BK505 hb; replace BK510 := bb_ BK510 hb; replace BK512 := bb_ BK512 hb; replace BK533 := bb_ BK533 hb; replace BK538 := bb_ BK538 hb; replace HB := bs_ HB hb; (try clear hb); (try clear hk)))
      go_ret
      exact ⟨er_, bw_ HB⟩
     rw [if_pos c42] at H
     have c42b0 : decide (x12_2 < t504) = true := decide_eq_true c42
     clear c42
     by_cases c43 : 0 ≤ x12_2
     rotate_left
     ·rw [if_neg c43] at H
      exact absurd H (by simp)
     rw [if_pos c43] at H
     have c43b0 : decide (0 ≤ x12_2) = true := decide_eq_true c43
     clear c43
     by_cases c44 : x12_2 < (t493.length : Int)
     rotate_left
     ·rw [if_neg c44] at H
      exact absurd H (by simp)
     rw [if_pos c44] at H
     have c44b0 : decide (x12_2 < (t493.length : Int)) = true := decide_eq_true c44
     clear c44
     replace H := Option.bind_eq_some_iff.mp H
     obtain ⟨⟨t514, t517⟩, A450, H⟩ := H
     try dsimp only at H
     have A45 := Aside0.mk A450
     clear A450
     by_cases c46 : t517 = true
     rotate_left
     ·replace c46 := Bool.eq_false_iff.mpr c46
      subst c46
      rw [if_neg (show ¬ (false = true) by decide)] at H
      exact absurd H (by simp)
     subst c46
     rw [if_pos rfl] at H
     replace H := Option.bind_eq_some_iff.mp H
     obtain ⟨⟨t520, t521⟩, A470, H⟩ := H
     try dsimp only at H
     have A47 := Aside0.mk A470
     clear A470
     replace H := Option.bind_eq_some_iff.mp H
     obtain ⟨⟨t523, t524⟩, A480, H⟩ := H
     try dsimp only at H
     have A48 := Aside0.mk A480
     clear A480
     by_cases c49 : ((rd_T35 t493 x12_2).f0) = 1
     ·rw [if_pos c49] at H
      have c49b0 : (((rd_T35 t493 x12_2).f0) == 1) = true := beq_iff_eq.mpr c49
      have c49b1 : (((rd_T35 t493 x12_2).f0) != 1) = false := bne_eq_false_iff_eq.mpr c49
      clear c49
      by_cases c50 : t524 = true
      rotate_left
      ·replace c50 := Bool.eq_false_iff.mpr c50
       subst c50
       rw [if_neg (show ¬ (false = true) by decide)] at H
       exact absurd H (by simp)
      subst c50
      rw [if_pos rfl] at H
      by_cases c51 : t520.size + ((rd_T35 t493 x12_2).f2).size ≤ 9223372036854775807
      rotate_left
      ·rw [if_neg c51] at H
       exact absurd H (by simp)
      rw [if_pos c51] at H
      have c51b0 := eq_true c51
      have c51b1 : decide (t520.size + ((rd_T35 t493 x12_2).f2).size ≤ 9223372036854775807) = true := decide_eq_true c51
      try have c51b2 : (9223372036854775807 < t520.size + ((rd_T35 t493 x12_2).f2).size) = False := eq_false (Nat.not_lt.2 c51)
      by_cases c52 : t523.toList = (t520 ++ ((rd_T35 t493 x12_2).f2)).toList
      rotate_left
      ·rw [if_neg c52] at H
       exact absurd H (by simp)
      rw [if_pos c52] at H
      have c52b0 : (t523.toList == (t520 ++ ((rd_T35 t493 x12_2).f2)).toList) = true := beq_iff_eq.mpr c52
      have c52b1 : (t523.toList != (t520 ++ ((rd_T35 t493 x12_2).f2)).toList) = false := bne_eq_false_iff_eq.mpr c52
      clear c52
      by_cases c53 : ((rd_T35 t493 x12_2).f0) = 4
      ·rw [if_pos c53] at H
       exact absurd H (by simp)
      rw [if_neg c53] at H
      have c53b0 : (((rd_T35 t493 x12_2).f0) == 4) = false := beq_eq_false_iff_ne.mpr c53
      have c53b1 : (((rd_T35 t493 x12_2).f0) != 4) = true := bne_iff_ne.mpr c53
      have H' := Aside0.mk H
      clear H
      obtain ⟨Ao54, co54, eo54⟩ := Kd.R_slice HO_513000.out
      subst eo54
      try go_wp2
      replace HO_4 := rd_ HO_4; replace HO_6 := rd_ HO_6; replace HO_501000 := rd_ HO_501000; replace HO_506000 := rd_ HO_506000; replace HO_511000 := rd_ HO_511000; replace HO_513000 := rd_ HO_513000; replace BK500 := kd_ BK500; replace BK505 := kd_ BK505; replace BK510 := kd_ BK510; replace BK512 := kd_ BK512; replace HB := wd_ HB
      have p513 : 0 ≤ (x12_2 : Int) := od_
      have q513 : x12_2 < (t493.length : Int) := od_
      obtain ⟨ad513, e513, hx513_0, hx513_1, hx513_2, hx513_3⟩ := at_T35 (Kd.R_reads' HO_4.out).2.2 x12_2 p513 q513
      cases e513
      replace p513 := eq_true p513
      replace q513 := eq_true q513
      refine start_ (n := 12) (S := fun w' => w'.cell? ⟨gb512, 0, none⟩ = some (.slice Ao54 x513000_2.length co54) ∧ w'.cell? (ad513.add ((x12_2).toNat * 4)) = some (.int .i64 ((rd_T35 t493 x12_2).f0)) ∧ w'.cell? ⟨(ad513.add ((x12_2).toNat * 4)).block, (ad513.add ((x12_2).toNat * 4)).off + 1, none⟩ = some (.string ((rd_T35 t493 x12_2).f1)) ∧ w'.cell? ⟨(ad513.add ((x12_2).toNat * 4)).block, (ad513.add ((x12_2).toNat * 4)).off + 2, none⟩ = some (.string ((rd_T35 t493 x12_2).f2)) ∧ w'.cell? ⟨(ad513.add ((x12_2).toNat * 4)).block, (ad513.add ((x12_2).toNat * 4)).off + 3, none⟩ = some (.string ((rd_T35 t493 x12_2).f3))) (ds := []) #[false, false, false, false, false, false, false, false, false, false, false, false] (by kernel_rfl) rfl rfl ⟨bc_ BK512 0, hx513_0, hx513_1, hx513_2, hx513_3⟩ (fun hHeld => ?_); refine with_tabW laws_FnActs.tab12 laws_FnActs.bits12 (fun HT_ HW_ => ?_)
      generalize wr.drew = w55 at HO_4 HO_6 HO_501000 HO_506000 HO_511000 HO_513000 BK500 BK505 BK510 BK512 HB hx513_0 hx513_1 hx513_2 hx513_3 hHeld ⊢
      refine pv_ 1 61 ?_
      refine pv_ 2 62 ?_
      refine pv_ 3 63 ?_
      refine tv_ 0 60 hHeld ?_
      refine tv_ 4 64 hHeld ?_
      refine join_ (σ := Value × Nat) 2 #[true, true, true, true, true, true, true, true, true, true, false, false] (fun s_ => [(65, .tuple #[.agg #[s_.1], .bool true]), (13, .pointer (some ⟨s_.2, 0, none⟩)), (59, .tuple #[.agg #[s_.1], .bool true]), (66, .agg #[s_.1]), (67, .bool true)]) (fun s_ w' => (w'.cell? ⟨gb512, 0, none⟩ = some (.slice Ao54 x513000_2.length co54) ∧ w'.cell? (ad513.add ((x12_2).toNat * 4)) = some (.int .i64 ((rd_T35 t493 x12_2).f0)) ∧ w'.cell? ⟨(ad513.add ((x12_2).toNat * 4)).block, (ad513.add ((x12_2).toNat * 4)).off + 1, none⟩ = some (.string ((rd_T35 t493 x12_2).f1)) ∧ w'.cell? ⟨(ad513.add ((x12_2).toNat * 4)).block, (ad513.add ((x12_2).toNat * 4)).off + 2, none⟩ = some (.string ((rd_T35 t493 x12_2).f2)) ∧ w'.cell? ⟨(ad513.add ((x12_2).toNat * 4)).block, (ad513.add ((x12_2).toNat * 4)).off + 3, none⟩ = some (.string ((rd_T35 t493 x12_2).f3))) ∧ (Kd.R k76 76 w' w.heap.size (fun k_ => some k_ ≠ (.slice Ao10 t490.length co10 : Value).ownBlock ∧ some k_ ≠ (.slice Ao15 t501.length co15 : Value).ownBlock ∧ some k_ ≠ (.slice Ao21 t506.length co21 : Value).ownBlock ∧ some k_ ≠ (.slice Ao54 x513000_2.length co54 : Value).ownBlock) s_.1 t514) ∧ (Kd.R k35 35 w' w.heap.size (fun _ => True) (.slice (some ad513) t493.length co12) t493) ∧ (Kd.R k76 76 w' w.heap.size (fun k_ => some k_ ≠ (s_.1 : Value).ownBlock ∧ some k_ ≠ (.slice Ao15 t501.length co15 : Value).ownBlock ∧ some k_ ≠ (.slice Ao21 t506.length co21 : Value).ownBlock) (.slice Ao10 t490.length co10) t490) ∧ (Kd.R k76 76 w' w.heap.size (fun k_ => some k_ ≠ (s_.1 : Value).ownBlock ∧ some k_ ≠ (.slice Ao10 t490.length co10 : Value).ownBlock ∧ some k_ ≠ (.slice Ao21 t506.length co21 : Value).ownBlock ∧ some k_ ≠ (.slice Ao54 x513000_2.length co54 : Value).ownBlock) (.slice Ao15 t501.length co15) t501) ∧ (Kd.R k76 76 w' w.heap.size (fun k_ => some k_ ≠ (s_.1 : Value).ownBlock ∧ some k_ ≠ (.slice Ao10 t490.length co10 : Value).ownBlock ∧ some k_ ≠ (.slice Ao15 t501.length co15 : Value).ownBlock ∧ some k_ ≠ (.slice Ao54 x513000_2.length co54 : Value).ownBlock) (.slice Ao21 t506.length co21) t506) ∧ (Kd.R k76 76 w' w.heap.size (fun k_ => some k_ ≠ (s_.1 : Value).ownBlock ∧ some k_ ≠ (.slice Ao15 t501.length co15 : Value).ownBlock ∧ some k_ ≠ (.slice Ao21 t506.length co21 : Value).ownBlock) (.slice Ao54 x513000_2.length co54) x513000_2) ∧ (Kd.R (Kd.int .i64) 3 w' w.heap.size (fun _ => True) v498 t497) ∧ (w'.heap[gb500]? = some (.cells #[.slice Ao10 t490.length co10] 31 (0, 0))) ∧ (w'.heap[gb505]? = some (.cells #[.slice Ao15 t501.length co15] 31 (0, 0))) ∧ (w'.heap[gb510]? = some (.cells #[.slice Ao21 t506.length co21] 31 (0, 0))) ∧ (w'.heap[gb512]? = some (.cells #[.slice Ao54 x513000_2.length co54] 31 (0, 0))) ∧ (w'.heap[s_.2]? = some (.cells #[.slice none 0 0] 31 (0, 0))) ∧ (w.heap.size ≤ s_.2) ∧ (w.heap.size ≤ s_.2) ∧ (gb500 ≠ s_.2) ∧ (s_.2 ≠ gb500) ∧ (gb505 ≠ s_.2) ∧ (s_.2 ≠ gb505) ∧ (gb510 ≠ s_.2) ∧ (s_.2 ≠ gb510) ∧ (gb512 ≠ s_.2) ∧ (s_.2 ≠ gb512) ∧ (Below w.heap.size w w')) ?_ ?_
      rotate_left
      ·intro hCont
       refine two_ (i := 5) (j := 9) (Ni := some 65) (Nj := some 13) #[true, true, true, true, true, true, false, false, false, false, false, false] #[true, true, true, true, true, false, false, false, false, true, false, false] rfl rfl rfl rfl (two_of HT_.out (by kernel_rfl)) (by decide) (by decide) (fun K hK => ?_) (fun K hK => ?_)
       rotate_left
       ·skip
        refine box_step ?hg (N := 13) ?hd (cs := #[.slice none 0 0]) (t := 31) ?hr ?_; (case hd => rfl); (case hg => rfl); (case hr => first | (go_simp; done) | (go_simp; rfl))
        intro gb518 hg w56 hbox hb
        have HS1_ := (hb.cell (World.block_lt_of_cell? _ _ (hHeld.2.1))).trans (hHeld.2.1)
        have HS2_ := (hb.cell (World.block_lt_of_cell? _ _ (hHeld.2.2.1))).trans (hHeld.2.2.1)
        have HS3_ := (hb.cell (World.block_lt_of_cell? _ _ (hHeld.2.2.2.1))).trans (hHeld.2.2.2.1)
        have HS4_ := (hb.cell (World.block_lt_of_cell? _ _ (hHeld.2.2.2.2))).trans (hHeld.2.2.2.2)
        have n11_ := mk_ (hbox)
        have n12_ : Aside0 (w.heap.size ≤ gb518) := bz_ hg
        have n13_ : Aside0 (w.heap.size ≤ gb518) := bz_ hg
        have n14_ : Aside0 (gb500 ≠ gb518) := bl_ BK500 hg
        have n15_ : Aside0 (gb518 ≠ gb500) := bg_ BK500 hg
        have n16_ : Aside0 (gb505 ≠ gb518) := bl_ BK505 hg
        have n17_ : Aside0 (gb518 ≠ gb505) := bg_ BK505 hg
        have n18_ : Aside0 (gb510 ≠ gb518) := bl_ BK510 hg
        have n19_ : Aside0 (gb518 ≠ gb510) := bg_ BK510 hg
        have n20_ : Aside0 (gb512 ≠ gb518) := bl_ BK512 hg
        have n21_ : Aside0 (gb518 ≠ gb512) := bg_ BK512 hg
        have BK518 := n11_; have GW518 := n12_; have GE518 := n13_; have NB500_518 := n14_; have NB518_500 := n15_; have NB505_518 := n16_; have NB518_505 := n17_; have NB510_518 := n18_; have NB518_510 := n19_; have NB512_518 := n20_; have NB518_512 := n21_; clear n11_ n12_ n13_ n14_ n15_ n16_ n17_ n18_ n19_ n20_ n21_; replace HO_4 := rb_ HO_4 hb; replace HO_6 := rb_ HO_6 hb; replace HO_501000 := rb_ HO_501000 hb; replace HO_506000 := rb_ HO_506000 hb; replace HO_511000 := rb_ HO_511000 hb; replace HO_513000 := rb_ HO_513000 hb; replace BK500 := bb_ BK500 hb; replace BK505 := bb_ BK505 hb; replace BK510 := bb_ BK510 hb; replace BK512 := bb_ BK512 hb; replace HB := bs_ HB hb; clear hb hbox hg
        refine hK.out _ _ ⟨bc_ BK512 0, HS1_, HS2_, HS3_, HS4_⟩ (fun hHeld => ?_)
        clear hK K
        refine norm_ (a' := ?_) ?_ ?_
        rotate_left
        ·show Act.put _ (some 13) _ = _
         simp only [Act.put, sia_, scz_, scs_, i64_w, i32_w]
         rfl
        refine one_ (i := 5) (N := some 65) #[true, true, true, true, true, true, false, false, false, true, false, false] rfl rfl (one_of HT_.out (by kernel_rfl)) (by decide) (fun K hK => ?_)
        refine goes_ Try.func13 (by kernel_rfl) rfl #[.agg #[.slice Ao54 x513000_2.length co54], .agg #[.int .i64 ((rd_T35 t493 x12_2).f0), .string ((rd_T35 t493 x12_2).f1), .string ((rd_T35 t493 x12_2).f2), .string ((rd_T35 t493 x12_2).f3)]] (by rfl) rfl rfl ga_ ?_
        with_reducible refine (impl_DoAct.calls k2 _ _ x513000_2 ((rd_T35 t493 x12_2).f0) ((rd_T35 t493 x12_2).f1) ((rd_T35 t493 x12_2).f2) ((rd_T35 t493 x12_2).f3) t514 true _ ?side1 ?side2 A45.out).mono ?_
        (case side1 => exact cr_ HO_513000)
        (case side2 => exact (Kd.R_reads' HO_513000.out).2.1)
        rintro e w57 ⟨v515, rfl, ho0, hb⟩
        have HS1_ := (hb.cell (World.block_lt_of_cell? _ _ (hHeld.2.1))).trans (hHeld.2.1)
        have HS2_ := (hb.cell (World.block_lt_of_cell? _ _ (hHeld.2.2.1))).trans (hHeld.2.2.1)
        have HS3_ := (hb.cell (World.block_lt_of_cell? _ _ (hHeld.2.2.2.1))).trans (hHeld.2.2.2.1)
        have HS4_ := (hb.cell (World.block_lt_of_cell? _ _ (hHeld.2.2.2.2))).trans (hHeld.2.2.2.2)
        refine ⟨_, rfl, ?_⟩
        have n2_ := mk_ (Kd.R_elder' (rp_ HO_501000) (Kd.R_base ho0) hb)
        have n3_ := mk_ (Kd.R_elder' (rp_ HO_506000) (Kd.R_base ho0) hb)
        have n4_ := mk_ (Kd.R_elder' (rp_ HO_511000) (Kd.R_base ho0) hb)
        have n5_ := mk_ (Kd.R_elder' (rp_ HO_513000) (Kd.R_base ho0) hb)
        have n6_ := mk_ (Kd.R_lower (Kd.R_new' (Kd.R_new' (Kd.R_new' (Kd.R_new' ho0 (Kd.R_lt (rp_ HO_501000))) (Kd.R_lt (rp_ HO_506000))) (Kd.R_lt (rp_ HO_511000))) (Kd.R_lt (rp_ HO_513000))) (below_size (bw_ HB)))
        clear HO_501000; clear HO_506000; clear HO_511000; clear HO_513000; have HO_501000 := n2_; have HO_506000 := n3_; have HO_511000 := n4_; have HO_513000 := n5_; have HO516 := n6_; clear n2_ n3_ n4_ n5_ n6_; replace HO_4 := rb_ HO_4 hb; replace HO_6 := rb_ HO_6 hb; replace BK500 := bb_ BK500 hb; replace BK505 := bb_ BK505 hb; replace BK510 := bb_ BK510 hb; replace BK512 := bb_ BK512 hb; replace BK518 := bb_ BK518 hb; replace HB := bs_ HB hb; (try clear hb); (try clear hb2); (try clear hk); (try clear hi); (try clear ho0)
        refine hK.out _ _ ⟨bc_ BK512 0, HS1_, HS2_, HS3_, HS4_⟩ (fun hHeld => ?_)
        clear hK K
        refine norm_ (a' := ?_) ?_ ?_
        rotate_left
        ·show Act.put _ (some 65) _ = _
         simp only [Act.put, sia_, scz_, scs_, i64_w, i32_w]
         rfl
        refine pv_ 6 59 ?_
        refine pv_ 7 66 ?_
        refine pv_ 8 67 ?_
        exact norm_ (by simp only [putAll, Act.put, sia_, scz_, scs_]) (hCont (v515, gb518) _ ⟨hHeld, (rq_ (Kd.R_mono HO516.out (fun _ hk => ⟨hk.1.1.1.2, ⟨hk.1.1.2, ⟨hk.1.2, hk.2⟩⟩⟩))), (rp_ HO_4), (rq_ (Kd.R_mono HO_501000.out (fun _ hk => ⟨hk.2, ⟨hk.1.1, hk.1.2⟩⟩))), (rq_ (Kd.R_mono HO_506000.out (fun _ hk => ⟨hk.2, ⟨hk.1.1, ⟨hk.1.2.1, hk.1.2.2⟩⟩⟩))), (rq_ (Kd.R_mono HO_511000.out (fun _ hk => ⟨hk.2, ⟨hk.1.1, ⟨hk.1.2.1, hk.1.2.2⟩⟩⟩))), (rq_ (Kd.R_mono HO_513000.out (fun _ hk => ⟨hk.2, ⟨hk.1.1, hk.1.2⟩⟩))), (rp_ HO_6), (bp_ BK500), (bp_ BK505), (bp_ BK510), (bp_ BK512), (bp_ BK518), GW518.out, GE518.out, NB500_518.out, NB518_500.out, NB505_518.out, NB518_505.out, NB510_518.out, NB518_510.out, NB512_518.out, NB518_512.out, (bw_ HB)⟩)
       skip
       refine goes_ Try.func13 (by kernel_rfl) rfl #[.agg #[.slice Ao54 x513000_2.length co54], .agg #[.int .i64 ((rd_T35 t493 x12_2).f0), .string ((rd_T35 t493 x12_2).f1), .string ((rd_T35 t493 x12_2).f2), .string ((rd_T35 t493 x12_2).f3)]] (by rfl) rfl rfl ga_ ?_
       with_reducible refine (impl_DoAct.calls k2 _ _ x513000_2 ((rd_T35 t493 x12_2).f0) ((rd_T35 t493 x12_2).f1) ((rd_T35 t493 x12_2).f2) ((rd_T35 t493 x12_2).f3) t514 true _ ?side1 ?side2 A45.out).mono ?_
       (case side1 => exact cr_ HO_513000)
       (case side2 => exact (Kd.R_reads' HO_513000.out).2.1)
       rintro e w56 ⟨v515, rfl, ho0, hb⟩
       have HS1_ := (hb.cell (World.block_lt_of_cell? _ _ (hHeld.2.1))).trans (hHeld.2.1)
       have HS2_ := (hb.cell (World.block_lt_of_cell? _ _ (hHeld.2.2.1))).trans (hHeld.2.2.1)
       have HS3_ := (hb.cell (World.block_lt_of_cell? _ _ (hHeld.2.2.2.1))).trans (hHeld.2.2.2.1)
       have HS4_ := (hb.cell (World.block_lt_of_cell? _ _ (hHeld.2.2.2.2))).trans (hHeld.2.2.2.2)
       refine ⟨_, rfl, ?_⟩
       have n2_ := mk_ (Kd.R_elder' (rp_ HO_501000) (Kd.R_base ho0) hb)
       have n3_ := mk_ (Kd.R_elder' (rp_ HO_506000) (Kd.R_base ho0) hb)
       have n4_ := mk_ (Kd.R_elder' (rp_ HO_511000) (Kd.R_base ho0) hb)
       have n5_ := mk_ (Kd.R_elder' (rp_ HO_513000) (Kd.R_base ho0) hb)
       have n6_ := mk_ (Kd.R_lower (Kd.R_new' (Kd.R_new' (Kd.R_new' (Kd.R_new' ho0 (Kd.R_lt (rp_ HO_501000))) (Kd.R_lt (rp_ HO_506000))) (Kd.R_lt (rp_ HO_511000))) (Kd.R_lt (rp_ HO_513000))) (below_size (bw_ HB)))
       clear HO_501000; clear HO_506000; clear HO_511000; clear HO_513000; have HO_501000 := n2_; have HO_506000 := n3_; have HO_511000 := n4_; have HO_513000 := n5_; have HO516 := n6_; clear n2_ n3_ n4_ n5_ n6_; replace HO_4 := rb_ HO_4 hb; replace HO_6 := rb_ HO_6 hb; replace BK500 := bb_ BK500 hb; replace BK505 := bb_ BK505 hb; replace BK510 := bb_ BK510 hb; replace BK512 := bb_ BK512 hb; replace HB := bs_ HB hb; (try clear hb); (try clear hb2); (try clear hk); (try clear hi); (try clear ho0)
       refine hK.out _ _ ⟨bc_ BK512 0, HS1_, HS2_, HS3_, HS4_⟩ (fun hHeld => ?_)
       clear hK K
       refine norm_ (a' := ?_) ?_ ?_
       rotate_left
       ·show Act.put _ (some 65) _ = _
        simp only [Act.put, sia_, scz_, scs_, i64_w, i32_w]
        rfl
       refine pv_ 6 59 ?_
       refine pv_ 7 66 ?_
       refine pv_ 8 67 ?_
       refine one_ (i := 9) (N := some 13) #[true, true, true, true, true, true, true, true, true, true, false, false] rfl rfl (one_of HT_.out (by kernel_rfl)) (by decide) (fun K hK => ?_)
       refine box_step ?hg (N := 13) ?hd (cs := #[.slice none 0 0]) (t := 31) ?hr ?_; (case hd => rfl); (case hg => rfl); (case hr => first | (go_simp; done) | (go_simp; rfl))
       intro gb518 hg w57 hbox hb
       have HS1_ := (hb.cell (World.block_lt_of_cell? _ _ (hHeld.2.1))).trans (hHeld.2.1)
       have HS2_ := (hb.cell (World.block_lt_of_cell? _ _ (hHeld.2.2.1))).trans (hHeld.2.2.1)
       have HS3_ := (hb.cell (World.block_lt_of_cell? _ _ (hHeld.2.2.2.1))).trans (hHeld.2.2.2.1)
       have HS4_ := (hb.cell (World.block_lt_of_cell? _ _ (hHeld.2.2.2.2))).trans (hHeld.2.2.2.2)
       have n12_ := mk_ (hbox)
       have n13_ : Aside0 (w.heap.size ≤ gb518) := bz_ hg
       have n14_ : Aside0 (w.heap.size ≤ gb518) := bz_ hg
       have n15_ : Aside0 (gb500 ≠ gb518) := bl_ BK500 hg
       have n16_ : Aside0 (gb518 ≠ gb500) := bg_ BK500 hg
       have n17_ : Aside0 (gb505 ≠ gb518) := bl_ BK505 hg
       have n18_ : Aside0 (gb518 ≠ gb505) := bg_ BK505 hg
       have n19_ : Aside0 (gb510 ≠ gb518) := bl_ BK510 hg
       have n20_ : Aside0 (gb518 ≠ gb510) := bg_ BK510 hg
       have n21_ : Aside0 (gb512 ≠ gb518) := bl_ BK512 hg
       have n22_ : Aside0 (gb518 ≠ gb512) := bg_ BK512 hg
       have BK518 := n12_; have GW518 := n13_; have GE518 := n14_; have NB500_518 := n15_; have NB518_500 := n16_; have NB505_518 := n17_; have NB518_505 := n18_; have NB510_518 := n19_; have NB518_510 := n20_; have NB512_518 := n21_; have NB518_512 := n22_; clear n12_ n13_ n14_ n15_ n16_ n17_ n18_ n19_ n20_ n21_ n22_; replace HO_4 := rb_ HO_4 hb; replace HO_6 := rb_ HO_6 hb; replace HO_501000 := rb_ HO_501000 hb; replace HO_506000 := rb_ HO_506000 hb; replace HO_511000 := rb_ HO_511000 hb; replace HO_513000 := rb_ HO_513000 hb; replace HO516 := rb_ HO516 hb; replace BK500 := bb_ BK500 hb; replace BK505 := bb_ BK505 hb; replace BK510 := bb_ BK510 hb; replace BK512 := bb_ BK512 hb; replace HB := bs_ HB hb; clear hb hbox hg
       refine hK.out _ _ ⟨bc_ BK512 0, HS1_, HS2_, HS3_, HS4_⟩ (fun hHeld => ?_)
       clear hK K
       refine norm_ (a' := ?_) ?_ ?_
       rotate_left
       ·show Act.put _ (some 13) _ = _
        simp only [Act.put, sia_, scz_, scs_, i64_w, i32_w]
        rfl
       exact norm_ (by simp only [putAll, Act.put, sia_, scz_, scs_]) (hCont (v515, gb518) _ ⟨hHeld, (rq_ (Kd.R_mono HO516.out (fun _ hk => ⟨hk.1.1.1.2, ⟨hk.1.1.2, ⟨hk.1.2, hk.2⟩⟩⟩))), (rp_ HO_4), (rq_ (Kd.R_mono HO_501000.out (fun _ hk => ⟨hk.2, ⟨hk.1.1, hk.1.2⟩⟩))), (rq_ (Kd.R_mono HO_506000.out (fun _ hk => ⟨hk.2, ⟨hk.1.1, ⟨hk.1.2.1, hk.1.2.2⟩⟩⟩))), (rq_ (Kd.R_mono HO_511000.out (fun _ hk => ⟨hk.2, ⟨hk.1.1, ⟨hk.1.2.1, hk.1.2.2⟩⟩⟩))), (rq_ (Kd.R_mono HO_513000.out (fun _ hk => ⟨hk.2, ⟨hk.1.1, hk.1.2⟩⟩))), (rp_ HO_6), (bp_ BK500), (bp_ BK505), (bp_ BK510), (bp_ BK512), (bp_ BK518), GW518.out, GE518.out, NB500_518.out, NB518_500.out, NB505_518.out, NB518_505.out, NB510_518.out, NB518_510.out, NB512_518.out, NB518_512.out, (bw_ HB)⟩)
      rintro ⟨v515, gb518⟩ w58 ⟨hS_, h0_, h1_, h2_, h3_, h4_, h5_, h6_, h7_, h8_, h9_, h10_, h11_, h12_, h13_, h14_, h15_, h16_, h17_, h18_, h19_, h20_, h21_, h22_⟩
      have n0_ : Aside0 (Kd.R k76 76 w58 w.heap.size (fun k_ => some k_ ≠ (.slice Ao10 t490.length co10 : Value).ownBlock ∧ some k_ ≠ (.slice Ao15 t501.length co15 : Value).ownBlock ∧ some k_ ≠ (.slice Ao21 t506.length co21 : Value).ownBlock ∧ some k_ ≠ (.slice Ao54 x513000_2.length co54 : Value).ownBlock) v515 t514) := ⟨h0_⟩
      have n1_ : Aside0 (Kd.R k35 35 w58 w.heap.size (fun _ => True) (.slice (some ad513) t493.length co12) t493) := ⟨h1_⟩
      have n2_ : Aside0 (Kd.R k76 76 w58 w.heap.size (fun k_ => some k_ ≠ (v515 : Value).ownBlock ∧ some k_ ≠ (.slice Ao15 t501.length co15 : Value).ownBlock ∧ some k_ ≠ (.slice Ao21 t506.length co21 : Value).ownBlock) (.slice Ao10 t490.length co10) t490) := ⟨h2_⟩
      have n3_ : Aside0 (Kd.R k76 76 w58 w.heap.size (fun k_ => some k_ ≠ (v515 : Value).ownBlock ∧ some k_ ≠ (.slice Ao10 t490.length co10 : Value).ownBlock ∧ some k_ ≠ (.slice Ao21 t506.length co21 : Value).ownBlock ∧ some k_ ≠ (.slice Ao54 x513000_2.length co54 : Value).ownBlock) (.slice Ao15 t501.length co15) t501) := ⟨h3_⟩
      have n4_ : Aside0 (Kd.R k76 76 w58 w.heap.size (fun k_ => some k_ ≠ (v515 : Value).ownBlock ∧ some k_ ≠ (.slice Ao10 t490.length co10 : Value).ownBlock ∧ some k_ ≠ (.slice Ao15 t501.length co15 : Value).ownBlock ∧ some k_ ≠ (.slice Ao54 x513000_2.length co54 : Value).ownBlock) (.slice Ao21 t506.length co21) t506) := ⟨h4_⟩
      have n5_ : Aside0 (Kd.R k76 76 w58 w.heap.size (fun k_ => some k_ ≠ (v515 : Value).ownBlock ∧ some k_ ≠ (.slice Ao15 t501.length co15 : Value).ownBlock ∧ some k_ ≠ (.slice Ao21 t506.length co21 : Value).ownBlock) (.slice Ao54 x513000_2.length co54) x513000_2) := ⟨h5_⟩
      have n6_ : Aside0 (Kd.R (Kd.int .i64) 3 w58 w.heap.size (fun _ => True) v498 t497) := ⟨h6_⟩
      have n7_ : Aside0 (w58.heap[gb500]? = some (.cells #[.slice Ao10 t490.length co10] 31 (0, 0))) := ⟨h7_⟩
      have n8_ : Aside0 (w58.heap[gb505]? = some (.cells #[.slice Ao15 t501.length co15] 31 (0, 0))) := ⟨h8_⟩
      have n9_ : Aside0 (w58.heap[gb510]? = some (.cells #[.slice Ao21 t506.length co21] 31 (0, 0))) := ⟨h9_⟩
      have n10_ : Aside0 (w58.heap[gb512]? = some (.cells #[.slice Ao54 x513000_2.length co54] 31 (0, 0))) := ⟨h10_⟩
      have n11_ : Aside0 (w58.heap[gb518]? = some (.cells #[.slice none 0 0] 31 (0, 0))) := ⟨h11_⟩
      have n12_ : Aside0 (w.heap.size ≤ gb518) := ⟨h12_⟩
      have n13_ : Aside0 (w.heap.size ≤ gb518) := ⟨h13_⟩
      have n14_ : Aside0 (gb500 ≠ gb518) := ⟨h14_⟩
      have n15_ : Aside0 (gb518 ≠ gb500) := ⟨h15_⟩
      have n16_ : Aside0 (gb505 ≠ gb518) := ⟨h16_⟩
      have n17_ : Aside0 (gb518 ≠ gb505) := ⟨h17_⟩
      have n18_ : Aside0 (gb510 ≠ gb518) := ⟨h18_⟩
      have n19_ : Aside0 (gb518 ≠ gb510) := ⟨h19_⟩
      have n20_ : Aside0 (gb512 ≠ gb518) := ⟨h20_⟩
      have n21_ : Aside0 (gb518 ≠ gb512) := ⟨h21_⟩
      have n22_ : Aside0 (Below w.heap.size w w58) := ⟨h22_⟩
      clear HO_4; clear HO_6; clear HO_501000; clear HO_506000; clear HO_511000; clear HO_513000; clear BK500; clear BK505; clear BK510; clear BK512; clear HB; clear h0_ h1_ h2_ h3_ h4_ h5_ h6_ h7_ h8_ h9_ h10_ h11_ h12_ h13_ h14_ h15_ h16_ h17_ h18_ h19_ h20_ h21_ h22_; have HO516 := n0_; have HO_4 := n1_; have HO_501000 := n2_; have HO_506000 := n3_; have HO_511000 := n4_; have HO_513000 := n5_; have HO_6 := n6_; have BK500 := n7_; have BK505 := n8_; have BK510 := n9_; have BK512 := n10_; have BK518 := n11_; have GW518 := n12_; have GE518 := n13_; have NB500_518 := n14_; have NB518_500 := n15_; have NB505_518 := n16_; have NB518_505 := n17_; have NB510_518 := n18_; have NB518_510 := n19_; have NB512_518 := n20_; have NB518_512 := n21_; have HB := n22_; clear n0_ n1_ n2_ n3_ n4_ n5_ n6_ n7_ n8_ n9_ n10_ n11_ n12_ n13_ n14_ n15_ n16_ n17_ n18_ n19_ n20_ n21_ n22_
      have hHeld : w58.cell? ⟨gb512, 0, none⟩ = some (.slice Ao54 x513000_2.length co54) ∧ w58.cell? (ad513.add ((x12_2).toNat * 4)) = some (.int .i64 ((rd_T35 t493 x12_2).f0)) ∧ w58.cell? ⟨(ad513.add ((x12_2).toNat * 4)).block, (ad513.add ((x12_2).toNat * 4)).off + 1, none⟩ = some (.string ((rd_T35 t493 x12_2).f1)) ∧ w58.cell? ⟨(ad513.add ((x12_2).toNat * 4)).block, (ad513.add ((x12_2).toNat * 4)).off + 2, none⟩ = some (.string ((rd_T35 t493 x12_2).f2)) ∧ w58.cell? ⟨(ad513.add ((x12_2).toNat * 4)).block, (ad513.add ((x12_2).toNat * 4)).off + 3, none⟩ = some (.string ((rd_T35 t493 x12_2).f3)) := hS_
      obtain ⟨Ao59, co59, eo59⟩ := Kd.R_slice HO516.out
      (first | subst eo59 | (injection eo59 with f1_ f2_ f3_; have f4_ := f1_.symm; have f5_ := f3_.symm; clear f1_ f2_ f3_; subst f4_; subst f5_))
      refine norm_ (a' := ?_) ?_ ?_
      rotate_left
      ·simp only [putAll, Act.put, sia_, scz_, scs_]
       rfl
      refine one_ (i := 10) (N := none) #[true, true, true, true, true, true, true, true, true, true, true, false] rfl rfl (one_of HT_.out (by kernel_rfl)) (by decide) (fun K hK => ?_)
      have hs60 : w58.cell? ⟨gb518, 0, none⟩ = some (.slice none 0 0) := bc_ BK518 0
      have hfs60 := blk_frozen BK518.out 0
      have hns60_0 := NB500_518.out
      have hns60_1 := NB505_518.out
      have hns60_2 := NB510_518.out
      have hns60_3 := NB512_518.out
      have hms60_0 := NB518_500.out
      have hms60_1 := NB518_505.out
      have hms60_2 := NB518_510.out
      have hms60_3 := NB518_512.out
      refine skip_ (w1 := ?_) (by rfl) rfl ?_ ?_
      rotate_left
      ·go_simp
       rfl
      refine hK.out _ _ ⟨((cell_far (p := ⟨gb518, _, none⟩) NB512_518.out _).trans (hHeld.1)), ((cell_far (p := ⟨gb518, _, none⟩) (by first | exact Kd.own_blk (Kd.R_ne HO_4.out BK518.out (by decide)) | (rw [add_block]; exact Kd.own_blk (Kd.R_ne HO_4.out BK518.out (by decide))) | (show (Addr.add _ _).block ≠ _; rw [add_block]; exact Kd.own_blk (Kd.R_ne HO_4.out BK518.out (by decide))) | (dsimp only; exact Kd.own_blk (Kd.R_ne HO_4.out BK518.out (by decide)))) _).trans (hHeld.2.1)), ((cell_far (p := ⟨gb518, _, none⟩) (by first | exact Kd.own_blk (Kd.R_ne HO_4.out BK518.out (by decide)) | (rw [add_block]; exact Kd.own_blk (Kd.R_ne HO_4.out BK518.out (by decide))) | (show (Addr.add _ _).block ≠ _; rw [add_block]; exact Kd.own_blk (Kd.R_ne HO_4.out BK518.out (by decide))) | (dsimp only; exact Kd.own_blk (Kd.R_ne HO_4.out BK518.out (by decide)))) _).trans (hHeld.2.2.1)), ((cell_far (p := ⟨gb518, _, none⟩) (by first | exact Kd.own_blk (Kd.R_ne HO_4.out BK518.out (by decide)) | (rw [add_block]; exact Kd.own_blk (Kd.R_ne HO_4.out BK518.out (by decide))) | (show (Addr.add _ _).block ≠ _; rw [add_block]; exact Kd.own_blk (Kd.R_ne HO_4.out BK518.out (by decide))) | (dsimp only; exact Kd.own_blk (Kd.R_ne HO_4.out BK518.out (by decide)))) _).trans (hHeld.2.2.2.1)), ((cell_far (p := ⟨gb518, _, none⟩) (by first | exact Kd.own_blk (Kd.R_ne HO_4.out BK518.out (by decide)) | (rw [add_block]; exact Kd.own_blk (Kd.R_ne HO_4.out BK518.out (by decide))) | (show (Addr.add _ _).block ≠ _; rw [add_block]; exact Kd.own_blk (Kd.R_ne HO_4.out BK518.out (by decide))) | (dsimp only; exact Kd.own_blk (Kd.R_ne HO_4.out BK518.out (by decide)))) _).trans (hHeld.2.2.2.2))⟩ (fun hHeld => ?_)
      clear hK K
      refine pv_ 11 14 ?_
      refine done_ (done_of HT_.out (by kernel_rfl)) ?_
      try go_wp2
      have n0_ : Aside0 (Kd.R k35 35 (w58.setCell ⟨gb518, 0, none⟩ (.slice Ao59 t514.length co59)) w.heap.size (fun _ => True) (.slice (some ad513) t493.length co12) t493) := ⟨rq_ (rt_ HO_4 BK518 0 (.slice Ao59 t514.length co59))⟩
      have n1_ : Aside0 (Kd.R (Kd.int .i64) 3 (w58.setCell ⟨gb518, 0, none⟩ (.slice Ao59 t514.length co59)) w.heap.size (fun _ => True) v498 t497) := ⟨rq_ (rt_ HO_6 BK518 0 (.slice Ao59 t514.length co59))⟩
      have n2_ : Aside0 (Kd.R k76 76 (w58.setCell ⟨gb518, 0, none⟩ (.slice Ao59 t514.length co59)) w.heap.size (fun k_ => some k_ ≠ (.slice Ao15 t501.length co15 : Value).ownBlock ∧ some k_ ≠ (.slice Ao21 t506.length co21 : Value).ownBlock ∧ some k_ ≠ (.slice Ao59 t514.length co59 : Value).ownBlock) (.slice Ao10 t490.length co10) t490) := ⟨rq_ (Kd.R_mono (Kd.R_far (p := ⟨gb518, 0, none⟩) (Kd.R_types HO_501000.out BK518.out (by decide)) (fun _ hk => hk.2) (.slice Ao59 t514.length co59)) (fun _ hk => ⟨hk.1.2.1, ⟨hk.1.2.2, hk.1.1⟩⟩))⟩
      have n3_ : Aside0 (Kd.R k76 76 (w58.setCell ⟨gb518, 0, none⟩ (.slice Ao59 t514.length co59)) w.heap.size (fun k_ => some k_ ≠ (.slice Ao10 t490.length co10 : Value).ownBlock ∧ some k_ ≠ (.slice Ao21 t506.length co21 : Value).ownBlock ∧ some k_ ≠ (.slice Ao54 x513000_2.length co54 : Value).ownBlock ∧ some k_ ≠ (.slice Ao59 t514.length co59 : Value).ownBlock) (.slice Ao15 t501.length co15) t501) := ⟨rq_ (Kd.R_mono (Kd.R_far (p := ⟨gb518, 0, none⟩) (Kd.R_types HO_506000.out BK518.out (by decide)) (fun _ hk => hk.2) (.slice Ao59 t514.length co59)) (fun _ hk => ⟨hk.1.2.1, ⟨hk.1.2.2.1, ⟨hk.1.2.2.2, hk.1.1⟩⟩⟩))⟩
      have n4_ : Aside0 (Kd.R k76 76 (w58.setCell ⟨gb518, 0, none⟩ (.slice Ao59 t514.length co59)) w.heap.size (fun k_ => some k_ ≠ (.slice Ao10 t490.length co10 : Value).ownBlock ∧ some k_ ≠ (.slice Ao15 t501.length co15 : Value).ownBlock ∧ some k_ ≠ (.slice Ao54 x513000_2.length co54 : Value).ownBlock ∧ some k_ ≠ (.slice Ao59 t514.length co59 : Value).ownBlock) (.slice Ao21 t506.length co21) t506) := ⟨rq_ (Kd.R_mono (Kd.R_far (p := ⟨gb518, 0, none⟩) (Kd.R_types HO_511000.out BK518.out (by decide)) (fun _ hk => hk.2) (.slice Ao59 t514.length co59)) (fun _ hk => ⟨hk.1.2.1, ⟨hk.1.2.2.1, ⟨hk.1.2.2.2, hk.1.1⟩⟩⟩))⟩
      have n5_ : Aside0 (Kd.R k76 76 (w58.setCell ⟨gb518, 0, none⟩ (.slice Ao59 t514.length co59)) w.heap.size (fun k_ => some k_ ≠ (.slice Ao15 t501.length co15 : Value).ownBlock ∧ some k_ ≠ (.slice Ao21 t506.length co21 : Value).ownBlock ∧ some k_ ≠ (.slice Ao59 t514.length co59 : Value).ownBlock) (.slice Ao54 x513000_2.length co54) x513000_2) := ⟨rq_ (Kd.R_mono (Kd.R_far (p := ⟨gb518, 0, none⟩) (Kd.R_types HO_513000.out BK518.out (by decide)) (fun _ hk => hk.2) (.slice Ao59 t514.length co59)) (fun _ hk => ⟨hk.1.2.1, ⟨hk.1.2.2, hk.1.1⟩⟩))⟩
      have n6_ : Aside0 (Kd.R k76 76 (w58.setCell ⟨gb518, 0, none⟩ (.slice Ao59 t514.length co59)) w.heap.size (fun k_ => some k_ ≠ (.slice Ao10 t490.length co10 : Value).ownBlock ∧ some k_ ≠ (.slice Ao15 t501.length co15 : Value).ownBlock ∧ some k_ ≠ (.slice Ao21 t506.length co21 : Value).ownBlock ∧ some k_ ≠ (.slice Ao54 x513000_2.length co54 : Value).ownBlock) (.slice Ao59 t514.length co59) t514) := ⟨rq_ (Kd.R_mono (Kd.R_far (p := ⟨gb518, 0, none⟩) (Kd.R_types HO516.out BK518.out (by decide)) (fun _ hk => hk.2) (.slice Ao59 t514.length co59)) (fun _ hk => ⟨hk.1.1, ⟨hk.1.2.1, ⟨hk.1.2.2.1, hk.1.2.2.2⟩⟩⟩))⟩
      have n7_ : Aside0 ((w58.setCell ⟨gb518, 0, none⟩ (.slice Ao59 t514.length co59)).heap[gb500]? = some (.cells #[.slice Ao10 t490.length co10] 31 (0, 0))) := ⟨bf_⟩
      have n8_ : Aside0 ((w58.setCell ⟨gb518, 0, none⟩ (.slice Ao59 t514.length co59)).heap[gb505]? = some (.cells #[.slice Ao15 t501.length co15] 31 (0, 0))) := ⟨bf_⟩
      have n9_ : Aside0 ((w58.setCell ⟨gb518, 0, none⟩ (.slice Ao59 t514.length co59)).heap[gb510]? = some (.cells #[.slice Ao21 t506.length co21] 31 (0, 0))) := ⟨bf_⟩
      have n10_ : Aside0 ((w58.setCell ⟨gb518, 0, none⟩ (.slice Ao59 t514.length co59)).heap[gb512]? = some (.cells #[.slice Ao54 x513000_2.length co54] 31 (0, 0))) := ⟨bf_⟩
      have n11_ : Aside0 ((w58.setCell ⟨gb518, 0, none⟩ (.slice Ao59 t514.length co59)).heap[gb518]? = some (.cells #[.slice Ao59 t514.length co59] 31 (0, 0))) := ⟨bu_⟩
      have n12_ : Aside0 (Below w.heap.size w (w58.setCell ⟨gb518, 0, none⟩ (.slice Ao59 t514.length co59))) := ⟨bw_ HB⟩
      (try clear HO_4); (try clear HO_6); (try clear HO_501000); (try clear HO_506000); (try clear HO_511000); (try clear HO_513000); (try clear HO516); (try clear BK500); (try clear BK505); (try clear BK510); (try clear BK512); (try clear BK518); (try clear HB)
      generalize (w58.setCell ⟨gb518, 0, none⟩ (.slice Ao59 t514.length co59)) = w61 at n0_ n1_ n2_ n3_ n4_ n5_ n6_ n7_ n8_ n9_ n10_ n11_ n12_ ⊢
      have HO_4 := n0_; have HO_6 := n1_; have HO_501000 := n2_; have HO_506000 := n3_; have HO_511000 := n4_; have HO_513000 := n5_; have HO516 := n6_; have BK500 := n7_; have BK505 := n8_; have BK510 := n9_; have BK512 := n10_; have BK518 := n11_; have HB := n12_; clear n0_ n1_ n2_ n3_ n4_ n5_ n6_ n7_ n8_ n9_ n10_ n11_ n12_
      replace HO_4 := rd_ HO_4; replace HO_6 := rd_ HO_6; replace HO_501000 := rd_ HO_501000; replace HO_506000 := rd_ HO_506000; replace HO_511000 := rd_ HO_511000; replace HO_513000 := rd_ HO_513000; replace HO516 := rd_ HO516; replace BK500 := kd_ BK500; replace BK505 := kd_ BK505; replace BK510 := kd_ BK510; replace BK512 := kd_ BK512; replace BK518 := kd_ BK518; replace HB := wd_ HB
      have p519 : 0 ≤ (x12_2 : Int) := od_
      have q519 : x12_2 < (t493.length : Int) := od_
      obtain ⟨ad519, e519, hx519_0, hx519_1, hx519_2, hx519_3⟩ := at_T35 (Kd.R_reads' HO_4.out).2.2 x12_2 p519 q519
      obtain rfl : ad513 = ad519 := (by injection e519)
      replace p519 := eq_true p519
      replace q519 := eq_true q519
      refine start_ (n := 12) (S := fun w' => w'.cell? ⟨gb512, 0, none⟩ = some (.slice Ao54 x513000_2.length co54) ∧ w'.cell? (ad513.add ((x12_2).toNat * 4)) = some (.int .i64 ((rd_T35 t493 x12_2).f0)) ∧ w'.cell? ⟨(ad513.add ((x12_2).toNat * 4)).block, (ad513.add ((x12_2).toNat * 4)).off + 1, none⟩ = some (.string ((rd_T35 t493 x12_2).f1)) ∧ w'.cell? ⟨(ad513.add ((x12_2).toNat * 4)).block, (ad513.add ((x12_2).toNat * 4)).off + 2, none⟩ = some (.string ((rd_T35 t493 x12_2).f2)) ∧ w'.cell? ⟨(ad513.add ((x12_2).toNat * 4)).block, (ad513.add ((x12_2).toNat * 4)).off + 3, none⟩ = some (.string ((rd_T35 t493 x12_2).f3))) (ds := []) #[false, false, false, false, false, false, false, false, false, false, false, false] (by kernel_rfl) rfl rfl ⟨bc_ BK512 0, hx519_0, hx519_1, hx519_2, hx519_3⟩ (fun hHeld => ?_); refine with_tabW laws_FnActs.tab15 laws_FnActs.bits15 (fun HT_ HW_ => ?_)
      generalize w61.drew = w62 at HO_4 HO_6 HO_501000 HO_506000 HO_511000 HO_513000 HO516 BK500 BK505 BK510 BK512 BK518 HB hx519_0 hx519_1 hx519_2 hx519_3 hHeld ⊢
      refine pv_ 1 72 ?_
      refine pv_ 2 73 ?_
      refine pv_ 3 74 ?_
      refine pv_ 4 75 ?_
      refine tv_ 0 71 hHeld ?_
      refine tv_ 5 76 hHeld ?_
      refine one_ (i := 6) (N := some 77) #[true, true, true, true, true, true, true, false, false, false, false, false] rfl rfl (one_of HT_.out (by kernel_rfl)) (by decide) (fun K hK => ?_)
      refine goes_ Try.func26 (by kernel_rfl) rfl #[.agg #[.slice Ao54 x513000_2.length co54], .string ((rd_T35 t493 x12_2).f1)] (by rfl) rfl rfl ga_ ?_
      with_reducible refine (impl_FileAt.calls _ _ x513000_2 ((rd_T35 t493 x12_2).f1) t520 t521 _ ?side1 ?side2 A47.out).mono ?_
      (case side1 => exact cr_ HO_513000)
      (case side2 => exact (Kd.R_reads' HO_513000.out).2.1)
      rintro e w63 ⟨rfl, hb⟩
      have HS1_ := (hb.cell (World.block_lt_of_cell? _ _ (hHeld.2.1))).trans (hHeld.2.1)
      have HS2_ := (hb.cell (World.block_lt_of_cell? _ _ (hHeld.2.2.1))).trans (hHeld.2.2.1)
      have HS3_ := (hb.cell (World.block_lt_of_cell? _ _ (hHeld.2.2.2.1))).trans (hHeld.2.2.2.1)
      have HS4_ := (hb.cell (World.block_lt_of_cell? _ _ (hHeld.2.2.2.2))).trans (hHeld.2.2.2.2)
      refine ⟨_, rfl, ?_⟩
      replace HO_4 := rb_ HO_4 hb; replace HO_6 := rb_ HO_6 hb; replace HO_501000 := rb_ HO_501000 hb; replace HO_506000 := rb_ HO_506000 hb; replace HO_511000 := rb_ HO_511000 hb; replace HO_513000 := rb_ HO_513000 hb; replace HO516 := rb_ HO516 hb; replace BK500 := bb_ BK500 hb; replace BK505 := bb_ BK505 hb; replace BK510 := bb_ BK510 hb; replace BK512 := bb_ BK512 hb; replace BK518 := bb_ BK518 hb; replace HB := bs_ HB hb; (try clear hb); (try clear hb2); (try clear hk); (try clear hi)
      refine hK.out _ _ ⟨bc_ BK512 0, HS1_, HS2_, HS3_, HS4_⟩ (fun hHeld => ?_)
      clear hK K
      refine norm_ (a' := ?_) ?_ ?_
      rotate_left
      ·show Act.put _ (some 77) _ = _
       simp only [Act.put, sia_, scz_, scs_, i64_w, i32_w]
       rfl
      refine pv_ 7 70 ?_
      refine pv_ 8 78 ?_
      refine pv_ 9 79 ?_
      refine pv_ 10 15 ?_
      refine pv_ 11 16 ?_
      refine done_ (done_of HT_.out (by kernel_rfl)) ?_
      try go_wp2
      replace HO_4 := rd_ HO_4; replace HO_6 := rd_ HO_6; replace HO_501000 := rd_ HO_501000; replace HO_506000 := rd_ HO_506000; replace HO_511000 := rd_ HO_511000; replace HO_513000 := rd_ HO_513000; replace HO516 := rd_ HO516; replace BK500 := kd_ BK500; replace BK505 := kd_ BK505; replace BK510 := kd_ BK510; replace BK512 := kd_ BK512; replace BK518 := kd_ BK518; replace HB := wd_ HB
      have p522 : 0 ≤ (x12_2 : Int) := od_
      have q522 : x12_2 < (t493.length : Int) := od_
      obtain ⟨ad522, e522, hx522_0, hx522_1, hx522_2, hx522_3⟩ := at_T35 (Kd.R_reads' HO_4.out).2.2 x12_2 p522 q522
      obtain rfl : ad513 = ad522 := (by injection e522)
      replace p522 := eq_true p522
      replace q522 := eq_true q522
      refine start_ (n := 12) (S := fun w' => w'.cell? ⟨gb518, 0, none⟩ = some (.slice Ao59 t514.length co59) ∧ w'.cell? (ad513.add ((x12_2).toNat * 4)) = some (.int .i64 ((rd_T35 t493 x12_2).f0)) ∧ w'.cell? ⟨(ad513.add ((x12_2).toNat * 4)).block, (ad513.add ((x12_2).toNat * 4)).off + 1, none⟩ = some (.string ((rd_T35 t493 x12_2).f1)) ∧ w'.cell? ⟨(ad513.add ((x12_2).toNat * 4)).block, (ad513.add ((x12_2).toNat * 4)).off + 2, none⟩ = some (.string ((rd_T35 t493 x12_2).f2)) ∧ w'.cell? ⟨(ad513.add ((x12_2).toNat * 4)).block, (ad513.add ((x12_2).toNat * 4)).off + 3, none⟩ = some (.string ((rd_T35 t493 x12_2).f3))) (ds := []) #[false, false, false, false, false, false, false, false, false, false, false, false] (by kernel_rfl) rfl rfl ⟨bc_ BK518 0, hx522_0, hx522_1, hx522_2, hx522_3⟩ (fun hHeld => ?_); refine with_tabW laws_FnActs.tab16 laws_FnActs.bits16 (fun HT_ HW_ => ?_)
      generalize w63.drew = w64 at HO_4 HO_6 HO_501000 HO_506000 HO_511000 HO_513000 HO516 BK500 BK505 BK510 BK512 BK518 HB hx522_0 hx522_1 hx522_2 hx522_3 hHeld ⊢
      refine pv_ 1 82 ?_
      refine pv_ 2 83 ?_
      refine pv_ 3 84 ?_
      refine pv_ 4 85 ?_
      refine tv_ 0 81 hHeld ?_
      refine tv_ 5 86 hHeld ?_
      refine one_ (i := 6) (N := some 87) #[true, true, true, true, true, true, true, false, false, false, false, false] rfl rfl (one_of HT_.out (by kernel_rfl)) (by decide) (fun K hK => ?_)
      refine goes_ Try.func26 (by kernel_rfl) rfl #[.agg #[.slice Ao59 t514.length co59], .string ((rd_T35 t493 x12_2).f1)] (by rfl) rfl rfl ga_ ?_
      with_reducible refine (impl_FileAt.calls _ _ t514 ((rd_T35 t493 x12_2).f1) t523 true _ ?side1 ?side2 A48.out).mono ?_
      (case side1 => exact cr_ HO516)
      (case side2 => exact (Kd.R_reads' HO516.out).2.1)
      rintro e w65 ⟨rfl, hb⟩
      have HS1_ := (hb.cell (World.block_lt_of_cell? _ _ (hHeld.2.1))).trans (hHeld.2.1)
      have HS2_ := (hb.cell (World.block_lt_of_cell? _ _ (hHeld.2.2.1))).trans (hHeld.2.2.1)
      have HS3_ := (hb.cell (World.block_lt_of_cell? _ _ (hHeld.2.2.2.1))).trans (hHeld.2.2.2.1)
      have HS4_ := (hb.cell (World.block_lt_of_cell? _ _ (hHeld.2.2.2.2))).trans (hHeld.2.2.2.2)
      refine ⟨_, rfl, ?_⟩
      replace HO_4 := rb_ HO_4 hb; replace HO_6 := rb_ HO_6 hb; replace HO_501000 := rb_ HO_501000 hb; replace HO_506000 := rb_ HO_506000 hb; replace HO_511000 := rb_ HO_511000 hb; replace HO_513000 := rb_ HO_513000 hb; replace HO516 := rb_ HO516 hb; replace BK500 := bb_ BK500 hb; replace BK505 := bb_ BK505 hb; replace BK510 := bb_ BK510 hb; replace BK512 := bb_ BK512 hb; replace BK518 := bb_ BK518 hb; replace HB := bs_ HB hb; (try clear hb); (try clear hb2); (try clear hk); (try clear hi)
      refine hK.out _ _ ⟨bc_ BK518 0, HS1_, HS2_, HS3_, HS4_⟩ (fun hHeld => ?_)
      clear hK K
      refine norm_ (a' := ?_) ?_ ?_
      rotate_left
      ·show Act.put _ (some 87) _ = _
       simp only [Act.put, sia_, scz_, scs_, i64_w, i32_w]
       rfl
      refine pv_ 7 80 ?_
      refine pv_ 8 88 ?_
      refine pv_ 9 89 ?_
      refine pv_ 10 17 ?_
      refine pv_ 11 18 ?_
      refine done_ (done_of HT_.out (by kernel_rfl)) ?_
      have p525 : 0 ≤ (x12_2 : Int) := od_
      have q525 : x12_2 < (t493.length : Int) := od_
      obtain ⟨ad525, e525, hx525_0, hx525_1, hx525_2, hx525_3⟩ := at_T35 (Kd.R_reads' HO_4.out).2.2 x12_2 p525 q525
      obtain rfl : ad513 = ad525 := (by injection e525)
      replace p525 := eq_true p525
      replace q525 := eq_true q525
      have p526 : 0 ≤ (x12_2 : Int) := od_
      have q526 : x12_2 < (t493.length : Int) := od_
      obtain ⟨ad526, e526, hx526_0, hx526_1, hx526_2, hx526_3⟩ := at_T35 (Kd.R_reads' HO_4.out).2.2 x12_2 p526 q526
      obtain rfl : ad513 = ad526 := (by injection e526)
      replace p526 := eq_true p526
      replace q526 := eq_true q526
      have p527 : 0 ≤ (x12_2 : Int) := od_
      have q527 : x12_2 < (t493.length : Int) := od_
      obtain ⟨ad527, e527, hx527_0, hx527_1, hx527_2, hx527_3⟩ := at_T35 (Kd.R_reads' HO_4.out).2.2 x12_2 p527 q527
      obtain rfl : ad513 = ad527 := (by injection e527)
      replace p527 := eq_true p527
      replace q527 := eq_true q527
      obtain ⟨hnb66, hnc66⟩ := ns_ NB518_500
      obtain ⟨hnb67, hnc67⟩ := ns_ NB518_505
      obtain ⟨hnb68, hnc68⟩ := ns_ NB518_510
      obtain ⟨hnb69, hnc69⟩ := ns_ NB518_512
      have hcz70_0 : w65.cell? ⟨gb518, 0, none⟩ = some (.slice Ao59 t514.length co59) := bc_ BK518 0
      have hfz70_0 := blk_frozen BK518.out 0
      obtain ⟨hnb71, hnc71⟩ := ns_ NB512_500
      obtain ⟨hnb72, hnc72⟩ := ns_ NB512_505
      obtain ⟨hnb73, hnc73⟩ := ns_ NB512_510
      have hcz74_0 : w65.cell? ⟨gb512, 0, none⟩ = some (.slice Ao54 x513000_2.length co54) := bc_ BK512 0
      have hfz74_0 := blk_frozen BK512.out 0
      try go_wp2
      go_roundg k2
      case measure => have := HJ6.out; have := HK2.out; omega
      case rel => exact ⟨(wrap64 (x12_2 + 1)), (t514), (.slice Ao59 t514.length co59), (by first | rfl | (simp; done) | (simp [*]; done) | (simp [bne]; done)), H', ⟨by have := HJ6.out; have := HK2.out; omega⟩, ⟨rq_ (rt_ HO_4 BK512 0 (.slice Ao59 t514.length co59))⟩, ⟨rq_ (rt_ HO_6 BK512 0 (.slice Ao59 t514.length co59))⟩, ⟨rq_ (Kd.R_mono (Kd.R_far (p := ⟨gb512, 0, none⟩) (Kd.R_types HO_501000.out BK512.out (by decide)) (fun _ hk => hk.2) (.slice Ao59 t514.length co59)) (fun _ hk => by repeat' first | exact hk.1.1 | exact hk.1.2.1 | exact hk.1.2.2.1 | exact hk.1.2.2.2 | exact hk.1.2.2 | exact hk.1.2 | constructor))⟩, ⟨rq_ (Kd.R_mono (Kd.R_far (p := ⟨gb512, 0, none⟩) (Kd.R_types HO_506000.out BK512.out (by decide)) (fun _ hk => hk.2) (.slice Ao59 t514.length co59)) (fun _ hk => by repeat' first | exact hk.1.1 | exact hk.1.2.1 | exact hk.1.2.2.1 | exact hk.1.2.2.2 | exact hk.1.2.2 | exact hk.1.2 | constructor))⟩, ⟨rq_ (Kd.R_mono (Kd.R_far (p := ⟨gb512, 0, none⟩) (Kd.R_types HO_511000.out BK512.out (by decide)) (fun _ hk => hk.2) (.slice Ao59 t514.length co59)) (fun _ hk => by repeat' first | exact hk.1.1 | exact hk.1.2.1 | exact hk.1.2.2.1 | exact hk.1.2.2.2 | exact hk.1.2.2 | exact hk.1.2 | constructor))⟩, ⟨rq_ (Kd.R_mono (Kd.R_far (p := ⟨gb512, 0, none⟩) (Kd.R_types HO516.out BK512.out (by decide)) (fun _ hk => hk.2) (.slice Ao59 t514.length co59)) (fun _ hk => by repeat' first | exact hk.1.1 | exact hk.1.2.1 | exact hk.1.2.2.1 | exact hk.1.2.2.2 | exact hk.1.2.2 | exact hk.1.2 | constructor))⟩, ⟨bf_⟩, ⟨bf_⟩, ⟨bf_⟩, ⟨bu_⟩, ⟨bw_ HB⟩⟩
     rw [if_neg c49] at H
     have c49b0 : (((rd_T35 t493 x12_2).f0) == 1) = false := beq_eq_false_iff_ne.mpr c49
     have c49b1 : (((rd_T35 t493 x12_2).f0) != 1) = true := bne_iff_ne.mpr c49
     by_cases c75 : ((rd_T35 t493 x12_2).f0) = 4
     rotate_left
     ·rw [if_neg c75] at H
      have c75b0 : (((rd_T35 t493 x12_2).f0) == 4) = false := beq_eq_false_iff_ne.mpr c75
      have c75b1 : (((rd_T35 t493 x12_2).f0) != 4) = true := bne_iff_ne.mpr c75
      have H' := Aside0.mk H
      clear H
      obtain ⟨Ao98, co98, eo98⟩ := Kd.R_slice HO_513000.out
      subst eo98
      try go_wp2
      replace HO_4 := rd_ HO_4; replace HO_6 := rd_ HO_6; replace HO_501000 := rd_ HO_501000; replace HO_506000 := rd_ HO_506000; replace HO_511000 := rd_ HO_511000; replace HO_513000 := rd_ HO_513000; replace BK500 := kd_ BK500; replace BK505 := kd_ BK505; replace BK510 := kd_ BK510; replace BK512 := kd_ BK512; replace HB := wd_ HB
      have p513 : 0 ≤ (x12_2 : Int) := od_
      have q513 : x12_2 < (t493.length : Int) := od_
      obtain ⟨ad513, e513, hx513_0, hx513_1, hx513_2, hx513_3⟩ := at_T35 (Kd.R_reads' HO_4.out).2.2 x12_2 p513 q513
      cases e513
      replace p513 := eq_true p513
      replace q513 := eq_true q513
      refine start_ (n := 12) (S := fun w' => w'.cell? ⟨gb512, 0, none⟩ = some (.slice Ao98 x513000_2.length co98) ∧ w'.cell? (ad513.add ((x12_2).toNat * 4)) = some (.int .i64 ((rd_T35 t493 x12_2).f0)) ∧ w'.cell? ⟨(ad513.add ((x12_2).toNat * 4)).block, (ad513.add ((x12_2).toNat * 4)).off + 1, none⟩ = some (.string ((rd_T35 t493 x12_2).f1)) ∧ w'.cell? ⟨(ad513.add ((x12_2).toNat * 4)).block, (ad513.add ((x12_2).toNat * 4)).off + 2, none⟩ = some (.string ((rd_T35 t493 x12_2).f2)) ∧ w'.cell? ⟨(ad513.add ((x12_2).toNat * 4)).block, (ad513.add ((x12_2).toNat * 4)).off + 3, none⟩ = some (.string ((rd_T35 t493 x12_2).f3))) (ds := []) #[false, false, false, false, false, false, false, false, false, false, false, false] (by kernel_rfl) rfl rfl ⟨bc_ BK512 0, hx513_0, hx513_1, hx513_2, hx513_3⟩ (fun hHeld => ?_); refine with_tabW laws_FnActs.tab12 laws_FnActs.bits12 (fun HT_ HW_ => ?_)
      generalize wr.drew = w99 at HO_4 HO_6 HO_501000 HO_506000 HO_511000 HO_513000 BK500 BK505 BK510 BK512 HB hx513_0 hx513_1 hx513_2 hx513_3 hHeld ⊢
      refine pv_ 1 61 ?_
      refine pv_ 2 62 ?_
      refine pv_ 3 63 ?_
      refine tv_ 0 60 hHeld ?_
      refine tv_ 4 64 hHeld ?_
      refine join_ (σ := Value × Nat) 2 #[true, true, true, true, true, true, true, true, true, true, false, false] (fun s_ => [(65, .tuple #[.agg #[s_.1], .bool true]), (13, .pointer (some ⟨s_.2, 0, none⟩)), (59, .tuple #[.agg #[s_.1], .bool true]), (66, .agg #[s_.1]), (67, .bool true)]) (fun s_ w' => (w'.cell? ⟨gb512, 0, none⟩ = some (.slice Ao98 x513000_2.length co98) ∧ w'.cell? (ad513.add ((x12_2).toNat * 4)) = some (.int .i64 ((rd_T35 t493 x12_2).f0)) ∧ w'.cell? ⟨(ad513.add ((x12_2).toNat * 4)).block, (ad513.add ((x12_2).toNat * 4)).off + 1, none⟩ = some (.string ((rd_T35 t493 x12_2).f1)) ∧ w'.cell? ⟨(ad513.add ((x12_2).toNat * 4)).block, (ad513.add ((x12_2).toNat * 4)).off + 2, none⟩ = some (.string ((rd_T35 t493 x12_2).f2)) ∧ w'.cell? ⟨(ad513.add ((x12_2).toNat * 4)).block, (ad513.add ((x12_2).toNat * 4)).off + 3, none⟩ = some (.string ((rd_T35 t493 x12_2).f3))) ∧ (Kd.R k76 76 w' w.heap.size (fun k_ => some k_ ≠ (.slice Ao10 t490.length co10 : Value).ownBlock ∧ some k_ ≠ (.slice Ao15 t501.length co15 : Value).ownBlock ∧ some k_ ≠ (.slice Ao21 t506.length co21 : Value).ownBlock ∧ some k_ ≠ (.slice Ao98 x513000_2.length co98 : Value).ownBlock) s_.1 t514) ∧ (Kd.R k35 35 w' w.heap.size (fun _ => True) (.slice (some ad513) t493.length co12) t493) ∧ (Kd.R k76 76 w' w.heap.size (fun k_ => some k_ ≠ (s_.1 : Value).ownBlock ∧ some k_ ≠ (.slice Ao15 t501.length co15 : Value).ownBlock ∧ some k_ ≠ (.slice Ao21 t506.length co21 : Value).ownBlock) (.slice Ao10 t490.length co10) t490) ∧ (Kd.R k76 76 w' w.heap.size (fun k_ => some k_ ≠ (s_.1 : Value).ownBlock ∧ some k_ ≠ (.slice Ao10 t490.length co10 : Value).ownBlock ∧ some k_ ≠ (.slice Ao21 t506.length co21 : Value).ownBlock ∧ some k_ ≠ (.slice Ao98 x513000_2.length co98 : Value).ownBlock) (.slice Ao15 t501.length co15) t501) ∧ (Kd.R k76 76 w' w.heap.size (fun k_ => some k_ ≠ (s_.1 : Value).ownBlock ∧ some k_ ≠ (.slice Ao10 t490.length co10 : Value).ownBlock ∧ some k_ ≠ (.slice Ao15 t501.length co15 : Value).ownBlock ∧ some k_ ≠ (.slice Ao98 x513000_2.length co98 : Value).ownBlock) (.slice Ao21 t506.length co21) t506) ∧ (Kd.R k76 76 w' w.heap.size (fun k_ => some k_ ≠ (s_.1 : Value).ownBlock ∧ some k_ ≠ (.slice Ao15 t501.length co15 : Value).ownBlock ∧ some k_ ≠ (.slice Ao21 t506.length co21 : Value).ownBlock) (.slice Ao98 x513000_2.length co98) x513000_2) ∧ (Kd.R (Kd.int .i64) 3 w' w.heap.size (fun _ => True) v498 t497) ∧ (w'.heap[gb500]? = some (.cells #[.slice Ao10 t490.length co10] 31 (0, 0))) ∧ (w'.heap[gb505]? = some (.cells #[.slice Ao15 t501.length co15] 31 (0, 0))) ∧ (w'.heap[gb510]? = some (.cells #[.slice Ao21 t506.length co21] 31 (0, 0))) ∧ (w'.heap[gb512]? = some (.cells #[.slice Ao98 x513000_2.length co98] 31 (0, 0))) ∧ (w'.heap[s_.2]? = some (.cells #[.slice none 0 0] 31 (0, 0))) ∧ (w.heap.size ≤ s_.2) ∧ (w.heap.size ≤ s_.2) ∧ (gb500 ≠ s_.2) ∧ (s_.2 ≠ gb500) ∧ (gb505 ≠ s_.2) ∧ (s_.2 ≠ gb505) ∧ (gb510 ≠ s_.2) ∧ (s_.2 ≠ gb510) ∧ (gb512 ≠ s_.2) ∧ (s_.2 ≠ gb512) ∧ (Below w.heap.size w w')) ?_ ?_
      rotate_left
      ·intro hCont
       refine two_ (i := 5) (j := 9) (Ni := some 65) (Nj := some 13) #[true, true, true, true, true, true, false, false, false, false, false, false] #[true, true, true, true, true, false, false, false, false, true, false, false] rfl rfl rfl rfl (two_of HT_.out (by kernel_rfl)) (by decide) (by decide) (fun K hK => ?_) (fun K hK => ?_)
       rotate_left
       ·skip
        refine box_step ?hg (N := 13) ?hd (cs := #[.slice none 0 0]) (t := 31) ?hr ?_; (case hd => rfl); (case hg => rfl); (case hr => first | (go_simp; done) | (go_simp; rfl))
        intro gb518 hg w100 hbox hb
        have HS1_ := (hb.cell (World.block_lt_of_cell? _ _ (hHeld.2.1))).trans (hHeld.2.1)
        have HS2_ := (hb.cell (World.block_lt_of_cell? _ _ (hHeld.2.2.1))).trans (hHeld.2.2.1)
        have HS3_ := (hb.cell (World.block_lt_of_cell? _ _ (hHeld.2.2.2.1))).trans (hHeld.2.2.2.1)
        have HS4_ := (hb.cell (World.block_lt_of_cell? _ _ (hHeld.2.2.2.2))).trans (hHeld.2.2.2.2)
        have n11_ := mk_ (hbox)
        have n12_ : Aside0 (w.heap.size ≤ gb518) := bz_ hg
        have n13_ : Aside0 (w.heap.size ≤ gb518) := bz_ hg
        have n14_ : Aside0 (gb500 ≠ gb518) := bl_ BK500 hg
        have n15_ : Aside0 (gb518 ≠ gb500) := bg_ BK500 hg
        have n16_ : Aside0 (gb505 ≠ gb518) := bl_ BK505 hg
        have n17_ : Aside0 (gb518 ≠ gb505) := bg_ BK505 hg
        have n18_ : Aside0 (gb510 ≠ gb518) := bl_ BK510 hg
        have n19_ : Aside0 (gb518 ≠ gb510) := bg_ BK510 hg
        have n20_ : Aside0 (gb512 ≠ gb518) := bl_ BK512 hg
        have n21_ : Aside0 (gb518 ≠ gb512) := bg_ BK512 hg
        have BK518 := n11_; have GW518 := n12_; have GE518 := n13_; have NB500_518 := n14_; have NB518_500 := n15_; have NB505_518 := n16_; have NB518_505 := n17_; have NB510_518 := n18_; have NB518_510 := n19_; have NB512_518 := n20_; have NB518_512 := n21_; clear n11_ n12_ n13_ n14_ n15_ n16_ n17_ n18_ n19_ n20_ n21_; replace HO_4 := rb_ HO_4 hb; replace HO_6 := rb_ HO_6 hb; replace HO_501000 := rb_ HO_501000 hb; replace HO_506000 := rb_ HO_506000 hb; replace HO_511000 := rb_ HO_511000 hb; replace HO_513000 := rb_ HO_513000 hb; replace BK500 := bb_ BK500 hb; replace BK505 := bb_ BK505 hb; replace BK510 := bb_ BK510 hb; replace BK512 := bb_ BK512 hb; replace HB := bs_ HB hb; clear hb hbox hg
        refine hK.out _ _ ⟨bc_ BK512 0, HS1_, HS2_, HS3_, HS4_⟩ (fun hHeld => ?_)
        clear hK K
        refine norm_ (a' := ?_) ?_ ?_
        rotate_left
        ·show Act.put _ (some 13) _ = _
         simp only [Act.put, sia_, scz_, scs_, i64_w, i32_w]
         rfl
        refine one_ (i := 5) (N := some 65) #[true, true, true, true, true, true, false, false, false, true, false, false] rfl rfl (one_of HT_.out (by kernel_rfl)) (by decide) (fun K hK => ?_)
        refine goes_ Try.func13 (by kernel_rfl) rfl #[.agg #[.slice Ao98 x513000_2.length co98], .agg #[.int .i64 ((rd_T35 t493 x12_2).f0), .string ((rd_T35 t493 x12_2).f1), .string ((rd_T35 t493 x12_2).f2), .string ((rd_T35 t493 x12_2).f3)]] (by rfl) rfl rfl ga_ ?_
        with_reducible refine (impl_DoAct.calls k2 _ _ x513000_2 ((rd_T35 t493 x12_2).f0) ((rd_T35 t493 x12_2).f1) ((rd_T35 t493 x12_2).f2) ((rd_T35 t493 x12_2).f3) t514 true _ ?side1 ?side2 A45.out).mono ?_
        (case side1 => exact cr_ HO_513000)
        (case side2 => exact (Kd.R_reads' HO_513000.out).2.1)
        rintro e w101 ⟨v515, rfl, ho0, hb⟩
        have HS1_ := (hb.cell (World.block_lt_of_cell? _ _ (hHeld.2.1))).trans (hHeld.2.1)
        have HS2_ := (hb.cell (World.block_lt_of_cell? _ _ (hHeld.2.2.1))).trans (hHeld.2.2.1)
        have HS3_ := (hb.cell (World.block_lt_of_cell? _ _ (hHeld.2.2.2.1))).trans (hHeld.2.2.2.1)
        have HS4_ := (hb.cell (World.block_lt_of_cell? _ _ (hHeld.2.2.2.2))).trans (hHeld.2.2.2.2)
        refine ⟨_, rfl, ?_⟩
        have n2_ := mk_ (Kd.R_elder' (rp_ HO_501000) (Kd.R_base ho0) hb)
        have n3_ := mk_ (Kd.R_elder' (rp_ HO_506000) (Kd.R_base ho0) hb)
        have n4_ := mk_ (Kd.R_elder' (rp_ HO_511000) (Kd.R_base ho0) hb)
        have n5_ := mk_ (Kd.R_elder' (rp_ HO_513000) (Kd.R_base ho0) hb)
        have n6_ := mk_ (Kd.R_lower (Kd.R_new' (Kd.R_new' (Kd.R_new' (Kd.R_new' ho0 (Kd.R_lt (rp_ HO_501000))) (Kd.R_lt (rp_ HO_506000))) (Kd.R_lt (rp_ HO_511000))) (Kd.R_lt (rp_ HO_513000))) (below_size (bw_ HB)))
        clear HO_501000; clear HO_506000; clear HO_511000; clear HO_513000; have HO_501000 := n2_; have HO_506000 := n3_; have HO_511000 := n4_; have HO_513000 := n5_; have HO516 := n6_; clear n2_ n3_ n4_ n5_ n6_; replace HO_4 := rb_ HO_4 hb; replace HO_6 := rb_ HO_6 hb; replace BK500 := bb_ BK500 hb; replace BK505 := bb_ BK505 hb; replace BK510 := bb_ BK510 hb; replace BK512 := bb_ BK512 hb; replace BK518 := bb_ BK518 hb; replace HB := bs_ HB hb; (try clear hb); (try clear hb2); (try clear hk); (try clear hi); (try clear ho0)
        refine hK.out _ _ ⟨bc_ BK512 0, HS1_, HS2_, HS3_, HS4_⟩ (fun hHeld => ?_)
        clear hK K
        refine norm_ (a' := ?_) ?_ ?_
        rotate_left
        ·show Act.put _ (some 65) _ = _
         simp only [Act.put, sia_, scz_, scs_, i64_w, i32_w]
         rfl
        refine pv_ 6 59 ?_
        refine pv_ 7 66 ?_
        refine pv_ 8 67 ?_
        exact norm_ (by simp only [putAll, Act.put, sia_, scz_, scs_]) (hCont (v515, gb518) _ ⟨hHeld, (rq_ (Kd.R_mono HO516.out (fun _ hk => ⟨hk.1.1.1.2, ⟨hk.1.1.2, ⟨hk.1.2, hk.2⟩⟩⟩))), (rp_ HO_4), (rq_ (Kd.R_mono HO_501000.out (fun _ hk => ⟨hk.2, ⟨hk.1.1, hk.1.2⟩⟩))), (rq_ (Kd.R_mono HO_506000.out (fun _ hk => ⟨hk.2, ⟨hk.1.1, ⟨hk.1.2.1, hk.1.2.2⟩⟩⟩))), (rq_ (Kd.R_mono HO_511000.out (fun _ hk => ⟨hk.2, ⟨hk.1.1, ⟨hk.1.2.1, hk.1.2.2⟩⟩⟩))), (rq_ (Kd.R_mono HO_513000.out (fun _ hk => ⟨hk.2, ⟨hk.1.1, hk.1.2⟩⟩))), (rp_ HO_6), (bp_ BK500), (bp_ BK505), (bp_ BK510), (bp_ BK512), (bp_ BK518), GW518.out, GE518.out, NB500_518.out, NB518_500.out, NB505_518.out, NB518_505.out, NB510_518.out, NB518_510.out, NB512_518.out, NB518_512.out, (bw_ HB)⟩)
       skip
       refine goes_ Try.func13 (by kernel_rfl) rfl #[.agg #[.slice Ao98 x513000_2.length co98], .agg #[.int .i64 ((rd_T35 t493 x12_2).f0), .string ((rd_T35 t493 x12_2).f1), .string ((rd_T35 t493 x12_2).f2), .string ((rd_T35 t493 x12_2).f3)]] (by rfl) rfl rfl ga_ ?_
       with_reducible refine (impl_DoAct.calls k2 _ _ x513000_2 ((rd_T35 t493 x12_2).f0) ((rd_T35 t493 x12_2).f1) ((rd_T35 t493 x12_2).f2) ((rd_T35 t493 x12_2).f3) t514 true _ ?side1 ?side2 A45.out).mono ?_
       (case side1 => exact cr_ HO_513000)
       (case side2 => exact (Kd.R_reads' HO_513000.out).2.1)
       rintro e w100 ⟨v515, rfl, ho0, hb⟩
       have HS1_ := (hb.cell (World.block_lt_of_cell? _ _ (hHeld.2.1))).trans (hHeld.2.1)
       have HS2_ := (hb.cell (World.block_lt_of_cell? _ _ (hHeld.2.2.1))).trans (hHeld.2.2.1)
       have HS3_ := (hb.cell (World.block_lt_of_cell? _ _ (hHeld.2.2.2.1))).trans (hHeld.2.2.2.1)
       have HS4_ := (hb.cell (World.block_lt_of_cell? _ _ (hHeld.2.2.2.2))).trans (hHeld.2.2.2.2)
       refine ⟨_, rfl, ?_⟩
       have n2_ := mk_ (Kd.R_elder' (rp_ HO_501000) (Kd.R_base ho0) hb)
       have n3_ := mk_ (Kd.R_elder' (rp_ HO_506000) (Kd.R_base ho0) hb)
       have n4_ := mk_ (Kd.R_elder' (rp_ HO_511000) (Kd.R_base ho0) hb)
       have n5_ := mk_ (Kd.R_elder' (rp_ HO_513000) (Kd.R_base ho0) hb)
       have n6_ := mk_ (Kd.R_lower (Kd.R_new' (Kd.R_new' (Kd.R_new' (Kd.R_new' ho0 (Kd.R_lt (rp_ HO_501000))) (Kd.R_lt (rp_ HO_506000))) (Kd.R_lt (rp_ HO_511000))) (Kd.R_lt (rp_ HO_513000))) (below_size (bw_ HB)))
       clear HO_501000; clear HO_506000; clear HO_511000; clear HO_513000; have HO_501000 := n2_; have HO_506000 := n3_; have HO_511000 := n4_; have HO_513000 := n5_; have HO516 := n6_; clear n2_ n3_ n4_ n5_ n6_; replace HO_4 := rb_ HO_4 hb; replace HO_6 := rb_ HO_6 hb; replace BK500 := bb_ BK500 hb; replace BK505 := bb_ BK505 hb; replace BK510 := bb_ BK510 hb; replace BK512 := bb_ BK512 hb; replace HB := bs_ HB hb; (try clear hb); (try clear hb2); (try clear hk); (try clear hi); (try clear ho0)
       refine hK.out _ _ ⟨bc_ BK512 0, HS1_, HS2_, HS3_, HS4_⟩ (fun hHeld => ?_)
       clear hK K
       refine norm_ (a' := ?_) ?_ ?_
       rotate_left
       ·show Act.put _ (some 65) _ = _
        simp only [Act.put, sia_, scz_, scs_, i64_w, i32_w]
        rfl
       refine pv_ 6 59 ?_
       refine pv_ 7 66 ?_
       refine pv_ 8 67 ?_
       refine one_ (i := 9) (N := some 13) #[true, true, true, true, true, true, true, true, true, true, false, false] rfl rfl (one_of HT_.out (by kernel_rfl)) (by decide) (fun K hK => ?_)
       refine box_step ?hg (N := 13) ?hd (cs := #[.slice none 0 0]) (t := 31) ?hr ?_; (case hd => rfl); (case hg => rfl); (case hr => first | (go_simp; done) | (go_simp; rfl))
       intro gb518 hg w101 hbox hb
       have HS1_ := (hb.cell (World.block_lt_of_cell? _ _ (hHeld.2.1))).trans (hHeld.2.1)
       have HS2_ := (hb.cell (World.block_lt_of_cell? _ _ (hHeld.2.2.1))).trans (hHeld.2.2.1)
       have HS3_ := (hb.cell (World.block_lt_of_cell? _ _ (hHeld.2.2.2.1))).trans (hHeld.2.2.2.1)
       have HS4_ := (hb.cell (World.block_lt_of_cell? _ _ (hHeld.2.2.2.2))).trans (hHeld.2.2.2.2)
       have n12_ := mk_ (hbox)
       have n13_ : Aside0 (w.heap.size ≤ gb518) := bz_ hg
       have n14_ : Aside0 (w.heap.size ≤ gb518) := bz_ hg
       have n15_ : Aside0 (gb500 ≠ gb518) := bl_ BK500 hg
       have n16_ : Aside0 (gb518 ≠ gb500) := bg_ BK500 hg
       have n17_ : Aside0 (gb505 ≠ gb518) := bl_ BK505 hg
       have n18_ : Aside0 (gb518 ≠ gb505) := bg_ BK505 hg
       have n19_ : Aside0 (gb510 ≠ gb518) := bl_ BK510 hg
       have n20_ : Aside0 (gb518 ≠ gb510) := bg_ BK510 hg
       have n21_ : Aside0 (gb512 ≠ gb518) := bl_ BK512 hg
       have n22_ : Aside0 (gb518 ≠ gb512) := bg_ BK512 hg
       have BK518 := n12_; have GW518 := n13_; have GE518 := n14_; have NB500_518 := n15_; have NB518_500 := n16_; have NB505_518 := n17_; have NB518_505 := n18_; have NB510_518 := n19_; have NB518_510 := n20_; have NB512_518 := n21_; have NB518_512 := n22_; clear n12_ n13_ n14_ n15_ n16_ n17_ n18_ n19_ n20_ n21_ n22_; replace HO_4 := rb_ HO_4 hb; replace HO_6 := rb_ HO_6 hb; replace HO_501000 := rb_ HO_501000 hb; replace HO_506000 := rb_ HO_506000 hb; replace HO_511000 := rb_ HO_511000 hb; replace HO_513000 := rb_ HO_513000 hb; replace HO516 := rb_ HO516 hb; replace BK500 := bb_ BK500 hb; replace BK505 := bb_ BK505 hb; replace BK510 := bb_ BK510 hb; replace BK512 := bb_ BK512 hb; replace HB := bs_ HB hb; clear hb hbox hg
       refine hK.out _ _ ⟨bc_ BK512 0, HS1_, HS2_, HS3_, HS4_⟩ (fun hHeld => ?_)
       clear hK K
       refine norm_ (a' := ?_) ?_ ?_
       rotate_left
       ·show Act.put _ (some 13) _ = _
        simp only [Act.put, sia_, scz_, scs_, i64_w, i32_w]
        rfl
       exact norm_ (by simp only [putAll, Act.put, sia_, scz_, scs_]) (hCont (v515, gb518) _ ⟨hHeld, (rq_ (Kd.R_mono HO516.out (fun _ hk => ⟨hk.1.1.1.2, ⟨hk.1.1.2, ⟨hk.1.2, hk.2⟩⟩⟩))), (rp_ HO_4), (rq_ (Kd.R_mono HO_501000.out (fun _ hk => ⟨hk.2, ⟨hk.1.1, hk.1.2⟩⟩))), (rq_ (Kd.R_mono HO_506000.out (fun _ hk => ⟨hk.2, ⟨hk.1.1, ⟨hk.1.2.1, hk.1.2.2⟩⟩⟩))), (rq_ (Kd.R_mono HO_511000.out (fun _ hk => ⟨hk.2, ⟨hk.1.1, ⟨hk.1.2.1, hk.1.2.2⟩⟩⟩))), (rq_ (Kd.R_mono HO_513000.out (fun _ hk => ⟨hk.2, ⟨hk.1.1, hk.1.2⟩⟩))), (rp_ HO_6), (bp_ BK500), (bp_ BK505), (bp_ BK510), (bp_ BK512), (bp_ BK518), GW518.out, GE518.out, NB500_518.out, NB518_500.out, NB505_518.out, NB518_505.out, NB510_518.out, NB518_510.out, NB512_518.out, NB518_512.out, (bw_ HB)⟩)
      rintro ⟨v515, gb518⟩ w102 ⟨hS_, h0_, h1_, h2_, h3_, h4_, h5_, h6_, h7_, h8_, h9_, h10_, h11_, h12_, h13_, h14_, h15_, h16_, h17_, h18_, h19_, h20_, h21_, h22_⟩
      have n0_ : Aside0 (Kd.R k76 76 w102 w.heap.size (fun k_ => some k_ ≠ (.slice Ao10 t490.length co10 : Value).ownBlock ∧ some k_ ≠ (.slice Ao15 t501.length co15 : Value).ownBlock ∧ some k_ ≠ (.slice Ao21 t506.length co21 : Value).ownBlock ∧ some k_ ≠ (.slice Ao98 x513000_2.length co98 : Value).ownBlock) v515 t514) := ⟨h0_⟩
      have n1_ : Aside0 (Kd.R k35 35 w102 w.heap.size (fun _ => True) (.slice (some ad513) t493.length co12) t493) := ⟨h1_⟩
      have n2_ : Aside0 (Kd.R k76 76 w102 w.heap.size (fun k_ => some k_ ≠ (v515 : Value).ownBlock ∧ some k_ ≠ (.slice Ao15 t501.length co15 : Value).ownBlock ∧ some k_ ≠ (.slice Ao21 t506.length co21 : Value).ownBlock) (.slice Ao10 t490.length co10) t490) := ⟨h2_⟩
      have n3_ : Aside0 (Kd.R k76 76 w102 w.heap.size (fun k_ => some k_ ≠ (v515 : Value).ownBlock ∧ some k_ ≠ (.slice Ao10 t490.length co10 : Value).ownBlock ∧ some k_ ≠ (.slice Ao21 t506.length co21 : Value).ownBlock ∧ some k_ ≠ (.slice Ao98 x513000_2.length co98 : Value).ownBlock) (.slice Ao15 t501.length co15) t501) := ⟨h3_⟩
      have n4_ : Aside0 (Kd.R k76 76 w102 w.heap.size (fun k_ => some k_ ≠ (v515 : Value).ownBlock ∧ some k_ ≠ (.slice Ao10 t490.length co10 : Value).ownBlock ∧ some k_ ≠ (.slice Ao15 t501.length co15 : Value).ownBlock ∧ some k_ ≠ (.slice Ao98 x513000_2.length co98 : Value).ownBlock) (.slice Ao21 t506.length co21) t506) := ⟨h4_⟩
      have n5_ : Aside0 (Kd.R k76 76 w102 w.heap.size (fun k_ => some k_ ≠ (v515 : Value).ownBlock ∧ some k_ ≠ (.slice Ao15 t501.length co15 : Value).ownBlock ∧ some k_ ≠ (.slice Ao21 t506.length co21 : Value).ownBlock) (.slice Ao98 x513000_2.length co98) x513000_2) := ⟨h5_⟩
      have n6_ : Aside0 (Kd.R (Kd.int .i64) 3 w102 w.heap.size (fun _ => True) v498 t497) := ⟨h6_⟩
      have n7_ : Aside0 (w102.heap[gb500]? = some (.cells #[.slice Ao10 t490.length co10] 31 (0, 0))) := ⟨h7_⟩
      have n8_ : Aside0 (w102.heap[gb505]? = some (.cells #[.slice Ao15 t501.length co15] 31 (0, 0))) := ⟨h8_⟩
      have n9_ : Aside0 (w102.heap[gb510]? = some (.cells #[.slice Ao21 t506.length co21] 31 (0, 0))) := ⟨h9_⟩
      have n10_ : Aside0 (w102.heap[gb512]? = some (.cells #[.slice Ao98 x513000_2.length co98] 31 (0, 0))) := ⟨h10_⟩
      have n11_ : Aside0 (w102.heap[gb518]? = some (.cells #[.slice none 0 0] 31 (0, 0))) := ⟨h11_⟩
      have n12_ : Aside0 (w.heap.size ≤ gb518) := ⟨h12_⟩
      have n13_ : Aside0 (w.heap.size ≤ gb518) := ⟨h13_⟩
      have n14_ : Aside0 (gb500 ≠ gb518) := ⟨h14_⟩
      have n15_ : Aside0 (gb518 ≠ gb500) := ⟨h15_⟩
      have n16_ : Aside0 (gb505 ≠ gb518) := ⟨h16_⟩
      have n17_ : Aside0 (gb518 ≠ gb505) := ⟨h17_⟩
      have n18_ : Aside0 (gb510 ≠ gb518) := ⟨h18_⟩
      have n19_ : Aside0 (gb518 ≠ gb510) := ⟨h19_⟩
      have n20_ : Aside0 (gb512 ≠ gb518) := ⟨h20_⟩
      have n21_ : Aside0 (gb518 ≠ gb512) := ⟨h21_⟩
      have n22_ : Aside0 (Below w.heap.size w w102) := ⟨h22_⟩
      clear HO_4; clear HO_6; clear HO_501000; clear HO_506000; clear HO_511000; clear HO_513000; clear BK500; clear BK505; clear BK510; clear BK512; clear HB; clear h0_ h1_ h2_ h3_ h4_ h5_ h6_ h7_ h8_ h9_ h10_ h11_ h12_ h13_ h14_ h15_ h16_ h17_ h18_ h19_ h20_ h21_ h22_; have HO516 := n0_; have HO_4 := n1_; have HO_501000 := n2_; have HO_506000 := n3_; have HO_511000 := n4_; have HO_513000 := n5_; have HO_6 := n6_; have BK500 := n7_; have BK505 := n8_; have BK510 := n9_; have BK512 := n10_; have BK518 := n11_; have GW518 := n12_; have GE518 := n13_; have NB500_518 := n14_; have NB518_500 := n15_; have NB505_518 := n16_; have NB518_505 := n17_; have NB510_518 := n18_; have NB518_510 := n19_; have NB512_518 := n20_; have NB518_512 := n21_; have HB := n22_; clear n0_ n1_ n2_ n3_ n4_ n5_ n6_ n7_ n8_ n9_ n10_ n11_ n12_ n13_ n14_ n15_ n16_ n17_ n18_ n19_ n20_ n21_ n22_
      have hHeld : w102.cell? ⟨gb512, 0, none⟩ = some (.slice Ao98 x513000_2.length co98) ∧ w102.cell? (ad513.add ((x12_2).toNat * 4)) = some (.int .i64 ((rd_T35 t493 x12_2).f0)) ∧ w102.cell? ⟨(ad513.add ((x12_2).toNat * 4)).block, (ad513.add ((x12_2).toNat * 4)).off + 1, none⟩ = some (.string ((rd_T35 t493 x12_2).f1)) ∧ w102.cell? ⟨(ad513.add ((x12_2).toNat * 4)).block, (ad513.add ((x12_2).toNat * 4)).off + 2, none⟩ = some (.string ((rd_T35 t493 x12_2).f2)) ∧ w102.cell? ⟨(ad513.add ((x12_2).toNat * 4)).block, (ad513.add ((x12_2).toNat * 4)).off + 3, none⟩ = some (.string ((rd_T35 t493 x12_2).f3)) := hS_
      obtain ⟨Ao103, co103, eo103⟩ := Kd.R_slice HO516.out
      (first | subst eo103 | (injection eo103 with f1_ f2_ f3_; have f4_ := f1_.symm; have f5_ := f3_.symm; clear f1_ f2_ f3_; subst f4_; subst f5_))
      refine norm_ (a' := ?_) ?_ ?_
      rotate_left
      ·simp only [putAll, Act.put, sia_, scz_, scs_]
       rfl
      refine one_ (i := 10) (N := none) #[true, true, true, true, true, true, true, true, true, true, true, false] rfl rfl (one_of HT_.out (by kernel_rfl)) (by decide) (fun K hK => ?_)
      have hs104 : w102.cell? ⟨gb518, 0, none⟩ = some (.slice none 0 0) := bc_ BK518 0
      have hfs104 := blk_frozen BK518.out 0
      have hns104_0 := NB500_518.out
      have hns104_1 := NB505_518.out
      have hns104_2 := NB510_518.out
      have hns104_3 := NB512_518.out
      have hms104_0 := NB518_500.out
      have hms104_1 := NB518_505.out
      have hms104_2 := NB518_510.out
      have hms104_3 := NB518_512.out
      refine skip_ (w1 := ?_) (by rfl) rfl ?_ ?_
      rotate_left
      ·go_simp
       rfl
      refine hK.out _ _ ⟨((cell_far (p := ⟨gb518, _, none⟩) NB512_518.out _).trans (hHeld.1)), ((cell_far (p := ⟨gb518, _, none⟩) (by first | exact Kd.own_blk (Kd.R_ne HO_4.out BK518.out (by decide)) | (rw [add_block]; exact Kd.own_blk (Kd.R_ne HO_4.out BK518.out (by decide))) | (show (Addr.add _ _).block ≠ _; rw [add_block]; exact Kd.own_blk (Kd.R_ne HO_4.out BK518.out (by decide))) | (dsimp only; exact Kd.own_blk (Kd.R_ne HO_4.out BK518.out (by decide)))) _).trans (hHeld.2.1)), ((cell_far (p := ⟨gb518, _, none⟩) (by first | exact Kd.own_blk (Kd.R_ne HO_4.out BK518.out (by decide)) | (rw [add_block]; exact Kd.own_blk (Kd.R_ne HO_4.out BK518.out (by decide))) | (show (Addr.add _ _).block ≠ _; rw [add_block]; exact Kd.own_blk (Kd.R_ne HO_4.out BK518.out (by decide))) | (dsimp only; exact Kd.own_blk (Kd.R_ne HO_4.out BK518.out (by decide)))) _).trans (hHeld.2.2.1)), ((cell_far (p := ⟨gb518, _, none⟩) (by first | exact Kd.own_blk (Kd.R_ne HO_4.out BK518.out (by decide)) | (rw [add_block]; exact Kd.own_blk (Kd.R_ne HO_4.out BK518.out (by decide))) | (show (Addr.add _ _).block ≠ _; rw [add_block]; exact Kd.own_blk (Kd.R_ne HO_4.out BK518.out (by decide))) | (dsimp only; exact Kd.own_blk (Kd.R_ne HO_4.out BK518.out (by decide)))) _).trans (hHeld.2.2.2.1)), ((cell_far (p := ⟨gb518, _, none⟩) (by first | exact Kd.own_blk (Kd.R_ne HO_4.out BK518.out (by decide)) | (rw [add_block]; exact Kd.own_blk (Kd.R_ne HO_4.out BK518.out (by decide))) | (show (Addr.add _ _).block ≠ _; rw [add_block]; exact Kd.own_blk (Kd.R_ne HO_4.out BK518.out (by decide))) | (dsimp only; exact Kd.own_blk (Kd.R_ne HO_4.out BK518.out (by decide)))) _).trans (hHeld.2.2.2.2))⟩ (fun hHeld => ?_)
      clear hK K
      refine pv_ 11 14 ?_
      refine done_ (done_of HT_.out (by kernel_rfl)) ?_
      try go_wp2
      have n0_ : Aside0 (Kd.R k35 35 (w102.setCell ⟨gb518, 0, none⟩ (.slice Ao103 t514.length co103)) w.heap.size (fun _ => True) (.slice (some ad513) t493.length co12) t493) := ⟨rq_ (rt_ HO_4 BK518 0 (.slice Ao103 t514.length co103))⟩
      have n1_ : Aside0 (Kd.R (Kd.int .i64) 3 (w102.setCell ⟨gb518, 0, none⟩ (.slice Ao103 t514.length co103)) w.heap.size (fun _ => True) v498 t497) := ⟨rq_ (rt_ HO_6 BK518 0 (.slice Ao103 t514.length co103))⟩
      have n2_ : Aside0 (Kd.R k76 76 (w102.setCell ⟨gb518, 0, none⟩ (.slice Ao103 t514.length co103)) w.heap.size (fun k_ => some k_ ≠ (.slice Ao15 t501.length co15 : Value).ownBlock ∧ some k_ ≠ (.slice Ao21 t506.length co21 : Value).ownBlock ∧ some k_ ≠ (.slice Ao103 t514.length co103 : Value).ownBlock) (.slice Ao10 t490.length co10) t490) := ⟨rq_ (Kd.R_mono (Kd.R_far (p := ⟨gb518, 0, none⟩) (Kd.R_types HO_501000.out BK518.out (by decide)) (fun _ hk => hk.2) (.slice Ao103 t514.length co103)) (fun _ hk => ⟨hk.1.2.1, ⟨hk.1.2.2, hk.1.1⟩⟩))⟩
      have n3_ : Aside0 (Kd.R k76 76 (w102.setCell ⟨gb518, 0, none⟩ (.slice Ao103 t514.length co103)) w.heap.size (fun k_ => some k_ ≠ (.slice Ao10 t490.length co10 : Value).ownBlock ∧ some k_ ≠ (.slice Ao21 t506.length co21 : Value).ownBlock ∧ some k_ ≠ (.slice Ao98 x513000_2.length co98 : Value).ownBlock ∧ some k_ ≠ (.slice Ao103 t514.length co103 : Value).ownBlock) (.slice Ao15 t501.length co15) t501) := ⟨rq_ (Kd.R_mono (Kd.R_far (p := ⟨gb518, 0, none⟩) (Kd.R_types HO_506000.out BK518.out (by decide)) (fun _ hk => hk.2) (.slice Ao103 t514.length co103)) (fun _ hk => ⟨hk.1.2.1, ⟨hk.1.2.2.1, ⟨hk.1.2.2.2, hk.1.1⟩⟩⟩))⟩
      have n4_ : Aside0 (Kd.R k76 76 (w102.setCell ⟨gb518, 0, none⟩ (.slice Ao103 t514.length co103)) w.heap.size (fun k_ => some k_ ≠ (.slice Ao10 t490.length co10 : Value).ownBlock ∧ some k_ ≠ (.slice Ao15 t501.length co15 : Value).ownBlock ∧ some k_ ≠ (.slice Ao98 x513000_2.length co98 : Value).ownBlock ∧ some k_ ≠ (.slice Ao103 t514.length co103 : Value).ownBlock) (.slice Ao21 t506.length co21) t506) := ⟨rq_ (Kd.R_mono (Kd.R_far (p := ⟨gb518, 0, none⟩) (Kd.R_types HO_511000.out BK518.out (by decide)) (fun _ hk => hk.2) (.slice Ao103 t514.length co103)) (fun _ hk => ⟨hk.1.2.1, ⟨hk.1.2.2.1, ⟨hk.1.2.2.2, hk.1.1⟩⟩⟩))⟩
      have n5_ : Aside0 (Kd.R k76 76 (w102.setCell ⟨gb518, 0, none⟩ (.slice Ao103 t514.length co103)) w.heap.size (fun k_ => some k_ ≠ (.slice Ao15 t501.length co15 : Value).ownBlock ∧ some k_ ≠ (.slice Ao21 t506.length co21 : Value).ownBlock ∧ some k_ ≠ (.slice Ao103 t514.length co103 : Value).ownBlock) (.slice Ao98 x513000_2.length co98) x513000_2) := ⟨rq_ (Kd.R_mono (Kd.R_far (p := ⟨gb518, 0, none⟩) (Kd.R_types HO_513000.out BK518.out (by decide)) (fun _ hk => hk.2) (.slice Ao103 t514.length co103)) (fun _ hk => ⟨hk.1.2.1, ⟨hk.1.2.2, hk.1.1⟩⟩))⟩
      have n6_ : Aside0 (Kd.R k76 76 (w102.setCell ⟨gb518, 0, none⟩ (.slice Ao103 t514.length co103)) w.heap.size (fun k_ => some k_ ≠ (.slice Ao10 t490.length co10 : Value).ownBlock ∧ some k_ ≠ (.slice Ao15 t501.length co15 : Value).ownBlock ∧ some k_ ≠ (.slice Ao21 t506.length co21 : Value).ownBlock ∧ some k_ ≠ (.slice Ao98 x513000_2.length co98 : Value).ownBlock) (.slice Ao103 t514.length co103) t514) := ⟨rq_ (Kd.R_mono (Kd.R_far (p := ⟨gb518, 0, none⟩) (Kd.R_types HO516.out BK518.out (by decide)) (fun _ hk => hk.2) (.slice Ao103 t514.length co103)) (fun _ hk => ⟨hk.1.1, ⟨hk.1.2.1, ⟨hk.1.2.2.1, hk.1.2.2.2⟩⟩⟩))⟩
      have n7_ : Aside0 ((w102.setCell ⟨gb518, 0, none⟩ (.slice Ao103 t514.length co103)).heap[gb500]? = some (.cells #[.slice Ao10 t490.length co10] 31 (0, 0))) := ⟨bf_⟩
      have n8_ : Aside0 ((w102.setCell ⟨gb518, 0, none⟩ (.slice Ao103 t514.length co103)).heap[gb505]? = some (.cells #[.slice Ao15 t501.length co15] 31 (0, 0))) := ⟨bf_⟩
      have n9_ : Aside0 ((w102.setCell ⟨gb518, 0, none⟩ (.slice Ao103 t514.length co103)).heap[gb510]? = some (.cells #[.slice Ao21 t506.length co21] 31 (0, 0))) := ⟨bf_⟩
      have n10_ : Aside0 ((w102.setCell ⟨gb518, 0, none⟩ (.slice Ao103 t514.length co103)).heap[gb512]? = some (.cells #[.slice Ao98 x513000_2.length co98] 31 (0, 0))) := ⟨bf_⟩
      have n11_ : Aside0 ((w102.setCell ⟨gb518, 0, none⟩ (.slice Ao103 t514.length co103)).heap[gb518]? = some (.cells #[.slice Ao103 t514.length co103] 31 (0, 0))) := ⟨bu_⟩
      have n12_ : Aside0 (Below w.heap.size w (w102.setCell ⟨gb518, 0, none⟩ (.slice Ao103 t514.length co103))) := ⟨bw_ HB⟩
      (try clear HO_4); (try clear HO_6); (try clear HO_501000); (try clear HO_506000); (try clear HO_511000); (try clear HO_513000); (try clear HO516); (try clear BK500); (try clear BK505); (try clear BK510); (try clear BK512); (try clear BK518); (try clear HB)
      generalize (w102.setCell ⟨gb518, 0, none⟩ (.slice Ao103 t514.length co103)) = w105 at n0_ n1_ n2_ n3_ n4_ n5_ n6_ n7_ n8_ n9_ n10_ n11_ n12_ ⊢
      have HO_4 := n0_; have HO_6 := n1_; have HO_501000 := n2_; have HO_506000 := n3_; have HO_511000 := n4_; have HO_513000 := n5_; have HO516 := n6_; have BK500 := n7_; have BK505 := n8_; have BK510 := n9_; have BK512 := n10_; have BK518 := n11_; have HB := n12_; clear n0_ n1_ n2_ n3_ n4_ n5_ n6_ n7_ n8_ n9_ n10_ n11_ n12_
      replace HO_4 := rd_ HO_4; replace HO_6 := rd_ HO_6; replace HO_501000 := rd_ HO_501000; replace HO_506000 := rd_ HO_506000; replace HO_511000 := rd_ HO_511000; replace HO_513000 := rd_ HO_513000; replace HO516 := rd_ HO516; replace BK500 := kd_ BK500; replace BK505 := kd_ BK505; replace BK510 := kd_ BK510; replace BK512 := kd_ BK512; replace BK518 := kd_ BK518; replace HB := wd_ HB
      have p519 : 0 ≤ (x12_2 : Int) := od_
      have q519 : x12_2 < (t493.length : Int) := od_
      obtain ⟨ad519, e519, hx519_0, hx519_1, hx519_2, hx519_3⟩ := at_T35 (Kd.R_reads' HO_4.out).2.2 x12_2 p519 q519
      obtain rfl : ad513 = ad519 := (by injection e519)
      replace p519 := eq_true p519
      replace q519 := eq_true q519
      refine start_ (n := 12) (S := fun w' => w'.cell? ⟨gb512, 0, none⟩ = some (.slice Ao98 x513000_2.length co98) ∧ w'.cell? (ad513.add ((x12_2).toNat * 4)) = some (.int .i64 ((rd_T35 t493 x12_2).f0)) ∧ w'.cell? ⟨(ad513.add ((x12_2).toNat * 4)).block, (ad513.add ((x12_2).toNat * 4)).off + 1, none⟩ = some (.string ((rd_T35 t493 x12_2).f1)) ∧ w'.cell? ⟨(ad513.add ((x12_2).toNat * 4)).block, (ad513.add ((x12_2).toNat * 4)).off + 2, none⟩ = some (.string ((rd_T35 t493 x12_2).f2)) ∧ w'.cell? ⟨(ad513.add ((x12_2).toNat * 4)).block, (ad513.add ((x12_2).toNat * 4)).off + 3, none⟩ = some (.string ((rd_T35 t493 x12_2).f3))) (ds := []) #[false, false, false, false, false, false, false, false, false, false, false, false] (by kernel_rfl) rfl rfl ⟨bc_ BK512 0, hx519_0, hx519_1, hx519_2, hx519_3⟩ (fun hHeld => ?_); refine with_tabW laws_FnActs.tab15 laws_FnActs.bits15 (fun HT_ HW_ => ?_)
      generalize w105.drew = w106 at HO_4 HO_6 HO_501000 HO_506000 HO_511000 HO_513000 HO516 BK500 BK505 BK510 BK512 BK518 HB hx519_0 hx519_1 hx519_2 hx519_3 hHeld ⊢
      refine pv_ 1 72 ?_
      refine pv_ 2 73 ?_
      refine pv_ 3 74 ?_
      refine pv_ 4 75 ?_
      refine tv_ 0 71 hHeld ?_
      refine tv_ 5 76 hHeld ?_
      refine one_ (i := 6) (N := some 77) #[true, true, true, true, true, true, true, false, false, false, false, false] rfl rfl (one_of HT_.out (by kernel_rfl)) (by decide) (fun K hK => ?_)
      refine goes_ Try.func26 (by kernel_rfl) rfl #[.agg #[.slice Ao98 x513000_2.length co98], .string ((rd_T35 t493 x12_2).f1)] (by rfl) rfl rfl ga_ ?_
      with_reducible refine (impl_FileAt.calls _ _ x513000_2 ((rd_T35 t493 x12_2).f1) t520 t521 _ ?side1 ?side2 A47.out).mono ?_
      (case side1 => exact cr_ HO_513000)
      (case side2 => exact (Kd.R_reads' HO_513000.out).2.1)
      rintro e w107 ⟨rfl, hb⟩
      have HS1_ := (hb.cell (World.block_lt_of_cell? _ _ (hHeld.2.1))).trans (hHeld.2.1)
      have HS2_ := (hb.cell (World.block_lt_of_cell? _ _ (hHeld.2.2.1))).trans (hHeld.2.2.1)
      have HS3_ := (hb.cell (World.block_lt_of_cell? _ _ (hHeld.2.2.2.1))).trans (hHeld.2.2.2.1)
      have HS4_ := (hb.cell (World.block_lt_of_cell? _ _ (hHeld.2.2.2.2))).trans (hHeld.2.2.2.2)
      refine ⟨_, rfl, ?_⟩
      replace HO_4 := rb_ HO_4 hb; replace HO_6 := rb_ HO_6 hb; replace HO_501000 := rb_ HO_501000 hb; replace HO_506000 := rb_ HO_506000 hb; replace HO_511000 := rb_ HO_511000 hb; replace HO_513000 := rb_ HO_513000 hb; replace HO516 := rb_ HO516 hb; replace BK500 := bb_ BK500 hb; replace BK505 := bb_ BK505 hb; replace BK510 := bb_ BK510 hb; replace BK512 := bb_ BK512 hb; replace BK518 := bb_ BK518 hb; replace HB := bs_ HB hb; (try clear hb); (try clear hb2); (try clear hk); (try clear hi)
      refine hK.out _ _ ⟨bc_ BK512 0, HS1_, HS2_, HS3_, HS4_⟩ (fun hHeld => ?_)
      clear hK K
      refine norm_ (a' := ?_) ?_ ?_
      rotate_left
      ·show Act.put _ (some 77) _ = _
       simp only [Act.put, sia_, scz_, scs_, i64_w, i32_w]
       rfl
      refine pv_ 7 70 ?_
      refine pv_ 8 78 ?_
      refine pv_ 9 79 ?_
      refine pv_ 10 15 ?_
      refine pv_ 11 16 ?_
      refine done_ (done_of HT_.out (by kernel_rfl)) ?_
      try go_wp2
      replace HO_4 := rd_ HO_4; replace HO_6 := rd_ HO_6; replace HO_501000 := rd_ HO_501000; replace HO_506000 := rd_ HO_506000; replace HO_511000 := rd_ HO_511000; replace HO_513000 := rd_ HO_513000; replace HO516 := rd_ HO516; replace BK500 := kd_ BK500; replace BK505 := kd_ BK505; replace BK510 := kd_ BK510; replace BK512 := kd_ BK512; replace BK518 := kd_ BK518; replace HB := wd_ HB
      have p522 : 0 ≤ (x12_2 : Int) := od_
      have q522 : x12_2 < (t493.length : Int) := od_
      obtain ⟨ad522, e522, hx522_0, hx522_1, hx522_2, hx522_3⟩ := at_T35 (Kd.R_reads' HO_4.out).2.2 x12_2 p522 q522
      obtain rfl : ad513 = ad522 := (by injection e522)
      replace p522 := eq_true p522
      replace q522 := eq_true q522
      refine start_ (n := 12) (S := fun w' => w'.cell? ⟨gb518, 0, none⟩ = some (.slice Ao103 t514.length co103) ∧ w'.cell? (ad513.add ((x12_2).toNat * 4)) = some (.int .i64 ((rd_T35 t493 x12_2).f0)) ∧ w'.cell? ⟨(ad513.add ((x12_2).toNat * 4)).block, (ad513.add ((x12_2).toNat * 4)).off + 1, none⟩ = some (.string ((rd_T35 t493 x12_2).f1)) ∧ w'.cell? ⟨(ad513.add ((x12_2).toNat * 4)).block, (ad513.add ((x12_2).toNat * 4)).off + 2, none⟩ = some (.string ((rd_T35 t493 x12_2).f2)) ∧ w'.cell? ⟨(ad513.add ((x12_2).toNat * 4)).block, (ad513.add ((x12_2).toNat * 4)).off + 3, none⟩ = some (.string ((rd_T35 t493 x12_2).f3))) (ds := []) #[false, false, false, false, false, false, false, false, false, false, false, false] (by kernel_rfl) rfl rfl ⟨bc_ BK518 0, hx522_0, hx522_1, hx522_2, hx522_3⟩ (fun hHeld => ?_); refine with_tabW laws_FnActs.tab16 laws_FnActs.bits16 (fun HT_ HW_ => ?_)
      generalize w107.drew = w108 at HO_4 HO_6 HO_501000 HO_506000 HO_511000 HO_513000 HO516 BK500 BK505 BK510 BK512 BK518 HB hx522_0 hx522_1 hx522_2 hx522_3 hHeld ⊢
      refine pv_ 1 82 ?_
      refine pv_ 2 83 ?_
      refine pv_ 3 84 ?_
      refine pv_ 4 85 ?_
      refine tv_ 0 81 hHeld ?_
      refine tv_ 5 86 hHeld ?_
      refine one_ (i := 6) (N := some 87) #[true, true, true, true, true, true, true, false, false, false, false, false] rfl rfl (one_of HT_.out (by kernel_rfl)) (by decide) (fun K hK => ?_)
      refine goes_ Try.func26 (by kernel_rfl) rfl #[.agg #[.slice Ao103 t514.length co103], .string ((rd_T35 t493 x12_2).f1)] (by rfl) rfl rfl ga_ ?_
      with_reducible refine (impl_FileAt.calls _ _ t514 ((rd_T35 t493 x12_2).f1) t523 t524 _ ?side1 ?side2 A48.out).mono ?_
      (case side1 => exact cr_ HO516)
      (case side2 => exact (Kd.R_reads' HO516.out).2.1)
      rintro e w109 ⟨rfl, hb⟩
      have HS1_ := (hb.cell (World.block_lt_of_cell? _ _ (hHeld.2.1))).trans (hHeld.2.1)
      have HS2_ := (hb.cell (World.block_lt_of_cell? _ _ (hHeld.2.2.1))).trans (hHeld.2.2.1)
      have HS3_ := (hb.cell (World.block_lt_of_cell? _ _ (hHeld.2.2.2.1))).trans (hHeld.2.2.2.1)
      have HS4_ := (hb.cell (World.block_lt_of_cell? _ _ (hHeld.2.2.2.2))).trans (hHeld.2.2.2.2)
      refine ⟨_, rfl, ?_⟩
      replace HO_4 := rb_ HO_4 hb; replace HO_6 := rb_ HO_6 hb; replace HO_501000 := rb_ HO_501000 hb; replace HO_506000 := rb_ HO_506000 hb; replace HO_511000 := rb_ HO_511000 hb; replace HO_513000 := rb_ HO_513000 hb; replace HO516 := rb_ HO516 hb; replace BK500 := bb_ BK500 hb; replace BK505 := bb_ BK505 hb; replace BK510 := bb_ BK510 hb; replace BK512 := bb_ BK512 hb; replace BK518 := bb_ BK518 hb; replace HB := bs_ HB hb; (try clear hb); (try clear hb2); (try clear hk); (try clear hi)
      refine hK.out _ _ ⟨bc_ BK518 0, HS1_, HS2_, HS3_, HS4_⟩ (fun hHeld => ?_)
      clear hK K
      refine norm_ (a' := ?_) ?_ ?_
      rotate_left
      ·show Act.put _ (some 87) _ = _
       simp only [Act.put, sia_, scz_, scs_, i64_w, i32_w]
       rfl
      refine pv_ 7 80 ?_
      refine pv_ 8 88 ?_
      refine pv_ 9 89 ?_
      refine pv_ 10 17 ?_
      refine pv_ 11 18 ?_
      refine done_ (done_of HT_.out (by kernel_rfl)) ?_
      have p525 : 0 ≤ (x12_2 : Int) := od_
      have q525 : x12_2 < (t493.length : Int) := od_
      obtain ⟨ad525, e525, hx525_0, hx525_1, hx525_2, hx525_3⟩ := at_T35 (Kd.R_reads' HO_4.out).2.2 x12_2 p525 q525
      obtain rfl : ad513 = ad525 := (by injection e525)
      replace p525 := eq_true p525
      replace q525 := eq_true q525
      have p528 : 0 ≤ (x12_2 : Int) := od_
      have q528 : x12_2 < (t493.length : Int) := od_
      obtain ⟨ad528, e528, hx528_0, hx528_1, hx528_2, hx528_3⟩ := at_T35 (Kd.R_reads' HO_4.out).2.2 x12_2 p528 q528
      obtain rfl : ad513 = ad528 := (by injection e528)
      replace p528 := eq_true p528
      replace q528 := eq_true q528
      obtain ⟨hnb110, hnc110⟩ := ns_ NB518_500
      obtain ⟨hnb111, hnc111⟩ := ns_ NB518_505
      obtain ⟨hnb112, hnc112⟩ := ns_ NB518_510
      obtain ⟨hnb113, hnc113⟩ := ns_ NB518_512
      have hcz114_0 : w109.cell? ⟨gb518, 0, none⟩ = some (.slice Ao103 t514.length co103) := bc_ BK518 0
      have hfz114_0 := blk_frozen BK518.out 0
      obtain ⟨hnb115, hnc115⟩ := ns_ NB512_500
      obtain ⟨hnb116, hnc116⟩ := ns_ NB512_505
      obtain ⟨hnb117, hnc117⟩ := ns_ NB512_510
      have hcz118_0 : w109.cell? ⟨gb512, 0, none⟩ = some (.slice Ao98 x513000_2.length co98) := bc_ BK512 0
      have hfz118_0 := blk_frozen BK512.out 0
      try go_wp2
      go_roundg k2
      case measure => have := HJ6.out; have := HK2.out; omega
      case rel => exact ⟨(wrap64 (x12_2 + 1)), (t514), (.slice Ao103 t514.length co103), (by first | rfl | (simp; done) | (simp [*]; done) | (simp [bne]; done)), H', ⟨by have := HJ6.out; have := HK2.out; omega⟩, ⟨rq_ (rt_ HO_4 BK512 0 (.slice Ao103 t514.length co103))⟩, ⟨rq_ (rt_ HO_6 BK512 0 (.slice Ao103 t514.length co103))⟩, ⟨rq_ (Kd.R_mono (Kd.R_far (p := ⟨gb512, 0, none⟩) (Kd.R_types HO_501000.out BK512.out (by decide)) (fun _ hk => hk.2) (.slice Ao103 t514.length co103)) (fun _ hk => by repeat' first | exact hk.1.1 | exact hk.1.2.1 | exact hk.1.2.2.1 | exact hk.1.2.2.2 | exact hk.1.2.2 | exact hk.1.2 | constructor))⟩, ⟨rq_ (Kd.R_mono (Kd.R_far (p := ⟨gb512, 0, none⟩) (Kd.R_types HO_506000.out BK512.out (by decide)) (fun _ hk => hk.2) (.slice Ao103 t514.length co103)) (fun _ hk => by repeat' first | exact hk.1.1 | exact hk.1.2.1 | exact hk.1.2.2.1 | exact hk.1.2.2.2 | exact hk.1.2.2 | exact hk.1.2 | constructor))⟩, ⟨rq_ (Kd.R_mono (Kd.R_far (p := ⟨gb512, 0, none⟩) (Kd.R_types HO_511000.out BK512.out (by decide)) (fun _ hk => hk.2) (.slice Ao103 t514.length co103)) (fun _ hk => by repeat' first | exact hk.1.1 | exact hk.1.2.1 | exact hk.1.2.2.1 | exact hk.1.2.2.2 | exact hk.1.2.2 | exact hk.1.2 | constructor))⟩, ⟨rq_ (Kd.R_mono (Kd.R_far (p := ⟨gb512, 0, none⟩) (Kd.R_types HO516.out BK512.out (by decide)) (fun _ hk => hk.2) (.slice Ao103 t514.length co103)) (fun _ hk => by repeat' first | exact hk.1.1 | exact hk.1.2.1 | exact hk.1.2.2.1 | exact hk.1.2.2.2 | exact hk.1.2.2 | exact hk.1.2 | constructor))⟩, ⟨bf_⟩, ⟨bf_⟩, ⟨bf_⟩, ⟨bu_⟩, ⟨bw_ HB⟩⟩
     rw [if_pos c75] at H
     have c75b0 : (((rd_T35 t493 x12_2).f0) == 4) = true := beq_iff_eq.mpr c75
     have c75b1 : (((rd_T35 t493 x12_2).f0) != 4) = false := bne_eq_false_iff_eq.mpr c75
     clear c75
     by_cases c76 : t524 = true
     ·subst c76
      rw [if_pos rfl] at H
      exact absurd H (by simp)
     replace c76 := Bool.eq_false_iff.mpr c76
     subst c76
     rw [if_neg (show ¬ (false = true) by decide)] at H
     have H' := Aside0.mk H
     clear H
     obtain ⟨Ao77, co77, eo77⟩ := Kd.R_slice HO_513000.out
     subst eo77
     try go_wp2
     replace HO_4 := rd_ HO_4; replace HO_6 := rd_ HO_6; replace HO_501000 := rd_ HO_501000; replace HO_506000 := rd_ HO_506000; replace HO_511000 := rd_ HO_511000; replace HO_513000 := rd_ HO_513000; replace BK500 := kd_ BK500; replace BK505 := kd_ BK505; replace BK510 := kd_ BK510; replace BK512 := kd_ BK512; replace HB := wd_ HB
     have p513 : 0 ≤ (x12_2 : Int) := od_
     have q513 : x12_2 < (t493.length : Int) := od_
     obtain ⟨ad513, e513, hx513_0, hx513_1, hx513_2, hx513_3⟩ := at_T35 (Kd.R_reads' HO_4.out).2.2 x12_2 p513 q513
     cases e513
     replace p513 := eq_true p513
     replace q513 := eq_true q513
     refine start_ (n := 12) (S := fun w' => w'.cell? ⟨gb512, 0, none⟩ = some (.slice Ao77 x513000_2.length co77) ∧ w'.cell? (ad513.add ((x12_2).toNat * 4)) = some (.int .i64 ((rd_T35 t493 x12_2).f0)) ∧ w'.cell? ⟨(ad513.add ((x12_2).toNat * 4)).block, (ad513.add ((x12_2).toNat * 4)).off + 1, none⟩ = some (.string ((rd_T35 t493 x12_2).f1)) ∧ w'.cell? ⟨(ad513.add ((x12_2).toNat * 4)).block, (ad513.add ((x12_2).toNat * 4)).off + 2, none⟩ = some (.string ((rd_T35 t493 x12_2).f2)) ∧ w'.cell? ⟨(ad513.add ((x12_2).toNat * 4)).block, (ad513.add ((x12_2).toNat * 4)).off + 3, none⟩ = some (.string ((rd_T35 t493 x12_2).f3))) (ds := []) #[false, false, false, false, false, false, false, false, false, false, false, false] (by kernel_rfl) rfl rfl ⟨bc_ BK512 0, hx513_0, hx513_1, hx513_2, hx513_3⟩ (fun hHeld => ?_); refine with_tabW laws_FnActs.tab12 laws_FnActs.bits12 (fun HT_ HW_ => ?_)
     generalize wr.drew = w78 at HO_4 HO_6 HO_501000 HO_506000 HO_511000 HO_513000 BK500 BK505 BK510 BK512 HB hx513_0 hx513_1 hx513_2 hx513_3 hHeld ⊢
     refine pv_ 1 61 ?_
     refine pv_ 2 62 ?_
     refine pv_ 3 63 ?_
     refine tv_ 0 60 hHeld ?_
     refine tv_ 4 64 hHeld ?_
     refine join_ (σ := Value × Nat) 2 #[true, true, true, true, true, true, true, true, true, true, false, false] (fun s_ => [(65, .tuple #[.agg #[s_.1], .bool true]), (13, .pointer (some ⟨s_.2, 0, none⟩)), (59, .tuple #[.agg #[s_.1], .bool true]), (66, .agg #[s_.1]), (67, .bool true)]) (fun s_ w' => (w'.cell? ⟨gb512, 0, none⟩ = some (.slice Ao77 x513000_2.length co77) ∧ w'.cell? (ad513.add ((x12_2).toNat * 4)) = some (.int .i64 ((rd_T35 t493 x12_2).f0)) ∧ w'.cell? ⟨(ad513.add ((x12_2).toNat * 4)).block, (ad513.add ((x12_2).toNat * 4)).off + 1, none⟩ = some (.string ((rd_T35 t493 x12_2).f1)) ∧ w'.cell? ⟨(ad513.add ((x12_2).toNat * 4)).block, (ad513.add ((x12_2).toNat * 4)).off + 2, none⟩ = some (.string ((rd_T35 t493 x12_2).f2)) ∧ w'.cell? ⟨(ad513.add ((x12_2).toNat * 4)).block, (ad513.add ((x12_2).toNat * 4)).off + 3, none⟩ = some (.string ((rd_T35 t493 x12_2).f3))) ∧ (Kd.R k76 76 w' w.heap.size (fun k_ => some k_ ≠ (.slice Ao10 t490.length co10 : Value).ownBlock ∧ some k_ ≠ (.slice Ao15 t501.length co15 : Value).ownBlock ∧ some k_ ≠ (.slice Ao21 t506.length co21 : Value).ownBlock ∧ some k_ ≠ (.slice Ao77 x513000_2.length co77 : Value).ownBlock) s_.1 t514) ∧ (Kd.R k35 35 w' w.heap.size (fun _ => True) (.slice (some ad513) t493.length co12) t493) ∧ (Kd.R k76 76 w' w.heap.size (fun k_ => some k_ ≠ (s_.1 : Value).ownBlock ∧ some k_ ≠ (.slice Ao15 t501.length co15 : Value).ownBlock ∧ some k_ ≠ (.slice Ao21 t506.length co21 : Value).ownBlock) (.slice Ao10 t490.length co10) t490) ∧ (Kd.R k76 76 w' w.heap.size (fun k_ => some k_ ≠ (s_.1 : Value).ownBlock ∧ some k_ ≠ (.slice Ao10 t490.length co10 : Value).ownBlock ∧ some k_ ≠ (.slice Ao21 t506.length co21 : Value).ownBlock ∧ some k_ ≠ (.slice Ao77 x513000_2.length co77 : Value).ownBlock) (.slice Ao15 t501.length co15) t501) ∧ (Kd.R k76 76 w' w.heap.size (fun k_ => some k_ ≠ (s_.1 : Value).ownBlock ∧ some k_ ≠ (.slice Ao10 t490.length co10 : Value).ownBlock ∧ some k_ ≠ (.slice Ao15 t501.length co15 : Value).ownBlock ∧ some k_ ≠ (.slice Ao77 x513000_2.length co77 : Value).ownBlock) (.slice Ao21 t506.length co21) t506) ∧ (Kd.R k76 76 w' w.heap.size (fun k_ => some k_ ≠ (s_.1 : Value).ownBlock ∧ some k_ ≠ (.slice Ao15 t501.length co15 : Value).ownBlock ∧ some k_ ≠ (.slice Ao21 t506.length co21 : Value).ownBlock) (.slice Ao77 x513000_2.length co77) x513000_2) ∧ (Kd.R (Kd.int .i64) 3 w' w.heap.size (fun _ => True) v498 t497) ∧ (w'.heap[gb500]? = some (.cells #[.slice Ao10 t490.length co10] 31 (0, 0))) ∧ (w'.heap[gb505]? = some (.cells #[.slice Ao15 t501.length co15] 31 (0, 0))) ∧ (w'.heap[gb510]? = some (.cells #[.slice Ao21 t506.length co21] 31 (0, 0))) ∧ (w'.heap[gb512]? = some (.cells #[.slice Ao77 x513000_2.length co77] 31 (0, 0))) ∧ (w'.heap[s_.2]? = some (.cells #[.slice none 0 0] 31 (0, 0))) ∧ (w.heap.size ≤ s_.2) ∧ (w.heap.size ≤ s_.2) ∧ (gb500 ≠ s_.2) ∧ (s_.2 ≠ gb500) ∧ (gb505 ≠ s_.2) ∧ (s_.2 ≠ gb505) ∧ (gb510 ≠ s_.2) ∧ (s_.2 ≠ gb510) ∧ (gb512 ≠ s_.2) ∧ (s_.2 ≠ gb512) ∧ (Below w.heap.size w w')) ?_ ?_
     rotate_left
     ·intro hCont
      refine two_ (i := 5) (j := 9) (Ni := some 65) (Nj := some 13) #[true, true, true, true, true, true, false, false, false, false, false, false] #[true, true, true, true, true, false, false, false, false, true, false, false] rfl rfl rfl rfl (two_of HT_.out (by kernel_rfl)) (by decide) (by decide) (fun K hK => ?_) (fun K hK => ?_)
      rotate_left
      ·skip
       refine box_step ?hg (N := 13) ?hd (cs := #[.slice none 0 0]) (t := 31) ?hr ?_; (case hd => rfl); (case hg => rfl); (case hr => first | (go_simp; done) | (go_simp; rfl))
       intro gb518 hg w79 hbox hb
       have HS1_ := (hb.cell (World.block_lt_of_cell? _ _ (hHeld.2.1))).trans (hHeld.2.1)
       have HS2_ := (hb.cell (World.block_lt_of_cell? _ _ (hHeld.2.2.1))).trans (hHeld.2.2.1)
       have HS3_ := (hb.cell (World.block_lt_of_cell? _ _ (hHeld.2.2.2.1))).trans (hHeld.2.2.2.1)
       have HS4_ := (hb.cell (World.block_lt_of_cell? _ _ (hHeld.2.2.2.2))).trans (hHeld.2.2.2.2)
       have n11_ := mk_ (hbox)
       have n12_ : Aside0 (w.heap.size ≤ gb518) := bz_ hg
       have n13_ : Aside0 (w.heap.size ≤ gb518) := bz_ hg
       have n14_ : Aside0 (gb500 ≠ gb518) := bl_ BK500 hg
       have n15_ : Aside0 (gb518 ≠ gb500) := bg_ BK500 hg
       have n16_ : Aside0 (gb505 ≠ gb518) := bl_ BK505 hg
       have n17_ : Aside0 (gb518 ≠ gb505) := bg_ BK505 hg
       have n18_ : Aside0 (gb510 ≠ gb518) := bl_ BK510 hg
       have n19_ : Aside0 (gb518 ≠ gb510) := bg_ BK510 hg
       have n20_ : Aside0 (gb512 ≠ gb518) := bl_ BK512 hg
       have n21_ : Aside0 (gb518 ≠ gb512) := bg_ BK512 hg
       have BK518 := n11_; have GW518 := n12_; have GE518 := n13_; have NB500_518 := n14_; have NB518_500 := n15_; have NB505_518 := n16_; have NB518_505 := n17_; have NB510_518 := n18_; have NB518_510 := n19_; have NB512_518 := n20_; have NB518_512 := n21_; clear n11_ n12_ n13_ n14_ n15_ n16_ n17_ n18_ n19_ n20_ n21_; replace HO_4 := rb_ HO_4 hb; replace HO_6 := rb_ HO_6 hb; replace HO_501000 := rb_ HO_501000 hb; replace HO_506000 := rb_ HO_506000 hb; replace HO_511000 := rb_ HO_511000 hb; replace HO_513000 := rb_ HO_513000 hb; replace BK500 := bb_ BK500 hb; replace BK505 := bb_ BK505 hb; replace BK510 := bb_ BK510 hb; replace BK512 := bb_ BK512 hb; replace HB := bs_ HB hb; clear hb hbox hg
       refine hK.out _ _ ⟨bc_ BK512 0, HS1_, HS2_, HS3_, HS4_⟩ (fun hHeld => ?_)
       clear hK K
       refine norm_ (a' := ?_) ?_ ?_
       rotate_left
       ·show Act.put _ (some 13) _ = _
        simp only [Act.put, sia_, scz_, scs_, i64_w, i32_w]
        rfl
       refine one_ (i := 5) (N := some 65) #[true, true, true, true, true, true, false, false, false, true, false, false] rfl rfl (one_of HT_.out (by kernel_rfl)) (by decide) (fun K hK => ?_)
       refine goes_ Try.func13 (by kernel_rfl) rfl #[.agg #[.slice Ao77 x513000_2.length co77], .agg #[.int .i64 ((rd_T35 t493 x12_2).f0), .string ((rd_T35 t493 x12_2).f1), .string ((rd_T35 t493 x12_2).f2), .string ((rd_T35 t493 x12_2).f3)]] (by rfl) rfl rfl ga_ ?_
       with_reducible refine (impl_DoAct.calls k2 _ _ x513000_2 ((rd_T35 t493 x12_2).f0) ((rd_T35 t493 x12_2).f1) ((rd_T35 t493 x12_2).f2) ((rd_T35 t493 x12_2).f3) t514 true _ ?side1 ?side2 A45.out).mono ?_
       (case side1 => exact cr_ HO_513000)
       (case side2 => exact (Kd.R_reads' HO_513000.out).2.1)
       rintro e w80 ⟨v515, rfl, ho0, hb⟩
       have HS1_ := (hb.cell (World.block_lt_of_cell? _ _ (hHeld.2.1))).trans (hHeld.2.1)
       have HS2_ := (hb.cell (World.block_lt_of_cell? _ _ (hHeld.2.2.1))).trans (hHeld.2.2.1)
       have HS3_ := (hb.cell (World.block_lt_of_cell? _ _ (hHeld.2.2.2.1))).trans (hHeld.2.2.2.1)
       have HS4_ := (hb.cell (World.block_lt_of_cell? _ _ (hHeld.2.2.2.2))).trans (hHeld.2.2.2.2)
       refine ⟨_, rfl, ?_⟩
       have n2_ := mk_ (Kd.R_elder' (rp_ HO_501000) (Kd.R_base ho0) hb)
       have n3_ := mk_ (Kd.R_elder' (rp_ HO_506000) (Kd.R_base ho0) hb)
       have n4_ := mk_ (Kd.R_elder' (rp_ HO_511000) (Kd.R_base ho0) hb)
       have n5_ := mk_ (Kd.R_elder' (rp_ HO_513000) (Kd.R_base ho0) hb)
       have n6_ := mk_ (Kd.R_lower (Kd.R_new' (Kd.R_new' (Kd.R_new' (Kd.R_new' ho0 (Kd.R_lt (rp_ HO_501000))) (Kd.R_lt (rp_ HO_506000))) (Kd.R_lt (rp_ HO_511000))) (Kd.R_lt (rp_ HO_513000))) (below_size (bw_ HB)))
       clear HO_501000; clear HO_506000; clear HO_511000; clear HO_513000; have HO_501000 := n2_; have HO_506000 := n3_; have HO_511000 := n4_; have HO_513000 := n5_; have HO516 := n6_; clear n2_ n3_ n4_ n5_ n6_; replace HO_4 := rb_ HO_4 hb; replace HO_6 := rb_ HO_6 hb; replace BK500 := bb_ BK500 hb; replace BK505 := bb_ BK505 hb; replace BK510 := bb_ BK510 hb; replace BK512 := bb_ BK512 hb; replace BK518 := bb_ BK518 hb; replace HB := bs_ HB hb; (try clear hb); (try clear hb2); (try clear hk); (try clear hi); (try clear ho0)
       refine hK.out _ _ ⟨bc_ BK512 0, HS1_, HS2_, HS3_, HS4_⟩ (fun hHeld => ?_)
       clear hK K
       refine norm_ (a' := ?_) ?_ ?_
       rotate_left
       ·show Act.put _ (some 65) _ = _
        simp only [Act.put, sia_, scz_, scs_, i64_w, i32_w]
        rfl
       refine pv_ 6 59 ?_
       refine pv_ 7 66 ?_
       refine pv_ 8 67 ?_
       exact norm_ (by simp only [putAll, Act.put, sia_, scz_, scs_]) (hCont (v515, gb518) _ ⟨hHeld, (rq_ (Kd.R_mono HO516.out (fun _ hk => ⟨hk.1.1.1.2, ⟨hk.1.1.2, ⟨hk.1.2, hk.2⟩⟩⟩))), (rp_ HO_4), (rq_ (Kd.R_mono HO_501000.out (fun _ hk => ⟨hk.2, ⟨hk.1.1, hk.1.2⟩⟩))), (rq_ (Kd.R_mono HO_506000.out (fun _ hk => ⟨hk.2, ⟨hk.1.1, ⟨hk.1.2.1, hk.1.2.2⟩⟩⟩))), (rq_ (Kd.R_mono HO_511000.out (fun _ hk => ⟨hk.2, ⟨hk.1.1, ⟨hk.1.2.1, hk.1.2.2⟩⟩⟩))), (rq_ (Kd.R_mono HO_513000.out (fun _ hk => ⟨hk.2, ⟨hk.1.1, hk.1.2⟩⟩))), (rp_ HO_6), (bp_ BK500), (bp_ BK505), (bp_ BK510), (bp_ BK512), (bp_ BK518), GW518.out, GE518.out, NB500_518.out, NB518_500.out, NB505_518.out, NB518_505.out, NB510_518.out, NB518_510.out, NB512_518.out, NB518_512.out, (bw_ HB)⟩)
      skip
      refine goes_ Try.func13 (by kernel_rfl) rfl #[.agg #[.slice Ao77 x513000_2.length co77], .agg #[.int .i64 ((rd_T35 t493 x12_2).f0), .string ((rd_T35 t493 x12_2).f1), .string ((rd_T35 t493 x12_2).f2), .string ((rd_T35 t493 x12_2).f3)]] (by rfl) rfl rfl ga_ ?_
      with_reducible refine (impl_DoAct.calls k2 _ _ x513000_2 ((rd_T35 t493 x12_2).f0) ((rd_T35 t493 x12_2).f1) ((rd_T35 t493 x12_2).f2) ((rd_T35 t493 x12_2).f3) t514 true _ ?side1 ?side2 A45.out).mono ?_
      (case side1 => exact cr_ HO_513000)
      (case side2 => exact (Kd.R_reads' HO_513000.out).2.1)
      rintro e w79 ⟨v515, rfl, ho0, hb⟩
      have HS1_ := (hb.cell (World.block_lt_of_cell? _ _ (hHeld.2.1))).trans (hHeld.2.1)
      have HS2_ := (hb.cell (World.block_lt_of_cell? _ _ (hHeld.2.2.1))).trans (hHeld.2.2.1)
      have HS3_ := (hb.cell (World.block_lt_of_cell? _ _ (hHeld.2.2.2.1))).trans (hHeld.2.2.2.1)
      have HS4_ := (hb.cell (World.block_lt_of_cell? _ _ (hHeld.2.2.2.2))).trans (hHeld.2.2.2.2)
      refine ⟨_, rfl, ?_⟩
      have n2_ := mk_ (Kd.R_elder' (rp_ HO_501000) (Kd.R_base ho0) hb)
      have n3_ := mk_ (Kd.R_elder' (rp_ HO_506000) (Kd.R_base ho0) hb)
      have n4_ := mk_ (Kd.R_elder' (rp_ HO_511000) (Kd.R_base ho0) hb)
      have n5_ := mk_ (Kd.R_elder' (rp_ HO_513000) (Kd.R_base ho0) hb)
      have n6_ := mk_ (Kd.R_lower (Kd.R_new' (Kd.R_new' (Kd.R_new' (Kd.R_new' ho0 (Kd.R_lt (rp_ HO_501000))) (Kd.R_lt (rp_ HO_506000))) (Kd.R_lt (rp_ HO_511000))) (Kd.R_lt (rp_ HO_513000))) (below_size (bw_ HB)))
      clear HO_501000; clear HO_506000; clear HO_511000; clear HO_513000; have HO_501000 := n2_; have HO_506000 := n3_; have HO_511000 := n4_; have HO_513000 := n5_; have HO516 := n6_; clear n2_ n3_ n4_ n5_ n6_; replace HO_4 := rb_ HO_4 hb; replace HO_6 := rb_ HO_6 hb; replace BK500 := bb_ BK500 hb; replace BK505 := bb_ BK505 hb; replace BK510 := bb_ BK510 hb; replace BK512 := bb_ BK512 hb; replace HB := bs_ HB hb; (try clear hb); (try clear hb2); (try clear hk); (try clear hi); (try clear ho0)
      refine hK.out _ _ ⟨bc_ BK512 0, HS1_, HS2_, HS3_, HS4_⟩ (fun hHeld => ?_)
      clear hK K
      refine norm_ (a' := ?_) ?_ ?_
      rotate_left
      ·show Act.put _ (some 65) _ = _
       simp only [Act.put, sia_, scz_, scs_, i64_w, i32_w]
       rfl
      refine pv_ 6 59 ?_
      refine pv_ 7 66 ?_
      refine pv_ 8 67 ?_
      refine one_ (i := 9) (N := some 13) #[true, true, true, true, true, true, true, true, true, true, false, false] rfl rfl (one_of HT_.out (by kernel_rfl)) (by decide) (fun K hK => ?_)
      refine box_step ?hg (N := 13) ?hd (cs := #[.slice none 0 0]) (t := 31) ?hr ?_; (case hd => rfl); (case hg => rfl); (case hr => first | (go_simp; done) | (go_simp; rfl))
      intro gb518 hg w80 hbox hb
      have HS1_ := (hb.cell (World.block_lt_of_cell? _ _ (hHeld.2.1))).trans (hHeld.2.1)
      have HS2_ := (hb.cell (World.block_lt_of_cell? _ _ (hHeld.2.2.1))).trans (hHeld.2.2.1)
      have HS3_ := (hb.cell (World.block_lt_of_cell? _ _ (hHeld.2.2.2.1))).trans (hHeld.2.2.2.1)
      have HS4_ := (hb.cell (World.block_lt_of_cell? _ _ (hHeld.2.2.2.2))).trans (hHeld.2.2.2.2)
      have n12_ := mk_ (hbox)
      have n13_ : Aside0 (w.heap.size ≤ gb518) := bz_ hg
      have n14_ : Aside0 (w.heap.size ≤ gb518) := bz_ hg
      have n15_ : Aside0 (gb500 ≠ gb518) := bl_ BK500 hg
      have n16_ : Aside0 (gb518 ≠ gb500) := bg_ BK500 hg
      have n17_ : Aside0 (gb505 ≠ gb518) := bl_ BK505 hg
      have n18_ : Aside0 (gb518 ≠ gb505) := bg_ BK505 hg
      have n19_ : Aside0 (gb510 ≠ gb518) := bl_ BK510 hg
      have n20_ : Aside0 (gb518 ≠ gb510) := bg_ BK510 hg
      have n21_ : Aside0 (gb512 ≠ gb518) := bl_ BK512 hg
      have n22_ : Aside0 (gb518 ≠ gb512) := bg_ BK512 hg
      have BK518 := n12_; have GW518 := n13_; have GE518 := n14_; have NB500_518 := n15_; have NB518_500 := n16_; have NB505_518 := n17_; have NB518_505 := n18_; have NB510_518 := n19_; have NB518_510 := n20_; have NB512_518 := n21_; have NB518_512 := n22_; clear n12_ n13_ n14_ n15_ n16_ n17_ n18_ n19_ n20_ n21_ n22_; replace HO_4 := rb_ HO_4 hb; replace HO_6 := rb_ HO_6 hb; replace HO_501000 := rb_ HO_501000 hb; replace HO_506000 := rb_ HO_506000 hb; replace HO_511000 := rb_ HO_511000 hb; replace HO_513000 := rb_ HO_513000 hb; replace HO516 := rb_ HO516 hb; replace BK500 := bb_ BK500 hb; replace BK505 := bb_ BK505 hb; replace BK510 := bb_ BK510 hb; replace BK512 := bb_ BK512 hb; replace HB := bs_ HB hb; clear hb hbox hg
      refine hK.out _ _ ⟨bc_ BK512 0, HS1_, HS2_, HS3_, HS4_⟩ (fun hHeld => ?_)
      clear hK K
      refine norm_ (a' := ?_) ?_ ?_
      rotate_left
      ·show Act.put _ (some 13) _ = _
       simp only [Act.put, sia_, scz_, scs_, i64_w, i32_w]
       rfl
      exact norm_ (by simp only [putAll, Act.put, sia_, scz_, scs_]) (hCont (v515, gb518) _ ⟨hHeld, (rq_ (Kd.R_mono HO516.out (fun _ hk => ⟨hk.1.1.1.2, ⟨hk.1.1.2, ⟨hk.1.2, hk.2⟩⟩⟩))), (rp_ HO_4), (rq_ (Kd.R_mono HO_501000.out (fun _ hk => ⟨hk.2, ⟨hk.1.1, hk.1.2⟩⟩))), (rq_ (Kd.R_mono HO_506000.out (fun _ hk => ⟨hk.2, ⟨hk.1.1, ⟨hk.1.2.1, hk.1.2.2⟩⟩⟩))), (rq_ (Kd.R_mono HO_511000.out (fun _ hk => ⟨hk.2, ⟨hk.1.1, ⟨hk.1.2.1, hk.1.2.2⟩⟩⟩))), (rq_ (Kd.R_mono HO_513000.out (fun _ hk => ⟨hk.2, ⟨hk.1.1, hk.1.2⟩⟩))), (rp_ HO_6), (bp_ BK500), (bp_ BK505), (bp_ BK510), (bp_ BK512), (bp_ BK518), GW518.out, GE518.out, NB500_518.out, NB518_500.out, NB505_518.out, NB518_505.out, NB510_518.out, NB518_510.out, NB512_518.out, NB518_512.out, (bw_ HB)⟩)
     rintro ⟨v515, gb518⟩ w81 ⟨hS_, h0_, h1_, h2_, h3_, h4_, h5_, h6_, h7_, h8_, h9_, h10_, h11_, h12_, h13_, h14_, h15_, h16_, h17_, h18_, h19_, h20_, h21_, h22_⟩
     have n0_ : Aside0 (Kd.R k76 76 w81 w.heap.size (fun k_ => some k_ ≠ (.slice Ao10 t490.length co10 : Value).ownBlock ∧ some k_ ≠ (.slice Ao15 t501.length co15 : Value).ownBlock ∧ some k_ ≠ (.slice Ao21 t506.length co21 : Value).ownBlock ∧ some k_ ≠ (.slice Ao77 x513000_2.length co77 : Value).ownBlock) v515 t514) := ⟨h0_⟩
     have n1_ : Aside0 (Kd.R k35 35 w81 w.heap.size (fun _ => True) (.slice (some ad513) t493.length co12) t493) := ⟨h1_⟩
     have n2_ : Aside0 (Kd.R k76 76 w81 w.heap.size (fun k_ => some k_ ≠ (v515 : Value).ownBlock ∧ some k_ ≠ (.slice Ao15 t501.length co15 : Value).ownBlock ∧ some k_ ≠ (.slice Ao21 t506.length co21 : Value).ownBlock) (.slice Ao10 t490.length co10) t490) := ⟨h2_⟩
     have n3_ : Aside0 (Kd.R k76 76 w81 w.heap.size (fun k_ => some k_ ≠ (v515 : Value).ownBlock ∧ some k_ ≠ (.slice Ao10 t490.length co10 : Value).ownBlock ∧ some k_ ≠ (.slice Ao21 t506.length co21 : Value).ownBlock ∧ some k_ ≠ (.slice Ao77 x513000_2.length co77 : Value).ownBlock) (.slice Ao15 t501.length co15) t501) := ⟨h3_⟩
     have n4_ : Aside0 (Kd.R k76 76 w81 w.heap.size (fun k_ => some k_ ≠ (v515 : Value).ownBlock ∧ some k_ ≠ (.slice Ao10 t490.length co10 : Value).ownBlock ∧ some k_ ≠ (.slice Ao15 t501.length co15 : Value).ownBlock ∧ some k_ ≠ (.slice Ao77 x513000_2.length co77 : Value).ownBlock) (.slice Ao21 t506.length co21) t506) := ⟨h4_⟩
     have n5_ : Aside0 (Kd.R k76 76 w81 w.heap.size (fun k_ => some k_ ≠ (v515 : Value).ownBlock ∧ some k_ ≠ (.slice Ao15 t501.length co15 : Value).ownBlock ∧ some k_ ≠ (.slice Ao21 t506.length co21 : Value).ownBlock) (.slice Ao77 x513000_2.length co77) x513000_2) := ⟨h5_⟩
     have n6_ : Aside0 (Kd.R (Kd.int .i64) 3 w81 w.heap.size (fun _ => True) v498 t497) := ⟨h6_⟩
     have n7_ : Aside0 (w81.heap[gb500]? = some (.cells #[.slice Ao10 t490.length co10] 31 (0, 0))) := ⟨h7_⟩
     have n8_ : Aside0 (w81.heap[gb505]? = some (.cells #[.slice Ao15 t501.length co15] 31 (0, 0))) := ⟨h8_⟩
     have n9_ : Aside0 (w81.heap[gb510]? = some (.cells #[.slice Ao21 t506.length co21] 31 (0, 0))) := ⟨h9_⟩
     have n10_ : Aside0 (w81.heap[gb512]? = some (.cells #[.slice Ao77 x513000_2.length co77] 31 (0, 0))) := ⟨h10_⟩
     have n11_ : Aside0 (w81.heap[gb518]? = some (.cells #[.slice none 0 0] 31 (0, 0))) := ⟨h11_⟩
     have n12_ : Aside0 (w.heap.size ≤ gb518) := ⟨h12_⟩
     have n13_ : Aside0 (w.heap.size ≤ gb518) := ⟨h13_⟩
     have n14_ : Aside0 (gb500 ≠ gb518) := ⟨h14_⟩
     have n15_ : Aside0 (gb518 ≠ gb500) := ⟨h15_⟩
     have n16_ : Aside0 (gb505 ≠ gb518) := ⟨h16_⟩
     have n17_ : Aside0 (gb518 ≠ gb505) := ⟨h17_⟩
     have n18_ : Aside0 (gb510 ≠ gb518) := ⟨h18_⟩
     have n19_ : Aside0 (gb518 ≠ gb510) := ⟨h19_⟩
     have n20_ : Aside0 (gb512 ≠ gb518) := ⟨h20_⟩
     have n21_ : Aside0 (gb518 ≠ gb512) := ⟨h21_⟩
     have n22_ : Aside0 (Below w.heap.size w w81) := ⟨h22_⟩
     clear HO_4; clear HO_6; clear HO_501000; clear HO_506000; clear HO_511000; clear HO_513000; clear BK500; clear BK505; clear BK510; clear BK512; clear HB; clear h0_ h1_ h2_ h3_ h4_ h5_ h6_ h7_ h8_ h9_ h10_ h11_ h12_ h13_ h14_ h15_ h16_ h17_ h18_ h19_ h20_ h21_ h22_; have HO516 := n0_; have HO_4 := n1_; have HO_501000 := n2_; have HO_506000 := n3_; have HO_511000 := n4_; have HO_513000 := n5_; have HO_6 := n6_; have BK500 := n7_; have BK505 := n8_; have BK510 := n9_; have BK512 := n10_; have BK518 := n11_; have GW518 := n12_; have GE518 := n13_; have NB500_518 := n14_; have NB518_500 := n15_; have NB505_518 := n16_; have NB518_505 := n17_; have NB510_518 := n18_; have NB518_510 := n19_; have NB512_518 := n20_; have NB518_512 := n21_; have HB := n22_; clear n0_ n1_ n2_ n3_ n4_ n5_ n6_ n7_ n8_ n9_ n10_ n11_ n12_ n13_ n14_ n15_ n16_ n17_ n18_ n19_ n20_ n21_ n22_
     have hHeld : w81.cell? ⟨gb512, 0, none⟩ = some (.slice Ao77 x513000_2.length co77) ∧ w81.cell? (ad513.add ((x12_2).toNat * 4)) = some (.int .i64 ((rd_T35 t493 x12_2).f0)) ∧ w81.cell? ⟨(ad513.add ((x12_2).toNat * 4)).block, (ad513.add ((x12_2).toNat * 4)).off + 1, none⟩ = some (.string ((rd_T35 t493 x12_2).f1)) ∧ w81.cell? ⟨(ad513.add ((x12_2).toNat * 4)).block, (ad513.add ((x12_2).toNat * 4)).off + 2, none⟩ = some (.string ((rd_T35 t493 x12_2).f2)) ∧ w81.cell? ⟨(ad513.add ((x12_2).toNat * 4)).block, (ad513.add ((x12_2).toNat * 4)).off + 3, none⟩ = some (.string ((rd_T35 t493 x12_2).f3)) := hS_
     obtain ⟨Ao82, co82, eo82⟩ := Kd.R_slice HO516.out
     (first | subst eo82 | (injection eo82 with f1_ f2_ f3_; have f4_ := f1_.symm; have f5_ := f3_.symm; clear f1_ f2_ f3_; subst f4_; subst f5_))
     refine norm_ (a' := ?_) ?_ ?_
     rotate_left
     ·simp only [putAll, Act.put, sia_, scz_, scs_]
      rfl
     refine one_ (i := 10) (N := none) #[true, true, true, true, true, true, true, true, true, true, true, false] rfl rfl (one_of HT_.out (by kernel_rfl)) (by decide) (fun K hK => ?_)
     have hs83 : w81.cell? ⟨gb518, 0, none⟩ = some (.slice none 0 0) := bc_ BK518 0
     have hfs83 := blk_frozen BK518.out 0
     have hns83_0 := NB500_518.out
     have hns83_1 := NB505_518.out
     have hns83_2 := NB510_518.out
     have hns83_3 := NB512_518.out
     have hms83_0 := NB518_500.out
     have hms83_1 := NB518_505.out
     have hms83_2 := NB518_510.out
     have hms83_3 := NB518_512.out
     refine skip_ (w1 := ?_) (by rfl) rfl ?_ ?_
     rotate_left
     ·go_simp
      rfl
     refine hK.out _ _ ⟨((cell_far (p := ⟨gb518, _, none⟩) NB512_518.out _).trans (hHeld.1)), ((cell_far (p := ⟨gb518, _, none⟩) (by first | exact Kd.own_blk (Kd.R_ne HO_4.out BK518.out (by decide)) | (rw [add_block]; exact Kd.own_blk (Kd.R_ne HO_4.out BK518.out (by decide))) | (show (Addr.add _ _).block ≠ _; rw [add_block]; exact Kd.own_blk (Kd.R_ne HO_4.out BK518.out (by decide))) | (dsimp only; exact Kd.own_blk (Kd.R_ne HO_4.out BK518.out (by decide)))) _).trans (hHeld.2.1)), ((cell_far (p := ⟨gb518, _, none⟩) (by first | exact Kd.own_blk (Kd.R_ne HO_4.out BK518.out (by decide)) | (rw [add_block]; exact Kd.own_blk (Kd.R_ne HO_4.out BK518.out (by decide))) | (show (Addr.add _ _).block ≠ _; rw [add_block]; exact Kd.own_blk (Kd.R_ne HO_4.out BK518.out (by decide))) | (dsimp only; exact Kd.own_blk (Kd.R_ne HO_4.out BK518.out (by decide)))) _).trans (hHeld.2.2.1)), ((cell_far (p := ⟨gb518, _, none⟩) (by first | exact Kd.own_blk (Kd.R_ne HO_4.out BK518.out (by decide)) | (rw [add_block]; exact Kd.own_blk (Kd.R_ne HO_4.out BK518.out (by decide))) | (show (Addr.add _ _).block ≠ _; rw [add_block]; exact Kd.own_blk (Kd.R_ne HO_4.out BK518.out (by decide))) | (dsimp only; exact Kd.own_blk (Kd.R_ne HO_4.out BK518.out (by decide)))) _).trans (hHeld.2.2.2.1)), ((cell_far (p := ⟨gb518, _, none⟩) (by first | exact Kd.own_blk (Kd.R_ne HO_4.out BK518.out (by decide)) | (rw [add_block]; exact Kd.own_blk (Kd.R_ne HO_4.out BK518.out (by decide))) | (show (Addr.add _ _).block ≠ _; rw [add_block]; exact Kd.own_blk (Kd.R_ne HO_4.out BK518.out (by decide))) | (dsimp only; exact Kd.own_blk (Kd.R_ne HO_4.out BK518.out (by decide)))) _).trans (hHeld.2.2.2.2))⟩ (fun hHeld => ?_)
     clear hK K
     refine pv_ 11 14 ?_
     refine done_ (done_of HT_.out (by kernel_rfl)) ?_
     try go_wp2
     have n0_ : Aside0 (Kd.R k35 35 (w81.setCell ⟨gb518, 0, none⟩ (.slice Ao82 t514.length co82)) w.heap.size (fun _ => True) (.slice (some ad513) t493.length co12) t493) := ⟨rq_ (rt_ HO_4 BK518 0 (.slice Ao82 t514.length co82))⟩
     have n1_ : Aside0 (Kd.R (Kd.int .i64) 3 (w81.setCell ⟨gb518, 0, none⟩ (.slice Ao82 t514.length co82)) w.heap.size (fun _ => True) v498 t497) := ⟨rq_ (rt_ HO_6 BK518 0 (.slice Ao82 t514.length co82))⟩
     have n2_ : Aside0 (Kd.R k76 76 (w81.setCell ⟨gb518, 0, none⟩ (.slice Ao82 t514.length co82)) w.heap.size (fun k_ => some k_ ≠ (.slice Ao15 t501.length co15 : Value).ownBlock ∧ some k_ ≠ (.slice Ao21 t506.length co21 : Value).ownBlock ∧ some k_ ≠ (.slice Ao82 t514.length co82 : Value).ownBlock) (.slice Ao10 t490.length co10) t490) := ⟨rq_ (Kd.R_mono (Kd.R_far (p := ⟨gb518, 0, none⟩) (Kd.R_types HO_501000.out BK518.out (by decide)) (fun _ hk => hk.2) (.slice Ao82 t514.length co82)) (fun _ hk => ⟨hk.1.2.1, ⟨hk.1.2.2, hk.1.1⟩⟩))⟩
     have n3_ : Aside0 (Kd.R k76 76 (w81.setCell ⟨gb518, 0, none⟩ (.slice Ao82 t514.length co82)) w.heap.size (fun k_ => some k_ ≠ (.slice Ao10 t490.length co10 : Value).ownBlock ∧ some k_ ≠ (.slice Ao21 t506.length co21 : Value).ownBlock ∧ some k_ ≠ (.slice Ao77 x513000_2.length co77 : Value).ownBlock ∧ some k_ ≠ (.slice Ao82 t514.length co82 : Value).ownBlock) (.slice Ao15 t501.length co15) t501) := ⟨rq_ (Kd.R_mono (Kd.R_far (p := ⟨gb518, 0, none⟩) (Kd.R_types HO_506000.out BK518.out (by decide)) (fun _ hk => hk.2) (.slice Ao82 t514.length co82)) (fun _ hk => ⟨hk.1.2.1, ⟨hk.1.2.2.1, ⟨hk.1.2.2.2, hk.1.1⟩⟩⟩))⟩
     have n4_ : Aside0 (Kd.R k76 76 (w81.setCell ⟨gb518, 0, none⟩ (.slice Ao82 t514.length co82)) w.heap.size (fun k_ => some k_ ≠ (.slice Ao10 t490.length co10 : Value).ownBlock ∧ some k_ ≠ (.slice Ao15 t501.length co15 : Value).ownBlock ∧ some k_ ≠ (.slice Ao77 x513000_2.length co77 : Value).ownBlock ∧ some k_ ≠ (.slice Ao82 t514.length co82 : Value).ownBlock) (.slice Ao21 t506.length co21) t506) := ⟨rq_ (Kd.R_mono (Kd.R_far (p := ⟨gb518, 0, none⟩) (Kd.R_types HO_511000.out BK518.out (by decide)) (fun _ hk => hk.2) (.slice Ao82 t514.length co82)) (fun _ hk => ⟨hk.1.2.1, ⟨hk.1.2.2.1, ⟨hk.1.2.2.2, hk.1.1⟩⟩⟩))⟩
     have n5_ : Aside0 (Kd.R k76 76 (w81.setCell ⟨gb518, 0, none⟩ (.slice Ao82 t514.length co82)) w.heap.size (fun k_ => some k_ ≠ (.slice Ao15 t501.length co15 : Value).ownBlock ∧ some k_ ≠ (.slice Ao21 t506.length co21 : Value).ownBlock ∧ some k_ ≠ (.slice Ao82 t514.length co82 : Value).ownBlock) (.slice Ao77 x513000_2.length co77) x513000_2) := ⟨rq_ (Kd.R_mono (Kd.R_far (p := ⟨gb518, 0, none⟩) (Kd.R_types HO_513000.out BK518.out (by decide)) (fun _ hk => hk.2) (.slice Ao82 t514.length co82)) (fun _ hk => ⟨hk.1.2.1, ⟨hk.1.2.2, hk.1.1⟩⟩))⟩
     have n6_ : Aside0 (Kd.R k76 76 (w81.setCell ⟨gb518, 0, none⟩ (.slice Ao82 t514.length co82)) w.heap.size (fun k_ => some k_ ≠ (.slice Ao10 t490.length co10 : Value).ownBlock ∧ some k_ ≠ (.slice Ao15 t501.length co15 : Value).ownBlock ∧ some k_ ≠ (.slice Ao21 t506.length co21 : Value).ownBlock ∧ some k_ ≠ (.slice Ao77 x513000_2.length co77 : Value).ownBlock) (.slice Ao82 t514.length co82) t514) := ⟨rq_ (Kd.R_mono (Kd.R_far (p := ⟨gb518, 0, none⟩) (Kd.R_types HO516.out BK518.out (by decide)) (fun _ hk => hk.2) (.slice Ao82 t514.length co82)) (fun _ hk => ⟨hk.1.1, ⟨hk.1.2.1, ⟨hk.1.2.2.1, hk.1.2.2.2⟩⟩⟩))⟩
     have n7_ : Aside0 ((w81.setCell ⟨gb518, 0, none⟩ (.slice Ao82 t514.length co82)).heap[gb500]? = some (.cells #[.slice Ao10 t490.length co10] 31 (0, 0))) := ⟨bf_⟩
     have n8_ : Aside0 ((w81.setCell ⟨gb518, 0, none⟩ (.slice Ao82 t514.length co82)).heap[gb505]? = some (.cells #[.slice Ao15 t501.length co15] 31 (0, 0))) := ⟨bf_⟩
     have n9_ : Aside0 ((w81.setCell ⟨gb518, 0, none⟩ (.slice Ao82 t514.length co82)).heap[gb510]? = some (.cells #[.slice Ao21 t506.length co21] 31 (0, 0))) := ⟨bf_⟩
     have n10_ : Aside0 ((w81.setCell ⟨gb518, 0, none⟩ (.slice Ao82 t514.length co82)).heap[gb512]? = some (.cells #[.slice Ao77 x513000_2.length co77] 31 (0, 0))) := ⟨bf_⟩
     have n11_ : Aside0 ((w81.setCell ⟨gb518, 0, none⟩ (.slice Ao82 t514.length co82)).heap[gb518]? = some (.cells #[.slice Ao82 t514.length co82] 31 (0, 0))) := ⟨bu_⟩
     have n12_ : Aside0 (Below w.heap.size w (w81.setCell ⟨gb518, 0, none⟩ (.slice Ao82 t514.length co82))) := ⟨bw_ HB⟩
     (try clear HO_4); (try clear HO_6); (try clear HO_501000); (try clear HO_506000); (try clear HO_511000); (try clear HO_513000); (try clear HO516); (try clear BK500); (try clear BK505); (try clear BK510); (try clear BK512); (try clear BK518); (try clear HB)
     generalize (w81.setCell ⟨gb518, 0, none⟩ (.slice Ao82 t514.length co82)) = w84 at n0_ n1_ n2_ n3_ n4_ n5_ n6_ n7_ n8_ n9_ n10_ n11_ n12_ ⊢
     have HO_4 := n0_; have HO_6 := n1_; have HO_501000 := n2_; have HO_506000 := n3_; have HO_511000 := n4_; have HO_513000 := n5_; have HO516 := n6_; have BK500 := n7_; have BK505 := n8_; have BK510 := n9_; have BK512 := n10_; have BK518 := n11_; have HB := n12_; clear n0_ n1_ n2_ n3_ n4_ n5_ n6_ n7_ n8_ n9_ n10_ n11_ n12_
     replace HO_4 := rd_ HO_4; replace HO_6 := rd_ HO_6; replace HO_501000 := rd_ HO_501000; replace HO_506000 := rd_ HO_506000; replace HO_511000 := rd_ HO_511000; replace HO_513000 := rd_ HO_513000; replace HO516 := rd_ HO516; replace BK500 := kd_ BK500; replace BK505 := kd_ BK505; replace BK510 := kd_ BK510; replace BK512 := kd_ BK512; replace BK518 := kd_ BK518; replace HB := wd_ HB
     have p519 : 0 ≤ (x12_2 : Int) := od_
     have q519 : x12_2 < (t493.length : Int) := od_
     obtain ⟨ad519, e519, hx519_0, hx519_1, hx519_2, hx519_3⟩ := at_T35 (Kd.R_reads' HO_4.out).2.2 x12_2 p519 q519
     obtain rfl : ad513 = ad519 := (by injection e519)
     replace p519 := eq_true p519
     replace q519 := eq_true q519
     refine start_ (n := 12) (S := fun w' => w'.cell? ⟨gb512, 0, none⟩ = some (.slice Ao77 x513000_2.length co77) ∧ w'.cell? (ad513.add ((x12_2).toNat * 4)) = some (.int .i64 ((rd_T35 t493 x12_2).f0)) ∧ w'.cell? ⟨(ad513.add ((x12_2).toNat * 4)).block, (ad513.add ((x12_2).toNat * 4)).off + 1, none⟩ = some (.string ((rd_T35 t493 x12_2).f1)) ∧ w'.cell? ⟨(ad513.add ((x12_2).toNat * 4)).block, (ad513.add ((x12_2).toNat * 4)).off + 2, none⟩ = some (.string ((rd_T35 t493 x12_2).f2)) ∧ w'.cell? ⟨(ad513.add ((x12_2).toNat * 4)).block, (ad513.add ((x12_2).toNat * 4)).off + 3, none⟩ = some (.string ((rd_T35 t493 x12_2).f3))) (ds := []) #[false, false, false, false, false, false, false, false, false, false, false, false] (by kernel_rfl) rfl rfl ⟨bc_ BK512 0, hx519_0, hx519_1, hx519_2, hx519_3⟩ (fun hHeld => ?_); refine with_tabW laws_FnActs.tab15 laws_FnActs.bits15 (fun HT_ HW_ => ?_)
     generalize w84.drew = w85 at HO_4 HO_6 HO_501000 HO_506000 HO_511000 HO_513000 HO516 BK500 BK505 BK510 BK512 BK518 HB hx519_0 hx519_1 hx519_2 hx519_3 hHeld ⊢
     refine pv_ 1 72 ?_
     refine pv_ 2 73 ?_
     refine pv_ 3 74 ?_
     refine pv_ 4 75 ?_
     refine tv_ 0 71 hHeld ?_
     refine tv_ 5 76 hHeld ?_
     refine one_ (i := 6) (N := some 77) #[true, true, true, true, true, true, true, false, false, false, false, false] rfl rfl (one_of HT_.out (by kernel_rfl)) (by decide) (fun K hK => ?_)
     refine goes_ Try.func26 (by kernel_rfl) rfl #[.agg #[.slice Ao77 x513000_2.length co77], .string ((rd_T35 t493 x12_2).f1)] (by rfl) rfl rfl ga_ ?_
     with_reducible refine (impl_FileAt.calls _ _ x513000_2 ((rd_T35 t493 x12_2).f1) t520 t521 _ ?side1 ?side2 A47.out).mono ?_
     (case side1 => exact cr_ HO_513000)
     (case side2 => exact (Kd.R_reads' HO_513000.out).2.1)
     rintro e w86 ⟨rfl, hb⟩
     have HS1_ := (hb.cell (World.block_lt_of_cell? _ _ (hHeld.2.1))).trans (hHeld.2.1)
     have HS2_ := (hb.cell (World.block_lt_of_cell? _ _ (hHeld.2.2.1))).trans (hHeld.2.2.1)
     have HS3_ := (hb.cell (World.block_lt_of_cell? _ _ (hHeld.2.2.2.1))).trans (hHeld.2.2.2.1)
     have HS4_ := (hb.cell (World.block_lt_of_cell? _ _ (hHeld.2.2.2.2))).trans (hHeld.2.2.2.2)
     refine ⟨_, rfl, ?_⟩
     replace HO_4 := rb_ HO_4 hb; replace HO_6 := rb_ HO_6 hb; replace HO_501000 := rb_ HO_501000 hb; replace HO_506000 := rb_ HO_506000 hb; replace HO_511000 := rb_ HO_511000 hb; replace HO_513000 := rb_ HO_513000 hb; replace HO516 := rb_ HO516 hb; replace BK500 := bb_ BK500 hb; replace BK505 := bb_ BK505 hb; replace BK510 := bb_ BK510 hb; replace BK512 := bb_ BK512 hb; replace BK518 := bb_ BK518 hb; replace HB := bs_ HB hb; (try clear hb); (try clear hb2); (try clear hk); (try clear hi)
     refine hK.out _ _ ⟨bc_ BK512 0, HS1_, HS2_, HS3_, HS4_⟩ (fun hHeld => ?_)
     clear hK K
     refine norm_ (a' := ?_) ?_ ?_
     rotate_left
     ·show Act.put _ (some 77) _ = _
      simp only [Act.put, sia_, scz_, scs_, i64_w, i32_w]
      rfl
     refine pv_ 7 70 ?_
     refine pv_ 8 78 ?_
     refine pv_ 9 79 ?_
     refine pv_ 10 15 ?_
     refine pv_ 11 16 ?_
     refine done_ (done_of HT_.out (by kernel_rfl)) ?_
     try go_wp2
     replace HO_4 := rd_ HO_4; replace HO_6 := rd_ HO_6; replace HO_501000 := rd_ HO_501000; replace HO_506000 := rd_ HO_506000; replace HO_511000 := rd_ HO_511000; replace HO_513000 := rd_ HO_513000; replace HO516 := rd_ HO516; replace BK500 := kd_ BK500; replace BK505 := kd_ BK505; replace BK510 := kd_ BK510; replace BK512 := kd_ BK512; replace BK518 := kd_ BK518; replace HB := wd_ HB
     have p522 : 0 ≤ (x12_2 : Int) := od_
     have q522 : x12_2 < (t493.length : Int) := od_
     obtain ⟨ad522, e522, hx522_0, hx522_1, hx522_2, hx522_3⟩ := at_T35 (Kd.R_reads' HO_4.out).2.2 x12_2 p522 q522
     obtain rfl : ad513 = ad522 := (by injection e522)
     replace p522 := eq_true p522
     replace q522 := eq_true q522
     refine start_ (n := 12) (S := fun w' => w'.cell? ⟨gb518, 0, none⟩ = some (.slice Ao82 t514.length co82) ∧ w'.cell? (ad513.add ((x12_2).toNat * 4)) = some (.int .i64 ((rd_T35 t493 x12_2).f0)) ∧ w'.cell? ⟨(ad513.add ((x12_2).toNat * 4)).block, (ad513.add ((x12_2).toNat * 4)).off + 1, none⟩ = some (.string ((rd_T35 t493 x12_2).f1)) ∧ w'.cell? ⟨(ad513.add ((x12_2).toNat * 4)).block, (ad513.add ((x12_2).toNat * 4)).off + 2, none⟩ = some (.string ((rd_T35 t493 x12_2).f2)) ∧ w'.cell? ⟨(ad513.add ((x12_2).toNat * 4)).block, (ad513.add ((x12_2).toNat * 4)).off + 3, none⟩ = some (.string ((rd_T35 t493 x12_2).f3))) (ds := []) #[false, false, false, false, false, false, false, false, false, false, false, false] (by kernel_rfl) rfl rfl ⟨bc_ BK518 0, hx522_0, hx522_1, hx522_2, hx522_3⟩ (fun hHeld => ?_); refine with_tabW laws_FnActs.tab16 laws_FnActs.bits16 (fun HT_ HW_ => ?_)
     generalize w86.drew = w87 at HO_4 HO_6 HO_501000 HO_506000 HO_511000 HO_513000 HO516 BK500 BK505 BK510 BK512 BK518 HB hx522_0 hx522_1 hx522_2 hx522_3 hHeld ⊢
     refine pv_ 1 82 ?_
     refine pv_ 2 83 ?_
     refine pv_ 3 84 ?_
     refine pv_ 4 85 ?_
     refine tv_ 0 81 hHeld ?_
     refine tv_ 5 86 hHeld ?_
     refine one_ (i := 6) (N := some 87) #[true, true, true, true, true, true, true, false, false, false, false, false] rfl rfl (one_of HT_.out (by kernel_rfl)) (by decide) (fun K hK => ?_)
     refine goes_ Try.func26 (by kernel_rfl) rfl #[.agg #[.slice Ao82 t514.length co82], .string ((rd_T35 t493 x12_2).f1)] (by rfl) rfl rfl ga_ ?_
     with_reducible refine (impl_FileAt.calls _ _ t514 ((rd_T35 t493 x12_2).f1) t523 false _ ?side1 ?side2 A48.out).mono ?_
     (case side1 => exact cr_ HO516)
     (case side2 => exact (Kd.R_reads' HO516.out).2.1)
     rintro e w88 ⟨rfl, hb⟩
     have HS1_ := (hb.cell (World.block_lt_of_cell? _ _ (hHeld.2.1))).trans (hHeld.2.1)
     have HS2_ := (hb.cell (World.block_lt_of_cell? _ _ (hHeld.2.2.1))).trans (hHeld.2.2.1)
     have HS3_ := (hb.cell (World.block_lt_of_cell? _ _ (hHeld.2.2.2.1))).trans (hHeld.2.2.2.1)
     have HS4_ := (hb.cell (World.block_lt_of_cell? _ _ (hHeld.2.2.2.2))).trans (hHeld.2.2.2.2)
     refine ⟨_, rfl, ?_⟩
     replace HO_4 := rb_ HO_4 hb; replace HO_6 := rb_ HO_6 hb; replace HO_501000 := rb_ HO_501000 hb; replace HO_506000 := rb_ HO_506000 hb; replace HO_511000 := rb_ HO_511000 hb; replace HO_513000 := rb_ HO_513000 hb; replace HO516 := rb_ HO516 hb; replace BK500 := bb_ BK500 hb; replace BK505 := bb_ BK505 hb; replace BK510 := bb_ BK510 hb; replace BK512 := bb_ BK512 hb; replace BK518 := bb_ BK518 hb; replace HB := bs_ HB hb; (try clear hb); (try clear hb2); (try clear hk); (try clear hi)
     refine hK.out _ _ ⟨bc_ BK518 0, HS1_, HS2_, HS3_, HS4_⟩ (fun hHeld => ?_)
     clear hK K
     refine norm_ (a' := ?_) ?_ ?_
     rotate_left
     ·show Act.put _ (some 87) _ = _
      simp only [Act.put, sia_, scz_, scs_, i64_w, i32_w]
      rfl
     refine pv_ 7 80 ?_
     refine pv_ 8 88 ?_
     refine pv_ 9 89 ?_
     refine pv_ 10 17 ?_
     refine pv_ 11 18 ?_
     refine done_ (done_of HT_.out (by kernel_rfl)) ?_
     have p525 : 0 ≤ (x12_2 : Int) := od_
     have q525 : x12_2 < (t493.length : Int) := od_
     obtain ⟨ad525, e525, hx525_0, hx525_1, hx525_2, hx525_3⟩ := at_T35 (Kd.R_reads' HO_4.out).2.2 x12_2 p525 q525
     obtain rfl : ad513 = ad525 := (by injection e525)
     replace p525 := eq_true p525
     replace q525 := eq_true q525
     have p528 : 0 ≤ (x12_2 : Int) := od_
     have q528 : x12_2 < (t493.length : Int) := od_
     obtain ⟨ad528, e528, hx528_0, hx528_1, hx528_2, hx528_3⟩ := at_T35 (Kd.R_reads' HO_4.out).2.2 x12_2 p528 q528
     obtain rfl : ad513 = ad528 := (by injection e528)
     replace p528 := eq_true p528
     replace q528 := eq_true q528
     obtain ⟨hnb89, hnc89⟩ := ns_ NB518_500
     obtain ⟨hnb90, hnc90⟩ := ns_ NB518_505
     obtain ⟨hnb91, hnc91⟩ := ns_ NB518_510
     obtain ⟨hnb92, hnc92⟩ := ns_ NB518_512
     have hcz93_0 : w88.cell? ⟨gb518, 0, none⟩ = some (.slice Ao82 t514.length co82) := bc_ BK518 0
     have hfz93_0 := blk_frozen BK518.out 0
     obtain ⟨hnb94, hnc94⟩ := ns_ NB512_500
     obtain ⟨hnb95, hnc95⟩ := ns_ NB512_505
     obtain ⟨hnb96, hnc96⟩ := ns_ NB512_510
     have hcz97_0 : w88.cell? ⟨gb512, 0, none⟩ = some (.slice Ao77 x513000_2.length co77) := bc_ BK512 0
     have hfz97_0 := blk_frozen BK512.out 0
     try go_wp2
     go_roundg k2
     case measure => have := HJ6.out; have := HK2.out; omega
     case rel => exact ⟨(wrap64 (x12_2 + 1)), (t514), (.slice Ao82 t514.length co82), (by first | rfl | (simp; done) | (simp [*]; done) | (simp [bne]; done)), H', ⟨by have := HJ6.out; have := HK2.out; omega⟩, ⟨rq_ (rt_ HO_4 BK512 0 (.slice Ao82 t514.length co82))⟩, ⟨rq_ (rt_ HO_6 BK512 0 (.slice Ao82 t514.length co82))⟩, ⟨rq_ (Kd.R_mono (Kd.R_far (p := ⟨gb512, 0, none⟩) (Kd.R_types HO_501000.out BK512.out (by decide)) (fun _ hk => hk.2) (.slice Ao82 t514.length co82)) (fun _ hk => by repeat' first | exact hk.1.1 | exact hk.1.2.1 | exact hk.1.2.2.1 | exact hk.1.2.2.2 | exact hk.1.2.2 | exact hk.1.2 | constructor))⟩, ⟨rq_ (Kd.R_mono (Kd.R_far (p := ⟨gb512, 0, none⟩) (Kd.R_types HO_506000.out BK512.out (by decide)) (fun _ hk => hk.2) (.slice Ao82 t514.length co82)) (fun _ hk => by repeat' first | exact hk.1.1 | exact hk.1.2.1 | exact hk.1.2.2.1 | exact hk.1.2.2.2 | exact hk.1.2.2 | exact hk.1.2 | constructor))⟩, ⟨rq_ (Kd.R_mono (Kd.R_far (p := ⟨gb512, 0, none⟩) (Kd.R_types HO_511000.out BK512.out (by decide)) (fun _ hk => hk.2) (.slice Ao82 t514.length co82)) (fun _ hk => by repeat' first | exact hk.1.1 | exact hk.1.2.1 | exact hk.1.2.2.1 | exact hk.1.2.2.2 | exact hk.1.2.2 | exact hk.1.2 | constructor))⟩, ⟨rq_ (Kd.R_mono (Kd.R_far (p := ⟨gb512, 0, none⟩) (Kd.R_types HO516.out BK512.out (by decide)) (fun _ hk => hk.2) (.slice Ao82 t514.length co82)) (fun _ hk => by repeat' first | exact hk.1.1 | exact hk.1.2.1 | exact hk.1.2.2.1 | exact hk.1.2.2.2 | exact hk.1.2.2 | exact hk.1.2 | constructor))⟩, ⟨bf_⟩, ⟨bf_⟩, ⟨bf_⟩, ⟨bu_⟩, ⟨bw_ HB⟩⟩

/-- THE ONE PURE STATEMENT of laws_FnActs: yours. -/
def laws_FnActs.Pure : Prop := ∀ (l0 : List Int), l0.length ≤ maxLen → l0.length * 1 ≤ 140737488351232 → (∀ x ∈ l0, (Lit.int .u8 x).wf = true) → ∃ k, laws_FnActs.f k l0 = some true
theorem laws_FnActs.walk (P : laws_FnActs.Pure) (a0 : Option Addr) (len0 cap0 : Nat) (z0 : List Int) (w : World) (w0 : (a0 = none ∧ len0 = 0 ∧ cap0 = 0 ∧ z0 = []) ∨ ∃ x, a0 = some x ∧ len0 ≤ cap0 ∧ cap0 ≤ maxLen ∧ z0.length = cap0 ∧ (∀ i, i < z0.length → w.cell? (x.add i) = some (.int .u8 (z0.getD i 0))) ∧ ∀ n ∈ z0, (Lit.int .u8 n).wf = true) (y0 : len0 * 1 ≤ 140737488351232) :
  Calls Try.prog 5 #[.slice a0 len0 cap0] w fun e w' => e = .returned (.bool true) ∧ Below w.heap.size w w' := by
 obtain ⟨l0, rfl, hr0, hm0, hw0, hc0⟩ := ReadsInt.ofRowC w0
 obtain ⟨k, h⟩ := P l0 hm0 y0 hw0
 refine (laws_FnActs.calls k _ _ l0 true w (Kd.C_of_reads (d := (0 : Int)) (h1 := fun _ => rfl) hr0) hc0 h).mono ?_
 rintro e w' ⟨rfl, hd⟩
 exact ⟨rfl, hd⟩

end Go.Proofs.Ythbaoefbccdioaa.QFnActs
