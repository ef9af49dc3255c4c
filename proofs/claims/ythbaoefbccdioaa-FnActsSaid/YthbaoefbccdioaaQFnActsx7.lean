/- Written by this session's own program (wip/tpl/pp.py): what the law's functions come to, and that the machine's calls do just that. -/
import Derived.Test.YthbaoefbccdioaaTMPack
import Derived.Test.YthbaoefbccdioaaQFnActsx0
import Derived.Test.YthbaoefbccdioaaQFnActsx3
import Derived.Test.YthbaoefbccdioaaQFnActsx4
import Derived.Test.YthbaoefbccdioaaQFnActsx5
import Derived.Test.YthbaoefbccdioaaQFnActsx6
namespace Go.Proofs.Ythbaoefbccdioaa.QFnActs
open Go.RowKit Go.Proofs.YthbaoefbccdioaaW.PrintWords Go.Proofs.YthbaoefbccdioaaW.PrintLast Go.Proofs.YthbaoefbccdioaaW.PrintMore
attribute [local go_sem] Go.Proofs.Ythbaoefbccdioaa.Sem.string_geq Go.Proofs.Ythbaoefbccdioaa.Sem.string_leq Go.Proofs.Ythbaoefbccdioaa.Sem.string_gtr
attribute [local go_sem] max2_int min2_int max_two min_two max_three min_three max_four min_four   -- for this text's walks alone
set_option linter.unusedVariables false
set_option linter.unusedSimpArgs false

/-! ### spec_DoAct: function 10 -/
mutual
def spec_DoAct.j0 : Nat → Bool → List (S76) → Int → ByteArray → ByteArray → ByteArray → Option ((List (S76)) × Bool)
 | 0, _, _, _, _, _, _ => none
 | k + 1, x37, x147000, x148000, x148001, x148002, x148003 => if x37 = true then (some (([] : List (S76)), false)) else ((spec_l03At.f k x147000 x148001).bind fun t151 => (if t151 ≥ 0 then (if 0 ≤ t151 then (if t151 < (x147000.length : Int) then (spec_DoAct.j1 k t151 x147000 x148000 x148001 x148002 x148003 ((rd_T76 x147000 t151).f0) ((rd_T76 x147000 t151).f1) ((rd_T76 x147000 t151).f2)) else (none)) else (none)) else (spec_DoAct.j1 k t151 x147000 x148000 x148001 x148002 x148003 x148001 (⟨#[]⟩ : ByteArray) 0)))
def spec_DoAct.j1 : Nat → Int → List (S76) → Int → ByteArray → ByteArray → ByteArray → ByteArray → ByteArray → Int → Option ((List (S76)) × Bool)
 | 0, _, _, _, _, _, _, _, _, _ => none
 | k + 1, x6, x147000, x148000, x148001, x148002, x148003, x153000, x153001, x153002 => if x148000 = 1 then (if x153001.size + x148002.size ≤ 9223372036854775807 then ((spec_l03Put.f k x147000 x153000 (x153001 ++ x148002) x153002).bind fun t155 => ((spec_DiskOk.f k t155).bind fun t158 => (if t158 = true then (some (t155, true)) else (some (([] : List (S76)), false))))) else (none)) else (if x6 < 0 then (some (([] : List (S76)), false)) else (if x148000 = 2 then ((spec_l03Put.f k x147000 x153000 x153001 (x153001.size : Int)).bind fun t159 => ((spec_DiskOk.f k t159).bind fun t162 => (if t162 = true then (some (t159, true)) else (some (([] : List (S76)), false))))) else (if x148000 = 3 then (if x153002 < (x153001.size : Int) then (spec_DoAct.j2 k true x147000 x148000 x148001 x148002 x148003 x153000 x153001 x153002) else (if x148003.toList = x148001.toList then (spec_DoAct.j2 k true x147000 x148000 x148001 x148002 x148003 x153000 x153001 x153002) else ((spec_l03Name.f x148003).bind fun t163 => (spec_DoAct.j2 k (!t163) x147000 x148000 x148001 x148002 x148003 x153000 x153001 x153002)))) else (if x148000 = 4 then ((spec_l03Without.f k x147000 x148001).bind fun t171 => ((spec_DiskOk.f k t171).bind fun t174 => (if t174 = true then (some (t171, true)) else (some (([] : List (S76)), false))))) else (some (([] : List (S76)), false))))))
def spec_DoAct.j2 : Nat → Bool → List (S76) → Int → ByteArray → ByteArray → ByteArray → ByteArray → ByteArray → Int → Option ((List (S76)) × Bool)
 | 0, _, _, _, _, _, _, _, _, _ => none
 | k + 1, x105, x147000, x148000, x148001, x148002, x148003, x153000, x153001, x153002 => if x105 = true then (some (([] : List (S76)), false)) else ((spec_l03Without.f k x147000 x148001).bind fun t164 => ((spec_l03Put.f k t164 x148003 x153001 x153002).bind fun t167 => ((spec_DiskOk.f k t167).bind fun t170 => (if t170 = true then (some (t167, true)) else (some (([] : List (S76)), false))))))
end
def spec_DoAct.f (k : Nat) (l0_0 : List (S76)) (a1_0 : Int) (a1_1 : ByteArray) (a1_2 : ByteArray) (a1_3 : ByteArray) : Option ((List (S76)) × Bool) := (spec_DiskOk.f k l0_0).bind fun t149 => (if t149 = true then ((spec_l03Name.f a1_1).bind fun t150 => (if t150 = true then (if a1_0 = 3 then (if a1_0 = 1 then (spec_DoAct.j0 k false l0_0 a1_0 a1_1 a1_2 a1_3) else (spec_DoAct.j0 k (a1_2.toList != ([] : List UInt8)) l0_0 a1_0 a1_1 a1_2 a1_3)) else (if a1_3.toList = ([] : List UInt8) then (if a1_0 = 1 then (spec_DoAct.j0 k false l0_0 a1_0 a1_1 a1_2 a1_3) else (spec_DoAct.j0 k (a1_2.toList != ([] : List UInt8)) l0_0 a1_0 a1_1 a1_2 a1_3)) else (spec_DoAct.j0 k true l0_0 a1_0 a1_1 a1_2 a1_3))) else (spec_DoAct.j0 k true l0_0 a1_0 a1_1 a1_2 a1_3))) else (spec_DoAct.j0 k true l0_0 a1_0 a1_1 a1_2 a1_3))
theorem spec_DoAct.mono_l : ∀ k, (∀ y0 y1 y2 y3 y4 y5, LeO (spec_DoAct.j0 k y0 y1 y2 y3 y4 y5) (spec_DoAct.j0 (k + 1) y0 y1 y2 y3 y4 y5)) ∧ (∀ y0 y1 y2 y3 y4 y5 y6 y7 y8, LeO (spec_DoAct.j1 k y0 y1 y2 y3 y4 y5 y6 y7 y8) (spec_DoAct.j1 (k + 1) y0 y1 y2 y3 y4 y5 y6 y7 y8)) ∧ (∀ y0 y1 y2 y3 y4 y5 y6 y7 y8, LeO (spec_DoAct.j2 k y0 y1 y2 y3 y4 y5 y6 y7 y8) (spec_DoAct.j2 (k + 1) y0 y1 y2 y3 y4 y5 y6 y7 y8))
 | 0 => ⟨fun _ _ _ _ _ _ r h => by simp [spec_DoAct.j0] at h, fun _ _ _ _ _ _ _ _ _ r h => by simp [spec_DoAct.j1] at h, fun _ _ _ _ _ _ _ _ _ r h => by simp [spec_DoAct.j2] at h⟩
 | k + 1 => by
  obtain ⟨ih0, ih1, ih2⟩ := spec_DoAct.mono_l k
  refine ⟨?_, ?_, ?_⟩
  ·intro y0 y1 y2 y3 y4 y5
   unfold spec_DoAct.j0
   repeat' first
   | (with_reducible exact ih1 _ _ _ _ _ _ _ _ _)
   | (with_reducible exact spec_l03At.mono _ _ _)
   | (with_reducible exact LeO.refl _)
   | (with_reducible refine LeO.ite ?_ ?_)
   | (with_reducible refine LeO.bind ?_ (fun _ => ?_))
  ·intro y0 y1 y2 y3 y4 y5 y6 y7 y8
   unfold spec_DoAct.j1
   repeat' first
   | (with_reducible exact ih2 _ _ _ _ _ _ _ _ _)
   | (with_reducible exact spec_DiskOk.mono _ _)
   | (with_reducible exact spec_l03Put.mono _ _ _ _ _)
   | (with_reducible exact spec_l03Without.mono _ _ _)
   | (with_reducible exact LeO.refl _)
   | (with_reducible refine LeO.ite ?_ ?_)
   | (with_reducible refine LeO.bind ?_ (fun _ => ?_))
  ·intro y0 y1 y2 y3 y4 y5 y6 y7 y8
   unfold spec_DoAct.j2
   repeat' first
   | (with_reducible exact spec_DiskOk.mono _ _)
   | (with_reducible exact spec_l03Put.mono _ _ _ _ _)
   | (with_reducible exact spec_l03Without.mono _ _ _)
   | (with_reducible exact LeO.refl _)
   | (with_reducible refine LeO.ite ?_ ?_)
   | (with_reducible refine LeO.bind ?_ (fun _ => ?_))
theorem spec_DoAct.mono : ∀ a0 a1 a2 a3 a4 k, LeO (spec_DoAct.f k a0 a1 a2 a3 a4) (spec_DoAct.f (k + 1) a0 a1 a2 a3 a4) := by
 intro a0 a1 a2 a3 a4 k
 obtain ⟨ih0, ih1, ih2⟩ := spec_DoAct.mono_l k
 unfold spec_DoAct.f
 repeat' first
   | (with_reducible exact ih0 _ _ _ _ _ _)
   | (with_reducible exact spec_DiskOk.mono _ _)
   | (with_reducible exact LeO.refl _)
   | (with_reducible refine LeO.ite ?_ ?_)
   | (with_reducible refine LeO.bind ?_ (fun _ => ?_))
set_option maxHeartbeats 8000000 in
set_option maxRecDepth 100000 in
theorem spec_DoAct.calls (k : Nat) (A0_0 : Option Addr) (c0_0 : Nat) (l0_0 : List (S76)) (a1_0 : Int) (a1_1 : ByteArray) (a1_2 : ByteArray) (a1_3 : ByteArray) (r1 : List (S76)) (r2 : Bool) (w : World) (hr0_0 : Kd.C k76 w A0_0 l0_0.length l0_0) (hc0_0 : l0_0.length ≤ c0_0) (h : spec_DoAct.f k l0_0 a1_0 a1_1 a1_2 a1_3 = some (r1, r2)) :
  Calls Try.prog 10 #[.agg #[.slice A0_0 l0_0.length c0_0], .agg #[.int .i64 a1_0, .string a1_1, .string a1_2, .string a1_3]] w fun e w' => ∃ v0_ : Value, e = .returned (.tuple #[.agg #[v0_], .bool r2]) ∧ Kd.R k76 76 w' w.heap.size (fun _ => True) v0_ r1 ∧ Below w.heap.size w w' := by
 have hu31 := Try.underlying31
 have hu35 := Try.underlying35
 have hu76 := Try.underlying76
 have HR0_0 := Aside0.mk hr0_0
 have HC0_0 := Aside0.mk hc0_0
 clear hr0_0 hc0_0
 have HB := mk_ (Below.refl w.heap.size w)
 have H : ((spec_DiskOk.f k l0_0).bind fun t149 => (if t149 = true then ((spec_l03Name.f a1_1).bind fun t150 => (if t150 = true then (if a1_0 = 3 then (if a1_0 = 1 then (spec_DoAct.j0 k false l0_0 a1_0 a1_1 a1_2 a1_3) else (spec_DoAct.j0 k (a1_2.toList != ([] : List UInt8)) l0_0 a1_0 a1_1 a1_2 a1_3)) else (if a1_3.toList = ([] : List UInt8) then (if a1_0 = 1 then (spec_DoAct.j0 k false l0_0 a1_0 a1_1 a1_2 a1_3) else (spec_DoAct.j0 k (a1_2.toList != ([] : List UInt8)) l0_0 a1_0 a1_1 a1_2 a1_3)) else (spec_DoAct.j0 k true l0_0 a1_0 a1_1 a1_2 a1_3))) else (spec_DoAct.j0 k true l0_0 a1_0 a1_1 a1_2 a1_3))) else (spec_DoAct.j0 k true l0_0 a1_0 a1_1 a1_2 a1_3))) = some (r1, r2) := h
 clear h
 have HC3 := Aside0.mk H
 clear H
 go_enter Try.func10, Try.ntmps10
 go_upto_region 1 with (first | ((with_reducible refine gate_dst (N := 2) rfl ?_); refine bx_ (N := 2) (cs := #[.slice A0_0 l0_0.length c0_0]) (t := 31) ?_; intro gb146 hg w4 hbox hb; have BK146 := mk_ (hbox); have GW146 : Aside0 (w.heap.size ≤ gb146) := bz_ hg; have GE146 := GW146; replace HB := bs_ HB hb; clear hb hbox hg) | ((with_reducible refine gate_dst (N := 3) rfl ?_); refine bx_ (N := 3) (cs := #[.int .i64 a1_0, .string a1_1, .string a1_2, .string a1_3]) (t := 35) ?_; intro gb147 hg w5 hbox hb; have BK147 := mk_ (hbox); have GW147 : Aside0 (w.heap.size ≤ gb147) := bz_ hg; have GE147 := GW147; have NB146_147 := bl_ BK146 hg; have NB147_146 := bg_ BK146 hg; replace BK146 := bb_ BK146 hb; replace HB := bs_ HB hb; clear hb hbox hg) | ((with_reducible refine gate_dst (N := 4) rfl ?_); refine bx_ (N := 4) (cs := #[.slice none 0 0]) (t := 31) ?_; intro gb148 hg w6 hbox hb; have BK148 := mk_ (hbox); have GW148 : Aside0 (w.heap.size ≤ gb148) := bz_ hg; have GE148 := GW148; have NB146_148 := bl_ BK146 hg; have NB148_146 := bg_ BK146 hg; have NB147_148 := bl_ BK147 hg; have NB148_147 := bg_ BK147 hg; replace BK146 := bb_ BK146 hb; replace BK147 := bb_ BK147 hb; replace HB := bs_ HB hb; clear hb hbox hg))
 (try simp only [Act.put, sia_, scz_, scs_])
 go_cut [37] (fun v37 wc => ∃ (kq : Nat) (x37_2 : Bool), v37 = .bool x37_2 ∧ Aside0 (spec_DoAct.j0 kq x37_2 l0_0 a1_0 a1_1 a1_2 a1_3 = some (r1, r2)) ∧ Aside0 (kq ≤ k) ∧ Aside0 (wc.heap[gb146]? = some (.cells #[(.slice A0_0 l0_0.length c0_0)] 31 (0, 0))) ∧ Aside0 (wc.heap[gb147]? = some (.cells #[.int .i64 a1_0, .string a1_1, .string a1_2, .string a1_3] 35 (0, 0))) ∧ Aside0 (wc.heap[gb148]? = some (.cells #[(.slice none 0 0)] 31 (0, 0))) ∧ Aside0 (Below w.heap.size w wc))
 case first =>
  have H := HC3.out
  clear HC3
  replace H := Option.bind_eq_some_iff.mp H
  obtain ⟨t149, A70, H⟩ := H
  try dsimp only at H
  have A7 := Aside0.mk A70
  clear A70
  by_cases c8 : t149 = true
  rotate_left
  ·replace c8 := Bool.eq_false_iff.mpr c8
   subst c8
   rw [if_neg (show ¬ (false = true) by decide)] at H
   have H' := Aside0.mk H
   clear H
   obtain ⟨hnb51, hnc51⟩ := ns_ NB146_147
   obtain ⟨hnb52, hnc52⟩ := ns_ NB146_148
   have hcz53_0 : w6.cell? ⟨gb146, 0, none⟩ = some (.slice A0_0 l0_0.length c0_0) := bc_ BK146 0
   have hfz53_0 := blk_frozen BK146.out 0
   go_wp2_with (first | ((with_reducible refine gate_callee (f := 38) rfl ?_); refine gl_ 10 Try.func38 #[.agg #[.slice A0_0 l0_0.length c0_0]] ?_; (with_reducible refine (spec_DiskOk.calls k _ _ l0_0 false _ ?side1 ?side2 A7.out).mono ?_); (case side1 => exact cb_ HR0_0 HB); (case side2 => exact HC0_0.out); rintro e w54 ⟨rfl, hb⟩; refine ⟨_, rfl, ?_⟩; replace BK146 := bb_ BK146 hb; replace BK147 := bb_ BK147 hb; replace BK148 := bb_ BK148 hb; replace HB := bs_ HB hb; (try clear hb)))
   go_meet
   case rel => exact ⟨_, (true), (by first | rfl | (simp; done) | (simp [*]; done) | (simp [bne]; done)), H', ⟨by first | omega | exact Nat.le_refl _⟩, ⟨bf_⟩, ⟨bf_⟩, ⟨bf_⟩, ⟨bw_ HB⟩⟩
  subst c8
  rw [if_pos rfl] at H
  replace H := Option.bind_eq_some_iff.mp H
  obtain ⟨t150, A90, H⟩ := H
  try dsimp only at H
  have A9 := Aside0.mk A90
  clear A90
  by_cases c10 : t150 = true
  rotate_left
  ·replace c10 := Bool.eq_false_iff.mpr c10
   subst c10
   rw [if_neg (show ¬ (false = true) by decide)] at H
   have H' := Aside0.mk H
   clear H
   obtain ⟨hnb45, hnc45⟩ := ns_ NB146_147
   obtain ⟨hnb46, hnc46⟩ := ns_ NB146_148
   have hcz47_0 : w6.cell? ⟨gb146, 0, none⟩ = some (.slice A0_0 l0_0.length c0_0) := bc_ BK146 0
   have hfz47_0 := blk_frozen BK146.out 0
   go_wp2_with (first | ((with_reducible refine gate_callee (f := 38) rfl ?_); refine gl_ 10 Try.func38 #[.agg #[.slice A0_0 l0_0.length c0_0]] ?_; (with_reducible refine (spec_DiskOk.calls k _ _ l0_0 true _ ?side1 ?side2 A7.out).mono ?_); (case side1 => exact cb_ HR0_0 HB); (case side2 => exact HC0_0.out); rintro e w48 ⟨rfl, hb⟩; refine ⟨_, rfl, ?_⟩; replace BK146 := bb_ BK146 hb; replace BK147 := bb_ BK147 hb; replace BK148 := bb_ BK148 hb; replace HB := bs_ HB hb; (try clear hb); obtain ⟨hnb49, hnc49⟩ := ns_ NB147_148; obtain ⟨hcz50_0, hcz50_1, hcz50_2, hcz50_3, hfz50_0, hfz50_1, hfz50_2, hfz50_3⟩ := b4_ BK147) | (go_at_call 39; (with_reducible refine (spec_l03Name.calls a1_1 false _ A9.out).mono ?_); rintro e w' ⟨rfl, ⟨nd, rfl⟩⟩))
   go_meet
   case rel => exact ⟨_, (true), (by first | rfl | (simp; done) | (simp [*]; done) | (simp [bne]; done)), H', ⟨by first | omega | exact Nat.le_refl _⟩, ⟨bf_⟩, ⟨bf_⟩, ⟨bf_⟩, ⟨bw_ HB⟩⟩
  subst c10
  rw [if_pos rfl] at H
  by_cases c11 : a1_0 = 3
  ·rw [if_pos c11] at H
   have c11b0 : (a1_0 == 3) = true := beq_iff_eq.mpr c11
   have c11b1 : (a1_0 != 3) = false := bne_eq_false_iff_eq.mpr c11
   clear c11
   (first | rw [c11b0] | (simp only [i64_w, i32_w]; rw [c11b0]) | skip)
   by_cases c12 : a1_0 = 1
   rotate_left
   ·rw [if_neg c12] at H
    have c12b0 : (a1_0 == 1) = false := beq_eq_false_iff_ne.mpr c12
    have c12b1 : (a1_0 != 1) = true := bne_iff_ne.mpr c12
    have H' := Aside0.mk H
    clear H
    obtain ⟨hnb19, hnc19⟩ := ns_ NB146_147
    obtain ⟨hnb20, hnc20⟩ := ns_ NB146_148
    have hcz21_0 : w6.cell? ⟨gb146, 0, none⟩ = some (.slice A0_0 l0_0.length c0_0) := bc_ BK146 0
    have hfz21_0 := blk_frozen BK146.out 0
    go_wp2_with (first | ((with_reducible refine gate_callee (f := 38) rfl ?_); refine gl_ 10 Try.func38 #[.agg #[.slice A0_0 l0_0.length c0_0]] ?_; (with_reducible refine (spec_DiskOk.calls k _ _ l0_0 true _ ?side1 ?side2 A7.out).mono ?_); (case side1 => exact cb_ HR0_0 HB); (case side2 => exact HC0_0.out); rintro e w22 ⟨rfl, hb⟩; refine ⟨_, rfl, ?_⟩; replace BK146 := bb_ BK146 hb; replace BK147 := bb_ BK147 hb; replace BK148 := bb_ BK148 hb; replace HB := bs_ HB hb; (try clear hb); obtain ⟨hnb23, hnc23⟩ := ns_ NB147_148; obtain ⟨hcz24_0, hcz24_1, hcz24_2, hcz24_3, hfz24_0, hfz24_1, hfz24_2, hfz24_3⟩ := b4_ BK147) | (go_at_call 39; (with_reducible refine (spec_l03Name.calls a1_1 true _ A9.out).mono ?_); rintro e w' ⟨rfl, ⟨nd, rfl⟩⟩))
    go_meet
    case rel => exact ⟨_, ((a1_2.toList != ([] : List UInt8))), (by first | rfl | (simp; done) | (simp [*]; done) | (simp [bne]; done)), H', ⟨by first | omega | exact Nat.le_refl _⟩, ⟨bf_⟩, ⟨bf_⟩, ⟨bf_⟩, ⟨bw_ HB⟩⟩
   rw [if_pos c12] at H
   have c12b0 : (a1_0 == 1) = true := beq_iff_eq.mpr c12
   have c12b1 : (a1_0 != 1) = false := bne_eq_false_iff_eq.mpr c12
   clear c12
   have H' := Aside0.mk H
   clear H
   obtain ⟨hnb13, hnc13⟩ := ns_ NB146_147
   obtain ⟨hnb14, hnc14⟩ := ns_ NB146_148
   have hcz15_0 : w6.cell? ⟨gb146, 0, none⟩ = some (.slice A0_0 l0_0.length c0_0) := bc_ BK146 0
   have hfz15_0 := blk_frozen BK146.out 0
   go_wp2_with (first | ((with_reducible refine gate_callee (f := 38) rfl ?_); refine gl_ 10 Try.func38 #[.agg #[.slice A0_0 l0_0.length c0_0]] ?_; (with_reducible refine (spec_DiskOk.calls k _ _ l0_0 true _ ?side1 ?side2 A7.out).mono ?_); (case side1 => exact cb_ HR0_0 HB); (case side2 => exact HC0_0.out); rintro e w16 ⟨rfl, hb⟩; refine ⟨_, rfl, ?_⟩; replace BK146 := bb_ BK146 hb; replace BK147 := bb_ BK147 hb; replace BK148 := bb_ BK148 hb; replace HB := bs_ HB hb; (try clear hb); obtain ⟨hnb17, hnc17⟩ := ns_ NB147_148; obtain ⟨hcz18_0, hcz18_1, hcz18_2, hcz18_3, hfz18_0, hfz18_1, hfz18_2, hfz18_3⟩ := b4_ BK147) | (go_at_call 39; (with_reducible refine (spec_l03Name.calls a1_1 true _ A9.out).mono ?_); rintro e w' ⟨rfl, ⟨nd, rfl⟩⟩))
   go_meet
   case rel => exact ⟨_, (false), (by first | rfl | (simp; done) | (simp [*]; done) | (simp [bne]; done)), H', ⟨by first | omega | exact Nat.le_refl _⟩, ⟨bf_⟩, ⟨bf_⟩, ⟨bf_⟩, ⟨bw_ HB⟩⟩
  rw [if_neg c11] at H
  have c11b0 : (a1_0 == 3) = false := beq_eq_false_iff_ne.mpr c11
  have c11b1 : (a1_0 != 3) = true := bne_iff_ne.mpr c11
  (first | rw [c11b0] | (simp only [i64_w, i32_w]; rw [c11b0]) | skip)
  by_cases c25 : a1_3.toList = ([] : List UInt8)
  rotate_left
  ·rw [if_neg c25] at H
   have c25b0 : (a1_3.toList == ([] : List UInt8)) = false := beq_eq_false_iff_ne.mpr c25
   have c25b1 : (a1_3.toList != ([] : List UInt8)) = true := bne_iff_ne.mpr c25
   have H' := Aside0.mk H
   clear H
   obtain ⟨hnb39, hnc39⟩ := ns_ NB146_147
   obtain ⟨hnb40, hnc40⟩ := ns_ NB146_148
   have hcz41_0 : w6.cell? ⟨gb146, 0, none⟩ = some (.slice A0_0 l0_0.length c0_0) := bc_ BK146 0
   have hfz41_0 := blk_frozen BK146.out 0
   go_wp2_with (first | ((with_reducible refine gate_callee (f := 38) rfl ?_); refine gl_ 10 Try.func38 #[.agg #[.slice A0_0 l0_0.length c0_0]] ?_; (with_reducible refine (spec_DiskOk.calls k _ _ l0_0 true _ ?side1 ?side2 A7.out).mono ?_); (case side1 => exact cb_ HR0_0 HB); (case side2 => exact HC0_0.out); rintro e w42 ⟨rfl, hb⟩; refine ⟨_, rfl, ?_⟩; replace BK146 := bb_ BK146 hb; replace BK147 := bb_ BK147 hb; replace BK148 := bb_ BK148 hb; replace HB := bs_ HB hb; (try clear hb); obtain ⟨hnb43, hnc43⟩ := ns_ NB147_148; obtain ⟨hcz44_0, hcz44_1, hcz44_2, hcz44_3, hfz44_0, hfz44_1, hfz44_2, hfz44_3⟩ := b4_ BK147) | (go_at_call 39; (with_reducible refine (spec_l03Name.calls a1_1 true _ A9.out).mono ?_); rintro e w' ⟨rfl, ⟨nd, rfl⟩⟩))
   go_meet
   case rel => exact ⟨_, (true), (by first | rfl | (simp; done) | (simp [*]; done) | (simp [bne]; done)), H', ⟨by first | omega | exact Nat.le_refl _⟩, ⟨bf_⟩, ⟨bf_⟩, ⟨bf_⟩, ⟨bw_ HB⟩⟩
  rw [if_pos c25] at H
  have c25b0 : (a1_3.toList == ([] : List UInt8)) = true := beq_iff_eq.mpr c25
  have c25b1 : (a1_3.toList != ([] : List UInt8)) = false := bne_eq_false_iff_eq.mpr c25
  clear c25
  by_cases c26 : a1_0 = 1
  rotate_left
  ·rw [if_neg c26] at H
   have c26b0 : (a1_0 == 1) = false := beq_eq_false_iff_ne.mpr c26
   have c26b1 : (a1_0 != 1) = true := bne_iff_ne.mpr c26
   have H' := Aside0.mk H
   clear H
   obtain ⟨hnb33, hnc33⟩ := ns_ NB146_147
   obtain ⟨hnb34, hnc34⟩ := ns_ NB146_148
   have hcz35_0 : w6.cell? ⟨gb146, 0, none⟩ = some (.slice A0_0 l0_0.length c0_0) := bc_ BK146 0
   have hfz35_0 := blk_frozen BK146.out 0
   go_wp2_with (first | ((with_reducible refine gate_callee (f := 38) rfl ?_); refine gl_ 10 Try.func38 #[.agg #[.slice A0_0 l0_0.length c0_0]] ?_; (with_reducible refine (spec_DiskOk.calls k _ _ l0_0 true _ ?side1 ?side2 A7.out).mono ?_); (case side1 => exact cb_ HR0_0 HB); (case side2 => exact HC0_0.out); rintro e w36 ⟨rfl, hb⟩; refine ⟨_, rfl, ?_⟩; replace BK146 := bb_ BK146 hb; replace BK147 := bb_ BK147 hb; replace BK148 := bb_ BK148 hb; replace HB := bs_ HB hb; (try clear hb); obtain ⟨hnb37, hnc37⟩ := ns_ NB147_148; obtain ⟨hcz38_0, hcz38_1, hcz38_2, hcz38_3, hfz38_0, hfz38_1, hfz38_2, hfz38_3⟩ := b4_ BK147) | (go_at_call 39; (with_reducible refine (spec_l03Name.calls a1_1 true _ A9.out).mono ?_); rintro e w' ⟨rfl, ⟨nd, rfl⟩⟩))
   go_meet
   case rel => exact ⟨_, ((a1_2.toList != ([] : List UInt8))), (by first | rfl | (simp; done) | (simp [*]; done) | (simp [bne]; done)), H', ⟨by first | omega | exact Nat.le_refl _⟩, ⟨bf_⟩, ⟨bf_⟩, ⟨bf_⟩, ⟨bw_ HB⟩⟩
  rw [if_pos c26] at H
  have c26b0 : (a1_0 == 1) = true := beq_iff_eq.mpr c26
  have c26b1 : (a1_0 != 1) = false := bne_eq_false_iff_eq.mpr c26
  clear c26
  have H' := Aside0.mk H
  clear H
  obtain ⟨hnb27, hnc27⟩ := ns_ NB146_147
  obtain ⟨hnb28, hnc28⟩ := ns_ NB146_148
  have hcz29_0 : w6.cell? ⟨gb146, 0, none⟩ = some (.slice A0_0 l0_0.length c0_0) := bc_ BK146 0
  have hfz29_0 := blk_frozen BK146.out 0
  go_wp2_with (first | ((with_reducible refine gate_callee (f := 38) rfl ?_); refine gl_ 10 Try.func38 #[.agg #[.slice A0_0 l0_0.length c0_0]] ?_; (with_reducible refine (spec_DiskOk.calls k _ _ l0_0 true _ ?side1 ?side2 A7.out).mono ?_); (case side1 => exact cb_ HR0_0 HB); (case side2 => exact HC0_0.out); rintro e w30 ⟨rfl, hb⟩; refine ⟨_, rfl, ?_⟩; replace BK146 := bb_ BK146 hb; replace BK147 := bb_ BK147 hb; replace BK148 := bb_ BK148 hb; replace HB := bs_ HB hb; (try clear hb); obtain ⟨hnb31, hnc31⟩ := ns_ NB147_148; obtain ⟨hcz32_0, hcz32_1, hcz32_2, hcz32_3, hfz32_0, hfz32_1, hfz32_2, hfz32_3⟩ := b4_ BK147) | (go_at_call 39; (with_reducible refine (spec_l03Name.calls a1_1 true _ A9.out).mono ?_); rintro e w' ⟨rfl, ⟨nd, rfl⟩⟩))
  go_meet
  case rel => exact ⟨_, (false), (by first | rfl | (simp; done) | (simp [*]; done) | (simp [bne]; done)), H', ⟨by first | omega | exact Nat.le_refl _⟩, ⟨bf_⟩, ⟨bf_⟩, ⟨bf_⟩, ⟨bw_ HB⟩⟩
 case rest =>
  clear HC3
  (try clear c1); (try clear c2); (try clear p2); (try clear c3); (try clear c4); (try clear c5); (try clear c8); (try clear c10); (try clear c11); (try clear c11b0); (try clear c11b1); (try clear c12); (try clear c12b0); (try clear c12b1); (try clear c13); (try clear c14); (try clear c17); (try clear c19); (try clear c20); (try clear c23); (try clear c25); (try clear c25b0); (try clear c25b1); (try clear c26); (try clear c26b0); (try clear c26b1); (try clear c27); (try clear c28); (try clear c31); (try clear c33); (try clear c34); (try clear c37); (try clear c38); (try clear c39); (try clear c40); (try clear c43); (try clear c45); (try clear c46); (try clear c49); (try clear c51); (try clear c52); (try clear hcz15_0); (try clear hcz18_0); (try clear hcz18_1); (try clear hcz18_2); (try clear hcz18_3); (try clear hcz21_0); (try clear hcz24_0); (try clear hcz24_1); (try clear hcz24_2); (try clear hcz24_3); (try clear hcz29_0); (try clear hcz32_0); (try clear hcz32_1); (try clear hcz32_2); (try clear hcz32_3); (try clear hcz35_0); (try clear hcz38_0); (try clear hcz38_1); (try clear hcz38_2); (try clear hcz38_3); (try clear hcz41_0); (try clear hcz44_0); (try clear hcz44_1); (try clear hcz44_2); (try clear hcz44_3); (try clear hcz47_0); (try clear hcz50_0); (try clear hcz50_1); (try clear hcz50_2); (try clear hcz50_3); (try clear hcz53_0); (try clear hfz15_0); (try clear hfz18_0); (try clear hfz18_1); (try clear hfz18_2); (try clear hfz18_3); (try clear hfz21_0); (try clear hfz24_0); (try clear hfz24_1); (try clear hfz24_2); (try clear hfz24_3); (try clear hfz29_0); (try clear hfz32_0); (try clear hfz32_1); (try clear hfz32_2); (try clear hfz32_3); (try clear hfz35_0); (try clear hfz38_0); (try clear hfz38_1); (try clear hfz38_2); (try clear hfz38_3); (try clear hfz41_0); (try clear hfz44_0); (try clear hfz44_1); (try clear hfz44_2); (try clear hfz44_3); (try clear hfz47_0); (try clear hfz50_0); (try clear hfz50_1); (try clear hfz50_2); (try clear hfz50_3); (try clear hfz53_0)
  obtain ⟨kq, x37_2, rfl, HA, HJ2, BK146, BK147, BK148, HB⟩ := hcut
  cases kq with
  | zero => exact absurd HA.out (by simp [spec_DoAct.j0])
  | succ kj2 =>
   have H := HA.out
   clear HA
   simp only [spec_DoAct.j0] at H
   by_cases c55 : x37_2 = true
   ·subst c55
    rw [if_pos rfl] at H
    simp only [Option.some.injEq, Prod.mk.injEq] at H
    obtain ⟨rfl, rfl⟩ := H
    obtain ⟨hnb56, hnc56⟩ := ns_ NB148_146
    obtain ⟨hnb57, hnc57⟩ := ns_ NB148_147
    have hcz58_0 : wc.cell? ⟨gb148, 0, none⟩ = some (.slice none 0 0) := bc_ BK148 0
    have hfz58_0 := blk_frozen BK148.out 0
    go_wp2
    refine bodyPost_ret (results_ct rfl _ _ gb148 31 #[.slice none 0 0] (0, 0) _ rfl bu_ Try.underlying31 rfl (by kernel_rfl)) rfl ?_
    exact ⟨_, er_, by first | exact Kd.R_nil _ _ _ _ _ | exact Kd.N_nil _ _ _ _ _ | exact Kd.V_nil _ _ _ _ _ | exact Kd.Q_nil _ _ _ _ _ | exact Kd.S_nil _ _ _ _ _, bw_ HB⟩
   replace c55 := Bool.eq_false_iff.mpr c55
   subst c55
   rw [if_neg (show ¬ (false = true) by decide)] at H
   replace H := Option.bind_eq_some_iff.mp H
   obtain ⟨t151, A590, H⟩ := H
   try dsimp only at H
   have A59 := Aside0.mk A590
   clear A590
   have HC60 := Aside0.mk H
   clear H
   obtain ⟨hnb61, hnc61⟩ := ns_ NB146_147
   obtain ⟨hnb62, hnc62⟩ := ns_ NB146_148
   have hcz63_0 : wc.cell? ⟨gb146, 0, none⟩ = some (.slice A0_0 l0_0.length c0_0) := bc_ BK146 0
   have hfz63_0 := blk_frozen BK146.out 0
   obtain ⟨hnb64, hnc64⟩ := ns_ NB147_148
   have hcz65_0 : wc.cell? ⟨gb147, 0, none⟩ = some (.int .i64 a1_0) := bc_ BK147 0
   have hcz65_1 : wc.cell? ⟨gb147, 1, none⟩ = some (.string a1_1) := bc_ BK147 1
   have hcz65_2 : wc.cell? ⟨gb147, 2, none⟩ = some (.string a1_2) := bc_ BK147 2
   have hcz65_3 : wc.cell? ⟨gb147, 3, none⟩ = some (.string a1_3) := bc_ BK147 3
   have hfz65_0 := blk_frozen BK147.out 0
   have hfz65_1 := blk_frozen BK147.out 1
   have hfz65_2 := blk_frozen BK147.out 2
   have hfz65_3 := blk_frozen BK147.out 3
   go_upto_if 47 with (first | ((with_reducible refine gate_callee (f := 40) rfl ?_); refine gl_ 42 Try.func40 #[.agg #[.slice A0_0 l0_0.length c0_0], .string a1_1] ?_; (with_reducible refine (spec_l03At.calls kj2 _ _ l0_0 a1_1 t151 _ ?side1 ?side2 A59.out).mono ?_); (case side1 => exact cb_ HR0_0 HB); (case side2 => exact HC0_0.out); rintro e w66 ⟨rfl, hb⟩; refine ⟨_, rfl, ?_⟩; replace BK146 := bb_ BK146 hb; replace BK147 := bb_ BK147 hb; replace BK148 := bb_ BK148 hb; replace HB := bs_ HB hb; (try clear hb); obtain ⟨hcz67_0, hcz67_1, hcz67_2, hcz67_3, hfz67_0, hfz67_1, hfz67_2, hfz67_3⟩ := b4_ BK147) | ((with_reducible refine gate_dst (N := 7) rfl ?_); refine bx_ (N := 7) (cs := #[.string (⟨#[]⟩ : ByteArray), .string (⟨#[]⟩ : ByteArray), .int .i64 0]) (t := 76) ?_; intro gb152 hg w68 hbox hb; have BK152 := mk_ (hbox); have GW152 : Aside0 (w.heap.size ≤ gb152) := bz_ hg; have GE152 := GW152; have NB146_152 := bl_ BK146 hg; have NB152_146 := bg_ BK146 hg; have NB147_152 := bl_ BK147 hg; have NB152_147 := bg_ BK147 hg; have NB148_152 := bl_ BK148 hg; have NB152_148 := bg_ BK148 hg; replace BK146 := bb_ BK146 hb; replace BK147 := bb_ BK147 hb; replace BK148 := bb_ BK148 hb; replace HB := bs_ HB hb; clear hb hbox hg; obtain ⟨hnb69, hnc69⟩ := ns_ NB152_146; obtain ⟨hnb70, hnc70⟩ := ns_ NB152_147; obtain ⟨hnb71, hnc71⟩ := ns_ NB152_148; obtain ⟨hcz72_0, hcz72_1, hcz72_2, hfz72_0, hfz72_1, hfz72_2⟩ := b3_ BK152))
   (try simp only [Act.put, sia_, scz_, scs_])
   go_cut [] (fun wc => ∃ (kq : Nat) (x153000_59 : ByteArray) (x153001_59 : ByteArray) (x153002_59 : Int), Aside0 (spec_DoAct.j1 kq t151 l0_0 a1_0 a1_1 a1_2 a1_3 x153000_59 x153001_59 x153002_59 = some (r1, r2)) ∧ Aside0 (kq ≤ kj2) ∧ Aside0 (wc.heap[gb146]? = some (.cells #[(.slice A0_0 l0_0.length c0_0)] 31 (0, 0))) ∧ Aside0 (wc.heap[gb147]? = some (.cells #[.int .i64 a1_0, .string a1_1, .string a1_2, .string a1_3] 35 (0, 0))) ∧ Aside0 (wc.heap[gb148]? = some (.cells #[(.slice none 0 0)] 31 (0, 0))) ∧ Aside0 (wc.heap[gb152]? = some (.cells #[.string x153000_59, .string x153001_59, .int .i64 x153002_59] 76 (0, 0))) ∧ Aside0 (Below w.heap.size w wc))
   case first =>
    have H := HC60.out
    clear HC60
    by_cases c73 : t151 ≥ 0
    rotate_left
    ·rw [if_neg c73] at H
     have c73b0 : decide (0 ≤ t151) = false := decide_eq_false c73
     clear c73
     (first | rw [c73b0] | (simp only [i64_w, i32_w]; rw [c73b0]) | skip)
     have H' := Aside0.mk H
     clear H
     go_wp2
     go_meet
     case rel => exact ⟨_, (a1_1), ((⟨#[]⟩ : ByteArray)), (0), H', ⟨by have := HJ2.out; first | omega | exact Nat.le_refl _⟩, ⟨bf_⟩, ⟨bf_⟩, ⟨bf_⟩, ⟨bu_⟩, ⟨bw_ HB⟩⟩
    rw [if_pos c73] at H
    have c73b0 : decide (0 ≤ t151) = true := decide_eq_true c73
    clear c73
    (first | rw [c73b0] | (simp only [i64_w, i32_w]; rw [c73b0]) | skip)
    by_cases c74 : 0 ≤ t151
    rotate_left
    ·rw [if_neg c74] at H
     exact absurd H (by simp)
    rw [if_pos c74] at H
    have c74b0 : decide (0 ≤ t151) = true := decide_eq_true c74
    clear c74
    by_cases c75 : t151 < (l0_0.length : Int)
    rotate_left
    ·rw [if_neg c75] at H
     exact absurd H (by simp)
    rw [if_pos c75] at H
    have c75b0 : decide (t151 < (l0_0.length : Int)) = true := decide_eq_true c75
    clear c75
    have H' := Aside0.mk H
    clear H
    obtain ⟨hnb76, hnc76⟩ := ns_ NB146_147
    obtain ⟨hnb77, hnc77⟩ := ns_ NB146_148
    obtain ⟨hnb78, hnc78⟩ := ns_ NB146_152
    have hcz79_0 : w68.cell? ⟨gb146, 0, none⟩ = some (.slice A0_0 l0_0.length c0_0) := bc_ BK146 0
    have hfz79_0 := blk_frozen BK146.out 0
    have p153 : 0 ≤ (t151 : Int) := od_
    have q153 : t151 < (l0_0.length : Int) := od_
    obtain ⟨ad153, e153, hx153_0, hx153_1, hx153_2⟩ := at_T76 HR0_0.out t151 p153 q153
    cases e153
    have hn153_0 : ad153.block ≠ gb152 := Nat.ne_of_lt (Nat.lt_of_lt_of_le (by have := World.block_lt_of_cell? _ _ hx153_0; first | rwa [add_block] at this | exact this) GW152.out)
    have hn153_1 : ad153.block ≠ gb152 := Nat.ne_of_lt (Nat.lt_of_lt_of_le (by have := World.block_lt_of_cell? _ _ hx153_0; first | rwa [add_block] at this | exact this) GW152.out)
    have hn153_2 : ad153.block ≠ gb152 := Nat.ne_of_lt (Nat.lt_of_lt_of_le (by have := World.block_lt_of_cell? _ _ hx153_0; first | rwa [add_block] at this | exact this) GW152.out)
    replace hx153_0 := hc_ HB hx153_0
    replace hx153_1 := hc_ HB hx153_1
    replace hx153_2 := hc_ HB hx153_2
    replace hx153_0 := (cell_far (p := ⟨gb152, 0, none⟩) ab_ (.string a1_1)).trans hx153_0
    replace hx153_1 := (cell_far (p := ⟨gb152, 0, none⟩) ab_ (.string a1_1)).trans hx153_1
    replace hx153_2 := (cell_far (p := ⟨gb152, 0, none⟩) ab_ (.string a1_1)).trans hx153_2
    replace hx153_0 := (cell_far (p := ⟨gb152, 1, none⟩) ab_ (.string (⟨#[]⟩ : ByteArray))).trans hx153_0
    replace hx153_1 := (cell_far (p := ⟨gb152, 1, none⟩) ab_ (.string (⟨#[]⟩ : ByteArray))).trans hx153_1
    replace hx153_2 := (cell_far (p := ⟨gb152, 1, none⟩) ab_ (.string (⟨#[]⟩ : ByteArray))).trans hx153_2
    replace hx153_0 := (cell_far (p := ⟨gb152, 2, none⟩) ab_ (.int .i64 0)).trans hx153_0
    replace hx153_1 := (cell_far (p := ⟨gb152, 2, none⟩) ab_ (.int .i64 0)).trans hx153_1
    replace hx153_2 := (cell_far (p := ⟨gb152, 2, none⟩) ab_ (.int .i64 0)).trans hx153_2
    clear hn153_0; clear hn153_1; clear hn153_2
    replace p153 := eq_true p153
    replace q153 := eq_true q153
    obtain ⟨hnb80, hnc80⟩ := ns_ NB152_147
    obtain ⟨hnb81, hnc81⟩ := ns_ NB152_148
    have hcz82_0 : w68.cell? ⟨gb152, 0, none⟩ = some (.string (⟨#[]⟩ : ByteArray)) := bc_ BK152 0
    have hcz82_1 : w68.cell? ⟨gb152, 1, none⟩ = some (.string (⟨#[]⟩ : ByteArray)) := bc_ BK152 1
    have hcz82_2 : w68.cell? ⟨gb152, 2, none⟩ = some (.int .i64 0) := bc_ BK152 2
    have hfz82_0 := blk_frozen BK152.out 0
    have hfz82_1 := blk_frozen BK152.out 1
    have hfz82_2 := blk_frozen BK152.out 2
    go_wp2
    go_meet
    case rel => exact ⟨_, ((rd_T76 l0_0 t151).f0), ((rd_T76 l0_0 t151).f1), ((rd_T76 l0_0 t151).f2), H', ⟨by have := HJ2.out; first | omega | exact Nat.le_refl _⟩, ⟨bf_⟩, ⟨bf_⟩, ⟨bf_⟩, ⟨bu_⟩, ⟨bw_ HB⟩⟩
   case rest =>
    clear HC60
    (try clear c1); (try clear p1); (try clear q1); (try clear hx1); (try clear c2); (try clear p2); (try clear c3); (try clear c4); (try clear c5); (try clear c6); (try clear c7); (try clear c8); (try clear c10); (try clear c11); (try clear c11b0); (try clear c11b1); (try clear c12); (try clear c12b0); (try clear c12b1); (try clear c13); (try clear c14); (try clear p15); (try clear q15); (try clear hx15); (try clear c17); (try clear c19); (try clear c20); (try clear c23); (try clear c25); (try clear c25b0); (try clear c25b1); (try clear c26); (try clear c26b0); (try clear c26b1); (try clear c27); (try clear c28); (try clear c31); (try clear c33); (try clear c34); (try clear c37); (try clear c38); (try clear c39); (try clear c40); (try clear c43); (try clear c45); (try clear c46); (try clear c49); (try clear c51); (try clear c52); (try clear c55); (try clear c56); (try clear c57); (try clear c61); (try clear c62); (try clear c64); (try clear c69); (try clear c70); (try clear c71); (try clear c73); (try clear c73b0); (try clear c74); (try clear c74b0); (try clear c75); (try clear c75b0); (try clear c76); (try clear c77); (try clear c78); (try clear c80); (try clear c81); (try clear hcz15_0); (try clear hcz18_0); (try clear hcz18_1); (try clear hcz18_2); (try clear hcz18_3); (try clear hcz21_0); (try clear hcz24_0); (try clear hcz24_1); (try clear hcz24_2); (try clear hcz24_3); (try clear hcz29_0); (try clear hcz32_0); (try clear hcz32_1); (try clear hcz32_2); (try clear hcz32_3); (try clear hcz35_0); (try clear hcz38_0); (try clear hcz38_1); (try clear hcz38_2); (try clear hcz38_3); (try clear hcz41_0); (try clear hcz44_0); (try clear hcz44_1); (try clear hcz44_2); (try clear hcz44_3); (try clear hcz47_0); (try clear hcz50_0); (try clear hcz50_1); (try clear hcz50_2); (try clear hcz50_3); (try clear hcz53_0); (try clear hcz58_0); (try clear hcz63_0); (try clear hcz65_0); (try clear hcz65_1); (try clear hcz65_2); (try clear hcz65_3); (try clear hcz67_0); (try clear hcz67_1); (try clear hcz67_2); (try clear hcz67_3); (try clear hcz72_0); (try clear hcz72_1); (try clear hcz72_2); (try clear hcz79_0); (try clear hcz82_0); (try clear hcz82_1); (try clear hcz82_2); (try clear hfz15_0); (try clear hfz18_0); (try clear hfz18_1); (try clear hfz18_2); (try clear hfz18_3); (try clear hfz21_0); (try clear hfz24_0); (try clear hfz24_1); (try clear hfz24_2); (try clear hfz24_3); (try clear hfz29_0); (try clear hfz32_0); (try clear hfz32_1); (try clear hfz32_2); (try clear hfz32_3); (try clear hfz35_0); (try clear hfz38_0); (try clear hfz38_1); (try clear hfz38_2); (try clear hfz38_3); (try clear hfz41_0); (try clear hfz44_0); (try clear hfz44_1); (try clear hfz44_2); (try clear hfz44_3); (try clear hfz47_0); (try clear hfz50_0); (try clear hfz50_1); (try clear hfz50_2); (try clear hfz50_3); (try clear hfz53_0); (try clear hfz58_0); (try clear hfz63_0); (try clear hfz65_0); (try clear hfz65_1); (try clear hfz65_2); (try clear hfz65_3); (try clear hfz67_0); (try clear hfz67_1); (try clear hfz67_2); (try clear hfz67_3); (try clear hfz72_0); (try clear hfz72_1); (try clear hfz72_2); (try clear hfz79_0); (try clear hfz82_0); (try clear hfz82_1); (try clear hfz82_2); (try clear hx153_0); (try clear hx153_1); (try clear hx153_2); (try clear p153); (try clear p2); (try clear q153)
    obtain ⟨kq, x153000_59, x153001_59, x153002_59, HA, HJ59, BK146, BK147, BK148, BK152, HB⟩ := hcut
    cases kq with
    | zero => exact absurd HA.out (by simp [spec_DoAct.j1])
    | succ kj59 =>
     have H := HA.out
     clear HA
     simp only [spec_DoAct.j1] at H
     by_cases c83 : a1_0 = 1
     ·rw [if_pos c83] at H
      have c83b0 : (a1_0 == 1) = true := beq_iff_eq.mpr c83
      have c83b1 : (a1_0 != 1) = false := bne_eq_false_iff_eq.mpr c83
      clear c83
      by_cases c84 : x153001_59.size + a1_2.size ≤ 9223372036854775807
      rotate_left
      ·rw [if_neg c84] at H
       exact absurd H (by simp)
      rw [if_pos c84] at H
      have c84b0 := eq_true c84
      have c84b1 : decide (x153001_59.size + a1_2.size ≤ 9223372036854775807) = true := decide_eq_true c84
      try have c84b2 : (9223372036854775807 < x153001_59.size + a1_2.size) = False := eq_false (Nat.not_lt.2 c84)
      replace H := Option.bind_eq_some_iff.mp H
      obtain ⟨t155, A850, H⟩ := H
      try dsimp only at H
      have A85 := Aside0.mk A850
      clear A850
      replace H := Option.bind_eq_some_iff.mp H
      obtain ⟨t158, A860, H⟩ := H
      try dsimp only at H
      have A86 := Aside0.mk A860
      clear A860
      by_cases c87 : t158 = true
      ·subst c87
       rw [if_pos rfl] at H
       simp only [Option.some.injEq, Prod.mk.injEq] at H
       obtain ⟨rfl, rfl⟩ := H
       go_wp2_with (first | ((with_reducible refine gate_dst (N := 8) rfl ?_); refine bx_ (N := 8) (cs := #[.slice none 0 0]) (t := 31) ?_; intro gb154 hg w88 hbox hb; have BK154 := mk_ (hbox); have GW154 : Aside0 (w.heap.size ≤ gb154) := bz_ hg; have GE154 := GW154; have NB146_154 := bl_ BK146 hg; have NB154_146 := bg_ BK146 hg; have NB147_154 := bl_ BK147 hg; have NB154_147 := bg_ BK147 hg; have NB148_154 := bl_ BK148 hg; have NB154_148 := bg_ BK148 hg; have NB152_154 := bl_ BK152 hg; have NB154_152 := bg_ BK152 hg; replace BK146 := bb_ BK146 hb; replace BK147 := bb_ BK147 hb; replace BK148 := bb_ BK148 hb; replace BK152 := bb_ BK152 hb; replace HB := bs_ HB hb; clear hb hbox hg; obtain ⟨hnb89, hnc89⟩ := ns_ NB154_146; obtain ⟨hnb90, hnc90⟩ := ns_ NB154_147; obtain ⟨hnb91, hnc91⟩ := ns_ NB154_148; obtain ⟨hnb92, hnc92⟩ := ns_ NB154_152; obtain ⟨hcz93_0, hfz93_0⟩ := b1_ BK154; obtain ⟨hnb94, hnc94⟩ := ns_ NB147_146; obtain ⟨hnb95, hnc95⟩ := ns_ NB147_148; obtain ⟨hnb96, hnc96⟩ := ns_ NB147_152; obtain ⟨hcz97_0, hcz97_1, hcz97_2, hcz97_3, hfz97_0, hfz97_1, hfz97_2, hfz97_3⟩ := b4_ BK147; obtain ⟨hnb98, hnc98⟩ := ns_ NB152_146; obtain ⟨hnb99, hnc99⟩ := ns_ NB152_148; obtain ⟨hcz100_0, hcz100_1, hcz100_2, hfz100_0, hfz100_1, hfz100_2⟩ := b3_ BK152; obtain ⟨hnb101, hnc101⟩ := ns_ NB146_148; obtain ⟨hcz102_0, hfz102_0⟩ := b1_ BK146) | ((with_reducible refine gate_callee (f := 41) rfl ?_); refine gl_ 67 Try.func41 #[.agg #[.slice A0_0 l0_0.length c0_0], .agg #[.string x153000_59, .string (x153001_59 ++ a1_2), .int .i64 x153002_59]] ?_; (with_reducible refine (spec_l03Put.calls kj59 _ _ l0_0 x153000_59 (x153001_59 ++ a1_2) x153002_59 t155 _ ?side1 ?side2 A85.out).mono ?_); (case side1 => exact Kd.C_below HR0_0.out (bw_ HB)); (case side2 => exact HC0_0.out); rintro e w103 ⟨v156, rfl, ho0, hb⟩; refine ⟨_, rfl, ?_⟩; have HO157 := mk_ (Kd.R_lower (Kd.R_newB ho0 (g := gb152) (o := .cells #[.string x153000_59, .string (x153001_59 ++ a1_2), .int .i64 x153002_59] 76 (0, 0)) bu_) (below_size (bw_ HB))); replace BK146 := mk_ (blk_below (g := gb146) (o := .cells #[.slice A0_0 l0_0.length c0_0] 31 (0, 0)) bf_ hb); replace BK147 := mk_ (blk_below (g := gb147) (o := .cells #[.int .i64 a1_0, .string a1_1, .string a1_2, .string a1_3] 35 (0, 0)) bf_ hb); replace BK148 := mk_ (blk_below (g := gb148) (o := .cells #[.slice none 0 0] 31 (0, 0)) bf_ hb); replace BK152 := mk_ (blk_below (g := gb152) (o := .cells #[.string x153000_59, .string (x153001_59 ++ a1_2), .int .i64 x153002_59] 76 (0, 0)) bu_ hb); replace BK154 := mk_ (blk_below (g := gb154) (o := .cells #[.slice none 0 0] 31 (0, 0)) bu_ hb); replace HB := bs_ HB hb; (try clear hb); (try clear hk); (try clear ho0); obtain ⟨Ao104, co104, eo104⟩ := Kd.R_slice HO157.out; subst eo104; obtain ⟨hcz105_0, hfz105_0⟩ := b1_ BK154) | ((with_reducible refine gate_callee (f := 38) rfl ?_); refine gl_ 125 Try.func38 #[.agg #[.slice Ao104 t155.length co104]] ?_; (with_reducible refine (spec_DiskOk.calls kj59 _ _ t155 true _ ?side1 ?side2 A86.out).mono ?_); (case side1 => refine (Kd.R_reads' (e := 76) (base := w.heap.size) (ok := fun k_ => (True ∧ k_ ≠ gb152)) (n := t155.length) (c := co104) ?_).2.2; exact (rq_ (rf_ HO157 BK154 0 (.slice Ao104 t155.length co104)))); (case side2 => exact (Kd.R_reads' HO157.out).2.1); rintro e w106 ⟨rfl, hb⟩; refine ⟨_, rfl, ?_⟩; replace HO157 := mk_ (Kd.R_below (rq_ (rf_ HO157 BK154 0 (.slice Ao104 t155.length co104))) hb); replace BK146 := mk_ (blk_below (g := gb146) (o := .cells #[.slice A0_0 l0_0.length c0_0] 31 (0, 0)) bf_ hb); replace BK147 := mk_ (blk_below (g := gb147) (o := .cells #[.int .i64 a1_0, .string a1_1, .string a1_2, .string a1_3] 35 (0, 0)) bf_ hb); replace BK148 := mk_ (blk_below (g := gb148) (o := .cells #[.slice none 0 0] 31 (0, 0)) bf_ hb); replace BK152 := mk_ (blk_below (g := gb152) (o := .cells #[.string x153000_59, .string (x153001_59 ++ a1_2), .int .i64 x153002_59] 76 (0, 0)) bf_ hb); replace BK154 := mk_ (blk_below (g := gb154) (o := .cells #[.slice Ao104 t155.length co104] 31 (0, 0)) bu_ hb); replace HB := bs_ HB hb; (try clear hb); (try clear hk); obtain ⟨hcz107_0, hfz107_0⟩ := b1_ BK154; obtain ⟨hcz108_0, hfz108_0⟩ := b1_ BK148))
       refine bodyPost_ret (results_ct rfl _ _ gb148 31 #[.slice Ao104 t155.length co104] (0, 0) _ rfl bu_ Try.underlying31 rfl (by kernel_rfl)) rfl ?_
       exact ⟨_, er_, rq_ (rt_ HO157 BK148 0 (.slice Ao104 t155.length co104)), bw_ HB⟩
      replace c87 := Bool.eq_false_iff.mpr c87
      subst c87
      rw [if_neg (show ¬ (false = true) by decide)] at H
      simp only [Option.some.injEq, Prod.mk.injEq] at H
      obtain ⟨rfl, rfl⟩ := H
      go_wp2_with (first | ((with_reducible refine gate_dst (N := 8) rfl ?_); refine bx_ (N := 8) (cs := #[.slice none 0 0]) (t := 31) ?_; intro gb154 hg w109 hbox hb; have BK154 := mk_ (hbox); have GW154 : Aside0 (w.heap.size ≤ gb154) := bz_ hg; have GE154 := GW154; have NB146_154 := bl_ BK146 hg; have NB154_146 := bg_ BK146 hg; have NB147_154 := bl_ BK147 hg; have NB154_147 := bg_ BK147 hg; have NB148_154 := bl_ BK148 hg; have NB154_148 := bg_ BK148 hg; have NB152_154 := bl_ BK152 hg; have NB154_152 := bg_ BK152 hg; replace BK146 := bb_ BK146 hb; replace BK147 := bb_ BK147 hb; replace BK148 := bb_ BK148 hb; replace BK152 := bb_ BK152 hb; replace HB := bs_ HB hb; clear hb hbox hg; obtain ⟨hnb110, hnc110⟩ := ns_ NB154_146; obtain ⟨hnb111, hnc111⟩ := ns_ NB154_147; obtain ⟨hnb112, hnc112⟩ := ns_ NB154_148; obtain ⟨hnb113, hnc113⟩ := ns_ NB154_152; obtain ⟨hcz114_0, hfz114_0⟩ := b1_ BK154; obtain ⟨hnb115, hnc115⟩ := ns_ NB147_146; obtain ⟨hnb116, hnc116⟩ := ns_ NB147_148; obtain ⟨hnb117, hnc117⟩ := ns_ NB147_152; obtain ⟨hcz118_0, hcz118_1, hcz118_2, hcz118_3, hfz118_0, hfz118_1, hfz118_2, hfz118_3⟩ := b4_ BK147; obtain ⟨hnb119, hnc119⟩ := ns_ NB152_146; obtain ⟨hnb120, hnc120⟩ := ns_ NB152_148; obtain ⟨hcz121_0, hcz121_1, hcz121_2, hfz121_0, hfz121_1, hfz121_2⟩ := b3_ BK152; obtain ⟨hnb122, hnc122⟩ := ns_ NB146_148; obtain ⟨hcz123_0, hfz123_0⟩ := b1_ BK146) | ((with_reducible refine gate_callee (f := 41) rfl ?_); refine gl_ 67 Try.func41 #[.agg #[.slice A0_0 l0_0.length c0_0], .agg #[.string x153000_59, .string (x153001_59 ++ a1_2), .int .i64 x153002_59]] ?_; (with_reducible refine (spec_l03Put.calls kj59 _ _ l0_0 x153000_59 (x153001_59 ++ a1_2) x153002_59 t155 _ ?side1 ?side2 A85.out).mono ?_); (case side1 => exact Kd.C_below HR0_0.out (bw_ HB)); (case side2 => exact HC0_0.out); rintro e w124 ⟨v156, rfl, ho0, hb⟩; refine ⟨_, rfl, ?_⟩; have HO157 := mk_ (Kd.R_lower (Kd.R_newB ho0 (g := gb152) (o := .cells #[.string x153000_59, .string (x153001_59 ++ a1_2), .int .i64 x153002_59] 76 (0, 0)) bu_) (below_size (bw_ HB))); replace BK146 := mk_ (blk_below (g := gb146) (o := .cells #[.slice A0_0 l0_0.length c0_0] 31 (0, 0)) bf_ hb); replace BK147 := mk_ (blk_below (g := gb147) (o := .cells #[.int .i64 a1_0, .string a1_1, .string a1_2, .string a1_3] 35 (0, 0)) bf_ hb); replace BK148 := mk_ (blk_below (g := gb148) (o := .cells #[.slice none 0 0] 31 (0, 0)) bf_ hb); replace BK152 := mk_ (blk_below (g := gb152) (o := .cells #[.string x153000_59, .string (x153001_59 ++ a1_2), .int .i64 x153002_59] 76 (0, 0)) bu_ hb); replace BK154 := mk_ (blk_below (g := gb154) (o := .cells #[.slice none 0 0] 31 (0, 0)) bu_ hb); replace HB := bs_ HB hb; (try clear hb); (try clear hk); (try clear ho0); obtain ⟨Ao125, co125, eo125⟩ := Kd.R_slice HO157.out; subst eo125; obtain ⟨hcz126_0, hfz126_0⟩ := b1_ BK154) | ((with_reducible refine gate_callee (f := 38) rfl ?_); refine gl_ 125 Try.func38 #[.agg #[.slice Ao125 t155.length co125]] ?_; (with_reducible refine (spec_DiskOk.calls kj59 _ _ t155 false _ ?side1 ?side2 A86.out).mono ?_); (case side1 => refine (Kd.R_reads' (e := 76) (base := w.heap.size) (ok := fun k_ => (True ∧ k_ ≠ gb152)) (n := t155.length) (c := co125) ?_).2.2; exact (rq_ (rf_ HO157 BK154 0 (.slice Ao125 t155.length co125)))); (case side2 => exact (Kd.R_reads' HO157.out).2.1); rintro e w127 ⟨rfl, hb⟩; refine ⟨_, rfl, ?_⟩; replace HO157 := mk_ (Kd.R_below (rq_ (rf_ HO157 BK154 0 (.slice Ao125 t155.length co125))) hb); replace BK146 := mk_ (blk_below (g := gb146) (o := .cells #[.slice A0_0 l0_0.length c0_0] 31 (0, 0)) bf_ hb); replace BK147 := mk_ (blk_below (g := gb147) (o := .cells #[.int .i64 a1_0, .string a1_1, .string a1_2, .string a1_3] 35 (0, 0)) bf_ hb); replace BK148 := mk_ (blk_below (g := gb148) (o := .cells #[.slice none 0 0] 31 (0, 0)) bf_ hb); replace BK152 := mk_ (blk_below (g := gb152) (o := .cells #[.string x153000_59, .string (x153001_59 ++ a1_2), .int .i64 x153002_59] 76 (0, 0)) bf_ hb); replace BK154 := mk_ (blk_below (g := gb154) (o := .cells #[.slice Ao125 t155.length co125] 31 (0, 0)) bu_ hb); replace HB := bs_ HB hb; (try clear hb); (try clear hk); obtain ⟨hcz128_0, hfz128_0⟩ := b1_ BK148))
      refine bodyPost_ret (results_ct rfl _ _ gb148 31 #[.slice none 0 0] (0, 0) _ rfl bu_ Try.underlying31 rfl (by kernel_rfl)) rfl ?_
      exact ⟨_, er_, by first | exact Kd.R_nil _ _ _ _ _ | exact Kd.N_nil _ _ _ _ _ | exact Kd.V_nil _ _ _ _ _ | exact Kd.Q_nil _ _ _ _ _ | exact Kd.S_nil _ _ _ _ _, bw_ HB⟩
     rw [if_neg c83] at H
     have c83b0 : (a1_0 == 1) = false := beq_eq_false_iff_ne.mpr c83
     have c83b1 : (a1_0 != 1) = true := bne_iff_ne.mpr c83
     by_cases c129 : t151 < 0
     ·rw [if_pos c129] at H
      have c129b0 : decide (t151 < 0) = true := decide_eq_true c129
      clear c129
      simp only [Option.some.injEq, Prod.mk.injEq] at H
      obtain ⟨rfl, rfl⟩ := H
      go_wp2_with (first | ((with_reducible refine gate_dst (N := 8) rfl ?_); refine bx_ (N := 8) (cs := #[.slice none 0 0]) (t := 31) ?_; intro gb154 hg w130 hbox hb; have BK154 := mk_ (hbox); have GW154 : Aside0 (w.heap.size ≤ gb154) := bz_ hg; have GE154 := GW154; have NB146_154 := bl_ BK146 hg; have NB154_146 := bg_ BK146 hg; have NB147_154 := bl_ BK147 hg; have NB154_147 := bg_ BK147 hg; have NB148_154 := bl_ BK148 hg; have NB154_148 := bg_ BK148 hg; have NB152_154 := bl_ BK152 hg; have NB154_152 := bg_ BK152 hg; replace BK146 := bb_ BK146 hb; replace BK147 := bb_ BK147 hb; replace BK148 := bb_ BK148 hb; replace BK152 := bb_ BK152 hb; replace HB := bs_ HB hb; clear hb hbox hg; obtain ⟨hnb131, hnc131⟩ := ns_ NB154_146; obtain ⟨hnb132, hnc132⟩ := ns_ NB154_147; obtain ⟨hnb133, hnc133⟩ := ns_ NB154_148; obtain ⟨hnb134, hnc134⟩ := ns_ NB154_152; obtain ⟨hcz135_0, hfz135_0⟩ := b1_ BK154; obtain ⟨hnb136, hnc136⟩ := ns_ NB147_146; obtain ⟨hnb137, hnc137⟩ := ns_ NB147_148; obtain ⟨hnb138, hnc138⟩ := ns_ NB147_152; obtain ⟨hcz139_0, hcz139_1, hcz139_2, hcz139_3, hfz139_0, hfz139_1, hfz139_2, hfz139_3⟩ := b4_ BK147; obtain ⟨hnb140, hnc140⟩ := ns_ NB148_146; obtain ⟨hnb141, hnc141⟩ := ns_ NB148_152; obtain ⟨hcz142_0, hfz142_0⟩ := b1_ BK148))
      refine bodyPost_ret (results_ct rfl _ _ gb148 31 #[.slice none 0 0] (0, 0) _ rfl bu_ Try.underlying31 rfl (by kernel_rfl)) rfl ?_
      exact ⟨_, er_, by first | exact Kd.R_nil _ _ _ _ _ | exact Kd.N_nil _ _ _ _ _ | exact Kd.V_nil _ _ _ _ _ | exact Kd.Q_nil _ _ _ _ _ | exact Kd.S_nil _ _ _ _ _, bw_ HB⟩
     rw [if_neg c129] at H
     have c129b0 : decide (t151 < 0) = false := decide_eq_false c129
     clear c129
     by_cases c143 : a1_0 = 2
     ·rw [if_pos c143] at H
      have c143b0 : (a1_0 == 2) = true := beq_iff_eq.mpr c143
      have c143b1 : (a1_0 != 2) = false := bne_eq_false_iff_eq.mpr c143
      clear c143
      replace H := Option.bind_eq_some_iff.mp H
      obtain ⟨t159, A1440, H⟩ := H
      try dsimp only at H
      have A144 := Aside0.mk A1440
      clear A1440
      replace H := Option.bind_eq_some_iff.mp H
      obtain ⟨t162, A1450, H⟩ := H
      try dsimp only at H
      have A145 := Aside0.mk A1450
      clear A1450
      by_cases c146 : t162 = true
      ·subst c146
       rw [if_pos rfl] at H
       simp only [Option.some.injEq, Prod.mk.injEq] at H
       obtain ⟨rfl, rfl⟩ := H
       go_wp2_with (first | ((with_reducible refine gate_dst (N := 8) rfl ?_); refine bx_ (N := 8) (cs := #[.slice none 0 0]) (t := 31) ?_; intro gb154 hg w147 hbox hb; have BK154 := mk_ (hbox); have GW154 : Aside0 (w.heap.size ≤ gb154) := bz_ hg; have GE154 := GW154; have NB146_154 := bl_ BK146 hg; have NB154_146 := bg_ BK146 hg; have NB147_154 := bl_ BK147 hg; have NB154_147 := bg_ BK147 hg; have NB148_154 := bl_ BK148 hg; have NB154_148 := bg_ BK148 hg; have NB152_154 := bl_ BK152 hg; have NB154_152 := bg_ BK152 hg; replace BK146 := bb_ BK146 hb; replace BK147 := bb_ BK147 hb; replace BK148 := bb_ BK148 hb; replace BK152 := bb_ BK152 hb; replace HB := bs_ HB hb; clear hb hbox hg; obtain ⟨hnb148, hnc148⟩ := ns_ NB154_146; obtain ⟨hnb149, hnc149⟩ := ns_ NB154_147; obtain ⟨hnb150, hnc150⟩ := ns_ NB154_148; obtain ⟨hnb151, hnc151⟩ := ns_ NB154_152; obtain ⟨hcz152_0, hfz152_0⟩ := b1_ BK154; obtain ⟨hnb153, hnc153⟩ := ns_ NB147_146; obtain ⟨hnb154, hnc154⟩ := ns_ NB147_148; obtain ⟨hnb155, hnc155⟩ := ns_ NB147_152; obtain ⟨hcz156_0, hcz156_1, hcz156_2, hcz156_3, hfz156_0, hfz156_1, hfz156_2, hfz156_3⟩ := b4_ BK147; obtain ⟨hnb157, hnc157⟩ := ns_ NB152_146; obtain ⟨hnb158, hnc158⟩ := ns_ NB152_148; obtain ⟨hcz159_0, hcz159_1, hcz159_2, hfz159_0, hfz159_1, hfz159_2⟩ := b3_ BK152; obtain ⟨hnb160, hnc160⟩ := ns_ NB146_148; obtain ⟨hcz161_0, hfz161_0⟩ := b1_ BK146) | ((with_reducible refine gate_callee (f := 41) rfl ?_); refine gl_ 82 Try.func41 #[.agg #[.slice A0_0 l0_0.length c0_0], .agg #[.string x153000_59, .string x153001_59, .int .i64 (x153001_59.size : Int)]] ?_; (with_reducible refine (spec_l03Put.calls kj59 _ _ l0_0 x153000_59 x153001_59 (x153001_59.size : Int) t159 _ ?side1 ?side2 A144.out).mono ?_); (case side1 => exact Kd.C_below HR0_0.out (bw_ HB)); (case side2 => exact HC0_0.out); rintro e w162 ⟨v160, rfl, ho0, hb⟩; refine ⟨_, rfl, ?_⟩; have HO161 := mk_ (Kd.R_lower (Kd.R_newB ho0 (g := gb152) (o := .cells #[.string x153000_59, .string x153001_59, .int .i64 (x153001_59.size : Int)] 76 (0, 0)) bu_) (below_size (bw_ HB))); replace BK146 := mk_ (blk_below (g := gb146) (o := .cells #[.slice A0_0 l0_0.length c0_0] 31 (0, 0)) bf_ hb); replace BK147 := mk_ (blk_below (g := gb147) (o := .cells #[.int .i64 a1_0, .string a1_1, .string a1_2, .string a1_3] 35 (0, 0)) bf_ hb); replace BK148 := mk_ (blk_below (g := gb148) (o := .cells #[.slice none 0 0] 31 (0, 0)) bf_ hb); replace BK152 := mk_ (blk_below (g := gb152) (o := .cells #[.string x153000_59, .string x153001_59, .int .i64 (x153001_59.size : Int)] 76 (0, 0)) bu_ hb); replace BK154 := mk_ (blk_below (g := gb154) (o := .cells #[.slice none 0 0] 31 (0, 0)) bu_ hb); replace HB := bs_ HB hb; (try clear hb); (try clear hk); (try clear ho0); obtain ⟨Ao163, co163, eo163⟩ := Kd.R_slice HO161.out; subst eo163; obtain ⟨hcz164_0, hfz164_0⟩ := b1_ BK154) | ((with_reducible refine gate_callee (f := 38) rfl ?_); refine gl_ 125 Try.func38 #[.agg #[.slice Ao163 t159.length co163]] ?_; (with_reducible refine (spec_DiskOk.calls kj59 _ _ t159 true _ ?side1 ?side2 A145.out).mono ?_); (case side1 => refine (Kd.R_reads' (e := 76) (base := w.heap.size) (ok := fun k_ => (True ∧ k_ ≠ gb152)) (n := t159.length) (c := co163) ?_).2.2; exact (rq_ (rf_ HO161 BK154 0 (.slice Ao163 t159.length co163)))); (case side2 => exact (Kd.R_reads' HO161.out).2.1); rintro e w165 ⟨rfl, hb⟩; refine ⟨_, rfl, ?_⟩; replace HO161 := mk_ (Kd.R_below (rq_ (rf_ HO161 BK154 0 (.slice Ao163 t159.length co163))) hb); replace BK146 := mk_ (blk_below (g := gb146) (o := .cells #[.slice A0_0 l0_0.length c0_0] 31 (0, 0)) bf_ hb); replace BK147 := mk_ (blk_below (g := gb147) (o := .cells #[.int .i64 a1_0, .string a1_1, .string a1_2, .string a1_3] 35 (0, 0)) bf_ hb); replace BK148 := mk_ (blk_below (g := gb148) (o := .cells #[.slice none 0 0] 31 (0, 0)) bf_ hb); replace BK152 := mk_ (blk_below (g := gb152) (o := .cells #[.string x153000_59, .string x153001_59, .int .i64 (x153001_59.size : Int)] 76 (0, 0)) bf_ hb); replace BK154 := mk_ (blk_below (g := gb154) (o := .cells #[.slice Ao163 t159.length co163] 31 (0, 0)) bu_ hb); replace HB := bs_ HB hb; (try clear hb); (try clear hk); obtain ⟨hcz166_0, hfz166_0⟩ := b1_ BK154; obtain ⟨hcz167_0, hfz167_0⟩ := b1_ BK148))
       refine bodyPost_ret (results_ct rfl _ _ gb148 31 #[.slice Ao163 t159.length co163] (0, 0) _ rfl bu_ Try.underlying31 rfl (by kernel_rfl)) rfl ?_
       exact ⟨_, er_, rq_ (rt_ HO161 BK148 0 (.slice Ao163 t159.length co163)), bw_ HB⟩
      replace c146 := Bool.eq_false_iff.mpr c146
      subst c146
      rw [if_neg (show ¬ (false = true) by decide)] at H
      simp only [Option.some.injEq, Prod.mk.injEq] at H
      obtain ⟨rfl, rfl⟩ := H
      go_wp2_with (first | ((with_reducible refine gate_dst (N := 8) rfl ?_); refine bx_ (N := 8) (cs := #[.slice none 0 0]) (t := 31) ?_; intro gb154 hg w168 hbox hb; have BK154 := mk_ (hbox); have GW154 : Aside0 (w.heap.size ≤ gb154) := bz_ hg; have GE154 := GW154; have NB146_154 := bl_ BK146 hg; have NB154_146 := bg_ BK146 hg; have NB147_154 := bl_ BK147 hg; have NB154_147 := bg_ BK147 hg; have NB148_154 := bl_ BK148 hg; have NB154_148 := bg_ BK148 hg; have NB152_154 := bl_ BK152 hg; have NB154_152 := bg_ BK152 hg; replace BK146 := bb_ BK146 hb; replace BK147 := bb_ BK147 hb; replace BK148 := bb_ BK148 hb; replace BK152 := bb_ BK152 hb; replace HB := bs_ HB hb; clear hb hbox hg; obtain ⟨hnb169, hnc169⟩ := ns_ NB154_146; obtain ⟨hnb170, hnc170⟩ := ns_ NB154_147; obtain ⟨hnb171, hnc171⟩ := ns_ NB154_148; obtain ⟨hnb172, hnc172⟩ := ns_ NB154_152; obtain ⟨hcz173_0, hfz173_0⟩ := b1_ BK154; obtain ⟨hnb174, hnc174⟩ := ns_ NB147_146; obtain ⟨hnb175, hnc175⟩ := ns_ NB147_148; obtain ⟨hnb176, hnc176⟩ := ns_ NB147_152; obtain ⟨hcz177_0, hcz177_1, hcz177_2, hcz177_3, hfz177_0, hfz177_1, hfz177_2, hfz177_3⟩ := b4_ BK147; obtain ⟨hnb178, hnc178⟩ := ns_ NB152_146; obtain ⟨hnb179, hnc179⟩ := ns_ NB152_148; obtain ⟨hcz180_0, hcz180_1, hcz180_2, hfz180_0, hfz180_1, hfz180_2⟩ := b3_ BK152; obtain ⟨hnb181, hnc181⟩ := ns_ NB146_148; obtain ⟨hcz182_0, hfz182_0⟩ := b1_ BK146) | ((with_reducible refine gate_callee (f := 41) rfl ?_); refine gl_ 82 Try.func41 #[.agg #[.slice A0_0 l0_0.length c0_0], .agg #[.string x153000_59, .string x153001_59, .int .i64 (x153001_59.size : Int)]] ?_; (with_reducible refine (spec_l03Put.calls kj59 _ _ l0_0 x153000_59 x153001_59 (x153001_59.size : Int) t159 _ ?side1 ?side2 A144.out).mono ?_); (case side1 => exact Kd.C_below HR0_0.out (bw_ HB)); (case side2 => exact HC0_0.out); rintro e w183 ⟨v160, rfl, ho0, hb⟩; refine ⟨_, rfl, ?_⟩; have HO161 := mk_ (Kd.R_lower (Kd.R_newB ho0 (g := gb152) (o := .cells #[.string x153000_59, .string x153001_59, .int .i64 (x153001_59.size : Int)] 76 (0, 0)) bu_) (below_size (bw_ HB))); replace BK146 := mk_ (blk_below (g := gb146) (o := .cells #[.slice A0_0 l0_0.length c0_0] 31 (0, 0)) bf_ hb); replace BK147 := mk_ (blk_below (g := gb147) (o := .cells #[.int .i64 a1_0, .string a1_1, .string a1_2, .string a1_3] 35 (0, 0)) bf_ hb); replace BK148 := mk_ (blk_below (g := gb148) (o := .cells #[.slice none 0 0] 31 (0, 0)) bf_ hb); replace BK152 := mk_ (blk_below (g := gb152) (o := .cells #[.string x153000_59, .string x153001_59, .int .i64 (x153001_59.size : Int)] 76 (0, 0)) bu_ hb); replace BK154 := mk_ (blk_below (g := gb154) (o := .cells #[.slice none 0 0] 31 (0, 0)) bu_ hb); replace HB := bs_ HB hb; (try clear hb); (try clear hk); (try clear ho0); obtain ⟨Ao184, co184, eo184⟩ := Kd.R_slice HO161.out; subst eo184; obtain ⟨hcz185_0, hfz185_0⟩ := b1_ BK154) | ((with_reducible refine gate_callee (f := 38) rfl ?_); refine gl_ 125 Try.func38 #[.agg #[.slice Ao184 t159.length co184]] ?_; (with_reducible refine (spec_DiskOk.calls kj59 _ _ t159 false _ ?side1 ?side2 A145.out).mono ?_); (case side1 => refine (Kd.R_reads' (e := 76) (base := w.heap.size) (ok := fun k_ => (True ∧ k_ ≠ gb152)) (n := t159.length) (c := co184) ?_).2.2; exact (rq_ (rf_ HO161 BK154 0 (.slice Ao184 t159.length co184)))); (case side2 => exact (Kd.R_reads' HO161.out).2.1); rintro e w186 ⟨rfl, hb⟩; refine ⟨_, rfl, ?_⟩; replace HO161 := mk_ (Kd.R_below (rq_ (rf_ HO161 BK154 0 (.slice Ao184 t159.length co184))) hb); replace BK146 := mk_ (blk_below (g := gb146) (o := .cells #[.slice A0_0 l0_0.length c0_0] 31 (0, 0)) bf_ hb); replace BK147 := mk_ (blk_below (g := gb147) (o := .cells #[.int .i64 a1_0, .string a1_1, .string a1_2, .string a1_3] 35 (0, 0)) bf_ hb); replace BK148 := mk_ (blk_below (g := gb148) (o := .cells #[.slice none 0 0] 31 (0, 0)) bf_ hb); replace BK152 := mk_ (blk_below (g := gb152) (o := .cells #[.string x153000_59, .string x153001_59, .int .i64 (x153001_59.size : Int)] 76 (0, 0)) bf_ hb); replace BK154 := mk_ (blk_below (g := gb154) (o := .cells #[.slice Ao184 t159.length co184] 31 (0, 0)) bu_ hb); replace HB := bs_ HB hb; (try clear hb); (try clear hk); obtain ⟨hcz187_0, hfz187_0⟩ := b1_ BK148))
      refine bodyPost_ret (results_ct rfl _ _ gb148 31 #[.slice none 0 0] (0, 0) _ rfl bu_ Try.underlying31 rfl (by kernel_rfl)) rfl ?_
      exact ⟨_, er_, by first | exact Kd.R_nil _ _ _ _ _ | exact Kd.N_nil _ _ _ _ _ | exact Kd.V_nil _ _ _ _ _ | exact Kd.Q_nil _ _ _ _ _ | exact Kd.S_nil _ _ _ _ _, bw_ HB⟩
     rw [if_neg c143] at H
     have c143b0 : (a1_0 == 2) = false := beq_eq_false_iff_ne.mpr c143
     have c143b1 : (a1_0 != 2) = true := bne_iff_ne.mpr c143
     by_cases c188 : a1_0 = 3
     rotate_left
     ·rw [if_neg c188] at H
      have c188b0 : (a1_0 == 3) = false := beq_eq_false_iff_ne.mpr c188
      have c188b1 : (a1_0 != 3) = true := bne_iff_ne.mpr c188
      by_cases c281 : a1_0 = 4
      rotate_left
      ·rw [if_neg c281] at H
       have c281b0 : (a1_0 == 4) = false := beq_eq_false_iff_ne.mpr c281
       have c281b1 : (a1_0 != 4) = true := bne_iff_ne.mpr c281
       simp only [Option.some.injEq, Prod.mk.injEq] at H
       obtain ⟨rfl, rfl⟩ := H
       go_wp2_with (first | ((with_reducible refine gate_dst (N := 8) rfl ?_); refine bx_ (N := 8) (cs := #[.slice none 0 0]) (t := 31) ?_; intro gb154 hg w324 hbox hb; have BK154 := mk_ (hbox); have GW154 : Aside0 (w.heap.size ≤ gb154) := bz_ hg; have GE154 := GW154; have NB146_154 := bl_ BK146 hg; have NB154_146 := bg_ BK146 hg; have NB147_154 := bl_ BK147 hg; have NB154_147 := bg_ BK147 hg; have NB148_154 := bl_ BK148 hg; have NB154_148 := bg_ BK148 hg; have NB152_154 := bl_ BK152 hg; have NB154_152 := bg_ BK152 hg; replace BK146 := bb_ BK146 hb; replace BK147 := bb_ BK147 hb; replace BK148 := bb_ BK148 hb; replace BK152 := bb_ BK152 hb; replace HB := bs_ HB hb; clear hb hbox hg; obtain ⟨hnb325, hnc325⟩ := ns_ NB154_146; obtain ⟨hnb326, hnc326⟩ := ns_ NB154_147; obtain ⟨hnb327, hnc327⟩ := ns_ NB154_148; obtain ⟨hnb328, hnc328⟩ := ns_ NB154_152; obtain ⟨hcz329_0, hfz329_0⟩ := b1_ BK154; obtain ⟨hnb330, hnc330⟩ := ns_ NB147_146; obtain ⟨hnb331, hnc331⟩ := ns_ NB147_148; obtain ⟨hnb332, hnc332⟩ := ns_ NB147_152; obtain ⟨hcz333_0, hcz333_1, hcz333_2, hcz333_3, hfz333_0, hfz333_1, hfz333_2, hfz333_3⟩ := b4_ BK147; obtain ⟨hnb334, hnc334⟩ := ns_ NB148_146; obtain ⟨hnb335, hnc335⟩ := ns_ NB148_152; obtain ⟨hcz336_0, hfz336_0⟩ := b1_ BK148))
       refine bodyPost_ret (results_ct rfl _ _ gb148 31 #[.slice none 0 0] (0, 0) _ rfl bu_ Try.underlying31 rfl (by kernel_rfl)) rfl ?_
       exact ⟨_, er_, by first | exact Kd.R_nil _ _ _ _ _ | exact Kd.N_nil _ _ _ _ _ | exact Kd.V_nil _ _ _ _ _ | exact Kd.Q_nil _ _ _ _ _ | exact Kd.S_nil _ _ _ _ _, bw_ HB⟩
      rw [if_pos c281] at H
      have c281b0 : (a1_0 == 4) = true := beq_iff_eq.mpr c281
      have c281b1 : (a1_0 != 4) = false := bne_eq_false_iff_eq.mpr c281
      clear c281
      replace H := Option.bind_eq_some_iff.mp H
      obtain ⟨t171, A2820, H⟩ := H
      try dsimp only at H
      have A282 := Aside0.mk A2820
      clear A2820
      replace H := Option.bind_eq_some_iff.mp H
      obtain ⟨t174, A2830, H⟩ := H
      try dsimp only at H
      have A283 := Aside0.mk A2830
      clear A2830
      by_cases c284 : t174 = true
      ·subst c284
       rw [if_pos rfl] at H
       simp only [Option.some.injEq, Prod.mk.injEq] at H
       obtain ⟨rfl, rfl⟩ := H
       go_wp2_with (first | ((with_reducible refine gate_dst (N := 8) rfl ?_); refine bx_ (N := 8) (cs := #[.slice none 0 0]) (t := 31) ?_; intro gb154 hg w285 hbox hb; have BK154 := mk_ (hbox); have GW154 : Aside0 (w.heap.size ≤ gb154) := bz_ hg; have GE154 := GW154; have NB146_154 := bl_ BK146 hg; have NB154_146 := bg_ BK146 hg; have NB147_154 := bl_ BK147 hg; have NB154_147 := bg_ BK147 hg; have NB148_154 := bl_ BK148 hg; have NB154_148 := bg_ BK148 hg; have NB152_154 := bl_ BK152 hg; have NB154_152 := bg_ BK152 hg; replace BK146 := bb_ BK146 hb; replace BK147 := bb_ BK147 hb; replace BK148 := bb_ BK148 hb; replace BK152 := bb_ BK152 hb; replace HB := bs_ HB hb; clear hb hbox hg; obtain ⟨hnb286, hnc286⟩ := ns_ NB154_146; obtain ⟨hnb287, hnc287⟩ := ns_ NB154_147; obtain ⟨hnb288, hnc288⟩ := ns_ NB154_148; obtain ⟨hnb289, hnc289⟩ := ns_ NB154_152; obtain ⟨hcz290_0, hfz290_0⟩ := b1_ BK154; obtain ⟨hnb291, hnc291⟩ := ns_ NB147_146; obtain ⟨hnb292, hnc292⟩ := ns_ NB147_148; obtain ⟨hnb293, hnc293⟩ := ns_ NB147_152; obtain ⟨hcz294_0, hcz294_1, hcz294_2, hcz294_3, hfz294_0, hfz294_1, hfz294_2, hfz294_3⟩ := b4_ BK147; obtain ⟨hnb295, hnc295⟩ := ns_ NB146_148; obtain ⟨hnb296, hnc296⟩ := ns_ NB146_152; obtain ⟨hcz297_0, hfz297_0⟩ := b1_ BK146) | ((with_reducible refine gate_callee (f := 42) rfl ?_); refine gl_ 123 Try.func42 #[.agg #[.slice A0_0 l0_0.length c0_0], .string a1_1] ?_; (with_reducible refine (spec_l03Without.calls kj59 _ _ l0_0 a1_1 t171 _ ?side1 ?side2 A282.out).mono ?_); (case side1 => exact Kd.C_below HR0_0.out (bw_ HB)); (case side2 => exact HC0_0.out); rintro e w298 ⟨v172, rfl, ho0, hb⟩; refine ⟨_, rfl, ?_⟩; have HO173 := mk_ (Kd.R_lower (Kd.R_newB ho0 (g := gb152) (o := .cells #[.string x153000_59, .string x153001_59, .int .i64 x153002_59] 76 (0, 0)) bf_) (below_size (bw_ HB))); replace BK146 := mk_ (blk_below (g := gb146) (o := .cells #[.slice A0_0 l0_0.length c0_0] 31 (0, 0)) bf_ hb); replace BK147 := mk_ (blk_below (g := gb147) (o := .cells #[.int .i64 a1_0, .string a1_1, .string a1_2, .string a1_3] 35 (0, 0)) bf_ hb); replace BK148 := mk_ (blk_below (g := gb148) (o := .cells #[.slice none 0 0] 31 (0, 0)) bf_ hb); replace BK152 := mk_ (blk_below (g := gb152) (o := .cells #[.string x153000_59, .string x153001_59, .int .i64 x153002_59] 76 (0, 0)) bf_ hb); replace BK154 := mk_ (blk_below (g := gb154) (o := .cells #[.slice none 0 0] 31 (0, 0)) bu_ hb); replace HB := bs_ HB hb; (try clear hb); (try clear hk); (try clear ho0); obtain ⟨Ao299, co299, eo299⟩ := Kd.R_slice HO173.out; subst eo299; obtain ⟨hcz300_0, hfz300_0⟩ := b1_ BK154) | ((with_reducible refine gate_callee (f := 38) rfl ?_); refine gl_ 125 Try.func38 #[.agg #[.slice Ao299 t171.length co299]] ?_; (with_reducible refine (spec_DiskOk.calls kj59 _ _ t171 true _ ?side1 ?side2 A283.out).mono ?_); (case side1 => refine (Kd.R_reads' (e := 76) (base := w.heap.size) (ok := fun k_ => (True ∧ k_ ≠ gb152)) (n := t171.length) (c := co299) ?_).2.2; exact (rq_ (rf_ HO173 BK154 0 (.slice Ao299 t171.length co299)))); (case side2 => exact (Kd.R_reads' HO173.out).2.1); rintro e w301 ⟨rfl, hb⟩; refine ⟨_, rfl, ?_⟩; replace HO173 := mk_ (Kd.R_below (rq_ (rf_ HO173 BK154 0 (.slice Ao299 t171.length co299))) hb); replace BK146 := mk_ (blk_below (g := gb146) (o := .cells #[.slice A0_0 l0_0.length c0_0] 31 (0, 0)) bf_ hb); replace BK147 := mk_ (blk_below (g := gb147) (o := .cells #[.int .i64 a1_0, .string a1_1, .string a1_2, .string a1_3] 35 (0, 0)) bf_ hb); replace BK148 := mk_ (blk_below (g := gb148) (o := .cells #[.slice none 0 0] 31 (0, 0)) bf_ hb); replace BK152 := mk_ (blk_below (g := gb152) (o := .cells #[.string x153000_59, .string x153001_59, .int .i64 x153002_59] 76 (0, 0)) bf_ hb); replace BK154 := mk_ (blk_below (g := gb154) (o := .cells #[.slice Ao299 t171.length co299] 31 (0, 0)) bu_ hb); replace HB := bs_ HB hb; (try clear hb); (try clear hk); obtain ⟨hcz302_0, hfz302_0⟩ := b1_ BK154; obtain ⟨hnb303, hnc303⟩ := ns_ NB148_152; obtain ⟨hcz304_0, hfz304_0⟩ := b1_ BK148))
       refine bodyPost_ret (results_ct rfl _ _ gb148 31 #[.slice Ao299 t171.length co299] (0, 0) _ rfl bu_ Try.underlying31 rfl (by kernel_rfl)) rfl ?_
       exact ⟨_, er_, rq_ (rt_ HO173 BK148 0 (.slice Ao299 t171.length co299)), bw_ HB⟩
      replace c284 := Bool.eq_false_iff.mpr c284
      subst c284
      rw [if_neg (show ¬ (false = true) by decide)] at H
      simp only [Option.some.injEq, Prod.mk.injEq] at H
      obtain ⟨rfl, rfl⟩ := H
      go_wp2_with (first | ((with_reducible refine gate_dst (N := 8) rfl ?_); refine bx_ (N := 8) (cs := #[.slice none 0 0]) (t := 31) ?_; intro gb154 hg w305 hbox hb; have BK154 := mk_ (hbox); have GW154 : Aside0 (w.heap.size ≤ gb154) := bz_ hg; have GE154 := GW154; have NB146_154 := bl_ BK146 hg; have NB154_146 := bg_ BK146 hg; have NB147_154 := bl_ BK147 hg; have NB154_147 := bg_ BK147 hg; have NB148_154 := bl_ BK148 hg; have NB154_148 := bg_ BK148 hg; have NB152_154 := bl_ BK152 hg; have NB154_152 := bg_ BK152 hg; replace BK146 := bb_ BK146 hb; replace BK147 := bb_ BK147 hb; replace BK148 := bb_ BK148 hb; replace BK152 := bb_ BK152 hb; replace HB := bs_ HB hb; clear hb hbox hg; obtain ⟨hnb306, hnc306⟩ := ns_ NB154_146; obtain ⟨hnb307, hnc307⟩ := ns_ NB154_147; obtain ⟨hnb308, hnc308⟩ := ns_ NB154_148; obtain ⟨hnb309, hnc309⟩ := ns_ NB154_152; obtain ⟨hcz310_0, hfz310_0⟩ := b1_ BK154; obtain ⟨hnb311, hnc311⟩ := ns_ NB147_146; obtain ⟨hnb312, hnc312⟩ := ns_ NB147_148; obtain ⟨hnb313, hnc313⟩ := ns_ NB147_152; obtain ⟨hcz314_0, hcz314_1, hcz314_2, hcz314_3, hfz314_0, hfz314_1, hfz314_2, hfz314_3⟩ := b4_ BK147; obtain ⟨hnb315, hnc315⟩ := ns_ NB146_148; obtain ⟨hnb316, hnc316⟩ := ns_ NB146_152; obtain ⟨hcz317_0, hfz317_0⟩ := b1_ BK146) | ((with_reducible refine gate_callee (f := 42) rfl ?_); refine gl_ 123 Try.func42 #[.agg #[.slice A0_0 l0_0.length c0_0], .string a1_1] ?_; (with_reducible refine (spec_l03Without.calls kj59 _ _ l0_0 a1_1 t171 _ ?side1 ?side2 A282.out).mono ?_); (case side1 => exact Kd.C_below HR0_0.out (bw_ HB)); (case side2 => exact HC0_0.out); rintro e w318 ⟨v172, rfl, ho0, hb⟩; refine ⟨_, rfl, ?_⟩; have HO173 := mk_ (Kd.R_lower (Kd.R_newB ho0 (g := gb152) (o := .cells #[.string x153000_59, .string x153001_59, .int .i64 x153002_59] 76 (0, 0)) bf_) (below_size (bw_ HB))); replace BK146 := mk_ (blk_below (g := gb146) (o := .cells #[.slice A0_0 l0_0.length c0_0] 31 (0, 0)) bf_ hb); replace BK147 := mk_ (blk_below (g := gb147) (o := .cells #[.int .i64 a1_0, .string a1_1, .string a1_2, .string a1_3] 35 (0, 0)) bf_ hb); replace BK148 := mk_ (blk_below (g := gb148) (o := .cells #[.slice none 0 0] 31 (0, 0)) bf_ hb); replace BK152 := mk_ (blk_below (g := gb152) (o := .cells #[.string x153000_59, .string x153001_59, .int .i64 x153002_59] 76 (0, 0)) bf_ hb); replace BK154 := mk_ (blk_below (g := gb154) (o := .cells #[.slice none 0 0] 31 (0, 0)) bu_ hb); replace HB := bs_ HB hb; (try clear hb); (try clear hk); (try clear ho0); obtain ⟨Ao319, co319, eo319⟩ := Kd.R_slice HO173.out; subst eo319; obtain ⟨hcz320_0, hfz320_0⟩ := b1_ BK154) | ((with_reducible refine gate_callee (f := 38) rfl ?_); refine gl_ 125 Try.func38 #[.agg #[.slice Ao319 t171.length co319]] ?_; (with_reducible refine (spec_DiskOk.calls kj59 _ _ t171 false _ ?side1 ?side2 A283.out).mono ?_); (case side1 => refine (Kd.R_reads' (e := 76) (base := w.heap.size) (ok := fun k_ => (True ∧ k_ ≠ gb152)) (n := t171.length) (c := co319) ?_).2.2; exact (rq_ (rf_ HO173 BK154 0 (.slice Ao319 t171.length co319)))); (case side2 => exact (Kd.R_reads' HO173.out).2.1); rintro e w321 ⟨rfl, hb⟩; refine ⟨_, rfl, ?_⟩; replace HO173 := mk_ (Kd.R_below (rq_ (rf_ HO173 BK154 0 (.slice Ao319 t171.length co319))) hb); replace BK146 := mk_ (blk_below (g := gb146) (o := .cells #[.slice A0_0 l0_0.length c0_0] 31 (0, 0)) bf_ hb); replace BK147 := mk_ (blk_below (g := gb147) (o := .cells #[.int .i64 a1_0, .string a1_1, .string a1_2, .string a1_3] 35 (0, 0)) bf_ hb); replace BK148 := mk_ (blk_below (g := gb148) (o := .cells #[.slice none 0 0] 31 (0, 0)) bf_ hb); replace BK152 := mk_ (blk_below (g := gb152) (o := .cells #[.string x153000_59, .string x153001_59, .int .i64 x153002_59] 76 (0, 0)) bf_ hb); replace BK154 := mk_ (blk_below (g := gb154) (o := .cells #[.slice Ao319 t171.length co319] 31 (0, 0)) bu_ hb); replace HB := bs_ HB hb; (try clear hb); (try clear hk); obtain ⟨hnb322, hnc322⟩ := ns_ NB148_152; obtain ⟨hcz323_0, hfz323_0⟩ := b1_ BK148))
      refine bodyPost_ret (results_ct rfl _ _ gb148 31 #[.slice none 0 0] (0, 0) _ rfl bu_ Try.underlying31 rfl (by kernel_rfl)) rfl ?_
      exact ⟨_, er_, by first | exact Kd.R_nil _ _ _ _ _ | exact Kd.N_nil _ _ _ _ _ | exact Kd.V_nil _ _ _ _ _ | exact Kd.Q_nil _ _ _ _ _ | exact Kd.S_nil _ _ _ _ _, bw_ HB⟩
     rw [if_pos c188] at H
     have c188b0 : (a1_0 == 3) = true := beq_iff_eq.mpr c188
     have c188b1 : (a1_0 != 3) = false := bne_eq_false_iff_eq.mpr c188
     clear c188
     have HC189 := Aside0.mk H
     clear H
     go_upto_region 18 with (first | ((with_reducible refine gate_dst (N := 8) rfl ?_); refine bx_ (N := 8) (cs := #[.slice none 0 0]) (t := 31) ?_; intro gb154 hg w190 hbox hb; have BK154 := mk_ (hbox); have GW154 : Aside0 (w.heap.size ≤ gb154) := bz_ hg; have GE154 := GW154; have NB146_154 := bl_ BK146 hg; have NB154_146 := bg_ BK146 hg; have NB147_154 := bl_ BK147 hg; have NB154_147 := bg_ BK147 hg; have NB148_154 := bl_ BK148 hg; have NB154_148 := bg_ BK148 hg; have NB152_154 := bl_ BK152 hg; have NB154_152 := bg_ BK152 hg; replace BK146 := bb_ BK146 hb; replace BK147 := bb_ BK147 hb; replace BK148 := bb_ BK148 hb; replace BK152 := bb_ BK152 hb; replace HB := bs_ HB hb; clear hb hbox hg; obtain ⟨hnb191, hnc191⟩ := ns_ NB154_146; obtain ⟨hnb192, hnc192⟩ := ns_ NB154_147; obtain ⟨hnb193, hnc193⟩ := ns_ NB154_148; obtain ⟨hnb194, hnc194⟩ := ns_ NB154_152; obtain ⟨hcz195_0, hfz195_0⟩ := b1_ BK154; obtain ⟨hnb196, hnc196⟩ := ns_ NB147_146; obtain ⟨hnb197, hnc197⟩ := ns_ NB147_148; obtain ⟨hnb198, hnc198⟩ := ns_ NB147_152; obtain ⟨hcz199_0, hcz199_1, hcz199_2, hcz199_3, hfz199_0, hfz199_1, hfz199_2, hfz199_3⟩ := b4_ BK147))
     (try simp only [Act.put, sia_, scz_, scs_])
     go_cut [105] (fun v105 wc => ∃ (kq : Nat) (x105_188 : Bool), v105 = .bool x105_188 ∧ Aside0 (spec_DoAct.j2 kq x105_188 l0_0 a1_0 a1_1 a1_2 a1_3 x153000_59 x153001_59 x153002_59 = some (r1, r2)) ∧ Aside0 (kq ≤ kj59) ∧ Aside0 (wc.heap[gb146]? = some (.cells #[(.slice A0_0 l0_0.length c0_0)] 31 (0, 0))) ∧ Aside0 (wc.heap[gb147]? = some (.cells #[.int .i64 a1_0, .string a1_1, .string a1_2, .string a1_3] 35 (0, 0))) ∧ Aside0 (wc.heap[gb148]? = some (.cells #[(.slice none 0 0)] 31 (0, 0))) ∧ Aside0 (wc.heap[gb152]? = some (.cells #[.string x153000_59, .string x153001_59, .int .i64 x153002_59] 76 (0, 0))) ∧ Aside0 (wc.heap[gb154]? = some (.cells #[(.slice none 0 0)] 31 (0, 0))) ∧ Aside0 (Below w.heap.size w wc))
     case first =>
      have H := HC189.out
      clear HC189
      by_cases c200 : x153002_59 < (x153001_59.size : Int)
      ·rw [if_pos c200] at H
       have c200b0 : decide (x153002_59 < (x153001_59.size : Int)) = true := decide_eq_true c200
       clear c200
       (first | rw [c200b0] | (simp only [i64_w, i32_w]; rw [c200b0]) | skip)
       have H' := Aside0.mk H
       clear H
       obtain ⟨hnb201, hnc201⟩ := ns_ NB152_146
       obtain ⟨hnb202, hnc202⟩ := ns_ NB152_147
       obtain ⟨hnb203, hnc203⟩ := ns_ NB152_148
       obtain ⟨hnb204, hnc204⟩ := ns_ NB152_154
       have hcz205_0 : w190.cell? ⟨gb152, 0, none⟩ = some (.string x153000_59) := bc_ BK152 0
       have hcz205_1 : w190.cell? ⟨gb152, 1, none⟩ = some (.string x153001_59) := bc_ BK152 1
       have hcz205_2 : w190.cell? ⟨gb152, 2, none⟩ = some (.int .i64 x153002_59) := bc_ BK152 2
       have hfz205_0 := blk_frozen BK152.out 0
       have hfz205_1 := blk_frozen BK152.out 1
       have hfz205_2 := blk_frozen BK152.out 2
       go_wp2
       go_meet
       case rel => exact ⟨_, (true), (by first | rfl | (simp; done) | (simp [*]; done) | (simp [bne]; done)), H', ⟨by have := HJ2.out; have := HJ59.out; first | omega | exact Nat.le_refl _⟩, ⟨bf_⟩, ⟨bf_⟩, ⟨bf_⟩, ⟨bf_⟩, ⟨bu_⟩, ⟨bw_ HB⟩⟩
      rw [if_neg c200] at H
      have c200b0 : decide (x153002_59 < (x153001_59.size : Int)) = false := decide_eq_false c200
      clear c200
      (first | rw [c200b0] | (simp only [i64_w, i32_w]; rw [c200b0]) | skip)
      by_cases c206 : a1_3.toList = a1_1.toList
      ·rw [if_pos c206] at H
       have c206b0 : (a1_3.toList == a1_1.toList) = true := beq_iff_eq.mpr c206
       have c206b1 : (a1_3.toList != a1_1.toList) = false := bne_eq_false_iff_eq.mpr c206
       clear c206
       have H' := Aside0.mk H
       clear H
       obtain ⟨hnb207, hnc207⟩ := ns_ NB152_146
       obtain ⟨hnb208, hnc208⟩ := ns_ NB152_147
       obtain ⟨hnb209, hnc209⟩ := ns_ NB152_148
       obtain ⟨hnb210, hnc210⟩ := ns_ NB152_154
       have hcz211_0 : w190.cell? ⟨gb152, 0, none⟩ = some (.string x153000_59) := bc_ BK152 0
       have hcz211_1 : w190.cell? ⟨gb152, 1, none⟩ = some (.string x153001_59) := bc_ BK152 1
       have hcz211_2 : w190.cell? ⟨gb152, 2, none⟩ = some (.int .i64 x153002_59) := bc_ BK152 2
       have hfz211_0 := blk_frozen BK152.out 0
       have hfz211_1 := blk_frozen BK152.out 1
       have hfz211_2 := blk_frozen BK152.out 2
       obtain ⟨hnb212, hnc212⟩ := ns_ NB147_146
       obtain ⟨hnb213, hnc213⟩ := ns_ NB147_148
       obtain ⟨hnb214, hnc214⟩ := ns_ NB147_154
       have hcz215_0 : w190.cell? ⟨gb147, 0, none⟩ = some (.int .i64 a1_0) := bc_ BK147 0
       have hcz215_1 : w190.cell? ⟨gb147, 1, none⟩ = some (.string a1_1) := bc_ BK147 1
       have hcz215_2 : w190.cell? ⟨gb147, 2, none⟩ = some (.string a1_2) := bc_ BK147 2
       have hcz215_3 : w190.cell? ⟨gb147, 3, none⟩ = some (.string a1_3) := bc_ BK147 3
       have hfz215_0 := blk_frozen BK147.out 0
       have hfz215_1 := blk_frozen BK147.out 1
       have hfz215_2 := blk_frozen BK147.out 2
       have hfz215_3 := blk_frozen BK147.out 3
       go_wp2
       go_meet
       case rel => exact ⟨_, (true), (by first | rfl | (simp; done) | (simp [*]; done) | (simp [bne]; done)), H', ⟨by have := HJ2.out; have := HJ59.out; first | omega | exact Nat.le_refl _⟩, ⟨bf_⟩, ⟨bf_⟩, ⟨bf_⟩, ⟨bf_⟩, ⟨bu_⟩, ⟨bw_ HB⟩⟩
      rw [if_neg c206] at H
      have c206b0 : (a1_3.toList == a1_1.toList) = false := beq_eq_false_iff_ne.mpr c206
      have c206b1 : (a1_3.toList != a1_1.toList) = true := bne_iff_ne.mpr c206
      replace H := Option.bind_eq_some_iff.mp H
      obtain ⟨t163, A2160, H⟩ := H
      try dsimp only at H
      have A216 := Aside0.mk A2160
      clear A2160
      have H' := Aside0.mk H
      clear H
      obtain ⟨hnb217, hnc217⟩ := ns_ NB152_146
      obtain ⟨hnb218, hnc218⟩ := ns_ NB152_147
      obtain ⟨hnb219, hnc219⟩ := ns_ NB152_148
      obtain ⟨hnb220, hnc220⟩ := ns_ NB152_154
      have hcz221_0 : w190.cell? ⟨gb152, 0, none⟩ = some (.string x153000_59) := bc_ BK152 0
      have hcz221_1 : w190.cell? ⟨gb152, 1, none⟩ = some (.string x153001_59) := bc_ BK152 1
      have hcz221_2 : w190.cell? ⟨gb152, 2, none⟩ = some (.int .i64 x153002_59) := bc_ BK152 2
      have hfz221_0 := blk_frozen BK152.out 0
      have hfz221_1 := blk_frozen BK152.out 1
      have hfz221_2 := blk_frozen BK152.out 2
      obtain ⟨hnb222, hnc222⟩ := ns_ NB147_146
      obtain ⟨hnb223, hnc223⟩ := ns_ NB147_148
      obtain ⟨hnb224, hnc224⟩ := ns_ NB147_154
      have hcz225_0 : w190.cell? ⟨gb147, 0, none⟩ = some (.int .i64 a1_0) := bc_ BK147 0
      have hcz225_1 : w190.cell? ⟨gb147, 1, none⟩ = some (.string a1_1) := bc_ BK147 1
      have hcz225_2 : w190.cell? ⟨gb147, 2, none⟩ = some (.string a1_2) := bc_ BK147 2
      have hcz225_3 : w190.cell? ⟨gb147, 3, none⟩ = some (.string a1_3) := bc_ BK147 3
      have hfz225_0 := blk_frozen BK147.out 0
      have hfz225_1 := blk_frozen BK147.out 1
      have hfz225_2 := blk_frozen BK147.out 2
      have hfz225_3 := blk_frozen BK147.out 3
      go_wp2_with (first | (go_at_call 39; (with_reducible refine (spec_l03Name.calls a1_3 t163 _ A216.out).mono ?_); rintro e w' ⟨rfl, ⟨nd, rfl⟩⟩))
      go_meet
      case rel => exact ⟨_, (!t163), (by first | rfl | (simp; done) | (simp [*]; done) | (simp [bne]; done)), H', ⟨by have := HJ2.out; have := HJ59.out; first | omega | exact Nat.le_refl _⟩, ⟨bf_⟩, ⟨bf_⟩, ⟨bf_⟩, ⟨bf_⟩, ⟨bu_⟩, ⟨bw_ HB⟩⟩
     case rest =>
      clear HC189
      (try clear c1); (try clear p1); (try clear q1); (try clear hx1); (try clear c2); (try clear p2); (try clear c3); (try clear c4); (try clear c5); (try clear c6); (try clear c7); (try clear c8); (try clear c9); (try clear c10); (try clear c11); (try clear c11b0); (try clear c11b1); (try clear c12); (try clear c12b0); (try clear c12b1); (try clear c13); (try clear c14); (try clear c15); (try clear p15); (try clear q15); (try clear hx15); (try clear c16); (try clear c17); (try clear c18); (try clear c19); (try clear c20); (try clear c21); (try clear c22); (try clear c23); (try clear c25); (try clear c25b0); (try clear c25b1); (try clear c26); (try clear c26b0); (try clear c26b1); (try clear c27); (try clear c28); (try clear c31); (try clear c33); (try clear c34); (try clear c37); (try clear c38); (try clear c39); (try clear c40); (try clear c41); (try clear c43); (try clear c45); (try clear c46); (try clear c49); (try clear c51); (try clear c52); (try clear c55); (try clear c56); (try clear c57); (try clear c61); (try clear c62); (try clear c64); (try clear c69); (try clear c70); (try clear c71); (try clear c73); (try clear c73b0); (try clear c74); (try clear c74b0); (try clear c75); (try clear c75b0); (try clear c76); (try clear c77); (try clear c78); (try clear c80); (try clear c81); (try clear c83); (try clear c83b0); (try clear c83b1); (try clear c84); (try clear c84b0); (try clear c84b1); (try clear c84b2); (try clear c87); (try clear c89); (try clear c90); (try clear c91); (try clear c92); (try clear c94); (try clear c95); (try clear c96); (try clear c98); (try clear c99); (try clear c101); (try clear c110); (try clear c111); (try clear c112); (try clear c113); (try clear c115); (try clear c116); (try clear c117); (try clear c119); (try clear c120); (try clear c122); (try clear c129); (try clear c129b0); (try clear c131); (try clear c132); (try clear c133); (try clear c134); (try clear c136); (try clear c137); (try clear c138); (try clear c140); (try clear c141); (try clear c143); (try clear c143b0); (try clear c143b1); (try clear c146); (try clear c148); (try clear c149); (try clear c150); (try clear c151); (try clear c153); (try clear p153); (try clear q153); (try clear hx153); (try clear c154); (try clear c155); (try clear c157); (try clear c158); (try clear c160); (try clear c169); (try clear c170); (try clear c171); (try clear c172); (try clear c174); (try clear c175); (try clear c176); (try clear c178); (try clear c179); (try clear c181); (try clear c188); (try clear c188b0); (try clear c188b1); (try clear c191); (try clear c192); (try clear c193); (try clear c194); (try clear c196); (try clear c197); (try clear c198); (try clear c200); (try clear c200b0); (try clear c201); (try clear c202); (try clear c203); (try clear c204); (try clear c206); (try clear c206b0); (try clear c206b1); (try clear c207); (try clear c208); (try clear c209); (try clear c210); (try clear c212); (try clear c213); (try clear c214); (try clear c217); (try clear c218); (try clear c219); (try clear c220); (try clear c222); (try clear c223); (try clear c224); (try clear hcz100_0); (try clear hcz100_1); (try clear hcz100_2); (try clear hcz102_0); (try clear hcz105_0); (try clear hcz107_0); (try clear hcz108_0); (try clear hcz114_0); (try clear hcz118_0); (try clear hcz118_1); (try clear hcz118_2); (try clear hcz118_3); (try clear hcz121_0); (try clear hcz121_1); (try clear hcz121_2); (try clear hcz123_0); (try clear hcz126_0); (try clear hcz128_0); (try clear hcz135_0); (try clear hcz139_0); (try clear hcz139_1); (try clear hcz139_2); (try clear hcz139_3); (try clear hcz142_0); (try clear hcz152_0); (try clear hcz156_0); (try clear hcz156_1); (try clear hcz156_2); (try clear hcz156_3); (try clear hcz159_0); (try clear hcz159_1); (try clear hcz159_2); (try clear hcz15_0); (try clear hcz161_0); (try clear hcz164_0); (try clear hcz166_0); (try clear hcz167_0); (try clear hcz173_0); (try clear hcz177_0); (try clear hcz177_1); (try clear hcz177_2); (try clear hcz177_3); (try clear hcz180_0); (try clear hcz180_1); (try clear hcz180_2); (try clear hcz182_0); (try clear hcz185_0); (try clear hcz187_0); (try clear hcz18_0); (try clear hcz18_1); (try clear hcz18_2); (try clear hcz18_3); (try clear hcz195_0); (try clear hcz199_0); (try clear hcz199_1); (try clear hcz199_2); (try clear hcz199_3); (try clear hcz205_0); (try clear hcz205_1); (try clear hcz205_2); (try clear hcz211_0); (try clear hcz211_1); (try clear hcz211_2); (try clear hcz215_0); (try clear hcz215_1); (try clear hcz215_2); (try clear hcz215_3); (try clear hcz21_0); (try clear hcz221_0); (try clear hcz221_1); (try clear hcz221_2); (try clear hcz225_0); (try clear hcz225_1); (try clear hcz225_2); (try clear hcz225_3); (try clear hcz24_0); (try clear hcz24_1); (try clear hcz24_2); (try clear hcz24_3); (try clear hcz29_0); (try clear hcz32_0); (try clear hcz32_1); (try clear hcz32_2); (try clear hcz32_3); (try clear hcz35_0); (try clear hcz38_0); (try clear hcz38_1); (try clear hcz38_2); (try clear hcz38_3); (try clear hcz41_0); (try clear hcz44_0); (try clear hcz44_1); (try clear hcz44_2); (try clear hcz44_3); (try clear hcz47_0); (try clear hcz50_0); (try clear hcz50_1); (try clear hcz50_2); (try clear hcz50_3); (try clear hcz53_0); (try clear hcz58_0); (try clear hcz63_0); (try clear hcz65_0); (try clear hcz65_1); (try clear hcz65_2); (try clear hcz65_3); (try clear hcz67_0); (try clear hcz67_1); (try clear hcz67_2); (try clear hcz67_3); (try clear hcz72_0); (try clear hcz72_1); (try clear hcz72_2); (try clear hcz79_0); (try clear hcz82_0); (try clear hcz82_1); (try clear hcz82_2); (try clear hcz93_0); (try clear hcz97_0); (try clear hcz97_1); (try clear hcz97_2); (try clear hcz97_3); (try clear hfz100_0); (try clear hfz100_1); (try clear hfz100_2); (try clear hfz102_0); (try clear hfz105_0); (try clear hfz107_0); (try clear hfz108_0); (try clear hfz114_0); (try clear hfz118_0); (try clear hfz118_1); (try clear hfz118_2); (try clear hfz118_3); (try clear hfz121_0); (try clear hfz121_1); (try clear hfz121_2); (try clear hfz123_0); (try clear hfz126_0); (try clear hfz128_0); (try clear hfz135_0); (try clear hfz139_0); (try clear hfz139_1); (try clear hfz139_2); (try clear hfz139_3); (try clear hfz142_0); (try clear hfz152_0); (try clear hfz156_0); (try clear hfz156_1); (try clear hfz156_2); (try clear hfz156_3); (try clear hfz159_0); (try clear hfz159_1); (try clear hfz159_2); (try clear hfz15_0); (try clear hfz161_0); (try clear hfz164_0); (try clear hfz166_0); (try clear hfz167_0); (try clear hfz173_0); (try clear hfz177_0); (try clear hfz177_1); (try clear hfz177_2); (try clear hfz177_3); (try clear hfz180_0); (try clear hfz180_1); (try clear hfz180_2); (try clear hfz182_0); (try clear hfz185_0); (try clear hfz187_0); (try clear hfz18_0); (try clear hfz18_1); (try clear hfz18_2); (try clear hfz18_3); (try clear hfz195_0); (try clear hfz199_0); (try clear hfz199_1); (try clear hfz199_2); (try clear hfz199_3); (try clear hfz205_0); (try clear hfz205_1); (try clear hfz205_2); (try clear hfz211_0); (try clear hfz211_1); (try clear hfz211_2); (try clear hfz215_0); (try clear hfz215_1); (try clear hfz215_2); (try clear hfz215_3); (try clear hfz21_0); (try clear hfz221_0); (try clear hfz221_1); (try clear hfz221_2); (try clear hfz225_0); (try clear hfz225_1); (try clear hfz225_2); (try clear hfz225_3); (try clear hfz24_0); (try clear hfz24_1); (try clear hfz24_2); (try clear hfz24_3); (try clear hfz29_0); (try clear hfz32_0); (try clear hfz32_1); (try clear hfz32_2); (try clear hfz32_3); (try clear hfz35_0); (try clear hfz38_0); (try clear hfz38_1); (try clear hfz38_2); (try clear hfz38_3); (try clear hfz41_0); (try clear hfz44_0); (try clear hfz44_1); (try clear hfz44_2); (try clear hfz44_3); (try clear hfz47_0); (try clear hfz50_0); (try clear hfz50_1); (try clear hfz50_2); (try clear hfz50_3); (try clear hfz53_0); (try clear hfz58_0); (try clear hfz63_0); (try clear hfz65_0); (try clear hfz65_1); (try clear hfz65_2); (try clear hfz65_3); (try clear hfz67_0); (try clear hfz67_1); (try clear hfz67_2); (try clear hfz67_3); (try clear hfz72_0); (try clear hfz72_1); (try clear hfz72_2); (try clear hfz79_0); (try clear hfz82_0); (try clear hfz82_1); (try clear hfz82_2); (try clear hfz93_0); (try clear hfz97_0); (try clear hfz97_1); (try clear hfz97_2); (try clear hfz97_3); (try clear hx153_0); (try clear hx153_1); (try clear hx153_2); (try clear p1); (try clear p15); (try clear p153); (try clear p2); (try clear q1); (try clear q15); (try clear q153)
      obtain ⟨kq, x105_188, rfl, HA, HJ188, BK146, BK147, BK148, BK152, BK154, HB⟩ := hcut
      cases kq with
      | zero => exact absurd HA.out (by simp [spec_DoAct.j2])
      | succ kj188 =>
       have H := HA.out
       clear HA
       simp only [spec_DoAct.j2] at H
       by_cases c226 : x105_188 = true
       ·subst c226
        rw [if_pos rfl] at H
        simp only [Option.some.injEq, Prod.mk.injEq] at H
        obtain ⟨rfl, rfl⟩ := H
        obtain ⟨hnb227, hnc227⟩ := ns_ NB148_146
        obtain ⟨hnb228, hnc228⟩ := ns_ NB148_147
        obtain ⟨hnb229, hnc229⟩ := ns_ NB148_152
        obtain ⟨hnb230, hnc230⟩ := ns_ NB148_154
        have hcz231_0 : wc.cell? ⟨gb148, 0, none⟩ = some (.slice none 0 0) := bc_ BK148 0
        have hfz231_0 := blk_frozen BK148.out 0
        go_wp2
        refine bodyPost_ret (results_ct rfl _ _ gb148 31 #[.slice none 0 0] (0, 0) _ rfl bu_ Try.underlying31 rfl (by kernel_rfl)) rfl ?_
        exact ⟨_, er_, by first | exact Kd.R_nil _ _ _ _ _ | exact Kd.N_nil _ _ _ _ _ | exact Kd.V_nil _ _ _ _ _ | exact Kd.Q_nil _ _ _ _ _ | exact Kd.S_nil _ _ _ _ _, bw_ HB⟩
       replace c226 := Bool.eq_false_iff.mpr c226
       subst c226
       rw [if_neg (show ¬ (false = true) by decide)] at H
       replace H := Option.bind_eq_some_iff.mp H
       obtain ⟨t164, A2320, H⟩ := H
       try dsimp only at H
       have A232 := Aside0.mk A2320
       clear A2320
       replace H := Option.bind_eq_some_iff.mp H
       obtain ⟨t167, A2330, H⟩ := H
       try dsimp only at H
       have A233 := Aside0.mk A2330
       clear A2330
       replace H := Option.bind_eq_some_iff.mp H
       obtain ⟨t170, A2340, H⟩ := H
       try dsimp only at H
       have A234 := Aside0.mk A2340
       clear A2340
       by_cases c235 : t170 = true
       ·subst c235
        rw [if_pos rfl] at H
        simp only [Option.some.injEq, Prod.mk.injEq] at H
        obtain ⟨rfl, rfl⟩ := H
        obtain ⟨hnb236, hnc236⟩ := ns_ NB147_146
        obtain ⟨hnb237, hnc237⟩ := ns_ NB147_148
        obtain ⟨hnb238, hnc238⟩ := ns_ NB147_152
        obtain ⟨hnb239, hnc239⟩ := ns_ NB147_154
        have hcz240_0 : wc.cell? ⟨gb147, 0, none⟩ = some (.int .i64 a1_0) := bc_ BK147 0
        have hcz240_1 : wc.cell? ⟨gb147, 1, none⟩ = some (.string a1_1) := bc_ BK147 1
        have hcz240_2 : wc.cell? ⟨gb147, 2, none⟩ = some (.string a1_2) := bc_ BK147 2
        have hcz240_3 : wc.cell? ⟨gb147, 3, none⟩ = some (.string a1_3) := bc_ BK147 3
        have hfz240_0 := blk_frozen BK147.out 0
        have hfz240_1 := blk_frozen BK147.out 1
        have hfz240_2 := blk_frozen BK147.out 2
        have hfz240_3 := blk_frozen BK147.out 3
        obtain ⟨hnb241, hnc241⟩ := ns_ NB152_146
        obtain ⟨hnb242, hnc242⟩ := ns_ NB152_148
        obtain ⟨hnb243, hnc243⟩ := ns_ NB152_154
        have hcz244_0 : wc.cell? ⟨gb152, 0, none⟩ = some (.string x153000_59) := bc_ BK152 0
        have hcz244_1 : wc.cell? ⟨gb152, 1, none⟩ = some (.string x153001_59) := bc_ BK152 1
        have hcz244_2 : wc.cell? ⟨gb152, 2, none⟩ = some (.int .i64 x153002_59) := bc_ BK152 2
        have hfz244_0 := blk_frozen BK152.out 0
        have hfz244_1 := blk_frozen BK152.out 1
        have hfz244_2 := blk_frozen BK152.out 2
        try go_wp2
        have n0_ : Aside0 ((wc.setCell ⟨gb152, 0, none⟩ (.string a1_3)).heap[gb146]? = some (.cells #[.slice A0_0 l0_0.length c0_0] 31 (0, 0))) := ⟨bf_⟩
        have n1_ : Aside0 ((wc.setCell ⟨gb152, 0, none⟩ (.string a1_3)).heap[gb147]? = some (.cells #[.int .i64 a1_0, .string a1_1, .string a1_2, .string a1_3] 35 (0, 0))) := ⟨bf_⟩
        have n2_ : Aside0 ((wc.setCell ⟨gb152, 0, none⟩ (.string a1_3)).heap[gb148]? = some (.cells #[.slice none 0 0] 31 (0, 0))) := ⟨bf_⟩
        have n3_ : Aside0 ((wc.setCell ⟨gb152, 0, none⟩ (.string a1_3)).heap[gb152]? = some (.cells #[.string a1_3, .string x153001_59, .int .i64 x153002_59] 76 (0, 0))) := ⟨bu_⟩
        have n4_ : Aside0 ((wc.setCell ⟨gb152, 0, none⟩ (.string a1_3)).heap[gb154]? = some (.cells #[.slice none 0 0] 31 (0, 0))) := ⟨bf_⟩
        have n5_ : Aside0 (Below w.heap.size w (wc.setCell ⟨gb152, 0, none⟩ (.string a1_3))) := ⟨bw_ HB⟩
        (try clear BK146); (try clear BK147); (try clear BK148); (try clear BK152); (try clear BK154); (try clear HB)
        generalize (wc.setCell ⟨gb152, 0, none⟩ (.string a1_3)) = w245 at n0_ n1_ n2_ n3_ n4_ n5_ ⊢
        have BK146 := n0_; have BK147 := n1_; have BK148 := n2_; have BK152 := n3_; have BK154 := n4_; have HB := n5_; clear n0_ n1_ n2_ n3_ n4_ n5_
        replace BK146 := kd_ BK146; replace BK147 := kd_ BK147; replace BK148 := kd_ BK148; replace BK152 := kd_ BK152; replace BK154 := kd_ BK154; replace HB := wd_ HB
        refine start_ (n := 7) (S := fun w' => w'.cell? ⟨gb146, 0, none⟩ = some (.slice A0_0 l0_0.length c0_0) ∧ w'.cell? ⟨gb147, 0, none⟩ = some (.int .i64 a1_0) ∧ w'.cell? ⟨gb147, 1, none⟩ = some (.string a1_1) ∧ w'.cell? ⟨gb147, 2, none⟩ = some (.string a1_2) ∧ w'.cell? ⟨gb147, 3, none⟩ = some (.string a1_3) ∧ w'.cell? ⟨gb152, 0, none⟩ = some (.string a1_3) ∧ w'.cell? ⟨gb152, 1, none⟩ = some (.string x153001_59) ∧ w'.cell? ⟨gb152, 2, none⟩ = some (.int .i64 x153002_59)) (ds := []) #[false, false, false, false, false, false, false] (by kernel_rfl) rfl rfl ⟨bc_ BK146 0, bc_ BK147 0, bc_ BK147 1, bc_ BK147 2, bc_ BK147 3, bc_ BK152 0, bc_ BK152 1, bc_ BK152 2⟩ (fun hHeld => ?_)
        generalize w245.drew = w246 at BK146 BK147 BK148 BK152 BK154 HB hHeld ⊢
        refine pv_ 1 111 ?_
        refine tv_ 0 110 hHeld ?_
        refine tv_ 2 112 hHeld ?_
        refine tv_ 4 114 hHeld ?_
        refine one_ (i := 3) (N := some 113) #[true, true, true, true, true, false, false] rfl rfl (by kernel_rfl) (by decide) (fun K hK => ?_)
        refine goes_ Try.func42 (by kernel_rfl) rfl #[.agg #[.slice A0_0 l0_0.length c0_0], .string a1_1] (by rfl) rfl rfl ga_ ?_
        with_reducible refine (spec_l03Without.calls kj188 _ _ l0_0 a1_1 t164 _ ?side1 ?side2 A232.out).mono ?_
        (case side1 => exact cb_ HR0_0 HB)
        (case side2 => exact HC0_0.out)
        rintro e w247 ⟨v165, rfl, ho0, hb⟩
        refine ⟨_, rfl, ?_⟩
        have n0_ := mk_ (Kd.R_lower (Kd.R_newB ho0 (g := gb152) (o := .cells #[.string a1_3, .string x153001_59, .int .i64 x153002_59] 76 (0, 0)) (bp_ BK152)) (below_size (bw_ HB)))
        have HO166 := n0_; clear n0_; replace BK146 := bb_ BK146 hb; replace BK147 := bb_ BK147 hb; replace BK148 := bb_ BK148 hb; replace BK152 := bb_ BK152 hb; replace BK154 := bb_ BK154 hb; replace HB := bs_ HB hb; (try clear hb); (try clear hb2); (try clear hk); (try clear hi); (try clear ho0)
        obtain ⟨Ao248, co248, eo248⟩ := Kd.R_slice HO166.out
        (first | subst eo248 | (injection eo248 with f1_ f2_ f3_; have f4_ := f1_.symm; have f5_ := f3_.symm; clear f1_ f2_ f3_; subst f4_; subst f5_))
        refine hK.out _ _ ⟨bc_ BK146 0, bc_ BK147 0, bc_ BK147 1, bc_ BK147 2, bc_ BK147 3, bc_ BK152 0, bc_ BK152 1, bc_ BK152 2⟩ (fun hHeld => ?_)
        clear hK K
        refine norm_ (a' := ?_) ?_ ?_
        rotate_left
        ·show Act.put _ (some 113) _ = _
         simp only [Act.put, sia_, scz_, scs_, i64_w, i32_w]
         rfl
        refine one_ (i := 5) (N := some 115) #[true, true, true, true, true, true, false] rfl rfl (by kernel_rfl) (by decide) (fun K hK => ?_)
        refine goes_ Try.func41 (by kernel_rfl) rfl #[.agg #[.slice Ao248 t164.length co248], .agg #[.string a1_3, .string x153001_59, .int .i64 x153002_59]] (by rfl) rfl rfl ga_ ?_
        with_reducible refine (spec_l03Put.calls kj188 _ _ t164 a1_3 x153001_59 x153002_59 t167 _ ?side1 ?side2 A233.out).mono ?_
        (case side1 => exact cr_ HO166)
        (case side2 => exact (Kd.R_reads' HO166.out).2.1)
        rintro e w249 ⟨v168, rfl, ho0, hb⟩
        refine ⟨_, rfl, ?_⟩
        have n0_ := mk_ (Kd.R_elder' (rp_ HO166) (Kd.R_base ho0) hb)
        have n1_ := mk_ (Kd.R_lower (Kd.R_newB (Kd.R_new' ho0 (Kd.R_lt (rp_ HO166))) (g := gb152) (o := .cells #[.string a1_3, .string x153001_59, .int .i64 x153002_59] 76 (0, 0)) (bp_ BK152)) (below_size (bw_ HB)))
        clear HO166; have HO166 := n0_; have HO169 := n1_; clear n0_ n1_; replace BK146 := bb_ BK146 hb; replace BK147 := bb_ BK147 hb; replace BK148 := bb_ BK148 hb; replace BK152 := bb_ BK152 hb; replace BK154 := bb_ BK154 hb; replace HB := bs_ HB hb; (try clear hb); (try clear hb2); (try clear hk); (try clear hi); (try clear ho0)
        obtain ⟨Ao250, co250, eo250⟩ := Kd.R_slice HO169.out
        (first | subst eo250 | (injection eo250 with f1_ f2_ f3_; have f4_ := f1_.symm; have f5_ := f3_.symm; clear f1_ f2_ f3_; subst f4_; subst f5_))
        refine hK.out _ _ ⟨bc_ BK146 0, bc_ BK147 0, bc_ BK147 1, bc_ BK147 2, bc_ BK147 3, bc_ BK152 0, bc_ BK152 1, bc_ BK152 2⟩ (fun hHeld => ?_)
        clear hK K
        refine norm_ (a' := ?_) ?_ ?_
        rotate_left
        ·show Act.put _ (some 115) _ = _
         simp only [Act.put, sia_, scz_, scs_, i64_w, i32_w]
         rfl
        refine one_ (i := 6) (N := none) #[true, true, true, true, true, true, true] rfl rfl (by kernel_rfl) (by decide) (fun K hK => ?_)
        have hs251 : w249.cell? ⟨gb154, 0, none⟩ = some (.slice none 0 0) := bc_ BK154 0
        have hfs251 := blk_frozen BK154.out 0
        have hns251_0 := NB146_154.out
        have hns251_1 := NB147_154.out
        have hns251_2 := NB148_154.out
        have hns251_3 := NB152_154.out
        have hms251_0 := NB154_146.out
        have hms251_1 := NB154_147.out
        have hms251_2 := NB154_148.out
        have hms251_3 := NB154_152.out
        refine skip_ (w1 := ?_) (by rfl) rfl ?_ ?_
        rotate_left
        ·go_simp
         rfl
        refine hK.out _ _ ⟨((cell_far (p := ⟨gb154, _, none⟩) NB146_154.out _).trans (hHeld.1)), ((cell_far (p := ⟨gb154, _, none⟩) NB147_154.out _).trans (hHeld.2.1)), ((cell_far (p := ⟨gb154, _, none⟩) NB147_154.out _).trans (hHeld.2.2.1)), ((cell_far (p := ⟨gb154, _, none⟩) NB147_154.out _).trans (hHeld.2.2.2.1)), ((cell_far (p := ⟨gb154, _, none⟩) NB147_154.out _).trans (hHeld.2.2.2.2.1)), ((cell_far (p := ⟨gb154, _, none⟩) NB152_154.out _).trans (hHeld.2.2.2.2.2.1)), ((cell_far (p := ⟨gb154, _, none⟩) NB152_154.out _).trans (hHeld.2.2.2.2.2.2.1)), ((cell_far (p := ⟨gb154, _, none⟩) NB152_154.out _).trans (hHeld.2.2.2.2.2.2.2))⟩ (fun hHeld => ?_)
        clear hK K
        refine done_ (by kernel_rfl) ?_
        obtain ⟨hnb252, hnc252⟩ := ns_ NB154_146
        obtain ⟨hnb253, hnc253⟩ := ns_ NB154_148
        have hcz254_0 : w249.cell? ⟨gb154, 0, none⟩ = some (.slice none 0 0) := bc_ BK154 0
        have hfz254_0 := blk_frozen BK154.out 0
        try go_wp2_with (first | ((with_reducible refine gate_callee (f := 38) rfl ?_); refine gl_ 125 Try.func38 #[.agg #[.slice Ao250 t167.length co250]] ?_; (with_reducible refine (spec_DiskOk.calls kj188 _ _ t167 true _ ?side1 ?side2 A234.out).mono ?_); (case side1 => refine (Kd.R_reads' (e := 76) (base := w.heap.size) (ok := fun k_ => ((True ∧ some k_ ≠ (.slice Ao248 t164.length co248 : Value).ownBlock) ∧ k_ ≠ gb152)) (n := t167.length) (c := co250) ?_).2.2; exact (rq_ (rf_ HO169 BK154 0 (.slice Ao250 t167.length co250)))); (case side2 => exact (Kd.R_reads' HO169.out).2.1); rintro e w255 ⟨rfl, hb⟩; refine ⟨_, rfl, ?_⟩; replace HO166 := mk_ (Kd.R_below (rq_ (rf_ HO166 BK154 0 (.slice Ao250 t167.length co250))) hb); replace HO169 := mk_ (Kd.R_below (rq_ (rf_ HO169 BK154 0 (.slice Ao250 t167.length co250))) hb); replace BK146 := mk_ (blk_below (g := gb146) (o := .cells #[.slice A0_0 l0_0.length c0_0] 31 (0, 0)) bf_ hb); replace BK147 := mk_ (blk_below (g := gb147) (o := .cells #[.int .i64 a1_0, .string a1_1, .string a1_2, .string a1_3] 35 (0, 0)) bf_ hb); replace BK148 := mk_ (blk_below (g := gb148) (o := .cells #[.slice none 0 0] 31 (0, 0)) bf_ hb); replace BK152 := mk_ (blk_below (g := gb152) (o := .cells #[.string a1_3, .string x153001_59, .int .i64 x153002_59] 76 (0, 0)) bf_ hb); replace BK154 := mk_ (blk_below (g := gb154) (o := .cells #[.slice Ao250 t167.length co250] 31 (0, 0)) bu_ hb); replace HB := bs_ HB hb; (try clear hb); (try clear hk); obtain ⟨hcz256_0, hfz256_0⟩ := b1_ BK154; obtain ⟨hnb257, hnc257⟩ := ns_ NB148_146; obtain ⟨hcz258_0, hfz258_0⟩ := b1_ BK148))
        refine bodyPost_ret (results_ct rfl _ _ gb148 31 #[.slice Ao250 t167.length co250] (0, 0) _ rfl bu_ Try.underlying31 rfl (by kernel_rfl)) rfl ?_
        exact ⟨_, er_, rq_ (rt_ HO169 BK148 0 (.slice Ao250 t167.length co250)), bw_ HB⟩
       replace c235 := Bool.eq_false_iff.mpr c235
       subst c235
       rw [if_neg (show ¬ (false = true) by decide)] at H
       simp only [Option.some.injEq, Prod.mk.injEq] at H
       obtain ⟨rfl, rfl⟩ := H
       obtain ⟨hnb259, hnc259⟩ := ns_ NB147_146
       obtain ⟨hnb260, hnc260⟩ := ns_ NB147_148
       obtain ⟨hnb261, hnc261⟩ := ns_ NB147_152
       obtain ⟨hnb262, hnc262⟩ := ns_ NB147_154
       have hcz263_0 : wc.cell? ⟨gb147, 0, none⟩ = some (.int .i64 a1_0) := bc_ BK147 0
       have hcz263_1 : wc.cell? ⟨gb147, 1, none⟩ = some (.string a1_1) := bc_ BK147 1
       have hcz263_2 : wc.cell? ⟨gb147, 2, none⟩ = some (.string a1_2) := bc_ BK147 2
       have hcz263_3 : wc.cell? ⟨gb147, 3, none⟩ = some (.string a1_3) := bc_ BK147 3
       have hfz263_0 := blk_frozen BK147.out 0
       have hfz263_1 := blk_frozen BK147.out 1
       have hfz263_2 := blk_frozen BK147.out 2
       have hfz263_3 := blk_frozen BK147.out 3
       obtain ⟨hnb264, hnc264⟩ := ns_ NB152_146
       obtain ⟨hnb265, hnc265⟩ := ns_ NB152_148
       obtain ⟨hnb266, hnc266⟩ := ns_ NB152_154
       have hcz267_0 : wc.cell? ⟨gb152, 0, none⟩ = some (.string x153000_59) := bc_ BK152 0
       have hcz267_1 : wc.cell? ⟨gb152, 1, none⟩ = some (.string x153001_59) := bc_ BK152 1
       have hcz267_2 : wc.cell? ⟨gb152, 2, none⟩ = some (.int .i64 x153002_59) := bc_ BK152 2
       have hfz267_0 := blk_frozen BK152.out 0
       have hfz267_1 := blk_frozen BK152.out 1
       have hfz267_2 := blk_frozen BK152.out 2
       try go_wp2
       have n0_ : Aside0 ((wc.setCell ⟨gb152, 0, none⟩ (.string a1_3)).heap[gb146]? = some (.cells #[.slice A0_0 l0_0.length c0_0] 31 (0, 0))) := ⟨bf_⟩
       have n1_ : Aside0 ((wc.setCell ⟨gb152, 0, none⟩ (.string a1_3)).heap[gb147]? = some (.cells #[.int .i64 a1_0, .string a1_1, .string a1_2, .string a1_3] 35 (0, 0))) := ⟨bf_⟩
       have n2_ : Aside0 ((wc.setCell ⟨gb152, 0, none⟩ (.string a1_3)).heap[gb148]? = some (.cells #[.slice none 0 0] 31 (0, 0))) := ⟨bf_⟩
       have n3_ : Aside0 ((wc.setCell ⟨gb152, 0, none⟩ (.string a1_3)).heap[gb152]? = some (.cells #[.string a1_3, .string x153001_59, .int .i64 x153002_59] 76 (0, 0))) := ⟨bu_⟩
       have n4_ : Aside0 ((wc.setCell ⟨gb152, 0, none⟩ (.string a1_3)).heap[gb154]? = some (.cells #[.slice none 0 0] 31 (0, 0))) := ⟨bf_⟩
       have n5_ : Aside0 (Below w.heap.size w (wc.setCell ⟨gb152, 0, none⟩ (.string a1_3))) := ⟨bw_ HB⟩
       (try clear BK146); (try clear BK147); (try clear BK148); (try clear BK152); (try clear BK154); (try clear HB)
       generalize (wc.setCell ⟨gb152, 0, none⟩ (.string a1_3)) = w268 at n0_ n1_ n2_ n3_ n4_ n5_ ⊢
       have BK146 := n0_; have BK147 := n1_; have BK148 := n2_; have BK152 := n3_; have BK154 := n4_; have HB := n5_; clear n0_ n1_ n2_ n3_ n4_ n5_
       replace BK146 := kd_ BK146; replace BK147 := kd_ BK147; replace BK148 := kd_ BK148; replace BK152 := kd_ BK152; replace BK154 := kd_ BK154; replace HB := wd_ HB
       refine start_ (n := 7) (S := fun w' => w'.cell? ⟨gb146, 0, none⟩ = some (.slice A0_0 l0_0.length c0_0) ∧ w'.cell? ⟨gb147, 0, none⟩ = some (.int .i64 a1_0) ∧ w'.cell? ⟨gb147, 1, none⟩ = some (.string a1_1) ∧ w'.cell? ⟨gb147, 2, none⟩ = some (.string a1_2) ∧ w'.cell? ⟨gb147, 3, none⟩ = some (.string a1_3) ∧ w'.cell? ⟨gb152, 0, none⟩ = some (.string a1_3) ∧ w'.cell? ⟨gb152, 1, none⟩ = some (.string x153001_59) ∧ w'.cell? ⟨gb152, 2, none⟩ = some (.int .i64 x153002_59)) (ds := []) #[false, false, false, false, false, false, false] (by kernel_rfl) rfl rfl ⟨bc_ BK146 0, bc_ BK147 0, bc_ BK147 1, bc_ BK147 2, bc_ BK147 3, bc_ BK152 0, bc_ BK152 1, bc_ BK152 2⟩ (fun hHeld => ?_)
       generalize w268.drew = w269 at BK146 BK147 BK148 BK152 BK154 HB hHeld ⊢
       refine pv_ 1 111 ?_
       refine tv_ 0 110 hHeld ?_
       refine tv_ 2 112 hHeld ?_
       refine tv_ 4 114 hHeld ?_
       refine one_ (i := 3) (N := some 113) #[true, true, true, true, true, false, false] rfl rfl (by kernel_rfl) (by decide) (fun K hK => ?_)
       refine goes_ Try.func42 (by kernel_rfl) rfl #[.agg #[.slice A0_0 l0_0.length c0_0], .string a1_1] (by rfl) rfl rfl ga_ ?_
       with_reducible refine (spec_l03Without.calls kj188 _ _ l0_0 a1_1 t164 _ ?side1 ?side2 A232.out).mono ?_
       (case side1 => exact cb_ HR0_0 HB)
       (case side2 => exact HC0_0.out)
       rintro e w270 ⟨v165, rfl, ho0, hb⟩
       refine ⟨_, rfl, ?_⟩
       have n0_ := mk_ (Kd.R_lower (Kd.R_newB ho0 (g := gb152) (o := .cells #[.string a1_3, .string x153001_59, .int .i64 x153002_59] 76 (0, 0)) (bp_ BK152)) (below_size (bw_ HB)))
       have HO166 := n0_; clear n0_; replace BK146 := bb_ BK146 hb; replace BK147 := bb_ BK147 hb; replace BK148 := bb_ BK148 hb; replace BK152 := bb_ BK152 hb; replace BK154 := bb_ BK154 hb; replace HB := bs_ HB hb; (try clear hb); (try clear hb2); (try clear hk); (try clear hi); (try clear ho0)
       obtain ⟨Ao271, co271, eo271⟩ := Kd.R_slice HO166.out
       (first | subst eo271 | (injection eo271 with f1_ f2_ f3_; have f4_ := f1_.symm; have f5_ := f3_.symm; clear f1_ f2_ f3_; subst f4_; subst f5_))
       refine hK.out _ _ ⟨bc_ BK146 0, bc_ BK147 0, bc_ BK147 1, bc_ BK147 2, bc_ BK147 3, bc_ BK152 0, bc_ BK152 1, bc_ BK152 2⟩ (fun hHeld => ?_)
       clear hK K
       refine norm_ (a' := ?_) ?_ ?_
       rotate_left
       ·show Act.put _ (some 113) _ = _
        simp only [Act.put, sia_, scz_, scs_, i64_w, i32_w]
        rfl
       refine one_ (i := 5) (N := some 115) #[true, true, true, true, true, true, false] rfl rfl (by kernel_rfl) (by decide) (fun K hK => ?_)
       refine goes_ Try.func41 (by kernel_rfl) rfl #[.agg #[.slice Ao271 t164.length co271], .agg #[.string a1_3, .string x153001_59, .int .i64 x153002_59]] (by rfl) rfl rfl ga_ ?_
       with_reducible refine (spec_l03Put.calls kj188 _ _ t164 a1_3 x153001_59 x153002_59 t167 _ ?side1 ?side2 A233.out).mono ?_
       (case side1 => exact cr_ HO166)
       (case side2 => exact (Kd.R_reads' HO166.out).2.1)
       rintro e w272 ⟨v168, rfl, ho0, hb⟩
       refine ⟨_, rfl, ?_⟩
       have n0_ := mk_ (Kd.R_elder' (rp_ HO166) (Kd.R_base ho0) hb)
       have n1_ := mk_ (Kd.R_lower (Kd.R_newB (Kd.R_new' ho0 (Kd.R_lt (rp_ HO166))) (g := gb152) (o := .cells #[.string a1_3, .string x153001_59, .int .i64 x153002_59] 76 (0, 0)) (bp_ BK152)) (below_size (bw_ HB)))
       clear HO166; have HO166 := n0_; have HO169 := n1_; clear n0_ n1_; replace BK146 := bb_ BK146 hb; replace BK147 := bb_ BK147 hb; replace BK148 := bb_ BK148 hb; replace BK152 := bb_ BK152 hb; replace BK154 := bb_ BK154 hb; replace HB := bs_ HB hb; (try clear hb); (try clear hb2); (try clear hk); (try clear hi); (try clear ho0)
       obtain ⟨Ao273, co273, eo273⟩ := Kd.R_slice HO169.out
       (first | subst eo273 | (injection eo273 with f1_ f2_ f3_; have f4_ := f1_.symm; have f5_ := f3_.symm; clear f1_ f2_ f3_; subst f4_; subst f5_))
       refine hK.out _ _ ⟨bc_ BK146 0, bc_ BK147 0, bc_ BK147 1, bc_ BK147 2, bc_ BK147 3, bc_ BK152 0, bc_ BK152 1, bc_ BK152 2⟩ (fun hHeld => ?_)
       clear hK K
       refine norm_ (a' := ?_) ?_ ?_
       rotate_left
       ·show Act.put _ (some 115) _ = _
        simp only [Act.put, sia_, scz_, scs_, i64_w, i32_w]
        rfl
       refine one_ (i := 6) (N := none) #[true, true, true, true, true, true, true] rfl rfl (by kernel_rfl) (by decide) (fun K hK => ?_)
       have hs274 : w272.cell? ⟨gb154, 0, none⟩ = some (.slice none 0 0) := bc_ BK154 0
       have hfs274 := blk_frozen BK154.out 0
       have hns274_0 := NB146_154.out
       have hns274_1 := NB147_154.out
       have hns274_2 := NB148_154.out
       have hns274_3 := NB152_154.out
       have hms274_0 := NB154_146.out
       have hms274_1 := NB154_147.out
       have hms274_2 := NB154_148.out
       have hms274_3 := NB154_152.out
       refine skip_ (w1 := ?_) (by rfl) rfl ?_ ?_
       rotate_left
       ·go_simp
        rfl
       refine hK.out _ _ ⟨((cell_far (p := ⟨gb154, _, none⟩) NB146_154.out _).trans (hHeld.1)), ((cell_far (p := ⟨gb154, _, none⟩) NB147_154.out _).trans (hHeld.2.1)), ((cell_far (p := ⟨gb154, _, none⟩) NB147_154.out _).trans (hHeld.2.2.1)), ((cell_far (p := ⟨gb154, _, none⟩) NB147_154.out _).trans (hHeld.2.2.2.1)), ((cell_far (p := ⟨gb154, _, none⟩) NB147_154.out _).trans (hHeld.2.2.2.2.1)), ((cell_far (p := ⟨gb154, _, none⟩) NB152_154.out _).trans (hHeld.2.2.2.2.2.1)), ((cell_far (p := ⟨gb154, _, none⟩) NB152_154.out _).trans (hHeld.2.2.2.2.2.2.1)), ((cell_far (p := ⟨gb154, _, none⟩) NB152_154.out _).trans (hHeld.2.2.2.2.2.2.2))⟩ (fun hHeld => ?_)
       clear hK K
       refine done_ (by kernel_rfl) ?_
       obtain ⟨hnb275, hnc275⟩ := ns_ NB154_146
       obtain ⟨hnb276, hnc276⟩ := ns_ NB154_148
       have hcz277_0 : w272.cell? ⟨gb154, 0, none⟩ = some (.slice none 0 0) := bc_ BK154 0
       have hfz277_0 := blk_frozen BK154.out 0
       try go_wp2_with (first | ((with_reducible refine gate_callee (f := 38) rfl ?_); refine gl_ 125 Try.func38 #[.agg #[.slice Ao273 t167.length co273]] ?_; (with_reducible refine (spec_DiskOk.calls kj188 _ _ t167 false _ ?side1 ?side2 A234.out).mono ?_); (case side1 => refine (Kd.R_reads' (e := 76) (base := w.heap.size) (ok := fun k_ => ((True ∧ some k_ ≠ (.slice Ao271 t164.length co271 : Value).ownBlock) ∧ k_ ≠ gb152)) (n := t167.length) (c := co273) ?_).2.2; exact (rq_ (rf_ HO169 BK154 0 (.slice Ao273 t167.length co273)))); (case side2 => exact (Kd.R_reads' HO169.out).2.1); rintro e w278 ⟨rfl, hb⟩; refine ⟨_, rfl, ?_⟩; replace HO166 := mk_ (Kd.R_below (rq_ (rf_ HO166 BK154 0 (.slice Ao273 t167.length co273))) hb); replace HO169 := mk_ (Kd.R_below (rq_ (rf_ HO169 BK154 0 (.slice Ao273 t167.length co273))) hb); replace BK146 := mk_ (blk_below (g := gb146) (o := .cells #[.slice A0_0 l0_0.length c0_0] 31 (0, 0)) bf_ hb); replace BK147 := mk_ (blk_below (g := gb147) (o := .cells #[.int .i64 a1_0, .string a1_1, .string a1_2, .string a1_3] 35 (0, 0)) bf_ hb); replace BK148 := mk_ (blk_below (g := gb148) (o := .cells #[.slice none 0 0] 31 (0, 0)) bf_ hb); replace BK152 := mk_ (blk_below (g := gb152) (o := .cells #[.string a1_3, .string x153001_59, .int .i64 x153002_59] 76 (0, 0)) bf_ hb); replace BK154 := mk_ (blk_below (g := gb154) (o := .cells #[.slice Ao273 t167.length co273] 31 (0, 0)) bu_ hb); replace HB := bs_ HB hb; (try clear hb); (try clear hk); obtain ⟨hnb279, hnc279⟩ := ns_ NB148_146; obtain ⟨hcz280_0, hfz280_0⟩ := b1_ BK148))
       refine bodyPost_ret (results_ct rfl _ _ gb148 31 #[.slice none 0 0] (0, 0) _ rfl bu_ Try.underlying31 rfl (by kernel_rfl)) rfl ?_
       exact ⟨_, er_, by first | exact Kd.R_nil _ _ _ _ _ | exact Kd.N_nil _ _ _ _ _ | exact Kd.V_nil _ _ _ _ _ | exact Kd.Q_nil _ _ _ _ _ | exact Kd.S_nil _ _ _ _ _, bw_ HB⟩

end Go.Proofs.Ythbaoefbccdioaa.QFnActs
