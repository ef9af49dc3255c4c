/- Written by this session's own program (wip/tpl/pp.py): what the law's functions come to, and that the machine's calls do just that. -/
import Derived.Test.YthbaoefbccdioaaQFnExactCutActsx0
import Derived.Test.YthbaoefbccdioaaQFnExactCutActsx8
import Derived.Test.YthbaoefbccdioaaQFnExactCutActsx9
import Derived.Test.YthbaoefbccdioaaQFnExactCutActsx10
import Derived.Test.YthbaoefbccdioaaQFnExactCutActsx11
namespace Go.Proofs.Ythbaoefbccdioaa.QFnExactCutActs
open Go.RowKit Go.Proofs.YthbaoefbccdioaaW.PrintWords Go.Proofs.YthbaoefbccdioaaW.PrintLast Go.Proofs.YthbaoefbccdioaaW.PrintMore
attribute [local go_sem] Go.Proofs.Ythbaoefbccdioaa.Sem.string_geq Go.Proofs.Ythbaoefbccdioaa.Sem.string_leq Go.Proofs.Ythbaoefbccdioaa.Sem.string_gtr
attribute [local go_sem] max2_int min2_int max_two min_two max_three min_three max_four min_four   -- for this text's walks alone
set_option linter.unusedVariables false
set_option linter.unusedSimpArgs false

/-! ### spec_DoAct: function 10 -/
mutual
def spec_DoAct.j0 : Nat → Bool → List (S76) → Int → ByteArray → ByteArray → ByteArray → Option ((List (S76)) × Bool)
 | 0, _, _, _, _, _, _ => none
 | k + 1, x37, x251000, x252000, x252001, x252002, x252003 => if x37 = true then (some (([] : List (S76)), false)) else ((spec_l03At.f k x251000 x252001).bind fun t255 => (if t255 ≥ 0 then (if 0 ≤ t255 then (if t255 < (x251000.length : Int) then (spec_DoAct.j1 k t255 x251000 x252000 x252001 x252002 x252003 ((rd_T76 x251000 t255).f0) ((rd_T76 x251000 t255).f1) ((rd_T76 x251000 t255).f2)) else (none)) else (none)) else (spec_DoAct.j1 k t255 x251000 x252000 x252001 x252002 x252003 x252001 (⟨#[]⟩ : ByteArray) 0)))
def spec_DoAct.j1 : Nat → Int → List (S76) → Int → ByteArray → ByteArray → ByteArray → ByteArray → ByteArray → Int → Option ((List (S76)) × Bool)
 | 0, _, _, _, _, _, _, _, _, _ => none
 | k + 1, x6, x251000, x252000, x252001, x252002, x252003, x257000, x257001, x257002 => if x252000 = 1 then (if x257001.size + x252002.size ≤ 9223372036854775807 then ((spec_l03Put.f k x251000 x257000 (x257001 ++ x252002) x257002).bind fun t259 => ((spec_DiskOk.f k t259).bind fun t262 => (if t262 = true then (some (t259, true)) else (some (([] : List (S76)), false))))) else (none)) else (if x6 < 0 then (some (([] : List (S76)), false)) else (if x252000 = 2 then ((spec_l03Put.f k x251000 x257000 x257001 (x257001.size : Int)).bind fun t263 => ((spec_DiskOk.f k t263).bind fun t266 => (if t266 = true then (some (t263, true)) else (some (([] : List (S76)), false))))) else (if x252000 = 3 then (if x257002 < (x257001.size : Int) then (spec_DoAct.j2 k true x251000 x252000 x252001 x252002 x252003 x257000 x257001 x257002) else (if x252003.toList = x252001.toList then (spec_DoAct.j2 k true x251000 x252000 x252001 x252002 x252003 x257000 x257001 x257002) else ((spec_l03Name.f x252003).bind fun t267 => (spec_DoAct.j2 k (!t267) x251000 x252000 x252001 x252002 x252003 x257000 x257001 x257002)))) else (if x252000 = 4 then ((spec_l03Without.f k x251000 x252001).bind fun t275 => ((spec_DiskOk.f k t275).bind fun t278 => (if t278 = true then (some (t275, true)) else (some (([] : List (S76)), false))))) else (some (([] : List (S76)), false))))))
def spec_DoAct.j2 : Nat → Bool → List (S76) → Int → ByteArray → ByteArray → ByteArray → ByteArray → ByteArray → Int → Option ((List (S76)) × Bool)
 | 0, _, _, _, _, _, _, _, _, _ => none
 | k + 1, x105, x251000, x252000, x252001, x252002, x252003, x257000, x257001, x257002 => if x105 = true then (some (([] : List (S76)), false)) else ((spec_l03Without.f k x251000 x252001).bind fun t268 => ((spec_l03Put.f k t268 x252003 x257001 x257002).bind fun t271 => ((spec_DiskOk.f k t271).bind fun t274 => (if t274 = true then (some (t271, true)) else (some (([] : List (S76)), false))))))
end
def spec_DoAct.f (k : Nat) (l0_0 : List (S76)) (a1_0 : Int) (a1_1 : ByteArray) (a1_2 : ByteArray) (a1_3 : ByteArray) : Option ((List (S76)) × Bool) := (spec_DiskOk.f k l0_0).bind fun t253 => (if t253 = true then ((spec_l03Name.f a1_1).bind fun t254 => (if t254 = true then (if a1_0 = 3 then (if a1_0 = 1 then (spec_DoAct.j0 k false l0_0 a1_0 a1_1 a1_2 a1_3) else (spec_DoAct.j0 k (a1_2.toList != ([] : List UInt8)) l0_0 a1_0 a1_1 a1_2 a1_3)) else (if a1_3.toList = ([] : List UInt8) then (if a1_0 = 1 then (spec_DoAct.j0 k false l0_0 a1_0 a1_1 a1_2 a1_3) else (spec_DoAct.j0 k (a1_2.toList != ([] : List UInt8)) l0_0 a1_0 a1_1 a1_2 a1_3)) else (spec_DoAct.j0 k true l0_0 a1_0 a1_1 a1_2 a1_3))) else (spec_DoAct.j0 k true l0_0 a1_0 a1_1 a1_2 a1_3))) else (spec_DoAct.j0 k true l0_0 a1_0 a1_1 a1_2 a1_3))
theorem spec_DoAct.mono_l : ∀ k, (∀ y0 y1 y2 y3 y4 y5, LeO (spec_DoAct.j0 k y0 y1 y2 y3 y4 y5) (spec_DoAct.j0 (k + 1) y0 y1 y2 y3 y4 y5)) ∧ (∀ y0 y1 y2 y3 y4 y5 y6 y7 y8, LeO (spec_DoAct.j1 k y0 y1 y2 y3 y4 y5 y6 y7 y8) (spec_DoAct.j1 (k + 1) y0 y1 y2 y3 y4 y5 y6 y7 y8)) ∧ (∀ y0 y1 y2 y3 y4 y5 y6 y7 y8, LeO (spec_DoAct.j2 k y0 y1 y2 y3 y4 y5 y6 y7 y8) (spec_DoAct.j2 (k + 1) y0 y1 y2 y3 y4 y5 y6 y7 y8))
 | 0 => ⟨fun _ _ _ _ _ _ r h => by simp [spec_DoAct.j0] at h, fun _ _ _ _ _ _ _ _ _ r h => by simp [spec_DoAct.j1] at h, fun _ _ _ _ _ _ _ _ _ r h => by simp [spec_DoAct.j2] at h⟩
 | k + 1 => by
  obtain ⟨ih0, ih1, ih2⟩ := spec_DoAct.mono_l k
  refine ⟨?_, ?_, ?_⟩
  ·intro y0 y1 y2 y3 y4 y5
   unfold spec_DoAct.j0
   repeat' first
   | (with_reducible exact ih1 _ _ _ _ _ _ _ _ _)
   | (with_reducible exact spec_l03At.mono _ _ _)
   | (with_reducible exact LeO.refl _)
   | (with_reducible refine LeO.ite ?_ ?_)
   | (with_reducible refine LeO.bind ?_ (fun _ => ?_))
  ·intro y0 y1 y2 y3 y4 y5 y6 y7 y8
   unfold spec_DoAct.j1
   repeat' first
   | (with_reducible exact ih2 _ _ _ _ _ _ _ _ _)
   | (with_reducible exact spec_DiskOk.mono _ _)
   | (with_reducible exact spec_l03Put.mono _ _ _ _ _)
   | (with_reducible exact spec_l03Without.mono _ _ _)
   | (with_reducible exact LeO.refl _)
   | (with_reducible refine LeO.ite ?_ ?_)
   | (with_reducible refine LeO.bind ?_ (fun _ => ?_))
  ·intro y0 y1 y2 y3 y4 y5 y6 y7 y8
   unfold spec_DoAct.j2
   repeat' first
   | (with_reducible exact spec_DiskOk.mono _ _)
   | (with_reducible exact spec_l03Put.mono _ _ _ _ _)
   | (with_reducible exact spec_l03Without.mono _ _ _)
   | (with_reducible exact LeO.refl _)
   | (with_reducible refine LeO.ite ?_ ?_)
   | (with_reducible refine LeO.bind ?_ (fun _ => ?_))
theorem spec_DoAct.mono : ∀ a0 a1 a2 a3 a4 k, LeO (spec_DoAct.f k a0 a1 a2 a3 a4) (spec_DoAct.f (k + 1) a0 a1 a2 a3 a4) := by
 intro a0 a1 a2 a3 a4 k
 obtain ⟨ih0, ih1, ih2⟩ := spec_DoAct.mono_l k
 unfold spec_DoAct.f
 repeat' first
   | (with_reducible exact ih0 _ _ _ _ _ _)
   | (with_reducible exact spec_DiskOk.mono _ _)
   | (with_reducible exact LeO.refl _)
   | (with_reducible refine LeO.ite ?_ ?_)
   | (with_reducible refine LeO.bind ?_ (fun _ => ?_))
set_option maxHeartbeats 8000000 in
set_option maxRecDepth 100000 in
theorem spec_DoAct.calls (k : Nat) (A0_0 : Option Addr) (c0_0 : Nat) (l0_0 : List (S76)) (a1_0 : Int) (a1_1 : ByteArray) (a1_2 : ByteArray) (a1_3 : ByteArray) (r1 : List (S76)) (r2 : Bool) (w : World) (hr0_0 : Kd.C k76 w A0_0 l0_0.length l0_0) (hc0_0 : l0_0.length ≤ c0_0) (h : spec_DoAct.f k l0_0 a1_0 a1_1 a1_2 a1_3 = some (r1, r2)) :
  Calls Try.prog 10 #[.agg #[.slice A0_0 l0_0.length c0_0], .agg #[.int .i64 a1_0, .string a1_1, .string a1_2, .string a1_3]] w fun e w' => ∃ v0_ : Value, e = .returned (.tuple #[.agg #[v0_], .bool r2]) ∧ Kd.R k76 76 w' w.heap.size (fun _ => True) v0_ r1 ∧ Below w.heap.size w w' := by
 have hu31 := Try.underlying31
 have hu35 := Try.underlying35
 have hu76 := Try.underlying76
 have HR0_0 := Aside0.mk hr0_0
 have HC0_0 := Aside0.mk hc0_0
 clear hr0_0 hc0_0
 have HB := mk_ (Below.refl w.heap.size w)
 have H : ((spec_DiskOk.f k l0_0).bind fun t253 => (if t253 = true then ((spec_l03Name.f a1_1).bind fun t254 => (if t254 = true then (if a1_0 = 3 then (if a1_0 = 1 then (spec_DoAct.j0 k false l0_0 a1_0 a1_1 a1_2 a1_3) else (spec_DoAct.j0 k (a1_2.toList != ([] : List UInt8)) l0_0 a1_0 a1_1 a1_2 a1_3)) else (if a1_3.toList = ([] : List UInt8) then (if a1_0 = 1 then (spec_DoAct.j0 k false l0_0 a1_0 a1_1 a1_2 a1_3) else (spec_DoAct.j0 k (a1_2.toList != ([] : List UInt8)) l0_0 a1_0 a1_1 a1_2 a1_3)) else (spec_DoAct.j0 k true l0_0 a1_0 a1_1 a1_2 a1_3))) else (spec_DoAct.j0 k true l0_0 a1_0 a1_1 a1_2 a1_3))) else (spec_DoAct.j0 k true l0_0 a1_0 a1_1 a1_2 a1_3))) = some (r1, r2) := h
 clear h
 have HC3 := Aside0.mk H
 clear H
 go_enter Try.func10, Try.ntmps10
 go_upto_region 1 with (first | ((with_reducible refine gate_dst (N := 2) rfl ?_); refine bx_ (N := 2) (cs := #[.slice A0_0 l0_0.length c0_0]) (t := 31) ?_; intro gb250 hg w4 hbox hb; have BK250 := mk_ (hbox); have GW250 : Aside0 (w.heap.size ≤ gb250) := bz_ hg; have GE250 := GW250; replace HB := bs_ HB hb; clear hb hbox hg) | ((with_reducible refine gate_dst (N := 3) rfl ?_); refine bx_ (N := 3) (cs := #[.int .i64 a1_0, .string a1_1, .string a1_2, .string a1_3]) (t := 35) ?_; intro gb251 hg w5 hbox hb; have BK251 := mk_ (hbox); have GW251 : Aside0 (w.heap.size ≤ gb251) := bz_ hg; have GE251 := GW251; have NB250_251 := bl_ BK250 hg; have NB251_250 := bg_ BK250 hg; replace BK250 := bb_ BK250 hb; replace HB := bs_ HB hb; clear hb hbox hg) | ((with_reducible refine gate_dst (N := 4) rfl ?_); refine bx_ (N := 4) (cs := #[.slice none 0 0]) (t := 31) ?_; intro gb252 hg w6 hbox hb; have BK252 := mk_ (hbox); have GW252 : Aside0 (w.heap.size ≤ gb252) := bz_ hg; have GE252 := GW252; have NB250_252 := bl_ BK250 hg; have NB252_250 := bg_ BK250 hg; have NB251_252 := bl_ BK251 hg; have NB252_251 := bg_ BK251 hg; replace BK250 := bb_ BK250 hb; replace BK251 := bb_ BK251 hb; replace HB := bs_ HB hb; clear hb hbox hg))
 (try simp only [Act.put, sia_, scz_, scs_])
 go_cut [37] (fun v37 wc => ∃ (kq : Nat) (x37_2 : Bool), v37 = .bool x37_2 ∧ Aside0 (spec_DoAct.j0 kq x37_2 l0_0 a1_0 a1_1 a1_2 a1_3 = some (r1, r2)) ∧ Aside0 (kq ≤ k) ∧ Aside0 (wc.heap[gb250]? = some (.cells #[(.slice A0_0 l0_0.length c0_0)] 31 (0, 0))) ∧ Aside0 (wc.heap[gb251]? = some (.cells #[.int .i64 a1_0, .string a1_1, .string a1_2, .string a1_3] 35 (0, 0))) ∧ Aside0 (wc.heap[gb252]? = some (.cells #[(.slice none 0 0)] 31 (0, 0))) ∧ Aside0 (Below w.heap.size w wc))
 case first =>
  have H := HC3.out
  clear HC3
  replace H := Option.bind_eq_some_iff.mp H
  obtain ⟨t253, A70, H⟩ := H
  replace H : (if t253 = true then ((spec_l03Name.f a1_1).bind fun t254 => (if t254 = true then (if a1_0 = 3 then (if a1_0 = 1 then (spec_DoAct.j0 k false l0_0 a1_0 a1_1 a1_2 a1_3) else (spec_DoAct.j0 k (a1_2.toList != ([] : List UInt8)) l0_0 a1_0 a1_1 a1_2 a1_3)) else (if a1_3.toList = ([] : List UInt8) then (if a1_0 = 1 then (spec_DoAct.j0 k false l0_0 a1_0 a1_1 a1_2 a1_3) else (spec_DoAct.j0 k (a1_2.toList != ([] : List UInt8)) l0_0 a1_0 a1_1 a1_2 a1_3)) else (spec_DoAct.j0 k true l0_0 a1_0 a1_1 a1_2 a1_3))) else (spec_DoAct.j0 k true l0_0 a1_0 a1_1 a1_2 a1_3))) else (spec_DoAct.j0 k true l0_0 a1_0 a1_1 a1_2 a1_3)) = some (r1, r2) := H
  have A7 := Aside0.mk A70
  clear A70
  by_cases c8 : t253 = true
  ·subst c8
   have H1 : ((spec_l03Name.f a1_1).bind fun t254 => (if t254 = true then (if a1_0 = 3 then (if a1_0 = 1 then (spec_DoAct.j0 k false l0_0 a1_0 a1_1 a1_2 a1_3) else (spec_DoAct.j0 k (a1_2.toList != ([] : List UInt8)) l0_0 a1_0 a1_1 a1_2 a1_3)) else (if a1_3.toList = ([] : List UInt8) then (if a1_0 = 1 then (spec_DoAct.j0 k false l0_0 a1_0 a1_1 a1_2 a1_3) else (spec_DoAct.j0 k (a1_2.toList != ([] : List UInt8)) l0_0 a1_0 a1_1 a1_2 a1_3)) else (spec_DoAct.j0 k true l0_0 a1_0 a1_1 a1_2 a1_3))) else (spec_DoAct.j0 k true l0_0 a1_0 a1_1 a1_2 a1_3))) = some (r1, r2) := by rw [if_pos rfl] at H; exact H
   clear H
   have H := H1
   clear H1
   replace H := Option.bind_eq_some_iff.mp H
   obtain ⟨t254, A90, H⟩ := H
   replace H : (if t254 = true then (if a1_0 = 3 then (if a1_0 = 1 then (spec_DoAct.j0 k false l0_0 a1_0 a1_1 a1_2 a1_3) else (spec_DoAct.j0 k (a1_2.toList != ([] : List UInt8)) l0_0 a1_0 a1_1 a1_2 a1_3)) else (if a1_3.toList = ([] : List UInt8) then (if a1_0 = 1 then (spec_DoAct.j0 k false l0_0 a1_0 a1_1 a1_2 a1_3) else (spec_DoAct.j0 k (a1_2.toList != ([] : List UInt8)) l0_0 a1_0 a1_1 a1_2 a1_3)) else (spec_DoAct.j0 k true l0_0 a1_0 a1_1 a1_2 a1_3))) else (spec_DoAct.j0 k true l0_0 a1_0 a1_1 a1_2 a1_3)) = some (r1, r2) := H
   have A9 := Aside0.mk A90
   clear A90
   by_cases c10 : t254 = true
   ·subst c10
    have H1 : (if a1_0 = 3 then (if a1_0 = 1 then (spec_DoAct.j0 k false l0_0 a1_0 a1_1 a1_2 a1_3) else (spec_DoAct.j0 k (a1_2.toList != ([] : List UInt8)) l0_0 a1_0 a1_1 a1_2 a1_3)) else (if a1_3.toList = ([] : List UInt8) then (if a1_0 = 1 then (spec_DoAct.j0 k false l0_0 a1_0 a1_1 a1_2 a1_3) else (spec_DoAct.j0 k (a1_2.toList != ([] : List UInt8)) l0_0 a1_0 a1_1 a1_2 a1_3)) else (spec_DoAct.j0 k true l0_0 a1_0 a1_1 a1_2 a1_3))) = some (r1, r2) := by rw [if_pos rfl] at H; exact H
    clear H
    have H := H1
    clear H1
    by_cases c11 : a1_0 = 3
    ·rw [if_pos c11] at H
     have c11b0 : (a1_0 == 3) = true := beq_iff_eq.mpr c11
     have c11b1 : (a1_0 != 3) = false := bne_eq_false_iff_eq.mpr c11
     clear c11
     (first | rw [c11b0] | (simp only [i64_w, i32_w]; rw [c11b0]) | skip)
     by_cases c12 : a1_0 = 1
     ·rw [if_pos c12] at H
      have c12b0 : (a1_0 == 1) = true := beq_iff_eq.mpr c12
      have c12b1 : (a1_0 != 1) = false := bne_eq_false_iff_eq.mpr c12
      clear c12
      have H' := Aside0.mk H
      clear H
      have hnb13 := NB250_251.out
      have hnc13 := NB251_250.out
      have hnb14 := NB250_252.out
      have hnc14 := NB252_250.out
      have hcz15_0 : w6.cell? ⟨gb250, 0, none⟩ = some (.slice A0_0 l0_0.length c0_0) := bc_ BK250 0
      have hfz15_0 := blk_frozen BK250.out 0
      go_wp2_with (first | ((with_reducible refine gate_callee (f := 38) rfl ?_); refine goesL_ (some 10) rfl rfl Try.func38 (by kernel_rfl) rfl #[.agg #[.slice A0_0 l0_0.length c0_0]] rfl ga_ ?_; (with_reducible refine (spec_DiskOk.calls k _ _ l0_0 true _ ?side1 ?side2 A7.out).mono ?_); (case side1 => repeat (first | exact (Kd.C_below HR0_0.out HB.out) | (with_reducible refine Kd.C_alloc ?_ _) | (with_reducible refine Kd.C_drewN ?_ _) | (with_reducible refine Kd.C_drew ?_))); (case side2 => exact HC0_0.out); rintro e w16 ⟨rfl, hb⟩; refine ⟨_, rfl, ?_⟩; replace BK250 := bb_ BK250 hb; replace BK251 := bb_ BK251 hb; replace BK252 := bb_ BK252 hb; replace HB := bs_ HB hb; (try clear hb); have hnb17 := NB251_252.out; have hnc17 := NB252_251.out; obtain ⟨hcz18_0, hcz18_1, hcz18_2, hcz18_3, hfz18_0, hfz18_1, hfz18_2, hfz18_3⟩ := b4_ BK251) | (go_at_call 39; (with_reducible refine (spec_l03Name.calls a1_1 true _ A9.out).mono ?_); rintro e w' ⟨rfl, ⟨nd, rfl⟩⟩))
      go_meet
      case rel => exact ⟨_, (false), (by first | rfl | (simp; done) | (simp [*]; done) | (simp [bne]; done)), H', ⟨by first | omega | exact Nat.le_refl _⟩, ⟨bf_⟩, ⟨bf_⟩, ⟨bf_⟩, ⟨bw_ HB⟩⟩
     ·rw [if_neg c12] at H
      have c12b0 : (a1_0 == 1) = false := beq_eq_false_iff_ne.mpr c12
      have c12b1 : (a1_0 != 1) = true := bne_iff_ne.mpr c12
      have H' := Aside0.mk H
      clear H
      have hnb19 := NB250_251.out
      have hnc19 := NB251_250.out
      have hnb20 := NB250_252.out
      have hnc20 := NB252_250.out
      have hcz21_0 : w6.cell? ⟨gb250, 0, none⟩ = some (.slice A0_0 l0_0.length c0_0) := bc_ BK250 0
      have hfz21_0 := blk_frozen BK250.out 0
      go_wp2_with (first | ((with_reducible refine gate_callee (f := 38) rfl ?_); refine goesL_ (some 10) rfl rfl Try.func38 (by kernel_rfl) rfl #[.agg #[.slice A0_0 l0_0.length c0_0]] rfl ga_ ?_; (with_reducible refine (spec_DiskOk.calls k _ _ l0_0 true _ ?side1 ?side2 A7.out).mono ?_); (case side1 => repeat (first | exact (Kd.C_below HR0_0.out HB.out) | (with_reducible refine Kd.C_alloc ?_ _) | (with_reducible refine Kd.C_drewN ?_ _) | (with_reducible refine Kd.C_drew ?_))); (case side2 => exact HC0_0.out); rintro e w22 ⟨rfl, hb⟩; refine ⟨_, rfl, ?_⟩; replace BK250 := bb_ BK250 hb; replace BK251 := bb_ BK251 hb; replace BK252 := bb_ BK252 hb; replace HB := bs_ HB hb; (try clear hb); have hnb23 := NB251_252.out; have hnc23 := NB252_251.out; obtain ⟨hcz24_0, hcz24_1, hcz24_2, hcz24_3, hfz24_0, hfz24_1, hfz24_2, hfz24_3⟩ := b4_ BK251) | (go_at_call 39; (with_reducible refine (spec_l03Name.calls a1_1 true _ A9.out).mono ?_); rintro e w' ⟨rfl, ⟨nd, rfl⟩⟩))
      go_meet
      case rel => exact ⟨_, ((a1_2.toList != ([] : List UInt8))), (by first | rfl | (simp; done) | (simp [*]; done) | (simp [bne]; done)), H', ⟨by first | omega | exact Nat.le_refl _⟩, ⟨bf_⟩, ⟨bf_⟩, ⟨bf_⟩, ⟨bw_ HB⟩⟩
    ·rw [if_neg c11] at H
     have c11b0 : (a1_0 == 3) = false := beq_eq_false_iff_ne.mpr c11
     have c11b1 : (a1_0 != 3) = true := bne_iff_ne.mpr c11
     (first | rw [c11b0] | (simp only [i64_w, i32_w]; rw [c11b0]) | skip)
     by_cases c25 : a1_3.toList = ([] : List UInt8)
     ·rw [if_pos c25] at H
      have c25b0 : (a1_3.toList == ([] : List UInt8)) = true := beq_iff_eq.mpr c25
      have c25b1 : (a1_3.toList != ([] : List UInt8)) = false := bne_eq_false_iff_eq.mpr c25
      clear c25
      by_cases c26 : a1_0 = 1
      ·rw [if_pos c26] at H
       have c26b0 : (a1_0 == 1) = true := beq_iff_eq.mpr c26
       have c26b1 : (a1_0 != 1) = false := bne_eq_false_iff_eq.mpr c26
       clear c26
       have H' := Aside0.mk H
       clear H
       have hnb27 := NB250_251.out
       have hnc27 := NB251_250.out
       have hnb28 := NB250_252.out
       have hnc28 := NB252_250.out
       have hcz29_0 : w6.cell? ⟨gb250, 0, none⟩ = some (.slice A0_0 l0_0.length c0_0) := bc_ BK250 0
       have hfz29_0 := blk_frozen BK250.out 0
       go_wp2_with (first | ((with_reducible refine gate_callee (f := 38) rfl ?_); refine goesL_ (some 10) rfl rfl Try.func38 (by kernel_rfl) rfl #[.agg #[.slice A0_0 l0_0.length c0_0]] rfl ga_ ?_; (with_reducible refine (spec_DiskOk.calls k _ _ l0_0 true _ ?side1 ?side2 A7.out).mono ?_); (case side1 => repeat (first | exact (Kd.C_below HR0_0.out HB.out) | (with_reducible refine Kd.C_alloc ?_ _) | (with_reducible refine Kd.C_drewN ?_ _) | (with_reducible refine Kd.C_drew ?_))); (case side2 => exact HC0_0.out); rintro e w30 ⟨rfl, hb⟩; refine ⟨_, rfl, ?_⟩; replace BK250 := bb_ BK250 hb; replace BK251 := bb_ BK251 hb; replace BK252 := bb_ BK252 hb; replace HB := bs_ HB hb; (try clear hb); have hnb31 := NB251_252.out; have hnc31 := NB252_251.out; obtain ⟨hcz32_0, hcz32_1, hcz32_2, hcz32_3, hfz32_0, hfz32_1, hfz32_2, hfz32_3⟩ := b4_ BK251) | (go_at_call 39; (with_reducible refine (spec_l03Name.calls a1_1 true _ A9.out).mono ?_); rintro e w' ⟨rfl, ⟨nd, rfl⟩⟩))
       go_meet
       case rel => exact ⟨_, (false), (by first | rfl | (simp; done) | (simp [*]; done) | (simp [bne]; done)), H', ⟨by first | omega | exact Nat.le_refl _⟩, ⟨bf_⟩, ⟨bf_⟩, ⟨bf_⟩, ⟨bw_ HB⟩⟩
      ·rw [if_neg c26] at H
       have c26b0 : (a1_0 == 1) = false := beq_eq_false_iff_ne.mpr c26
       have c26b1 : (a1_0 != 1) = true := bne_iff_ne.mpr c26
       have H' := Aside0.mk H
       clear H
       have hnb33 := NB250_251.out
       have hnc33 := NB251_250.out
       have hnb34 := NB250_252.out
       have hnc34 := NB252_250.out
       have hcz35_0 : w6.cell? ⟨gb250, 0, none⟩ = some (.slice A0_0 l0_0.length c0_0) := bc_ BK250 0
       have hfz35_0 := blk_frozen BK250.out 0
       go_wp2_with (first | ((with_reducible refine gate_callee (f := 38) rfl ?_); refine goesL_ (some 10) rfl rfl Try.func38 (by kernel_rfl) rfl #[.agg #[.slice A0_0 l0_0.length c0_0]] rfl ga_ ?_; (with_reducible refine (spec_DiskOk.calls k _ _ l0_0 true _ ?side1 ?side2 A7.out).mono ?_); (case side1 => repeat (first | exact (Kd.C_below HR0_0.out HB.out) | (with_reducible refine Kd.C_alloc ?_ _) | (with_reducible refine Kd.C_drewN ?_ _) | (with_reducible refine Kd.C_drew ?_))); (case side2 => exact HC0_0.out); rintro e w36 ⟨rfl, hb⟩; refine ⟨_, rfl, ?_⟩; replace BK250 := bb_ BK250 hb; replace BK251 := bb_ BK251 hb; replace BK252 := bb_ BK252 hb; replace HB := bs_ HB hb; (try clear hb); have hnb37 := NB251_252.out; have hnc37 := NB252_251.out; obtain ⟨hcz38_0, hcz38_1, hcz38_2, hcz38_3, hfz38_0, hfz38_1, hfz38_2, hfz38_3⟩ := b4_ BK251) | (go_at_call 39; (with_reducible refine (spec_l03Name.calls a1_1 true _ A9.out).mono ?_); rintro e w' ⟨rfl, ⟨nd, rfl⟩⟩))
       go_meet
       case rel => exact ⟨_, ((a1_2.toList != ([] : List UInt8))), (by first | rfl | (simp; done) | (simp [*]; done) | (simp [bne]; done)), H', ⟨by first | omega | exact Nat.le_refl _⟩, ⟨bf_⟩, ⟨bf_⟩, ⟨bf_⟩, ⟨bw_ HB⟩⟩
     ·rw [if_neg c25] at H
      have c25b0 : (a1_3.toList == ([] : List UInt8)) = false := beq_eq_false_iff_ne.mpr c25
      have c25b1 : (a1_3.toList != ([] : List UInt8)) = true := bne_iff_ne.mpr c25
      have H' := Aside0.mk H
      clear H
      have hnb39 := NB250_251.out
      have hnc39 := NB251_250.out
      have hnb40 := NB250_252.out
      have hnc40 := NB252_250.out
      have hcz41_0 : w6.cell? ⟨gb250, 0, none⟩ = some (.slice A0_0 l0_0.length c0_0) := bc_ BK250 0
      have hfz41_0 := blk_frozen BK250.out 0
      go_wp2_with (first | ((with_reducible refine gate_callee (f := 38) rfl ?_); refine goesL_ (some 10) rfl rfl Try.func38 (by kernel_rfl) rfl #[.agg #[.slice A0_0 l0_0.length c0_0]] rfl ga_ ?_; (with_reducible refine (spec_DiskOk.calls k _ _ l0_0 true _ ?side1 ?side2 A7.out).mono ?_); (case side1 => repeat (first | exact (Kd.C_below HR0_0.out HB.out) | (with_reducible refine Kd.C_alloc ?_ _) | (with_reducible refine Kd.C_drewN ?_ _) | (with_reducible refine Kd.C_drew ?_))); (case side2 => exact HC0_0.out); rintro e w42 ⟨rfl, hb⟩; refine ⟨_, rfl, ?_⟩; replace BK250 := bb_ BK250 hb; replace BK251 := bb_ BK251 hb; replace BK252 := bb_ BK252 hb; replace HB := bs_ HB hb; (try clear hb); have hnb43 := NB251_252.out; have hnc43 := NB252_251.out; obtain ⟨hcz44_0, hcz44_1, hcz44_2, hcz44_3, hfz44_0, hfz44_1, hfz44_2, hfz44_3⟩ := b4_ BK251) | (go_at_call 39; (with_reducible refine (spec_l03Name.calls a1_1 true _ A9.out).mono ?_); rintro e w' ⟨rfl, ⟨nd, rfl⟩⟩))
      go_meet
      case rel => exact ⟨_, (true), (by first | rfl | (simp; done) | (simp [*]; done) | (simp [bne]; done)), H', ⟨by first | omega | exact Nat.le_refl _⟩, ⟨bf_⟩, ⟨bf_⟩, ⟨bf_⟩, ⟨bw_ HB⟩⟩
   ·replace c10 := Bool.eq_false_iff.mpr c10
    subst c10
    have H1 : (spec_DoAct.j0 k true l0_0 a1_0 a1_1 a1_2 a1_3) = some (r1, r2) := by rw [if_neg (show ¬ (false = true) by decide)] at H; exact H
    clear H
    have H := H1
    clear H1
    have H' := Aside0.mk H
    clear H
    have hnb45 := NB250_251.out
    have hnc45 := NB251_250.out
    have hnb46 := NB250_252.out
    have hnc46 := NB252_250.out
    have hcz47_0 : w6.cell? ⟨gb250, 0, none⟩ = some (.slice A0_0 l0_0.length c0_0) := bc_ BK250 0
    have hfz47_0 := blk_frozen BK250.out 0
    go_wp2_with (first | ((with_reducible refine gate_callee (f := 38) rfl ?_); refine goesL_ (some 10) rfl rfl Try.func38 (by kernel_rfl) rfl #[.agg #[.slice A0_0 l0_0.length c0_0]] rfl ga_ ?_; (with_reducible refine (spec_DiskOk.calls k _ _ l0_0 true _ ?side1 ?side2 A7.out).mono ?_); (case side1 => repeat (first | exact (Kd.C_below HR0_0.out HB.out) | (with_reducible refine Kd.C_alloc ?_ _) | (with_reducible refine Kd.C_drewN ?_ _) | (with_reducible refine Kd.C_drew ?_))); (case side2 => exact HC0_0.out); rintro e w48 ⟨rfl, hb⟩; refine ⟨_, rfl, ?_⟩; replace BK250 := bb_ BK250 hb; replace BK251 := bb_ BK251 hb; replace BK252 := bb_ BK252 hb; replace HB := bs_ HB hb; (try clear hb); have hnb49 := NB251_252.out; have hnc49 := NB252_251.out; obtain ⟨hcz50_0, hcz50_1, hcz50_2, hcz50_3, hfz50_0, hfz50_1, hfz50_2, hfz50_3⟩ := b4_ BK251) | (go_at_call 39; (with_reducible refine (spec_l03Name.calls a1_1 false _ A9.out).mono ?_); rintro e w' ⟨rfl, ⟨nd, rfl⟩⟩))
    go_meet
    case rel => exact ⟨_, (true), (by first | rfl | (simp; done) | (simp [*]; done) | (simp [bne]; done)), H', ⟨by first | omega | exact Nat.le_refl _⟩, ⟨bf_⟩, ⟨bf_⟩, ⟨bf_⟩, ⟨bw_ HB⟩⟩
  ·replace c8 := Bool.eq_false_iff.mpr c8
   subst c8
   have H1 : (spec_DoAct.j0 k true l0_0 a1_0 a1_1 a1_2 a1_3) = some (r1, r2) := by rw [if_neg (show ¬ (false = true) by decide)] at H; exact H
   clear H
   have H := H1
   clear H1
   have H' := Aside0.mk H
   clear H
   have hnb51 := NB250_251.out
   have hnc51 := NB251_250.out
   have hnb52 := NB250_252.out
   have hnc52 := NB252_250.out
   have hcz53_0 : w6.cell? ⟨gb250, 0, none⟩ = some (.slice A0_0 l0_0.length c0_0) := bc_ BK250 0
   have hfz53_0 := blk_frozen BK250.out 0
   go_wp2_with (first | ((with_reducible refine gate_callee (f := 38) rfl ?_); refine goesL_ (some 10) rfl rfl Try.func38 (by kernel_rfl) rfl #[.agg #[.slice A0_0 l0_0.length c0_0]] rfl ga_ ?_; (with_reducible refine (spec_DiskOk.calls k _ _ l0_0 false _ ?side1 ?side2 A7.out).mono ?_); (case side1 => repeat (first | exact (Kd.C_below HR0_0.out HB.out) | (with_reducible refine Kd.C_alloc ?_ _) | (with_reducible refine Kd.C_drewN ?_ _) | (with_reducible refine Kd.C_drew ?_))); (case side2 => exact HC0_0.out); rintro e w54 ⟨rfl, hb⟩; refine ⟨_, rfl, ?_⟩; replace BK250 := bb_ BK250 hb; replace BK251 := bb_ BK251 hb; replace BK252 := bb_ BK252 hb; replace HB := bs_ HB hb; (try clear hb)))
   go_meet
   case rel => exact ⟨_, (true), (by first | rfl | (simp; done) | (simp [*]; done) | (simp [bne]; done)), H', ⟨by first | omega | exact Nat.le_refl _⟩, ⟨bf_⟩, ⟨bf_⟩, ⟨bf_⟩, ⟨bw_ HB⟩⟩
 case rest =>
  clear HC3
  try clear c1
  try clear c2
  try clear p2
  try clear c3
  try clear c4
  try clear c5
  try clear c8
  try clear c10
  try clear c11
  try clear c11b0
  try clear c11b1
  try clear c12
  try clear c12b0
  try clear c12b1
  try clear c13
  try clear c14
  try clear c17
  try clear c19
  try clear c20
  try clear c23
  try clear c25
  try clear c25b0
  try clear c25b1
  try clear c26
  try clear c26b0
  try clear c26b1
  try clear c27
  try clear c28
  try clear c31
  try clear c33
  try clear c34
  try clear c37
  try clear c38
  try clear c39
  try clear c40
  try clear c43
  try clear c45
  try clear c46
  try clear c49
  try clear c51
  try clear c52
  try clear hcz15_0
  try clear hcz18_0
  try clear hcz18_1
  try clear hcz18_2
  try clear hcz18_3
  try clear hcz21_0
  try clear hcz24_0
  try clear hcz24_1
  try clear hcz24_2
  try clear hcz24_3
  try clear hcz29_0
  try clear hcz32_0
  try clear hcz32_1
  try clear hcz32_2
  try clear hcz32_3
  try clear hcz35_0
  try clear hcz38_0
  try clear hcz38_1
  try clear hcz38_2
  try clear hcz38_3
  try clear hcz41_0
  try clear hcz44_0
  try clear hcz44_1
  try clear hcz44_2
  try clear hcz44_3
  try clear hcz47_0
  try clear hcz50_0
  try clear hcz50_1
  try clear hcz50_2
  try clear hcz50_3
  try clear hcz53_0
  try clear hfz15_0
  try clear hfz18_0
  try clear hfz18_1
  try clear hfz18_2
  try clear hfz18_3
  try clear hfz21_0
  try clear hfz24_0
  try clear hfz24_1
  try clear hfz24_2
  try clear hfz24_3
  try clear hfz29_0
  try clear hfz32_0
  try clear hfz32_1
  try clear hfz32_2
  try clear hfz32_3
  try clear hfz35_0
  try clear hfz38_0
  try clear hfz38_1
  try clear hfz38_2
  try clear hfz38_3
  try clear hfz41_0
  try clear hfz44_0
  try clear hfz44_1
  try clear hfz44_2
  try clear hfz44_3
  try clear hfz47_0
  try clear hfz50_0
  try clear hfz50_1
  try clear hfz50_2
  try clear hfz50_3
  try clear hfz53_0
  obtain ⟨kq, x37_2, rfl, HA, HJ2, BK250, BK251, BK252, HB⟩ := hcut
  cases kq with
  | zero => exact absurd HA.out (by simp [spec_DoAct.j0])
  | succ kj2 =>
   have H := HA.out
   clear HA
   simp only [spec_DoAct.j0] at H
   by_cases c55 : x37_2 = true
   ·subst c55
    have H1 : (some (([] : List (S76)), false)) = some (r1, r2) := by rw [if_pos rfl] at H; exact H
    clear H
    have H := H1
    clear H1
    simp only [Option.some.injEq, Prod.mk.injEq] at H
    obtain ⟨rfl, rfl⟩ := H
    have hnb56 := NB252_250.out
    have hnc56 := NB250_252.out
    have hnb57 := NB252_251.out
    have hnc57 := NB251_252.out
    have hcz58_0 : wc.cell? ⟨gb252, 0, none⟩ = some (.slice none 0 0) := bc_ BK252 0
    have hfz58_0 := blk_frozen BK252.out 0
    go_wp2
    refine bodyPost_ret (results_ct rfl _ _ gb252 31 #[.slice none 0 0] (0, 0) _ rfl bu_ Try.underlying31 rfl (by kernel_rfl)) rfl ?_
    exact ⟨_, er_, by first | exact Kd.R_nil _ _ _ _ _ | exact Kd.N_nil _ _ _ _ _ | exact Kd.V_nil _ _ _ _ _ | exact Kd.Q_nil _ _ _ _ _ | exact Kd.S_nil _ _ _ _ _, bw_ HB⟩
   ·replace c55 := Bool.eq_false_iff.mpr c55
    subst c55
    have H1 : ((spec_l03At.f kj2 l0_0 a1_1).bind fun t255 => (if t255 ≥ 0 then (if 0 ≤ t255 then (if t255 < (l0_0.length : Int) then (spec_DoAct.j1 kj2 t255 l0_0 a1_0 a1_1 a1_2 a1_3 ((rd_T76 l0_0 t255).f0) ((rd_T76 l0_0 t255).f1) ((rd_T76 l0_0 t255).f2)) else (none)) else (none)) else (spec_DoAct.j1 kj2 t255 l0_0 a1_0 a1_1 a1_2 a1_3 a1_1 (⟨#[]⟩ : ByteArray) 0))) = some (r1, r2) := by rw [if_neg (show ¬ (false = true) by decide)] at H; exact H
    clear H
    have H := H1
    clear H1
    replace H := Option.bind_eq_some_iff.mp H
    obtain ⟨t255, A590, H⟩ := H
    replace H : (if t255 ≥ 0 then (if 0 ≤ t255 then (if t255 < (l0_0.length : Int) then (spec_DoAct.j1 kj2 t255 l0_0 a1_0 a1_1 a1_2 a1_3 ((rd_T76 l0_0 t255).f0) ((rd_T76 l0_0 t255).f1) ((rd_T76 l0_0 t255).f2)) else (none)) else (none)) else (spec_DoAct.j1 kj2 t255 l0_0 a1_0 a1_1 a1_2 a1_3 a1_1 (⟨#[]⟩ : ByteArray) 0)) = some (r1, r2) := H
    have A59 := Aside0.mk A590
    clear A590
    have HC60 := Aside0.mk H
    clear H
    have hnb61 := NB250_251.out
    have hnc61 := NB251_250.out
    have hnb62 := NB250_252.out
    have hnc62 := NB252_250.out
    have hcz63_0 : wc.cell? ⟨gb250, 0, none⟩ = some (.slice A0_0 l0_0.length c0_0) := bc_ BK250 0
    have hfz63_0 := blk_frozen BK250.out 0
    have hnb64 := NB251_252.out
    have hnc64 := NB252_251.out
    have hcz65_0 : wc.cell? ⟨gb251, 0, none⟩ = some (.int .i64 a1_0) := bc_ BK251 0
    have hcz65_1 : wc.cell? ⟨gb251, 1, none⟩ = some (.string a1_1) := bc_ BK251 1
    have hcz65_2 : wc.cell? ⟨gb251, 2, none⟩ = some (.string a1_2) := bc_ BK251 2
    have hcz65_3 : wc.cell? ⟨gb251, 3, none⟩ = some (.string a1_3) := bc_ BK251 3
    have hfz65_0 := blk_frozen BK251.out 0
    have hfz65_1 := blk_frozen BK251.out 1
    have hfz65_2 := blk_frozen BK251.out 2
    have hfz65_3 := blk_frozen BK251.out 3
    go_upto_if 47 with (first | ((with_reducible refine gate_callee (f := 40) rfl ?_); refine goesL_ (some 42) rfl rfl Try.func40 (by kernel_rfl) rfl #[.agg #[.slice A0_0 l0_0.length c0_0], .string a1_1] rfl ga_ ?_; (with_reducible refine (spec_l03At.calls kj2 _ _ l0_0 a1_1 t255 _ ?side1 ?side2 A59.out).mono ?_); (case side1 => repeat (first | exact (Kd.C_below HR0_0.out HB.out) | (with_reducible refine Kd.C_alloc ?_ _) | (with_reducible refine Kd.C_drewN ?_ _) | (with_reducible refine Kd.C_drew ?_))); (case side2 => exact HC0_0.out); rintro e w66 ⟨rfl, hb⟩; refine ⟨_, rfl, ?_⟩; replace BK250 := bb_ BK250 hb; replace BK251 := bb_ BK251 hb; replace BK252 := bb_ BK252 hb; replace HB := bs_ HB hb; (try clear hb); obtain ⟨hcz67_0, hcz67_1, hcz67_2, hcz67_3, hfz67_0, hfz67_1, hfz67_2, hfz67_3⟩ := b4_ BK251) | ((with_reducible refine gate_dst (N := 7) rfl ?_); refine bx_ (N := 7) (cs := #[.string (⟨#[]⟩ : ByteArray), .string (⟨#[]⟩ : ByteArray), .int .i64 0]) (t := 76) ?_; intro gb256 hg w68 hbox hb; have BK256 := mk_ (hbox); have GW256 : Aside0 (w.heap.size ≤ gb256) := bz_ hg; have GE256 := GW256; have NB250_256 := bl_ BK250 hg; have NB256_250 := bg_ BK250 hg; have NB251_256 := bl_ BK251 hg; have NB256_251 := bg_ BK251 hg; have NB252_256 := bl_ BK252 hg; have NB256_252 := bg_ BK252 hg; replace BK250 := bb_ BK250 hb; replace BK251 := bb_ BK251 hb; replace BK252 := bb_ BK252 hb; replace HB := bs_ HB hb; clear hb hbox hg; have hnb69 := NB256_250.out; have hnc69 := NB250_256.out; have hnb70 := NB256_251.out; have hnc70 := NB251_256.out; have hnb71 := NB256_252.out; have hnc71 := NB252_256.out; obtain ⟨hcz72_0, hcz72_1, hcz72_2, hfz72_0, hfz72_1, hfz72_2⟩ := b3_ BK256))
    (try simp only [Act.put, sia_, scz_, scs_])
    go_cut [] (fun wc => ∃ (kq : Nat) (x257000_59 : ByteArray) (x257001_59 : ByteArray) (x257002_59 : Int), Aside0 (spec_DoAct.j1 kq t255 l0_0 a1_0 a1_1 a1_2 a1_3 x257000_59 x257001_59 x257002_59 = some (r1, r2)) ∧ Aside0 (kq ≤ kj2) ∧ Aside0 (wc.heap[gb250]? = some (.cells #[(.slice A0_0 l0_0.length c0_0)] 31 (0, 0))) ∧ Aside0 (wc.heap[gb251]? = some (.cells #[.int .i64 a1_0, .string a1_1, .string a1_2, .string a1_3] 35 (0, 0))) ∧ Aside0 (wc.heap[gb252]? = some (.cells #[(.slice none 0 0)] 31 (0, 0))) ∧ Aside0 (wc.heap[gb256]? = some (.cells #[.string x257000_59, .string x257001_59, .int .i64 x257002_59] 76 (0, 0))) ∧ Aside0 (Below w.heap.size w wc))
    case first =>
     have H := HC60.out
     clear HC60
     by_cases c73 : t255 ≥ 0
     ·rw [if_pos c73] at H
      have c73b0 : decide (0 ≤ t255) = true := decide_eq_true c73
      clear c73
      (first | rw [c73b0] | (simp only [i64_w, i32_w]; rw [c73b0]) | skip)
      by_cases c74 : 0 ≤ t255
      ·rw [if_pos c74] at H
       have c74b0 : decide (0 ≤ t255) = true := decide_eq_true c74
       clear c74
       by_cases c75 : t255 < (l0_0.length : Int)
       ·rw [if_pos c75] at H
        have c75b0 : decide (t255 < (l0_0.length : Int)) = true := decide_eq_true c75
        clear c75
        have H' := Aside0.mk H
        clear H
        have hnb76 := NB250_251.out
        have hnc76 := NB251_250.out
        have hnb77 := NB250_252.out
        have hnc77 := NB252_250.out
        have hnb78 := NB250_256.out
        have hnc78 := NB256_250.out
        have hcz79_0 : w68.cell? ⟨gb250, 0, none⟩ = some (.slice A0_0 l0_0.length c0_0) := bc_ BK250 0
        have hfz79_0 := blk_frozen BK250.out 0
        have p257 : 0 ≤ (t255 : Int) := od_
        have q257 : t255 < (l0_0.length : Int) := od_
        obtain ⟨ad257, e257, hx257_0, hx257_1, hx257_2⟩ := at_T76 HR0_0.out t255 p257 q257
        cases e257
        have hn257_0 : ad257.block ≠ gb256 := Nat.ne_of_lt (Nat.lt_of_lt_of_le (by have := World.block_lt_of_cell? _ _ hx257_0; first | rwa [add_block] at this | exact this) GW256.out)
        have hn257_1 : ad257.block ≠ gb256 := Nat.ne_of_lt (Nat.lt_of_lt_of_le (by have := World.block_lt_of_cell? _ _ hx257_0; first | rwa [add_block] at this | exact this) GW256.out)
        have hn257_2 : ad257.block ≠ gb256 := Nat.ne_of_lt (Nat.lt_of_lt_of_le (by have := World.block_lt_of_cell? _ _ hx257_0; first | rwa [add_block] at this | exact this) GW256.out)
        replace hx257_0 := hc_ HB hx257_0
        replace hx257_1 := hc_ HB hx257_1
        replace hx257_2 := hc_ HB hx257_2
        replace hx257_0 := (cell_far (p := ⟨gb256, 0, none⟩) ab_ (.string a1_1)).trans hx257_0
        replace hx257_1 := (cell_far (p := ⟨gb256, 0, none⟩) ab_ (.string a1_1)).trans hx257_1
        replace hx257_2 := (cell_far (p := ⟨gb256, 0, none⟩) ab_ (.string a1_1)).trans hx257_2
        replace hx257_0 := (cell_far (p := ⟨gb256, 1, none⟩) ab_ (.string (⟨#[]⟩ : ByteArray))).trans hx257_0
        replace hx257_1 := (cell_far (p := ⟨gb256, 1, none⟩) ab_ (.string (⟨#[]⟩ : ByteArray))).trans hx257_1
        replace hx257_2 := (cell_far (p := ⟨gb256, 1, none⟩) ab_ (.string (⟨#[]⟩ : ByteArray))).trans hx257_2
        replace hx257_0 := (cell_far (p := ⟨gb256, 2, none⟩) ab_ (.int .i64 0)).trans hx257_0
        replace hx257_1 := (cell_far (p := ⟨gb256, 2, none⟩) ab_ (.int .i64 0)).trans hx257_1
        replace hx257_2 := (cell_far (p := ⟨gb256, 2, none⟩) ab_ (.int .i64 0)).trans hx257_2
        clear hn257_0; clear hn257_1; clear hn257_2
        replace p257 := eq_true p257
        replace q257 := eq_true q257
        have hnb80 := NB256_251.out
        have hnc80 := NB251_256.out
        have hnb81 := NB256_252.out
        have hnc81 := NB252_256.out
        have hcz82_0 : w68.cell? ⟨gb256, 0, none⟩ = some (.string (⟨#[]⟩ : ByteArray)) := bc_ BK256 0
        have hcz82_1 : w68.cell? ⟨gb256, 1, none⟩ = some (.string (⟨#[]⟩ : ByteArray)) := bc_ BK256 1
        have hcz82_2 : w68.cell? ⟨gb256, 2, none⟩ = some (.int .i64 0) := bc_ BK256 2
        have hfz82_0 := blk_frozen BK256.out 0
        have hfz82_1 := blk_frozen BK256.out 1
        have hfz82_2 := blk_frozen BK256.out 2
        go_wp2
        go_meet
        case rel => exact ⟨_, ((rd_T76 l0_0 t255).f0), ((rd_T76 l0_0 t255).f1), ((rd_T76 l0_0 t255).f2), H', ⟨by have := HJ2.out; first | omega | exact Nat.le_refl _⟩, ⟨bf_⟩, ⟨bf_⟩, ⟨bf_⟩, ⟨bu_⟩, ⟨bw_ HB⟩⟩
       ·rw [if_neg c75] at H
        exact absurd H (by simp)
      ·rw [if_neg c74] at H
       exact absurd H (by simp)
     ·rw [if_neg c73] at H
      have c73b0 : decide (0 ≤ t255) = false := decide_eq_false c73
      clear c73
      (first | rw [c73b0] | (simp only [i64_w, i32_w]; rw [c73b0]) | skip)
      have H' := Aside0.mk H
      clear H
      go_wp2
      go_meet
      case rel => exact ⟨_, (a1_1), ((⟨#[]⟩ : ByteArray)), (0), H', ⟨by have := HJ2.out; first | omega | exact Nat.le_refl _⟩, ⟨bf_⟩, ⟨bf_⟩, ⟨bf_⟩, ⟨bu_⟩, ⟨bw_ HB⟩⟩
    case rest =>
     clear HC60
     try clear c1
     try clear c2
     try clear p2
     try clear q2
     try clear hx2
     try clear c3
     try clear c4
     try clear c5
     try clear c6
     try clear c7
     try clear c8
     try clear c10
     try clear c11
     try clear c11b0
     try clear c11b1
     try clear c12
     try clear c12b0
     try clear c12b1
     try clear c13
     try clear c14
     try clear c17
     try clear c19
     try clear c20
     try clear c23
     try clear c25
     try clear c25b0
     try clear c25b1
     try clear p25
     try clear q25
     try clear hx25
     try clear c26
     try clear c26b0
     try clear c26b1
     try clear c27
     try clear c28
     try clear c31
     try clear c33
     try clear c34
     try clear c37
     try clear c38
     try clear c39
     try clear c40
     try clear c43
     try clear c45
     try clear c46
     try clear c49
     try clear c51
     try clear c52
     try clear c55
     try clear c56
     try clear c57
     try clear c61
     try clear c62
     try clear c64
     try clear c69
     try clear c70
     try clear c71
     try clear c73
     try clear c73b0
     try clear c74
     try clear c74b0
     try clear c75
     try clear c75b0
     try clear c76
     try clear c77
     try clear c78
     try clear c80
     try clear c81
     try clear hcz15_0
     try clear hcz18_0
     try clear hcz18_1
     try clear hcz18_2
     try clear hcz18_3
     try clear hcz21_0
     try clear hcz24_0
     try clear hcz24_1
     try clear hcz24_2
     try clear hcz24_3
     try clear hcz29_0
     try clear hcz32_0
     try clear hcz32_1
     try clear hcz32_2
     try clear hcz32_3
     try clear hcz35_0
     try clear hcz38_0
     try clear hcz38_1
     try clear hcz38_2
     try clear hcz38_3
     try clear hcz41_0
     try clear hcz44_0
     try clear hcz44_1
     try clear hcz44_2
     try clear hcz44_3
     try clear hcz47_0
     try clear hcz50_0
     try clear hcz50_1
     try clear hcz50_2
     try clear hcz50_3
     try clear hcz53_0
     try clear hcz58_0
     try clear hcz63_0
     try clear hcz65_0
     try clear hcz65_1
     try clear hcz65_2
     try clear hcz65_3
     try clear hcz67_0
     try clear hcz67_1
     try clear hcz67_2
     try clear hcz67_3
     try clear hcz72_0
     try clear hcz72_1
     try clear hcz72_2
     try clear hcz79_0
     try clear hcz82_0
     try clear hcz82_1
     try clear hcz82_2
     try clear hfz15_0
     try clear hfz18_0
     try clear hfz18_1
     try clear hfz18_2
     try clear hfz18_3
     try clear hfz21_0
     try clear hfz24_0
     try clear hfz24_1
     try clear hfz24_2
     try clear hfz24_3
     try clear hfz29_0
     try clear hfz32_0
     try clear hfz32_1
     try clear hfz32_2
     try clear hfz32_3
     try clear hfz35_0
     try clear hfz38_0
     try clear hfz38_1
     try clear hfz38_2
     try clear hfz38_3
     try clear hfz41_0
     try clear hfz44_0
     try clear hfz44_1
     try clear hfz44_2
     try clear hfz44_3
     try clear hfz47_0
     try clear hfz50_0
     try clear hfz50_1
     try clear hfz50_2
     try clear hfz50_3
     try clear hfz53_0
     try clear hfz58_0
     try clear hfz63_0
     try clear hfz65_0
     try clear hfz65_1
     try clear hfz65_2
     try clear hfz65_3
     try clear hfz67_0
     try clear hfz67_1
     try clear hfz67_2
     try clear hfz67_3
     try clear hfz72_0
     try clear hfz72_1
     try clear hfz72_2
     try clear hfz79_0
     try clear hfz82_0
     try clear hfz82_1
     try clear hfz82_2
     try clear hx257_0
     try clear hx257_1
     try clear hx257_2
     try clear p2
     try clear p257
     try clear q257
     obtain ⟨kq, x257000_59, x257001_59, x257002_59, HA, HJ59, BK250, BK251, BK252, BK256, HB⟩ := hcut
     cases kq with
     | zero => exact absurd HA.out (by simp [spec_DoAct.j1])
     | succ kj59 =>
      have H := HA.out
      clear HA
      simp only [spec_DoAct.j1] at H
      by_cases c83 : a1_0 = 1
      ·rw [if_pos c83] at H
       have c83b0 : (a1_0 == 1) = true := beq_iff_eq.mpr c83
       have c83b1 : (a1_0 != 1) = false := bne_eq_false_iff_eq.mpr c83
       clear c83
       by_cases c84 : x257001_59.size + a1_2.size ≤ 9223372036854775807
       ·rw [if_pos c84] at H
        have c84b0 := eq_true c84
        have c84b1 : decide (x257001_59.size + a1_2.size ≤ 9223372036854775807) = true := decide_eq_true c84
        try have c84b2 : (9223372036854775807 < x257001_59.size + a1_2.size) = False := eq_false (Nat.not_lt.2 c84)
        replace H := Option.bind_eq_some_iff.mp H
        obtain ⟨t259, A850, H⟩ := H
        replace H : ((spec_DiskOk.f kj59 t259).bind fun t262 => (if t262 = true then (some (t259, true)) else (some (([] : List (S76)), false)))) = some (r1, r2) := H
        have A85 := Aside0.mk A850
        clear A850
        replace H := Option.bind_eq_some_iff.mp H
        obtain ⟨t262, A860, H⟩ := H
        replace H : (if t262 = true then (some (t259, true)) else (some (([] : List (S76)), false))) = some (r1, r2) := H
        have A86 := Aside0.mk A860
        clear A860
        by_cases c87 : t262 = true
        ·subst c87
         have H1 : (some (t259, true)) = some (r1, r2) := by rw [if_pos rfl] at H; exact H
         clear H
         have H := H1
         clear H1
         simp only [Option.some.injEq, Prod.mk.injEq] at H
         obtain ⟨rfl, rfl⟩ := H
         go_wp2_with (first | ((with_reducible refine gate_dst (N := 8) rfl ?_); refine bx_ (N := 8) (cs := #[.slice none 0 0]) (t := 31) ?_; intro gb258 hg w88 hbox hb; have BK258 := mk_ (hbox); have GW258 : Aside0 (w.heap.size ≤ gb258) := bz_ hg; have GE258 := GW258; have NB250_258 := bl_ BK250 hg; have NB258_250 := bg_ BK250 hg; have NB251_258 := bl_ BK251 hg; have NB258_251 := bg_ BK251 hg; have NB252_258 := bl_ BK252 hg; have NB258_252 := bg_ BK252 hg; have NB256_258 := bl_ BK256 hg; have NB258_256 := bg_ BK256 hg; replace BK250 := bb_ BK250 hb; replace BK251 := bb_ BK251 hb; replace BK252 := bb_ BK252 hb; replace BK256 := bb_ BK256 hb; replace HB := bs_ HB hb; clear hb hbox hg; have hnb89 := NB258_250.out; have hnc89 := NB250_258.out; have hnb90 := NB258_251.out; have hnc90 := NB251_258.out; have hnb91 := NB258_252.out; have hnc91 := NB252_258.out; have hnb92 := NB258_256.out; have hnc92 := NB256_258.out; obtain ⟨hcz93_0, hfz93_0⟩ := b1_ BK258; have hnb94 := NB251_250.out; have hnc94 := NB250_251.out; have hnb95 := NB251_252.out; have hnc95 := NB252_251.out; have hnb96 := NB251_256.out; have hnc96 := NB256_251.out; obtain ⟨hcz97_0, hcz97_1, hcz97_2, hcz97_3, hfz97_0, hfz97_1, hfz97_2, hfz97_3⟩ := b4_ BK251; have hnb98 := NB256_250.out; have hnc98 := NB250_256.out; have hnb99 := NB256_252.out; have hnc99 := NB252_256.out; obtain ⟨hcz100_0, hcz100_1, hcz100_2, hfz100_0, hfz100_1, hfz100_2⟩ := b3_ BK256; have hnb101 := NB250_252.out; have hnc101 := NB252_250.out; obtain ⟨hcz102_0, hfz102_0⟩ := b1_ BK250) | ((with_reducible refine gate_callee (f := 41) rfl ?_); refine goesL_ (some 67) rfl rfl Try.func41 (by kernel_rfl) rfl #[.agg #[.slice A0_0 l0_0.length c0_0], .agg #[.string x257000_59, .string (x257001_59 ++ a1_2), .int .i64 x257002_59]] rfl ga_ ?_; (with_reducible refine (spec_l03Put.calls kj59 _ _ l0_0 x257000_59 (x257001_59 ++ a1_2) x257002_59 t259 _ ?side1 ?side2 A85.out).mono ?_); (case side1 => exact Kd.C_below HR0_0.out (bw_ HB)); (case side2 => exact HC0_0.out); rintro e w103 ⟨v260, rfl, ho0, hb⟩; refine ⟨_, rfl, ?_⟩; have HO261 := mk_ (Kd.R_lower (Kd.R_newB ho0 (g := gb256) (o := .cells #[.string x257000_59, .string (x257001_59 ++ a1_2), .int .i64 x257002_59] 76 (0, 0)) bu_) (below_size (bw_ HB))); replace BK250 := mk_ (blk_below (g := gb250) (o := .cells #[.slice A0_0 l0_0.length c0_0] 31 (0, 0)) bf_ hb); replace BK251 := mk_ (blk_below (g := gb251) (o := .cells #[.int .i64 a1_0, .string a1_1, .string a1_2, .string a1_3] 35 (0, 0)) bf_ hb); replace BK252 := mk_ (blk_below (g := gb252) (o := .cells #[.slice none 0 0] 31 (0, 0)) bf_ hb); replace BK256 := mk_ (blk_below (g := gb256) (o := .cells #[.string x257000_59, .string (x257001_59 ++ a1_2), .int .i64 x257002_59] 76 (0, 0)) bu_ hb); replace BK258 := mk_ (blk_below (g := gb258) (o := .cells #[.slice none 0 0] 31 (0, 0)) bu_ hb); replace HB := bs_ HB hb; (try clear hb); (try clear hk); (try clear ho0); obtain ⟨Ao104, co104, eo104⟩ := Kd.R_slice HO261.out; subst eo104; obtain ⟨hcz105_0, hfz105_0⟩ := b1_ BK258) | ((with_reducible refine gate_callee (f := 38) rfl ?_); refine goesL_ (some 125) rfl rfl Try.func38 (by kernel_rfl) rfl #[.agg #[.slice Ao104 t259.length co104]] rfl ga_ ?_; (with_reducible refine (spec_DiskOk.calls kj59 _ _ t259 true _ ?side1 ?side2 A86.out).mono ?_); (case side1 => refine (Kd.R_reads' (e := 76) (base := w.heap.size) (ok := fun k_ => (True ∧ k_ ≠ gb256)) (n := t259.length) (c := co104) ?_).2.2; exact (by (with_reducible repeat (first | apply Kd.R_alloc | apply Kd.R_drewN | apply Kd.R_drew)); exact (Kd.R_mono (Kd.R_far (p := ⟨gb258, 0, none⟩) (Kd.R_types HO261.out BK258.out (by decide)) (fun _ hk => hk.2) (.slice Ao104 t259.length co104)) (fun _ h_ => h_.1)))); (case side2 => exact (Kd.R_reads' HO261.out).2.1); rintro e w106 ⟨rfl, hb⟩; refine ⟨_, rfl, ?_⟩; replace HO261 := mk_ (Kd.R_below (by (with_reducible repeat (first | apply Kd.R_alloc | apply Kd.R_drewN | apply Kd.R_drew)); exact (Kd.R_mono (Kd.R_far (p := ⟨gb258, 0, none⟩) (Kd.R_types HO261.out BK258.out (by decide)) (fun _ hk => hk.2) (.slice Ao104 t259.length co104)) (fun _ h_ => h_.1))) hb); replace BK250 := mk_ (blk_below (g := gb250) (o := .cells #[.slice A0_0 l0_0.length c0_0] 31 (0, 0)) bf_ hb); replace BK251 := mk_ (blk_below (g := gb251) (o := .cells #[.int .i64 a1_0, .string a1_1, .string a1_2, .string a1_3] 35 (0, 0)) bf_ hb); replace BK252 := mk_ (blk_below (g := gb252) (o := .cells #[.slice none 0 0] 31 (0, 0)) bf_ hb); replace BK256 := mk_ (blk_below (g := gb256) (o := .cells #[.string x257000_59, .string (x257001_59 ++ a1_2), .int .i64 x257002_59] 76 (0, 0)) bf_ hb); replace BK258 := mk_ (blk_below (g := gb258) (o := .cells #[.slice Ao104 t259.length co104] 31 (0, 0)) bu_ hb); replace HB := bs_ HB hb; (try clear hb); (try clear hk); obtain ⟨hcz107_0, hfz107_0⟩ := b1_ BK258; obtain ⟨hcz108_0, hfz108_0⟩ := b1_ BK252))
         refine bodyPost_ret (results_ct rfl _ _ gb252 31 #[.slice Ao104 t259.length co104] (0, 0) _ rfl bu_ Try.underlying31 rfl (by kernel_rfl)) rfl ?_
         exact ⟨_, er_, by (with_reducible repeat (first | apply Kd.R_alloc | apply Kd.R_drewN | apply Kd.R_drew)); exact Kd.R_mono (Kd.R_far (p := ⟨gb252, 0, none⟩) (Kd.R_types HO261.out BK252.out (by decide)) (fun _ hk => hk.2) (.slice Ao104 t259.length co104)) (fun _ hk => trivial), bw_ HB⟩
        ·replace c87 := Bool.eq_false_iff.mpr c87
         subst c87
         have H1 : (some (([] : List (S76)), false)) = some (r1, r2) := by rw [if_neg (show ¬ (false = true) by decide)] at H; exact H
         clear H
         have H := H1
         clear H1
         simp only [Option.some.injEq, Prod.mk.injEq] at H
         obtain ⟨rfl, rfl⟩ := H
         go_wp2_with (first | ((with_reducible refine gate_dst (N := 8) rfl ?_); refine bx_ (N := 8) (cs := #[.slice none 0 0]) (t := 31) ?_; intro gb258 hg w109 hbox hb; have BK258 := mk_ (hbox); have GW258 : Aside0 (w.heap.size ≤ gb258) := bz_ hg; have GE258 := GW258; have NB250_258 := bl_ BK250 hg; have NB258_250 := bg_ BK250 hg; have NB251_258 := bl_ BK251 hg; have NB258_251 := bg_ BK251 hg; have NB252_258 := bl_ BK252 hg; have NB258_252 := bg_ BK252 hg; have NB256_258 := bl_ BK256 hg; have NB258_256 := bg_ BK256 hg; replace BK250 := bb_ BK250 hb; replace BK251 := bb_ BK251 hb; replace BK252 := bb_ BK252 hb; replace BK256 := bb_ BK256 hb; replace HB := bs_ HB hb; clear hb hbox hg; have hnb110 := NB258_250.out; have hnc110 := NB250_258.out; have hnb111 := NB258_251.out; have hnc111 := NB251_258.out; have hnb112 := NB258_252.out; have hnc112 := NB252_258.out; have hnb113 := NB258_256.out; have hnc113 := NB256_258.out; obtain ⟨hcz114_0, hfz114_0⟩ := b1_ BK258; have hnb115 := NB251_250.out; have hnc115 := NB250_251.out; have hnb116 := NB251_252.out; have hnc116 := NB252_251.out; have hnb117 := NB251_256.out; have hnc117 := NB256_251.out; obtain ⟨hcz118_0, hcz118_1, hcz118_2, hcz118_3, hfz118_0, hfz118_1, hfz118_2, hfz118_3⟩ := b4_ BK251; have hnb119 := NB256_250.out; have hnc119 := NB250_256.out; have hnb120 := NB256_252.out; have hnc120 := NB252_256.out; obtain ⟨hcz121_0, hcz121_1, hcz121_2, hfz121_0, hfz121_1, hfz121_2⟩ := b3_ BK256; have hnb122 := NB250_252.out; have hnc122 := NB252_250.out; obtain ⟨hcz123_0, hfz123_0⟩ := b1_ BK250) | ((with_reducible refine gate_callee (f := 41) rfl ?_); refine goesL_ (some 67) rfl rfl Try.func41 (by kernel_rfl) rfl #[.agg #[.slice A0_0 l0_0.length c0_0], .agg #[.string x257000_59, .string (x257001_59 ++ a1_2), .int .i64 x257002_59]] rfl ga_ ?_; (with_reducible refine (spec_l03Put.calls kj59 _ _ l0_0 x257000_59 (x257001_59 ++ a1_2) x257002_59 t259 _ ?side1 ?side2 A85.out).mono ?_); (case side1 => exact Kd.C_below HR0_0.out (bw_ HB)); (case side2 => exact HC0_0.out); rintro e w124 ⟨v260, rfl, ho0, hb⟩; refine ⟨_, rfl, ?_⟩; have HO261 := mk_ (Kd.R_lower (Kd.R_newB ho0 (g := gb256) (o := .cells #[.string x257000_59, .string (x257001_59 ++ a1_2), .int .i64 x257002_59] 76 (0, 0)) bu_) (below_size (bw_ HB))); replace BK250 := mk_ (blk_below (g := gb250) (o := .cells #[.slice A0_0 l0_0.length c0_0] 31 (0, 0)) bf_ hb); replace BK251 := mk_ (blk_below (g := gb251) (o := .cells #[.int .i64 a1_0, .string a1_1, .string a1_2, .string a1_3] 35 (0, 0)) bf_ hb); replace BK252 := mk_ (blk_below (g := gb252) (o := .cells #[.slice none 0 0] 31 (0, 0)) bf_ hb); replace BK256 := mk_ (blk_below (g := gb256) (o := .cells #[.string x257000_59, .string (x257001_59 ++ a1_2), .int .i64 x257002_59] 76 (0, 0)) bu_ hb); replace BK258 := mk_ (blk_below (g := gb258) (o := .cells #[.slice none 0 0] 31 (0, 0)) bu_ hb); replace HB := bs_ HB hb; (try clear hb); (try clear hk); (try clear ho0); obtain ⟨Ao125, co125, eo125⟩ := Kd.R_slice HO261.out; subst eo125; obtain ⟨hcz126_0, hfz126_0⟩ := b1_ BK258) | ((with_reducible refine gate_callee (f := 38) rfl ?_); refine goesL_ (some 125) rfl rfl Try.func38 (by kernel_rfl) rfl #[.agg #[.slice Ao125 t259.length co125]] rfl ga_ ?_; (with_reducible refine (spec_DiskOk.calls kj59 _ _ t259 false _ ?side1 ?side2 A86.out).mono ?_); (case side1 => refine (Kd.R_reads' (e := 76) (base := w.heap.size) (ok := fun k_ => (True ∧ k_ ≠ gb256)) (n := t259.length) (c := co125) ?_).2.2; exact (by (with_reducible repeat (first | apply Kd.R_alloc | apply Kd.R_drewN | apply Kd.R_drew)); exact (Kd.R_mono (Kd.R_far (p := ⟨gb258, 0, none⟩) (Kd.R_types HO261.out BK258.out (by decide)) (fun _ hk => hk.2) (.slice Ao125 t259.length co125)) (fun _ h_ => h_.1)))); (case side2 => exact (Kd.R_reads' HO261.out).2.1); rintro e w127 ⟨rfl, hb⟩; refine ⟨_, rfl, ?_⟩; replace HO261 := mk_ (Kd.R_below (by (with_reducible repeat (first | apply Kd.R_alloc | apply Kd.R_drewN | apply Kd.R_drew)); exact (Kd.R_mono (Kd.R_far (p := ⟨gb258, 0, none⟩) (Kd.R_types HO261.out BK258.out (by decide)) (fun _ hk => hk.2) (.slice Ao125 t259.length co125)) (fun _ h_ => h_.1))) hb); replace BK250 := mk_ (blk_below (g := gb250) (o := .cells #[.slice A0_0 l0_0.length c0_0] 31 (0, 0)) bf_ hb); replace BK251 := mk_ (blk_below (g := gb251) (o := .cells #[.int .i64 a1_0, .string a1_1, .string a1_2, .string a1_3] 35 (0, 0)) bf_ hb); replace BK252 := mk_ (blk_below (g := gb252) (o := .cells #[.slice none 0 0] 31 (0, 0)) bf_ hb); replace BK256 := mk_ (blk_below (g := gb256) (o := .cells #[.string x257000_59, .string (x257001_59 ++ a1_2), .int .i64 x257002_59] 76 (0, 0)) bf_ hb); replace BK258 := mk_ (blk_below (g := gb258) (o := .cells #[.slice Ao125 t259.length co125] 31 (0, 0)) bu_ hb); replace HB := bs_ HB hb; (try clear hb); (try clear hk); obtain ⟨hcz128_0, hfz128_0⟩ := b1_ BK252))
         refine bodyPost_ret (results_ct rfl _ _ gb252 31 #[.slice none 0 0] (0, 0) _ rfl bu_ Try.underlying31 rfl (by kernel_rfl)) rfl ?_
         exact ⟨_, er_, by first | exact Kd.R_nil _ _ _ _ _ | exact Kd.N_nil _ _ _ _ _ | exact Kd.V_nil _ _ _ _ _ | exact Kd.Q_nil _ _ _ _ _ | exact Kd.S_nil _ _ _ _ _, bw_ HB⟩
       ·rw [if_neg c84] at H
        exact absurd H (by simp)
      ·rw [if_neg c83] at H
       have c83b0 : (a1_0 == 1) = false := beq_eq_false_iff_ne.mpr c83
       have c83b1 : (a1_0 != 1) = true := bne_iff_ne.mpr c83
       by_cases c129 : t255 < 0
       ·rw [if_pos c129] at H
        have c129b0 : decide (t255 < 0) = true := decide_eq_true c129
        clear c129
        simp only [Option.some.injEq, Prod.mk.injEq] at H
        obtain ⟨rfl, rfl⟩ := H
        go_wp2_with (first | ((with_reducible refine gate_dst (N := 8) rfl ?_); refine bx_ (N := 8) (cs := #[.slice none 0 0]) (t := 31) ?_; intro gb258 hg w130 hbox hb; have BK258 := mk_ (hbox); have GW258 : Aside0 (w.heap.size ≤ gb258) := bz_ hg; have GE258 := GW258; have NB250_258 := bl_ BK250 hg; have NB258_250 := bg_ BK250 hg; have NB251_258 := bl_ BK251 hg; have NB258_251 := bg_ BK251 hg; have NB252_258 := bl_ BK252 hg; have NB258_252 := bg_ BK252 hg; have NB256_258 := bl_ BK256 hg; have NB258_256 := bg_ BK256 hg; replace BK250 := bb_ BK250 hb; replace BK251 := bb_ BK251 hb; replace BK252 := bb_ BK252 hb; replace BK256 := bb_ BK256 hb; replace HB := bs_ HB hb; clear hb hbox hg; have hnb131 := NB258_250.out; have hnc131 := NB250_258.out; have hnb132 := NB258_251.out; have hnc132 := NB251_258.out; have hnb133 := NB258_252.out; have hnc133 := NB252_258.out; have hnb134 := NB258_256.out; have hnc134 := NB256_258.out; obtain ⟨hcz135_0, hfz135_0⟩ := b1_ BK258; have hnb136 := NB251_250.out; have hnc136 := NB250_251.out; have hnb137 := NB251_252.out; have hnc137 := NB252_251.out; have hnb138 := NB251_256.out; have hnc138 := NB256_251.out; obtain ⟨hcz139_0, hcz139_1, hcz139_2, hcz139_3, hfz139_0, hfz139_1, hfz139_2, hfz139_3⟩ := b4_ BK251; have hnb140 := NB252_250.out; have hnc140 := NB250_252.out; have hnb141 := NB252_256.out; have hnc141 := NB256_252.out; obtain ⟨hcz142_0, hfz142_0⟩ := b1_ BK252))
        refine bodyPost_ret (results_ct rfl _ _ gb252 31 #[.slice none 0 0] (0, 0) _ rfl bu_ Try.underlying31 rfl (by kernel_rfl)) rfl ?_
        exact ⟨_, er_, by first | exact Kd.R_nil _ _ _ _ _ | exact Kd.N_nil _ _ _ _ _ | exact Kd.V_nil _ _ _ _ _ | exact Kd.Q_nil _ _ _ _ _ | exact Kd.S_nil _ _ _ _ _, bw_ HB⟩
       ·rw [if_neg c129] at H
        have c129b0 : decide (t255 < 0) = false := decide_eq_false c129
        clear c129
        by_cases c143 : a1_0 = 2
        ·rw [if_pos c143] at H
         have c143b0 : (a1_0 == 2) = true := beq_iff_eq.mpr c143
         have c143b1 : (a1_0 != 2) = false := bne_eq_false_iff_eq.mpr c143
         clear c143
         replace H := Option.bind_eq_some_iff.mp H
         obtain ⟨t263, A1440, H⟩ := H
         replace H : ((spec_DiskOk.f kj59 t263).bind fun t266 => (if t266 = true then (some (t263, true)) else (some (([] : List (S76)), false)))) = some (r1, r2) := H
         have A144 := Aside0.mk A1440
         clear A1440
         replace H := Option.bind_eq_some_iff.mp H
         obtain ⟨t266, A1450, H⟩ := H
         replace H : (if t266 = true then (some (t263, true)) else (some (([] : List (S76)), false))) = some (r1, r2) := H
         have A145 := Aside0.mk A1450
         clear A1450
         by_cases c146 : t266 = true
         ·subst c146
          have H1 : (some (t263, true)) = some (r1, r2) := by rw [if_pos rfl] at H; exact H
          clear H
          have H := H1
          clear H1
          simp only [Option.some.injEq, Prod.mk.injEq] at H
          obtain ⟨rfl, rfl⟩ := H
          go_wp2_with (first | ((with_reducible refine gate_dst (N := 8) rfl ?_); refine bx_ (N := 8) (cs := #[.slice none 0 0]) (t := 31) ?_; intro gb258 hg w147 hbox hb; have BK258 := mk_ (hbox); have GW258 : Aside0 (w.heap.size ≤ gb258) := bz_ hg; have GE258 := GW258; have NB250_258 := bl_ BK250 hg; have NB258_250 := bg_ BK250 hg; have NB251_258 := bl_ BK251 hg; have NB258_251 := bg_ BK251 hg; have NB252_258 := bl_ BK252 hg; have NB258_252 := bg_ BK252 hg; have NB256_258 := bl_ BK256 hg; have NB258_256 := bg_ BK256 hg; replace BK250 := bb_ BK250 hb; replace BK251 := bb_ BK251 hb; replace BK252 := bb_ BK252 hb; replace BK256 := bb_ BK256 hb; replace HB := bs_ HB hb; clear hb hbox hg; have hnb148 := NB258_250.out; have hnc148 := NB250_258.out; have hnb149 := NB258_251.out; have hnc149 := NB251_258.out; have hnb150 := NB258_252.out; have hnc150 := NB252_258.out; have hnb151 := NB258_256.out; have hnc151 := NB256_258.out; obtain ⟨hcz152_0, hfz152_0⟩ := b1_ BK258; have hnb153 := NB251_250.out; have hnc153 := NB250_251.out; have hnb154 := NB251_252.out; have hnc154 := NB252_251.out; have hnb155 := NB251_256.out; have hnc155 := NB256_251.out; obtain ⟨hcz156_0, hcz156_1, hcz156_2, hcz156_3, hfz156_0, hfz156_1, hfz156_2, hfz156_3⟩ := b4_ BK251; have hnb157 := NB256_250.out; have hnc157 := NB250_256.out; have hnb158 := NB256_252.out; have hnc158 := NB252_256.out; obtain ⟨hcz159_0, hcz159_1, hcz159_2, hfz159_0, hfz159_1, hfz159_2⟩ := b3_ BK256; have hnb160 := NB250_252.out; have hnc160 := NB252_250.out; obtain ⟨hcz161_0, hfz161_0⟩ := b1_ BK250) | ((with_reducible refine gate_callee (f := 41) rfl ?_); refine goesL_ (some 82) rfl rfl Try.func41 (by kernel_rfl) rfl #[.agg #[.slice A0_0 l0_0.length c0_0], .agg #[.string x257000_59, .string x257001_59, .int .i64 (x257001_59.size : Int)]] rfl ga_ ?_; (with_reducible refine (spec_l03Put.calls kj59 _ _ l0_0 x257000_59 x257001_59 (x257001_59.size : Int) t263 _ ?side1 ?side2 A144.out).mono ?_); (case side1 => exact Kd.C_below HR0_0.out (bw_ HB)); (case side2 => exact HC0_0.out); rintro e w162 ⟨v264, rfl, ho0, hb⟩; refine ⟨_, rfl, ?_⟩; have HO265 := mk_ (Kd.R_lower (Kd.R_newB ho0 (g := gb256) (o := .cells #[.string x257000_59, .string x257001_59, .int .i64 (x257001_59.size : Int)] 76 (0, 0)) bu_) (below_size (bw_ HB))); replace BK250 := mk_ (blk_below (g := gb250) (o := .cells #[.slice A0_0 l0_0.length c0_0] 31 (0, 0)) bf_ hb); replace BK251 := mk_ (blk_below (g := gb251) (o := .cells #[.int .i64 a1_0, .string a1_1, .string a1_2, .string a1_3] 35 (0, 0)) bf_ hb); replace BK252 := mk_ (blk_below (g := gb252) (o := .cells #[.slice none 0 0] 31 (0, 0)) bf_ hb); replace BK256 := mk_ (blk_below (g := gb256) (o := .cells #[.string x257000_59, .string x257001_59, .int .i64 (x257001_59.size : Int)] 76 (0, 0)) bu_ hb); replace BK258 := mk_ (blk_below (g := gb258) (o := .cells #[.slice none 0 0] 31 (0, 0)) bu_ hb); replace HB := bs_ HB hb; (try clear hb); (try clear hk); (try clear ho0); obtain ⟨Ao163, co163, eo163⟩ := Kd.R_slice HO265.out; subst eo163; obtain ⟨hcz164_0, hfz164_0⟩ := b1_ BK258) | ((with_reducible refine gate_callee (f := 38) rfl ?_); refine goesL_ (some 125) rfl rfl Try.func38 (by kernel_rfl) rfl #[.agg #[.slice Ao163 t263.length co163]] rfl ga_ ?_; (with_reducible refine (spec_DiskOk.calls kj59 _ _ t263 true _ ?side1 ?side2 A145.out).mono ?_); (case side1 => refine (Kd.R_reads' (e := 76) (base := w.heap.size) (ok := fun k_ => (True ∧ k_ ≠ gb256)) (n := t263.length) (c := co163) ?_).2.2; exact (by (with_reducible repeat (first | apply Kd.R_alloc | apply Kd.R_drewN | apply Kd.R_drew)); exact (Kd.R_mono (Kd.R_far (p := ⟨gb258, 0, none⟩) (Kd.R_types HO265.out BK258.out (by decide)) (fun _ hk => hk.2) (.slice Ao163 t263.length co163)) (fun _ h_ => h_.1)))); (case side2 => exact (Kd.R_reads' HO265.out).2.1); rintro e w165 ⟨rfl, hb⟩; refine ⟨_, rfl, ?_⟩; replace HO265 := mk_ (Kd.R_below (by (with_reducible repeat (first | apply Kd.R_alloc | apply Kd.R_drewN | apply Kd.R_drew)); exact (Kd.R_mono (Kd.R_far (p := ⟨gb258, 0, none⟩) (Kd.R_types HO265.out BK258.out (by decide)) (fun _ hk => hk.2) (.slice Ao163 t263.length co163)) (fun _ h_ => h_.1))) hb); replace BK250 := mk_ (blk_below (g := gb250) (o := .cells #[.slice A0_0 l0_0.length c0_0] 31 (0, 0)) bf_ hb); replace BK251 := mk_ (blk_below (g := gb251) (o := .cells #[.int .i64 a1_0, .string a1_1, .string a1_2, .string a1_3] 35 (0, 0)) bf_ hb); replace BK252 := mk_ (blk_below (g := gb252) (o := .cells #[.slice none 0 0] 31 (0, 0)) bf_ hb); replace BK256 := mk_ (blk_below (g := gb256) (o := .cells #[.string x257000_59, .string x257001_59, .int .i64 (x257001_59.size : Int)] 76 (0, 0)) bf_ hb); replace BK258 := mk_ (blk_below (g := gb258) (o := .cells #[.slice Ao163 t263.length co163] 31 (0, 0)) bu_ hb); replace HB := bs_ HB hb; (try clear hb); (try clear hk); obtain ⟨hcz166_0, hfz166_0⟩ := b1_ BK258; obtain ⟨hcz167_0, hfz167_0⟩ := b1_ BK252))
          refine bodyPost_ret (results_ct rfl _ _ gb252 31 #[.slice Ao163 t263.length co163] (0, 0) _ rfl bu_ Try.underlying31 rfl (by kernel_rfl)) rfl ?_
          exact ⟨_, er_, by (with_reducible repeat (first | apply Kd.R_alloc | apply Kd.R_drewN | apply Kd.R_drew)); exact Kd.R_mono (Kd.R_far (p := ⟨gb252, 0, none⟩) (Kd.R_types HO265.out BK252.out (by decide)) (fun _ hk => hk.2) (.slice Ao163 t263.length co163)) (fun _ hk => trivial), bw_ HB⟩
         ·replace c146 := Bool.eq_false_iff.mpr c146
          subst c146
          have H1 : (some (([] : List (S76)), false)) = some (r1, r2) := by rw [if_neg (show ¬ (false = true) by decide)] at H; exact H
          clear H
          have H := H1
          clear H1
          simp only [Option.some.injEq, Prod.mk.injEq] at H
          obtain ⟨rfl, rfl⟩ := H
          go_wp2_with (first | ((with_reducible refine gate_dst (N := 8) rfl ?_); refine bx_ (N := 8) (cs := #[.slice none 0 0]) (t := 31) ?_; intro gb258 hg w168 hbox hb; have BK258 := mk_ (hbox); have GW258 : Aside0 (w.heap.size ≤ gb258) := bz_ hg; have GE258 := GW258; have NB250_258 := bl_ BK250 hg; have NB258_250 := bg_ BK250 hg; have NB251_258 := bl_ BK251 hg; have NB258_251 := bg_ BK251 hg; have NB252_258 := bl_ BK252 hg; have NB258_252 := bg_ BK252 hg; have NB256_258 := bl_ BK256 hg; have NB258_256 := bg_ BK256 hg; replace BK250 := bb_ BK250 hb; replace BK251 := bb_ BK251 hb; replace BK252 := bb_ BK252 hb; replace BK256 := bb_ BK256 hb; replace HB := bs_ HB hb; clear hb hbox hg; have hnb169 := NB258_250.out; have hnc169 := NB250_258.out; have hnb170 := NB258_251.out; have hnc170 := NB251_258.out; have hnb171 := NB258_252.out; have hnc171 := NB252_258.out; have hnb172 := NB258_256.out; have hnc172 := NB256_258.out; obtain ⟨hcz173_0, hfz173_0⟩ := b1_ BK258; have hnb174 := NB251_250.out; have hnc174 := NB250_251.out; have hnb175 := NB251_252.out; have hnc175 := NB252_251.out; have hnb176 := NB251_256.out; have hnc176 := NB256_251.out; obtain ⟨hcz177_0, hcz177_1, hcz177_2, hcz177_3, hfz177_0, hfz177_1, hfz177_2, hfz177_3⟩ := b4_ BK251; have hnb178 := NB256_250.out; have hnc178 := NB250_256.out; have hnb179 := NB256_252.out; have hnc179 := NB252_256.out; obtain ⟨hcz180_0, hcz180_1, hcz180_2, hfz180_0, hfz180_1, hfz180_2⟩ := b3_ BK256; have hnb181 := NB250_252.out; have hnc181 := NB252_250.out; obtain ⟨hcz182_0, hfz182_0⟩ := b1_ BK250) | ((with_reducible refine gate_callee (f := 41) rfl ?_); refine goesL_ (some 82) rfl rfl Try.func41 (by kernel_rfl) rfl #[.agg #[.slice A0_0 l0_0.length c0_0], .agg #[.string x257000_59, .string x257001_59, .int .i64 (x257001_59.size : Int)]] rfl ga_ ?_; (with_reducible refine (spec_l03Put.calls kj59 _ _ l0_0 x257000_59 x257001_59 (x257001_59.size : Int) t263 _ ?side1 ?side2 A144.out).mono ?_); (case side1 => exact Kd.C_below HR0_0.out (bw_ HB)); (case side2 => exact HC0_0.out); rintro e w183 ⟨v264, rfl, ho0, hb⟩; refine ⟨_, rfl, ?_⟩; have HO265 := mk_ (Kd.R_lower (Kd.R_newB ho0 (g := gb256) (o := .cells #[.string x257000_59, .string x257001_59, .int .i64 (x257001_59.size : Int)] 76 (0, 0)) bu_) (below_size (bw_ HB))); replace BK250 := mk_ (blk_below (g := gb250) (o := .cells #[.slice A0_0 l0_0.length c0_0] 31 (0, 0)) bf_ hb); replace BK251 := mk_ (blk_below (g := gb251) (o := .cells #[.int .i64 a1_0, .string a1_1, .string a1_2, .string a1_3] 35 (0, 0)) bf_ hb); replace BK252 := mk_ (blk_below (g := gb252) (o := .cells #[.slice none 0 0] 31 (0, 0)) bf_ hb); replace BK256 := mk_ (blk_below (g := gb256) (o := .cells #[.string x257000_59, .string x257001_59, .int .i64 (x257001_59.size : Int)] 76 (0, 0)) bu_ hb); replace BK258 := mk_ (blk_below (g := gb258) (o := .cells #[.slice none 0 0] 31 (0, 0)) bu_ hb); replace HB := bs_ HB hb; (try clear hb); (try clear hk); (try clear ho0); obtain ⟨Ao184, co184, eo184⟩ := Kd.R_slice HO265.out; subst eo184; obtain ⟨hcz185_0, hfz185_0⟩ := b1_ BK258) | ((with_reducible refine gate_callee (f := 38) rfl ?_); refine goesL_ (some 125) rfl rfl Try.func38 (by kernel_rfl) rfl #[.agg #[.slice Ao184 t263.length co184]] rfl ga_ ?_; (with_reducible refine (spec_DiskOk.calls kj59 _ _ t263 false _ ?side1 ?side2 A145.out).mono ?_); (case side1 => refine (Kd.R_reads' (e := 76) (base := w.heap.size) (ok := fun k_ => (True ∧ k_ ≠ gb256)) (n := t263.length) (c := co184) ?_).2.2; exact (by (with_reducible repeat (first | apply Kd.R_alloc | apply Kd.R_drewN | apply Kd.R_drew)); exact (Kd.R_mono (Kd.R_far (p := ⟨gb258, 0, none⟩) (Kd.R_types HO265.out BK258.out (by decide)) (fun _ hk => hk.2) (.slice Ao184 t263.length co184)) (fun _ h_ => h_.1)))); (case side2 => exact (Kd.R_reads' HO265.out).2.1); rintro e w186 ⟨rfl, hb⟩; refine ⟨_, rfl, ?_⟩; replace HO265 := mk_ (Kd.R_below (by (with_reducible repeat (first | apply Kd.R_alloc | apply Kd.R_drewN | apply Kd.R_drew)); exact (Kd.R_mono (Kd.R_far (p := ⟨gb258, 0, none⟩) (Kd.R_types HO265.out BK258.out (by decide)) (fun _ hk => hk.2) (.slice Ao184 t263.length co184)) (fun _ h_ => h_.1))) hb); replace BK250 := mk_ (blk_below (g := gb250) (o := .cells #[.slice A0_0 l0_0.length c0_0] 31 (0, 0)) bf_ hb); replace BK251 := mk_ (blk_below (g := gb251) (o := .cells #[.int .i64 a1_0, .string a1_1, .string a1_2, .string a1_3] 35 (0, 0)) bf_ hb); replace BK252 := mk_ (blk_below (g := gb252) (o := .cells #[.slice none 0 0] 31 (0, 0)) bf_ hb); replace BK256 := mk_ (blk_below (g := gb256) (o := .cells #[.string x257000_59, .string x257001_59, .int .i64 (x257001_59.size : Int)] 76 (0, 0)) bf_ hb); replace BK258 := mk_ (blk_below (g := gb258) (o := .cells #[.slice Ao184 t263.length co184] 31 (0, 0)) bu_ hb); replace HB := bs_ HB hb; (try clear hb); (try clear hk); obtain ⟨hcz187_0, hfz187_0⟩ := b1_ BK252))
          refine bodyPost_ret (results_ct rfl _ _ gb252 31 #[.slice none 0 0] (0, 0) _ rfl bu_ Try.underlying31 rfl (by kernel_rfl)) rfl ?_
          exact ⟨_, er_, by first | exact Kd.R_nil _ _ _ _ _ | exact Kd.N_nil _ _ _ _ _ | exact Kd.V_nil _ _ _ _ _ | exact Kd.Q_nil _ _ _ _ _ | exact Kd.S_nil _ _ _ _ _, bw_ HB⟩
        ·rw [if_neg c143] at H
         have c143b0 : (a1_0 == 2) = false := beq_eq_false_iff_ne.mpr c143
         have c143b1 : (a1_0 != 2) = true := bne_iff_ne.mpr c143
         by_cases c188 : a1_0 = 3
         ·rw [if_pos c188] at H
          have c188b0 : (a1_0 == 3) = true := beq_iff_eq.mpr c188
          have c188b1 : (a1_0 != 3) = false := bne_eq_false_iff_eq.mpr c188
          clear c188
          have HC189 := Aside0.mk H
          clear H
          go_upto_region 18 with (first | ((with_reducible refine gate_dst (N := 8) rfl ?_); refine bx_ (N := 8) (cs := #[.slice none 0 0]) (t := 31) ?_; intro gb258 hg w190 hbox hb; have BK258 := mk_ (hbox); have GW258 : Aside0 (w.heap.size ≤ gb258) := bz_ hg; have GE258 := GW258; have NB250_258 := bl_ BK250 hg; have NB258_250 := bg_ BK250 hg; have NB251_258 := bl_ BK251 hg; have NB258_251 := bg_ BK251 hg; have NB252_258 := bl_ BK252 hg; have NB258_252 := bg_ BK252 hg; have NB256_258 := bl_ BK256 hg; have NB258_256 := bg_ BK256 hg; replace BK250 := bb_ BK250 hb; replace BK251 := bb_ BK251 hb; replace BK252 := bb_ BK252 hb; replace BK256 := bb_ BK256 hb; replace HB := bs_ HB hb; clear hb hbox hg; have hnb191 := NB258_250.out; have hnc191 := NB250_258.out; have hnb192 := NB258_251.out; have hnc192 := NB251_258.out; have hnb193 := NB258_252.out; have hnc193 := NB252_258.out; have hnb194 := NB258_256.out; have hnc194 := NB256_258.out; obtain ⟨hcz195_0, hfz195_0⟩ := b1_ BK258; have hnb196 := NB251_250.out; have hnc196 := NB250_251.out; have hnb197 := NB251_252.out; have hnc197 := NB252_251.out; have hnb198 := NB251_256.out; have hnc198 := NB256_251.out; obtain ⟨hcz199_0, hcz199_1, hcz199_2, hcz199_3, hfz199_0, hfz199_1, hfz199_2, hfz199_3⟩ := b4_ BK251))
          (try simp only [Act.put, sia_, scz_, scs_])
          go_cut [105] (fun v105 wc => ∃ (kq : Nat) (x105_188 : Bool), v105 = .bool x105_188 ∧ Aside0 (spec_DoAct.j2 kq x105_188 l0_0 a1_0 a1_1 a1_2 a1_3 x257000_59 x257001_59 x257002_59 = some (r1, r2)) ∧ Aside0 (kq ≤ kj59) ∧ Aside0 (wc.heap[gb250]? = some (.cells #[(.slice A0_0 l0_0.length c0_0)] 31 (0, 0))) ∧ Aside0 (wc.heap[gb251]? = some (.cells #[.int .i64 a1_0, .string a1_1, .string a1_2, .string a1_3] 35 (0, 0))) ∧ Aside0 (wc.heap[gb252]? = some (.cells #[(.slice none 0 0)] 31 (0, 0))) ∧ Aside0 (wc.heap[gb256]? = some (.cells #[.string x257000_59, .string x257001_59, .int .i64 x257002_59] 76 (0, 0))) ∧ Aside0 (wc.heap[gb258]? = some (.cells #[(.slice none 0 0)] 31 (0, 0))) ∧ Aside0 (Below w.heap.size w wc))
          case first =>
           have H := HC189.out
           clear HC189
           by_cases c200 : x257002_59 < (x257001_59.size : Int)
           ·rw [if_pos c200] at H
            have c200b0 : decide (x257002_59 < (x257001_59.size : Int)) = true := decide_eq_true c200
            clear c200
            (first | rw [c200b0] | (simp only [i64_w, i32_w]; rw [c200b0]) | skip)
            have H' := Aside0.mk H
            clear H
            have hnb201 := NB256_250.out
            have hnc201 := NB250_256.out
            have hnb202 := NB256_251.out
            have hnc202 := NB251_256.out
            have hnb203 := NB256_252.out
            have hnc203 := NB252_256.out
            have hnb204 := NB256_258.out
            have hnc204 := NB258_256.out
            have hcz205_0 : w190.cell? ⟨gb256, 0, none⟩ = some (.string x257000_59) := bc_ BK256 0
            have hcz205_1 : w190.cell? ⟨gb256, 1, none⟩ = some (.string x257001_59) := bc_ BK256 1
            have hcz205_2 : w190.cell? ⟨gb256, 2, none⟩ = some (.int .i64 x257002_59) := bc_ BK256 2
            have hfz205_0 := blk_frozen BK256.out 0
            have hfz205_1 := blk_frozen BK256.out 1
            have hfz205_2 := blk_frozen BK256.out 2
            go_wp2
            go_meet
            case rel => exact ⟨_, (true), (by first | rfl | (simp; done) | (simp [*]; done) | (simp [bne]; done)), H', ⟨by have := HJ2.out; have := HJ59.out; first | omega | exact Nat.le_refl _⟩, ⟨bf_⟩, ⟨bf_⟩, ⟨bf_⟩, ⟨bf_⟩, ⟨bu_⟩, ⟨bw_ HB⟩⟩
           ·rw [if_neg c200] at H
            have c200b0 : decide (x257002_59 < (x257001_59.size : Int)) = false := decide_eq_false c200
            clear c200
            (first | rw [c200b0] | (simp only [i64_w, i32_w]; rw [c200b0]) | skip)
            by_cases c206 : a1_3.toList = a1_1.toList
            ·rw [if_pos c206] at H
             have c206b0 : (a1_3.toList == a1_1.toList) = true := beq_iff_eq.mpr c206
             have c206b1 : (a1_3.toList != a1_1.toList) = false := bne_eq_false_iff_eq.mpr c206
             clear c206
             have H' := Aside0.mk H
             clear H
             have hnb207 := NB256_250.out
             have hnc207 := NB250_256.out
             have hnb208 := NB256_251.out
             have hnc208 := NB251_256.out
             have hnb209 := NB256_252.out
             have hnc209 := NB252_256.out
             have hnb210 := NB256_258.out
             have hnc210 := NB258_256.out
             have hcz211_0 : w190.cell? ⟨gb256, 0, none⟩ = some (.string x257000_59) := bc_ BK256 0
             have hcz211_1 : w190.cell? ⟨gb256, 1, none⟩ = some (.string x257001_59) := bc_ BK256 1
             have hcz211_2 : w190.cell? ⟨gb256, 2, none⟩ = some (.int .i64 x257002_59) := bc_ BK256 2
             have hfz211_0 := blk_frozen BK256.out 0
             have hfz211_1 := blk_frozen BK256.out 1
             have hfz211_2 := blk_frozen BK256.out 2
             have hnb212 := NB251_250.out
             have hnc212 := NB250_251.out
             have hnb213 := NB251_252.out
             have hnc213 := NB252_251.out
             have hnb214 := NB251_258.out
             have hnc214 := NB258_251.out
             have hcz215_0 : w190.cell? ⟨gb251, 0, none⟩ = some (.int .i64 a1_0) := bc_ BK251 0
             have hcz215_1 : w190.cell? ⟨gb251, 1, none⟩ = some (.string a1_1) := bc_ BK251 1
             have hcz215_2 : w190.cell? ⟨gb251, 2, none⟩ = some (.string a1_2) := bc_ BK251 2
             have hcz215_3 : w190.cell? ⟨gb251, 3, none⟩ = some (.string a1_3) := bc_ BK251 3
             have hfz215_0 := blk_frozen BK251.out 0
             have hfz215_1 := blk_frozen BK251.out 1
             have hfz215_2 := blk_frozen BK251.out 2
             have hfz215_3 := blk_frozen BK251.out 3
             go_wp2
             go_meet
             case rel => exact ⟨_, (true), (by first | rfl | (simp; done) | (simp [*]; done) | (simp [bne]; done)), H', ⟨by have := HJ2.out; have := HJ59.out; first | omega | exact Nat.le_refl _⟩, ⟨bf_⟩, ⟨bf_⟩, ⟨bf_⟩, ⟨bf_⟩, ⟨bu_⟩, ⟨bw_ HB⟩⟩
            ·rw [if_neg c206] at H
             have c206b0 : (a1_3.toList == a1_1.toList) = false := beq_eq_false_iff_ne.mpr c206
             have c206b1 : (a1_3.toList != a1_1.toList) = true := bne_iff_ne.mpr c206
             replace H := Option.bind_eq_some_iff.mp H
             obtain ⟨t267, A2160, H⟩ := H
             replace H : (spec_DoAct.j2 kj59 (!t267) l0_0 a1_0 a1_1 a1_2 a1_3 x257000_59 x257001_59 x257002_59) = some (r1, r2) := H
             have A216 := Aside0.mk A2160
             clear A2160
             have H' := Aside0.mk H
             clear H
             have hnb217 := NB256_250.out
             have hnc217 := NB250_256.out
             have hnb218 := NB256_251.out
             have hnc218 := NB251_256.out
             have hnb219 := NB256_252.out
             have hnc219 := NB252_256.out
             have hnb220 := NB256_258.out
             have hnc220 := NB258_256.out
             have hcz221_0 : w190.cell? ⟨gb256, 0, none⟩ = some (.string x257000_59) := bc_ BK256 0
             have hcz221_1 : w190.cell? ⟨gb256, 1, none⟩ = some (.string x257001_59) := bc_ BK256 1
             have hcz221_2 : w190.cell? ⟨gb256, 2, none⟩ = some (.int .i64 x257002_59) := bc_ BK256 2
             have hfz221_0 := blk_frozen BK256.out 0
             have hfz221_1 := blk_frozen BK256.out 1
             have hfz221_2 := blk_frozen BK256.out 2
             have hnb222 := NB251_250.out
             have hnc222 := NB250_251.out
             have hnb223 := NB251_252.out
             have hnc223 := NB252_251.out
             have hnb224 := NB251_258.out
             have hnc224 := NB258_251.out
             have hcz225_0 : w190.cell? ⟨gb251, 0, none⟩ = some (.int .i64 a1_0) := bc_ BK251 0
             have hcz225_1 : w190.cell? ⟨gb251, 1, none⟩ = some (.string a1_1) := bc_ BK251 1
             have hcz225_2 : w190.cell? ⟨gb251, 2, none⟩ = some (.string a1_2) := bc_ BK251 2
             have hcz225_3 : w190.cell? ⟨gb251, 3, none⟩ = some (.string a1_3) := bc_ BK251 3
             have hfz225_0 := blk_frozen BK251.out 0
             have hfz225_1 := blk_frozen BK251.out 1
             have hfz225_2 := blk_frozen BK251.out 2
             have hfz225_3 := blk_frozen BK251.out 3
             go_wp2_with (first | (go_at_call 39; (with_reducible refine (spec_l03Name.calls a1_3 t267 _ A216.out).mono ?_); rintro e w' ⟨rfl, ⟨nd, rfl⟩⟩))
             go_meet
             case rel => exact ⟨_, (!t267), (by first | rfl | (simp; done) | (simp [*]; done) | (simp [bne]; done)), H', ⟨by have := HJ2.out; have := HJ59.out; first | omega | exact Nat.le_refl _⟩, ⟨bf_⟩, ⟨bf_⟩, ⟨bf_⟩, ⟨bf_⟩, ⟨bu_⟩, ⟨bw_ HB⟩⟩
          case rest =>
           clear HC189
           try clear c1
           try clear c2
           try clear p2
           try clear q2
           try clear hx2
           try clear c3
           try clear c4
           try clear c5
           try clear c6
           try clear c7
           try clear c8
           try clear c9
           try clear c10
           try clear c11
           try clear c11b0
           try clear c11b1
           try clear c12
           try clear c12b0
           try clear c12b1
           try clear c13
           try clear c14
           try clear c15
           try clear c16
           try clear c17
           try clear c18
           try clear c19
           try clear c20
           try clear c21
           try clear c22
           try clear c23
           try clear c25
           try clear c25b0
           try clear c25b1
           try clear p25
           try clear q25
           try clear hx25
           try clear c26
           try clear c26b0
           try clear c26b1
           try clear c27
           try clear c28
           try clear c31
           try clear c33
           try clear c34
           try clear c37
           try clear c38
           try clear c39
           try clear c40
           try clear c41
           try clear c43
           try clear c45
           try clear c46
           try clear c49
           try clear c51
           try clear c52
           try clear c55
           try clear c56
           try clear c57
           try clear c61
           try clear c62
           try clear c64
           try clear c69
           try clear c70
           try clear c71
           try clear c73
           try clear c73b0
           try clear c74
           try clear c74b0
           try clear c75
           try clear c75b0
           try clear c76
           try clear c77
           try clear c78
           try clear c80
           try clear c81
           try clear c83
           try clear c83b0
           try clear c83b1
           try clear c84
           try clear c84b0
           try clear c84b1
           try clear c84b2
           try clear c87
           try clear c89
           try clear c90
           try clear c91
           try clear c92
           try clear c94
           try clear c95
           try clear c96
           try clear c98
           try clear c99
           try clear c101
           try clear c110
           try clear c111
           try clear c112
           try clear c113
           try clear c115
           try clear c116
           try clear c117
           try clear c119
           try clear c120
           try clear c122
           try clear c129
           try clear c129b0
           try clear c131
           try clear c132
           try clear c133
           try clear c134
           try clear c136
           try clear c137
           try clear c138
           try clear c140
           try clear c141
           try clear c143
           try clear c143b0
           try clear c143b1
           try clear c146
           try clear c148
           try clear c149
           try clear c150
           try clear c151
           try clear c153
           try clear c154
           try clear c155
           try clear c157
           try clear c158
           try clear c160
           try clear c169
           try clear c170
           try clear c171
           try clear c172
           try clear c174
           try clear c175
           try clear c176
           try clear c178
           try clear c179
           try clear c181
           try clear c188
           try clear c188b0
           try clear c188b1
           try clear c191
           try clear c192
           try clear c193
           try clear c194
           try clear c196
           try clear c197
           try clear c198
           try clear c200
           try clear c200b0
           try clear c201
           try clear c202
           try clear c203
           try clear c204
           try clear c206
           try clear c206b0
           try clear c206b1
           try clear c207
           try clear c208
           try clear c209
           try clear c210
           try clear c212
           try clear c213
           try clear c214
           try clear c217
           try clear c218
           try clear c219
           try clear c220
           try clear c222
           try clear c223
           try clear c224
           try clear hcz100_0
           try clear hcz100_1
           try clear hcz100_2
           try clear hcz102_0
           try clear hcz105_0
           try clear hcz107_0
           try clear hcz108_0
           try clear hcz114_0
           try clear hcz118_0
           try clear hcz118_1
           try clear hcz118_2
           try clear hcz118_3
           try clear hcz121_0
           try clear hcz121_1
           try clear hcz121_2
           try clear hcz123_0
           try clear hcz126_0
           try clear hcz128_0
           try clear hcz135_0
           try clear hcz139_0
           try clear hcz139_1
           try clear hcz139_2
           try clear hcz139_3
           try clear hcz142_0
           try clear hcz152_0
           try clear hcz156_0
           try clear hcz156_1
           try clear hcz156_2
           try clear hcz156_3
           try clear hcz159_0
           try clear hcz159_1
           try clear hcz159_2
           try clear hcz15_0
           try clear hcz161_0
           try clear hcz164_0
           try clear hcz166_0
           try clear hcz167_0
           try clear hcz173_0
           try clear hcz177_0
           try clear hcz177_1
           try clear hcz177_2
           try clear hcz177_3
           try clear hcz180_0
           try clear hcz180_1
           try clear hcz180_2
           try clear hcz182_0
           try clear hcz185_0
           try clear hcz187_0
           try clear hcz18_0
           try clear hcz18_1
           try clear hcz18_2
           try clear hcz18_3
           try clear hcz195_0
           try clear hcz199_0
           try clear hcz199_1
           try clear hcz199_2
           try clear hcz199_3
           try clear hcz205_0
           try clear hcz205_1
           try clear hcz205_2
           try clear hcz211_0
           try clear hcz211_1
           try clear hcz211_2
           try clear hcz215_0
           try clear hcz215_1
           try clear hcz215_2
           try clear hcz215_3
           try clear hcz21_0
           try clear hcz221_0
           try clear hcz221_1
           try clear hcz221_2
           try clear hcz225_0
           try clear hcz225_1
           try clear hcz225_2
           try clear hcz225_3
           try clear hcz24_0
           try clear hcz24_1
           try clear hcz24_2
           try clear hcz24_3
           try clear hcz29_0
           try clear hcz32_0
           try clear hcz32_1
           try clear hcz32_2
           try clear hcz32_3
           try clear hcz35_0
           try clear hcz38_0
           try clear hcz38_1
           try clear hcz38_2
           try clear hcz38_3
           try clear hcz41_0
           try clear hcz44_0
           try clear hcz44_1
           try clear hcz44_2
           try clear hcz44_3
           try clear hcz47_0
           try clear hcz50_0
           try clear hcz50_1
           try clear hcz50_2
           try clear hcz50_3
           try clear hcz53_0
           try clear hcz58_0
           try clear hcz63_0
           try clear hcz65_0
           try clear hcz65_1
           try clear hcz65_2
           try clear hcz65_3
           try clear hcz67_0
           try clear hcz67_1
           try clear hcz67_2
           try clear hcz67_3
           try clear hcz72_0
           try clear hcz72_1
           try clear hcz72_2
           try clear hcz79_0
           try clear hcz82_0
           try clear hcz82_1
           try clear hcz82_2
           try clear hcz93_0
           try clear hcz97_0
           try clear hcz97_1
           try clear hcz97_2
           try clear hcz97_3
           try clear hfz100_0
           try clear hfz100_1
           try clear hfz100_2
           try clear hfz102_0
           try clear hfz105_0
           try clear hfz107_0
           try clear hfz108_0
           try clear hfz114_0
           try clear hfz118_0
           try clear hfz118_1
           try clear hfz118_2
           try clear hfz118_3
           try clear hfz121_0
           try clear hfz121_1
           try clear hfz121_2
           try clear hfz123_0
           try clear hfz126_0
           try clear hfz128_0
           try clear hfz135_0
           try clear hfz139_0
           try clear hfz139_1
           try clear hfz139_2
           try clear hfz139_3
           try clear hfz142_0
           try clear hfz152_0
           try clear hfz156_0
           try clear hfz156_1
           try clear hfz156_2
           try clear hfz156_3
           try clear hfz159_0
           try clear hfz159_1
           try clear hfz159_2
           try clear hfz15_0
           try clear hfz161_0
           try clear hfz164_0
           try clear hfz166_0
           try clear hfz167_0
           try clear hfz173_0
           try clear hfz177_0
           try clear hfz177_1
           try clear hfz177_2
           try clear hfz177_3
           try clear hfz180_0
           try clear hfz180_1
           try clear hfz180_2
           try clear hfz182_0
           try clear hfz185_0
           try clear hfz187_0
           try clear hfz18_0
           try clear hfz18_1
           try clear hfz18_2
           try clear hfz18_3
           try clear hfz195_0
           try clear hfz199_0
           try clear hfz199_1
           try clear hfz199_2
           try clear hfz199_3
           try clear hfz205_0
           try clear hfz205_1
           try clear hfz205_2
           try clear hfz211_0
           try clear hfz211_1
           try clear hfz211_2
           try clear hfz215_0
           try clear hfz215_1
           try clear hfz215_2
           try clear hfz215_3
           try clear hfz21_0
           try clear hfz221_0
           try clear hfz221_1
           try clear hfz221_2
           try clear hfz225_0
           try clear hfz225_1
           try clear hfz225_2
           try clear hfz225_3
           try clear hfz24_0
           try clear hfz24_1
           try clear hfz24_2
           try clear hfz24_3
           try clear hfz29_0
           try clear hfz32_0
           try clear hfz32_1
           try clear hfz32_2
           try clear hfz32_3
           try clear hfz35_0
           try clear hfz38_0
           try clear hfz38_1
           try clear hfz38_2
           try clear hfz38_3
           try clear hfz41_0
           try clear hfz44_0
           try clear hfz44_1
           try clear hfz44_2
           try clear hfz44_3
           try clear hfz47_0
           try clear hfz50_0
           try clear hfz50_1
           try clear hfz50_2
           try clear hfz50_3
           try clear hfz53_0
           try clear hfz58_0
           try clear hfz63_0
           try clear hfz65_0
           try clear hfz65_1
           try clear hfz65_2
           try clear hfz65_3
           try clear hfz67_0
           try clear hfz67_1
           try clear hfz67_2
           try clear hfz67_3
           try clear hfz72_0
           try clear hfz72_1
           try clear hfz72_2
           try clear hfz79_0
           try clear hfz82_0
           try clear hfz82_1
           try clear hfz82_2
           try clear hfz93_0
           try clear hfz97_0
           try clear hfz97_1
           try clear hfz97_2
           try clear hfz97_3
           try clear hx257_0
           try clear hx257_1
           try clear hx257_2
           try clear p2
           try clear p25
           try clear p257
           try clear q2
           try clear q25
           try clear q257
           obtain ⟨kq, x105_188, rfl, HA, HJ188, BK250, BK251, BK252, BK256, BK258, HB⟩ := hcut
           cases kq with
           | zero => exact absurd HA.out (by simp [spec_DoAct.j2])
           | succ kj188 =>
            have H := HA.out
            clear HA
            simp only [spec_DoAct.j2] at H
            by_cases c226 : x105_188 = true
            ·subst c226
             have H1 : (some (([] : List (S76)), false)) = some (r1, r2) := by rw [if_pos rfl] at H; exact H
             clear H
             have H := H1
             clear H1
             simp only [Option.some.injEq, Prod.mk.injEq] at H
             obtain ⟨rfl, rfl⟩ := H
             have hnb227 := NB252_250.out
             have hnc227 := NB250_252.out
             have hnb228 := NB252_251.out
             have hnc228 := NB251_252.out
             have hnb229 := NB252_256.out
             have hnc229 := NB256_252.out
             have hnb230 := NB252_258.out
             have hnc230 := NB258_252.out
             have hcz231_0 : wc.cell? ⟨gb252, 0, none⟩ = some (.slice none 0 0) := bc_ BK252 0
             have hfz231_0 := blk_frozen BK252.out 0
             go_wp2
             refine bodyPost_ret (results_ct rfl _ _ gb252 31 #[.slice none 0 0] (0, 0) _ rfl bu_ Try.underlying31 rfl (by kernel_rfl)) rfl ?_
             exact ⟨_, er_, by first | exact Kd.R_nil _ _ _ _ _ | exact Kd.N_nil _ _ _ _ _ | exact Kd.V_nil _ _ _ _ _ | exact Kd.Q_nil _ _ _ _ _ | exact Kd.S_nil _ _ _ _ _, bw_ HB⟩
            ·replace c226 := Bool.eq_false_iff.mpr c226
             subst c226
             have H1 : ((spec_l03Without.f kj188 l0_0 a1_1).bind fun t268 => ((spec_l03Put.f kj188 t268 a1_3 x257001_59 x257002_59).bind fun t271 => ((spec_DiskOk.f kj188 t271).bind fun t274 => (if t274 = true then (some (t271, true)) else (some (([] : List (S76)), false)))))) = some (r1, r2) := by rw [if_neg (show ¬ (false = true) by decide)] at H; exact H
             clear H
             have H := H1
             clear H1
             replace H := Option.bind_eq_some_iff.mp H
             obtain ⟨t268, A2320, H⟩ := H
             replace H : ((spec_l03Put.f kj188 t268 a1_3 x257001_59 x257002_59).bind fun t271 => ((spec_DiskOk.f kj188 t271).bind fun t274 => (if t274 = true then (some (t271, true)) else (some (([] : List (S76)), false))))) = some (r1, r2) := H
             have A232 := Aside0.mk A2320
             clear A2320
             replace H := Option.bind_eq_some_iff.mp H
             obtain ⟨t271, A2330, H⟩ := H
             replace H : ((spec_DiskOk.f kj188 t271).bind fun t274 => (if t274 = true then (some (t271, true)) else (some (([] : List (S76)), false)))) = some (r1, r2) := H
             have A233 := Aside0.mk A2330
             clear A2330
             replace H := Option.bind_eq_some_iff.mp H
             obtain ⟨t274, A2340, H⟩ := H
             replace H : (if t274 = true then (some (t271, true)) else (some (([] : List (S76)), false))) = some (r1, r2) := H
             have A234 := Aside0.mk A2340
             clear A2340
             by_cases c235 : t274 = true
             ·subst c235
              have H1 : (some (t271, true)) = some (r1, r2) := by rw [if_pos rfl] at H; exact H
              clear H
              have H := H1
              clear H1
              simp only [Option.some.injEq, Prod.mk.injEq] at H
              obtain ⟨rfl, rfl⟩ := H
              have hnb236 := NB251_250.out
              have hnc236 := NB250_251.out
              have hnb237 := NB251_252.out
              have hnc237 := NB252_251.out
              have hnb238 := NB251_256.out
              have hnc238 := NB256_251.out
              have hnb239 := NB251_258.out
              have hnc239 := NB258_251.out
              have hcz240_0 : wc.cell? ⟨gb251, 0, none⟩ = some (.int .i64 a1_0) := bc_ BK251 0
              have hcz240_1 : wc.cell? ⟨gb251, 1, none⟩ = some (.string a1_1) := bc_ BK251 1
              have hcz240_2 : wc.cell? ⟨gb251, 2, none⟩ = some (.string a1_2) := bc_ BK251 2
              have hcz240_3 : wc.cell? ⟨gb251, 3, none⟩ = some (.string a1_3) := bc_ BK251 3
              have hfz240_0 := blk_frozen BK251.out 0
              have hfz240_1 := blk_frozen BK251.out 1
              have hfz240_2 := blk_frozen BK251.out 2
              have hfz240_3 := blk_frozen BK251.out 3
              have hnb241 := NB256_250.out
              have hnc241 := NB250_256.out
              have hnb242 := NB256_252.out
              have hnc242 := NB252_256.out
              have hnb243 := NB256_258.out
              have hnc243 := NB258_256.out
              have hcz244_0 : wc.cell? ⟨gb256, 0, none⟩ = some (.string x257000_59) := bc_ BK256 0
              have hcz244_1 : wc.cell? ⟨gb256, 1, none⟩ = some (.string x257001_59) := bc_ BK256 1
              have hcz244_2 : wc.cell? ⟨gb256, 2, none⟩ = some (.int .i64 x257002_59) := bc_ BK256 2
              have hfz244_0 := blk_frozen BK256.out 0
              have hfz244_1 := blk_frozen BK256.out 1
              have hfz244_2 := blk_frozen BK256.out 2
              try go_wp2
              have n0_ : Aside0 ((wc.setCell ⟨gb256, 0, none⟩ (.string a1_3)).heap[gb250]? = some (.cells #[.slice A0_0 l0_0.length c0_0] 31 (0, 0))) := ⟨bf_⟩
              have n1_ : Aside0 ((wc.setCell ⟨gb256, 0, none⟩ (.string a1_3)).heap[gb251]? = some (.cells #[.int .i64 a1_0, .string a1_1, .string a1_2, .string a1_3] 35 (0, 0))) := ⟨bf_⟩
              have n2_ : Aside0 ((wc.setCell ⟨gb256, 0, none⟩ (.string a1_3)).heap[gb252]? = some (.cells #[.slice none 0 0] 31 (0, 0))) := ⟨bf_⟩
              have n3_ : Aside0 ((wc.setCell ⟨gb256, 0, none⟩ (.string a1_3)).heap[gb256]? = some (.cells #[.string a1_3, .string x257001_59, .int .i64 x257002_59] 76 (0, 0))) := ⟨bu_⟩
              have n4_ : Aside0 ((wc.setCell ⟨gb256, 0, none⟩ (.string a1_3)).heap[gb258]? = some (.cells #[.slice none 0 0] 31 (0, 0))) := ⟨bf_⟩
              have n5_ : Aside0 (Below w.heap.size w (wc.setCell ⟨gb256, 0, none⟩ (.string a1_3))) := ⟨bw_ HB⟩
              (try clear BK250); (try clear BK251); (try clear BK252); (try clear BK256); (try clear BK258); (try clear HB)
              generalize (wc.setCell ⟨gb256, 0, none⟩ (.string a1_3)) = w245 at n0_ n1_ n2_ n3_ n4_ n5_ ⊢
              have BK250 := n0_; have BK251 := n1_; have BK252 := n2_; have BK256 := n3_; have BK258 := n4_; have HB := n5_; clear n0_ n1_ n2_ n3_ n4_ n5_
              have n0_ := mk_ (blk_drew BK250.out)
              have n1_ := mk_ (blk_drew BK251.out)
              have n2_ := mk_ (blk_drew BK252.out)
              have n3_ := mk_ (blk_drew BK256.out)
              have n4_ := mk_ (blk_drew BK258.out)
              have n5_ := mk_ (below_drew1 HB.out)
              clear BK250; clear BK251; clear BK252; clear BK256; clear BK258; clear HB; have BK250 := n0_; have BK251 := n1_; have BK252 := n2_; have BK256 := n3_; have BK258 := n4_; have HB := n5_; clear n0_ n1_ n2_ n3_ n4_ n5_
              refine start_ (n := 7) (S := fun w' => w'.cell? ⟨gb250, 0, none⟩ = some (.slice A0_0 l0_0.length c0_0) ∧ w'.cell? ⟨gb251, 0, none⟩ = some (.int .i64 a1_0) ∧ w'.cell? ⟨gb251, 1, none⟩ = some (.string a1_1) ∧ w'.cell? ⟨gb251, 2, none⟩ = some (.string a1_2) ∧ w'.cell? ⟨gb251, 3, none⟩ = some (.string a1_3) ∧ w'.cell? ⟨gb256, 0, none⟩ = some (.string a1_3) ∧ w'.cell? ⟨gb256, 1, none⟩ = some (.string x257001_59) ∧ w'.cell? ⟨gb256, 2, none⟩ = some (.int .i64 x257002_59)) (ds := []) #[false, false, false, false, false, false, false] (by kernel_rfl) rfl rfl ⟨bc_ BK250 0, bc_ BK251 0, bc_ BK251 1, bc_ BK251 2, bc_ BK251 3, bc_ BK256 0, bc_ BK256 1, bc_ BK256 2⟩ (fun hHeld => ?_)
              generalize w245.drew = w246 at BK250 BK251 BK252 BK256 BK258 HB hHeld ⊢
              refine pure_ (i := 1) (N := some 111) (v := ?_) (a' := ?_) #[false, true, false, false, false, false, false] rfl rfl (by kernel_rfl) (fun _ _ _ h => h) (Or.inl ⟨by rfl, ?_⟩) ?_ ?_
              rotate_left
              ·intro w'
               go_simp
               with_reducible rfl
              rotate_left
              ·simp only [Act.put, sia_, scz_, scs_, i64_w, i32_w]
               rfl
              refine take_ (i := 0) (N := some 110) (v := ?_) (a' := ?_) #[true, true, false, false, false, false, false] rfl rfl (by kernel_rfl) (fun _ _ _ h => h) (Or.inl ⟨by rfl, ?_⟩) hHeld ?_ ?_
              rotate_left
              ·rintro w' ⟨s0, s1, s2, s3, s4, s5, s6, s7⟩
               go_simp
               with_reducible rfl
              rotate_left
              ·simp only [Act.put, sia_, scz_, scs_, i64_w, i32_w]
               rfl
              refine take_ (i := 2) (N := some 112) (v := ?_) (a' := ?_) #[true, true, true, false, false, false, false] rfl rfl (by kernel_rfl) (fun _ _ _ h => h) (Or.inl ⟨by rfl, ?_⟩) hHeld ?_ ?_
              rotate_left
              ·rintro w' ⟨s0, s1, s2, s3, s4, s5, s6, s7⟩
               go_simp
               with_reducible rfl
              rotate_left
              ·simp only [Act.put, sia_, scz_, scs_, i64_w, i32_w]
               rfl
              refine take_ (i := 4) (N := some 114) (v := ?_) (a' := ?_) #[true, true, true, false, true, false, false] rfl rfl (by kernel_rfl) (fun _ _ _ h => h) (Or.inl ⟨by rfl, ?_⟩) hHeld ?_ ?_
              rotate_left
              ·rintro w' ⟨s0, s1, s2, s3, s4, s5, s6, s7⟩
               go_simp
               with_reducible rfl
              rotate_left
              ·simp only [Act.put, sia_, scz_, scs_, i64_w, i32_w]
               rfl
              refine one_ (i := 3) (N := some 113) #[true, true, true, true, true, false, false] rfl rfl (by kernel_rfl) (by decide) (fun K hK => ?_)
              refine goes_ Try.func42 (by kernel_rfl) rfl #[.agg #[.slice A0_0 l0_0.length c0_0], .string a1_1] (by rfl) rfl rfl ga_ ?_
              with_reducible refine (spec_l03Without.calls kj188 _ _ l0_0 a1_1 t268 _ ?side1 ?side2 A232.out).mono ?_
              (case side1 => repeat (first | exact (Kd.C_below HR0_0.out HB.out) | (with_reducible refine Kd.C_alloc ?_ _) | (with_reducible refine Kd.C_drewN ?_ _) | (with_reducible refine Kd.C_drew ?_)))
              (case side2 => exact HC0_0.out)
              rintro e w247 ⟨v269, rfl, ho0, hb⟩
              refine ⟨_, rfl, ?_⟩
              have n0_ := mk_ (Kd.R_lower (Kd.R_newB ho0 (g := gb256) (o := .cells #[.string a1_3, .string x257001_59, .int .i64 x257002_59] 76 (0, 0)) (bp_ BK256)) (below_size (bw_ HB)))
              have n1_ := bb_ BK250 hb; have n2_ := bb_ BK251 hb; have n3_ := bb_ BK252 hb; have n4_ := bb_ BK256 hb; have n5_ := bb_ BK258 hb
              have n6_ := bs_ HB hb
              clear BK250; clear BK251; clear BK252; clear BK256; clear BK258; clear HB; have HO270 := n0_; have BK250 := n1_; have BK251 := n2_; have BK252 := n3_; have BK256 := n4_; have BK258 := n5_; have HB := n6_; clear n0_ n1_ n2_ n3_ n4_ n5_ n6_; (try clear hb); (try clear hb2); (try clear hk); (try clear hi); (try clear ho0)
              obtain ⟨Ao248, co248, eo248⟩ := Kd.R_slice HO270.out
              (first | subst eo248 | (injection eo248 with f1_ f2_ f3_; have f4_ := f1_.symm; have f5_ := f3_.symm; clear f1_ f2_ f3_; subst f4_; subst f5_))
              refine hK.out _ _ ⟨bc_ BK250 0, bc_ BK251 0, bc_ BK251 1, bc_ BK251 2, bc_ BK251 3, bc_ BK256 0, bc_ BK256 1, bc_ BK256 2⟩ (fun hHeld => ?_)
              clear hK K
              refine norm_ (a' := ?_) ?_ ?_
              rotate_left
              ·show Act.put _ (some 113) _ = _
               simp only [Act.put, sia_, scz_, scs_, i64_w, i32_w]
               rfl
              refine one_ (i := 5) (N := some 115) #[true, true, true, true, true, true, false] rfl rfl (by kernel_rfl) (by decide) (fun K hK => ?_)
              refine goes_ Try.func41 (by kernel_rfl) rfl #[.agg #[.slice Ao248 t268.length co248], .agg #[.string a1_3, .string x257001_59, .int .i64 x257002_59]] (by rfl) rfl rfl ga_ ?_
              with_reducible refine (spec_l03Put.calls kj188 _ _ t268 a1_3 x257001_59 x257002_59 t271 _ ?side1 ?side2 A233.out).mono ?_
              (case side1 => repeat (first | exact (Kd.R_reads' HO270.out).2.2 | (with_reducible refine Kd.C_alloc ?_ _) | (with_reducible refine Kd.C_drewN ?_ _) | (with_reducible refine Kd.C_drew ?_)))
              (case side2 => exact (Kd.R_reads' HO270.out).2.1)
              rintro e w249 ⟨v272, rfl, ho0, hb⟩
              refine ⟨_, rfl, ?_⟩
              have n0_ := mk_ (Kd.R_elder' (rp_ HO270) (Kd.R_base ho0) hb)
              have n1_ := mk_ (Kd.R_lower (Kd.R_newB (Kd.R_new' ho0 (Kd.R_lt (rp_ HO270))) (g := gb256) (o := .cells #[.string a1_3, .string x257001_59, .int .i64 x257002_59] 76 (0, 0)) (bp_ BK256)) (below_size (bw_ HB)))
              have n2_ := bb_ BK250 hb; have n3_ := bb_ BK251 hb; have n4_ := bb_ BK252 hb; have n5_ := bb_ BK256 hb; have n6_ := bb_ BK258 hb
              have n7_ := bs_ HB hb
              clear HO270; clear BK250; clear BK251; clear BK252; clear BK256; clear BK258; clear HB; have HO270 := n0_; have HO273 := n1_; have BK250 := n2_; have BK251 := n3_; have BK252 := n4_; have BK256 := n5_; have BK258 := n6_; have HB := n7_; clear n0_ n1_ n2_ n3_ n4_ n5_ n6_ n7_; (try clear hb); (try clear hb2); (try clear hk); (try clear hi); (try clear ho0)
              obtain ⟨Ao250, co250, eo250⟩ := Kd.R_slice HO273.out
              (first | subst eo250 | (injection eo250 with f1_ f2_ f3_; have f4_ := f1_.symm; have f5_ := f3_.symm; clear f1_ f2_ f3_; subst f4_; subst f5_))
              refine hK.out _ _ ⟨bc_ BK250 0, bc_ BK251 0, bc_ BK251 1, bc_ BK251 2, bc_ BK251 3, bc_ BK256 0, bc_ BK256 1, bc_ BK256 2⟩ (fun hHeld => ?_)
              clear hK K
              refine norm_ (a' := ?_) ?_ ?_
              rotate_left
              ·show Act.put _ (some 115) _ = _
               simp only [Act.put, sia_, scz_, scs_, i64_w, i32_w]
               rfl
              refine one_ (i := 6) (N := none) #[true, true, true, true, true, true, true] rfl rfl (by kernel_rfl) (by decide) (fun K hK => ?_)
              have hs251 : w249.cell? ⟨gb258, 0, none⟩ = some (.slice none 0 0) := bc_ BK258 0
              have hfs251 := blk_frozen BK258.out 0
              have hns251_0 := NB250_258.out
              have hns251_1 := NB251_258.out
              have hns251_2 := NB252_258.out
              have hns251_3 := NB256_258.out
              have hms251_0 := NB258_250.out
              have hms251_1 := NB258_251.out
              have hms251_2 := NB258_252.out
              have hms251_3 := NB258_256.out
              refine skip_ (w1 := ?_) (by rfl) rfl ?_ ?_
              rotate_left
              ·go_simp
               rfl
              refine hK.out _ _ ⟨((cell_far (p := ⟨gb258, _, none⟩) NB250_258.out _).trans (hHeld.1)), ((cell_far (p := ⟨gb258, _, none⟩) NB251_258.out _).trans (hHeld.2.1)), ((cell_far (p := ⟨gb258, _, none⟩) NB251_258.out _).trans (hHeld.2.2.1)), ((cell_far (p := ⟨gb258, _, none⟩) NB251_258.out _).trans (hHeld.2.2.2.1)), ((cell_far (p := ⟨gb258, _, none⟩) NB251_258.out _).trans (hHeld.2.2.2.2.1)), ((cell_far (p := ⟨gb258, _, none⟩) NB256_258.out _).trans (hHeld.2.2.2.2.2.1)), ((cell_far (p := ⟨gb258, _, none⟩) NB256_258.out _).trans (hHeld.2.2.2.2.2.2.1)), ((cell_far (p := ⟨gb258, _, none⟩) NB256_258.out _).trans (hHeld.2.2.2.2.2.2.2))⟩ (fun hHeld => ?_)
              clear hK K
              refine done_ (by kernel_rfl) ?_
              have hnb252 := NB258_250.out
              have hnc252 := NB250_258.out
              have hnb253 := NB258_252.out
              have hnc253 := NB252_258.out
              have hcz254_0 : w249.cell? ⟨gb258, 0, none⟩ = some (.slice none 0 0) := bc_ BK258 0
              have hfz254_0 := blk_frozen BK258.out 0
              try go_wp2_with (first | ((with_reducible refine gate_callee (f := 38) rfl ?_); refine goesL_ (some 125) rfl rfl Try.func38 (by kernel_rfl) rfl #[.agg #[.slice Ao250 t271.length co250]] rfl ga_ ?_; (with_reducible refine (spec_DiskOk.calls kj188 _ _ t271 true _ ?side1 ?side2 A234.out).mono ?_); (case side1 => refine (Kd.R_reads' (e := 76) (base := w.heap.size) (ok := fun k_ => ((True ∧ some k_ ≠ (.slice Ao248 t268.length co248 : Value).ownBlock) ∧ k_ ≠ gb256)) (n := t271.length) (c := co250) ?_).2.2; exact (by (with_reducible repeat (first | apply Kd.R_alloc | apply Kd.R_drewN | apply Kd.R_drew)); exact (Kd.R_mono (Kd.R_far (p := ⟨gb258, 0, none⟩) (Kd.R_types HO273.out BK258.out (by decide)) (fun _ hk => hk.2) (.slice Ao250 t271.length co250)) (fun _ h_ => h_.1)))); (case side2 => exact (Kd.R_reads' HO273.out).2.1); rintro e w255 ⟨rfl, hb⟩; refine ⟨_, rfl, ?_⟩; replace HO270 := mk_ (Kd.R_below (by (with_reducible repeat (first | apply Kd.R_alloc | apply Kd.R_drewN | apply Kd.R_drew)); exact (Kd.R_mono (Kd.R_far (p := ⟨gb258, 0, none⟩) (Kd.R_types HO270.out BK258.out (by decide)) (fun _ hk => hk.2) (.slice Ao250 t271.length co250)) (fun _ h_ => h_.1))) hb); replace HO273 := mk_ (Kd.R_below (by (with_reducible repeat (first | apply Kd.R_alloc | apply Kd.R_drewN | apply Kd.R_drew)); exact (Kd.R_mono (Kd.R_far (p := ⟨gb258, 0, none⟩) (Kd.R_types HO273.out BK258.out (by decide)) (fun _ hk => hk.2) (.slice Ao250 t271.length co250)) (fun _ h_ => h_.1))) hb); replace BK250 := mk_ (blk_below (g := gb250) (o := .cells #[.slice A0_0 l0_0.length c0_0] 31 (0, 0)) bf_ hb); replace BK251 := mk_ (blk_below (g := gb251) (o := .cells #[.int .i64 a1_0, .string a1_1, .string a1_2, .string a1_3] 35 (0, 0)) bf_ hb); replace BK252 := mk_ (blk_below (g := gb252) (o := .cells #[.slice none 0 0] 31 (0, 0)) bf_ hb); replace BK256 := mk_ (blk_below (g := gb256) (o := .cells #[.string a1_3, .string x257001_59, .int .i64 x257002_59] 76 (0, 0)) bf_ hb); replace BK258 := mk_ (blk_below (g := gb258) (o := .cells #[.slice Ao250 t271.length co250] 31 (0, 0)) bu_ hb); replace HB := bs_ HB hb; (try clear hb); (try clear hk); obtain ⟨hcz256_0, hfz256_0⟩ := b1_ BK258; have hnb257 := NB252_250.out; have hnc257 := NB250_252.out; obtain ⟨hcz258_0, hfz258_0⟩ := b1_ BK252))
              refine bodyPost_ret (results_ct rfl _ _ gb252 31 #[.slice Ao250 t271.length co250] (0, 0) _ rfl bu_ Try.underlying31 rfl (by kernel_rfl)) rfl ?_
              exact ⟨_, er_, by (with_reducible repeat (first | apply Kd.R_alloc | apply Kd.R_drewN | apply Kd.R_drew)); exact Kd.R_mono (Kd.R_far (p := ⟨gb252, 0, none⟩) (Kd.R_types HO273.out BK252.out (by decide)) (fun _ hk => hk.2) (.slice Ao250 t271.length co250)) (fun _ hk => trivial), bw_ HB⟩
             ·replace c235 := Bool.eq_false_iff.mpr c235
              subst c235
              have H1 : (some (([] : List (S76)), false)) = some (r1, r2) := by rw [if_neg (show ¬ (false = true) by decide)] at H; exact H
              clear H
              have H := H1
              clear H1
              simp only [Option.some.injEq, Prod.mk.injEq] at H
              obtain ⟨rfl, rfl⟩ := H
              have hnb259 := NB251_250.out
              have hnc259 := NB250_251.out
              have hnb260 := NB251_252.out
              have hnc260 := NB252_251.out
              have hnb261 := NB251_256.out
              have hnc261 := NB256_251.out
              have hnb262 := NB251_258.out
              have hnc262 := NB258_251.out
              have hcz263_0 : wc.cell? ⟨gb251, 0, none⟩ = some (.int .i64 a1_0) := bc_ BK251 0
              have hcz263_1 : wc.cell? ⟨gb251, 1, none⟩ = some (.string a1_1) := bc_ BK251 1
              have hcz263_2 : wc.cell? ⟨gb251, 2, none⟩ = some (.string a1_2) := bc_ BK251 2
              have hcz263_3 : wc.cell? ⟨gb251, 3, none⟩ = some (.string a1_3) := bc_ BK251 3
              have hfz263_0 := blk_frozen BK251.out 0
              have hfz263_1 := blk_frozen BK251.out 1
              have hfz263_2 := blk_frozen BK251.out 2
              have hfz263_3 := blk_frozen BK251.out 3
              have hnb264 := NB256_250.out
              have hnc264 := NB250_256.out
              have hnb265 := NB256_252.out
              have hnc265 := NB252_256.out
              have hnb266 := NB256_258.out
              have hnc266 := NB258_256.out
              have hcz267_0 : wc.cell? ⟨gb256, 0, none⟩ = some (.string x257000_59) := bc_ BK256 0
              have hcz267_1 : wc.cell? ⟨gb256, 1, none⟩ = some (.string x257001_59) := bc_ BK256 1
              have hcz267_2 : wc.cell? ⟨gb256, 2, none⟩ = some (.int .i64 x257002_59) := bc_ BK256 2
              have hfz267_0 := blk_frozen BK256.out 0
              have hfz267_1 := blk_frozen BK256.out 1
              have hfz267_2 := blk_frozen BK256.out 2
              try go_wp2
              have n0_ : Aside0 ((wc.setCell ⟨gb256, 0, none⟩ (.string a1_3)).heap[gb250]? = some (.cells #[.slice A0_0 l0_0.length c0_0] 31 (0, 0))) := ⟨bf_⟩
              have n1_ : Aside0 ((wc.setCell ⟨gb256, 0, none⟩ (.string a1_3)).heap[gb251]? = some (.cells #[.int .i64 a1_0, .string a1_1, .string a1_2, .string a1_3] 35 (0, 0))) := ⟨bf_⟩
              have n2_ : Aside0 ((wc.setCell ⟨gb256, 0, none⟩ (.string a1_3)).heap[gb252]? = some (.cells #[.slice none 0 0] 31 (0, 0))) := ⟨bf_⟩
              have n3_ : Aside0 ((wc.setCell ⟨gb256, 0, none⟩ (.string a1_3)).heap[gb256]? = some (.cells #[.string a1_3, .string x257001_59, .int .i64 x257002_59] 76 (0, 0))) := ⟨bu_⟩
              have n4_ : Aside0 ((wc.setCell ⟨gb256, 0, none⟩ (.string a1_3)).heap[gb258]? = some (.cells #[.slice none 0 0] 31 (0, 0))) := ⟨bf_⟩
              have n5_ : Aside0 (Below w.heap.size w (wc.setCell ⟨gb256, 0, none⟩ (.string a1_3))) := ⟨bw_ HB⟩
              (try clear BK250); (try clear BK251); (try clear BK252); (try clear BK256); (try clear BK258); (try clear HB)
              generalize (wc.setCell ⟨gb256, 0, none⟩ (.string a1_3)) = w268 at n0_ n1_ n2_ n3_ n4_ n5_ ⊢
              have BK250 := n0_; have BK251 := n1_; have BK252 := n2_; have BK256 := n3_; have BK258 := n4_; have HB := n5_; clear n0_ n1_ n2_ n3_ n4_ n5_
              have n0_ := mk_ (blk_drew BK250.out)
              have n1_ := mk_ (blk_drew BK251.out)
              have n2_ := mk_ (blk_drew BK252.out)
              have n3_ := mk_ (blk_drew BK256.out)
              have n4_ := mk_ (blk_drew BK258.out)
              have n5_ := mk_ (below_drew1 HB.out)
              clear BK250; clear BK251; clear BK252; clear BK256; clear BK258; clear HB; have BK250 := n0_; have BK251 := n1_; have BK252 := n2_; have BK256 := n3_; have BK258 := n4_; have HB := n5_; clear n0_ n1_ n2_ n3_ n4_ n5_
              refine start_ (n := 7) (S := fun w' => w'.cell? ⟨gb250, 0, none⟩ = some (.slice A0_0 l0_0.length c0_0) ∧ w'.cell? ⟨gb251, 0, none⟩ = some (.int .i64 a1_0) ∧ w'.cell? ⟨gb251, 1, none⟩ = some (.string a1_1) ∧ w'.cell? ⟨gb251, 2, none⟩ = some (.string a1_2) ∧ w'.cell? ⟨gb251, 3, none⟩ = some (.string a1_3) ∧ w'.cell? ⟨gb256, 0, none⟩ = some (.string a1_3) ∧ w'.cell? ⟨gb256, 1, none⟩ = some (.string x257001_59) ∧ w'.cell? ⟨gb256, 2, none⟩ = some (.int .i64 x257002_59)) (ds := []) #[false, false, false, false, false, false, false] (by kernel_rfl) rfl rfl ⟨bc_ BK250 0, bc_ BK251 0, bc_ BK251 1, bc_ BK251 2, bc_ BK251 3, bc_ BK256 0, bc_ BK256 1, bc_ BK256 2⟩ (fun hHeld => ?_)
              generalize w268.drew = w269 at BK250 BK251 BK252 BK256 BK258 HB hHeld ⊢
              refine pure_ (i := 1) (N := some 111) (v := ?_) (a' := ?_) #[false, true, false, false, false, false, false] rfl rfl (by kernel_rfl) (fun _ _ _ h => h) (Or.inl ⟨by rfl, ?_⟩) ?_ ?_
              rotate_left
              ·intro w'
               go_simp
               with_reducible rfl
              rotate_left
              ·simp only [Act.put, sia_, scz_, scs_, i64_w, i32_w]
               rfl
              refine take_ (i := 0) (N := some 110) (v := ?_) (a' := ?_) #[true, true, false, false, false, false, false] rfl rfl (by kernel_rfl) (fun _ _ _ h => h) (Or.inl ⟨by rfl, ?_⟩) hHeld ?_ ?_
              rotate_left
              ·rintro w' ⟨s0, s1, s2, s3, s4, s5, s6, s7⟩
               go_simp
               with_reducible rfl
              rotate_left
              ·simp only [Act.put, sia_, scz_, scs_, i64_w, i32_w]
               rfl
              refine take_ (i := 2) (N := some 112) (v := ?_) (a' := ?_) #[true, true, true, false, false, false, false] rfl rfl (by kernel_rfl) (fun _ _ _ h => h) (Or.inl ⟨by rfl, ?_⟩) hHeld ?_ ?_
              rotate_left
              ·rintro w' ⟨s0, s1, s2, s3, s4, s5, s6, s7⟩
               go_simp
               with_reducible rfl
              rotate_left
              ·simp only [Act.put, sia_, scz_, scs_, i64_w, i32_w]
               rfl
              refine take_ (i := 4) (N := some 114) (v := ?_) (a' := ?_) #[true, true, true, false, true, false, false] rfl rfl (by kernel_rfl) (fun _ _ _ h => h) (Or.inl ⟨by rfl, ?_⟩) hHeld ?_ ?_
              rotate_left
              ·rintro w' ⟨s0, s1, s2, s3, s4, s5, s6, s7⟩
               go_simp
               with_reducible rfl
              rotate_left
              ·simp only [Act.put, sia_, scz_, scs_, i64_w, i32_w]
               rfl
              refine one_ (i := 3) (N := some 113) #[true, true, true, true, true, false, false] rfl rfl (by kernel_rfl) (by decide) (fun K hK => ?_)
              refine goes_ Try.func42 (by kernel_rfl) rfl #[.agg #[.slice A0_0 l0_0.length c0_0], .string a1_1] (by rfl) rfl rfl ga_ ?_
              with_reducible refine (spec_l03Without.calls kj188 _ _ l0_0 a1_1 t268 _ ?side1 ?side2 A232.out).mono ?_
              (case side1 => repeat (first | exact (Kd.C_below HR0_0.out HB.out) | (with_reducible refine Kd.C_alloc ?_ _) | (with_reducible refine Kd.C_drewN ?_ _) | (with_reducible refine Kd.C_drew ?_)))
              (case side2 => exact HC0_0.out)
              rintro e w270 ⟨v269, rfl, ho0, hb⟩
              refine ⟨_, rfl, ?_⟩
              have n0_ := mk_ (Kd.R_lower (Kd.R_newB ho0 (g := gb256) (o := .cells #[.string a1_3, .string x257001_59, .int .i64 x257002_59] 76 (0, 0)) (bp_ BK256)) (below_size (bw_ HB)))
              have n1_ := bb_ BK250 hb; have n2_ := bb_ BK251 hb; have n3_ := bb_ BK252 hb; have n4_ := bb_ BK256 hb; have n5_ := bb_ BK258 hb
              have n6_ := bs_ HB hb
              clear BK250; clear BK251; clear BK252; clear BK256; clear BK258; clear HB; have HO270 := n0_; have BK250 := n1_; have BK251 := n2_; have BK252 := n3_; have BK256 := n4_; have BK258 := n5_; have HB := n6_; clear n0_ n1_ n2_ n3_ n4_ n5_ n6_; (try clear hb); (try clear hb2); (try clear hk); (try clear hi); (try clear ho0)
              obtain ⟨Ao271, co271, eo271⟩ := Kd.R_slice HO270.out
              (first | subst eo271 | (injection eo271 with f1_ f2_ f3_; have f4_ := f1_.symm; have f5_ := f3_.symm; clear f1_ f2_ f3_; subst f4_; subst f5_))
              refine hK.out _ _ ⟨bc_ BK250 0, bc_ BK251 0, bc_ BK251 1, bc_ BK251 2, bc_ BK251 3, bc_ BK256 0, bc_ BK256 1, bc_ BK256 2⟩ (fun hHeld => ?_)
              clear hK K
              refine norm_ (a' := ?_) ?_ ?_
              rotate_left
              ·show Act.put _ (some 113) _ = _
               simp only [Act.put, sia_, scz_, scs_, i64_w, i32_w]
               rfl
              refine one_ (i := 5) (N := some 115) #[true, true, true, true, true, true, false] rfl rfl (by kernel_rfl) (by decide) (fun K hK => ?_)
              refine goes_ Try.func41 (by kernel_rfl) rfl #[.agg #[.slice Ao271 t268.length co271], .agg #[.string a1_3, .string x257001_59, .int .i64 x257002_59]] (by rfl) rfl rfl ga_ ?_
              with_reducible refine (spec_l03Put.calls kj188 _ _ t268 a1_3 x257001_59 x257002_59 t271 _ ?side1 ?side2 A233.out).mono ?_
              (case side1 => repeat (first | exact (Kd.R_reads' HO270.out).2.2 | (with_reducible refine Kd.C_alloc ?_ _) | (with_reducible refine Kd.C_drewN ?_ _) | (with_reducible refine Kd.C_drew ?_)))
              (case side2 => exact (Kd.R_reads' HO270.out).2.1)
              rintro e w272 ⟨v272, rfl, ho0, hb⟩
              refine ⟨_, rfl, ?_⟩
              have n0_ := mk_ (Kd.R_elder' (rp_ HO270) (Kd.R_base ho0) hb)
              have n1_ := mk_ (Kd.R_lower (Kd.R_newB (Kd.R_new' ho0 (Kd.R_lt (rp_ HO270))) (g := gb256) (o := .cells #[.string a1_3, .string x257001_59, .int .i64 x257002_59] 76 (0, 0)) (bp_ BK256)) (below_size (bw_ HB)))
              have n2_ := bb_ BK250 hb; have n3_ := bb_ BK251 hb; have n4_ := bb_ BK252 hb; have n5_ := bb_ BK256 hb; have n6_ := bb_ BK258 hb
              have n7_ := bs_ HB hb
              clear HO270; clear BK250; clear BK251; clear BK252; clear BK256; clear BK258; clear HB; have HO270 := n0_; have HO273 := n1_; have BK250 := n2_; have BK251 := n3_; have BK252 := n4_; have BK256 := n5_; have BK258 := n6_; have HB := n7_; clear n0_ n1_ n2_ n3_ n4_ n5_ n6_ n7_; (try clear hb); (try clear hb2); (try clear hk); (try clear hi); (try clear ho0)
              obtain ⟨Ao273, co273, eo273⟩ := Kd.R_slice HO273.out
              (first | subst eo273 | (injection eo273 with f1_ f2_ f3_; have f4_ := f1_.symm; have f5_ := f3_.symm; clear f1_ f2_ f3_; subst f4_; subst f5_))
              refine hK.out _ _ ⟨bc_ BK250 0, bc_ BK251 0, bc_ BK251 1, bc_ BK251 2, bc_ BK251 3, bc_ BK256 0, bc_ BK256 1, bc_ BK256 2⟩ (fun hHeld => ?_)
              clear hK K
              refine norm_ (a' := ?_) ?_ ?_
              rotate_left
              ·show Act.put _ (some 115) _ = _
               simp only [Act.put, sia_, scz_, scs_, i64_w, i32_w]
               rfl
              refine one_ (i := 6) (N := none) #[true, true, true, true, true, true, true] rfl rfl (by kernel_rfl) (by decide) (fun K hK => ?_)
              have hs274 : w272.cell? ⟨gb258, 0, none⟩ = some (.slice none 0 0) := bc_ BK258 0
              have hfs274 := blk_frozen BK258.out 0
              have hns274_0 := NB250_258.out
              have hns274_1 := NB251_258.out
              have hns274_2 := NB252_258.out
              have hns274_3 := NB256_258.out
              have hms274_0 := NB258_250.out
              have hms274_1 := NB258_251.out
              have hms274_2 := NB258_252.out
              have hms274_3 := NB258_256.out
              refine skip_ (w1 := ?_) (by rfl) rfl ?_ ?_
              rotate_left
              ·go_simp
               rfl
              refine hK.out _ _ ⟨((cell_far (p := ⟨gb258, _, none⟩) NB250_258.out _).trans (hHeld.1)), ((cell_far (p := ⟨gb258, _, none⟩) NB251_258.out _).trans (hHeld.2.1)), ((cell_far (p := ⟨gb258, _, none⟩) NB251_258.out _).trans (hHeld.2.2.1)), ((cell_far (p := ⟨gb258, _, none⟩) NB251_258.out _).trans (hHeld.2.2.2.1)), ((cell_far (p := ⟨gb258, _, none⟩) NB251_258.out _).trans (hHeld.2.2.2.2.1)), ((cell_far (p := ⟨gb258, _, none⟩) NB256_258.out _).trans (hHeld.2.2.2.2.2.1)), ((cell_far (p := ⟨gb258, _, none⟩) NB256_258.out _).trans (hHeld.2.2.2.2.2.2.1)), ((cell_far (p := ⟨gb258, _, none⟩) NB256_258.out _).trans (hHeld.2.2.2.2.2.2.2))⟩ (fun hHeld => ?_)
              clear hK K
              refine done_ (by kernel_rfl) ?_
              have hnb275 := NB258_250.out
              have hnc275 := NB250_258.out
              have hnb276 := NB258_252.out
              have hnc276 := NB252_258.out
              have hcz277_0 : w272.cell? ⟨gb258, 0, none⟩ = some (.slice none 0 0) := bc_ BK258 0
              have hfz277_0 := blk_frozen BK258.out 0
              try go_wp2_with (first | ((with_reducible refine gate_callee (f := 38) rfl ?_); refine goesL_ (some 125) rfl rfl Try.func38 (by kernel_rfl) rfl #[.agg #[.slice Ao273 t271.length co273]] rfl ga_ ?_; (with_reducible refine (spec_DiskOk.calls kj188 _ _ t271 false _ ?side1 ?side2 A234.out).mono ?_); (case side1 => refine (Kd.R_reads' (e := 76) (base := w.heap.size) (ok := fun k_ => ((True ∧ some k_ ≠ (.slice Ao271 t268.length co271 : Value).ownBlock) ∧ k_ ≠ gb256)) (n := t271.length) (c := co273) ?_).2.2; exact (by (with_reducible repeat (first | apply Kd.R_alloc | apply Kd.R_drewN | apply Kd.R_drew)); exact (Kd.R_mono (Kd.R_far (p := ⟨gb258, 0, none⟩) (Kd.R_types HO273.out BK258.out (by decide)) (fun _ hk => hk.2) (.slice Ao273 t271.length co273)) (fun _ h_ => h_.1)))); (case side2 => exact (Kd.R_reads' HO273.out).2.1); rintro e w278 ⟨rfl, hb⟩; refine ⟨_, rfl, ?_⟩; replace HO270 := mk_ (Kd.R_below (by (with_reducible repeat (first | apply Kd.R_alloc | apply Kd.R_drewN | apply Kd.R_drew)); exact (Kd.R_mono (Kd.R_far (p := ⟨gb258, 0, none⟩) (Kd.R_types HO270.out BK258.out (by decide)) (fun _ hk => hk.2) (.slice Ao273 t271.length co273)) (fun _ h_ => h_.1))) hb); replace HO273 := mk_ (Kd.R_below (by (with_reducible repeat (first | apply Kd.R_alloc | apply Kd.R_drewN | apply Kd.R_drew)); exact (Kd.R_mono (Kd.R_far (p := ⟨gb258, 0, none⟩) (Kd.R_types HO273.out BK258.out (by decide)) (fun _ hk => hk.2) (.slice Ao273 t271.length co273)) (fun _ h_ => h_.1))) hb); replace BK250 := mk_ (blk_below (g := gb250) (o := .cells #[.slice A0_0 l0_0.length c0_0] 31 (0, 0)) bf_ hb); replace BK251 := mk_ (blk_below (g := gb251) (o := .cells #[.int .i64 a1_0, .string a1_1, .string a1_2, .string a1_3] 35 (0, 0)) bf_ hb); replace BK252 := mk_ (blk_below (g := gb252) (o := .cells #[.slice none 0 0] 31 (0, 0)) bf_ hb); replace BK256 := mk_ (blk_below (g := gb256) (o := .cells #[.string a1_3, .string x257001_59, .int .i64 x257002_59] 76 (0, 0)) bf_ hb); replace BK258 := mk_ (blk_below (g := gb258) (o := .cells #[.slice Ao273 t271.length co273] 31 (0, 0)) bu_ hb); replace HB := bs_ HB hb; (try clear hb); (try clear hk); have hnb279 := NB252_250.out; have hnc279 := NB250_252.out; obtain ⟨hcz280_0, hfz280_0⟩ := b1_ BK252))
              refine bodyPost_ret (results_ct rfl _ _ gb252 31 #[.slice none 0 0] (0, 0) _ rfl bu_ Try.underlying31 rfl (by kernel_rfl)) rfl ?_
              exact ⟨_, er_, by first | exact Kd.R_nil _ _ _ _ _ | exact Kd.N_nil _ _ _ _ _ | exact Kd.V_nil _ _ _ _ _ | exact Kd.Q_nil _ _ _ _ _ | exact Kd.S_nil _ _ _ _ _, bw_ HB⟩
         ·rw [if_neg c188] at H
          have c188b0 : (a1_0 == 3) = false := beq_eq_false_iff_ne.mpr c188
          have c188b1 : (a1_0 != 3) = true := bne_iff_ne.mpr c188
          by_cases c281 : a1_0 = 4
          ·rw [if_pos c281] at H
           have c281b0 : (a1_0 == 4) = true := beq_iff_eq.mpr c281
           have c281b1 : (a1_0 != 4) = false := bne_eq_false_iff_eq.mpr c281
           clear c281
           replace H := Option.bind_eq_some_iff.mp H
           obtain ⟨t275, A2820, H⟩ := H
           replace H : ((spec_DiskOk.f kj59 t275).bind fun t278 => (if t278 = true then (some (t275, true)) else (some (([] : List (S76)), false)))) = some (r1, r2) := H
           have A282 := Aside0.mk A2820
           clear A2820
           replace H := Option.bind_eq_some_iff.mp H
           obtain ⟨t278, A2830, H⟩ := H
           replace H : (if t278 = true then (some (t275, true)) else (some (([] : List (S76)), false))) = some (r1, r2) := H
           have A283 := Aside0.mk A2830
           clear A2830
           by_cases c284 : t278 = true
           ·subst c284
            have H1 : (some (t275, true)) = some (r1, r2) := by rw [if_pos rfl] at H; exact H
            clear H
            have H := H1
            clear H1
            simp only [Option.some.injEq, Prod.mk.injEq] at H
            obtain ⟨rfl, rfl⟩ := H
            go_wp2_with (first | ((with_reducible refine gate_dst (N := 8) rfl ?_); refine bx_ (N := 8) (cs := #[.slice none 0 0]) (t := 31) ?_; intro gb258 hg w285 hbox hb; have BK258 := mk_ (hbox); have GW258 : Aside0 (w.heap.size ≤ gb258) := bz_ hg; have GE258 := GW258; have NB250_258 := bl_ BK250 hg; have NB258_250 := bg_ BK250 hg; have NB251_258 := bl_ BK251 hg; have NB258_251 := bg_ BK251 hg; have NB252_258 := bl_ BK252 hg; have NB258_252 := bg_ BK252 hg; have NB256_258 := bl_ BK256 hg; have NB258_256 := bg_ BK256 hg; replace BK250 := bb_ BK250 hb; replace BK251 := bb_ BK251 hb; replace BK252 := bb_ BK252 hb; replace BK256 := bb_ BK256 hb; replace HB := bs_ HB hb; clear hb hbox hg; have hnb286 := NB258_250.out; have hnc286 := NB250_258.out; have hnb287 := NB258_251.out; have hnc287 := NB251_258.out; have hnb288 := NB258_252.out; have hnc288 := NB252_258.out; have hnb289 := NB258_256.out; have hnc289 := NB256_258.out; obtain ⟨hcz290_0, hfz290_0⟩ := b1_ BK258; have hnb291 := NB251_250.out; have hnc291 := NB250_251.out; have hnb292 := NB251_252.out; have hnc292 := NB252_251.out; have hnb293 := NB251_256.out; have hnc293 := NB256_251.out; obtain ⟨hcz294_0, hcz294_1, hcz294_2, hcz294_3, hfz294_0, hfz294_1, hfz294_2, hfz294_3⟩ := b4_ BK251; have hnb295 := NB250_252.out; have hnc295 := NB252_250.out; have hnb296 := NB250_256.out; have hnc296 := NB256_250.out; obtain ⟨hcz297_0, hfz297_0⟩ := b1_ BK250) | ((with_reducible refine gate_callee (f := 42) rfl ?_); refine goesL_ (some 123) rfl rfl Try.func42 (by kernel_rfl) rfl #[.agg #[.slice A0_0 l0_0.length c0_0], .string a1_1] rfl ga_ ?_; (with_reducible refine (spec_l03Without.calls kj59 _ _ l0_0 a1_1 t275 _ ?side1 ?side2 A282.out).mono ?_); (case side1 => exact Kd.C_below HR0_0.out (bw_ HB)); (case side2 => exact HC0_0.out); rintro e w298 ⟨v276, rfl, ho0, hb⟩; refine ⟨_, rfl, ?_⟩; have HO277 := mk_ (Kd.R_lower (Kd.R_newB ho0 (g := gb256) (o := .cells #[.string x257000_59, .string x257001_59, .int .i64 x257002_59] 76 (0, 0)) bf_) (below_size (bw_ HB))); replace BK250 := mk_ (blk_below (g := gb250) (o := .cells #[.slice A0_0 l0_0.length c0_0] 31 (0, 0)) bf_ hb); replace BK251 := mk_ (blk_below (g := gb251) (o := .cells #[.int .i64 a1_0, .string a1_1, .string a1_2, .string a1_3] 35 (0, 0)) bf_ hb); replace BK252 := mk_ (blk_below (g := gb252) (o := .cells #[.slice none 0 0] 31 (0, 0)) bf_ hb); replace BK256 := mk_ (blk_below (g := gb256) (o := .cells #[.string x257000_59, .string x257001_59, .int .i64 x257002_59] 76 (0, 0)) bf_ hb); replace BK258 := mk_ (blk_below (g := gb258) (o := .cells #[.slice none 0 0] 31 (0, 0)) bu_ hb); replace HB := bs_ HB hb; (try clear hb); (try clear hk); (try clear ho0); obtain ⟨Ao299, co299, eo299⟩ := Kd.R_slice HO277.out; subst eo299; obtain ⟨hcz300_0, hfz300_0⟩ := b1_ BK258) | ((with_reducible refine gate_callee (f := 38) rfl ?_); refine goesL_ (some 125) rfl rfl Try.func38 (by kernel_rfl) rfl #[.agg #[.slice Ao299 t275.length co299]] rfl ga_ ?_; (with_reducible refine (spec_DiskOk.calls kj59 _ _ t275 true _ ?side1 ?side2 A283.out).mono ?_); (case side1 => refine (Kd.R_reads' (e := 76) (base := w.heap.size) (ok := fun k_ => (True ∧ k_ ≠ gb256)) (n := t275.length) (c := co299) ?_).2.2; exact (by (with_reducible repeat (first | apply Kd.R_alloc | apply Kd.R_drewN | apply Kd.R_drew)); exact (Kd.R_mono (Kd.R_far (p := ⟨gb258, 0, none⟩) (Kd.R_types HO277.out BK258.out (by decide)) (fun _ hk => hk.2) (.slice Ao299 t275.length co299)) (fun _ h_ => h_.1)))); (case side2 => exact (Kd.R_reads' HO277.out).2.1); rintro e w301 ⟨rfl, hb⟩; refine ⟨_, rfl, ?_⟩; replace HO277 := mk_ (Kd.R_below (by (with_reducible repeat (first | apply Kd.R_alloc | apply Kd.R_drewN | apply Kd.R_drew)); exact (Kd.R_mono (Kd.R_far (p := ⟨gb258, 0, none⟩) (Kd.R_types HO277.out BK258.out (by decide)) (fun _ hk => hk.2) (.slice Ao299 t275.length co299)) (fun _ h_ => h_.1))) hb); replace BK250 := mk_ (blk_below (g := gb250) (o := .cells #[.slice A0_0 l0_0.length c0_0] 31 (0, 0)) bf_ hb); replace BK251 := mk_ (blk_below (g := gb251) (o := .cells #[.int .i64 a1_0, .string a1_1, .string a1_2, .string a1_3] 35 (0, 0)) bf_ hb); replace BK252 := mk_ (blk_below (g := gb252) (o := .cells #[.slice none 0 0] 31 (0, 0)) bf_ hb); replace BK256 := mk_ (blk_below (g := gb256) (o := .cells #[.string x257000_59, .string x257001_59, .int .i64 x257002_59] 76 (0, 0)) bf_ hb); replace BK258 := mk_ (blk_below (g := gb258) (o := .cells #[.slice Ao299 t275.length co299] 31 (0, 0)) bu_ hb); replace HB := bs_ HB hb; (try clear hb); (try clear hk); obtain ⟨hcz302_0, hfz302_0⟩ := b1_ BK258; have hnb303 := NB252_256.out; have hnc303 := NB256_252.out; obtain ⟨hcz304_0, hfz304_0⟩ := b1_ BK252))
            refine bodyPost_ret (results_ct rfl _ _ gb252 31 #[.slice Ao299 t275.length co299] (0, 0) _ rfl bu_ Try.underlying31 rfl (by kernel_rfl)) rfl ?_
            exact ⟨_, er_, by (with_reducible repeat (first | apply Kd.R_alloc | apply Kd.R_drewN | apply Kd.R_drew)); exact Kd.R_mono (Kd.R_far (p := ⟨gb252, 0, none⟩) (Kd.R_types HO277.out BK252.out (by decide)) (fun _ hk => hk.2) (.slice Ao299 t275.length co299)) (fun _ hk => trivial), bw_ HB⟩
           ·replace c284 := Bool.eq_false_iff.mpr c284
            subst c284
            have H1 : (some (([] : List (S76)), false)) = some (r1, r2) := by rw [if_neg (show ¬ (false = true) by decide)] at H; exact H
            clear H
            have H := H1
            clear H1
            simp only [Option.some.injEq, Prod.mk.injEq] at H
            obtain ⟨rfl, rfl⟩ := H
            go_wp2_with (first | ((with_reducible refine gate_dst (N := 8) rfl ?_); refine bx_ (N := 8) (cs := #[.slice none 0 0]) (t := 31) ?_; intro gb258 hg w305 hbox hb; have BK258 := mk_ (hbox); have GW258 : Aside0 (w.heap.size ≤ gb258) := bz_ hg; have GE258 := GW258; have NB250_258 := bl_ BK250 hg; have NB258_250 := bg_ BK250 hg; have NB251_258 := bl_ BK251 hg; have NB258_251 := bg_ BK251 hg; have NB252_258 := bl_ BK252 hg; have NB258_252 := bg_ BK252 hg; have NB256_258 := bl_ BK256 hg; have NB258_256 := bg_ BK256 hg; replace BK250 := bb_ BK250 hb; replace BK251 := bb_ BK251 hb; replace BK252 := bb_ BK252 hb; replace BK256 := bb_ BK256 hb; replace HB := bs_ HB hb; clear hb hbox hg; have hnb306 := NB258_250.out; have hnc306 := NB250_258.out; have hnb307 := NB258_251.out; have hnc307 := NB251_258.out; have hnb308 := NB258_252.out; have hnc308 := NB252_258.out; have hnb309 := NB258_256.out; have hnc309 := NB256_258.out; obtain ⟨hcz310_0, hfz310_0⟩ := b1_ BK258; have hnb311 := NB251_250.out; have hnc311 := NB250_251.out; have hnb312 := NB251_252.out; have hnc312 := NB252_251.out; have hnb313 := NB251_256.out; have hnc313 := NB256_251.out; obtain ⟨hcz314_0, hcz314_1, hcz314_2, hcz314_3, hfz314_0, hfz314_1, hfz314_2, hfz314_3⟩ := b4_ BK251; have hnb315 := NB250_252.out; have hnc315 := NB252_250.out; have hnb316 := NB250_256.out; have hnc316 := NB256_250.out; obtain ⟨hcz317_0, hfz317_0⟩ := b1_ BK250) | ((with_reducible refine gate_callee (f := 42) rfl ?_); refine goesL_ (some 123) rfl rfl Try.func42 (by kernel_rfl) rfl #[.agg #[.slice A0_0 l0_0.length c0_0], .string a1_1] rfl ga_ ?_; (with_reducible refine (spec_l03Without.calls kj59 _ _ l0_0 a1_1 t275 _ ?side1 ?side2 A282.out).mono ?_); (case side1 => exact Kd.C_below HR0_0.out (bw_ HB)); (case side2 => exact HC0_0.out); rintro e w318 ⟨v276, rfl, ho0, hb⟩; refine ⟨_, rfl, ?_⟩; have HO277 := mk_ (Kd.R_lower (Kd.R_newB ho0 (g := gb256) (o := .cells #[.string x257000_59, .string x257001_59, .int .i64 x257002_59] 76 (0, 0)) bf_) (below_size (bw_ HB))); replace BK250 := mk_ (blk_below (g := gb250) (o := .cells #[.slice A0_0 l0_0.length c0_0] 31 (0, 0)) bf_ hb); replace BK251 := mk_ (blk_below (g := gb251) (o := .cells #[.int .i64 a1_0, .string a1_1, .string a1_2, .string a1_3] 35 (0, 0)) bf_ hb); replace BK252 := mk_ (blk_below (g := gb252) (o := .cells #[.slice none 0 0] 31 (0, 0)) bf_ hb); replace BK256 := mk_ (blk_below (g := gb256) (o := .cells #[.string x257000_59, .string x257001_59, .int .i64 x257002_59] 76 (0, 0)) bf_ hb); replace BK258 := mk_ (blk_below (g := gb258) (o := .cells #[.slice none 0 0] 31 (0, 0)) bu_ hb); replace HB := bs_ HB hb; (try clear hb); (try clear hk); (try clear ho0); obtain ⟨Ao319, co319, eo319⟩ := Kd.R_slice HO277.out; subst eo319; obtain ⟨hcz320_0, hfz320_0⟩ := b1_ BK258) | ((with_reducible refine gate_callee (f := 38) rfl ?_); refine goesL_ (some 125) rfl rfl Try.func38 (by kernel_rfl) rfl #[.agg #[.slice Ao319 t275.length co319]] rfl ga_ ?_; (with_reducible refine (spec_DiskOk.calls kj59 _ _ t275 false _ ?side1 ?side2 A283.out).mono ?_); (case side1 => refine (Kd.R_reads' (e := 76) (base := w.heap.size) (ok := fun k_ => (True ∧ k_ ≠ gb256)) (n := t275.length) (c := co319) ?_).2.2; exact (by (with_reducible repeat (first | apply Kd.R_alloc | apply Kd.R_drewN | apply Kd.R_drew)); exact (Kd.R_mono (Kd.R_far (p := ⟨gb258, 0, none⟩) (Kd.R_types HO277.out BK258.out (by decide)) (fun _ hk => hk.2) (.slice Ao319 t275.length co319)) (fun _ h_ => h_.1)))); (case side2 => exact (Kd.R_reads' HO277.out).2.1); rintro e w321 ⟨rfl, hb⟩; refine ⟨_, rfl, ?_⟩; replace HO277 := mk_ (Kd.R_below (by (with_reducible repeat (first | apply Kd.R_alloc | apply Kd.R_drewN | apply Kd.R_drew)); exact (Kd.R_mono (Kd.R_far (p := ⟨gb258, 0, none⟩) (Kd.R_types HO277.out BK258.out (by decide)) (fun _ hk => hk.2) (.slice Ao319 t275.length co319)) (fun _ h_ => h_.1))) hb); replace BK250 := mk_ (blk_below (g := gb250) (o := .cells #[.slice A0_0 l0_0.length c0_0] 31 (0, 0)) bf_ hb); replace BK251 := mk_ (blk_below (g := gb251) (o := .cells #[.int .i64 a1_0, .string a1_1, .string a1_2, .string a1_3] 35 (0, 0)) bf_ hb); replace BK252 := mk_ (blk_below (g := gb252) (o := .cells #[.slice none 0 0] 31 (0, 0)) bf_ hb); replace BK256 := mk_ (blk_below (g := gb256) (o := .cells #[.string x257000_59, .string x257001_59, .int .i64 x257002_59] 76 (0, 0)) bf_ hb); replace BK258 := mk_ (blk_below (g := gb258) (o := .cells #[.slice Ao319 t275.length co319] 31 (0, 0)) bu_ hb); replace HB := bs_ HB hb; (try clear hb); (try clear hk); have hnb322 := NB252_256.out; have hnc322 := NB256_252.out; obtain ⟨hcz323_0, hfz323_0⟩ := b1_ BK252))
            refine bodyPost_ret (results_ct rfl _ _ gb252 31 #[.slice none 0 0] (0, 0) _ rfl bu_ Try.underlying31 rfl (by kernel_rfl)) rfl ?_
            exact ⟨_, er_, by first | exact Kd.R_nil _ _ _ _ _ | exact Kd.N_nil _ _ _ _ _ | exact Kd.V_nil _ _ _ _ _ | exact Kd.Q_nil _ _ _ _ _ | exact Kd.S_nil _ _ _ _ _, bw_ HB⟩
          ·rw [if_neg c281] at H
           have c281b0 : (a1_0 == 4) = false := beq_eq_false_iff_ne.mpr c281
           have c281b1 : (a1_0 != 4) = true := bne_iff_ne.mpr c281
           simp only [Option.some.injEq, Prod.mk.injEq] at H
           obtain ⟨rfl, rfl⟩ := H
           go_wp2_with (first | ((with_reducible refine gate_dst (N := 8) rfl ?_); refine bx_ (N := 8) (cs := #[.slice none 0 0]) (t := 31) ?_; intro gb258 hg w324 hbox hb; have BK258 := mk_ (hbox); have GW258 : Aside0 (w.heap.size ≤ gb258) := bz_ hg; have GE258 := GW258; have NB250_258 := bl_ BK250 hg; have NB258_250 := bg_ BK250 hg; have NB251_258 := bl_ BK251 hg; have NB258_251 := bg_ BK251 hg; have NB252_258 := bl_ BK252 hg; have NB258_252 := bg_ BK252 hg; have NB256_258 := bl_ BK256 hg; have NB258_256 := bg_ BK256 hg; replace BK250 := bb_ BK250 hb; replace BK251 := bb_ BK251 hb; replace BK252 := bb_ BK252 hb; replace BK256 := bb_ BK256 hb; replace HB := bs_ HB hb; clear hb hbox hg; have hnb325 := NB258_250.out; have hnc325 := NB250_258.out; have hnb326 := NB258_251.out; have hnc326 := NB251_258.out; have hnb327 := NB258_252.out; have hnc327 := NB252_258.out; have hnb328 := NB258_256.out; have hnc328 := NB256_258.out; obtain ⟨hcz329_0, hfz329_0⟩ := b1_ BK258; have hnb330 := NB251_250.out; have hnc330 := NB250_251.out; have hnb331 := NB251_252.out; have hnc331 := NB252_251.out; have hnb332 := NB251_256.out; have hnc332 := NB256_251.out; obtain ⟨hcz333_0, hcz333_1, hcz333_2, hcz333_3, hfz333_0, hfz333_1, hfz333_2, hfz333_3⟩ := b4_ BK251; have hnb334 := NB252_250.out; have hnc334 := NB250_252.out; have hnb335 := NB252_256.out; have hnc335 := NB256_252.out; obtain ⟨hcz336_0, hfz336_0⟩ := b1_ BK252))
           refine bodyPost_ret (results_ct rfl _ _ gb252 31 #[.slice none 0 0] (0, 0) _ rfl bu_ Try.underlying31 rfl (by kernel_rfl)) rfl ?_
           exact ⟨_, er_, by first | exact Kd.R_nil _ _ _ _ _ | exact Kd.N_nil _ _ _ _ _ | exact Kd.V_nil _ _ _ _ _ | exact Kd.Q_nil _ _ _ _ _ | exact Kd.S_nil _ _ _ _ _, bw_ HB⟩

end Go.Proofs.Ythbaoefbccdioaa.QFnExactCutActs
