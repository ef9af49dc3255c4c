/- Written by this session's own program (wip/tpl/pp.py): what the law's functions come to, and that the machine's calls do just that. -/
import Derived.Test.YthbaoefbccdioaaTMPack
import Derived.Test.YthbaoefbccdioaaQFnActsx0
import Derived.Test.YthbaoefbccdioaaQFnActsx4
namespace Go.Proofs.Ythbaoefbccdioaa.QFnActs
open Go.RowKit Go.Proofs.YthbaoefbccdioaaW.PrintWords Go.Proofs.YthbaoefbccdioaaW.PrintLast Go.Proofs.YthbaoefbccdioaaW.PrintMore
attribute [local go_sem] Go.Proofs.Ythbaoefbccdioaa.Sem.string_geq Go.Proofs.Ythbaoefbccdioaa.Sem.string_leq Go.Proofs.Ythbaoefbccdioaa.Sem.string_gtr
attribute [local go_sem] max2_int min2_int max_two min_two max_three min_three max_four min_four   -- for this text's walks alone
set_option linter.unusedVariables false
set_option linter.unusedSimpArgs false

/-! ### spec_LoseDisk: function 62 -/
mutual
def spec_LoseDisk.l0 : Nat → List Int → Int → List (S76) → List (S76) → Option ((List (S76)) × Bool)
 | 0, _, _, _, _ => none
 | k + 1, x1, x7, x455000, x458000 => if x7 < (x455000.length : Int) then (if 0 ≤ x7 then (if x7 < (x1.length : Int) then (spec_LoseDisk.j1 k x1 x7 (rd x1 x7) x455000 x458000 ((rd_T76 x455000 x7).f0) ((rd_T76 x455000 x7).f1) ((rd_T76 x455000 x7).f2)) else (spec_LoseDisk.j1 k x1 x7 0 x455000 x458000 ((rd_T76 x455000 x7).f0) ((rd_T76 x455000 x7).f1) ((rd_T76 x455000 x7).f2))) else (none)) else (some (x458000, true))
def spec_LoseDisk.j1 : Nat → List Int → Int → Int → List (S76) → List (S76) → ByteArray → ByteArray → Int → Option ((List (S76)) × Bool)
 | 0, _, _, _, _, _, _, _, _ => none
 | k + 1, x1, x7, x9, x455000, x458000, x460000, x460001, x460002 => if x9 > (x460001.size : Int) then (if (x460001.size : Int) < x460002 then (if 0 ≤ x460002 then (if x460002 ≤ (x460001.size : Int) then (if x458000.length < 3518437208883 then (spec_LoseDisk.l0 k x1 (wrap64 (x7 + 1)) x455000 (x458000 ++ [(⟨x460000, x460001.extract 0 (x460002 : Int).toNat, x460002⟩ : S76)])) else (none)) else (none)) else (none)) else (if 0 ≤ (x460001.size : Int) then (if (x460001.size : Int) ≤ (x460001.size : Int) then (if x458000.length < 3518437208883 then (spec_LoseDisk.l0 k x1 (wrap64 (x7 + 1)) x455000 (x458000 ++ [(⟨x460000, x460001.extract 0 ((x460001.size : Int) : Int).toNat, (x460001.size : Int)⟩ : S76)])) else (none)) else (none)) else (none))) else (if x9 < x460002 then (if 0 ≤ x460002 then (if x460002 ≤ (x460001.size : Int) then (if x458000.length < 3518437208883 then (spec_LoseDisk.l0 k x1 (wrap64 (x7 + 1)) x455000 (x458000 ++ [(⟨x460000, x460001.extract 0 (x460002 : Int).toNat, x460002⟩ : S76)])) else (none)) else (none)) else (none)) else (if 0 ≤ x9 then (if x9 ≤ (x460001.size : Int) then (if x458000.length < 3518437208883 then (spec_LoseDisk.l0 k x1 (wrap64 (x7 + 1)) x455000 (x458000 ++ [(⟨x460000, x460001.extract 0 (x9 : Int).toNat, x9⟩ : S76)])) else (none)) else (none)) else (none)))
end
def spec_LoseDisk.f (k : Nat) (l0_0 : List (S76)) (l1 : List Int) : Option ((List (S76)) × Bool) := (spec_DiskOk.f k l0_0).bind fun t456 => (if t456 = true then (spec_LoseDisk.l0 k l1 0 l0_0 ([] : List (S76))) else (some (([] : List (S76)), false)))
theorem spec_LoseDisk.mono_l : ∀ k, (∀ y0 y1 y2 y3, LeO (spec_LoseDisk.l0 k y0 y1 y2 y3) (spec_LoseDisk.l0 (k + 1) y0 y1 y2 y3)) ∧ (∀ y0 y1 y2 y3 y4 y5 y6 y7, LeO (spec_LoseDisk.j1 k y0 y1 y2 y3 y4 y5 y6 y7) (spec_LoseDisk.j1 (k + 1) y0 y1 y2 y3 y4 y5 y6 y7))
 | 0 => ⟨fun _ _ _ _ r h => by simp [spec_LoseDisk.l0] at h, fun _ _ _ _ _ _ _ _ r h => by simp [spec_LoseDisk.j1] at h⟩
 | k + 1 => by
  obtain ⟨ih0, ih1⟩ := spec_LoseDisk.mono_l k
  refine ⟨?_, ?_⟩
  ·intro y0 y1 y2 y3
   unfold spec_LoseDisk.l0
   repeat' first
   | (with_reducible exact ih1 _ _ _ _ _ _ _ _)
   | (with_reducible exact LeO.refl _)
   | (with_reducible refine LeO.ite ?_ ?_)
  ·intro y0 y1 y2 y3 y4 y5 y6 y7
   unfold spec_LoseDisk.j1
   repeat' first
   | (with_reducible exact ih0 _ _ _ _)
   | (with_reducible exact LeO.refl _)
   | (with_reducible refine LeO.ite ?_ ?_)
theorem spec_LoseDisk.mono : ∀ a0 a1 k, LeO (spec_LoseDisk.f k a0 a1) (spec_LoseDisk.f (k + 1) a0 a1) := by
 intro a0 a1 k
 obtain ⟨ih0, ih1⟩ := spec_LoseDisk.mono_l k
 unfold spec_LoseDisk.f
 repeat' first
   | (with_reducible exact ih0 _ _ _ _)
   | (with_reducible exact spec_DiskOk.mono _ _)
   | (with_reducible exact LeO.refl _)
   | (with_reducible refine LeO.ite ?_ ?_)
   | (with_reducible refine LeO.bind ?_ (fun _ => ?_))
def spec_LoseDisk.T15 : Bool × List (List Nat × List Nat) := (true, [([], []), ([0], [0]), ([], []), ([2], [2]), ([], []), ([4], [4]), ([], []), ([5, 6], [5, 6]), ([], []), ([3, 7, 8], [3, 7, 8]), ([9], [9]), ([1, 10], [1, 10]), ([0, 1, 2, 3, 4, 5, 6, 7, 8, 9, 10, 11], []), ([12, 11, 11, 0, 1, 2, 3, 4, 5, 6, 7, 8, 9, 10, 11], [11, 12])])
def spec_LoseDisk.B15 : List Nat := [0, 1, 0, 4, 0, 16, 0, 112, 0, 508, 1020, 2047, 4095, 8191]
theorem spec_LoseDisk.tab15 : rtab .any (opsOf Try.f62 15) = spec_LoseDisk.T15 := by kernel_rfl
theorem spec_LoseDisk.bits15 : waitsOk spec_LoseDisk.T15.2 spec_LoseDisk.B15 = true := by kernel_rfl
set_option maxHeartbeats 8000000 in
set_option maxRecDepth 100000 in
theorem spec_LoseDisk.calls (k : Nat) (A0_0 : Option Addr) (c0_0 : Nat) (l0_0 : List (S76)) (A1 : Option Addr) (c1 : Nat) (l1 : List Int) (r1 : List (S76)) (r2 : Bool) (w : World) (hr0_0 : Kd.C k76 w A0_0 l0_0.length l0_0) (hc0_0 : l0_0.length ≤ c0_0) (hr1 : Kd.C (Kd.int .i64) w A1 l1.length l1) (hc1 : l1.length ≤ c1) (h : spec_LoseDisk.f k l0_0 l1 = some (r1, r2)) :
  Calls Try.prog 62 #[.agg #[.slice A0_0 l0_0.length c0_0], .slice A1 l1.length c1] w fun e w' => ∃ v0_ : Value, e = .returned (.tuple #[.agg #[v0_], .bool r2]) ∧ Kd.R k76 76 w' w.heap.size (fun _ => True) v0_ r1 ∧ Below w.heap.size w w' := by
 have hu31 := Try.underlying31
 have hu76 := Try.underlying76
 have HR0_0 := Aside0.mk hr0_0
 have HC0_0 := Aside0.mk hc0_0
 clear hr0_0 hc0_0
 have HR1 := Aside0.mk hr1
 have HC1 := Aside0.mk hc1
 clear hr1 hc1
 have HB := mk_ (Below.refl w.heap.size w)
 have H : ((spec_DiskOk.f k l0_0).bind fun t456 => (if t456 = true then (spec_LoseDisk.l0 k l1 0 l0_0 ([] : List (S76))) else (some (([] : List (S76)), false)))) = some (r1, r2) := h
 clear h
 replace H := Option.bind_eq_some_iff.mp H
 obtain ⟨t456, A30, H⟩ := H
 try dsimp only at H
 have A3 := Aside0.mk A30
 clear A30
 by_cases c4 : t456 = true
 rotate_left
 ·replace c4 := Bool.eq_false_iff.mpr c4
  subst c4
  rw [if_neg (show ¬ (false = true) by decide)] at H
  simp only [Option.some.injEq, Prod.mk.injEq] at H
  obtain ⟨rfl, rfl⟩ := H
  go_enter Try.func62, Try.ntmps62
  go_wp2_with (first | ((with_reducible refine gate_dst (N := 2) rfl ?_); refine bx_ (N := 2) (cs := #[.slice A0_0 l0_0.length c0_0]) (t := 31) ?_; intro gb454 hg w80 hbox hb; have BK454 := mk_ (hbox); have GW454 : Aside0 (w.heap.size ≤ gb454) := bz_ hg; have GE454 := GW454; replace HB := bs_ HB hb; clear hb hbox hg) | ((with_reducible refine gate_dst (N := 4) rfl ?_); refine bx_ (N := 4) (cs := #[.slice none 0 0]) (t := 31) ?_; intro gb455 hg w81 hbox hb; have BK455 := mk_ (hbox); have GW455 : Aside0 (w.heap.size ≤ gb455) := bz_ hg; have GE455 := GW455; have NB454_455 := bl_ BK454 hg; have NB455_454 := bg_ BK454 hg; replace BK454 := bb_ BK454 hb; replace HB := bs_ HB hb; clear hb hbox hg; obtain ⟨hnb82, hnc82⟩ := ns_ NB454_455; obtain ⟨hcz83_0, hfz83_0⟩ := b1_ BK454) | ((with_reducible refine gate_callee (f := 38) rfl ?_); refine gl_ 11 Try.func38 #[.agg #[.slice A0_0 l0_0.length c0_0]] ?_; (with_reducible refine (spec_DiskOk.calls k _ _ l0_0 false _ ?side1 ?side2 A3.out).mono ?_); (case side1 => exact cb_ HR0_0 HB); (case side2 => exact HC0_0.out); rintro e w84 ⟨rfl, hb⟩; refine ⟨_, rfl, ?_⟩; replace BK454 := bb_ BK454 hb; replace BK455 := bb_ BK455 hb; replace HB := bs_ HB hb; (try clear hb); obtain ⟨hcz85_0, hfz85_0⟩ := b1_ BK455))
  refine bodyPost_ret (results_ct rfl _ _ gb455 31 #[.slice none 0 0] (0, 0) _ rfl bu_ Try.underlying31 rfl (by kernel_rfl)) rfl ?_
  exact ⟨_, er_, by first | exact Kd.R_nil _ _ _ _ _ | exact Kd.N_nil _ _ _ _ _ | exact Kd.V_nil _ _ _ _ _ | exact Kd.Q_nil _ _ _ _ _ | exact Kd.S_nil _ _ _ _ _, bw_ HB⟩
 subst c4
 rw [if_pos rfl] at H
 have H' := Aside0.mk H
 clear H
 go_enter Try.func62, Try.ntmps62
 go_wp2_with (first | ((with_reducible refine gate_dst (N := 2) rfl ?_); refine bx_ (N := 2) (cs := #[.slice A0_0 l0_0.length c0_0]) (t := 31) ?_; intro gb454 hg w5 hbox hb; have BK454 := mk_ (hbox); have GW454 : Aside0 (w.heap.size ≤ gb454) := bz_ hg; have GE454 := GW454; replace HB := bs_ HB hb; clear hb hbox hg) | ((with_reducible refine gate_dst (N := 4) rfl ?_); refine bx_ (N := 4) (cs := #[.slice none 0 0]) (t := 31) ?_; intro gb455 hg w6 hbox hb; have BK455 := mk_ (hbox); have GW455 : Aside0 (w.heap.size ≤ gb455) := bz_ hg; have GE455 := GW455; have NB454_455 := bl_ BK454 hg; have NB455_454 := bg_ BK454 hg; replace BK454 := bb_ BK454 hb; replace HB := bs_ HB hb; clear hb hbox hg; obtain ⟨hnb7, hnc7⟩ := ns_ NB454_455; obtain ⟨hcz8_0, hfz8_0⟩ := b1_ BK454) | ((with_reducible refine gate_callee (f := 38) rfl ?_); refine gl_ 11 Try.func38 #[.agg #[.slice A0_0 l0_0.length c0_0]] ?_; (with_reducible refine (spec_DiskOk.calls k _ _ l0_0 true _ ?side1 ?side2 A3.out).mono ?_); (case side1 => exact cb_ HR0_0 HB); (case side2 => exact HC0_0.out); rintro e w9 ⟨rfl, hb⟩; refine ⟨_, rfl, ?_⟩; replace BK454 := bb_ BK454 hb; replace BK455 := bb_ BK455 hb; replace HB := bs_ HB hb; (try clear hb)) | ((with_reducible refine gate_dst (N := 6) rfl ?_); refine bx_ (N := 6) (cs := #[.slice none 0 0]) (t := 31) ?_; intro gb457 hg w10 hbox hb; have BK457 := mk_ (hbox); have GW457 : Aside0 (w.heap.size ≤ gb457) := bz_ hg; have GE457 := GW457; have NB454_457 := bl_ BK454 hg; have NB457_454 := bg_ BK454 hg; have NB455_457 := bl_ BK455 hg; have NB457_455 := bg_ BK455 hg; replace BK454 := bb_ BK454 hb; replace BK455 := bb_ BK455 hb; replace HB := bs_ HB hb; clear hb hbox hg; obtain ⟨hnb11, hnc11⟩ := ns_ NB457_454; obtain ⟨hnb12, hnc12⟩ := ns_ NB457_455; obtain ⟨hcz13_0, hfz13_0⟩ := b1_ BK457))
 go_loopg [7] k (fun kq v7 w' => ∃ (x7_1 : Int) (x458000_1 : List (S76)) (u458000 : Value), v7 = .int .i64 x7_1 ∧ Aside0 (spec_LoseDisk.l0 kq l1 x7_1 l0_0 x458000_1 = some (r1, r2)) ∧ Aside0 (kq ≤ k) ∧ Aside0 (Kd.R k76 76 w' w.heap.size (fun _ => True) u458000 x458000_1) ∧ Aside0 (w'.heap[gb454]? = some (.cells #[(.slice A0_0 l0_0.length c0_0)] 31 (0, 0))) ∧ Aside0 (w'.heap[gb455]? = some (.cells #[(.slice none 0 0)] 31 (0, 0))) ∧ Aside0 (w'.heap[gb457]? = some (.cells #[u458000] 31 (0, 0))) ∧ Aside0 (Below w.heap.size w w'))
 case atStart => exact ⟨(0), (([] : List (S76))), (.slice none 0 0), (by first | rfl | (simp; done) | (simp [*]; done) | (simp [bne]; done)), H', ⟨Nat.le_refl _⟩, ⟨by first | exact Kd.R_nil _ _ _ _ _ | exact Kd.N_nil _ _ _ _ _ | exact Kd.V_nil _ _ _ _ _ | exact Kd.Q_nil _ _ _ _ _ | exact Kd.S_nil _ _ _ _ _⟩, ⟨bf_⟩, ⟨bf_⟩, ⟨bu_⟩, ⟨bw_ HB⟩⟩
 case round =>
  clear H'
  (try clear c1); (try clear p2); (try clear c3); (try clear c4); (try clear c6); (try clear c7); (try clear c11); (try clear c12); (try clear hcz13_0); (try clear hcz8_0); (try clear hfz13_0); (try clear hfz8_0)
  obtain ⟨x7_1, x458000_1, u458000, rfl, HA, HK1, HO_458000, BK454, BK455, BK457, HB⟩ := hrel
  cases gk with
  | zero => exact absurd HA.out (by simp [spec_LoseDisk.l0])
  | succ k1 =>
   have H := HA.out
   clear HA
   simp only [spec_LoseDisk.l0] at H
   by_cases c14 : x7_1 < (l0_0.length : Int)
   rotate_left
   ·rw [if_neg c14] at H
    have c14b0 : decide (x7_1 < (l0_0.length : Int)) = false := decide_eq_false c14
    clear c14
    simp only [Option.some.injEq, Prod.mk.injEq] at H
    obtain ⟨rfl, rfl⟩ := H
    obtain ⟨hnb73, hnc73⟩ := ns_ NB454_455
    obtain ⟨hnb74, hnc74⟩ := ns_ NB454_457
    have hcz75_0 : wr.cell? ⟨gb454, 0, none⟩ = some (.slice A0_0 l0_0.length c0_0) := bc_ BK454 0
    have hfz75_0 := blk_frozen BK454.out 0
    obtain ⟨hnb76, hnc76⟩ := ns_ NB457_455
    have hcz77_0 : wr.cell? ⟨gb457, 0, none⟩ = some (u458000) := bc_ BK457 0
    have hfz77_0 := blk_frozen BK457.out 0
    obtain ⟨Ao78, co78, eo78⟩ := Kd.R_slice HO_458000.out
    subst eo78
    have hcz79_0 : wr.cell? ⟨gb455, 0, none⟩ = some (.slice none 0 0) := bc_ BK455 0
    have hfz79_0 := blk_frozen BK455.out 0
    go_wp2
    refine bodyPost_ret (results_ct rfl _ _ gb455 31 #[.slice Ao78 x458000_1.length co78] (0, 0) _ rfl bu_ Try.underlying31 rfl (by kernel_rfl)) rfl ?_
    exact ⟨_, er_, rq_ (rt_ HO_458000 BK455 0 (.slice Ao78 x458000_1.length co78)), bw_ HB⟩
   rw [if_pos c14] at H
   have c14b0 : decide (x7_1 < (l0_0.length : Int)) = true := decide_eq_true c14
   clear c14
   by_cases c15 : 0 ≤ x7_1
   rotate_left
   ·rw [if_neg c15] at H
    exact absurd H (by simp)
   rw [if_pos c15] at H
   have c15b0 : decide (0 ≤ x7_1) = true := decide_eq_true c15
   clear c15
   have HC16 := Aside0.mk H
   clear H
   obtain ⟨hnb17, hnc17⟩ := ns_ NB454_455
   obtain ⟨hnb18, hnc18⟩ := ns_ NB454_457
   have hcz19_0 : wr.cell? ⟨gb454, 0, none⟩ = some (.slice A0_0 l0_0.length c0_0) := bc_ BK454 0
   have hfz19_0 := blk_frozen BK454.out 0
   have p458 : 0 ≤ (x7_1 : Int) := od_
   have q458 : x7_1 < (l0_0.length : Int) := od_
   obtain ⟨ad458, e458, hx458_0, hx458_1, hx458_2⟩ := at_T76 HR0_0.out x7_1 p458 q458
   cases e458
   replace hx458_0 := hc_ HB hx458_0
   replace hx458_1 := hc_ HB hx458_1
   replace hx458_2 := hc_ HB hx458_2
   replace p458 := eq_true p458
   replace q458 := eq_true q458
   go_upto_if 30 with (first | ((with_reducible refine gate_dst (N := 8) rfl ?_); refine bx_ (N := 8) (cs := #[.string (⟨#[]⟩ : ByteArray), .string (⟨#[]⟩ : ByteArray), .int .i64 0]) (t := 76) ?_; intro gb459 hg w20 hbox hb; have BK459 := mk_ (hbox); have GW459 : Aside0 (w.heap.size ≤ gb459) := bz_ hg; have GE459 := GW459; have NB454_459 := bl_ BK454 hg; have NB459_454 := bg_ BK454 hg; have NB455_459 := bl_ BK455 hg; have NB459_455 := bg_ BK455 hg; have NB457_459 := bl_ BK457 hg; have NB459_457 := bg_ BK457 hg; replace HO_458000 := mk_ (Kd.R_below (Kd.R_elderB (rp_ HO_458000) gb459 (Nat.le_of_eq hg.symm)) hb); replace BK454 := bb_ BK454 hb; replace BK455 := bb_ BK455 hb; replace BK457 := bb_ BK457 hb; replace HB := bs_ HB hb; clear hb hbox hg; obtain ⟨hnb21, hnc21⟩ := ns_ NB459_454; obtain ⟨hnb22, hnc22⟩ := ns_ NB459_455; obtain ⟨hnb23, hnc23⟩ := ns_ NB459_457; obtain ⟨hcz24_0, hcz24_1, hcz24_2, hfz24_0, hfz24_1, hfz24_2⟩ := b3_ BK459))
   (try simp only [Act.put, sia_, scz_, scs_])
   go_cut [9] (fun v9 wc => ∃ (kq : Nat) (x9_15 : Int), v9 = .int .i64 x9_15 ∧ Aside0 (spec_LoseDisk.j1 kq l1 x7_1 x9_15 l0_0 x458000_1 ((rd_T76 l0_0 x7_1).f0) ((rd_T76 l0_0 x7_1).f1) ((rd_T76 l0_0 x7_1).f2) = some (r1, r2)) ∧ Aside0 (kq ≤ k1) ∧ Aside0 (Kd.R k76 76 wc w.heap.size (fun k_ => k_ ≠ gb459) u458000 x458000_1) ∧ Aside0 (wc.heap[gb454]? = some (.cells #[(.slice (some ad458) l0_0.length c0_0)] 31 (0, 0))) ∧ Aside0 (wc.heap[gb455]? = some (.cells #[(.slice none 0 0)] 31 (0, 0))) ∧ Aside0 (wc.heap[gb457]? = some (.cells #[u458000] 31 (0, 0))) ∧ Aside0 (wc.heap[gb459]? = some (.cells #[.string ((rd_T76 l0_0 x7_1).f0), .string ((rd_T76 l0_0 x7_1).f1), .int .i64 ((rd_T76 l0_0 x7_1).f2)] 76 (0, 0))) ∧ Aside0 (Below w.heap.size w wc))
   case first =>
    have H := HC16.out
    clear HC16
    by_cases c25 : x7_1 < (l1.length : Int)
    rotate_left
    ·rw [if_neg c25] at H
     have c25b0 : decide (x7_1 < (l1.length : Int)) = false := decide_eq_false c25
     clear c25
     (first | rw [c25b0] | (simp only [i64_w, i32_w]; rw [c25b0]) | skip)
     have H' := Aside0.mk H
     clear H
     go_wp2
     go_meet
     case rel => exact ⟨_, (0), (by first | rfl | (simp; done) | (simp [*]; done) | (simp [bne]; done)), H', ⟨by have := HK1.out; first | omega | exact Nat.le_refl _⟩, ⟨rq_ (Kd.R_mono (Kd.R_far (p := ⟨gb459, 2, none⟩) (Kd.R_far (p := ⟨gb459, 1, none⟩) (Kd.R_far (p := ⟨gb459, 0, none⟩) (Kd.R_mono HO_458000.out (fun k_ hk => (⟨hk, hk.2⟩ : _ ∧ k_ ≠ gb459))) (fun _ hk => hk.2) (.string ((rd_T76 l0_0 x7_1).f0))) (fun _ hk => hk.2) (.string ((rd_T76 l0_0 x7_1).f1))) (fun _ hk => hk.2) (.int .i64 ((rd_T76 l0_0 x7_1).f2))) (fun _ hk => hk.1.2))⟩, ⟨bf_⟩, ⟨bf_⟩, ⟨bf_⟩, ⟨bu_⟩, ⟨bw_ HB⟩⟩
    rw [if_pos c25] at H
    have c25b0 : decide (x7_1 < (l1.length : Int)) = true := decide_eq_true c25
    clear c25
    (first | rw [c25b0] | (simp only [i64_w, i32_w]; rw [c25b0]) | skip)
    have H' := Aside0.mk H
    clear H
    have p460 : 0 ≤ (x7_1 : Int) := od_
    have q460 : x7_1 < (l1.length : Int) := od_
    obtain ⟨ad460, e460, hx460_0⟩ := Kd.at_int HR1.out x7_1 p460 q460
    cases e460
    have hn460_0 : ad460.block ≠ gb459 := Nat.ne_of_lt (Nat.lt_of_lt_of_le (by have := World.block_lt_of_cell? _ _ hx460_0; first | rwa [add_block] at this | exact this) GW459.out)
    have hn460_1 : ad460.block ≠ gb459 := Nat.ne_of_lt (Nat.lt_of_lt_of_le (by have := World.block_lt_of_cell? _ _ hx460_0; first | rwa [add_block] at this | exact this) GW459.out)
    have hn460_2 : ad460.block ≠ gb459 := Nat.ne_of_lt (Nat.lt_of_lt_of_le (by have := World.block_lt_of_cell? _ _ hx460_0; first | rwa [add_block] at this | exact this) GW459.out)
    replace hx460_0 := hc_ HB hx460_0
    replace hx460_0 := (cell_far (p := ⟨gb459, 0, none⟩) ab_ (.string ((rd_T76 l0_0 x7_1).f0))).trans hx460_0
    replace hx460_0 := (cell_far (p := ⟨gb459, 1, none⟩) ab_ (.string ((rd_T76 l0_0 x7_1).f1))).trans hx460_0
    replace hx460_0 := (cell_far (p := ⟨gb459, 2, none⟩) ab_ (.int .i64 ((rd_T76 l0_0 x7_1).f2))).trans hx460_0
    clear hn460_0; clear hn460_1; clear hn460_2
    replace p460 := eq_true p460
    replace q460 := eq_true q460
    go_wp2
    go_meet
    case rel => exact ⟨_, (rd l1 x7_1), (by first | rfl | (simp; done) | (simp [*]; done) | (simp [bne]; done)), H', ⟨by have := HK1.out; first | omega | exact Nat.le_refl _⟩, ⟨rq_ (Kd.R_mono (Kd.R_far (p := ⟨gb459, 2, none⟩) (Kd.R_far (p := ⟨gb459, 1, none⟩) (Kd.R_far (p := ⟨gb459, 0, none⟩) (Kd.R_mono HO_458000.out (fun k_ hk => (⟨hk, hk.2⟩ : _ ∧ k_ ≠ gb459))) (fun _ hk => hk.2) (.string ((rd_T76 l0_0 x7_1).f0))) (fun _ hk => hk.2) (.string ((rd_T76 l0_0 x7_1).f1))) (fun _ hk => hk.2) (.int .i64 ((rd_T76 l0_0 x7_1).f2))) (fun _ hk => hk.1.2))⟩, ⟨bf_⟩, ⟨bf_⟩, ⟨bf_⟩, ⟨bu_⟩, ⟨bw_ HB⟩⟩
   case rest =>
    clear HC16
    (try clear c1); (try clear c2); (try clear p2); (try clear c3); (try clear c4); (try clear p4); (try clear q4); (try clear hx4); (try clear c6); (try clear c7); (try clear c11); (try clear c12); (try clear c14); (try clear c14b0); (try clear c15); (try clear c15b0); (try clear c17); (try clear c18); (try clear c21); (try clear c22); (try clear c23); (try clear c25); (try clear c25b0); (try clear hcz13_0); (try clear hcz19_0); (try clear hcz24_0); (try clear hcz24_1); (try clear hcz24_2); (try clear hcz8_0); (try clear hfz13_0); (try clear hfz19_0); (try clear hfz24_0); (try clear hfz24_1); (try clear hfz24_2); (try clear hfz8_0); (try clear hx458_0); (try clear hx458_1); (try clear hx458_2); (try clear hx460_0); (try clear p2); (try clear p458); (try clear p460); (try clear q458); (try clear q460)
    obtain ⟨kq, x9_15, rfl, HA, HJ15, HO_458000, BK454, BK455, BK457, BK459, HB⟩ := hcut
    cases kq with
    | zero => exact absurd HA.out (by simp [spec_LoseDisk.j1])
    | succ kj15 =>
     have H := HA.out
     clear HA
     simp only [spec_LoseDisk.j1] at H
     by_cases c26 : x9_15 > (((rd_T76 l0_0 x7_1).f1).size : Int)
     rotate_left
     ·rw [if_neg c26] at H
      have c26b0 : decide ((((rd_T76 l0_0 x7_1).f1).size : Int) < x9_15) = false := decide_eq_false c26
      clear c26
      by_cases c50 : x9_15 < ((rd_T76 l0_0 x7_1).f2)
      rotate_left
      ·rw [if_neg c50] at H
       have c50b0 : decide (x9_15 < ((rd_T76 l0_0 x7_1).f2)) = false := decide_eq_false c50
       clear c50
       by_cases c62 : 0 ≤ x9_15
       rotate_left
       ·rw [if_neg c62] at H
        exact absurd H (by simp)
       rw [if_pos c62] at H
       have c62b0 := eq_true c62
       have c62b1 : decide (0 ≤ x9_15) = true := decide_eq_true c62
       clear c62
       by_cases c63 : x9_15 ≤ (((rd_T76 l0_0 x7_1).f1).size : Int)
       rotate_left
       ·rw [if_neg c63] at H
        exact absurd H (by simp)
       rw [if_pos c63] at H
       have c63b0 := eq_true c63
       have c63b1 : decide (x9_15 ≤ (((rd_T76 l0_0 x7_1).f1).size : Int)) = true := decide_eq_true c63
       clear c63
       by_cases c64 : x458000_1.length < 3518437208883
       rotate_left
       ·rw [if_neg c64] at H
        exact absurd H (by simp)
       rw [if_pos c64] at H
       have LMc64 := Aside0.mk c64
       clear c64
       obtain ⟨y470, hy470⟩ : ∃ y_ : List (S76), y_ = (x458000_1 ++ [(⟨((rd_T76 l0_0 x7_1).f0), ((rd_T76 l0_0 x7_1).f1).extract 0 (x9_15 : Int).toNat, x9_15⟩ : S76)]) := ⟨_, rfl⟩
       replace H : (spec_LoseDisk.l0 kj15 l1 (wrap64 (x7_1 + 1)) l0_0 y470) = some (r1, r2) := by first | (rw [hy470]; with_reducible exact H) | (have H2_ := (Option.bind_some _ _).symm.trans H; rw [hy470]; with_reducible exact H2_) | (have H2_ := (Option.bind_some _ _).symm.trans H; with_reducible exact H2_) | with_reducible exact H | (rw [hy470]; exact H) | exact H
       have Ny470 := Aside0.mk hy470
       clear hy470
       have H' := Aside0.mk H
       clear H
       obtain ⟨hnb65, hnc65⟩ := ns_ NB459_454
       obtain ⟨hnb66, hnc66⟩ := ns_ NB459_455
       obtain ⟨hnb67, hnc67⟩ := ns_ NB459_457
       have hcz68_0 : wc.cell? ⟨gb459, 0, none⟩ = some (.string ((rd_T76 l0_0 x7_1).f0)) := bc_ BK459 0
       have hcz68_1 : wc.cell? ⟨gb459, 1, none⟩ = some (.string ((rd_T76 l0_0 x7_1).f1)) := bc_ BK459 1
       have hcz68_2 : wc.cell? ⟨gb459, 2, none⟩ = some (.int .i64 ((rd_T76 l0_0 x7_1).f2)) := bc_ BK459 2
       have hfz68_0 := blk_frozen BK459.out 0
       have hfz68_1 := blk_frozen BK459.out 1
       have hfz68_2 := blk_frozen BK459.out 2
       try go_wp2
       replace HO_458000 := rd_ HO_458000; replace BK454 := kd_ BK454; replace BK455 := kd_ BK455; replace BK457 := kd_ BK457; replace BK459 := kd_ BK459; replace HB := wd_ HB
       refine start_ (n := 14) (S := fun w' => w'.cell? ⟨gb457, 0, none⟩ = some (u458000) ∧ w'.cell? ⟨gb459, 0, none⟩ = some (.string ((rd_T76 l0_0 x7_1).f0)) ∧ w'.cell? ⟨gb459, 1, none⟩ = some (.string ((rd_T76 l0_0 x7_1).f1)) ∧ w'.cell? ⟨gb459, 2, none⟩ = some (.int .i64 ((rd_T76 l0_0 x7_1).f2))) (ds := [13]) #[false, false, false, false, false, false, false, false, false, false, false, false, false, false] (by kernel_rfl) rfl rfl ⟨bc_ BK457 0, bc_ BK459 0, bc_ BK459 1, bc_ BK459 2⟩ (fun hHeld => ?_); refine with_tabW spec_LoseDisk.tab15 spec_LoseDisk.bits15 (fun HT_ HW_ => ?_)
       generalize wc.drew = w69 at HO_458000 BK454 BK455 BK457 BK459 HB hHeld ⊢
       refine pv_ 0 49 ?_
       refine pv_ 2 51 ?_
       refine pv_ 4 53 ?_
       refine pv_ 6 55 ?_
       refine pv_ 8 57 ?_
       refine tv_ 1 50 hHeld ?_
       refine tv_ 3 52 hHeld ?_
       refine tv_ 5 54 hHeld ?_
       refine pv_ 7 56 ?_
       refine pv_ 9 58 ?_
       refine one_ (i := 10) (N := some 59) #[true, true, true, true, true, true, true, true, true, true, true, false, false, false] rfl rfl (one_of HT_.out (by kernel_rfl)) (by decide) (fun K hK => ?_)
       refine value_ (w1 := ?_) (v := ?_) (by rfl) rfl ?_ ?_
       rotate_left 2
       ·go_simp
        constructor
        ·rfl
        ·rfl
       refine hK.out _ _ ⟨(blk_cell (blk_alloc BK457.out _) 0).trans rfl, (blk_cell (blk_alloc BK459.out _) 0).trans rfl, (blk_cell (blk_alloc BK459.out _) 1).trans rfl, (blk_cell (blk_alloc BK459.out _) 2).trans rfl⟩ (fun hHeld => ?_)
       clear hK K
       refine norm_ (a' := ?_) ?_ ?_
       rotate_left
       ·show Act.put _ (some 59) _ = _
        simp only [Act.put, sia_, scz_, scs_, i64_w, i32_w]
        rfl
       refine one_ (i := 11) (N := some 60) #[true, true, true, true, true, true, true, true, true, true, true, true, false, false] rfl rfl (one_of HT_.out (by kernel_rfl)) (by decide) (fun K hK => ?_)
       refine Kd.R_append_step k76 (w0 := w) w.heap.size (by rfl) (.tmp 50) (.tmp 59) 29 76 (.agg #[(.string ⟨#[]⟩), (.string ⟨#[]⟩), (.int .i64 0)]) 40 rfl Try.underlying29 info76 rfl (by decide) (by omega) u458000 x458000_1 (⟨((rd_T76 l0_0 x7_1).f0), ((rd_T76 l0_0 x7_1).f1).extract 0 (x9_15 : Int).toNat, x9_15⟩ : S76) [.string ((rd_T76 l0_0 x7_1).f0), .string (((rd_T76 l0_0 x7_1).f1).extract 0 (x9_15 : Int).toNat), .int .i64 x9_15] (fun k_ => k_ ≠ gb459) (fun _ => False) rfl rfl ?aP (fun _ hk => hk.elim) ?aF ?aO ?aB ?aS ?aL ?_
       (case aP => exact k76_mkM _ _ _ (⟨((rd_T76 l0_0 x7_1).f0), ((rd_T76 l0_0 x7_1).f1).extract 0 (x9_15 : Int).toNat, x9_15⟩ : S76))
       (case aB => exact (bw_ HB))
       (case aF => exact (fun k_ hk => Kd.freshB (g := gb459) (o := .cells #[.string ((rd_T76 l0_0 x7_1).f0), .string ((rd_T76 l0_0 x7_1).f1), .int .i64 ((rd_T76 l0_0 x7_1).f2)] 76 (0, 0)) (bp_ BK459) k_ hk))
       (case aO => exact (rp_ HO_458000))
       (case aS => exact (below_size (bw_ HB)))
       (case aL => have := LMc64.out; omega)
       intro v471 w70 ho hb hg hat
       rw [← Ny470.out] at ho
       have n0_ := mk_ (blk_grown (g := gb454) (o := .cells #[.slice (some ad458) l0_0.length c0_0] 31 (0, 0)) (bp_ BK454) hg (Kd.R_ne HO_458000.out BK454.out (by decide)))
       have n1_ := mk_ (blk_grown (g := gb455) (o := .cells #[.slice none 0 0] 31 (0, 0)) (bp_ BK455) hg (Kd.R_ne HO_458000.out BK455.out (by decide)))
       have n2_ := mk_ (blk_grown (g := gb457) (o := .cells #[u458000] 31 (0, 0)) (bp_ BK457) hg (Kd.R_ne HO_458000.out BK457.out (by decide)))
       have n3_ := mk_ (blk_grown (g := gb459) (o := .cells #[.string ((rd_T76 l0_0 x7_1).f0), .string ((rd_T76 l0_0 x7_1).f1), .int .i64 ((rd_T76 l0_0 x7_1).f2)] 76 (0, 0)) (bp_ BK459) hg (Kd.R_away HO_458000.out (fun _ hk => hk)))
       have n4_ := mk_ (hb)
       have n5_ := mk_ (ho)
       clear BK454; clear BK455; clear BK457; clear BK459; clear HB; clear HO_458000; have BK454 := n0_; have BK455 := n1_; have BK457 := n2_; have BK459 := n3_; have HB := n4_; have HO472 := n5_; clear n0_ n1_ n2_ n3_ n4_ n5_; clear ho hb hg hat
       obtain ⟨Ao71, co71, eo71⟩ := Kd.R_slice HO472.out
       (first | subst eo71 | (injection eo71 with f1_ f2_ f3_; have f4_ := f1_.symm; have f5_ := f3_.symm; clear f1_ f2_ f3_; subst f4_; subst f5_))
       refine hK.out _ _ ⟨bc_ BK457 0, bc_ BK459 0, bc_ BK459 1, bc_ BK459 2⟩ (fun hHeld => ?_)
       clear hK K
       refine norm_ (a' := ?_) ?_ ?_
       rotate_left
       ·show Act.put _ (some 60) _ = _
        simp only [Act.put, sia_, scz_, scs_, i64_w, i32_w]
        rfl
       refine pv_ 12 61 ?_
       refine last_ (i := 13) (N := none) #[true, true, true, true, true, true, true, true, true, true, true, true, true, true] rfl rfl (one_of HT_.out (by kernel_rfl)) (by decide) (fun K hK => ?_)
       have hs72 : w70.cell? ⟨gb457, 0, none⟩ = some (u458000) := bc_ BK457 0
       have hfs72 := blk_frozen BK457.out 0
       have hns72_0 := NB454_457.out
       have hns72_1 := NB455_457.out
       have hns72_3 := NB459_457.out
       have hms72_0 := NB457_454.out
       have hms72_1 := NB457_455.out
       have hms72_3 := NB457_459.out
       refine skip_ (w1 := ?_) (by rfl) rfl ?_ ?_
       rotate_left
       ·go_simp
        rfl
       refine hK.out _ _ ?_
       clear hK K
       refine done_ (done_of HT_.out (by kernel_rfl)) ?_
       try go_wp2
       go_roundg kj15
       case measure => have := HK1.out; have := HJ15.out; omega
       case rel => exact ⟨(wrap64 (x7_1 + 1)), (y470), (.slice Ao71 y470.length co71), (by first | rfl | (simp; done) | (simp [*]; done) | (simp [bne]; done)), H', ⟨by have := HK1.out; have := HJ15.out; omega⟩, ⟨rq_ (rt_ HO472 BK457 0 (.slice Ao71 y470.length co71))⟩, ⟨bf_⟩, ⟨bf_⟩, ⟨bu_⟩, ⟨bw_ HB⟩⟩
      rw [if_pos c50] at H
      have c50b0 : decide (x9_15 < ((rd_T76 l0_0 x7_1).f2)) = true := decide_eq_true c50
      clear c50
      by_cases c51 : 0 ≤ ((rd_T76 l0_0 x7_1).f2)
      rotate_left
      ·rw [if_neg c51] at H
       exact absurd H (by simp)
      rw [if_pos c51] at H
      have c51b0 := eq_true c51
      have c51b1 : decide (0 ≤ ((rd_T76 l0_0 x7_1).f2)) = true := decide_eq_true c51
      clear c51
      by_cases c52 : ((rd_T76 l0_0 x7_1).f2) ≤ (((rd_T76 l0_0 x7_1).f1).size : Int)
      rotate_left
      ·rw [if_neg c52] at H
       exact absurd H (by simp)
      rw [if_pos c52] at H
      have c52b0 := eq_true c52
      have c52b1 : decide (((rd_T76 l0_0 x7_1).f2) ≤ (((rd_T76 l0_0 x7_1).f1).size : Int)) = true := decide_eq_true c52
      clear c52
      by_cases c53 : x458000_1.length < 3518437208883
      rotate_left
      ·rw [if_neg c53] at H
       exact absurd H (by simp)
      rw [if_pos c53] at H
      have LMc53 := Aside0.mk c53
      clear c53
      obtain ⟨y467, hy467⟩ : ∃ y_ : List (S76), y_ = (x458000_1 ++ [(⟨((rd_T76 l0_0 x7_1).f0), ((rd_T76 l0_0 x7_1).f1).extract 0 (((rd_T76 l0_0 x7_1).f2) : Int).toNat, ((rd_T76 l0_0 x7_1).f2)⟩ : S76)]) := ⟨_, rfl⟩
      replace H : (spec_LoseDisk.l0 kj15 l1 (wrap64 (x7_1 + 1)) l0_0 y467) = some (r1, r2) := by first | (rw [hy467]; with_reducible exact H) | (have H2_ := (Option.bind_some _ _).symm.trans H; rw [hy467]; with_reducible exact H2_) | (have H2_ := (Option.bind_some _ _).symm.trans H; with_reducible exact H2_) | with_reducible exact H | (rw [hy467]; exact H) | exact H
      have Ny467 := Aside0.mk hy467
      clear hy467
      have H' := Aside0.mk H
      clear H
      obtain ⟨hnb54, hnc54⟩ := ns_ NB459_454
      obtain ⟨hnb55, hnc55⟩ := ns_ NB459_455
      obtain ⟨hnb56, hnc56⟩ := ns_ NB459_457
      have hcz57_0 : wc.cell? ⟨gb459, 0, none⟩ = some (.string ((rd_T76 l0_0 x7_1).f0)) := bc_ BK459 0
      have hcz57_1 : wc.cell? ⟨gb459, 1, none⟩ = some (.string ((rd_T76 l0_0 x7_1).f1)) := bc_ BK459 1
      have hcz57_2 : wc.cell? ⟨gb459, 2, none⟩ = some (.int .i64 ((rd_T76 l0_0 x7_1).f2)) := bc_ BK459 2
      have hfz57_0 := blk_frozen BK459.out 0
      have hfz57_1 := blk_frozen BK459.out 1
      have hfz57_2 := blk_frozen BK459.out 2
      try go_wp2
      replace HO_458000 := rd_ HO_458000; replace BK454 := kd_ BK454; replace BK455 := kd_ BK455; replace BK457 := kd_ BK457; replace BK459 := kd_ BK459; replace HB := wd_ HB
      refine start_ (n := 14) (S := fun w' => w'.cell? ⟨gb457, 0, none⟩ = some (u458000) ∧ w'.cell? ⟨gb459, 0, none⟩ = some (.string ((rd_T76 l0_0 x7_1).f0)) ∧ w'.cell? ⟨gb459, 1, none⟩ = some (.string ((rd_T76 l0_0 x7_1).f1)) ∧ w'.cell? ⟨gb459, 2, none⟩ = some (.int .i64 ((rd_T76 l0_0 x7_1).f2))) (ds := [13]) #[false, false, false, false, false, false, false, false, false, false, false, false, false, false] (by kernel_rfl) rfl rfl ⟨bc_ BK457 0, bc_ BK459 0, bc_ BK459 1, bc_ BK459 2⟩ (fun hHeld => ?_); refine with_tabW spec_LoseDisk.tab15 spec_LoseDisk.bits15 (fun HT_ HW_ => ?_)
      generalize wc.drew = w58 at HO_458000 BK454 BK455 BK457 BK459 HB hHeld ⊢
      refine pv_ 0 49 ?_
      refine pv_ 2 51 ?_
      refine pv_ 4 53 ?_
      refine pv_ 6 55 ?_
      refine pv_ 8 57 ?_
      refine tv_ 1 50 hHeld ?_
      refine tv_ 3 52 hHeld ?_
      refine tv_ 5 54 hHeld ?_
      refine pv_ 7 56 ?_
      refine pv_ 9 58 ?_
      refine one_ (i := 10) (N := some 59) #[true, true, true, true, true, true, true, true, true, true, true, false, false, false] rfl rfl (one_of HT_.out (by kernel_rfl)) (by decide) (fun K hK => ?_)
      refine value_ (w1 := ?_) (v := ?_) (by rfl) rfl ?_ ?_
      rotate_left 2
      ·go_simp
       constructor
       ·rfl
       ·rfl
      refine hK.out _ _ ⟨(blk_cell (blk_alloc BK457.out _) 0).trans rfl, (blk_cell (blk_alloc BK459.out _) 0).trans rfl, (blk_cell (blk_alloc BK459.out _) 1).trans rfl, (blk_cell (blk_alloc BK459.out _) 2).trans rfl⟩ (fun hHeld => ?_)
      clear hK K
      refine norm_ (a' := ?_) ?_ ?_
      rotate_left
      ·show Act.put _ (some 59) _ = _
       simp only [Act.put, sia_, scz_, scs_, i64_w, i32_w]
       rfl
      refine one_ (i := 11) (N := some 60) #[true, true, true, true, true, true, true, true, true, true, true, true, false, false] rfl rfl (one_of HT_.out (by kernel_rfl)) (by decide) (fun K hK => ?_)
      refine Kd.R_append_step k76 (w0 := w) w.heap.size (by rfl) (.tmp 50) (.tmp 59) 29 76 (.agg #[(.string ⟨#[]⟩), (.string ⟨#[]⟩), (.int .i64 0)]) 40 rfl Try.underlying29 info76 rfl (by decide) (by omega) u458000 x458000_1 (⟨((rd_T76 l0_0 x7_1).f0), ((rd_T76 l0_0 x7_1).f1).extract 0 (((rd_T76 l0_0 x7_1).f2) : Int).toNat, ((rd_T76 l0_0 x7_1).f2)⟩ : S76) [.string ((rd_T76 l0_0 x7_1).f0), .string (((rd_T76 l0_0 x7_1).f1).extract 0 (((rd_T76 l0_0 x7_1).f2) : Int).toNat), .int .i64 ((rd_T76 l0_0 x7_1).f2)] (fun k_ => k_ ≠ gb459) (fun _ => False) rfl rfl ?aP (fun _ hk => hk.elim) ?aF ?aO ?aB ?aS ?aL ?_
      (case aP => exact k76_mkM _ _ _ (⟨((rd_T76 l0_0 x7_1).f0), ((rd_T76 l0_0 x7_1).f1).extract 0 (((rd_T76 l0_0 x7_1).f2) : Int).toNat, ((rd_T76 l0_0 x7_1).f2)⟩ : S76))
      (case aB => exact (bw_ HB))
      (case aF => exact (fun k_ hk => Kd.freshB (g := gb459) (o := .cells #[.string ((rd_T76 l0_0 x7_1).f0), .string ((rd_T76 l0_0 x7_1).f1), .int .i64 ((rd_T76 l0_0 x7_1).f2)] 76 (0, 0)) (bp_ BK459) k_ hk))
      (case aO => exact (rp_ HO_458000))
      (case aS => exact (below_size (bw_ HB)))
      (case aL => have := LMc53.out; omega)
      intro v468 w59 ho hb hg hat
      rw [← Ny467.out] at ho
      have n0_ := mk_ (blk_grown (g := gb454) (o := .cells #[.slice (some ad458) l0_0.length c0_0] 31 (0, 0)) (bp_ BK454) hg (Kd.R_ne HO_458000.out BK454.out (by decide)))
      have n1_ := mk_ (blk_grown (g := gb455) (o := .cells #[.slice none 0 0] 31 (0, 0)) (bp_ BK455) hg (Kd.R_ne HO_458000.out BK455.out (by decide)))
      have n2_ := mk_ (blk_grown (g := gb457) (o := .cells #[u458000] 31 (0, 0)) (bp_ BK457) hg (Kd.R_ne HO_458000.out BK457.out (by decide)))
      have n3_ := mk_ (blk_grown (g := gb459) (o := .cells #[.string ((rd_T76 l0_0 x7_1).f0), .string ((rd_T76 l0_0 x7_1).f1), .int .i64 ((rd_T76 l0_0 x7_1).f2)] 76 (0, 0)) (bp_ BK459) hg (Kd.R_away HO_458000.out (fun _ hk => hk)))
      have n4_ := mk_ (hb)
      have n5_ := mk_ (ho)
      clear BK454; clear BK455; clear BK457; clear BK459; clear HB; clear HO_458000; have BK454 := n0_; have BK455 := n1_; have BK457 := n2_; have BK459 := n3_; have HB := n4_; have HO469 := n5_; clear n0_ n1_ n2_ n3_ n4_ n5_; clear ho hb hg hat
      obtain ⟨Ao60, co60, eo60⟩ := Kd.R_slice HO469.out
      (first | subst eo60 | (injection eo60 with f1_ f2_ f3_; have f4_ := f1_.symm; have f5_ := f3_.symm; clear f1_ f2_ f3_; subst f4_; subst f5_))
      refine hK.out _ _ ⟨bc_ BK457 0, bc_ BK459 0, bc_ BK459 1, bc_ BK459 2⟩ (fun hHeld => ?_)
      clear hK K
      refine norm_ (a' := ?_) ?_ ?_
      rotate_left
      ·show Act.put _ (some 60) _ = _
       simp only [Act.put, sia_, scz_, scs_, i64_w, i32_w]
       rfl
      refine pv_ 12 61 ?_
      refine last_ (i := 13) (N := none) #[true, true, true, true, true, true, true, true, true, true, true, true, true, true] rfl rfl (one_of HT_.out (by kernel_rfl)) (by decide) (fun K hK => ?_)
      have hs61 : w59.cell? ⟨gb457, 0, none⟩ = some (u458000) := bc_ BK457 0
      have hfs61 := blk_frozen BK457.out 0
      have hns61_0 := NB454_457.out
      have hns61_1 := NB455_457.out
      have hns61_3 := NB459_457.out
      have hms61_0 := NB457_454.out
      have hms61_1 := NB457_455.out
      have hms61_3 := NB457_459.out
      refine skip_ (w1 := ?_) (by rfl) rfl ?_ ?_
      rotate_left
      ·go_simp
       rfl
      refine hK.out _ _ ?_
      clear hK K
      refine done_ (done_of HT_.out (by kernel_rfl)) ?_
      try go_wp2
      go_roundg kj15
      case measure => have := HK1.out; have := HJ15.out; omega
      case rel => exact ⟨(wrap64 (x7_1 + 1)), (y467), (.slice Ao60 y467.length co60), (by first | rfl | (simp; done) | (simp [*]; done) | (simp [bne]; done)), H', ⟨by have := HK1.out; have := HJ15.out; omega⟩, ⟨rq_ (rt_ HO469 BK457 0 (.slice Ao60 y467.length co60))⟩, ⟨bf_⟩, ⟨bf_⟩, ⟨bu_⟩, ⟨bw_ HB⟩⟩
     rw [if_pos c26] at H
     have c26b0 : decide ((((rd_T76 l0_0 x7_1).f1).size : Int) < x9_15) = true := decide_eq_true c26
     clear c26
     by_cases c27 : (((rd_T76 l0_0 x7_1).f1).size : Int) < ((rd_T76 l0_0 x7_1).f2)
     rotate_left
     ·rw [if_neg c27] at H
      have c27b0 : decide ((((rd_T76 l0_0 x7_1).f1).size : Int) < ((rd_T76 l0_0 x7_1).f2)) = false := decide_eq_false c27
      clear c27
      by_cases c39 : 0 ≤ (((rd_T76 l0_0 x7_1).f1).size : Int)
      rotate_left
      ·rw [if_neg c39] at H
       exact absurd H (by simp)
      rw [if_pos c39] at H
      have c39b0 := eq_true c39
      have c39b1 : decide (0 ≤ (((rd_T76 l0_0 x7_1).f1).size : Int)) = true := decide_eq_true c39
      clear c39
      by_cases c40 : (((rd_T76 l0_0 x7_1).f1).size : Int) ≤ (((rd_T76 l0_0 x7_1).f1).size : Int)
      rotate_left
      ·rw [if_neg c40] at H
       exact absurd H (by simp)
      rw [if_pos c40] at H
      have c40b0 := eq_true c40
      have c40b1 : decide ((((rd_T76 l0_0 x7_1).f1).size : Int) ≤ (((rd_T76 l0_0 x7_1).f1).size : Int)) = true := decide_eq_true c40
      clear c40
      by_cases c41 : x458000_1.length < 3518437208883
      rotate_left
      ·rw [if_neg c41] at H
       exact absurd H (by simp)
      rw [if_pos c41] at H
      have LMc41 := Aside0.mk c41
      clear c41
      obtain ⟨y464, hy464⟩ : ∃ y_ : List (S76), y_ = (x458000_1 ++ [(⟨((rd_T76 l0_0 x7_1).f0), ((rd_T76 l0_0 x7_1).f1).extract 0 ((((rd_T76 l0_0 x7_1).f1).size : Int) : Int).toNat, (((rd_T76 l0_0 x7_1).f1).size : Int)⟩ : S76)]) := ⟨_, rfl⟩
      replace H : (spec_LoseDisk.l0 kj15 l1 (wrap64 (x7_1 + 1)) l0_0 y464) = some (r1, r2) := by first | (rw [hy464]; with_reducible exact H) | (have H2_ := (Option.bind_some _ _).symm.trans H; rw [hy464]; with_reducible exact H2_) | (have H2_ := (Option.bind_some _ _).symm.trans H; with_reducible exact H2_) | with_reducible exact H | (rw [hy464]; exact H) | exact H
      have Ny464 := Aside0.mk hy464
      clear hy464
      have H' := Aside0.mk H
      clear H
      obtain ⟨hnb42, hnc42⟩ := ns_ NB459_454
      obtain ⟨hnb43, hnc43⟩ := ns_ NB459_455
      obtain ⟨hnb44, hnc44⟩ := ns_ NB459_457
      have hcz45_0 : wc.cell? ⟨gb459, 0, none⟩ = some (.string ((rd_T76 l0_0 x7_1).f0)) := bc_ BK459 0
      have hcz45_1 : wc.cell? ⟨gb459, 1, none⟩ = some (.string ((rd_T76 l0_0 x7_1).f1)) := bc_ BK459 1
      have hcz45_2 : wc.cell? ⟨gb459, 2, none⟩ = some (.int .i64 ((rd_T76 l0_0 x7_1).f2)) := bc_ BK459 2
      have hfz45_0 := blk_frozen BK459.out 0
      have hfz45_1 := blk_frozen BK459.out 1
      have hfz45_2 := blk_frozen BK459.out 2
      try go_wp2
      replace HO_458000 := rd_ HO_458000; replace BK454 := kd_ BK454; replace BK455 := kd_ BK455; replace BK457 := kd_ BK457; replace BK459 := kd_ BK459; replace HB := wd_ HB
      refine start_ (n := 14) (S := fun w' => w'.cell? ⟨gb457, 0, none⟩ = some (u458000) ∧ w'.cell? ⟨gb459, 0, none⟩ = some (.string ((rd_T76 l0_0 x7_1).f0)) ∧ w'.cell? ⟨gb459, 1, none⟩ = some (.string ((rd_T76 l0_0 x7_1).f1)) ∧ w'.cell? ⟨gb459, 2, none⟩ = some (.int .i64 ((rd_T76 l0_0 x7_1).f2))) (ds := [13]) #[false, false, false, false, false, false, false, false, false, false, false, false, false, false] (by kernel_rfl) rfl rfl ⟨bc_ BK457 0, bc_ BK459 0, bc_ BK459 1, bc_ BK459 2⟩ (fun hHeld => ?_); refine with_tabW spec_LoseDisk.tab15 spec_LoseDisk.bits15 (fun HT_ HW_ => ?_)
      generalize wc.drew = w46 at HO_458000 BK454 BK455 BK457 BK459 HB hHeld ⊢
      refine pv_ 0 49 ?_
      refine pv_ 2 51 ?_
      refine pv_ 4 53 ?_
      refine pv_ 6 55 ?_
      refine pv_ 8 57 ?_
      refine tv_ 1 50 hHeld ?_
      refine tv_ 3 52 hHeld ?_
      refine tv_ 5 54 hHeld ?_
      refine pv_ 7 56 ?_
      refine pv_ 9 58 ?_
      refine one_ (i := 10) (N := some 59) #[true, true, true, true, true, true, true, true, true, true, true, false, false, false] rfl rfl (one_of HT_.out (by kernel_rfl)) (by decide) (fun K hK => ?_)
      refine value_ (w1 := ?_) (v := ?_) (by rfl) rfl ?_ ?_
      rotate_left 2
      ·go_simp
       constructor
       ·rfl
       ·rfl
      refine hK.out _ _ ⟨(blk_cell (blk_alloc BK457.out _) 0).trans rfl, (blk_cell (blk_alloc BK459.out _) 0).trans rfl, (blk_cell (blk_alloc BK459.out _) 1).trans rfl, (blk_cell (blk_alloc BK459.out _) 2).trans rfl⟩ (fun hHeld => ?_)
      clear hK K
      refine norm_ (a' := ?_) ?_ ?_
      rotate_left
      ·show Act.put _ (some 59) _ = _
       simp only [Act.put, sia_, scz_, scs_, i64_w, i32_w]
       rfl
      refine one_ (i := 11) (N := some 60) #[true, true, true, true, true, true, true, true, true, true, true, true, false, false] rfl rfl (one_of HT_.out (by kernel_rfl)) (by decide) (fun K hK => ?_)
      refine Kd.R_append_step k76 (w0 := w) w.heap.size (by rfl) (.tmp 50) (.tmp 59) 29 76 (.agg #[(.string ⟨#[]⟩), (.string ⟨#[]⟩), (.int .i64 0)]) 40 rfl Try.underlying29 info76 rfl (by decide) (by omega) u458000 x458000_1 (⟨((rd_T76 l0_0 x7_1).f0), ((rd_T76 l0_0 x7_1).f1).extract 0 ((((rd_T76 l0_0 x7_1).f1).size : Int) : Int).toNat, (((rd_T76 l0_0 x7_1).f1).size : Int)⟩ : S76) [.string ((rd_T76 l0_0 x7_1).f0), .string (((rd_T76 l0_0 x7_1).f1)), .int .i64 (((rd_T76 l0_0 x7_1).f1).size : Int)] (fun k_ => k_ ≠ gb459) (fun _ => False) rfl rfl ?aP (fun _ hk => hk.elim) ?aF ?aO ?aB ?aS ?aL ?_
      (case aP => have e_ : (((rd_T76 l0_0 x7_1).f1)).extract 0 (((((rd_T76 l0_0 x7_1).f1)).size : Int) : Int).toNat = ((rd_T76 l0_0 x7_1).f1) := Go.Proofs.Ythbaoefbccdioaa.M.extract_all _; rw [e_]; exact k76_mkM _ _ _ (⟨((rd_T76 l0_0 x7_1).f0), ((rd_T76 l0_0 x7_1).f1), ((((rd_T76 l0_0 x7_1).f1)).size : Int)⟩ : S76))
      (case aB => exact (bw_ HB))
      (case aF => exact (fun k_ hk => Kd.freshB (g := gb459) (o := .cells #[.string ((rd_T76 l0_0 x7_1).f0), .string ((rd_T76 l0_0 x7_1).f1), .int .i64 ((rd_T76 l0_0 x7_1).f2)] 76 (0, 0)) (bp_ BK459) k_ hk))
      (case aO => exact (rp_ HO_458000))
      (case aS => exact (below_size (bw_ HB)))
      (case aL => have := LMc41.out; omega)
      intro v465 w47 ho hb hg hat
      rw [← Ny464.out] at ho
      have n0_ := mk_ (blk_grown (g := gb454) (o := .cells #[.slice (some ad458) l0_0.length c0_0] 31 (0, 0)) (bp_ BK454) hg (Kd.R_ne HO_458000.out BK454.out (by decide)))
      have n1_ := mk_ (blk_grown (g := gb455) (o := .cells #[.slice none 0 0] 31 (0, 0)) (bp_ BK455) hg (Kd.R_ne HO_458000.out BK455.out (by decide)))
      have n2_ := mk_ (blk_grown (g := gb457) (o := .cells #[u458000] 31 (0, 0)) (bp_ BK457) hg (Kd.R_ne HO_458000.out BK457.out (by decide)))
      have n3_ := mk_ (blk_grown (g := gb459) (o := .cells #[.string ((rd_T76 l0_0 x7_1).f0), .string ((rd_T76 l0_0 x7_1).f1), .int .i64 ((rd_T76 l0_0 x7_1).f2)] 76 (0, 0)) (bp_ BK459) hg (Kd.R_away HO_458000.out (fun _ hk => hk)))
      have n4_ := mk_ (hb)
      have n5_ := mk_ (ho)
      clear BK454; clear BK455; clear BK457; clear BK459; clear HB; clear HO_458000; have BK454 := n0_; have BK455 := n1_; have BK457 := n2_; have BK459 := n3_; have HB := n4_; have HO466 := n5_; clear n0_ n1_ n2_ n3_ n4_ n5_; clear ho hb hg hat
      obtain ⟨Ao48, co48, eo48⟩ := Kd.R_slice HO466.out
      (first | subst eo48 | (injection eo48 with f1_ f2_ f3_; have f4_ := f1_.symm; have f5_ := f3_.symm; clear f1_ f2_ f3_; subst f4_; subst f5_))
      refine hK.out _ _ ⟨bc_ BK457 0, bc_ BK459 0, bc_ BK459 1, bc_ BK459 2⟩ (fun hHeld => ?_)
      clear hK K
      refine norm_ (a' := ?_) ?_ ?_
      rotate_left
      ·show Act.put _ (some 60) _ = _
       simp only [Act.put, sia_, scz_, scs_, i64_w, i32_w]
       rfl
      refine pv_ 12 61 ?_
      refine last_ (i := 13) (N := none) #[true, true, true, true, true, true, true, true, true, true, true, true, true, true] rfl rfl (one_of HT_.out (by kernel_rfl)) (by decide) (fun K hK => ?_)
      have hs49 : w47.cell? ⟨gb457, 0, none⟩ = some (u458000) := bc_ BK457 0
      have hfs49 := blk_frozen BK457.out 0
      have hns49_0 := NB454_457.out
      have hns49_1 := NB455_457.out
      have hns49_3 := NB459_457.out
      have hms49_0 := NB457_454.out
      have hms49_1 := NB457_455.out
      have hms49_3 := NB457_459.out
      refine skip_ (w1 := ?_) (by rfl) rfl ?_ ?_
      rotate_left
      ·go_simp
       rfl
      refine hK.out _ _ ?_
      clear hK K
      refine done_ (done_of HT_.out (by kernel_rfl)) ?_
      try go_wp2
      go_roundg kj15
      case measure => have := HK1.out; have := HJ15.out; omega
      case rel => exact ⟨(wrap64 (x7_1 + 1)), (y464), (.slice Ao48 y464.length co48), (by first | rfl | (simp; done) | (simp [*]; done) | (simp [bne]; done)), H', ⟨by have := HK1.out; have := HJ15.out; omega⟩, ⟨rq_ (rt_ HO466 BK457 0 (.slice Ao48 y464.length co48))⟩, ⟨bf_⟩, ⟨bf_⟩, ⟨bu_⟩, ⟨bw_ HB⟩⟩
     rw [if_pos c27] at H
     have c27b0 : decide ((((rd_T76 l0_0 x7_1).f1).size : Int) < ((rd_T76 l0_0 x7_1).f2)) = true := decide_eq_true c27
     clear c27
     by_cases c28 : 0 ≤ ((rd_T76 l0_0 x7_1).f2)
     rotate_left
     ·rw [if_neg c28] at H
      exact absurd H (by simp)
     rw [if_pos c28] at H
     have c28b0 := eq_true c28
     have c28b1 : decide (0 ≤ ((rd_T76 l0_0 x7_1).f2)) = true := decide_eq_true c28
     clear c28
     by_cases c29 : ((rd_T76 l0_0 x7_1).f2) ≤ (((rd_T76 l0_0 x7_1).f1).size : Int)
     rotate_left
     ·rw [if_neg c29] at H
      exact absurd H (by simp)
     rw [if_pos c29] at H
     have c29b0 := eq_true c29
     have c29b1 : decide (((rd_T76 l0_0 x7_1).f2) ≤ (((rd_T76 l0_0 x7_1).f1).size : Int)) = true := decide_eq_true c29
     clear c29
     by_cases c30 : x458000_1.length < 3518437208883
     rotate_left
     ·rw [if_neg c30] at H
      exact absurd H (by simp)
     rw [if_pos c30] at H
     have LMc30 := Aside0.mk c30
     clear c30
     obtain ⟨y461, hy461⟩ : ∃ y_ : List (S76), y_ = (x458000_1 ++ [(⟨((rd_T76 l0_0 x7_1).f0), ((rd_T76 l0_0 x7_1).f1).extract 0 (((rd_T76 l0_0 x7_1).f2) : Int).toNat, ((rd_T76 l0_0 x7_1).f2)⟩ : S76)]) := ⟨_, rfl⟩
     replace H : (spec_LoseDisk.l0 kj15 l1 (wrap64 (x7_1 + 1)) l0_0 y461) = some (r1, r2) := by first | (rw [hy461]; with_reducible exact H) | (have H2_ := (Option.bind_some _ _).symm.trans H; rw [hy461]; with_reducible exact H2_) | (have H2_ := (Option.bind_some _ _).symm.trans H; with_reducible exact H2_) | with_reducible exact H | (rw [hy461]; exact H) | exact H
     have Ny461 := Aside0.mk hy461
     clear hy461
     have H' := Aside0.mk H
     clear H
     obtain ⟨hnb31, hnc31⟩ := ns_ NB459_454
     obtain ⟨hnb32, hnc32⟩ := ns_ NB459_455
     obtain ⟨hnb33, hnc33⟩ := ns_ NB459_457
     have hcz34_0 : wc.cell? ⟨gb459, 0, none⟩ = some (.string ((rd_T76 l0_0 x7_1).f0)) := bc_ BK459 0
     have hcz34_1 : wc.cell? ⟨gb459, 1, none⟩ = some (.string ((rd_T76 l0_0 x7_1).f1)) := bc_ BK459 1
     have hcz34_2 : wc.cell? ⟨gb459, 2, none⟩ = some (.int .i64 ((rd_T76 l0_0 x7_1).f2)) := bc_ BK459 2
     have hfz34_0 := blk_frozen BK459.out 0
     have hfz34_1 := blk_frozen BK459.out 1
     have hfz34_2 := blk_frozen BK459.out 2
     try go_wp2
     replace HO_458000 := rd_ HO_458000; replace BK454 := kd_ BK454; replace BK455 := kd_ BK455; replace BK457 := kd_ BK457; replace BK459 := kd_ BK459; replace HB := wd_ HB
     refine start_ (n := 14) (S := fun w' => w'.cell? ⟨gb457, 0, none⟩ = some (u458000) ∧ w'.cell? ⟨gb459, 0, none⟩ = some (.string ((rd_T76 l0_0 x7_1).f0)) ∧ w'.cell? ⟨gb459, 1, none⟩ = some (.string ((rd_T76 l0_0 x7_1).f1)) ∧ w'.cell? ⟨gb459, 2, none⟩ = some (.int .i64 ((rd_T76 l0_0 x7_1).f2))) (ds := [13]) #[false, false, false, false, false, false, false, false, false, false, false, false, false, false] (by kernel_rfl) rfl rfl ⟨bc_ BK457 0, bc_ BK459 0, bc_ BK459 1, bc_ BK459 2⟩ (fun hHeld => ?_); refine with_tabW spec_LoseDisk.tab15 spec_LoseDisk.bits15 (fun HT_ HW_ => ?_)
     generalize wc.drew = w35 at HO_458000 BK454 BK455 BK457 BK459 HB hHeld ⊢
     refine pv_ 0 49 ?_
     refine pv_ 2 51 ?_
     refine pv_ 4 53 ?_
     refine pv_ 6 55 ?_
     refine pv_ 8 57 ?_
     refine tv_ 1 50 hHeld ?_
     refine tv_ 3 52 hHeld ?_
     refine tv_ 5 54 hHeld ?_
     refine pv_ 7 56 ?_
     refine pv_ 9 58 ?_
     refine one_ (i := 10) (N := some 59) #[true, true, true, true, true, true, true, true, true, true, true, false, false, false] rfl rfl (one_of HT_.out (by kernel_rfl)) (by decide) (fun K hK => ?_)
     refine value_ (w1 := ?_) (v := ?_) (by rfl) rfl ?_ ?_
     rotate_left 2
     ·go_simp
      constructor
      ·rfl
      ·rfl
     refine hK.out _ _ ⟨(blk_cell (blk_alloc BK457.out _) 0).trans rfl, (blk_cell (blk_alloc BK459.out _) 0).trans rfl, (blk_cell (blk_alloc BK459.out _) 1).trans rfl, (blk_cell (blk_alloc BK459.out _) 2).trans rfl⟩ (fun hHeld => ?_)
     clear hK K
     refine norm_ (a' := ?_) ?_ ?_
     rotate_left
     ·show Act.put _ (some 59) _ = _
      simp only [Act.put, sia_, scz_, scs_, i64_w, i32_w]
      rfl
     refine one_ (i := 11) (N := some 60) #[true, true, true, true, true, true, true, true, true, true, true, true, false, false] rfl rfl (one_of HT_.out (by kernel_rfl)) (by decide) (fun K hK => ?_)
     refine Kd.R_append_step k76 (w0 := w) w.heap.size (by rfl) (.tmp 50) (.tmp 59) 29 76 (.agg #[(.string ⟨#[]⟩), (.string ⟨#[]⟩), (.int .i64 0)]) 40 rfl Try.underlying29 info76 rfl (by decide) (by omega) u458000 x458000_1 (⟨((rd_T76 l0_0 x7_1).f0), ((rd_T76 l0_0 x7_1).f1).extract 0 (((rd_T76 l0_0 x7_1).f2) : Int).toNat, ((rd_T76 l0_0 x7_1).f2)⟩ : S76) [.string ((rd_T76 l0_0 x7_1).f0), .string (((rd_T76 l0_0 x7_1).f1).extract 0 (((rd_T76 l0_0 x7_1).f2) : Int).toNat), .int .i64 ((rd_T76 l0_0 x7_1).f2)] (fun k_ => k_ ≠ gb459) (fun _ => False) rfl rfl ?aP (fun _ hk => hk.elim) ?aF ?aO ?aB ?aS ?aL ?_
     (case aP => exact k76_mkM _ _ _ (⟨((rd_T76 l0_0 x7_1).f0), ((rd_T76 l0_0 x7_1).f1).extract 0 (((rd_T76 l0_0 x7_1).f2) : Int).toNat, ((rd_T76 l0_0 x7_1).f2)⟩ : S76))
     (case aB => exact (bw_ HB))
     (case aF => exact (fun k_ hk => Kd.freshB (g := gb459) (o := .cells #[.string ((rd_T76 l0_0 x7_1).f0), .string ((rd_T76 l0_0 x7_1).f1), .int .i64 ((rd_T76 l0_0 x7_1).f2)] 76 (0, 0)) (bp_ BK459) k_ hk))
     (case aO => exact (rp_ HO_458000))
     (case aS => exact (below_size (bw_ HB)))
     (case aL => have := LMc30.out; omega)
     intro v462 w36 ho hb hg hat
     rw [← Ny461.out] at ho
     have n0_ := mk_ (blk_grown (g := gb454) (o := .cells #[.slice (some ad458) l0_0.length c0_0] 31 (0, 0)) (bp_ BK454) hg (Kd.R_ne HO_458000.out BK454.out (by decide)))
     have n1_ := mk_ (blk_grown (g := gb455) (o := .cells #[.slice none 0 0] 31 (0, 0)) (bp_ BK455) hg (Kd.R_ne HO_458000.out BK455.out (by decide)))
     have n2_ := mk_ (blk_grown (g := gb457) (o := .cells #[u458000] 31 (0, 0)) (bp_ BK457) hg (Kd.R_ne HO_458000.out BK457.out (by decide)))
     have n3_ := mk_ (blk_grown (g := gb459) (o := .cells #[.string ((rd_T76 l0_0 x7_1).f0), .string ((rd_T76 l0_0 x7_1).f1), .int .i64 ((rd_T76 l0_0 x7_1).f2)] 76 (0, 0)) (bp_ BK459) hg (Kd.R_away HO_458000.out (fun _ hk => hk)))
     have n4_ := mk_ (hb)
     have n5_ := mk_ (ho)
     clear BK454; clear BK455; clear BK457; clear BK459; clear HB; clear HO_458000; have BK454 := n0_; have BK455 := n1_; have BK457 := n2_; have BK459 := n3_; have HB := n4_; have HO463 := n5_; clear n0_ n1_ n2_ n3_ n4_ n5_; clear ho hb hg hat
     obtain ⟨Ao37, co37, eo37⟩ := Kd.R_slice HO463.out
     (first | subst eo37 | (injection eo37 with f1_ f2_ f3_; have f4_ := f1_.symm; have f5_ := f3_.symm; clear f1_ f2_ f3_; subst f4_; subst f5_))
     refine hK.out _ _ ⟨bc_ BK457 0, bc_ BK459 0, bc_ BK459 1, bc_ BK459 2⟩ (fun hHeld => ?_)
     clear hK K
     refine norm_ (a' := ?_) ?_ ?_
     rotate_left
     ·show Act.put _ (some 60) _ = _
      simp only [Act.put, sia_, scz_, scs_, i64_w, i32_w]
      rfl
     refine pv_ 12 61 ?_
     refine last_ (i := 13) (N := none) #[true, true, true, true, true, true, true, true, true, true, true, true, true, true] rfl rfl (one_of HT_.out (by kernel_rfl)) (by decide) (fun K hK => ?_)
     have hs38 : w36.cell? ⟨gb457, 0, none⟩ = some (u458000) := bc_ BK457 0
     have hfs38 := blk_frozen BK457.out 0
     have hns38_0 := NB454_457.out
     have hns38_1 := NB455_457.out
     have hns38_3 := NB459_457.out
     have hms38_0 := NB457_454.out
     have hms38_1 := NB457_455.out
     have hms38_3 := NB457_459.out
     refine skip_ (w1 := ?_) (by rfl) rfl ?_ ?_
     rotate_left
     ·go_simp
      rfl
     refine hK.out _ _ ?_
     clear hK K
     refine done_ (done_of HT_.out (by kernel_rfl)) ?_
     try go_wp2
     go_roundg kj15
     case measure => have := HK1.out; have := HJ15.out; omega
     case rel => exact ⟨(wrap64 (x7_1 + 1)), (y461), (.slice Ao37 y461.length co37), (by first | rfl | (simp; done) | (simp [*]; done) | (simp [bne]; done)), H', ⟨by have := HK1.out; have := HJ15.out; omega⟩, ⟨rq_ (rt_ HO463 BK457 0 (.slice Ao37 y461.length co37))⟩, ⟨bf_⟩, ⟨bf_⟩, ⟨bu_⟩, ⟨bw_ HB⟩⟩

end Go.Proofs.Ythbaoefbccdioaa.QFnActs
