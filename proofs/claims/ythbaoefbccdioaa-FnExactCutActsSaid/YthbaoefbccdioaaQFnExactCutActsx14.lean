/- Written by this session's own program (wip/tpl/pp.py): what the law's functions come to, and that the machine's calls do just that. -/
import Derived.Test.YthbaoefbccdioaaQFnExactCutActsx0
import Derived.Test.YthbaoefbccdioaaQFnExactCutActsx9
namespace Go.Proofs.Ythbaoefbccdioaa.QFnExactCutActs
open Go.RowKit Go.Proofs.YthbaoefbccdioaaW.PrintWords Go.Proofs.YthbaoefbccdioaaW.PrintLast Go.Proofs.YthbaoefbccdioaaW.PrintMore
attribute [local go_sem] Go.Proofs.Ythbaoefbccdioaa.Sem.string_geq Go.Proofs.Ythbaoefbccdioaa.Sem.string_leq Go.Proofs.Ythbaoefbccdioaa.Sem.string_gtr
attribute [local go_sem] max2_int min2_int max_two min_two max_three min_three max_four min_four   -- for this text's walks alone
set_option linter.unusedVariables false
set_option linter.unusedSimpArgs false

/-! ### spec_LoseDisk: function 62 -/
mutual
def spec_LoseDisk.l0 : Nat → List Int → Int → List (S76) → List (S76) → Option ((List (S76)) × Bool)
 | 0, _, _, _, _ => none
 | k + 1, x1, x7, x295000, x298000 => if x7 < (x295000.length : Int) then (if 0 ≤ x7 then (if x7 < (x1.length : Int) then (spec_LoseDisk.j1 k x1 x7 (rd x1 x7) x295000 x298000 ((rd_T76 x295000 x7).f0) ((rd_T76 x295000 x7).f1) ((rd_T76 x295000 x7).f2)) else (spec_LoseDisk.j1 k x1 x7 0 x295000 x298000 ((rd_T76 x295000 x7).f0) ((rd_T76 x295000 x7).f1) ((rd_T76 x295000 x7).f2))) else (none)) else (some (x298000, true))
def spec_LoseDisk.j1 : Nat → List Int → Int → Int → List (S76) → List (S76) → ByteArray → ByteArray → Int → Option ((List (S76)) × Bool)
 | 0, _, _, _, _, _, _, _, _ => none
 | k + 1, x1, x7, x9, x295000, x298000, x300000, x300001, x300002 => if x9 > (x300001.size : Int) then (if (x300001.size : Int) < x300002 then (if 0 ≤ x300002 then (if x300002 ≤ (x300001.size : Int) then (if x298000.length < 3518437208883 then (spec_LoseDisk.l0 k x1 (wrap64 (x7 + 1)) x295000 (x298000 ++ [(⟨x300000, x300001.extract 0 (x300002 : Int).toNat, x300002⟩ : S76)])) else (none)) else (none)) else (none)) else (if 0 ≤ (x300001.size : Int) then (if (x300001.size : Int) ≤ (x300001.size : Int) then (if x298000.length < 3518437208883 then (spec_LoseDisk.l0 k x1 (wrap64 (x7 + 1)) x295000 (x298000 ++ [(⟨x300000, x300001.extract 0 ((x300001.size : Int) : Int).toNat, (x300001.size : Int)⟩ : S76)])) else (none)) else (none)) else (none))) else (if x9 < x300002 then (if 0 ≤ x300002 then (if x300002 ≤ (x300001.size : Int) then (if x298000.length < 3518437208883 then (spec_LoseDisk.l0 k x1 (wrap64 (x7 + 1)) x295000 (x298000 ++ [(⟨x300000, x300001.extract 0 (x300002 : Int).toNat, x300002⟩ : S76)])) else (none)) else (none)) else (none)) else (if 0 ≤ x9 then (if x9 ≤ (x300001.size : Int) then (if x298000.length < 3518437208883 then (spec_LoseDisk.l0 k x1 (wrap64 (x7 + 1)) x295000 (x298000 ++ [(⟨x300000, x300001.extract 0 (x9 : Int).toNat, x9⟩ : S76)])) else (none)) else (none)) else (none)))
end
def spec_LoseDisk.f (k : Nat) (l0_0 : List (S76)) (l1 : List Int) : Option ((List (S76)) × Bool) := (spec_DiskOk.f k l0_0).bind fun t296 => (if t296 = true then (spec_LoseDisk.l0 k l1 0 l0_0 ([] : List (S76))) else (some (([] : List (S76)), false)))
theorem spec_LoseDisk.mono_l : ∀ k, (∀ y0 y1 y2 y3, LeO (spec_LoseDisk.l0 k y0 y1 y2 y3) (spec_LoseDisk.l0 (k + 1) y0 y1 y2 y3)) ∧ (∀ y0 y1 y2 y3 y4 y5 y6 y7, LeO (spec_LoseDisk.j1 k y0 y1 y2 y3 y4 y5 y6 y7) (spec_LoseDisk.j1 (k + 1) y0 y1 y2 y3 y4 y5 y6 y7))
 | 0 => ⟨fun _ _ _ _ r h => by simp [spec_LoseDisk.l0] at h, fun _ _ _ _ _ _ _ _ r h => by simp [spec_LoseDisk.j1] at h⟩
 | k + 1 => by
  obtain ⟨ih0, ih1⟩ := spec_LoseDisk.mono_l k
  refine ⟨?_, ?_⟩
  ·intro y0 y1 y2 y3
   unfold spec_LoseDisk.l0
   repeat' first
   | (with_reducible exact ih1 _ _ _ _ _ _ _ _)
   | (with_reducible exact LeO.refl _)
   | (with_reducible refine LeO.ite ?_ ?_)
  ·intro y0 y1 y2 y3 y4 y5 y6 y7
   unfold spec_LoseDisk.j1
   repeat' first
   | (with_reducible exact ih0 _ _ _ _)
   | (with_reducible exact LeO.refl _)
   | (with_reducible refine LeO.ite ?_ ?_)
theorem spec_LoseDisk.mono : ∀ a0 a1 k, LeO (spec_LoseDisk.f k a0 a1) (spec_LoseDisk.f (k + 1) a0 a1) := by
 intro a0 a1 k
 obtain ⟨ih0, ih1⟩ := spec_LoseDisk.mono_l k
 unfold spec_LoseDisk.f
 repeat' first
   | (with_reducible exact ih0 _ _ _ _)
   | (with_reducible exact spec_DiskOk.mono _ _)
   | (with_reducible exact LeO.refl _)
   | (with_reducible refine LeO.ite ?_ ?_)
   | (with_reducible refine LeO.bind ?_ (fun _ => ?_))
def spec_LoseDisk.T15 : Bool × List (List Nat × List Nat) := (true, [([], []), ([0], [0]), ([], []), ([2], [2]), ([], []), ([4], [4]), ([], []), ([5, 6], [5, 6]), ([], []), ([3, 7, 8], [3, 7, 8]), ([9], [9]), ([1, 10], [1, 10]), ([0, 1, 2, 3, 4, 5, 6, 7, 8, 9, 10, 11], []), ([12, 11, 11, 0, 1, 2, 3, 4, 5, 6, 7, 8, 9, 10, 11], [11, 12])])
def spec_LoseDisk.B15 : List Nat := [0, 1, 0, 4, 0, 16, 0, 112, 0, 508, 1020, 2047, 4095, 8191]
theorem spec_LoseDisk.tab15 : rtab .any (opsOf Try.f62 15) = spec_LoseDisk.T15 := by kernel_rfl
theorem spec_LoseDisk.bits15 : waitsOk spec_LoseDisk.T15.2 spec_LoseDisk.B15 = true := by kernel_rfl
set_option maxHeartbeats 8000000 in
set_option maxRecDepth 100000 in
theorem spec_LoseDisk.calls (k : Nat) (A0_0 : Option Addr) (c0_0 : Nat) (l0_0 : List (S76)) (A1 : Option Addr) (c1 : Nat) (l1 : List Int) (r1 : List (S76)) (r2 : Bool) (w : World) (hr0_0 : Kd.C k76 w A0_0 l0_0.length l0_0) (hc0_0 : l0_0.length ≤ c0_0) (hr1 : Kd.C (Kd.int .i64) w A1 l1.length l1) (hc1 : l1.length ≤ c1) (h : spec_LoseDisk.f k l0_0 l1 = some (r1, r2)) :
  Calls Try.prog 62 #[.agg #[.slice A0_0 l0_0.length c0_0], .slice A1 l1.length c1] w fun e w' => ∃ v0_ : Value, e = .returned (.tuple #[.agg #[v0_], .bool r2]) ∧ Kd.R k76 76 w' w.heap.size (fun _ => True) v0_ r1 ∧ Below w.heap.size w w' := by
 have hu31 := Try.underlying31
 have hu76 := Try.underlying76
 have HR0_0 := Aside0.mk hr0_0
 have HC0_0 := Aside0.mk hc0_0
 clear hr0_0 hc0_0
 have HR1 := Aside0.mk hr1
 have HC1 := Aside0.mk hc1
 clear hr1 hc1
 have HB := mk_ (Below.refl w.heap.size w)
 have H : ((spec_DiskOk.f k l0_0).bind fun t296 => (if t296 = true then (spec_LoseDisk.l0 k l1 0 l0_0 ([] : List (S76))) else (some (([] : List (S76)), false)))) = some (r1, r2) := h
 clear h
 replace H := Option.bind_eq_some_iff.mp H
 obtain ⟨t296, A30, H⟩ := H
 replace H : (if t296 = true then (spec_LoseDisk.l0 k l1 0 l0_0 ([] : List (S76))) else (some (([] : List (S76)), false))) = some (r1, r2) := H
 have A3 := Aside0.mk A30
 clear A30
 by_cases c4 : t296 = true
 ·subst c4
  have H1 : (spec_LoseDisk.l0 k l1 0 l0_0 ([] : List (S76))) = some (r1, r2) := by rw [if_pos rfl] at H; exact H
  clear H
  have H := H1
  clear H1
  have H' := Aside0.mk H
  clear H
  go_enter Try.func62, Try.ntmps62
  go_wp2_with (first | ((with_reducible refine gate_dst (N := 2) rfl ?_); refine bx_ (N := 2) (cs := #[.slice A0_0 l0_0.length c0_0]) (t := 31) ?_; intro gb294 hg w5 hbox hb; have BK294 := mk_ (hbox); have GW294 : Aside0 (w.heap.size ≤ gb294) := bz_ hg; have GE294 := GW294; replace HB := bs_ HB hb; clear hb hbox hg) | ((with_reducible refine gate_dst (N := 4) rfl ?_); refine bx_ (N := 4) (cs := #[.slice none 0 0]) (t := 31) ?_; intro gb295 hg w6 hbox hb; have BK295 := mk_ (hbox); have GW295 : Aside0 (w.heap.size ≤ gb295) := bz_ hg; have GE295 := GW295; have NB294_295 := bl_ BK294 hg; have NB295_294 := bg_ BK294 hg; replace BK294 := bb_ BK294 hb; replace HB := bs_ HB hb; clear hb hbox hg; have hnb7 := NB294_295.out; have hnc7 := NB295_294.out; obtain ⟨hcz8_0, hfz8_0⟩ := b1_ BK294) | ((with_reducible refine gate_callee (f := 38) rfl ?_); refine goesL_ (some 11) rfl rfl Try.func38 (by kernel_rfl) rfl #[.agg #[.slice A0_0 l0_0.length c0_0]] rfl ga_ ?_; (with_reducible refine (spec_DiskOk.calls k _ _ l0_0 true _ ?side1 ?side2 A3.out).mono ?_); (case side1 => repeat (first | exact (Kd.C_below HR0_0.out HB.out) | (with_reducible refine Kd.C_alloc ?_ _) | (with_reducible refine Kd.C_drewN ?_ _) | (with_reducible refine Kd.C_drew ?_))); (case side2 => exact HC0_0.out); rintro e w9 ⟨rfl, hb⟩; refine ⟨_, rfl, ?_⟩; replace BK294 := bb_ BK294 hb; replace BK295 := bb_ BK295 hb; replace HB := bs_ HB hb; (try clear hb)) | ((with_reducible refine gate_dst (N := 6) rfl ?_); refine bx_ (N := 6) (cs := #[.slice none 0 0]) (t := 31) ?_; intro gb297 hg w10 hbox hb; have BK297 := mk_ (hbox); have GW297 : Aside0 (w.heap.size ≤ gb297) := bz_ hg; have GE297 := GW297; have NB294_297 := bl_ BK294 hg; have NB297_294 := bg_ BK294 hg; have NB295_297 := bl_ BK295 hg; have NB297_295 := bg_ BK295 hg; replace BK294 := bb_ BK294 hb; replace BK295 := bb_ BK295 hb; replace HB := bs_ HB hb; clear hb hbox hg; have hnb11 := NB297_294.out; have hnc11 := NB294_297.out; have hnb12 := NB297_295.out; have hnc12 := NB295_297.out; obtain ⟨hcz13_0, hfz13_0⟩ := b1_ BK297))
  go_loopg [7] k (fun kq v7 w' => ∃ (x7_1 : Int) (x298000_1 : List (S76)) (u298000 : Value), v7 = .int .i64 x7_1 ∧ Aside0 (spec_LoseDisk.l0 kq l1 x7_1 l0_0 x298000_1 = some (r1, r2)) ∧ Aside0 (kq ≤ k) ∧ Aside0 (Kd.R k76 76 w' w.heap.size (fun _ => True) u298000 x298000_1) ∧ Aside0 (w'.heap[gb294]? = some (.cells #[(.slice A0_0 l0_0.length c0_0)] 31 (0, 0))) ∧ Aside0 (w'.heap[gb295]? = some (.cells #[(.slice none 0 0)] 31 (0, 0))) ∧ Aside0 (w'.heap[gb297]? = some (.cells #[u298000] 31 (0, 0))) ∧ Aside0 (Below w.heap.size w w'))
  case atStart => exact ⟨(0), (([] : List (S76))), (.slice none 0 0), (by first | rfl | (simp; done) | (simp [*]; done) | (simp [bne]; done)), H', ⟨Nat.le_refl _⟩, ⟨by first | exact Kd.R_nil _ _ _ _ _ | exact Kd.N_nil _ _ _ _ _ | exact Kd.V_nil _ _ _ _ _ | exact Kd.Q_nil _ _ _ _ _ | exact Kd.S_nil _ _ _ _ _⟩, ⟨bf_⟩, ⟨bf_⟩, ⟨bu_⟩, ⟨bw_ HB⟩⟩
  case round =>
   clear H'
   try clear c1
   try clear p2
   try clear c3
   try clear c4
   try clear c6
   try clear c7
   try clear c11
   try clear c12
   try clear hcz13_0
   try clear hcz8_0
   try clear hfz13_0
   try clear hfz8_0
   obtain ⟨x7_1, x298000_1, u298000, rfl, HA, HK1, HO_298000, BK294, BK295, BK297, HB⟩ := hrel
   cases gk with
   | zero => exact absurd HA.out (by simp [spec_LoseDisk.l0])
   | succ k1 =>
    have H := HA.out
    clear HA
    simp only [spec_LoseDisk.l0] at H
    by_cases c14 : x7_1 < (l0_0.length : Int)
    ·rw [if_pos c14] at H
     have c14b0 : decide (x7_1 < (l0_0.length : Int)) = true := decide_eq_true c14
     clear c14
     by_cases c15 : 0 ≤ x7_1
     ·rw [if_pos c15] at H
      have c15b0 : decide (0 ≤ x7_1) = true := decide_eq_true c15
      clear c15
      have HC16 := Aside0.mk H
      clear H
      have hnb17 := NB294_295.out
      have hnc17 := NB295_294.out
      have hnb18 := NB294_297.out
      have hnc18 := NB297_294.out
      have hcz19_0 : wr.cell? ⟨gb294, 0, none⟩ = some (.slice A0_0 l0_0.length c0_0) := bc_ BK294 0
      have hfz19_0 := blk_frozen BK294.out 0
      have p298 : 0 ≤ (x7_1 : Int) := od_
      have q298 : x7_1 < (l0_0.length : Int) := od_
      obtain ⟨ad298, e298, hx298_0, hx298_1, hx298_2⟩ := at_T76 HR0_0.out x7_1 p298 q298
      cases e298
      replace hx298_0 := hc_ HB hx298_0
      replace hx298_1 := hc_ HB hx298_1
      replace hx298_2 := hc_ HB hx298_2
      replace p298 := eq_true p298
      replace q298 := eq_true q298
      go_upto_if 30 with (first | ((with_reducible refine gate_dst (N := 8) rfl ?_); refine bx_ (N := 8) (cs := #[.string (⟨#[]⟩ : ByteArray), .string (⟨#[]⟩ : ByteArray), .int .i64 0]) (t := 76) ?_; intro gb299 hg w20 hbox hb; have BK299 := mk_ (hbox); have GW299 : Aside0 (w.heap.size ≤ gb299) := bz_ hg; have GE299 := GW299; have NB294_299 := bl_ BK294 hg; have NB299_294 := bg_ BK294 hg; have NB295_299 := bl_ BK295 hg; have NB299_295 := bg_ BK295 hg; have NB297_299 := bl_ BK297 hg; have NB299_297 := bg_ BK297 hg; replace HO_298000 := mk_ (Kd.R_below (Kd.R_elderB (rp_ HO_298000) gb299 (Nat.le_of_eq hg.symm)) hb); replace BK294 := bb_ BK294 hb; replace BK295 := bb_ BK295 hb; replace BK297 := bb_ BK297 hb; replace HB := bs_ HB hb; clear hb hbox hg; have hnb21 := NB299_294.out; have hnc21 := NB294_299.out; have hnb22 := NB299_295.out; have hnc22 := NB295_299.out; have hnb23 := NB299_297.out; have hnc23 := NB297_299.out; obtain ⟨hcz24_0, hcz24_1, hcz24_2, hfz24_0, hfz24_1, hfz24_2⟩ := b3_ BK299))
      (try simp only [Act.put, sia_, scz_, scs_])
      go_cut [9] (fun v9 wc => ∃ (kq : Nat) (x9_15 : Int), v9 = .int .i64 x9_15 ∧ Aside0 (spec_LoseDisk.j1 kq l1 x7_1 x9_15 l0_0 x298000_1 ((rd_T76 l0_0 x7_1).f0) ((rd_T76 l0_0 x7_1).f1) ((rd_T76 l0_0 x7_1).f2) = some (r1, r2)) ∧ Aside0 (kq ≤ k1) ∧ Aside0 (Kd.R k76 76 wc w.heap.size (fun k_ => k_ ≠ gb299) u298000 x298000_1) ∧ Aside0 (wc.heap[gb294]? = some (.cells #[(.slice (some ad298) l0_0.length c0_0)] 31 (0, 0))) ∧ Aside0 (wc.heap[gb295]? = some (.cells #[(.slice none 0 0)] 31 (0, 0))) ∧ Aside0 (wc.heap[gb297]? = some (.cells #[u298000] 31 (0, 0))) ∧ Aside0 (wc.heap[gb299]? = some (.cells #[.string ((rd_T76 l0_0 x7_1).f0), .string ((rd_T76 l0_0 x7_1).f1), .int .i64 ((rd_T76 l0_0 x7_1).f2)] 76 (0, 0))) ∧ Aside0 (Below w.heap.size w wc))
      case first =>
       have H := HC16.out
       clear HC16
       by_cases c25 : x7_1 < (l1.length : Int)
       ·rw [if_pos c25] at H
        have c25b0 : decide (x7_1 < (l1.length : Int)) = true := decide_eq_true c25
        clear c25
        (first | rw [c25b0] | (simp only [i64_w, i32_w]; rw [c25b0]) | skip)
        have H' := Aside0.mk H
        clear H
        have p300 : 0 ≤ (x7_1 : Int) := od_
        have q300 : x7_1 < (l1.length : Int) := od_
        obtain ⟨ad300, e300, hx300_0⟩ := Kd.at_int HR1.out x7_1 p300 q300
        cases e300
        have hn300_0 : ad300.block ≠ gb299 := Nat.ne_of_lt (Nat.lt_of_lt_of_le (by have := World.block_lt_of_cell? _ _ hx300_0; first | rwa [add_block] at this | exact this) GW299.out)
        have hn300_1 : ad300.block ≠ gb299 := Nat.ne_of_lt (Nat.lt_of_lt_of_le (by have := World.block_lt_of_cell? _ _ hx300_0; first | rwa [add_block] at this | exact this) GW299.out)
        have hn300_2 : ad300.block ≠ gb299 := Nat.ne_of_lt (Nat.lt_of_lt_of_le (by have := World.block_lt_of_cell? _ _ hx300_0; first | rwa [add_block] at this | exact this) GW299.out)
        replace hx300_0 := hc_ HB hx300_0
        replace hx300_0 := (cell_far (p := ⟨gb299, 0, none⟩) ab_ (.string ((rd_T76 l0_0 x7_1).f0))).trans hx300_0
        replace hx300_0 := (cell_far (p := ⟨gb299, 1, none⟩) ab_ (.string ((rd_T76 l0_0 x7_1).f1))).trans hx300_0
        replace hx300_0 := (cell_far (p := ⟨gb299, 2, none⟩) ab_ (.int .i64 ((rd_T76 l0_0 x7_1).f2))).trans hx300_0
        clear hn300_0; clear hn300_1; clear hn300_2
        replace p300 := eq_true p300
        replace q300 := eq_true q300
        go_wp2
        go_meet
        case rel => exact ⟨_, (rd l1 x7_1), (by first | rfl | (simp; done) | (simp [*]; done) | (simp [bne]; done)), H', ⟨by have := HK1.out; first | omega | exact Nat.le_refl _⟩, ⟨by (with_reducible repeat (first | apply Kd.R_alloc | apply Kd.R_drewN | apply Kd.R_drew)); exact Kd.R_mono (Kd.R_far (p := ⟨gb299, 2, none⟩) (Kd.R_far (p := ⟨gb299, 1, none⟩) (Kd.R_far (p := ⟨gb299, 0, none⟩) (Kd.R_mono HO_298000.out (fun k_ hk => (⟨hk, hk.2⟩ : _ ∧ k_ ≠ gb299))) (fun _ hk => hk.2) (.string ((rd_T76 l0_0 x7_1).f0))) (fun _ hk => hk.2) (.string ((rd_T76 l0_0 x7_1).f1))) (fun _ hk => hk.2) (.int .i64 ((rd_T76 l0_0 x7_1).f2))) (fun _ hk => hk.1.2)⟩, ⟨bf_⟩, ⟨bf_⟩, ⟨bf_⟩, ⟨bu_⟩, ⟨bw_ HB⟩⟩
       ·rw [if_neg c25] at H
        have c25b0 : decide (x7_1 < (l1.length : Int)) = false := decide_eq_false c25
        clear c25
        (first | rw [c25b0] | (simp only [i64_w, i32_w]; rw [c25b0]) | skip)
        have H' := Aside0.mk H
        clear H
        go_wp2
        go_meet
        case rel => exact ⟨_, (0), (by first | rfl | (simp; done) | (simp [*]; done) | (simp [bne]; done)), H', ⟨by have := HK1.out; first | omega | exact Nat.le_refl _⟩, ⟨by (with_reducible repeat (first | apply Kd.R_alloc | apply Kd.R_drewN | apply Kd.R_drew)); exact Kd.R_mono (Kd.R_far (p := ⟨gb299, 2, none⟩) (Kd.R_far (p := ⟨gb299, 1, none⟩) (Kd.R_far (p := ⟨gb299, 0, none⟩) (Kd.R_mono HO_298000.out (fun k_ hk => (⟨hk, hk.2⟩ : _ ∧ k_ ≠ gb299))) (fun _ hk => hk.2) (.string ((rd_T76 l0_0 x7_1).f0))) (fun _ hk => hk.2) (.string ((rd_T76 l0_0 x7_1).f1))) (fun _ hk => hk.2) (.int .i64 ((rd_T76 l0_0 x7_1).f2))) (fun _ hk => hk.1.2)⟩, ⟨bf_⟩, ⟨bf_⟩, ⟨bf_⟩, ⟨bu_⟩, ⟨bw_ HB⟩⟩
      case rest =>
       clear HC16
       try clear c1
       try clear c2
       try clear p2
       try clear q2
       try clear hx2
       try clear c3
       try clear p3
       try clear q3
       try clear hx3
       try clear c4
       try clear c6
       try clear c7
       try clear c11
       try clear c12
       try clear c14
       try clear c14b0
       try clear c15
       try clear c15b0
       try clear c17
       try clear c18
       try clear c21
       try clear c22
       try clear c23
       try clear c25
       try clear c25b0
       try clear hcz13_0
       try clear hcz19_0
       try clear hcz24_0
       try clear hcz24_1
       try clear hcz24_2
       try clear hcz8_0
       try clear hfz13_0
       try clear hfz19_0
       try clear hfz24_0
       try clear hfz24_1
       try clear hfz24_2
       try clear hfz8_0
       try clear hx298_0
       try clear hx298_1
       try clear hx298_2
       try clear hx300_0
       try clear p2
       try clear p298
       try clear p300
       try clear q298
       try clear q300
       obtain ⟨kq, x9_15, rfl, HA, HJ15, HO_298000, BK294, BK295, BK297, BK299, HB⟩ := hcut
       cases kq with
       | zero => exact absurd HA.out (by simp [spec_LoseDisk.j1])
       | succ kj15 =>
        have H := HA.out
        clear HA
        simp only [spec_LoseDisk.j1] at H
        by_cases c26 : x9_15 > (((rd_T76 l0_0 x7_1).f1).size : Int)
        ·rw [if_pos c26] at H
         have c26b0 : decide ((((rd_T76 l0_0 x7_1).f1).size : Int) < x9_15) = true := decide_eq_true c26
         clear c26
         by_cases c27 : (((rd_T76 l0_0 x7_1).f1).size : Int) < ((rd_T76 l0_0 x7_1).f2)
         ·rw [if_pos c27] at H
          have c27b0 : decide ((((rd_T76 l0_0 x7_1).f1).size : Int) < ((rd_T76 l0_0 x7_1).f2)) = true := decide_eq_true c27
          clear c27
          by_cases c28 : 0 ≤ ((rd_T76 l0_0 x7_1).f2)
          ·rw [if_pos c28] at H
           have c28b0 := eq_true c28
           have c28b1 : decide (0 ≤ ((rd_T76 l0_0 x7_1).f2)) = true := decide_eq_true c28
           clear c28
           by_cases c29 : ((rd_T76 l0_0 x7_1).f2) ≤ (((rd_T76 l0_0 x7_1).f1).size : Int)
           ·rw [if_pos c29] at H
            have c29b0 := eq_true c29
            have c29b1 : decide (((rd_T76 l0_0 x7_1).f2) ≤ (((rd_T76 l0_0 x7_1).f1).size : Int)) = true := decide_eq_true c29
            clear c29
            by_cases c30 : x298000_1.length < 3518437208883
            ·rw [if_pos c30] at H
             have LMc30 := Aside0.mk c30
             clear c30
             obtain ⟨y301, hy301⟩ : ∃ y_ : List (S76), y_ = (x298000_1 ++ [(⟨((rd_T76 l0_0 x7_1).f0), ((rd_T76 l0_0 x7_1).f1).extract 0 (((rd_T76 l0_0 x7_1).f2) : Int).toNat, ((rd_T76 l0_0 x7_1).f2)⟩ : S76)]) := ⟨_, rfl⟩
             replace H : (spec_LoseDisk.l0 kj15 l1 (wrap64 (x7_1 + 1)) l0_0 y301) = some (r1, r2) := by first | (rw [hy301]; with_reducible exact H) | (have H2_ := (Option.bind_some _ _).symm.trans H; rw [hy301]; with_reducible exact H2_) | (have H2_ := (Option.bind_some _ _).symm.trans H; with_reducible exact H2_) | with_reducible exact H | (rw [hy301]; exact H) | exact H
             have Ny301 := Aside0.mk hy301
             clear hy301
             have H' := Aside0.mk H
             clear H
             have hnb31 := NB299_294.out
             have hnc31 := NB294_299.out
             have hnb32 := NB299_295.out
             have hnc32 := NB295_299.out
             have hnb33 := NB299_297.out
             have hnc33 := NB297_299.out
             have hcz34_0 : wc.cell? ⟨gb299, 0, none⟩ = some (.string ((rd_T76 l0_0 x7_1).f0)) := bc_ BK299 0
             have hcz34_1 : wc.cell? ⟨gb299, 1, none⟩ = some (.string ((rd_T76 l0_0 x7_1).f1)) := bc_ BK299 1
             have hcz34_2 : wc.cell? ⟨gb299, 2, none⟩ = some (.int .i64 ((rd_T76 l0_0 x7_1).f2)) := bc_ BK299 2
             have hfz34_0 := blk_frozen BK299.out 0
             have hfz34_1 := blk_frozen BK299.out 1
             have hfz34_2 := blk_frozen BK299.out 2
             try go_wp2
             have n0_ := mk_ (Kd.R_drew HO_298000.out)
             have n1_ := mk_ (blk_drew BK294.out)
             have n2_ := mk_ (blk_drew BK295.out)
             have n3_ := mk_ (blk_drew BK297.out)
             have n4_ := mk_ (blk_drew BK299.out)
             have n5_ := mk_ (below_drew1 HB.out)
             clear HO_298000; clear BK294; clear BK295; clear BK297; clear BK299; clear HB; have HO_298000 := n0_; have BK294 := n1_; have BK295 := n2_; have BK297 := n3_; have BK299 := n4_; have HB := n5_; clear n0_ n1_ n2_ n3_ n4_ n5_
             refine start_ (n := 14) (S := fun w' => w'.cell? ⟨gb297, 0, none⟩ = some (u298000) ∧ w'.cell? ⟨gb299, 0, none⟩ = some (.string ((rd_T76 l0_0 x7_1).f0)) ∧ w'.cell? ⟨gb299, 1, none⟩ = some (.string ((rd_T76 l0_0 x7_1).f1)) ∧ w'.cell? ⟨gb299, 2, none⟩ = some (.int .i64 ((rd_T76 l0_0 x7_1).f2))) (ds := [13]) #[false, false, false, false, false, false, false, false, false, false, false, false, false, false] (by kernel_rfl) rfl rfl ⟨bc_ BK297 0, bc_ BK299 0, bc_ BK299 1, bc_ BK299 2⟩ (fun hHeld => ?_); refine with_tabW spec_LoseDisk.tab15 spec_LoseDisk.bits15 (fun HT_ HW_ => ?_)
             generalize wc.drew = w35 at HO_298000 BK294 BK295 BK297 BK299 HB hHeld ⊢
             refine pure_ (i := 0) (N := some 49) (v := ?_) (a' := ?_) #[true, false, false, false, false, false, false, false, false, false, false, false, false, false] rfl rfl (any_of HT_.out (by kernel_rfl)) (fun _ _ _ h => h) (Or.inl ⟨by rfl, ?_⟩) ?_ ?_
             rotate_left
             ·intro w'
              go_simp
              with_reducible rfl
             rotate_left
             ·simp only [Act.put, sia_, scz_, scs_, i64_w, i32_w]
              rfl
             refine pure_ (i := 2) (N := some 51) (v := ?_) (a' := ?_) #[true, false, true, false, false, false, false, false, false, false, false, false, false, false] rfl rfl (any_of HT_.out (by kernel_rfl)) (fun _ _ _ h => h) (Or.inl ⟨by rfl, ?_⟩) ?_ ?_
             rotate_left
             ·intro w'
              go_simp
              with_reducible rfl
             rotate_left
             ·simp only [Act.put, sia_, scz_, scs_, i64_w, i32_w]
              rfl
             refine pure_ (i := 4) (N := some 53) (v := ?_) (a' := ?_) #[true, false, true, false, true, false, false, false, false, false, false, false, false, false] rfl rfl (any_of HT_.out (by kernel_rfl)) (fun _ _ _ h => h) (Or.inl ⟨by rfl, ?_⟩) ?_ ?_
             rotate_left
             ·intro w'
              go_simp
              with_reducible rfl
             rotate_left
             ·simp only [Act.put, sia_, scz_, scs_, i64_w, i32_w]
              rfl
             refine pure_ (i := 6) (N := some 55) (v := ?_) (a' := ?_) #[true, false, true, false, true, false, true, false, false, false, false, false, false, false] rfl rfl (any_of HT_.out (by kernel_rfl)) (fun _ _ _ h => h) (Or.inl ⟨by rfl, ?_⟩) ?_ ?_
             rotate_left
             ·intro w'
              go_simp
              with_reducible rfl
             rotate_left
             ·simp only [Act.put, sia_, scz_, scs_, i64_w, i32_w]
              rfl
             refine pure_ (i := 8) (N := some 57) (v := ?_) (a' := ?_) #[true, false, true, false, true, false, true, false, true, false, false, false, false, false] rfl rfl (any_of HT_.out (by kernel_rfl)) (fun _ _ _ h => h) (Or.inl ⟨by rfl, ?_⟩) ?_ ?_
             rotate_left
             ·intro w'
              go_simp
              with_reducible rfl
             rotate_left
             ·simp only [Act.put, sia_, scz_, scs_, i64_w, i32_w]
              rfl
             refine take_ (i := 1) (N := some 50) (v := ?_) (a' := ?_) #[true, true, true, false, true, false, true, false, true, false, false, false, false, false] rfl rfl (take_ofW HT_.out HW_.out (by kernel_rfl)) (fun _ _ _ h => h) (Or.inl ⟨by rfl, ?_⟩) hHeld ?_ ?_
             rotate_left
             ·rintro w' ⟨s0, s1, s2, s3⟩
              go_simp
              with_reducible rfl
             rotate_left
             ·simp only [Act.put, sia_, scz_, scs_, i64_w, i32_w]
              rfl
             refine take_ (i := 3) (N := some 52) (v := ?_) (a' := ?_) #[true, true, true, true, true, false, true, false, true, false, false, false, false, false] rfl rfl (take_ofW HT_.out HW_.out (by kernel_rfl)) (fun _ _ _ h => h) (Or.inl ⟨by rfl, ?_⟩) hHeld ?_ ?_
             rotate_left
             ·rintro w' ⟨s0, s1, s2, s3⟩
              go_simp
              with_reducible rfl
             rotate_left
             ·simp only [Act.put, sia_, scz_, scs_, i64_w, i32_w]
              rfl
             refine take_ (i := 5) (N := some 54) (v := ?_) (a' := ?_) #[true, true, true, true, true, true, true, false, true, false, false, false, false, false] rfl rfl (take_ofW HT_.out HW_.out (by kernel_rfl)) (fun _ _ _ h => h) (Or.inl ⟨by rfl, ?_⟩) hHeld ?_ ?_
             rotate_left
             ·rintro w' ⟨s0, s1, s2, s3⟩
              go_simp
              with_reducible rfl
             rotate_left
             ·simp only [Act.put, sia_, scz_, scs_, i64_w, i32_w]
              rfl
             refine pure_ (i := 7) (N := some 56) (v := ?_) (a' := ?_) #[true, true, true, true, true, true, true, true, true, false, false, false, false, false] rfl rfl (any_of HT_.out (by kernel_rfl)) (fun _ _ _ h => h) (Or.inl ⟨by rfl, ?_⟩) ?_ ?_
             rotate_left
             ·intro w'
              go_simp
              with_reducible rfl
             rotate_left
             ·simp only [Act.put, sia_, scz_, scs_, i64_w, i32_w]
              rfl
             refine pure_ (i := 9) (N := some 58) (v := ?_) (a' := ?_) #[true, true, true, true, true, true, true, true, true, true, false, false, false, false] rfl rfl (any_of HT_.out (by kernel_rfl)) (fun _ _ _ h => h) (Or.inl ⟨by rfl, ?_⟩) ?_ ?_
             rotate_left
             ·intro w'
              go_simp
              with_reducible rfl
             rotate_left
             ·simp only [Act.put, sia_, scz_, scs_, i64_w, i32_w]
              rfl
             refine one_ (i := 10) (N := some 59) #[true, true, true, true, true, true, true, true, true, true, true, false, false, false] rfl rfl (one_of HT_.out (by kernel_rfl)) (by decide) (fun K hK => ?_)
             refine value_ (w1 := ?_) (v := ?_) (by rfl) rfl ?_ ?_
             rotate_left 2
             ·go_simp
              constructor
              ·rfl
              ·rfl
             refine hK.out _ _ ⟨(blk_cell (blk_alloc BK297.out _) 0).trans rfl, (blk_cell (blk_alloc BK299.out _) 0).trans rfl, (blk_cell (blk_alloc BK299.out _) 1).trans rfl, (blk_cell (blk_alloc BK299.out _) 2).trans rfl⟩ (fun hHeld => ?_)
             clear hK K
             refine norm_ (a' := ?_) ?_ ?_
             rotate_left
             ·show Act.put _ (some 59) _ = _
              simp only [Act.put, sia_, scz_, scs_, i64_w, i32_w]
              rfl
             refine one_ (i := 11) (N := some 60) #[true, true, true, true, true, true, true, true, true, true, true, true, false, false] rfl rfl (one_of HT_.out (by kernel_rfl)) (by decide) (fun K hK => ?_)
             refine Kd.R_append_step k76 (w0 := w) w.heap.size (by rfl) (.tmp 50) (.tmp 59) 29 76 (.agg #[(.string ⟨#[]⟩), (.string ⟨#[]⟩), (.int .i64 0)]) 40 rfl Try.underlying29 info76 rfl (by decide) (by omega) u298000 x298000_1 (⟨((rd_T76 l0_0 x7_1).f0), ((rd_T76 l0_0 x7_1).f1).extract 0 (((rd_T76 l0_0 x7_1).f2) : Int).toNat, ((rd_T76 l0_0 x7_1).f2)⟩ : S76) [.string ((rd_T76 l0_0 x7_1).f0), .string (((rd_T76 l0_0 x7_1).f1).extract 0 (((rd_T76 l0_0 x7_1).f2) : Int).toNat), .int .i64 ((rd_T76 l0_0 x7_1).f2)] (fun k_ => k_ ≠ gb299) (fun _ => False) rfl rfl ?aP (fun _ hk => hk.elim) ?aF ?aO ?aB ?aS ?aL ?_
             (case aP => exact k76_mkM _ _ _ (⟨((rd_T76 l0_0 x7_1).f0), ((rd_T76 l0_0 x7_1).f1).extract 0 (((rd_T76 l0_0 x7_1).f2) : Int).toNat, ((rd_T76 l0_0 x7_1).f2)⟩ : S76))
             (case aB => exact (bw_ HB))
             (case aF => exact (fun k_ hk => Kd.freshB (g := gb299) (o := .cells #[.string ((rd_T76 l0_0 x7_1).f0), .string ((rd_T76 l0_0 x7_1).f1), .int .i64 ((rd_T76 l0_0 x7_1).f2)] 76 (0, 0)) (bp_ BK299) k_ hk))
             (case aO => exact (rp_ HO_298000))
             (case aS => exact (below_size (bw_ HB)))
             (case aL => have := LMc30.out; omega)
             intro v302 w36 ho hb hg hat
             rw [← Ny301.out] at ho
             have n0_ := mk_ (blk_grown (g := gb294) (o := .cells #[.slice (some ad298) l0_0.length c0_0] 31 (0, 0)) (bp_ BK294) hg (Kd.R_ne HO_298000.out BK294.out (by decide)))
             have n1_ := mk_ (blk_grown (g := gb295) (o := .cells #[.slice none 0 0] 31 (0, 0)) (bp_ BK295) hg (Kd.R_ne HO_298000.out BK295.out (by decide)))
             have n2_ := mk_ (blk_grown (g := gb297) (o := .cells #[u298000] 31 (0, 0)) (bp_ BK297) hg (Kd.R_ne HO_298000.out BK297.out (by decide)))
             have n3_ := mk_ (blk_grown (g := gb299) (o := .cells #[.string ((rd_T76 l0_0 x7_1).f0), .string ((rd_T76 l0_0 x7_1).f1), .int .i64 ((rd_T76 l0_0 x7_1).f2)] 76 (0, 0)) (bp_ BK299) hg (Kd.R_away HO_298000.out (fun _ hk => hk)))
             have n4_ := mk_ (hb)
             have n5_ := mk_ (ho)
             clear BK294; clear BK295; clear BK297; clear BK299; clear HB; clear HO_298000; have BK294 := n0_; have BK295 := n1_; have BK297 := n2_; have BK299 := n3_; have HB := n4_; have HO303 := n5_; clear n0_ n1_ n2_ n3_ n4_ n5_; clear ho hb hg hat
             obtain ⟨Ao37, co37, eo37⟩ := Kd.R_slice HO303.out
             (first | subst eo37 | (injection eo37 with f1_ f2_ f3_; have f4_ := f1_.symm; have f5_ := f3_.symm; clear f1_ f2_ f3_; subst f4_; subst f5_))
             refine hK.out _ _ ⟨bc_ BK297 0, bc_ BK299 0, bc_ BK299 1, bc_ BK299 2⟩ (fun hHeld => ?_)
             clear hK K
             refine norm_ (a' := ?_) ?_ ?_
             rotate_left
             ·show Act.put _ (some 60) _ = _
              simp only [Act.put, sia_, scz_, scs_, i64_w, i32_w]
              rfl
             refine pure_ (i := 12) (N := some 61) (v := ?_) (a' := ?_) #[true, true, true, true, true, true, true, true, true, true, true, true, true, false] rfl rfl (any_of HT_.out (by kernel_rfl)) (fun _ _ _ h => h) (Or.inl ⟨by rfl, ?_⟩) ?_ ?_
             rotate_left
             ·intro w'
              go_simp
              with_reducible rfl
             rotate_left
             ·simp only [Act.put, sia_, scz_, scs_, i64_w, i32_w]
              rfl
             refine last_ (i := 13) (N := none) #[true, true, true, true, true, true, true, true, true, true, true, true, true, true] rfl rfl (one_of HT_.out (by kernel_rfl)) (by decide) (fun K hK => ?_)
             have hs38 : w36.cell? ⟨gb297, 0, none⟩ = some (u298000) := bc_ BK297 0
             have hfs38 := blk_frozen BK297.out 0
             have hns38_0 := NB294_297.out
             have hns38_1 := NB295_297.out
             have hns38_3 := NB299_297.out
             have hms38_0 := NB297_294.out
             have hms38_1 := NB297_295.out
             have hms38_3 := NB297_299.out
             refine skip_ (w1 := ?_) (by rfl) rfl ?_ ?_
             rotate_left
             ·go_simp
              rfl
             refine hK.out _ _ ?_
             clear hK K
             refine done_ (done_of HT_.out (by kernel_rfl)) ?_
             try go_wp2
             go_roundg kj15
             case measure => have := HK1.out; have := HJ15.out; omega
             case rel => exact ⟨(wrap64 (x7_1 + 1)), (y301), (.slice Ao37 y301.length co37), (by first | rfl | (simp; done) | (simp [*]; done) | (simp [bne]; done)), H', ⟨by have := HK1.out; have := HJ15.out; omega⟩, ⟨by (with_reducible repeat (first | apply Kd.R_alloc | apply Kd.R_drewN | apply Kd.R_drew)); exact Kd.R_mono (Kd.R_far (p := ⟨gb297, 0, none⟩) (Kd.R_types HO303.out BK297.out (by decide)) (fun _ hk => hk.2) (.slice Ao37 y301.length co37)) (fun _ hk => trivial)⟩, ⟨bf_⟩, ⟨bf_⟩, ⟨bu_⟩, ⟨bw_ HB⟩⟩
            ·rw [if_neg c30] at H
             exact absurd H (by simp)
           ·rw [if_neg c29] at H
            exact absurd H (by simp)
          ·rw [if_neg c28] at H
           exact absurd H (by simp)
         ·rw [if_neg c27] at H
          have c27b0 : decide ((((rd_T76 l0_0 x7_1).f1).size : Int) < ((rd_T76 l0_0 x7_1).f2)) = false := decide_eq_false c27
          clear c27
          by_cases c39 : 0 ≤ (((rd_T76 l0_0 x7_1).f1).size : Int)
          ·rw [if_pos c39] at H
           have c39b0 := eq_true c39
           have c39b1 : decide (0 ≤ (((rd_T76 l0_0 x7_1).f1).size : Int)) = true := decide_eq_true c39
           clear c39
           by_cases c40 : (((rd_T76 l0_0 x7_1).f1).size : Int) ≤ (((rd_T76 l0_0 x7_1).f1).size : Int)
           ·rw [if_pos c40] at H
            have c40b0 := eq_true c40
            have c40b1 : decide ((((rd_T76 l0_0 x7_1).f1).size : Int) ≤ (((rd_T76 l0_0 x7_1).f1).size : Int)) = true := decide_eq_true c40
            clear c40
            by_cases c41 : x298000_1.length < 3518437208883
            ·rw [if_pos c41] at H
             have LMc41 := Aside0.mk c41
             clear c41
             obtain ⟨y304, hy304⟩ : ∃ y_ : List (S76), y_ = (x298000_1 ++ [(⟨((rd_T76 l0_0 x7_1).f0), ((rd_T76 l0_0 x7_1).f1).extract 0 ((((rd_T76 l0_0 x7_1).f1).size : Int) : Int).toNat, (((rd_T76 l0_0 x7_1).f1).size : Int)⟩ : S76)]) := ⟨_, rfl⟩
             replace H : (spec_LoseDisk.l0 kj15 l1 (wrap64 (x7_1 + 1)) l0_0 y304) = some (r1, r2) := by first | (rw [hy304]; with_reducible exact H) | (have H2_ := (Option.bind_some _ _).symm.trans H; rw [hy304]; with_reducible exact H2_) | (have H2_ := (Option.bind_some _ _).symm.trans H; with_reducible exact H2_) | with_reducible exact H | (rw [hy304]; exact H) | exact H
             have Ny304 := Aside0.mk hy304
             clear hy304
             have H' := Aside0.mk H
             clear H
             have hnb42 := NB299_294.out
             have hnc42 := NB294_299.out
             have hnb43 := NB299_295.out
             have hnc43 := NB295_299.out
             have hnb44 := NB299_297.out
             have hnc44 := NB297_299.out
             have hcz45_0 : wc.cell? ⟨gb299, 0, none⟩ = some (.string ((rd_T76 l0_0 x7_1).f0)) := bc_ BK299 0
             have hcz45_1 : wc.cell? ⟨gb299, 1, none⟩ = some (.string ((rd_T76 l0_0 x7_1).f1)) := bc_ BK299 1
             have hcz45_2 : wc.cell? ⟨gb299, 2, none⟩ = some (.int .i64 ((rd_T76 l0_0 x7_1).f2)) := bc_ BK299 2
             have hfz45_0 := blk_frozen BK299.out 0
             have hfz45_1 := blk_frozen BK299.out 1
             have hfz45_2 := blk_frozen BK299.out 2
             try go_wp2
             have n0_ := mk_ (Kd.R_drew HO_298000.out)
             have n1_ := mk_ (blk_drew BK294.out)
             have n2_ := mk_ (blk_drew BK295.out)
             have n3_ := mk_ (blk_drew BK297.out)
             have n4_ := mk_ (blk_drew BK299.out)
             have n5_ := mk_ (below_drew1 HB.out)
             clear HO_298000; clear BK294; clear BK295; clear BK297; clear BK299; clear HB; have HO_298000 := n0_; have BK294 := n1_; have BK295 := n2_; have BK297 := n3_; have BK299 := n4_; have HB := n5_; clear n0_ n1_ n2_ n3_ n4_ n5_
             refine start_ (n := 14) (S := fun w' => w'.cell? ⟨gb297, 0, none⟩ = some (u298000) ∧ w'.cell? ⟨gb299, 0, none⟩ = some (.string ((rd_T76 l0_0 x7_1).f0)) ∧ w'.cell? ⟨gb299, 1, none⟩ = some (.string ((rd_T76 l0_0 x7_1).f1)) ∧ w'.cell? ⟨gb299, 2, none⟩ = some (.int .i64 ((rd_T76 l0_0 x7_1).f2))) (ds := [13]) #[false, false, false, false, false, false, false, false, false, false, false, false, false, false] (by kernel_rfl) rfl rfl ⟨bc_ BK297 0, bc_ BK299 0, bc_ BK299 1, bc_ BK299 2⟩ (fun hHeld => ?_); refine with_tabW spec_LoseDisk.tab15 spec_LoseDisk.bits15 (fun HT_ HW_ => ?_)
             generalize wc.drew = w46 at HO_298000 BK294 BK295 BK297 BK299 HB hHeld ⊢
             refine pure_ (i := 0) (N := some 49) (v := ?_) (a' := ?_) #[true, false, false, false, false, false, false, false, false, false, false, false, false, false] rfl rfl (any_of HT_.out (by kernel_rfl)) (fun _ _ _ h => h) (Or.inl ⟨by rfl, ?_⟩) ?_ ?_
             rotate_left
             ·intro w'
              go_simp
              with_reducible rfl
             rotate_left
             ·simp only [Act.put, sia_, scz_, scs_, i64_w, i32_w]
              rfl
             refine pure_ (i := 2) (N := some 51) (v := ?_) (a' := ?_) #[true, false, true, false, false, false, false, false, false, false, false, false, false, false] rfl rfl (any_of HT_.out (by kernel_rfl)) (fun _ _ _ h => h) (Or.inl ⟨by rfl, ?_⟩) ?_ ?_
             rotate_left
             ·intro w'
              go_simp
              with_reducible rfl
             rotate_left
             ·simp only [Act.put, sia_, scz_, scs_, i64_w, i32_w]
              rfl
             refine pure_ (i := 4) (N := some 53) (v := ?_) (a' := ?_) #[true, false, true, false, true, false, false, false, false, false, false, false, false, false] rfl rfl (any_of HT_.out (by kernel_rfl)) (fun _ _ _ h => h) (Or.inl ⟨by rfl, ?_⟩) ?_ ?_
             rotate_left
             ·intro w'
              go_simp
              with_reducible rfl
             rotate_left
             ·simp only [Act.put, sia_, scz_, scs_, i64_w, i32_w]
              rfl
             refine pure_ (i := 6) (N := some 55) (v := ?_) (a' := ?_) #[true, false, true, false, true, false, true, false, false, false, false, false, false, false] rfl rfl (any_of HT_.out (by kernel_rfl)) (fun _ _ _ h => h) (Or.inl ⟨by rfl, ?_⟩) ?_ ?_
             rotate_left
             ·intro w'
              go_simp
              with_reducible rfl
             rotate_left
             ·simp only [Act.put, sia_, scz_, scs_, i64_w, i32_w]
              rfl
             refine pure_ (i := 8) (N := some 57) (v := ?_) (a' := ?_) #[true, false, true, false, true, false, true, false, true, false, false, false, false, false] rfl rfl (any_of HT_.out (by kernel_rfl)) (fun _ _ _ h => h) (Or.inl ⟨by rfl, ?_⟩) ?_ ?_
             rotate_left
             ·intro w'
              go_simp
              with_reducible rfl
             rotate_left
             ·simp only [Act.put, sia_, scz_, scs_, i64_w, i32_w]
              rfl
             refine take_ (i := 1) (N := some 50) (v := ?_) (a' := ?_) #[true, true, true, false, true, false, true, false, true, false, false, false, false, false] rfl rfl (take_ofW HT_.out HW_.out (by kernel_rfl)) (fun _ _ _ h => h) (Or.inl ⟨by rfl, ?_⟩) hHeld ?_ ?_
             rotate_left
             ·rintro w' ⟨s0, s1, s2, s3⟩
              go_simp
              with_reducible rfl
             rotate_left
             ·simp only [Act.put, sia_, scz_, scs_, i64_w, i32_w]
              rfl
             refine take_ (i := 3) (N := some 52) (v := ?_) (a' := ?_) #[true, true, true, true, true, false, true, false, true, false, false, false, false, false] rfl rfl (take_ofW HT_.out HW_.out (by kernel_rfl)) (fun _ _ _ h => h) (Or.inl ⟨by rfl, ?_⟩) hHeld ?_ ?_
             rotate_left
             ·rintro w' ⟨s0, s1, s2, s3⟩
              go_simp
              with_reducible rfl
             rotate_left
             ·simp only [Act.put, sia_, scz_, scs_, i64_w, i32_w]
              rfl
             refine take_ (i := 5) (N := some 54) (v := ?_) (a' := ?_) #[true, true, true, true, true, true, true, false, true, false, false, false, false, false] rfl rfl (take_ofW HT_.out HW_.out (by kernel_rfl)) (fun _ _ _ h => h) (Or.inl ⟨by rfl, ?_⟩) hHeld ?_ ?_
             rotate_left
             ·rintro w' ⟨s0, s1, s2, s3⟩
              go_simp
              with_reducible rfl
             rotate_left
             ·simp only [Act.put, sia_, scz_, scs_, i64_w, i32_w]
              rfl
             refine pure_ (i := 7) (N := some 56) (v := ?_) (a' := ?_) #[true, true, true, true, true, true, true, true, true, false, false, false, false, false] rfl rfl (any_of HT_.out (by kernel_rfl)) (fun _ _ _ h => h) (Or.inl ⟨by rfl, ?_⟩) ?_ ?_
             rotate_left
             ·intro w'
              go_simp
              with_reducible rfl
             rotate_left
             ·simp only [Act.put, sia_, scz_, scs_, i64_w, i32_w]
              rfl
             refine pure_ (i := 9) (N := some 58) (v := ?_) (a' := ?_) #[true, true, true, true, true, true, true, true, true, true, false, false, false, false] rfl rfl (any_of HT_.out (by kernel_rfl)) (fun _ _ _ h => h) (Or.inl ⟨by rfl, ?_⟩) ?_ ?_
             rotate_left
             ·intro w'
              go_simp
              with_reducible rfl
             rotate_left
             ·simp only [Act.put, sia_, scz_, scs_, i64_w, i32_w]
              rfl
             refine one_ (i := 10) (N := some 59) #[true, true, true, true, true, true, true, true, true, true, true, false, false, false] rfl rfl (one_of HT_.out (by kernel_rfl)) (by decide) (fun K hK => ?_)
             refine value_ (w1 := ?_) (v := ?_) (by rfl) rfl ?_ ?_
             rotate_left 2
             ·go_simp
              constructor
              ·rfl
              ·rfl
             refine hK.out _ _ ⟨(blk_cell (blk_alloc BK297.out _) 0).trans rfl, (blk_cell (blk_alloc BK299.out _) 0).trans rfl, (blk_cell (blk_alloc BK299.out _) 1).trans rfl, (blk_cell (blk_alloc BK299.out _) 2).trans rfl⟩ (fun hHeld => ?_)
             clear hK K
             refine norm_ (a' := ?_) ?_ ?_
             rotate_left
             ·show Act.put _ (some 59) _ = _
              simp only [Act.put, sia_, scz_, scs_, i64_w, i32_w]
              rfl
             refine one_ (i := 11) (N := some 60) #[true, true, true, true, true, true, true, true, true, true, true, true, false, false] rfl rfl (one_of HT_.out (by kernel_rfl)) (by decide) (fun K hK => ?_)
             refine Kd.R_append_step k76 (w0 := w) w.heap.size (by rfl) (.tmp 50) (.tmp 59) 29 76 (.agg #[(.string ⟨#[]⟩), (.string ⟨#[]⟩), (.int .i64 0)]) 40 rfl Try.underlying29 info76 rfl (by decide) (by omega) u298000 x298000_1 (⟨((rd_T76 l0_0 x7_1).f0), ((rd_T76 l0_0 x7_1).f1).extract 0 ((((rd_T76 l0_0 x7_1).f1).size : Int) : Int).toNat, (((rd_T76 l0_0 x7_1).f1).size : Int)⟩ : S76) [.string ((rd_T76 l0_0 x7_1).f0), .string (((rd_T76 l0_0 x7_1).f1)), .int .i64 (((rd_T76 l0_0 x7_1).f1).size : Int)] (fun k_ => k_ ≠ gb299) (fun _ => False) rfl rfl ?aP (fun _ hk => hk.elim) ?aF ?aO ?aB ?aS ?aL ?_
             (case aP => have e_ : (((rd_T76 l0_0 x7_1).f1)).extract 0 (((((rd_T76 l0_0 x7_1).f1)).size : Int) : Int).toNat = ((rd_T76 l0_0 x7_1).f1) := Go.Proofs.Ythbaoefbccdioaa.M.extract_all _; rw [e_]; exact k76_mkM _ _ _ (⟨((rd_T76 l0_0 x7_1).f0), ((rd_T76 l0_0 x7_1).f1), ((((rd_T76 l0_0 x7_1).f1)).size : Int)⟩ : S76))
             (case aB => exact (bw_ HB))
             (case aF => exact (fun k_ hk => Kd.freshB (g := gb299) (o := .cells #[.string ((rd_T76 l0_0 x7_1).f0), .string ((rd_T76 l0_0 x7_1).f1), .int .i64 ((rd_T76 l0_0 x7_1).f2)] 76 (0, 0)) (bp_ BK299) k_ hk))
             (case aO => exact (rp_ HO_298000))
             (case aS => exact (below_size (bw_ HB)))
             (case aL => have := LMc41.out; omega)
             intro v305 w47 ho hb hg hat
             rw [← Ny304.out] at ho
             have n0_ := mk_ (blk_grown (g := gb294) (o := .cells #[.slice (some ad298) l0_0.length c0_0] 31 (0, 0)) (bp_ BK294) hg (Kd.R_ne HO_298000.out BK294.out (by decide)))
             have n1_ := mk_ (blk_grown (g := gb295) (o := .cells #[.slice none 0 0] 31 (0, 0)) (bp_ BK295) hg (Kd.R_ne HO_298000.out BK295.out (by decide)))
             have n2_ := mk_ (blk_grown (g := gb297) (o := .cells #[u298000] 31 (0, 0)) (bp_ BK297) hg (Kd.R_ne HO_298000.out BK297.out (by decide)))
             have n3_ := mk_ (blk_grown (g := gb299) (o := .cells #[.string ((rd_T76 l0_0 x7_1).f0), .string ((rd_T76 l0_0 x7_1).f1), .int .i64 ((rd_T76 l0_0 x7_1).f2)] 76 (0, 0)) (bp_ BK299) hg (Kd.R_away HO_298000.out (fun _ hk => hk)))
             have n4_ := mk_ (hb)
             have n5_ := mk_ (ho)
             clear BK294; clear BK295; clear BK297; clear BK299; clear HB; clear HO_298000; have BK294 := n0_; have BK295 := n1_; have BK297 := n2_; have BK299 := n3_; have HB := n4_; have HO306 := n5_; clear n0_ n1_ n2_ n3_ n4_ n5_; clear ho hb hg hat
             obtain ⟨Ao48, co48, eo48⟩ := Kd.R_slice HO306.out
             (first | subst eo48 | (injection eo48 with f1_ f2_ f3_; have f4_ := f1_.symm; have f5_ := f3_.symm; clear f1_ f2_ f3_; subst f4_; subst f5_))
             refine hK.out _ _ ⟨bc_ BK297 0, bc_ BK299 0, bc_ BK299 1, bc_ BK299 2⟩ (fun hHeld => ?_)
             clear hK K
             refine norm_ (a' := ?_) ?_ ?_
             rotate_left
             ·show Act.put _ (some 60) _ = _
              simp only [Act.put, sia_, scz_, scs_, i64_w, i32_w]
              rfl
             refine pure_ (i := 12) (N := some 61) (v := ?_) (a' := ?_) #[true, true, true, true, true, true, true, true, true, true, true, true, true, false] rfl rfl (any_of HT_.out (by kernel_rfl)) (fun _ _ _ h => h) (Or.inl ⟨by rfl, ?_⟩) ?_ ?_
             rotate_left
             ·intro w'
              go_simp
              with_reducible rfl
             rotate_left
             ·simp only [Act.put, sia_, scz_, scs_, i64_w, i32_w]
              rfl
             refine last_ (i := 13) (N := none) #[true, true, true, true, true, true, true, true, true, true, true, true, true, true] rfl rfl (one_of HT_.out (by kernel_rfl)) (by decide) (fun K hK => ?_)
             have hs49 : w47.cell? ⟨gb297, 0, none⟩ = some (u298000) := bc_ BK297 0
             have hfs49 := blk_frozen BK297.out 0
             have hns49_0 := NB294_297.out
             have hns49_1 := NB295_297.out
             have hns49_3 := NB299_297.out
             have hms49_0 := NB297_294.out
             have hms49_1 := NB297_295.out
             have hms49_3 := NB297_299.out
             refine skip_ (w1 := ?_) (by rfl) rfl ?_ ?_
             rotate_left
             ·go_simp
              rfl
             refine hK.out _ _ ?_
             clear hK K
             refine done_ (done_of HT_.out (by kernel_rfl)) ?_
             try go_wp2
             go_roundg kj15
             case measure => have := HK1.out; have := HJ15.out; omega
             case rel => exact ⟨(wrap64 (x7_1 + 1)), (y304), (.slice Ao48 y304.length co48), (by first | rfl | (simp; done) | (simp [*]; done) | (simp [bne]; done)), H', ⟨by have := HK1.out; have := HJ15.out; omega⟩, ⟨by (with_reducible repeat (first | apply Kd.R_alloc | apply Kd.R_drewN | apply Kd.R_drew)); exact Kd.R_mono (Kd.R_far (p := ⟨gb297, 0, none⟩) (Kd.R_types HO306.out BK297.out (by decide)) (fun _ hk => hk.2) (.slice Ao48 y304.length co48)) (fun _ hk => trivial)⟩, ⟨bf_⟩, ⟨bf_⟩, ⟨bu_⟩, ⟨bw_ HB⟩⟩
            ·rw [if_neg c41] at H
             exact absurd H (by simp)
           ·rw [if_neg c40] at H
            exact absurd H (by simp)
          ·rw [if_neg c39] at H
           exact absurd H (by simp)
        ·rw [if_neg c26] at H
         have c26b0 : decide ((((rd_T76 l0_0 x7_1).f1).size : Int) < x9_15) = false := decide_eq_false c26
         clear c26
         by_cases c50 : x9_15 < ((rd_T76 l0_0 x7_1).f2)
         ·rw [if_pos c50] at H
          have c50b0 : decide (x9_15 < ((rd_T76 l0_0 x7_1).f2)) = true := decide_eq_true c50
          clear c50
          by_cases c51 : 0 ≤ ((rd_T76 l0_0 x7_1).f2)
          ·rw [if_pos c51] at H
           have c51b0 := eq_true c51
           have c51b1 : decide (0 ≤ ((rd_T76 l0_0 x7_1).f2)) = true := decide_eq_true c51
           clear c51
           by_cases c52 : ((rd_T76 l0_0 x7_1).f2) ≤ (((rd_T76 l0_0 x7_1).f1).size : Int)
           ·rw [if_pos c52] at H
            have c52b0 := eq_true c52
            have c52b1 : decide (((rd_T76 l0_0 x7_1).f2) ≤ (((rd_T76 l0_0 x7_1).f1).size : Int)) = true := decide_eq_true c52
            clear c52
            by_cases c53 : x298000_1.length < 3518437208883
            ·rw [if_pos c53] at H
             have LMc53 := Aside0.mk c53
             clear c53
             obtain ⟨y307, hy307⟩ : ∃ y_ : List (S76), y_ = (x298000_1 ++ [(⟨((rd_T76 l0_0 x7_1).f0), ((rd_T76 l0_0 x7_1).f1).extract 0 (((rd_T76 l0_0 x7_1).f2) : Int).toNat, ((rd_T76 l0_0 x7_1).f2)⟩ : S76)]) := ⟨_, rfl⟩
             replace H : (spec_LoseDisk.l0 kj15 l1 (wrap64 (x7_1 + 1)) l0_0 y307) = some (r1, r2) := by first | (rw [hy307]; with_reducible exact H) | (have H2_ := (Option.bind_some _ _).symm.trans H; rw [hy307]; with_reducible exact H2_) | (have H2_ := (Option.bind_some _ _).symm.trans H; with_reducible exact H2_) | with_reducible exact H | (rw [hy307]; exact H) | exact H
             have Ny307 := Aside0.mk hy307
             clear hy307
             have H' := Aside0.mk H
             clear H
             have hnb54 := NB299_294.out
             have hnc54 := NB294_299.out
             have hnb55 := NB299_295.out
             have hnc55 := NB295_299.out
             have hnb56 := NB299_297.out
             have hnc56 := NB297_299.out
             have hcz57_0 : wc.cell? ⟨gb299, 0, none⟩ = some (.string ((rd_T76 l0_0 x7_1).f0)) := bc_ BK299 0
             have hcz57_1 : wc.cell? ⟨gb299, 1, none⟩ = some (.string ((rd_T76 l0_0 x7_1).f1)) := bc_ BK299 1
             have hcz57_2 : wc.cell? ⟨gb299, 2, none⟩ = some (.int .i64 ((rd_T76 l0_0 x7_1).f2)) := bc_ BK299 2
             have hfz57_0 := blk_frozen BK299.out 0
             have hfz57_1 := blk_frozen BK299.out 1
             have hfz57_2 := blk_frozen BK299.out 2
             try go_wp2
             have n0_ := mk_ (Kd.R_drew HO_298000.out)
             have n1_ := mk_ (blk_drew BK294.out)
             have n2_ := mk_ (blk_drew BK295.out)
             have n3_ := mk_ (blk_drew BK297.out)
             have n4_ := mk_ (blk_drew BK299.out)
             have n5_ := mk_ (below_drew1 HB.out)
             clear HO_298000; clear BK294; clear BK295; clear BK297; clear BK299; clear HB; have HO_298000 := n0_; have BK294 := n1_; have BK295 := n2_; have BK297 := n3_; have BK299 := n4_; have HB := n5_; clear n0_ n1_ n2_ n3_ n4_ n5_
             refine start_ (n := 14) (S := fun w' => w'.cell? ⟨gb297, 0, none⟩ = some (u298000) ∧ w'.cell? ⟨gb299, 0, none⟩ = some (.string ((rd_T76 l0_0 x7_1).f0)) ∧ w'.cell? ⟨gb299, 1, none⟩ = some (.string ((rd_T76 l0_0 x7_1).f1)) ∧ w'.cell? ⟨gb299, 2, none⟩ = some (.int .i64 ((rd_T76 l0_0 x7_1).f2))) (ds := [13]) #[false, false, false, false, false, false, false, false, false, false, false, false, false, false] (by kernel_rfl) rfl rfl ⟨bc_ BK297 0, bc_ BK299 0, bc_ BK299 1, bc_ BK299 2⟩ (fun hHeld => ?_); refine with_tabW spec_LoseDisk.tab15 spec_LoseDisk.bits15 (fun HT_ HW_ => ?_)
             generalize wc.drew = w58 at HO_298000 BK294 BK295 BK297 BK299 HB hHeld ⊢
             refine pure_ (i := 0) (N := some 49) (v := ?_) (a' := ?_) #[true, false, false, false, false, false, false, false, false, false, false, false, false, false] rfl rfl (any_of HT_.out (by kernel_rfl)) (fun _ _ _ h => h) (Or.inl ⟨by rfl, ?_⟩) ?_ ?_
             rotate_left
             ·intro w'
              go_simp
              with_reducible rfl
             rotate_left
             ·simp only [Act.put, sia_, scz_, scs_, i64_w, i32_w]
              rfl
             refine pure_ (i := 2) (N := some 51) (v := ?_) (a' := ?_) #[true, false, true, false, false, false, false, false, false, false, false, false, false, false] rfl rfl (any_of HT_.out (by kernel_rfl)) (fun _ _ _ h => h) (Or.inl ⟨by rfl, ?_⟩) ?_ ?_
             rotate_left
             ·intro w'
              go_simp
              with_reducible rfl
             rotate_left
             ·simp only [Act.put, sia_, scz_, scs_, i64_w, i32_w]
              rfl
             refine pure_ (i := 4) (N := some 53) (v := ?_) (a' := ?_) #[true, false, true, false, true, false, false, false, false, false, false, false, false, false] rfl rfl (any_of HT_.out (by kernel_rfl)) (fun _ _ _ h => h) (Or.inl ⟨by rfl, ?_⟩) ?_ ?_
             rotate_left
             ·intro w'
              go_simp
              with_reducible rfl
             rotate_left
             ·simp only [Act.put, sia_, scz_, scs_, i64_w, i32_w]
              rfl
             refine pure_ (i := 6) (N := some 55) (v := ?_) (a' := ?_) #[true, false, true, false, true, false, true, false, false, false, false, false, false, false] rfl rfl (any_of HT_.out (by kernel_rfl)) (fun _ _ _ h => h) (Or.inl ⟨by rfl, ?_⟩) ?_ ?_
             rotate_left
             ·intro w'
              go_simp
              with_reducible rfl
             rotate_left
             ·simp only [Act.put, sia_, scz_, scs_, i64_w, i32_w]
              rfl
             refine pure_ (i := 8) (N := some 57) (v := ?_) (a' := ?_) #[true, false, true, false, true, false, true, false, true, false, false, false, false, false] rfl rfl (any_of HT_.out (by kernel_rfl)) (fun _ _ _ h => h) (Or.inl ⟨by rfl, ?_⟩) ?_ ?_
             rotate_left
             ·intro w'
              go_simp
              with_reducible rfl
             rotate_left
             ·simp only [Act.put, sia_, scz_, scs_, i64_w, i32_w]
              rfl
             refine take_ (i := 1) (N := some 50) (v := ?_) (a' := ?_) #[true, true, true, false, true, false, true, false, true, false, false, false, false, false] rfl rfl (take_ofW HT_.out HW_.out (by kernel_rfl)) (fun _ _ _ h => h) (Or.inl ⟨by rfl, ?_⟩) hHeld ?_ ?_
             rotate_left
             ·rintro w' ⟨s0, s1, s2, s3⟩
              go_simp
              with_reducible rfl
             rotate_left
             ·simp only [Act.put, sia_, scz_, scs_, i64_w, i32_w]
              rfl
             refine take_ (i := 3) (N := some 52) (v := ?_) (a' := ?_) #[true, true, true, true, true, false, true, false, true, false, false, false, false, false] rfl rfl (take_ofW HT_.out HW_.out (by kernel_rfl)) (fun _ _ _ h => h) (Or.inl ⟨by rfl, ?_⟩) hHeld ?_ ?_
             rotate_left
             ·rintro w' ⟨s0, s1, s2, s3⟩
              go_simp
              with_reducible rfl
             rotate_left
             ·simp only [Act.put, sia_, scz_, scs_, i64_w, i32_w]
              rfl
             refine take_ (i := 5) (N := some 54) (v := ?_) (a' := ?_) #[true, true, true, true, true, true, true, false, true, false, false, false, false, false] rfl rfl (take_ofW HT_.out HW_.out (by kernel_rfl)) (fun _ _ _ h => h) (Or.inl ⟨by rfl, ?_⟩) hHeld ?_ ?_
             rotate_left
             ·rintro w' ⟨s0, s1, s2, s3⟩
              go_simp
              with_reducible rfl
             rotate_left
             ·simp only [Act.put, sia_, scz_, scs_, i64_w, i32_w]
              rfl
             refine pure_ (i := 7) (N := some 56) (v := ?_) (a' := ?_) #[true, true, true, true, true, true, true, true, true, false, false, false, false, false] rfl rfl (any_of HT_.out (by kernel_rfl)) (fun _ _ _ h => h) (Or.inl ⟨by rfl, ?_⟩) ?_ ?_
             rotate_left
             ·intro w'
              go_simp
              with_reducible rfl
             rotate_left
             ·simp only [Act.put, sia_, scz_, scs_, i64_w, i32_w]
              rfl
             refine pure_ (i := 9) (N := some 58) (v := ?_) (a' := ?_) #[true, true, true, true, true, true, true, true, true, true, false, false, false, false] rfl rfl (any_of HT_.out (by kernel_rfl)) (fun _ _ _ h => h) (Or.inl ⟨by rfl, ?_⟩) ?_ ?_
             rotate_left
             ·intro w'
              go_simp
              with_reducible rfl
             rotate_left
             ·simp only [Act.put, sia_, scz_, scs_, i64_w, i32_w]
              rfl
             refine one_ (i := 10) (N := some 59) #[true, true, true, true, true, true, true, true, true, true, true, false, false, false] rfl rfl (one_of HT_.out (by kernel_rfl)) (by decide) (fun K hK => ?_)
             refine value_ (w1 := ?_) (v := ?_) (by rfl) rfl ?_ ?_
             rotate_left 2
             ·go_simp
              constructor
              ·rfl
              ·rfl
             refine hK.out _ _ ⟨(blk_cell (blk_alloc BK297.out _) 0).trans rfl, (blk_cell (blk_alloc BK299.out _) 0).trans rfl, (blk_cell (blk_alloc BK299.out _) 1).trans rfl, (blk_cell (blk_alloc BK299.out _) 2).trans rfl⟩ (fun hHeld => ?_)
             clear hK K
             refine norm_ (a' := ?_) ?_ ?_
             rotate_left
             ·show Act.put _ (some 59) _ = _
              simp only [Act.put, sia_, scz_, scs_, i64_w, i32_w]
              rfl
             refine one_ (i := 11) (N := some 60) #[true, true, true, true, true, true, true, true, true, true, true, true, false, false] rfl rfl (one_of HT_.out (by kernel_rfl)) (by decide) (fun K hK => ?_)
             refine Kd.R_append_step k76 (w0 := w) w.heap.size (by rfl) (.tmp 50) (.tmp 59) 29 76 (.agg #[(.string ⟨#[]⟩), (.string ⟨#[]⟩), (.int .i64 0)]) 40 rfl Try.underlying29 info76 rfl (by decide) (by omega) u298000 x298000_1 (⟨((rd_T76 l0_0 x7_1).f0), ((rd_T76 l0_0 x7_1).f1).extract 0 (((rd_T76 l0_0 x7_1).f2) : Int).toNat, ((rd_T76 l0_0 x7_1).f2)⟩ : S76) [.string ((rd_T76 l0_0 x7_1).f0), .string (((rd_T76 l0_0 x7_1).f1).extract 0 (((rd_T76 l0_0 x7_1).f2) : Int).toNat), .int .i64 ((rd_T76 l0_0 x7_1).f2)] (fun k_ => k_ ≠ gb299) (fun _ => False) rfl rfl ?aP (fun _ hk => hk.elim) ?aF ?aO ?aB ?aS ?aL ?_
             (case aP => exact k76_mkM _ _ _ (⟨((rd_T76 l0_0 x7_1).f0), ((rd_T76 l0_0 x7_1).f1).extract 0 (((rd_T76 l0_0 x7_1).f2) : Int).toNat, ((rd_T76 l0_0 x7_1).f2)⟩ : S76))
             (case aB => exact (bw_ HB))
             (case aF => exact (fun k_ hk => Kd.freshB (g := gb299) (o := .cells #[.string ((rd_T76 l0_0 x7_1).f0), .string ((rd_T76 l0_0 x7_1).f1), .int .i64 ((rd_T76 l0_0 x7_1).f2)] 76 (0, 0)) (bp_ BK299) k_ hk))
             (case aO => exact (rp_ HO_298000))
             (case aS => exact (below_size (bw_ HB)))
             (case aL => have := LMc53.out; omega)
             intro v308 w59 ho hb hg hat
             rw [← Ny307.out] at ho
             have n0_ := mk_ (blk_grown (g := gb294) (o := .cells #[.slice (some ad298) l0_0.length c0_0] 31 (0, 0)) (bp_ BK294) hg (Kd.R_ne HO_298000.out BK294.out (by decide)))
             have n1_ := mk_ (blk_grown (g := gb295) (o := .cells #[.slice none 0 0] 31 (0, 0)) (bp_ BK295) hg (Kd.R_ne HO_298000.out BK295.out (by decide)))
             have n2_ := mk_ (blk_grown (g := gb297) (o := .cells #[u298000] 31 (0, 0)) (bp_ BK297) hg (Kd.R_ne HO_298000.out BK297.out (by decide)))
             have n3_ := mk_ (blk_grown (g := gb299) (o := .cells #[.string ((rd_T76 l0_0 x7_1).f0), .string ((rd_T76 l0_0 x7_1).f1), .int .i64 ((rd_T76 l0_0 x7_1).f2)] 76 (0, 0)) (bp_ BK299) hg (Kd.R_away HO_298000.out (fun _ hk => hk)))
             have n4_ := mk_ (hb)
             have n5_ := mk_ (ho)
             clear BK294; clear BK295; clear BK297; clear BK299; clear HB; clear HO_298000; have BK294 := n0_; have BK295 := n1_; have BK297 := n2_; have BK299 := n3_; have HB := n4_; have HO309 := n5_; clear n0_ n1_ n2_ n3_ n4_ n5_; clear ho hb hg hat
             obtain ⟨Ao60, co60, eo60⟩ := Kd.R_slice HO309.out
             (first | subst eo60 | (injection eo60 with f1_ f2_ f3_; have f4_ := f1_.symm; have f5_ := f3_.symm; clear f1_ f2_ f3_; subst f4_; subst f5_))
             refine hK.out _ _ ⟨bc_ BK297 0, bc_ BK299 0, bc_ BK299 1, bc_ BK299 2⟩ (fun hHeld => ?_)
             clear hK K
             refine norm_ (a' := ?_) ?_ ?_
             rotate_left
             ·show Act.put _ (some 60) _ = _
              simp only [Act.put, sia_, scz_, scs_, i64_w, i32_w]
              rfl
             refine pure_ (i := 12) (N := some 61) (v := ?_) (a' := ?_) #[true, true, true, true, true, true, true, true, true, true, true, true, true, false] rfl rfl (any_of HT_.out (by kernel_rfl)) (fun _ _ _ h => h) (Or.inl ⟨by rfl, ?_⟩) ?_ ?_
             rotate_left
             ·intro w'
              go_simp
              with_reducible rfl
             rotate_left
             ·simp only [Act.put, sia_, scz_, scs_, i64_w, i32_w]
              rfl
             refine last_ (i := 13) (N := none) #[true, true, true, true, true, true, true, true, true, true, true, true, true, true] rfl rfl (one_of HT_.out (by kernel_rfl)) (by decide) (fun K hK => ?_)
             have hs61 : w59.cell? ⟨gb297, 0, none⟩ = some (u298000) := bc_ BK297 0
             have hfs61 := blk_frozen BK297.out 0
             have hns61_0 := NB294_297.out
             have hns61_1 := NB295_297.out
             have hns61_3 := NB299_297.out
             have hms61_0 := NB297_294.out
             have hms61_1 := NB297_295.out
             have hms61_3 := NB297_299.out
             refine skip_ (w1 := ?_) (by rfl) rfl ?_ ?_
             rotate_left
             ·go_simp
              rfl
             refine hK.out _ _ ?_
             clear hK K
             refine done_ (done_of HT_.out (by kernel_rfl)) ?_
             try go_wp2
             go_roundg kj15
             case measure => have := HK1.out; have := HJ15.out; omega
             case rel => exact ⟨(wrap64 (x7_1 + 1)), (y307), (.slice Ao60 y307.length co60), (by first | rfl | (simp; done) | (simp [*]; done) | (simp [bne]; done)), H', ⟨by have := HK1.out; have := HJ15.out; omega⟩, ⟨by (with_reducible repeat (first | apply Kd.R_alloc | apply Kd.R_drewN | apply Kd.R_drew)); exact Kd.R_mono (Kd.R_far (p := ⟨gb297, 0, none⟩) (Kd.R_types HO309.out BK297.out (by decide)) (fun _ hk => hk.2) (.slice Ao60 y307.length co60)) (fun _ hk => trivial)⟩, ⟨bf_⟩, ⟨bf_⟩, ⟨bu_⟩, ⟨bw_ HB⟩⟩
            ·rw [if_neg c53] at H
             exact absurd H (by simp)
           ·rw [if_neg c52] at H
            exact absurd H (by simp)
          ·rw [if_neg c51] at H
           exact absurd H (by simp)
         ·rw [if_neg c50] at H
          have c50b0 : decide (x9_15 < ((rd_T76 l0_0 x7_1).f2)) = false := decide_eq_false c50
          clear c50
          by_cases c62 : 0 ≤ x9_15
          ·rw [if_pos c62] at H
           have c62b0 := eq_true c62
           have c62b1 : decide (0 ≤ x9_15) = true := decide_eq_true c62
           clear c62
           by_cases c63 : x9_15 ≤ (((rd_T76 l0_0 x7_1).f1).size : Int)
           ·rw [if_pos c63] at H
            have c63b0 := eq_true c63
            have c63b1 : decide (x9_15 ≤ (((rd_T76 l0_0 x7_1).f1).size : Int)) = true := decide_eq_true c63
            clear c63
            by_cases c64 : x298000_1.length < 3518437208883
            ·rw [if_pos c64] at H
             have LMc64 := Aside0.mk c64
             clear c64
             obtain ⟨y310, hy310⟩ : ∃ y_ : List (S76), y_ = (x298000_1 ++ [(⟨((rd_T76 l0_0 x7_1).f0), ((rd_T76 l0_0 x7_1).f1).extract 0 (x9_15 : Int).toNat, x9_15⟩ : S76)]) := ⟨_, rfl⟩
             replace H : (spec_LoseDisk.l0 kj15 l1 (wrap64 (x7_1 + 1)) l0_0 y310) = some (r1, r2) := by first | (rw [hy310]; with_reducible exact H) | (have H2_ := (Option.bind_some _ _).symm.trans H; rw [hy310]; with_reducible exact H2_) | (have H2_ := (Option.bind_some _ _).symm.trans H; with_reducible exact H2_) | with_reducible exact H | (rw [hy310]; exact H) | exact H
             have Ny310 := Aside0.mk hy310
             clear hy310
             have H' := Aside0.mk H
             clear H
             have hnb65 := NB299_294.out
             have hnc65 := NB294_299.out
             have hnb66 := NB299_295.out
             have hnc66 := NB295_299.out
             have hnb67 := NB299_297.out
             have hnc67 := NB297_299.out
             have hcz68_0 : wc.cell? ⟨gb299, 0, none⟩ = some (.string ((rd_T76 l0_0 x7_1).f0)) := bc_ BK299 0
             have hcz68_1 : wc.cell? ⟨gb299, 1, none⟩ = some (.string ((rd_T76 l0_0 x7_1).f1)) := bc_ BK299 1
             have hcz68_2 : wc.cell? ⟨gb299, 2, none⟩ = some (.int .i64 ((rd_T76 l0_0 x7_1).f2)) := bc_ BK299 2
             have hfz68_0 := blk_frozen BK299.out 0
             have hfz68_1 := blk_frozen BK299.out 1
             have hfz68_2 := blk_frozen BK299.out 2
             try go_wp2
             have n0_ := mk_ (Kd.R_drew HO_298000.out)
             have n1_ := mk_ (blk_drew BK294.out)
             have n2_ := mk_ (blk_drew BK295.out)
             have n3_ := mk_ (blk_drew BK297.out)
             have n4_ := mk_ (blk_drew BK299.out)
             have n5_ := mk_ (below_drew1 HB.out)
             clear HO_298000; clear BK294; clear BK295; clear BK297; clear BK299; clear HB; have HO_298000 := n0_; have BK294 := n1_; have BK295 := n2_; have BK297 := n3_; have BK299 := n4_; have HB := n5_; clear n0_ n1_ n2_ n3_ n4_ n5_
             refine start_ (n := 14) (S := fun w' => w'.cell? ⟨gb297, 0, none⟩ = some (u298000) ∧ w'.cell? ⟨gb299, 0, none⟩ = some (.string ((rd_T76 l0_0 x7_1).f0)) ∧ w'.cell? ⟨gb299, 1, none⟩ = some (.string ((rd_T76 l0_0 x7_1).f1)) ∧ w'.cell? ⟨gb299, 2, none⟩ = some (.int .i64 ((rd_T76 l0_0 x7_1).f2))) (ds := [13]) #[false, false, false, false, false, false, false, false, false, false, false, false, false, false] (by kernel_rfl) rfl rfl ⟨bc_ BK297 0, bc_ BK299 0, bc_ BK299 1, bc_ BK299 2⟩ (fun hHeld => ?_); refine with_tabW spec_LoseDisk.tab15 spec_LoseDisk.bits15 (fun HT_ HW_ => ?_)
             generalize wc.drew = w69 at HO_298000 BK294 BK295 BK297 BK299 HB hHeld ⊢
             refine pure_ (i := 0) (N := some 49) (v := ?_) (a' := ?_) #[true, false, false, false, false, false, false, false, false, false, false, false, false, false] rfl rfl (any_of HT_.out (by kernel_rfl)) (fun _ _ _ h => h) (Or.inl ⟨by rfl, ?_⟩) ?_ ?_
             rotate_left
             ·intro w'
              go_simp
              with_reducible rfl
             rotate_left
             ·simp only [Act.put, sia_, scz_, scs_, i64_w, i32_w]
              rfl
             refine pure_ (i := 2) (N := some 51) (v := ?_) (a' := ?_) #[true, false, true, false, false, false, false, false, false, false, false, false, false, false] rfl rfl (any_of HT_.out (by kernel_rfl)) (fun _ _ _ h => h) (Or.inl ⟨by rfl, ?_⟩) ?_ ?_
             rotate_left
             ·intro w'
              go_simp
              with_reducible rfl
             rotate_left
             ·simp only [Act.put, sia_, scz_, scs_, i64_w, i32_w]
              rfl
             refine pure_ (i := 4) (N := some 53) (v := ?_) (a' := ?_) #[true, false, true, false, true, false, false, false, false, false, false, false, false, false] rfl rfl (any_of HT_.out (by kernel_rfl)) (fun _ _ _ h => h) (Or.inl ⟨by rfl, ?_⟩) ?_ ?_
             rotate_left
             ·intro w'
              go_simp
              with_reducible rfl
             rotate_left
             ·simp only [Act.put, sia_, scz_, scs_, i64_w, i32_w]
              rfl
             refine pure_ (i := 6) (N := some 55) (v := ?_) (a' := ?_) #[true, false, true, false, true, false, true, false, false, false, false, false, false, false] rfl rfl (any_of HT_.out (by kernel_rfl)) (fun _ _ _ h => h) (Or.inl ⟨by rfl, ?_⟩) ?_ ?_
             rotate_left
             ·intro w'
              go_simp
              with_reducible rfl
             rotate_left
             ·simp only [Act.put, sia_, scz_, scs_, i64_w, i32_w]
              rfl
             refine pure_ (i := 8) (N := some 57) (v := ?_) (a' := ?_) #[true, false, true, false, true, false, true, false, true, false, false, false, false, false] rfl rfl (any_of HT_.out (by kernel_rfl)) (fun _ _ _ h => h) (Or.inl ⟨by rfl, ?_⟩) ?_ ?_
             rotate_left
             ·intro w'
              go_simp
              with_reducible rfl
             rotate_left
             ·simp only [Act.put, sia_, scz_, scs_, i64_w, i32_w]
              rfl
             refine take_ (i := 1) (N := some 50) (v := ?_) (a' := ?_) #[true, true, true, false, true, false, true, false, true, false, false, false, false, false] rfl rfl (take_ofW HT_.out HW_.out (by kernel_rfl)) (fun _ _ _ h => h) (Or.inl ⟨by rfl, ?_⟩) hHeld ?_ ?_
             rotate_left
             ·rintro w' ⟨s0, s1, s2, s3⟩
              go_simp
              with_reducible rfl
             rotate_left
             ·simp only [Act.put, sia_, scz_, scs_, i64_w, i32_w]
              rfl
             refine take_ (i := 3) (N := some 52) (v := ?_) (a' := ?_) #[true, true, true, true, true, false, true, false, true, false, false, false, false, false] rfl rfl (take_ofW HT_.out HW_.out (by kernel_rfl)) (fun _ _ _ h => h) (Or.inl ⟨by rfl, ?_⟩) hHeld ?_ ?_
             rotate_left
             ·rintro w' ⟨s0, s1, s2, s3⟩
              go_simp
              with_reducible rfl
             rotate_left
             ·simp only [Act.put, sia_, scz_, scs_, i64_w, i32_w]
              rfl
             refine take_ (i := 5) (N := some 54) (v := ?_) (a' := ?_) #[true, true, true, true, true, true, true, false, true, false, false, false, false, false] rfl rfl (take_ofW HT_.out HW_.out (by kernel_rfl)) (fun _ _ _ h => h) (Or.inl ⟨by rfl, ?_⟩) hHeld ?_ ?_
             rotate_left
             ·rintro w' ⟨s0, s1, s2, s3⟩
              go_simp
              with_reducible rfl
             rotate_left
             ·simp only [Act.put, sia_, scz_, scs_, i64_w, i32_w]
              rfl
             refine pure_ (i := 7) (N := some 56) (v := ?_) (a' := ?_) #[true, true, true, true, true, true, true, true, true, false, false, false, false, false] rfl rfl (any_of HT_.out (by kernel_rfl)) (fun _ _ _ h => h) (Or.inl ⟨by rfl, ?_⟩) ?_ ?_
             rotate_left
             ·intro w'
              go_simp
              with_reducible rfl
             rotate_left
             ·simp only [Act.put, sia_, scz_, scs_, i64_w, i32_w]
              rfl
             refine pure_ (i := 9) (N := some 58) (v := ?_) (a' := ?_) #[true, true, true, true, true, true, true, true, true, true, false, false, false, false] rfl rfl (any_of HT_.out (by kernel_rfl)) (fun _ _ _ h => h) (Or.inl ⟨by rfl, ?_⟩) ?_ ?_
             rotate_left
             ·intro w'
              go_simp
              with_reducible rfl
             rotate_left
             ·simp only [Act.put, sia_, scz_, scs_, i64_w, i32_w]
              rfl
             refine one_ (i := 10) (N := some 59) #[true, true, true, true, true, true, true, true, true, true, true, false, false, false] rfl rfl (one_of HT_.out (by kernel_rfl)) (by decide) (fun K hK => ?_)
             refine value_ (w1 := ?_) (v := ?_) (by rfl) rfl ?_ ?_
             rotate_left 2
             ·go_simp
              constructor
              ·rfl
              ·rfl
             refine hK.out _ _ ⟨(blk_cell (blk_alloc BK297.out _) 0).trans rfl, (blk_cell (blk_alloc BK299.out _) 0).trans rfl, (blk_cell (blk_alloc BK299.out _) 1).trans rfl, (blk_cell (blk_alloc BK299.out _) 2).trans rfl⟩ (fun hHeld => ?_)
             clear hK K
             refine norm_ (a' := ?_) ?_ ?_
             rotate_left
             ·show Act.put _ (some 59) _ = _
              simp only [Act.put, sia_, scz_, scs_, i64_w, i32_w]
              rfl
             refine one_ (i := 11) (N := some 60) #[true, true, true, true, true, true, true, true, true, true, true, true, false, false] rfl rfl (one_of HT_.out (by kernel_rfl)) (by decide) (fun K hK => ?_)
             refine Kd.R_append_step k76 (w0 := w) w.heap.size (by rfl) (.tmp 50) (.tmp 59) 29 76 (.agg #[(.string ⟨#[]⟩), (.string ⟨#[]⟩), (.int .i64 0)]) 40 rfl Try.underlying29 info76 rfl (by decide) (by omega) u298000 x298000_1 (⟨((rd_T76 l0_0 x7_1).f0), ((rd_T76 l0_0 x7_1).f1).extract 0 (x9_15 : Int).toNat, x9_15⟩ : S76) [.string ((rd_T76 l0_0 x7_1).f0), .string (((rd_T76 l0_0 x7_1).f1).extract 0 (x9_15 : Int).toNat), .int .i64 x9_15] (fun k_ => k_ ≠ gb299) (fun _ => False) rfl rfl ?aP (fun _ hk => hk.elim) ?aF ?aO ?aB ?aS ?aL ?_
             (case aP => exact k76_mkM _ _ _ (⟨((rd_T76 l0_0 x7_1).f0), ((rd_T76 l0_0 x7_1).f1).extract 0 (x9_15 : Int).toNat, x9_15⟩ : S76))
             (case aB => exact (bw_ HB))
             (case aF => exact (fun k_ hk => Kd.freshB (g := gb299) (o := .cells #[.string ((rd_T76 l0_0 x7_1).f0), .string ((rd_T76 l0_0 x7_1).f1), .int .i64 ((rd_T76 l0_0 x7_1).f2)] 76 (0, 0)) (bp_ BK299) k_ hk))
             (case aO => exact (rp_ HO_298000))
             (case aS => exact (below_size (bw_ HB)))
             (case aL => have := LMc64.out; omega)
             intro v311 w70 ho hb hg hat
             rw [← Ny310.out] at ho
             have n0_ := mk_ (blk_grown (g := gb294) (o := .cells #[.slice (some ad298) l0_0.length c0_0] 31 (0, 0)) (bp_ BK294) hg (Kd.R_ne HO_298000.out BK294.out (by decide)))
             have n1_ := mk_ (blk_grown (g := gb295) (o := .cells #[.slice none 0 0] 31 (0, 0)) (bp_ BK295) hg (Kd.R_ne HO_298000.out BK295.out (by decide)))
             have n2_ := mk_ (blk_grown (g := gb297) (o := .cells #[u298000] 31 (0, 0)) (bp_ BK297) hg (Kd.R_ne HO_298000.out BK297.out (by decide)))
             have n3_ := mk_ (blk_grown (g := gb299) (o := .cells #[.string ((rd_T76 l0_0 x7_1).f0), .string ((rd_T76 l0_0 x7_1).f1), .int .i64 ((rd_T76 l0_0 x7_1).f2)] 76 (0, 0)) (bp_ BK299) hg (Kd.R_away HO_298000.out (fun _ hk => hk)))
             have n4_ := mk_ (hb)
             have n5_ := mk_ (ho)
             clear BK294; clear BK295; clear BK297; clear BK299; clear HB; clear HO_298000; have BK294 := n0_; have BK295 := n1_; have BK297 := n2_; have BK299 := n3_; have HB := n4_; have HO312 := n5_; clear n0_ n1_ n2_ n3_ n4_ n5_; clear ho hb hg hat
             obtain ⟨Ao71, co71, eo71⟩ := Kd.R_slice HO312.out
             (first | subst eo71 | (injection eo71 with f1_ f2_ f3_; have f4_ := f1_.symm; have f5_ := f3_.symm; clear f1_ f2_ f3_; subst f4_; subst f5_))
             refine hK.out _ _ ⟨bc_ BK297 0, bc_ BK299 0, bc_ BK299 1, bc_ BK299 2⟩ (fun hHeld => ?_)
             clear hK K
             refine norm_ (a' := ?_) ?_ ?_
             rotate_left
             ·show Act.put _ (some 60) _ = _
              simp only [Act.put, sia_, scz_, scs_, i64_w, i32_w]
              rfl
             refine pure_ (i := 12) (N := some 61) (v := ?_) (a' := ?_) #[true, true, true, true, true, true, true, true, true, true, true, true, true, false] rfl rfl (any_of HT_.out (by kernel_rfl)) (fun _ _ _ h => h) (Or.inl ⟨by rfl, ?_⟩) ?_ ?_
             rotate_left
             ·intro w'
              go_simp
              with_reducible rfl
             rotate_left
             ·simp only [Act.put, sia_, scz_, scs_, i64_w, i32_w]
              rfl
             refine last_ (i := 13) (N := none) #[true, true, true, true, true, true, true, true, true, true, true, true, true, true] rfl rfl (one_of HT_.out (by kernel_rfl)) (by decide) (fun K hK => ?_)
             have hs72 : w70.cell? ⟨gb297, 0, none⟩ = some (u298000) := bc_ BK297 0
             have hfs72 := blk_frozen BK297.out 0
             have hns72_0 := NB294_297.out
             have hns72_1 := NB295_297.out
             have hns72_3 := NB299_297.out
             have hms72_0 := NB297_294.out
             have hms72_1 := NB297_295.out
             have hms72_3 := NB297_299.out
             refine skip_ (w1 := ?_) (by rfl) rfl ?_ ?_
             rotate_left
             ·go_simp
              rfl
             refine hK.out _ _ ?_
             clear hK K
             refine done_ (done_of HT_.out (by kernel_rfl)) ?_
             try go_wp2
             go_roundg kj15
             case measure => have := HK1.out; have := HJ15.out; omega
             case rel => exact ⟨(wrap64 (x7_1 + 1)), (y310), (.slice Ao71 y310.length co71), (by first | rfl | (simp; done) | (simp [*]; done) | (simp [bne]; done)), H', ⟨by have := HK1.out; have := HJ15.out; omega⟩, ⟨by (with_reducible repeat (first | apply Kd.R_alloc | apply Kd.R_drewN | apply Kd.R_drew)); exact Kd.R_mono (Kd.R_far (p := ⟨gb297, 0, none⟩) (Kd.R_types HO312.out BK297.out (by decide)) (fun _ hk => hk.2) (.slice Ao71 y310.length co71)) (fun _ hk => trivial)⟩, ⟨bf_⟩, ⟨bf_⟩, ⟨bu_⟩, ⟨bw_ HB⟩⟩
            ·rw [if_neg c64] at H
             exact absurd H (by simp)
           ·rw [if_neg c63] at H
            exact absurd H (by simp)
          ·rw [if_neg c62] at H
           exact absurd H (by simp)
     ·rw [if_neg c15] at H
      exact absurd H (by simp)
    ·rw [if_neg c14] at H
     have c14b0 : decide (x7_1 < (l0_0.length : Int)) = false := decide_eq_false c14
     clear c14
     simp only [Option.some.injEq, Prod.mk.injEq] at H
     obtain ⟨rfl, rfl⟩ := H
     have hnb73 := NB294_295.out
     have hnc73 := NB295_294.out
     have hnb74 := NB294_297.out
     have hnc74 := NB297_294.out
     have hcz75_0 : wr.cell? ⟨gb294, 0, none⟩ = some (.slice A0_0 l0_0.length c0_0) := bc_ BK294 0
     have hfz75_0 := blk_frozen BK294.out 0
     have hnb76 := NB297_295.out
     have hnc76 := NB295_297.out
     have hcz77_0 : wr.cell? ⟨gb297, 0, none⟩ = some (u298000) := bc_ BK297 0
     have hfz77_0 := blk_frozen BK297.out 0
     obtain ⟨Ao78, co78, eo78⟩ := Kd.R_slice HO_298000.out
     subst eo78
     have hcz79_0 : wr.cell? ⟨gb295, 0, none⟩ = some (.slice none 0 0) := bc_ BK295 0
     have hfz79_0 := blk_frozen BK295.out 0
     go_wp2
     refine bodyPost_ret (results_ct rfl _ _ gb295 31 #[.slice Ao78 x298000_1.length co78] (0, 0) _ rfl bu_ Try.underlying31 rfl (by kernel_rfl)) rfl ?_
     exact ⟨_, er_, by (with_reducible repeat (first | apply Kd.R_alloc | apply Kd.R_drewN | apply Kd.R_drew)); exact Kd.R_mono (Kd.R_far (p := ⟨gb295, 0, none⟩) (Kd.R_types HO_298000.out BK295.out (by decide)) (fun _ hk => hk.2) (.slice Ao78 x298000_1.length co78)) (fun _ hk => trivial), bw_ HB⟩
 ·replace c4 := Bool.eq_false_iff.mpr c4
  subst c4
  have H1 : (some (([] : List (S76)), false)) = some (r1, r2) := by rw [if_neg (show ¬ (false = true) by decide)] at H; exact H
  clear H
  have H := H1
  clear H1
  simp only [Option.some.injEq, Prod.mk.injEq] at H
  obtain ⟨rfl, rfl⟩ := H
  go_enter Try.func62, Try.ntmps62
  go_wp2_with (first | ((with_reducible refine gate_dst (N := 2) rfl ?_); refine bx_ (N := 2) (cs := #[.slice A0_0 l0_0.length c0_0]) (t := 31) ?_; intro gb294 hg w80 hbox hb; have BK294 := mk_ (hbox); have GW294 : Aside0 (w.heap.size ≤ gb294) := bz_ hg; have GE294 := GW294; replace HB := bs_ HB hb; clear hb hbox hg) | ((with_reducible refine gate_dst (N := 4) rfl ?_); refine bx_ (N := 4) (cs := #[.slice none 0 0]) (t := 31) ?_; intro gb295 hg w81 hbox hb; have BK295 := mk_ (hbox); have GW295 : Aside0 (w.heap.size ≤ gb295) := bz_ hg; have GE295 := GW295; have NB294_295 := bl_ BK294 hg; have NB295_294 := bg_ BK294 hg; replace BK294 := bb_ BK294 hb; replace HB := bs_ HB hb; clear hb hbox hg; have hnb82 := NB294_295.out; have hnc82 := NB295_294.out; obtain ⟨hcz83_0, hfz83_0⟩ := b1_ BK294) | ((with_reducible refine gate_callee (f := 38) rfl ?_); refine goesL_ (some 11) rfl rfl Try.func38 (by kernel_rfl) rfl #[.agg #[.slice A0_0 l0_0.length c0_0]] rfl ga_ ?_; (with_reducible refine (spec_DiskOk.calls k _ _ l0_0 false _ ?side1 ?side2 A3.out).mono ?_); (case side1 => repeat (first | exact (Kd.C_below HR0_0.out HB.out) | (with_reducible refine Kd.C_alloc ?_ _) | (with_reducible refine Kd.C_drewN ?_ _) | (with_reducible refine Kd.C_drew ?_))); (case side2 => exact HC0_0.out); rintro e w84 ⟨rfl, hb⟩; refine ⟨_, rfl, ?_⟩; replace BK294 := bb_ BK294 hb; replace BK295 := bb_ BK295 hb; replace HB := bs_ HB hb; (try clear hb); obtain ⟨hcz85_0, hfz85_0⟩ := b1_ BK295))
  refine bodyPost_ret (results_ct rfl _ _ gb295 31 #[.slice none 0 0] (0, 0) _ rfl bu_ Try.underlying31 rfl (by kernel_rfl)) rfl ?_
  exact ⟨_, er_, by first | exact Kd.R_nil _ _ _ _ _ | exact Kd.N_nil _ _ _ _ _ | exact Kd.V_nil _ _ _ _ _ | exact Kd.Q_nil _ _ _ _ _ | exact Kd.S_nil _ _ _ _ _, bw_ HB⟩

end Go.Proofs.Ythbaoefbccdioaa.QFnExactCutActs
