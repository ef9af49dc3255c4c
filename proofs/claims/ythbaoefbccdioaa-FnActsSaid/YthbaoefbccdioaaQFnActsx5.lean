/- Written by this session's own program (wip/tpl/pp.py): what the law's functions come to, and that the machine's calls do just that. -/
import Derived.Test.YthbaoefbccdioaaTMPack
import Derived.Test.YthbaoefbccdioaaQFnActsx0
namespace Go.Proofs.Ythbaoefbccdioaa.QFnActs
open Go.RowKit Go.Proofs.YthbaoefbccdioaaW.PrintWords Go.Proofs.YthbaoefbccdioaaW.PrintLast Go.Proofs.YthbaoefbccdioaaW.PrintMore
attribute [local go_sem] Go.Proofs.Ythbaoefbccdioaa.Sem.string_geq Go.Proofs.Ythbaoefbccdioaa.Sem.string_leq Go.Proofs.Ythbaoefbccdioaa.Sem.string_gtr
attribute [local go_sem] max2_int min2_int max_two min_two max_three min_three max_four min_four   -- for this text's walks alone
set_option linter.unusedVariables false
set_option linter.unusedSimpArgs false

/-! ### spec_l03Put: function 41 -/
mutual
def spec_l03Put.l0 : Nat → Int → List (S76) → ByteArray → ByteArray → Int → List (S76) → Option ((List (S76)))
 | 0, _, _, _, _, _, _ => none
 | k + 1, x6, x122000, x123000, x123001, x123002, x125000 => if x6 < (x122000.length : Int) then (if 0 ≤ x6 then (if (Op.bytesLess (((rd_T76 x122000 x6).f0).toList) x123000.toList) = true then (if x125000.length < 3518437208883 then (spec_l03Put.l0 k (wrap64 (x6 + 1)) x122000 x123000 x123001 x123002 (x125000 ++ [(⟨(rd_T76 x122000 x6).f0, (rd_T76 x122000 x6).f1, (rd_T76 x122000 x6).f2⟩ : S76)])) else (none)) else (spec_l03Put.l0 k (wrap64 (x6 + 1)) x122000 x123000 x123001 x123002 x125000)) else (none)) else (if x125000.length < 3518437208883 then (spec_l03Put.l1 k 0 x122000 x123000 x123001 x123002 (x125000 ++ [(⟨x123000, x123001, x123002⟩ : S76)])) else (none))
def spec_l03Put.l1 : Nat → Int → List (S76) → ByteArray → ByteArray → Int → List (S76) → Option ((List (S76)))
 | 0, _, _, _, _, _, _ => none
 | k + 1, x7, x122000, x123000, x123001, x123002, x125000 => if x7 < (x122000.length : Int) then (if 0 ≤ x7 then (if (Op.bytesLess x123000.toList (((rd_T76 x122000 x7).f0).toList)) = true then (if x125000.length < 3518437208883 then (spec_l03Put.l1 k (wrap64 (x7 + 1)) x122000 x123000 x123001 x123002 (x125000 ++ [(⟨(rd_T76 x122000 x7).f0, (rd_T76 x122000 x7).f1, (rd_T76 x122000 x7).f2⟩ : S76)])) else (none)) else (spec_l03Put.l1 k (wrap64 (x7 + 1)) x122000 x123000 x123001 x123002 x125000)) else (none)) else (some x125000)
end
def spec_l03Put.f (k : Nat) (l0_0 : List (S76)) (a1_0 : ByteArray) (a1_1 : ByteArray) (a1_2 : Int) : Option ((List (S76))) := spec_l03Put.l0 k 0 l0_0 a1_0 a1_1 a1_2 ([] : List (S76))
theorem spec_l03Put.mono_l : ∀ k, (∀ y0 y1 y2 y3 y4 y5, LeO (spec_l03Put.l0 k y0 y1 y2 y3 y4 y5) (spec_l03Put.l0 (k + 1) y0 y1 y2 y3 y4 y5)) ∧ (∀ y0 y1 y2 y3 y4 y5, LeO (spec_l03Put.l1 k y0 y1 y2 y3 y4 y5) (spec_l03Put.l1 (k + 1) y0 y1 y2 y3 y4 y5))
 | 0 => ⟨fun _ _ _ _ _ _ r h => by simp [spec_l03Put.l0] at h, fun _ _ _ _ _ _ r h => by simp [spec_l03Put.l1] at h⟩
 | k + 1 => by
  obtain ⟨ih0, ih1⟩ := spec_l03Put.mono_l k
  refine ⟨?_, ?_⟩
  ·intro y0 y1 y2 y3 y4 y5
   unfold spec_l03Put.l0
   repeat' first
   | (with_reducible exact ih0 _ _ _ _ _ _)
   | (with_reducible exact ih1 _ _ _ _ _ _)
   | (with_reducible exact LeO.refl _)
   | (with_reducible refine LeO.ite ?_ ?_)
  ·intro y0 y1 y2 y3 y4 y5
   unfold spec_l03Put.l1
   repeat' first
   | (with_reducible exact ih1 _ _ _ _ _ _)
   | (with_reducible exact LeO.refl _)
   | (with_reducible refine LeO.ite ?_ ?_)
theorem spec_l03Put.mono : ∀ a0 a1 a2 a3 k, LeO (spec_l03Put.f k a0 a1 a2 a3) (spec_l03Put.f (k + 1) a0 a1 a2 a3) := by
 intro a0 a1 a2 a3 k
 obtain ⟨ih0, ih1⟩ := spec_l03Put.mono_l k
 unfold spec_l03Put.f
 repeat' first
   | (with_reducible exact ih0 _ _ _ _ _ _)
def spec_l03Put.T5 : Bool × List (List Nat × List Nat) := (true, [([], []), ([0], [0]), ([], []), ([1, 2], [1, 2]), ([3], [3]), ([4], [4]), ([], []), ([6], [6]), ([5, 7], [5, 7])])
def spec_l03Put.B5 : List Nat := [0, 1, 0, 7, 15, 31, 0, 64, 255]
theorem spec_l03Put.tab5 : rtab .any (opsOf Try.f41 5) = spec_l03Put.T5 := by kernel_rfl
theorem spec_l03Put.bits5 : waitsOk spec_l03Put.T5.2 spec_l03Put.B5 = true := by kernel_rfl
def spec_l03Put.T6 : Bool × List (List Nat × List Nat) := (true, [([], []), ([0], [0]), ([], []), ([2], [2]), ([], []), ([3, 4], [3, 4]), ([5], [5]), ([6], [6]), ([1, 7], [1, 7]), ([0, 1, 2, 3, 4, 5, 6, 7, 8], []), ([9, 8, 8, 0, 1, 2, 3, 4, 5, 6, 7, 8], [8, 9])])
def spec_l03Put.B6 : List Nat := [0, 1, 0, 4, 0, 28, 60, 124, 255, 511, 1023]
theorem spec_l03Put.tab6 : rtab .any (opsOf Try.f41 6) = spec_l03Put.T6 := by kernel_rfl
theorem spec_l03Put.bits6 : waitsOk spec_l03Put.T6.2 spec_l03Put.B6 = true := by kernel_rfl
def spec_l03Put.T11 : Bool × List (List Nat × List Nat) := (true, [([], []), ([0], [0]), ([], []), ([1, 2], [1, 2]), ([3], [3]), ([4], [4]), ([], []), ([6], [6]), ([5, 7], [5, 7])])
def spec_l03Put.B11 : List Nat := [0, 1, 0, 7, 15, 31, 0, 64, 255]
theorem spec_l03Put.tab11 : rtab .any (opsOf Try.f41 11) = spec_l03Put.T11 := by kernel_rfl
theorem spec_l03Put.bits11 : waitsOk spec_l03Put.T11.2 spec_l03Put.B11 = true := by kernel_rfl
def spec_l03Put.T12 : Bool × List (List Nat × List Nat) := (true, [([], []), ([0], [0]), ([], []), ([2], [2]), ([], []), ([3, 4], [3, 4]), ([5], [5]), ([6], [6]), ([1, 7], [1, 7]), ([0, 1, 2, 3, 4, 5, 6, 7, 8], []), ([9, 8, 8, 0, 1, 2, 3, 4, 5, 6, 7, 8], [8, 9])])
def spec_l03Put.B12 : List Nat := [0, 1, 0, 4, 0, 28, 60, 124, 255, 511, 1023]
theorem spec_l03Put.tab12 : rtab .any (opsOf Try.f41 12) = spec_l03Put.T12 := by kernel_rfl
theorem spec_l03Put.bits12 : waitsOk spec_l03Put.T12.2 spec_l03Put.B12 = true := by kernel_rfl
set_option maxHeartbeats 8000000 in
set_option maxRecDepth 100000 in
theorem spec_l03Put.calls (k : Nat) (A0_0 : Option Addr) (c0_0 : Nat) (l0_0 : List (S76)) (a1_0 : ByteArray) (a1_1 : ByteArray) (a1_2 : Int) (r : List (S76)) (w : World) (hr0_0 : Kd.C k76 w A0_0 l0_0.length l0_0) (hc0_0 : l0_0.length ≤ c0_0) (h : spec_l03Put.f k l0_0 a1_0 a1_1 a1_2 = some r) :
  Calls Try.prog 41 #[.agg #[.slice A0_0 l0_0.length c0_0], .agg #[.string a1_0, .string a1_1, .int .i64 a1_2]] w fun e w' => ∃ v0_ : Value, e = .returned (.agg #[v0_]) ∧ Kd.R k76 76 w' w.heap.size (fun _ => True) v0_ r ∧ Below w.heap.size w w' := by
 have hu31 := Try.underlying31
 have hu76 := Try.underlying76
 have HR0_0 := Aside0.mk hr0_0
 have HC0_0 := Aside0.mk hc0_0
 clear hr0_0 hc0_0
 have HB := mk_ (Below.refl w.heap.size w)
 have H : (spec_l03Put.l0 k 0 l0_0 a1_0 a1_1 a1_2 ([] : List (S76))) = some r := h
 clear h
 have H' := Aside0.mk H
 clear H
 go_enter Try.func41, Try.ntmps41
 go_wp2_with (first | ((with_reducible refine gate_dst (N := 2) rfl ?_); refine bx_ (N := 2) (cs := #[.slice A0_0 l0_0.length c0_0]) (t := 31) ?_; intro gb121 hg w3 hbox hb; have BK121 := mk_ (hbox); have GW121 : Aside0 (w.heap.size ≤ gb121) := bz_ hg; have GE121 := GW121; replace HB := bs_ HB hb; clear hb hbox hg) | ((with_reducible refine gate_dst (N := 3) rfl ?_); refine bx_ (N := 3) (cs := #[.string a1_0, .string a1_1, .int .i64 a1_2]) (t := 76) ?_; intro gb122 hg w4 hbox hb; have BK122 := mk_ (hbox); have GW122 : Aside0 (w.heap.size ≤ gb122) := bz_ hg; have GE122 := GW122; have NB121_122 := bl_ BK121 hg; have NB122_121 := bg_ BK121 hg; replace BK121 := bb_ BK121 hb; replace HB := bs_ HB hb; clear hb hbox hg) | ((with_reducible refine gate_dst (N := 4) rfl ?_); refine bx_ (N := 4) (cs := #[.slice none 0 0]) (t := 31) ?_; intro gb123 hg w5 hbox hb; have BK123 := mk_ (hbox); have GW123 : Aside0 (w.heap.size ≤ gb123) := bz_ hg; have GE123 := GW123; have NB121_123 := bl_ BK121 hg; have NB123_121 := bg_ BK121 hg; have NB122_123 := bl_ BK122 hg; have NB123_122 := bg_ BK122 hg; replace BK121 := bb_ BK121 hb; replace BK122 := bb_ BK122 hb; replace HB := bs_ HB hb; clear hb hbox hg) | ((with_reducible refine gate_dst (N := 5) rfl ?_); refine bx_ (N := 5) (cs := #[.slice none 0 0]) (t := 31) ?_; intro gb124 hg w6 hbox hb; have BK124 := mk_ (hbox); have GW124 : Aside0 (w.heap.size ≤ gb124) := bz_ hg; have GE124 := GW124; have NB121_124 := bl_ BK121 hg; have NB124_121 := bg_ BK121 hg; have NB122_124 := bl_ BK122 hg; have NB124_122 := bg_ BK122 hg; have NB123_124 := bl_ BK123 hg; have NB124_123 := bg_ BK123 hg; replace BK121 := bb_ BK121 hb; replace BK122 := bb_ BK122 hb; replace BK123 := bb_ BK123 hb; replace HB := bs_ HB hb; clear hb hbox hg; obtain ⟨hnb7, hnc7⟩ := ns_ NB124_121; obtain ⟨hnb8, hnc8⟩ := ns_ NB124_122; obtain ⟨hnb9, hnc9⟩ := ns_ NB124_123; obtain ⟨hcz10_0, hfz10_0⟩ := b1_ BK124))
 go_loopg [6] k (fun kq v6 w' => ∃ (x6_1 : Int) (x125000_1 : List (S76)) (u125000 : Value), v6 = .int .i64 x6_1 ∧ Aside0 (spec_l03Put.l0 kq x6_1 l0_0 a1_0 a1_1 a1_2 x125000_1 = some r) ∧ Aside0 (kq ≤ k) ∧ Aside0 (Kd.R k76 76 w' w.heap.size (fun k_ => k_ ≠ gb122) u125000 x125000_1) ∧ Aside0 (w'.heap[gb121]? = some (.cells #[(.slice A0_0 l0_0.length c0_0)] 31 (0, 0))) ∧ Aside0 (w'.heap[gb122]? = some (.cells #[.string a1_0, .string a1_1, .int .i64 a1_2] 76 (0, 0))) ∧ Aside0 (w'.heap[gb123]? = some (.cells #[(.slice none 0 0)] 31 (0, 0))) ∧ Aside0 (w'.heap[gb124]? = some (.cells #[u125000] 31 (0, 0))) ∧ Aside0 (Below w.heap.size w w'))
 case atStart => exact ⟨(0), (([] : List (S76))), (.slice none 0 0), (by first | rfl | (simp; done) | (simp [*]; done) | (simp [bne]; done)), H', ⟨Nat.le_refl _⟩, ⟨by first | exact Kd.R_nil _ _ _ _ _ | exact Kd.N_nil _ _ _ _ _ | exact Kd.V_nil _ _ _ _ _ | exact Kd.Q_nil _ _ _ _ _ | exact Kd.S_nil _ _ _ _ _⟩, ⟨bf_⟩, ⟨bf_⟩, ⟨bf_⟩, ⟨bu_⟩, ⟨bw_ HB⟩⟩
 case round =>
  clear H'
  (try clear p2); (try clear c4); (try clear c7); (try clear c8); (try clear c9); (try clear hcz10_0); (try clear hfz10_0)
  obtain ⟨x6_1, x125000_1, u125000, rfl, HA, HK1, HO_125000, BK121, BK122, BK123, BK124, HB⟩ := hrel
  cases gk with
  | zero => exact absurd HA.out (by simp [spec_l03Put.l0])
  | succ k1 =>
   have H := HA.out
   clear HA
   simp only [spec_l03Put.l0] at H
   by_cases c11 : x6_1 < (l0_0.length : Int)
   ·rw [if_pos c11] at H
    have c11b0 : decide (x6_1 < (l0_0.length : Int)) = true := decide_eq_true c11
    clear c11
    by_cases c12 : 0 ≤ x6_1
    rotate_left
    ·rw [if_neg c12] at H
     exact absurd H (by simp)
    rw [if_pos c12] at H
    have c12b0 : decide (0 ≤ x6_1) = true := decide_eq_true c12
    clear c12
    by_cases c13 : (Op.bytesLess (((rd_T76 l0_0 x6_1).f0).toList) a1_0.toList) = true
    rotate_left
    ·rw [if_neg c13] at H
     have c13b0 : (Op.bytesLess (((rd_T76 l0_0 x6_1).f0).toList) a1_0.toList) = false := by simpa using c13
     have c13g0 : (Op.bytesLess (a1_0.toList) (((rd_T76 l0_0 x6_1).f0).toList) || (a1_0.toList) == (((rd_T76 l0_0 x6_1).f0).toList)) = true := Go.Proofs.Ythbaoefbccdioaa.Sem.less_or c13b0
     have c13g1 : (!Op.bytesLess (a1_0.toList) (((rd_T76 l0_0 x6_1).f0).toList) && !((a1_0.toList) == (((rd_T76 l0_0 x6_1).f0).toList))) = false := Go.Proofs.Ythbaoefbccdioaa.Sem.less_and c13b0
     clear c13
     have H' := Aside0.mk H
     clear H
     obtain ⟨hnb24, hnc24⟩ := ns_ NB121_122
     obtain ⟨hnb25, hnc25⟩ := ns_ NB121_123
     obtain ⟨hnb26, hnc26⟩ := ns_ NB121_124
     have hcz27_0 : wr.cell? ⟨gb121, 0, none⟩ = some (.slice A0_0 l0_0.length c0_0) := bc_ BK121 0
     have hfz27_0 := blk_frozen BK121.out 0
     try go_wp2
     replace HO_125000 := rd_ HO_125000; replace BK121 := kd_ BK121; replace BK122 := kd_ BK122; replace BK123 := kd_ BK123; replace BK124 := kd_ BK124; replace HB := wd_ HB
     have p125 : 0 ≤ (x6_1 : Int) := od_
     have q125 : x6_1 < (l0_0.length : Int) := od_
     obtain ⟨ad125, e125, hx125_0, hx125_1, hx125_2⟩ := at_T76 HR0_0.out x6_1 p125 q125
     have hw125_2 := hx125_2
     have hw125_1 := hx125_1
     have hw125_0 := hx125_0
     cases e125
     replace hx125_0 := hc_ HB hx125_0
     replace hx125_1 := hc_ HB hx125_1
     replace hx125_2 := hc_ HB hx125_2
     replace p125 := eq_true p125
     replace q125 := eq_true q125
     refine start_ (n := 9) (S := fun w' => w'.cell? ⟨gb121, 0, none⟩ = some (.slice (some ad125) l0_0.length c0_0) ∧ w'.cell? ⟨gb122, 0, none⟩ = some (.string a1_0) ∧ w'.cell? ⟨gb122, 1, none⟩ = some (.string a1_1) ∧ w'.cell? ⟨gb122, 2, none⟩ = some (.int .i64 a1_2) ∧ w'.cell? (ad125.add ((x6_1).toNat * 3)) = some (.string ((rd_T76 l0_0 x6_1).f0)) ∧ w'.cell? ⟨(ad125.add ((x6_1).toNat * 3)).block, (ad125.add ((x6_1).toNat * 3)).off + 1, none⟩ = some (.string ((rd_T76 l0_0 x6_1).f1)) ∧ w'.cell? ⟨(ad125.add ((x6_1).toNat * 3)).block, (ad125.add ((x6_1).toNat * 3)).off + 2, none⟩ = some (.int .i64 ((rd_T76 l0_0 x6_1).f2))) (ds := []) #[false, false, false, false, false, false, false, false, false] (by kernel_rfl) rfl rfl ⟨bc_ BK121 0, bc_ BK122 0, bc_ BK122 1, bc_ BK122 2, (hc_ HB hw125_0), (hc_ HB hw125_1), (hc_ HB hw125_2)⟩ (fun hHeld => ?_); refine with_tabW spec_l03Put.tab5 spec_l03Put.bits5 (fun HT_ HW_ => ?_)
     generalize wr.drew = w28 at HO_125000 BK121 BK122 BK123 BK124 HB hx125_0 hx125_1 hx125_2 hHeld ⊢
     refine pv_ 0 16 ?_
     refine pv_ 2 18 ?_
     refine pv_ 6 22 ?_
     refine tv_ 1 17 hHeld ?_
     refine pv_ 3 19 ?_
     refine pv_ 4 20 ?_
     refine tv_ 5 21 hHeld ?_
     refine tv_ 7 23 hHeld ?_
     refine pv_ 8 24 ?_
     refine done_ (done_of HT_.out (by kernel_rfl)) ?_
     try go_wp2
     go_roundg k1
     case measure => have := HK1.out; omega
     case rel => exact ⟨(wrap64 (x6_1 + 1)), (x125000_1), (u125000), (by first | rfl | (simp; done) | (simp [*]; done) | (simp [bne]; done)), H', ⟨by have := HK1.out; omega⟩, ⟨rq_ HO_125000.out⟩, ⟨bf_⟩, ⟨bf_⟩, ⟨bf_⟩, ⟨bf_⟩, ⟨bw_ HB⟩⟩
    rw [if_pos c13] at H
    have c13b0 : (Op.bytesLess (((rd_T76 l0_0 x6_1).f0).toList) a1_0.toList) = true := c13
    have c13g0 : Op.bytesLess (a1_0.toList) (((rd_T76 l0_0 x6_1).f0).toList) = false := Go.Proofs.Ythbaoefbccdioaa.Sem.less_no c13b0
    have c13g1 : ((a1_0.toList) == (((rd_T76 l0_0 x6_1).f0).toList)) = false := Go.Proofs.Ythbaoefbccdioaa.Sem.less_ne c13b0
    clear c13
    by_cases c14 : x125000_1.length < 3518437208883
    rotate_left
    ·rw [if_neg c14] at H
     exact absurd H (by simp)
    rw [if_pos c14] at H
    have LMc14 := Aside0.mk c14
    clear c14
    obtain ⟨y127, hy127⟩ : ∃ y_ : List (S76), y_ = (x125000_1 ++ [(⟨(rd_T76 l0_0 x6_1).f0, (rd_T76 l0_0 x6_1).f1, (rd_T76 l0_0 x6_1).f2⟩ : S76)]) := ⟨_, rfl⟩
    replace H : (spec_l03Put.l0 k1 (wrap64 (x6_1 + 1)) l0_0 a1_0 a1_1 a1_2 y127) = some r := by first | (rw [hy127]; with_reducible exact H) | (have H2_ := (Option.bind_some _ _).symm.trans H; rw [hy127]; with_reducible exact H2_) | (have H2_ := (Option.bind_some _ _).symm.trans H; with_reducible exact H2_) | with_reducible exact H | (rw [hy127]; exact H) | exact H
    have Ny127 := Aside0.mk hy127
    clear hy127
    have H' := Aside0.mk H
    clear H
    obtain ⟨hnb15, hnc15⟩ := ns_ NB121_122
    obtain ⟨hnb16, hnc16⟩ := ns_ NB121_123
    obtain ⟨hnb17, hnc17⟩ := ns_ NB121_124
    have hcz18_0 : wr.cell? ⟨gb121, 0, none⟩ = some (.slice A0_0 l0_0.length c0_0) := bc_ BK121 0
    have hfz18_0 := blk_frozen BK121.out 0
    try go_wp2
    replace HO_125000 := rd_ HO_125000; replace BK121 := kd_ BK121; replace BK122 := kd_ BK122; replace BK123 := kd_ BK123; replace BK124 := kd_ BK124; replace HB := wd_ HB
    have p125 : 0 ≤ (x6_1 : Int) := od_
    have q125 : x6_1 < (l0_0.length : Int) := od_
    obtain ⟨ad125, e125, hx125_0, hx125_1, hx125_2⟩ := at_T76 HR0_0.out x6_1 p125 q125
    have hw125_2 := hx125_2
    have hw125_1 := hx125_1
    have hw125_0 := hx125_0
    cases e125
    replace hx125_0 := hc_ HB hx125_0
    replace hx125_1 := hc_ HB hx125_1
    replace hx125_2 := hc_ HB hx125_2
    replace p125 := eq_true p125
    replace q125 := eq_true q125
    refine start_ (n := 9) (S := fun w' => w'.cell? ⟨gb121, 0, none⟩ = some (.slice (some ad125) l0_0.length c0_0) ∧ w'.cell? ⟨gb122, 0, none⟩ = some (.string a1_0) ∧ w'.cell? ⟨gb122, 1, none⟩ = some (.string a1_1) ∧ w'.cell? ⟨gb122, 2, none⟩ = some (.int .i64 a1_2) ∧ w'.cell? (ad125.add ((x6_1).toNat * 3)) = some (.string ((rd_T76 l0_0 x6_1).f0)) ∧ w'.cell? ⟨(ad125.add ((x6_1).toNat * 3)).block, (ad125.add ((x6_1).toNat * 3)).off + 1, none⟩ = some (.string ((rd_T76 l0_0 x6_1).f1)) ∧ w'.cell? ⟨(ad125.add ((x6_1).toNat * 3)).block, (ad125.add ((x6_1).toNat * 3)).off + 2, none⟩ = some (.int .i64 ((rd_T76 l0_0 x6_1).f2))) (ds := []) #[false, false, false, false, false, false, false, false, false] (by kernel_rfl) rfl rfl ⟨bc_ BK121 0, bc_ BK122 0, bc_ BK122 1, bc_ BK122 2, (hc_ HB hw125_0), (hc_ HB hw125_1), (hc_ HB hw125_2)⟩ (fun hHeld => ?_); refine with_tabW spec_l03Put.tab5 spec_l03Put.bits5 (fun HT_ HW_ => ?_)
    generalize wr.drew = w19 at HO_125000 BK121 BK122 BK123 BK124 HB hx125_0 hx125_1 hx125_2 hHeld ⊢
    refine pv_ 0 16 ?_
    refine pv_ 2 18 ?_
    refine pv_ 6 22 ?_
    refine tv_ 1 17 hHeld ?_
    refine pv_ 3 19 ?_
    refine pv_ 4 20 ?_
    refine tv_ 5 21 hHeld ?_
    refine tv_ 7 23 hHeld ?_
    refine pv_ 8 24 ?_
    refine done_ (done_of HT_.out (by kernel_rfl)) ?_
    try go_wp2
    replace HO_125000 := rd_ HO_125000; replace BK121 := kd_ BK121; replace BK122 := kd_ BK122; replace BK123 := kd_ BK123; replace BK124 := kd_ BK124; replace HB := wd_ HB
    have p126 : 0 ≤ (x6_1 : Int) := od_
    have q126 : x6_1 < (l0_0.length : Int) := od_
    obtain ⟨ad126, e126, hx126_0, hx126_1, hx126_2⟩ := at_T76 HR0_0.out x6_1 p126 q126
    have hw126_2 := hx126_2
    have hw126_1 := hx126_1
    have hw126_0 := hx126_0
    obtain rfl : ad125 = ad126 := (by injection e126)
    replace hx126_0 := hc_ HB hx126_0
    replace hx126_1 := hc_ HB hx126_1
    replace hx126_2 := hc_ HB hx126_2
    replace p126 := eq_true p126
    replace q126 := eq_true q126
    refine start_ (n := 11) (S := fun w' => w'.cell? ⟨gb124, 0, none⟩ = some (u125000) ∧ w'.cell? ⟨gb121, 0, none⟩ = some (.slice (some ad125) l0_0.length c0_0) ∧ w'.cell? (ad125.add ((x6_1).toNat * 3)) = some (.string ((rd_T76 l0_0 x6_1).f0)) ∧ w'.cell? ⟨(ad125.add ((x6_1).toNat * 3)).block, (ad125.add ((x6_1).toNat * 3)).off + 1, none⟩ = some (.string ((rd_T76 l0_0 x6_1).f1)) ∧ w'.cell? ⟨(ad125.add ((x6_1).toNat * 3)).block, (ad125.add ((x6_1).toNat * 3)).off + 2, none⟩ = some (.int .i64 ((rd_T76 l0_0 x6_1).f2))) (ds := [10]) #[false, false, false, false, false, false, false, false, false, false, false] (by kernel_rfl) rfl rfl ⟨bc_ BK124 0, bc_ BK121 0, (hc_ HB hw126_0), (hc_ HB hw126_1), (hc_ HB hw126_2)⟩ (fun hHeld => ?_); refine with_tabW spec_l03Put.tab6 spec_l03Put.bits6 (fun HT_ HW_ => ?_)
    generalize w19.drew = w20 at HO_125000 BK121 BK122 BK123 BK124 HB hx126_0 hx126_1 hx126_2 hHeld ⊢
    refine pv_ 0 25 ?_
    refine pv_ 2 27 ?_
    refine pv_ 4 29 ?_
    refine tv_ 1 26 hHeld ?_
    refine tv_ 3 28 hHeld ?_
    refine pv_ 5 30 ?_
    refine tv_ 6 31 hHeld ?_
    refine one_ (i := 7) (N := some 32) #[true, true, true, true, true, true, true, true, false, false, false] rfl rfl (one_of HT_.out (by kernel_rfl)) (by decide) (fun K hK => ?_)
    refine value_ (w1 := ?_) (v := ?_) (by rfl) rfl ?_ ?_
    rotate_left 2
    ·go_simp
     constructor
     ·rfl
     ·rfl
    refine hK.out _ _ ⟨(blk_cell (blk_alloc BK124.out _) 0).trans rfl, (blk_cell (blk_alloc BK121.out _) 0).trans rfl, (World.cell?_alloc_lt _ _ _ (World.block_lt_of_cell? _ _ ((hc_ HB hw126_0)))).trans ((hc_ HB hw126_0)), (World.cell?_alloc_lt _ _ _ (World.block_lt_of_cell? _ _ ((hc_ HB hw126_1)))).trans ((hc_ HB hw126_1)), (World.cell?_alloc_lt _ _ _ (World.block_lt_of_cell? _ _ ((hc_ HB hw126_2)))).trans ((hc_ HB hw126_2))⟩ (fun hHeld => ?_)
    clear hK K
    refine norm_ (a' := ?_) ?_ ?_
    rotate_left
    ·show Act.put _ (some 32) _ = _
     simp only [Act.put, sia_, scz_, scs_, i64_w, i32_w]
     rfl
    refine one_ (i := 8) (N := some 33) #[true, true, true, true, true, true, true, true, true, false, false] rfl rfl (one_of HT_.out (by kernel_rfl)) (by decide) (fun K hK => ?_)
    refine Kd.R_append_step k76 (w0 := w) w.heap.size (by rfl) (.tmp 26) (.tmp 32) 29 76 (.agg #[(.string ⟨#[]⟩), (.string ⟨#[]⟩), (.int .i64 0)]) 40 rfl Try.underlying29 info76 rfl (by decide) (by omega) u125000 x125000_1 (⟨(rd_T76 l0_0 x6_1).f0, (rd_T76 l0_0 x6_1).f1, (rd_T76 l0_0 x6_1).f2⟩ : S76) [.string ((rd_T76 l0_0 x6_1).f0), .string ((rd_T76 l0_0 x6_1).f1), .int .i64 ((rd_T76 l0_0 x6_1).f2)] (fun k_ => k_ ≠ gb122) (fun _ => False) rfl rfl ?aP (fun _ hk => hk.elim) ?aF ?aO ?aB ?aS ?aL ?_
    (case aP => exact k76_mkM _ _ _ (⟨(rd_T76 l0_0 x6_1).f0, (rd_T76 l0_0 x6_1).f1, (rd_T76 l0_0 x6_1).f2⟩ : S76))
    (case aB => exact (bw_ HB))
    (case aF => exact (fun k_ hk => Kd.freshB (g := gb122) (o := .cells #[.string a1_0, .string a1_1, .int .i64 a1_2] 76 (0, 0)) (bp_ BK122) k_ hk))
    (case aO => exact (rp_ HO_125000))
    (case aS => exact (below_size (bw_ HB)))
    (case aL => have := LMc14.out; omega)
    intro v128 w21 ho hb hg hat
    rw [← Ny127.out] at ho
    have n0_ := mk_ (blk_grown (g := gb121) (o := .cells #[.slice (some ad125) l0_0.length c0_0] 31 (0, 0)) (bp_ BK121) hg (Kd.R_ne HO_125000.out BK121.out (by decide)))
    have n1_ := mk_ (blk_grown (g := gb122) (o := .cells #[.string a1_0, .string a1_1, .int .i64 a1_2] 76 (0, 0)) (bp_ BK122) hg (Kd.R_away HO_125000.out (fun _ hk => hk)))
    have n2_ := mk_ (blk_grown (g := gb123) (o := .cells #[.slice none 0 0] 31 (0, 0)) (bp_ BK123) hg (Kd.R_ne HO_125000.out BK123.out (by decide)))
    have n3_ := mk_ (blk_grown (g := gb124) (o := .cells #[u125000] 31 (0, 0)) (bp_ BK124) hg (Kd.R_ne HO_125000.out BK124.out (by decide)))
    have n4_ := mk_ (hb)
    have n5_ := mk_ (ho)
    clear BK121; clear BK122; clear BK123; clear BK124; clear HB; clear HO_125000; have BK121 := n0_; have BK122 := n1_; have BK123 := n2_; have BK124 := n3_; have HB := n4_; have HO129 := n5_; clear n0_ n1_ n2_ n3_ n4_ n5_; clear ho hb hg hat
    obtain ⟨Ao22, co22, eo22⟩ := Kd.R_slice HO129.out
    (first | subst eo22 | (injection eo22 with f1_ f2_ f3_; have f4_ := f1_.symm; have f5_ := f3_.symm; clear f1_ f2_ f3_; subst f4_; subst f5_))
    refine hK.out _ _ ⟨bc_ BK124 0, bc_ BK121 0, (hc_ HB hw126_0), (hc_ HB hw126_1), (hc_ HB hw126_2)⟩ (fun hHeld => ?_)
    clear hK K
    refine norm_ (a' := ?_) ?_ ?_
    rotate_left
    ·show Act.put _ (some 33) _ = _
     simp only [Act.put, sia_, scz_, scs_, i64_w, i32_w]
     rfl
    refine pv_ 9 34 ?_
    refine last_ (i := 10) (N := none) #[true, true, true, true, true, true, true, true, true, true, true] rfl rfl (one_of HT_.out (by kernel_rfl)) (by decide) (fun K hK => ?_)
    have hs23 : w21.cell? ⟨gb124, 0, none⟩ = some (u125000) := bc_ BK124 0
    have hfs23 := blk_frozen BK124.out 0
    have hns23_0 := NB121_124.out
    have hns23_1 := NB122_124.out
    have hns23_2 := NB123_124.out
    have hms23_0 := NB124_121.out
    have hms23_1 := NB124_122.out
    have hms23_2 := NB124_123.out
    refine skip_ (w1 := ?_) (by rfl) rfl ?_ ?_
    rotate_left
    ·go_simp
     rfl
    refine hK.out _ _ ?_
    clear hK K
    refine done_ (done_of HT_.out (by kernel_rfl)) ?_
    try go_wp2
    go_roundg k1
    case measure => have := HK1.out; omega
    case rel => exact ⟨(wrap64 (x6_1 + 1)), (y127), (.slice Ao22 y127.length co22), (by first | rfl | (simp; done) | (simp [*]; done) | (simp [bne]; done)), H', ⟨by have := HK1.out; omega⟩, ⟨rq_ (Kd.R_mono (Kd.R_far (p := ⟨gb124, 0, none⟩) (Kd.R_types HO129.out BK124.out (by decide)) (fun _ hk => hk.2) (.slice Ao22 y127.length co22)) (fun _ hk => hk.1))⟩, ⟨bf_⟩, ⟨bf_⟩, ⟨bf_⟩, ⟨bu_⟩, ⟨bw_ HB⟩⟩
   rw [if_neg c11] at H
   have c11b0 : decide (x6_1 < (l0_0.length : Int)) = false := decide_eq_false c11
   clear c11
   by_cases c29 : x125000_1.length < 3518437208883
   rotate_left
   ·rw [if_neg c29] at H
    exact absurd H (by simp)
   rw [if_pos c29] at H
   have LMc29 := Aside0.mk c29
   clear c29
   obtain ⟨y130, hy130⟩ : ∃ y_ : List (S76), y_ = (x125000_1 ++ [(⟨a1_0, a1_1, a1_2⟩ : S76)]) := ⟨_, rfl⟩
   replace H : (spec_l03Put.l1 k1 0 l0_0 a1_0 a1_1 a1_2 y130) = some r := by first | (rw [hy130]; with_reducible exact H) | (have H2_ := (Option.bind_some _ _).symm.trans H; rw [hy130]; with_reducible exact H2_) | (have H2_ := (Option.bind_some _ _).symm.trans H; with_reducible exact H2_) | with_reducible exact H | (rw [hy130]; exact H) | exact H
   have Ny130 := Aside0.mk hy130
   clear hy130
   have H' := Aside0.mk H
   clear H
   obtain ⟨hnb30, hnc30⟩ := ns_ NB121_122
   obtain ⟨hnb31, hnc31⟩ := ns_ NB121_123
   obtain ⟨hnb32, hnc32⟩ := ns_ NB121_124
   have hcz33_0 : wr.cell? ⟨gb121, 0, none⟩ = some (.slice A0_0 l0_0.length c0_0) := bc_ BK121 0
   have hfz33_0 := blk_frozen BK121.out 0
   obtain ⟨hnb34, hnc34⟩ := ns_ NB124_122
   obtain ⟨hnb35, hnc35⟩ := ns_ NB124_123
   have hcz36_0 : wr.cell? ⟨gb124, 0, none⟩ = some (u125000) := bc_ BK124 0
   have hfz36_0 := blk_frozen BK124.out 0
   obtain ⟨hnb37, hnc37⟩ := ns_ NB122_123
   have hcz38_0 : wr.cell? ⟨gb122, 0, none⟩ = some (.string a1_0) := bc_ BK122 0
   have hcz38_1 : wr.cell? ⟨gb122, 1, none⟩ = some (.string a1_1) := bc_ BK122 1
   have hcz38_2 : wr.cell? ⟨gb122, 2, none⟩ = some (.int .i64 a1_2) := bc_ BK122 2
   have hfz38_0 := blk_frozen BK122.out 0
   have hfz38_1 := blk_frozen BK122.out 1
   have hfz38_2 := blk_frozen BK122.out 2
   go_wp2_with (first | ((with_reducible refine gate_builtin (b := .append) (xs := #[.tmp 36, .tmp 38]) rfl ?_); at_builtin; refine Kd.R_append k76 (w0 := w) w.heap.size rfl (.tmp 36) (.tmp 38) 29 76 (.agg #[(.string ⟨#[]⟩), (.string ⟨#[]⟩), (.int .i64 0)]) 40 rfl Try.underlying29 info76 rfl (by decide) (by omega) u125000 x125000_1 (⟨a1_0, a1_1, a1_2⟩ : S76) [.string a1_0, .string a1_1, .int .i64 a1_2] (fun k_ => k_ ≠ gb122) (fun _ => False) rfl rfl ?aP (fun _ hk => hk.elim) ?aF ?aO ?aB ?aS ?aL ?_; (case aP => exact k76_mkM _ _ _ (⟨a1_0, a1_1, a1_2⟩ : S76)); (case aB => exact (bw_ HB)); (case aF => exact (fun k_ hk => Kd.freshB (g := gb122) (o := .cells #[.string a1_0, .string a1_1, .int .i64 a1_2] 76 (0, 0)) (bp_ BK122) k_ hk)); (case aO => exact (rp_ HO_125000)); (case aS => exact (below_size (bw_ HB))); (case aL => have := LMc29.out; omega); intro v131 w39 ho hb hg hat; rw [← Ny130.out] at ho; have HO132 := mk_ (ho); replace BK121 := mk_ (blk_grown (g := gb121) (o := .cells #[.slice A0_0 l0_0.length c0_0] 31 (0, 0)) (bp_ BK121) hg (Kd.R_ne HO_125000.out BK121.out (by decide))); replace BK122 := mk_ (blk_grown (g := gb122) (o := .cells #[.string a1_0, .string a1_1, .int .i64 a1_2] 76 (0, 0)) (bp_ BK122) hg (Kd.R_away HO_125000.out (fun _ hk => hk))); replace BK123 := mk_ (blk_grown (g := gb123) (o := .cells #[.slice none 0 0] 31 (0, 0)) (bp_ BK123) hg (Kd.R_ne HO_125000.out BK123.out (by decide))); replace BK124 := mk_ (blk_grown (g := gb124) (o := .cells #[u125000] 31 (0, 0)) (bp_ BK124) hg (Kd.R_ne HO_125000.out BK124.out (by decide))); replace HB := mk_ (hb); clear HO_125000; clear ho hb hg hat; obtain ⟨Ao40, co40, eo40⟩ := Kd.R_slice HO132.out; subst eo40; obtain ⟨hcz41_0, hfz41_0⟩ := b1_ BK124))
   go_loopg [7] k1 (fun kq v7 w' => ∃ (x7_2 : Int) (x125000_2 : List (S76)) (u125000 : Value), v7 = .int .i64 x7_2 ∧ Aside0 (spec_l03Put.l1 kq x7_2 l0_0 a1_0 a1_1 a1_2 x125000_2 = some r) ∧ Aside0 (kq ≤ k1) ∧ Aside0 (Kd.R k76 76 w' w.heap.size (fun k_ => k_ ≠ gb122) u125000 x125000_2) ∧ Aside0 (w'.heap[gb121]? = some (.cells #[(.slice A0_0 l0_0.length c0_0)] 31 (0, 0))) ∧ Aside0 (w'.heap[gb122]? = some (.cells #[.string a1_0, .string a1_1, .int .i64 a1_2] 76 (0, 0))) ∧ Aside0 (w'.heap[gb123]? = some (.cells #[(.slice none 0 0)] 31 (0, 0))) ∧ Aside0 (w'.heap[gb124]? = some (.cells #[u125000] 31 (0, 0))) ∧ Aside0 (Below w.heap.size w w'))
   case atStart => exact ⟨(0), (y130), (.slice Ao40 y130.length co40), (by first | rfl | (simp; done) | (simp [*]; done) | (simp [bne]; done)), H', ⟨Nat.le_refl _⟩, ⟨rq_ (Kd.R_mono (Kd.R_far (p := ⟨gb124, 0, none⟩) (Kd.R_types HO132.out BK124.out (by decide)) (fun _ hk => hk.2) (.slice Ao40 y130.length co40)) (fun _ hk => hk.1))⟩, ⟨bf_⟩, ⟨bf_⟩, ⟨bf_⟩, ⟨bu_⟩, ⟨bw_ HB⟩⟩
   case round =>
    clear H'
    (try clear c1); (try clear p1); (try clear q1); (try clear hx1); (try clear c2); (try clear p2); (try clear c3); (try clear c4); (try clear p6); (try clear c7); (try clear c8); (try clear c9); (try clear c11); (try clear c11b0); (try clear c12); (try clear c12b0); (try clear p12); (try clear q12); (try clear hx12); (try clear c13); (try clear c13b0); (try clear c14); (try clear c15); (try clear c16); (try clear c17); (try clear c24); (try clear c25); (try clear c26); (try clear c29); (try clear c30); (try clear c31); (try clear c32); (try clear c34); (try clear c35); (try clear c37); (try clear c41); (try clear hcz10_0); (try clear hcz18_0); (try clear hcz27_0); (try clear hcz33_0); (try clear hcz36_0); (try clear hcz38_0); (try clear hcz38_1); (try clear hcz38_2); (try clear hcz41_0); (try clear hfz10_0); (try clear hfz18_0); (try clear hfz27_0); (try clear hfz33_0); (try clear hfz36_0); (try clear hfz38_0); (try clear hfz38_1); (try clear hfz38_2); (try clear hfz41_0); (try clear hx125_0); (try clear hx125_1); (try clear hx125_2); (try clear hx126_0); (try clear hx126_1); (try clear hx126_2); (try clear p125); (try clear p126); (try clear p2); (try clear q125); (try clear q126)
    obtain ⟨x7_2, x125000_2, u125000, rfl, HA, HK2, HO_125000, BK121, BK122, BK123, BK124, HB⟩ := hrel
    cases gk with
    | zero => exact absurd HA.out (by simp [spec_l03Put.l1])
    | succ k2 =>
     have H := HA.out
     clear HA
     simp only [spec_l03Put.l1] at H
     by_cases c42 : x7_2 < (l0_0.length : Int)
     rotate_left
     ·rw [if_neg c42] at H
      have c42b0 : decide (x7_2 < (l0_0.length : Int)) = false := decide_eq_false c42
      clear c42
      obtain rfl := Option.some.inj H
      obtain ⟨hnb60, hnc60⟩ := ns_ NB121_122
      obtain ⟨hnb61, hnc61⟩ := ns_ NB121_123
      obtain ⟨hnb62, hnc62⟩ := ns_ NB121_124
      have hcz63_0 : wr.cell? ⟨gb121, 0, none⟩ = some (.slice A0_0 l0_0.length c0_0) := bc_ BK121 0
      have hfz63_0 := blk_frozen BK121.out 0
      obtain ⟨hnb64, hnc64⟩ := ns_ NB124_122
      obtain ⟨hnb65, hnc65⟩ := ns_ NB124_123
      have hcz66_0 : wr.cell? ⟨gb124, 0, none⟩ = some (u125000) := bc_ BK124 0
      have hfz66_0 := blk_frozen BK124.out 0
      obtain ⟨Ao67, co67, eo67⟩ := Kd.R_slice HO_125000.out
      subst eo67
      obtain ⟨hnb68, hnc68⟩ := ns_ NB123_122
      have hcz69_0 : wr.cell? ⟨gb123, 0, none⟩ = some (.slice none 0 0) := bc_ BK123 0
      have hfz69_0 := blk_frozen BK123.out 0
      go_wp2
      refine bodyPost_ret (results_cell_row rfl _ _ gb123 31 #[.slice Ao67 x125000_2.length co67] (0, 0) _ rfl bu_ Try.underlying31 rfl (by kernel_rfl)) rfl ?_
      exact ⟨_, er_, rq_ (rt_ HO_125000 BK123 0 (.slice Ao67 x125000_2.length co67)), bw_ HB⟩
     rw [if_pos c42] at H
     have c42b0 : decide (x7_2 < (l0_0.length : Int)) = true := decide_eq_true c42
     clear c42
     by_cases c43 : 0 ≤ x7_2
     rotate_left
     ·rw [if_neg c43] at H
      exact absurd H (by simp)
     rw [if_pos c43] at H
     have c43b0 : decide (0 ≤ x7_2) = true := decide_eq_true c43
     clear c43
     by_cases c44 : (Op.bytesLess a1_0.toList (((rd_T76 l0_0 x7_2).f0).toList)) = true
     rotate_left
     ·rw [if_neg c44] at H
      have c44b0 : (Op.bytesLess a1_0.toList (((rd_T76 l0_0 x7_2).f0).toList)) = false := by simpa using c44
      have c44g0 : (Op.bytesLess (((rd_T76 l0_0 x7_2).f0).toList) (a1_0.toList) || (((rd_T76 l0_0 x7_2).f0).toList) == (a1_0.toList)) = true := Go.Proofs.Ythbaoefbccdioaa.Sem.less_or c44b0
      have c44g1 : (!Op.bytesLess (((rd_T76 l0_0 x7_2).f0).toList) (a1_0.toList) && !((((rd_T76 l0_0 x7_2).f0).toList) == (a1_0.toList))) = false := Go.Proofs.Ythbaoefbccdioaa.Sem.less_and c44b0
      clear c44
      have H' := Aside0.mk H
      clear H
      obtain ⟨hnb55, hnc55⟩ := ns_ NB121_122
      obtain ⟨hnb56, hnc56⟩ := ns_ NB121_123
      obtain ⟨hnb57, hnc57⟩ := ns_ NB121_124
      have hcz58_0 : wr.cell? ⟨gb121, 0, none⟩ = some (.slice A0_0 l0_0.length c0_0) := bc_ BK121 0
      have hfz58_0 := blk_frozen BK121.out 0
      try go_wp2
      replace HO_125000 := rd_ HO_125000; replace BK121 := kd_ BK121; replace BK122 := kd_ BK122; replace BK123 := kd_ BK123; replace BK124 := kd_ BK124; replace HB := wd_ HB
      have p133 : 0 ≤ (x7_2 : Int) := od_
      have q133 : x7_2 < (l0_0.length : Int) := od_
      obtain ⟨ad133, e133, hx133_0, hx133_1, hx133_2⟩ := at_T76 HR0_0.out x7_2 p133 q133
      have hw133_2 := hx133_2
      have hw133_1 := hx133_1
      have hw133_0 := hx133_0
      cases e133
      replace hx133_0 := hc_ HB hx133_0
      replace hx133_1 := hc_ HB hx133_1
      replace hx133_2 := hc_ HB hx133_2
      replace p133 := eq_true p133
      replace q133 := eq_true q133
      refine start_ (n := 9) (S := fun w' => w'.cell? ⟨gb121, 0, none⟩ = some (.slice (some ad133) l0_0.length c0_0) ∧ w'.cell? ⟨gb122, 0, none⟩ = some (.string a1_0) ∧ w'.cell? ⟨gb122, 1, none⟩ = some (.string a1_1) ∧ w'.cell? ⟨gb122, 2, none⟩ = some (.int .i64 a1_2) ∧ w'.cell? (ad133.add ((x7_2).toNat * 3)) = some (.string ((rd_T76 l0_0 x7_2).f0)) ∧ w'.cell? ⟨(ad133.add ((x7_2).toNat * 3)).block, (ad133.add ((x7_2).toNat * 3)).off + 1, none⟩ = some (.string ((rd_T76 l0_0 x7_2).f1)) ∧ w'.cell? ⟨(ad133.add ((x7_2).toNat * 3)).block, (ad133.add ((x7_2).toNat * 3)).off + 2, none⟩ = some (.int .i64 ((rd_T76 l0_0 x7_2).f2))) (ds := []) #[false, false, false, false, false, false, false, false, false] (by kernel_rfl) rfl rfl ⟨bc_ BK121 0, bc_ BK122 0, bc_ BK122 1, bc_ BK122 2, (hc_ HB hw133_0), (hc_ HB hw133_1), (hc_ HB hw133_2)⟩ (fun hHeld => ?_); refine with_tabW spec_l03Put.tab11 spec_l03Put.bits11 (fun HT_ HW_ => ?_)
      generalize wr.drew = w59 at HO_125000 BK121 BK122 BK123 BK124 HB hx133_0 hx133_1 hx133_2 hHeld ⊢
      refine pv_ 0 48 ?_
      refine pv_ 2 50 ?_
      refine pv_ 6 54 ?_
      refine tv_ 1 49 hHeld ?_
      refine pv_ 3 51 ?_
      refine pv_ 4 52 ?_
      refine tv_ 5 53 hHeld ?_
      refine tv_ 7 55 hHeld ?_
      refine pv_ 8 56 ?_
      refine done_ (done_of HT_.out (by kernel_rfl)) ?_
      try go_wp2
      go_roundg k2
      case measure => have := HK1.out; have := HK2.out; omega
      case rel => exact ⟨(wrap64 (x7_2 + 1)), (x125000_2), (u125000), (by first | rfl | (simp; done) | (simp [*]; done) | (simp [bne]; done)), H', ⟨by have := HK1.out; have := HK2.out; omega⟩, ⟨rq_ HO_125000.out⟩, ⟨bf_⟩, ⟨bf_⟩, ⟨bf_⟩, ⟨bf_⟩, ⟨bw_ HB⟩⟩
     rw [if_pos c44] at H
     have c44b0 : (Op.bytesLess a1_0.toList (((rd_T76 l0_0 x7_2).f0).toList)) = true := c44
     have c44g0 : Op.bytesLess (((rd_T76 l0_0 x7_2).f0).toList) (a1_0.toList) = false := Go.Proofs.Ythbaoefbccdioaa.Sem.less_no c44b0
     have c44g1 : ((((rd_T76 l0_0 x7_2).f0).toList) == (a1_0.toList)) = false := Go.Proofs.Ythbaoefbccdioaa.Sem.less_ne c44b0
     clear c44
     by_cases c45 : x125000_2.length < 3518437208883
     rotate_left
     ·rw [if_neg c45] at H
      exact absurd H (by simp)
     rw [if_pos c45] at H
     have LMc45 := Aside0.mk c45
     clear c45
     obtain ⟨y135, hy135⟩ : ∃ y_ : List (S76), y_ = (x125000_2 ++ [(⟨(rd_T76 l0_0 x7_2).f0, (rd_T76 l0_0 x7_2).f1, (rd_T76 l0_0 x7_2).f2⟩ : S76)]) := ⟨_, rfl⟩
     replace H : (spec_l03Put.l1 k2 (wrap64 (x7_2 + 1)) l0_0 a1_0 a1_1 a1_2 y135) = some r := by first | (rw [hy135]; with_reducible exact H) | (have H2_ := (Option.bind_some _ _).symm.trans H; rw [hy135]; with_reducible exact H2_) | (have H2_ := (Option.bind_some _ _).symm.trans H; with_reducible exact H2_) | with_reducible exact H | (rw [hy135]; exact H) | exact H
     have Ny135 := Aside0.mk hy135
     clear hy135
     have H' := Aside0.mk H
     clear H
     obtain ⟨hnb46, hnc46⟩ := ns_ NB121_122
     obtain ⟨hnb47, hnc47⟩ := ns_ NB121_123
     obtain ⟨hnb48, hnc48⟩ := ns_ NB121_124
     have hcz49_0 : wr.cell? ⟨gb121, 0, none⟩ = some (.slice A0_0 l0_0.length c0_0) := bc_ BK121 0
     have hfz49_0 := blk_frozen BK121.out 0
     try go_wp2
     replace HO_125000 := rd_ HO_125000; replace BK121 := kd_ BK121; replace BK122 := kd_ BK122; replace BK123 := kd_ BK123; replace BK124 := kd_ BK124; replace HB := wd_ HB
     have p133 : 0 ≤ (x7_2 : Int) := od_
     have q133 : x7_2 < (l0_0.length : Int) := od_
     obtain ⟨ad133, e133, hx133_0, hx133_1, hx133_2⟩ := at_T76 HR0_0.out x7_2 p133 q133
     have hw133_2 := hx133_2
     have hw133_1 := hx133_1
     have hw133_0 := hx133_0
     cases e133
     replace hx133_0 := hc_ HB hx133_0
     replace hx133_1 := hc_ HB hx133_1
     replace hx133_2 := hc_ HB hx133_2
     replace p133 := eq_true p133
     replace q133 := eq_true q133
     refine start_ (n := 9) (S := fun w' => w'.cell? ⟨gb121, 0, none⟩ = some (.slice (some ad133) l0_0.length c0_0) ∧ w'.cell? ⟨gb122, 0, none⟩ = some (.string a1_0) ∧ w'.cell? ⟨gb122, 1, none⟩ = some (.string a1_1) ∧ w'.cell? ⟨gb122, 2, none⟩ = some (.int .i64 a1_2) ∧ w'.cell? (ad133.add ((x7_2).toNat * 3)) = some (.string ((rd_T76 l0_0 x7_2).f0)) ∧ w'.cell? ⟨(ad133.add ((x7_2).toNat * 3)).block, (ad133.add ((x7_2).toNat * 3)).off + 1, none⟩ = some (.string ((rd_T76 l0_0 x7_2).f1)) ∧ w'.cell? ⟨(ad133.add ((x7_2).toNat * 3)).block, (ad133.add ((x7_2).toNat * 3)).off + 2, none⟩ = some (.int .i64 ((rd_T76 l0_0 x7_2).f2))) (ds := []) #[false, false, false, false, false, false, false, false, false] (by kernel_rfl) rfl rfl ⟨bc_ BK121 0, bc_ BK122 0, bc_ BK122 1, bc_ BK122 2, (hc_ HB hw133_0), (hc_ HB hw133_1), (hc_ HB hw133_2)⟩ (fun hHeld => ?_); refine with_tabW spec_l03Put.tab11 spec_l03Put.bits11 (fun HT_ HW_ => ?_)
     generalize wr.drew = w50 at HO_125000 BK121 BK122 BK123 BK124 HB hx133_0 hx133_1 hx133_2 hHeld ⊢
     refine pv_ 0 48 ?_
     refine pv_ 2 50 ?_
     refine pv_ 6 54 ?_
     refine tv_ 1 49 hHeld ?_
     refine pv_ 3 51 ?_
     refine pv_ 4 52 ?_
     refine tv_ 5 53 hHeld ?_
     refine tv_ 7 55 hHeld ?_
     refine pv_ 8 56 ?_
     refine done_ (done_of HT_.out (by kernel_rfl)) ?_
     try go_wp2
     replace HO_125000 := rd_ HO_125000; replace BK121 := kd_ BK121; replace BK122 := kd_ BK122; replace BK123 := kd_ BK123; replace BK124 := kd_ BK124; replace HB := wd_ HB
     have p134 : 0 ≤ (x7_2 : Int) := od_
     have q134 : x7_2 < (l0_0.length : Int) := od_
     obtain ⟨ad134, e134, hx134_0, hx134_1, hx134_2⟩ := at_T76 HR0_0.out x7_2 p134 q134
     have hw134_2 := hx134_2
     have hw134_1 := hx134_1
     have hw134_0 := hx134_0
     obtain rfl : ad133 = ad134 := (by injection e134)
     replace hx134_0 := hc_ HB hx134_0
     replace hx134_1 := hc_ HB hx134_1
     replace hx134_2 := hc_ HB hx134_2
     replace p134 := eq_true p134
     replace q134 := eq_true q134
     refine start_ (n := 11) (S := fun w' => w'.cell? ⟨gb124, 0, none⟩ = some (u125000) ∧ w'.cell? ⟨gb121, 0, none⟩ = some (.slice (some ad133) l0_0.length c0_0) ∧ w'.cell? (ad133.add ((x7_2).toNat * 3)) = some (.string ((rd_T76 l0_0 x7_2).f0)) ∧ w'.cell? ⟨(ad133.add ((x7_2).toNat * 3)).block, (ad133.add ((x7_2).toNat * 3)).off + 1, none⟩ = some (.string ((rd_T76 l0_0 x7_2).f1)) ∧ w'.cell? ⟨(ad133.add ((x7_2).toNat * 3)).block, (ad133.add ((x7_2).toNat * 3)).off + 2, none⟩ = some (.int .i64 ((rd_T76 l0_0 x7_2).f2))) (ds := [10]) #[false, false, false, false, false, false, false, false, false, false, false] (by kernel_rfl) rfl rfl ⟨bc_ BK124 0, bc_ BK121 0, (hc_ HB hw134_0), (hc_ HB hw134_1), (hc_ HB hw134_2)⟩ (fun hHeld => ?_); refine with_tabW spec_l03Put.tab12 spec_l03Put.bits12 (fun HT_ HW_ => ?_)
     generalize w50.drew = w51 at HO_125000 BK121 BK122 BK123 BK124 HB hx134_0 hx134_1 hx134_2 hHeld ⊢
     refine pv_ 0 57 ?_
     refine pv_ 2 59 ?_
     refine pv_ 4 61 ?_
     refine tv_ 1 58 hHeld ?_
     refine tv_ 3 60 hHeld ?_
     refine pv_ 5 62 ?_
     refine tv_ 6 63 hHeld ?_
     refine one_ (i := 7) (N := some 64) #[true, true, true, true, true, true, true, true, false, false, false] rfl rfl (one_of HT_.out (by kernel_rfl)) (by decide) (fun K hK => ?_)
     refine value_ (w1 := ?_) (v := ?_) (by rfl) rfl ?_ ?_
     rotate_left 2
     ·go_simp
      constructor
      ·rfl
      ·rfl
     refine hK.out _ _ ⟨(blk_cell (blk_alloc BK124.out _) 0).trans rfl, (blk_cell (blk_alloc BK121.out _) 0).trans rfl, (World.cell?_alloc_lt _ _ _ (World.block_lt_of_cell? _ _ ((hc_ HB hw134_0)))).trans ((hc_ HB hw134_0)), (World.cell?_alloc_lt _ _ _ (World.block_lt_of_cell? _ _ ((hc_ HB hw134_1)))).trans ((hc_ HB hw134_1)), (World.cell?_alloc_lt _ _ _ (World.block_lt_of_cell? _ _ ((hc_ HB hw134_2)))).trans ((hc_ HB hw134_2))⟩ (fun hHeld => ?_)
     clear hK K
     refine norm_ (a' := ?_) ?_ ?_
     rotate_left
     ·show Act.put _ (some 64) _ = _
      simp only [Act.put, sia_, scz_, scs_, i64_w, i32_w]
      rfl
     refine one_ (i := 8) (N := some 65) #[true, true, true, true, true, true, true, true, true, false, false] rfl rfl (one_of HT_.out (by kernel_rfl)) (by decide) (fun K hK => ?_)
     refine Kd.R_append_step k76 (w0 := w) w.heap.size (by rfl) (.tmp 58) (.tmp 64) 29 76 (.agg #[(.string ⟨#[]⟩), (.string ⟨#[]⟩), (.int .i64 0)]) 40 rfl Try.underlying29 info76 rfl (by decide) (by omega) u125000 x125000_2 (⟨(rd_T76 l0_0 x7_2).f0, (rd_T76 l0_0 x7_2).f1, (rd_T76 l0_0 x7_2).f2⟩ : S76) [.string ((rd_T76 l0_0 x7_2).f0), .string ((rd_T76 l0_0 x7_2).f1), .int .i64 ((rd_T76 l0_0 x7_2).f2)] (fun k_ => k_ ≠ gb122) (fun _ => False) rfl rfl ?aP (fun _ hk => hk.elim) ?aF ?aO ?aB ?aS ?aL ?_
     (case aP => exact k76_mkM _ _ _ (⟨(rd_T76 l0_0 x7_2).f0, (rd_T76 l0_0 x7_2).f1, (rd_T76 l0_0 x7_2).f2⟩ : S76))
     (case aB => exact (bw_ HB))
     (case aF => exact (fun k_ hk => Kd.freshB (g := gb122) (o := .cells #[.string a1_0, .string a1_1, .int .i64 a1_2] 76 (0, 0)) (bp_ BK122) k_ hk))
     (case aO => exact (rp_ HO_125000))
     (case aS => exact (below_size (bw_ HB)))
     (case aL => have := LMc45.out; omega)
     intro v136 w52 ho hb hg hat
     rw [← Ny135.out] at ho
     have n0_ := mk_ (blk_grown (g := gb121) (o := .cells #[.slice (some ad133) l0_0.length c0_0] 31 (0, 0)) (bp_ BK121) hg (Kd.R_ne HO_125000.out BK121.out (by decide)))
     have n1_ := mk_ (blk_grown (g := gb122) (o := .cells #[.string a1_0, .string a1_1, .int .i64 a1_2] 76 (0, 0)) (bp_ BK122) hg (Kd.R_away HO_125000.out (fun _ hk => hk)))
     have n2_ := mk_ (blk_grown (g := gb123) (o := .cells #[.slice none 0 0] 31 (0, 0)) (bp_ BK123) hg (Kd.R_ne HO_125000.out BK123.out (by decide)))
     have n3_ := mk_ (blk_grown (g := gb124) (o := .cells #[u125000] 31 (0, 0)) (bp_ BK124) hg (Kd.R_ne HO_125000.out BK124.out (by decide)))
     have n4_ := mk_ (hb)
     have n5_ := mk_ (ho)
     clear BK121; clear BK122; clear BK123; clear BK124; clear HB; clear HO_125000; have BK121 := n0_; have BK122 := n1_; have BK123 := n2_; have BK124 := n3_; have HB := n4_; have HO137 := n5_; clear n0_ n1_ n2_ n3_ n4_ n5_; clear ho hb hg hat
     obtain ⟨Ao53, co53, eo53⟩ := Kd.R_slice HO137.out
     (first | subst eo53 | (injection eo53 with f1_ f2_ f3_; have f4_ := f1_.symm; have f5_ := f3_.symm; clear f1_ f2_ f3_; subst f4_; subst f5_))
     refine hK.out _ _ ⟨bc_ BK124 0, bc_ BK121 0, (hc_ HB hw134_0), (hc_ HB hw134_1), (hc_ HB hw134_2)⟩ (fun hHeld => ?_)
     clear hK K
     refine norm_ (a' := ?_) ?_ ?_
     rotate_left
     ·show Act.put _ (some 65) _ = _
      simp only [Act.put, sia_, scz_, scs_, i64_w, i32_w]
      rfl
     refine pv_ 9 66 ?_
     refine last_ (i := 10) (N := none) #[true, true, true, true, true, true, true, true, true, true, true] rfl rfl (one_of HT_.out (by kernel_rfl)) (by decide) (fun K hK => ?_)
     have hs54 : w52.cell? ⟨gb124, 0, none⟩ = some (u125000) := bc_ BK124 0
     have hfs54 := blk_frozen BK124.out 0
     have hns54_0 := NB121_124.out
     have hns54_1 := NB122_124.out
     have hns54_2 := NB123_124.out
     have hms54_0 := NB124_121.out
     have hms54_1 := NB124_122.out
     have hms54_2 := NB124_123.out
     refine skip_ (w1 := ?_) (by rfl) rfl ?_ ?_
     rotate_left
     ·go_simp
      rfl
     refine hK.out _ _ ?_
     clear hK K
     refine done_ (done_of HT_.out (by kernel_rfl)) ?_
     try go_wp2
     go_roundg k2
     case measure => have := HK1.out; have := HK2.out; omega
     case rel => exact ⟨(wrap64 (x7_2 + 1)), (y135), (.slice Ao53 y135.length co53), (by first | rfl | (simp; done) | (simp [*]; done) | (simp [bne]; done)), H', ⟨by have := HK1.out; have := HK2.out; omega⟩, ⟨rq_ (Kd.R_mono (Kd.R_far (p := ⟨gb124, 0, none⟩) (Kd.R_types HO137.out BK124.out (by decide)) (fun _ hk => hk.2) (.slice Ao53 y135.length co53)) (fun _ hk => hk.1))⟩, ⟨bf_⟩, ⟨bf_⟩, ⟨bf_⟩, ⟨bu_⟩, ⟨bw_ HB⟩⟩

end Go.Proofs.Ythbaoefbccdioaa.QFnActs
