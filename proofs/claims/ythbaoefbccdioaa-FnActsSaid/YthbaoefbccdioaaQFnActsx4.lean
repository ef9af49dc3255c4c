/- Written by this session's own program (wip/tpl/pp.py): what the law's functions come to, and that the machine's calls do just that. -/
import Derived.Test.YthbaoefbccdioaaTMPack
import Derived.Test.YthbaoefbccdioaaQFnActsx0
import Derived.Test.YthbaoefbccdioaaQFnActsx3
namespace Go.Proofs.Ythbaoefbccdioaa.QFnActs
open Go.RowKit Go.Proofs.YthbaoefbccdioaaW.PrintWords Go.Proofs.YthbaoefbccdioaaW.PrintLast Go.Proofs.YthbaoefbccdioaaW.PrintMore
attribute [local go_sem] Go.Proofs.Ythbaoefbccdioaa.Sem.string_geq Go.Proofs.Ythbaoefbccdioaa.Sem.string_leq Go.Proofs.Ythbaoefbccdioaa.Sem.string_gtr
attribute [local go_sem] max2_int min2_int max_two min_two max_three min_three max_four min_four   -- for this text's walks alone
set_option linter.unusedVariables false
set_option linter.unusedSimpArgs false

/-! ### spec_DiskOk: function 38 -/
def spec_DiskOk.l0 : Nat → Int → List (S76) → Option (Bool)
 | 0, _, _ => none
 | k + 1, x3, x114000 => if x3 < (x114000.length : Int) then (if 0 ≤ x3 then ((spec_l03Name.f ((rd_T76 x114000 x3).f0)).bind fun t116 => (if t116 = true then (if (((rd_T76 x114000 x3).f1).size : Int) > 20000 then (some false) else ((spec_l01In.f ((rd_T76 x114000 x3).f2) 0 (((rd_T76 x114000 x3).f1).size : Int)).bind fun t117 => (if t117 = true then (if x3 > 0 then (if 0 ≤ (wrap64 (x3 - 1)) then (if (wrap64 (x3 - 1)) < (x114000.length : Int) then (if ((Op.bytesLess (((rd_T76 x114000 (wrap64 (x3 - 1))).f0).toList) (((rd_T76 x114000 x3).f0).toList)) = true) then (spec_DiskOk.l0 k (wrap64 (x3 + 1)) x114000) else (some false)) else (none)) else (none)) else (spec_DiskOk.l0 k (wrap64 (x3 + 1)) x114000)) else (some false)))) else (some false))) else (none)) else (some true)
def spec_DiskOk.f (k : Nat) (l0_0 : List (S76)) : Option (Bool) := if (l0_0.length : Int) > 30 then (some false) else (spec_DiskOk.l0 k 0 l0_0)
theorem spec_DiskOk.mono_l : ∀ k, (∀ y0 y1, LeO (spec_DiskOk.l0 k y0 y1) (spec_DiskOk.l0 (k + 1) y0 y1))
 | 0 => fun _ _ r h => by simp [spec_DiskOk.l0] at h
 | k + 1 => by
  have ih0 := spec_DiskOk.mono_l k
  ·intro y0 y1
   unfold spec_DiskOk.l0
   repeat' first
   | (with_reducible exact ih0 _ _)
   | (with_reducible exact LeO.refl _)
   | (with_reducible refine LeO.ite ?_ ?_)
   | (with_reducible refine LeO.bind ?_ (fun _ => ?_))
theorem spec_DiskOk.mono : ∀ a0 k, LeO (spec_DiskOk.f k a0) (spec_DiskOk.f (k + 1) a0) := by
 intro a0 k
 have ih0 := spec_DiskOk.mono_l k
 unfold spec_DiskOk.f
 repeat' first
   | (with_reducible exact ih0 _ _)
   | (with_reducible exact LeO.refl _)
   | (with_reducible refine LeO.ite ?_ ?_)
set_option maxHeartbeats 8000000 in
set_option maxRecDepth 100000 in
theorem spec_DiskOk.calls (k : Nat) (A0_0 : Option Addr) (c0_0 : Nat) (l0_0 : List (S76)) (r : Bool) (w : World) (hr0_0 : Kd.C k76 w A0_0 l0_0.length l0_0) (hc0_0 : l0_0.length ≤ c0_0) (h : spec_DiskOk.f k l0_0 = some r) :
  Calls Try.prog 38 #[.agg #[.slice A0_0 l0_0.length c0_0]] w fun e w' => e = .returned (.bool r) ∧ Below w.heap.size w w' := by
 have hu31 := Try.underlying31
 have hu76 := Try.underlying76
 have HR0_0 := Aside0.mk hr0_0
 have HC0_0 := Aside0.mk hc0_0
 clear hr0_0 hc0_0
 have HB := mk_ (Below.refl w.heap.size w)
 have H : (if (l0_0.length : Int) > 30 then (some false) else (spec_DiskOk.l0 k 0 l0_0)) = some r := h
 clear h
 by_cases c2 : (l0_0.length : Int) > 30
 ·rw [if_pos c2] at H
  have c2b0 : decide (30 < (l0_0.length : Int)) = true := decide_eq_true c2
  have c2b1 : decide (30 < l0_0.length) = true := decide_eq_true (by omega)
  clear c2
  obtain rfl := Option.some.inj H
  go_enter Try.func38, Try.ntmps38
  go_wp2_with (first | ((with_reducible refine gate_dst (N := 1) rfl ?_); (try (refine gate_guard (by rfl) ?_; dsimp only)); refine bx_ (N := 1) (cs := #[.slice A0_0 l0_0.length c0_0]) (t := 31) ?_; intro gb113 hg w3 hbox hb; have BK113 := mk_ (hbox); have GW113 : Aside0 (w.heap.size ≤ gb113) := bz_ hg; have GE113 := GW113; replace HB := bs_ HB hb; clear hb hbox hg; obtain ⟨hcz4_0, hfz4_0⟩ := b1_ BK113))
  go_ret
  exact ⟨er_, bw_ HB⟩
 rw [if_neg c2] at H
 have c2b0 : decide (30 < (l0_0.length : Int)) = false := decide_eq_false c2
 have c2b1 : decide (30 < l0_0.length) = false := decide_eq_false (by omega)
 clear c2
 have H' := Aside0.mk H
 clear H
 go_enter Try.func38, Try.ntmps38
 go_wp2_with (first | ((with_reducible refine gate_dst (N := 1) rfl ?_); (try (refine gate_guard (by rfl) ?_; dsimp only)); refine bx_ (N := 1) (cs := #[.slice A0_0 l0_0.length c0_0]) (t := 31) ?_; intro gb113 hg w5 hbox hb; have BK113 := mk_ (hbox); have GW113 : Aside0 (w.heap.size ≤ gb113) := bz_ hg; have GE113 := GW113; replace HB := bs_ HB hb; clear hb hbox hg; obtain ⟨hcz6_0, hfz6_0⟩ := b1_ BK113))
 go_loopg [3] k (fun kq v3 w' => ∃ (x3_1 : Int), v3 = .int .i64 x3_1 ∧ Aside0 (spec_DiskOk.l0 kq x3_1 l0_0 = some r) ∧ Aside0 (kq ≤ k) ∧ Aside0 (w'.heap[gb113]? = some (.cells #[(.slice A0_0 l0_0.length c0_0)] 31 (0, 0))) ∧ Aside0 (Below w.heap.size w w'))
 case atStart => exact ⟨(0), (by first | rfl | (simp; done) | (simp [*]; done) | (simp [bne]; done)), H', ⟨Nat.le_refl _⟩, ⟨bf_⟩, ⟨bw_ HB⟩⟩
 case round =>
  clear H'
  (try clear c2); (try clear c2b0); (try clear c2b1); (try clear p2); (try clear c3); (try clear hcz4_0); (try clear hcz6_0); (try clear hfz4_0); (try clear hfz6_0)
  obtain ⟨x3_1, rfl, HA, HK1, BK113, HB⟩ := hrel
  cases gk with
  | zero => exact absurd HA.out (by simp [spec_DiskOk.l0])
  | succ k1 =>
   have H := HA.out
   clear HA
   simp only [spec_DiskOk.l0] at H
   by_cases c7 : x3_1 < (l0_0.length : Int)
   rotate_left
   ·rw [if_neg c7] at H
    have c7b0 : decide (x3_1 < (l0_0.length : Int)) = false := decide_eq_false c7
    clear c7
    obtain rfl := Option.some.inj H
    have hcz45_0 : wr.cell? ⟨gb113, 0, none⟩ = some (.slice A0_0 l0_0.length c0_0) := bc_ BK113 0
    have hfz45_0 := blk_frozen BK113.out 0
    go_wp2
    go_ret
    exact ⟨er_, bw_ HB⟩
   rw [if_pos c7] at H
   have c7b0 : decide (x3_1 < (l0_0.length : Int)) = true := decide_eq_true c7
   clear c7
   by_cases c8 : 0 ≤ x3_1
   rotate_left
   ·rw [if_neg c8] at H
    exact absurd H (by simp)
   rw [if_pos c8] at H
   have c8b0 : decide (0 ≤ x3_1) = true := decide_eq_true c8
   clear c8
   replace H := Option.bind_eq_some_iff.mp H
   obtain ⟨t116, A90, H⟩ := H
   try dsimp only at H
   have A9 := Aside0.mk A90
   clear A90
   by_cases c10 : t116 = true
   rotate_left
   ·replace c10 := Bool.eq_false_iff.mpr c10
    subst c10
    rw [if_neg (show ¬ (false = true) by decide)] at H
    obtain rfl := Option.some.inj H
    have hcz41_0 : wr.cell? ⟨gb113, 0, none⟩ = some (.slice A0_0 l0_0.length c0_0) := bc_ BK113 0
    have hfz41_0 := blk_frozen BK113.out 0
    have p114 : 0 ≤ (x3_1 : Int) := od_
    have q114 : x3_1 < (l0_0.length : Int) := od_
    obtain ⟨ad114, e114, hx114_0, hx114_1, hx114_2⟩ := at_T76 HR0_0.out x3_1 p114 q114
    cases e114
    replace hx114_0 := hc_ HB hx114_0
    replace hx114_1 := hc_ HB hx114_1
    replace hx114_2 := hc_ HB hx114_2
    replace p114 := eq_true p114
    replace q114 := eq_true q114
    go_wp2_with (first | ((with_reducible refine gate_dst (N := 4) rfl ?_); (try (refine gate_guard (by rfl) ?_; dsimp only)); refine bx_ (N := 4) (cs := #[.string (⟨#[]⟩ : ByteArray), .string (⟨#[]⟩ : ByteArray), .int .i64 0]) (t := 76) ?_; intro gb115 hg w42 hbox hb; have BK115 := mk_ (hbox); have GW115 : Aside0 (w.heap.size ≤ gb115) := bz_ hg; have GE115 := GW115; have NB113_115 := bl_ BK113 hg; have NB115_113 := bg_ BK113 hg; replace BK113 := bb_ BK113 hb; replace HB := bs_ HB hb; clear hb hbox hg; obtain ⟨hnb43, hnc43⟩ := ns_ NB115_113; obtain ⟨hcz44_0, hcz44_1, hcz44_2, hfz44_0, hfz44_1, hfz44_2⟩ := b3_ BK115))
    repeat (go_quiet (first | (go_at_call 39; (with_reducible refine (spec_l03Name.calls ((rd_T76 l0_0 x3_1).f0) false _ A9.out).mono ?_); rintro e w' ⟨rfl, ⟨nd, rfl⟩⟩; (try first | exact ⟨rfl, _, World.drewN_drewN _ _ _⟩ | exact ⟨rfl, _, Eq.trans (World.drewN_drewN _ _ _) (congrArg (World.drewN _) (Nat.add_assoc _ _ _))⟩))); try go_wp2_with fail)
    go_ret
    exact ⟨er_, bw_ HB⟩
   subst c10
   rw [if_pos rfl] at H
   by_cases c11 : (((rd_T76 l0_0 x3_1).f1).size : Int) > 20000
   ·rw [if_pos c11] at H
    have c11b0 : decide (20000 < (((rd_T76 l0_0 x3_1).f1).size : Int)) = true := decide_eq_true c11
    have c11b1 : decide (20000 < ((rd_T76 l0_0 x3_1).f1).size) = true := decide_eq_true (by omega)
    clear c11
    obtain rfl := Option.some.inj H
    have hcz12_0 : wr.cell? ⟨gb113, 0, none⟩ = some (.slice A0_0 l0_0.length c0_0) := bc_ BK113 0
    have hfz12_0 := blk_frozen BK113.out 0
    have p114 : 0 ≤ (x3_1 : Int) := od_
    have q114 : x3_1 < (l0_0.length : Int) := od_
    obtain ⟨ad114, e114, hx114_0, hx114_1, hx114_2⟩ := at_T76 HR0_0.out x3_1 p114 q114
    cases e114
    replace hx114_0 := hc_ HB hx114_0
    replace hx114_1 := hc_ HB hx114_1
    replace hx114_2 := hc_ HB hx114_2
    replace p114 := eq_true p114
    replace q114 := eq_true q114
    go_wp2_with (first | ((with_reducible refine gate_dst (N := 4) rfl ?_); (try (refine gate_guard (by rfl) ?_; dsimp only)); refine bx_ (N := 4) (cs := #[.string (⟨#[]⟩ : ByteArray), .string (⟨#[]⟩ : ByteArray), .int .i64 0]) (t := 76) ?_; intro gb115 hg w13 hbox hb; have BK115 := mk_ (hbox); have GW115 : Aside0 (w.heap.size ≤ gb115) := bz_ hg; have GE115 := GW115; have NB113_115 := bl_ BK113 hg; have NB115_113 := bg_ BK113 hg; replace BK113 := bb_ BK113 hb; replace HB := bs_ HB hb; clear hb hbox hg; obtain ⟨hnb14, hnc14⟩ := ns_ NB115_113; obtain ⟨hcz15_0, hcz15_1, hcz15_2, hfz15_0, hfz15_1, hfz15_2⟩ := b3_ BK115))
    repeat (go_quiet (first | (go_at_call 39; (with_reducible refine (spec_l03Name.calls ((rd_T76 l0_0 x3_1).f0) true _ A9.out).mono ?_); rintro e w' ⟨rfl, ⟨nd, rfl⟩⟩; (try first | exact ⟨rfl, _, World.drewN_drewN _ _ _⟩ | exact ⟨rfl, _, Eq.trans (World.drewN_drewN _ _ _) (congrArg (World.drewN _) (Nat.add_assoc _ _ _))⟩))); try go_wp2_with fail)
    go_ret
    exact ⟨er_, bw_ HB⟩
   rw [if_neg c11] at H
   have c11b0 : decide (20000 < (((rd_T76 l0_0 x3_1).f1).size : Int)) = false := decide_eq_false c11
   have c11b1 : decide (20000 < ((rd_T76 l0_0 x3_1).f1).size) = false := decide_eq_false (by omega)
   clear c11
   replace H := Option.bind_eq_some_iff.mp H
   obtain ⟨t117, A160, H⟩ := H
   try dsimp only at H
   have A16 := Aside0.mk A160
   clear A160
   by_cases c17 : t117 = true
   rotate_left
   ·replace c17 := Bool.eq_false_iff.mpr c17
    subst c17
    rw [if_neg (show ¬ (false = true) by decide)] at H
    obtain rfl := Option.some.inj H
    have hcz37_0 : wr.cell? ⟨gb113, 0, none⟩ = some (.slice A0_0 l0_0.length c0_0) := bc_ BK113 0
    have hfz37_0 := blk_frozen BK113.out 0
    have p114 : 0 ≤ (x3_1 : Int) := od_
    have q114 : x3_1 < (l0_0.length : Int) := od_
    obtain ⟨ad114, e114, hx114_0, hx114_1, hx114_2⟩ := at_T76 HR0_0.out x3_1 p114 q114
    cases e114
    replace hx114_0 := hc_ HB hx114_0
    replace hx114_1 := hc_ HB hx114_1
    replace hx114_2 := hc_ HB hx114_2
    replace p114 := eq_true p114
    replace q114 := eq_true q114
    go_wp2_with (first | ((with_reducible refine gate_dst (N := 4) rfl ?_); (try (refine gate_guard (by rfl) ?_; dsimp only)); refine bx_ (N := 4) (cs := #[.string (⟨#[]⟩ : ByteArray), .string (⟨#[]⟩ : ByteArray), .int .i64 0]) (t := 76) ?_; intro gb115 hg w38 hbox hb; have BK115 := mk_ (hbox); have GW115 : Aside0 (w.heap.size ≤ gb115) := bz_ hg; have GE115 := GW115; have NB113_115 := bl_ BK113 hg; have NB115_113 := bg_ BK113 hg; replace BK113 := bb_ BK113 hb; replace HB := bs_ HB hb; clear hb hbox hg; obtain ⟨hnb39, hnc39⟩ := ns_ NB115_113; obtain ⟨hcz40_0, hcz40_1, hcz40_2, hfz40_0, hfz40_1, hfz40_2⟩ := b3_ BK115))
    repeat (go_quiet (first | (go_at_call 39; (with_reducible refine (spec_l03Name.calls ((rd_T76 l0_0 x3_1).f0) true _ A9.out).mono ?_); rintro e w' ⟨rfl, ⟨nd, rfl⟩⟩; (try first | exact ⟨rfl, _, World.drewN_drewN _ _ _⟩ | exact ⟨rfl, _, Eq.trans (World.drewN_drewN _ _ _) (congrArg (World.drewN _) (Nat.add_assoc _ _ _))⟩)) | (go_at_call 61; (with_reducible refine (spec_l01In.calls ((rd_T76 l0_0 x3_1).f2) 0 (((rd_T76 l0_0 x3_1).f1).size : Int) false _ A16.out).mono ?_); rintro e w' ⟨rfl, ⟨nd, rfl⟩⟩; (try first | exact ⟨rfl, _, World.drewN_drewN _ _ _⟩ | exact ⟨rfl, _, Eq.trans (World.drewN_drewN _ _ _) (congrArg (World.drewN _) (Nat.add_assoc _ _ _))⟩))); try go_wp2_with fail)
    go_ret
    exact ⟨er_, bw_ HB⟩
   subst c17
   rw [if_pos rfl] at H
   by_cases c18 : x3_1 > 0
   rotate_left
   ·rw [if_neg c18] at H
    have c18b0 : decide (0 < x3_1) = false := decide_eq_false c18
    clear c18
    have H' := Aside0.mk H
    clear H
    have hcz33_0 : wr.cell? ⟨gb113, 0, none⟩ = some (.slice A0_0 l0_0.length c0_0) := bc_ BK113 0
    have hfz33_0 := blk_frozen BK113.out 0
    have p114 : 0 ≤ (x3_1 : Int) := od_
    have q114 : x3_1 < (l0_0.length : Int) := od_
    obtain ⟨ad114, e114, hx114_0, hx114_1, hx114_2⟩ := at_T76 HR0_0.out x3_1 p114 q114
    cases e114
    replace hx114_0 := hc_ HB hx114_0
    replace hx114_1 := hc_ HB hx114_1
    replace hx114_2 := hc_ HB hx114_2
    replace p114 := eq_true p114
    replace q114 := eq_true q114
    go_wp2_with (first | ((with_reducible refine gate_dst (N := 4) rfl ?_); (try (refine gate_guard (by rfl) ?_; dsimp only)); refine bx_ (N := 4) (cs := #[.string (⟨#[]⟩ : ByteArray), .string (⟨#[]⟩ : ByteArray), .int .i64 0]) (t := 76) ?_; intro gb115 hg w34 hbox hb; have BK115 := mk_ (hbox); have GW115 : Aside0 (w.heap.size ≤ gb115) := bz_ hg; have GE115 := GW115; have NB113_115 := bl_ BK113 hg; have NB115_113 := bg_ BK113 hg; replace BK113 := bb_ BK113 hb; replace HB := bs_ HB hb; clear hb hbox hg; obtain ⟨hnb35, hnc35⟩ := ns_ NB115_113; obtain ⟨hcz36_0, hcz36_1, hcz36_2, hfz36_0, hfz36_1, hfz36_2⟩ := b3_ BK115))
    repeat (go_quiet (first | (go_at_call 39; (with_reducible refine (spec_l03Name.calls ((rd_T76 l0_0 x3_1).f0) true _ A9.out).mono ?_); rintro e w' ⟨rfl, ⟨nd, rfl⟩⟩; (try first | exact ⟨rfl, _, World.drewN_drewN _ _ _⟩ | exact ⟨rfl, _, Eq.trans (World.drewN_drewN _ _ _) (congrArg (World.drewN _) (Nat.add_assoc _ _ _))⟩)) | (go_at_call 61; (with_reducible refine (spec_l01In.calls ((rd_T76 l0_0 x3_1).f2) 0 (((rd_T76 l0_0 x3_1).f1).size : Int) true _ A16.out).mono ?_); rintro e w' ⟨rfl, ⟨nd, rfl⟩⟩; (try first | exact ⟨rfl, _, World.drewN_drewN _ _ _⟩ | exact ⟨rfl, _, Eq.trans (World.drewN_drewN _ _ _) (congrArg (World.drewN _) (Nat.add_assoc _ _ _))⟩))); try go_wp2_with fail)
    go_roundg k1
    case measure => have := HK1.out; omega
    case rel => exact ⟨(wrap64 (x3_1 + 1)), (by first | rfl | (simp; done) | (simp [*]; done) | (simp [bne]; done)), H', ⟨by have := HK1.out; omega⟩, ⟨bf_⟩, ⟨bw_ HB⟩⟩
   rw [if_pos c18] at H
   have c18b0 : decide (0 < x3_1) = true := decide_eq_true c18
   clear c18
   obtain ⟨ji19, hji19⟩ : ∃ j_ : Int, (wrap64 (x3_1 - 1)) = j_ := ⟨_, rfl⟩
   replace H : (if 0 ≤ (ji19) then (if (ji19) < (l0_0.length : Int) then (if ((Op.bytesLess (((rd_T76 l0_0 (ji19)).f0).toList) (((rd_T76 l0_0 x3_1).f0).toList)) = true) then (spec_DiskOk.l0 k1 (wrap64 (x3_1 + 1)) l0_0) else (some false)) else (none)) else (none)) = some r := by first | (rw [hji19] at H; exact H) | (simp only [hji19] at H ⊢; exact H)
   (try rw [hji19] at A9)
   (try rw [hji19] at A16)
   have hji19w : (IntKind.i64.wrap (x3_1 - 1)) = ji19 := (i64_w _).trans hji19
   by_cases c20 : 0 ≤ (ji19)
   rotate_left
   ·rw [if_neg c20] at H
    exact absurd H (by simp)
   rw [if_pos c20] at H
   have c20b0 : decide (0 ≤ (ji19)) = true := decide_eq_true c20
   clear c20
   by_cases c21 : (ji19) < (l0_0.length : Int)
   rotate_left
   ·rw [if_neg c21] at H
    exact absurd H (by simp)
   rw [if_pos c21] at H
   have c21b0 : decide ((ji19) < (l0_0.length : Int)) = true := decide_eq_true c21
   clear c21
   by_cases c22 : ((Op.bytesLess (((rd_T76 l0_0 (ji19)).f0).toList) (((rd_T76 l0_0 x3_1).f0).toList)) = true)
   rotate_left
   ·rw [if_neg c22] at H
    have c22b0 : (Op.bytesLess (((rd_T76 l0_0 (ji19)).f0).toList) (((rd_T76 l0_0 x3_1).f0).toList)) = false := by simpa using c22
    have c22g0 : (Op.bytesLess (((rd_T76 l0_0 x3_1).f0).toList) (((rd_T76 l0_0 (ji19)).f0).toList) || (((rd_T76 l0_0 x3_1).f0).toList) == (((rd_T76 l0_0 (ji19)).f0).toList)) = true := Go.Proofs.Ythbaoefbccdioaa.Sem.less_or c22b0
    have c22g1 : (!Op.bytesLess (((rd_T76 l0_0 x3_1).f0).toList) (((rd_T76 l0_0 (ji19)).f0).toList) && !((((rd_T76 l0_0 x3_1).f0).toList) == (((rd_T76 l0_0 (ji19)).f0).toList))) = false := Go.Proofs.Ythbaoefbccdioaa.Sem.less_and c22b0
    clear c22
    obtain rfl := Option.some.inj H
    have hcz28_0 : wr.cell? ⟨gb113, 0, none⟩ = some (.slice A0_0 l0_0.length c0_0) := bc_ BK113 0
    have hfz28_0 := blk_frozen BK113.out 0
    have p114 : 0 ≤ (x3_1 : Int) := od_
    have q114 : x3_1 < (l0_0.length : Int) := od_
    obtain ⟨ad114, e114, hx114_0, hx114_1, hx114_2⟩ := at_T76 HR0_0.out x3_1 p114 q114
    cases e114
    replace hx114_0 := hc_ HB hx114_0
    replace hx114_1 := hc_ HB hx114_1
    replace hx114_2 := hc_ HB hx114_2
    replace p114 := eq_true p114
    replace q114 := eq_true q114
    go_wp2_with (first | ((with_reducible refine gate_dst (N := 4) rfl ?_); (try (refine gate_guard (by rfl) ?_; dsimp only)); refine bx_ (N := 4) (cs := #[.string (⟨#[]⟩ : ByteArray), .string (⟨#[]⟩ : ByteArray), .int .i64 0]) (t := 76) ?_; intro gb115 hg w29 hbox hb; have BK115 := mk_ (hbox); have GW115 : Aside0 (w.heap.size ≤ gb115) := bz_ hg; have GE115 := GW115; have NB113_115 := bl_ BK113 hg; have NB115_113 := bg_ BK113 hg; replace BK113 := bb_ BK113 hb; replace HB := bs_ HB hb; clear hb hbox hg; obtain ⟨hnb30, hnc30⟩ := ns_ NB115_113; obtain ⟨hcz31_0, hcz31_1, hcz31_2, hfz31_0, hfz31_1, hfz31_2⟩ := b3_ BK115))
    repeat (go_quiet (first | (go_at_call 39; (with_reducible refine (spec_l03Name.calls ((rd_T76 l0_0 x3_1).f0) true _ A9.out).mono ?_); rintro e w' ⟨rfl, ⟨nd, rfl⟩⟩; (try first | exact ⟨rfl, _, World.drewN_drewN _ _ _⟩ | exact ⟨rfl, _, Eq.trans (World.drewN_drewN _ _ _) (congrArg (World.drewN _) (Nat.add_assoc _ _ _))⟩)) | (go_at_call 61; (with_reducible refine (spec_l01In.calls ((rd_T76 l0_0 x3_1).f2) 0 (((rd_T76 l0_0 x3_1).f1).size : Int) true _ A16.out).mono ?_); rintro e w' ⟨rfl, ⟨nd, rfl⟩⟩; (try first | exact ⟨rfl, _, World.drewN_drewN _ _ _⟩ | exact ⟨rfl, _, Eq.trans (World.drewN_drewN _ _ _) (congrArg (World.drewN _) (Nat.add_assoc _ _ _))⟩); obtain ⟨hcz32_0, hfz32_0⟩ := b1_ BK113; have p118 : 0 ≤ ((ji19) : Int) := od_; have q118 : (ji19) < (l0_0.length : Int) := od_; obtain ⟨ad118, e118, hx118_0, hx118_1, hx118_2⟩ := at_T76 HR0_0.out (ji19) p118 q118; obtain rfl : ad114 = ad118 := (by injection e118); have hn118_0 : ad114.block ≠ gb115 := Nat.ne_of_lt (Nat.lt_of_lt_of_le (by have := World.block_lt_of_cell? _ _ hx118_0; first | rwa [add_block] at this | exact this) GW115.out); have hn118_1 : ad114.block ≠ gb115 := Nat.ne_of_lt (Nat.lt_of_lt_of_le (by have := World.block_lt_of_cell? _ _ hx118_0; first | rwa [add_block] at this | exact this) GW115.out); have hn118_2 : ad114.block ≠ gb115 := Nat.ne_of_lt (Nat.lt_of_lt_of_le (by have := World.block_lt_of_cell? _ _ hx118_0; first | rwa [add_block] at this | exact this) GW115.out); replace hx118_0 := hc_ HB hx118_0; replace hx118_1 := hc_ HB hx118_1; replace hx118_2 := hc_ HB hx118_2; replace hx118_0 := (cell_far (p := ⟨gb115, 0, none⟩) ab_ (.string ((rd_T76 l0_0 x3_1).f0))).trans hx118_0; replace hx118_1 := (cell_far (p := ⟨gb115, 0, none⟩) ab_ (.string ((rd_T76 l0_0 x3_1).f0))).trans hx118_1; replace hx118_2 := (cell_far (p := ⟨gb115, 0, none⟩) ab_ (.string ((rd_T76 l0_0 x3_1).f0))).trans hx118_2; replace hx118_0 := (cell_far (p := ⟨gb115, 1, none⟩) ab_ (.string ((rd_T76 l0_0 x3_1).f1))).trans hx118_0; replace hx118_1 := (cell_far (p := ⟨gb115, 1, none⟩) ab_ (.string ((rd_T76 l0_0 x3_1).f1))).trans hx118_1; replace hx118_2 := (cell_far (p := ⟨gb115, 1, none⟩) ab_ (.string ((rd_T76 l0_0 x3_1).f1))).trans hx118_2; replace hx118_0 := (cell_far (p := ⟨gb115, 2, none⟩) ab_ (.int .i64 ((rd_T76 l0_0 x3_1).f2))).trans hx118_0; replace hx118_1 := (cell_far (p := ⟨gb115, 2, none⟩) ab_ (.int .i64 ((rd_T76 l0_0 x3_1).f2))).trans hx118_1; replace hx118_2 := (cell_far (p := ⟨gb115, 2, none⟩) ab_ (.int .i64 ((rd_T76 l0_0 x3_1).f2))).trans hx118_2; (try have hy118_0 := fun (n_ : Nat) => (show (((((w29.drewN n_).setCell ⟨gb115, 0, none⟩ (.string ((rd_T76 l0_0 x3_1).f0))).setCell ⟨gb115, 1, none⟩ (.string ((rd_T76 l0_0 x3_1).f1))).setCell ⟨gb115, 2, none⟩ (.int .i64 ((rd_T76 l0_0 x3_1).f2)))).cell? _ = some _ from hx118_0)); (try have hy118_1 := fun (n_ : Nat) => (show (((((w29.drewN n_).setCell ⟨gb115, 0, none⟩ (.string ((rd_T76 l0_0 x3_1).f0))).setCell ⟨gb115, 1, none⟩ (.string ((rd_T76 l0_0 x3_1).f1))).setCell ⟨gb115, 2, none⟩ (.int .i64 ((rd_T76 l0_0 x3_1).f2)))).cell? _ = some _ from hx118_1)); (try have hy118_2 := fun (n_ : Nat) => (show (((((w29.drewN n_).setCell ⟨gb115, 0, none⟩ (.string ((rd_T76 l0_0 x3_1).f0))).setCell ⟨gb115, 1, none⟩ (.string ((rd_T76 l0_0 x3_1).f1))).setCell ⟨gb115, 2, none⟩ (.int .i64 ((rd_T76 l0_0 x3_1).f2)))).cell? _ = some _ from hx118_2)); clear hn118_0; clear hn118_1; clear hn118_2; replace p118 := eq_true p118; replace q118 := eq_true q118)); try go_wp2_with fail)
    go_ret
    exact ⟨by first | rfl | (simp [errW_none, errW_some] <;> rfl) | (simp only [← hji19]; first | rfl | (simp [errW_none, errW_some] <;> rfl)) | (simp [*, errW_none, errW_some] <;> rfl), bw_ HB⟩
   rw [if_pos c22] at H
   have c22b0 : (Op.bytesLess (((rd_T76 l0_0 (ji19)).f0).toList) (((rd_T76 l0_0 x3_1).f0).toList)) = true := c22
   have c22g0 : Op.bytesLess (((rd_T76 l0_0 x3_1).f0).toList) (((rd_T76 l0_0 (ji19)).f0).toList) = false := Go.Proofs.Ythbaoefbccdioaa.Sem.less_no c22b0
   have c22g1 : ((((rd_T76 l0_0 x3_1).f0).toList) == (((rd_T76 l0_0 (ji19)).f0).toList)) = false := Go.Proofs.Ythbaoefbccdioaa.Sem.less_ne c22b0
   clear c22
   have H' := Aside0.mk H
   clear H
   have hcz23_0 : wr.cell? ⟨gb113, 0, none⟩ = some (.slice A0_0 l0_0.length c0_0) := bc_ BK113 0
   have hfz23_0 := blk_frozen BK113.out 0
   have p114 : 0 ≤ (x3_1 : Int) := od_
   have q114 : x3_1 < (l0_0.length : Int) := od_
   obtain ⟨ad114, e114, hx114_0, hx114_1, hx114_2⟩ := at_T76 HR0_0.out x3_1 p114 q114
   cases e114
   replace hx114_0 := hc_ HB hx114_0
   replace hx114_1 := hc_ HB hx114_1
   replace hx114_2 := hc_ HB hx114_2
   replace p114 := eq_true p114
   replace q114 := eq_true q114
   go_wp2_with (first | ((with_reducible refine gate_dst (N := 4) rfl ?_); (try (refine gate_guard (by rfl) ?_; dsimp only)); refine bx_ (N := 4) (cs := #[.string (⟨#[]⟩ : ByteArray), .string (⟨#[]⟩ : ByteArray), .int .i64 0]) (t := 76) ?_; intro gb115 hg w24 hbox hb; have BK115 := mk_ (hbox); have GW115 : Aside0 (w.heap.size ≤ gb115) := bz_ hg; have GE115 := GW115; have NB113_115 := bl_ BK113 hg; have NB115_113 := bg_ BK113 hg; replace BK113 := bb_ BK113 hb; replace HB := bs_ HB hb; clear hb hbox hg; obtain ⟨hnb25, hnc25⟩ := ns_ NB115_113; obtain ⟨hcz26_0, hcz26_1, hcz26_2, hfz26_0, hfz26_1, hfz26_2⟩ := b3_ BK115))
   repeat (go_quiet (first | (go_at_call 39; (with_reducible refine (spec_l03Name.calls ((rd_T76 l0_0 x3_1).f0) true _ A9.out).mono ?_); rintro e w' ⟨rfl, ⟨nd, rfl⟩⟩; (try first | exact ⟨rfl, _, World.drewN_drewN _ _ _⟩ | exact ⟨rfl, _, Eq.trans (World.drewN_drewN _ _ _) (congrArg (World.drewN _) (Nat.add_assoc _ _ _))⟩)) | (go_at_call 61; (with_reducible refine (spec_l01In.calls ((rd_T76 l0_0 x3_1).f2) 0 (((rd_T76 l0_0 x3_1).f1).size : Int) true _ A16.out).mono ?_); rintro e w' ⟨rfl, ⟨nd, rfl⟩⟩; (try first | exact ⟨rfl, _, World.drewN_drewN _ _ _⟩ | exact ⟨rfl, _, Eq.trans (World.drewN_drewN _ _ _) (congrArg (World.drewN _) (Nat.add_assoc _ _ _))⟩); obtain ⟨hcz27_0, hfz27_0⟩ := b1_ BK113; have p118 : 0 ≤ ((ji19) : Int) := od_; have q118 : (ji19) < (l0_0.length : Int) := od_; obtain ⟨ad118, e118, hx118_0, hx118_1, hx118_2⟩ := at_T76 HR0_0.out (ji19) p118 q118; obtain rfl : ad114 = ad118 := (by injection e118); have hn118_0 : ad114.block ≠ gb115 := Nat.ne_of_lt (Nat.lt_of_lt_of_le (by have := World.block_lt_of_cell? _ _ hx118_0; first | rwa [add_block] at this | exact this) GW115.out); have hn118_1 : ad114.block ≠ gb115 := Nat.ne_of_lt (Nat.lt_of_lt_of_le (by have := World.block_lt_of_cell? _ _ hx118_0; first | rwa [add_block] at this | exact this) GW115.out); have hn118_2 : ad114.block ≠ gb115 := Nat.ne_of_lt (Nat.lt_of_lt_of_le (by have := World.block_lt_of_cell? _ _ hx118_0; first | rwa [add_block] at this | exact this) GW115.out); replace hx118_0 := hc_ HB hx118_0; replace hx118_1 := hc_ HB hx118_1; replace hx118_2 := hc_ HB hx118_2; replace hx118_0 := (cell_far (p := ⟨gb115, 0, none⟩) ab_ (.string ((rd_T76 l0_0 x3_1).f0))).trans hx118_0; replace hx118_1 := (cell_far (p := ⟨gb115, 0, none⟩) ab_ (.string ((rd_T76 l0_0 x3_1).f0))).trans hx118_1; replace hx118_2 := (cell_far (p := ⟨gb115, 0, none⟩) ab_ (.string ((rd_T76 l0_0 x3_1).f0))).trans hx118_2; replace hx118_0 := (cell_far (p := ⟨gb115, 1, none⟩) ab_ (.string ((rd_T76 l0_0 x3_1).f1))).trans hx118_0; replace hx118_1 := (cell_far (p := ⟨gb115, 1, none⟩) ab_ (.string ((rd_T76 l0_0 x3_1).f1))).trans hx118_1; replace hx118_2 := (cell_far (p := ⟨gb115, 1, none⟩) ab_ (.string ((rd_T76 l0_0 x3_1).f1))).trans hx118_2; replace hx118_0 := (cell_far (p := ⟨gb115, 2, none⟩) ab_ (.int .i64 ((rd_T76 l0_0 x3_1).f2))).trans hx118_0; replace hx118_1 := (cell_far (p := ⟨gb115, 2, none⟩) ab_ (.int .i64 ((rd_T76 l0_0 x3_1).f2))).trans hx118_1; replace hx118_2 := (cell_far (p := ⟨gb115, 2, none⟩) ab_ (.int .i64 ((rd_T76 l0_0 x3_1).f2))).trans hx118_2; (try have hy118_0 := fun (n_ : Nat) => (show (((((w24.drewN n_).setCell ⟨gb115, 0, none⟩ (.string ((rd_T76 l0_0 x3_1).f0))).setCell ⟨gb115, 1, none⟩ (.string ((rd_T76 l0_0 x3_1).f1))).setCell ⟨gb115, 2, none⟩ (.int .i64 ((rd_T76 l0_0 x3_1).f2)))).cell? _ = some _ from hx118_0)); (try have hy118_1 := fun (n_ : Nat) => (show (((((w24.drewN n_).setCell ⟨gb115, 0, none⟩ (.string ((rd_T76 l0_0 x3_1).f0))).setCell ⟨gb115, 1, none⟩ (.string ((rd_T76 l0_0 x3_1).f1))).setCell ⟨gb115, 2, none⟩ (.int .i64 ((rd_T76 l0_0 x3_1).f2)))).cell? _ = some _ from hx118_1)); (try have hy118_2 := fun (n_ : Nat) => (show (((((w24.drewN n_).setCell ⟨gb115, 0, none⟩ (.string ((rd_T76 l0_0 x3_1).f0))).setCell ⟨gb115, 1, none⟩ (.string ((rd_T76 l0_0 x3_1).f1))).setCell ⟨gb115, 2, none⟩ (.int .i64 ((rd_T76 l0_0 x3_1).f2)))).cell? _ = some _ from hx118_2)); clear hn118_0; clear hn118_1; clear hn118_2; replace p118 := eq_true p118; replace q118 := eq_true q118)); try go_wp2_with fail)
   go_roundg k1
   case measure => have := HK1.out; omega
   case rel => exact ⟨(wrap64 (x3_1 + 1)), (by first | rfl | (simp; done) | (simp [*]; done) | (simp [bne]; done)), H', ⟨by have := HK1.out; omega⟩, ⟨bf_⟩, ⟨bw_ HB⟩⟩

/-! ### spec_l03At: function 40 -/
def spec_l03At.l0 : Nat → ByteArray → Int → List (S76) → Option (Int)
 | 0, _, _, _ => none
 | k + 1, x1, x5, x120000 => if x5 < (x120000.length : Int) then (if 0 ≤ x5 then (if ((rd_T76 x120000 x5).f0).toList = x1.toList then (some x5) else (spec_l03At.l0 k x1 (wrap64 (x5 + 1)) x120000)) else (none)) else (some (-1))
def spec_l03At.f (k : Nat) (l0_0 : List (S76)) (a1 : ByteArray) : Option (Int) := spec_l03At.l0 k a1 0 l0_0
theorem spec_l03At.mono_l : ∀ k, (∀ y0 y1 y2, LeO (spec_l03At.l0 k y0 y1 y2) (spec_l03At.l0 (k + 1) y0 y1 y2))
 | 0 => fun _ _ _ r h => by simp [spec_l03At.l0] at h
 | k + 1 => by
  have ih0 := spec_l03At.mono_l k
  ·intro y0 y1 y2
   unfold spec_l03At.l0
   repeat' first
   | (with_reducible exact ih0 _ _ _)
   | (with_reducible exact LeO.refl _)
   | (with_reducible refine LeO.ite ?_ ?_)
theorem spec_l03At.mono : ∀ a0 a1 k, LeO (spec_l03At.f k a0 a1) (spec_l03At.f (k + 1) a0 a1) := by
 intro a0 a1 k
 have ih0 := spec_l03At.mono_l k
 unfold spec_l03At.f
 repeat' first
   | (with_reducible exact ih0 _ _ _)
set_option maxHeartbeats 8000000 in
set_option maxRecDepth 100000 in
theorem spec_l03At.calls (k : Nat) (A0_0 : Option Addr) (c0_0 : Nat) (l0_0 : List (S76)) (a1 : ByteArray) (r : Int) (w : World) (hr0_0 : Kd.C k76 w A0_0 l0_0.length l0_0) (hc0_0 : l0_0.length ≤ c0_0) (h : spec_l03At.f k l0_0 a1 = some r) :
  Calls Try.prog 40 #[.agg #[.slice A0_0 l0_0.length c0_0], .string a1] w fun e w' => e = .returned (.int .i64 r) ∧ Below w.heap.size w w' := by
 have hu31 := Try.underlying31
 have HR0_0 := Aside0.mk hr0_0
 have HC0_0 := Aside0.mk hc0_0
 clear hr0_0 hc0_0
 have HB := mk_ (Below.refl w.heap.size w)
 have H : (spec_l03At.l0 k a1 0 l0_0) = some r := h
 clear h
 have H' := Aside0.mk H
 clear H
 go_enter Try.func40, Try.ntmps40
 go_wp2_with (first | ((with_reducible refine gate_dst (N := 2) rfl ?_); refine bx_ (N := 2) (cs := #[.slice A0_0 l0_0.length c0_0]) (t := 31) ?_; intro gb119 hg w3 hbox hb; have BK119 := mk_ (hbox); have GW119 : Aside0 (w.heap.size ≤ gb119) := bz_ hg; have GE119 := GW119; replace HB := bs_ HB hb; clear hb hbox hg))
 go_loopg [5] k (fun kq v5 w' => ∃ (x5_1 : Int), v5 = .int .i64 x5_1 ∧ Aside0 (spec_l03At.l0 kq a1 x5_1 l0_0 = some r) ∧ Aside0 (kq ≤ k) ∧ Aside0 (w'.heap[gb119]? = some (.cells #[(.slice A0_0 l0_0.length c0_0)] 31 (0, 0))) ∧ Aside0 (Below w.heap.size w w'))
 case atStart => exact ⟨(0), (by first | rfl | (simp; done) | (simp [*]; done) | (simp [bne]; done)), H', ⟨Nat.le_refl _⟩, ⟨bf_⟩, ⟨bw_ HB⟩⟩
 case round =>
  clear H'
  try clear p2
  obtain ⟨x5_1, rfl, HA, HK1, BK119, HB⟩ := hrel
  cases gk with
  | zero => exact absurd HA.out (by simp [spec_l03At.l0])
  | succ k1 =>
   have H := HA.out
   clear HA
   simp only [spec_l03At.l0] at H
   by_cases c4 : x5_1 < (l0_0.length : Int)
   rotate_left
   ·rw [if_neg c4] at H
    have c4b0 : decide (x5_1 < (l0_0.length : Int)) = false := decide_eq_false c4
    clear c4
    obtain rfl := Option.some.inj H
    have hcz9_0 : wr.cell? ⟨gb119, 0, none⟩ = some (.slice A0_0 l0_0.length c0_0) := bc_ BK119 0
    have hfz9_0 := blk_frozen BK119.out 0
    go_wp2
    go_ret
    exact ⟨er_, bw_ HB⟩
   rw [if_pos c4] at H
   have c4b0 : decide (x5_1 < (l0_0.length : Int)) = true := decide_eq_true c4
   clear c4
   by_cases c5 : 0 ≤ x5_1
   rotate_left
   ·rw [if_neg c5] at H
    exact absurd H (by simp)
   rw [if_pos c5] at H
   have c5b0 : decide (0 ≤ x5_1) = true := decide_eq_true c5
   clear c5
   by_cases c6 : ((rd_T76 l0_0 x5_1).f0).toList = a1.toList
   ·rw [if_pos c6] at H
    have c6b0 : (((rd_T76 l0_0 x5_1).f0).toList == a1.toList) = true := beq_iff_eq.mpr c6
    have c6b1 : (((rd_T76 l0_0 x5_1).f0).toList != a1.toList) = false := bne_eq_false_iff_eq.mpr c6
    clear c6
    obtain rfl := Option.some.inj H
    have hcz7_0 : wr.cell? ⟨gb119, 0, none⟩ = some (.slice A0_0 l0_0.length c0_0) := bc_ BK119 0
    have hfz7_0 := blk_frozen BK119.out 0
    have p120 : 0 ≤ (x5_1 : Int) := od_
    have q120 : x5_1 < (l0_0.length : Int) := od_
    obtain ⟨ad120, e120, hx120_0, hx120_1, hx120_2⟩ := at_T76 HR0_0.out x5_1 p120 q120
    cases e120
    replace hx120_0 := hc_ HB hx120_0
    replace hx120_1 := hc_ HB hx120_1
    replace hx120_2 := hc_ HB hx120_2
    replace p120 := eq_true p120
    replace q120 := eq_true q120
    go_wp2
    go_ret
    exact ⟨er_, bw_ HB⟩
   rw [if_neg c6] at H
   have c6b0 : (((rd_T76 l0_0 x5_1).f0).toList == a1.toList) = false := beq_eq_false_iff_ne.mpr c6
   have c6b1 : (((rd_T76 l0_0 x5_1).f0).toList != a1.toList) = true := bne_iff_ne.mpr c6
   have H' := Aside0.mk H
   clear H
   have hcz8_0 : wr.cell? ⟨gb119, 0, none⟩ = some (.slice A0_0 l0_0.length c0_0) := bc_ BK119 0
   have hfz8_0 := blk_frozen BK119.out 0
   have p120 : 0 ≤ (x5_1 : Int) := od_
   have q120 : x5_1 < (l0_0.length : Int) := od_
   obtain ⟨ad120, e120, hx120_0, hx120_1, hx120_2⟩ := at_T76 HR0_0.out x5_1 p120 q120
   cases e120
   replace hx120_0 := hc_ HB hx120_0
   replace hx120_1 := hc_ HB hx120_1
   replace hx120_2 := hc_ HB hx120_2
   replace p120 := eq_true p120
   replace q120 := eq_true q120
   go_wp2
   go_roundg k1
   case measure => have := HK1.out; omega
   case rel => exact ⟨(wrap64 (x5_1 + 1)), (by first | rfl | (simp; done) | (simp [*]; done) | (simp [bne]; done)), H', ⟨by have := HK1.out; omega⟩, ⟨bf_⟩, ⟨bw_ HB⟩⟩

end Go.Proofs.Ythbaoefbccdioaa.QFnActs
