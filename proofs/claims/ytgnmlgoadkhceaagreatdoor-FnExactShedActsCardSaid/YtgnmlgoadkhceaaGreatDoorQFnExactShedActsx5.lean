/- Written by this session's own program (wip/tpl/pp.py): what the law's functions come to, and that the machine's calls do just that. -/
import Derived.Test.YtgnmlgoadkhceaaGreatDoorQFnExactShedActsx0
namespace Go.Proofs.YtgnmlgoadkhceaaGreatDoor.QFnExactShedActs
open Go.RowKit Go.Proofs.YtgnmlgoadkhceaaGreatDoorW.PrintWords Go.Proofs.YtgnmlgoadkhceaaGreatDoorW.PrintLast Go.Proofs.YtgnmlgoadkhceaaGreatDoorW.PrintMore
attribute [local go_sem] Go.Proofs.YtgnmlgoadkhceaaGreatDoor.Sem.string_geq Go.Proofs.YtgnmlgoadkhceaaGreatDoor.Sem.string_leq Go.Proofs.YtgnmlgoadkhceaaGreatDoor.Sem.string_gtr
attribute [local go_sem] max2_int min2_int max_two min_two max_three min_three max_four min_four   -- for this text's walks alone
set_option linter.unusedVariables false
set_option linter.unusedSimpArgs false

/-! ### spec_l01In: function 58 -/
def spec_l01In.f (a0 : Int) (a1 : Int) (a2 : Int) : Option (Bool) := if a0 ≥ a1 then (some (decide (a0 ≤ a2))) else (some false)
set_option maxHeartbeats 8000000 in
set_option maxRecDepth 100000 in
theorem spec_l01In.calls (a0 : Int) (a1 : Int) (a2 : Int) (r : Bool) (w : World) (h : spec_l01In.f a0 a1 a2 = some r) :
  Calls Tryz.prog 58 #[.int .i64 a0, .int .i64 a1, .int .i64 a2] w fun e w' => e = .returned (.bool r) ∧ Drawn0 w w' := by
 have H : (if a0 ≥ a1 then (some (decide (a0 ≤ a2))) else (some false)) = some r := h
 clear h
 by_cases c4 : a0 ≥ a1
 ·rw [if_pos c4] at H
  have c4b0 : decide (a1 ≤ a0) = true := decide_eq_true c4
  clear c4
  obtain rfl := Option.some.inj H
  go_enter Tryz.func58, Tryz.ntmps58
  go_wp2
  go_ret
  exact ⟨by first | rfl | (simp; done) | (simp [*]; done), by repeat (first | exact Drawn0.refl _ | apply Drawn0.step)⟩
 ·rw [if_neg c4] at H
  have c4b0 : decide (a1 ≤ a0) = false := decide_eq_false c4
  clear c4
  obtain rfl := Option.some.inj H
  go_enter Tryz.func58, Tryz.ntmps58
  go_wp2
  go_ret
  exact ⟨by first | rfl | (simp; done) | (simp [*]; done), by repeat (first | exact Drawn0.refl _ | apply Drawn0.step)⟩

/-! ### spec_l03Name: function 57 -/
def spec_l03Name.f (a0 : ByteArray) : Option (Bool) := (spec_l01In.f (a0.size : Int) 1 8).bind fun t161 => (some t161)
set_option maxHeartbeats 8000000 in
set_option maxRecDepth 100000 in
theorem spec_l03Name.calls (a0 : ByteArray) (r : Bool) (w : World) (h : spec_l03Name.f a0 = some r) :
  Calls Tryz.prog 57 #[.string a0] w fun e w' => e = .returned (.bool r) ∧ Drawn0 w w' := by
 have H : ((spec_l01In.f (a0.size : Int) 1 8).bind fun t161 => (some t161)) = some r := h
 clear h
 replace H := Option.bind_eq_some_iff.mp H
 obtain ⟨t161, A20, H⟩ := H
 replace H : (some t161) = some r := H
 have A2 := Aside0.mk A20
 clear A20
 obtain rfl := Option.some.inj H
 go_enter Tryz.func57, Tryz.ntmps57
 go_wp2_with (first | ((with_reducible refine gate_callee (f := 58) rfl ?_); refine goesL_ (some 5) rfl rfl Tryz.func58 (by kernel_rfl) rfl #[.int .i64 (a0.size : Int), .int .i64 1, .int .i64 8] rfl ga_ ?_; (with_reducible refine (spec_l01In.calls (a0.size : Int) 1 8 t161 _ A2.out).mono ?_); rintro e w' ⟨rfl, ⟨nd, rfl⟩⟩; refine ⟨_, rfl, ?_⟩))
 go_ret
 exact ⟨by first | rfl | (simp; done) | (simp [*]; done), by repeat (first | exact Drawn0.refl _ | apply Drawn0.step)⟩

/-! ### spec_DiskOk: function 26 -/
def spec_DiskOk.l0 : Nat → Int → List (S57) → Option (Bool)
 | 0, _, _ => none
 | k + 1, x3, x163000 => if x3 < (x163000.length : Int) then (if 0 ≤ x3 then ((spec_l03Name.f ((rd_T57 x163000 x3).f0)).bind fun t165 => (if t165 = true then (if (((rd_T57 x163000 x3).f1).size : Int) > 20000 then (some false) else ((spec_l01In.f ((rd_T57 x163000 x3).f2) 0 (((rd_T57 x163000 x3).f1).size : Int)).bind fun t166 => (if t166 = true then (if x3 > 0 then (if 0 ≤ (wrap64 (x3 - 1)) then (if (wrap64 (x3 - 1)) < (x163000.length : Int) then (if ((Op.bytesLess (((rd_T57 x163000 (wrap64 (x3 - 1))).f0).toList) (((rd_T57 x163000 x3).f0).toList)) = true) then (spec_DiskOk.l0 k (wrap64 (x3 + 1)) x163000) else (some false)) else (none)) else (none)) else (spec_DiskOk.l0 k (wrap64 (x3 + 1)) x163000)) else (some false)))) else (some false))) else (none)) else (some true)
def spec_DiskOk.f (k : Nat) (l0_0 : List (S57)) : Option (Bool) := if (l0_0.length : Int) > 30 then (some false) else (spec_DiskOk.l0 k 0 l0_0)
theorem spec_DiskOk.mono_l : ∀ k, (∀ y0 y1, LeO (spec_DiskOk.l0 k y0 y1) (spec_DiskOk.l0 (k + 1) y0 y1))
 | 0 => fun _ _ r h => by simp [spec_DiskOk.l0] at h
 | k + 1 => by
  have ih0 := spec_DiskOk.mono_l k
  ·intro y0 y1
   unfold spec_DiskOk.l0
   repeat' first
   | (with_reducible exact ih0 _ _)
   | (with_reducible exact LeO.refl _)
   | (with_reducible refine LeO.ite ?_ ?_)
   | (with_reducible refine LeO.bind ?_ (fun _ => ?_))
theorem spec_DiskOk.mono : ∀ a0 k, LeO (spec_DiskOk.f k a0) (spec_DiskOk.f (k + 1) a0) := by
 intro a0 k
 have ih0 := spec_DiskOk.mono_l k
 unfold spec_DiskOk.f
 repeat' first
   | (with_reducible exact ih0 _ _)
   | (with_reducible exact LeO.refl _)
   | (with_reducible refine LeO.ite ?_ ?_)
set_option maxHeartbeats 8000000 in
set_option maxRecDepth 100000 in
theorem spec_DiskOk.calls (k : Nat) (A0_0 : Option Addr) (c0_0 : Nat) (l0_0 : List (S57)) (r : Bool) (w : World) (hr0_0 : Kd.C k57 w A0_0 l0_0.length l0_0) (hc0_0 : l0_0.length ≤ c0_0) (h : spec_DiskOk.f k l0_0 = some r) :
  Calls Tryz.prog 26 #[.agg #[.slice A0_0 l0_0.length c0_0]] w fun e w' => e = .returned (.bool r) ∧ Below w.heap.size w w' := by
 have hu36 := Tryz.underlying36
 have hu57 := Tryz.underlying57
 have HR0_0 := Aside0.mk hr0_0
 have HC0_0 := Aside0.mk hc0_0
 clear hr0_0 hc0_0
 have HB := mk_ (Below.refl w.heap.size w)
 have H : (if (l0_0.length : Int) > 30 then (some false) else (spec_DiskOk.l0 k 0 l0_0)) = some r := h
 clear h
 by_cases c2 : (l0_0.length : Int) > 30
 ·rw [if_pos c2] at H
  have c2b0 : decide (30 < (l0_0.length : Int)) = true := decide_eq_true c2
  have c2b1 : decide (30 < l0_0.length) = true := decide_eq_true (by omega)
  clear c2
  obtain rfl := Option.some.inj H
  go_enter Tryz.func26, Tryz.ntmps26
  go_wp2_with (first | ((with_reducible refine gate_dst (N := 1) rfl ?_); (try (refine gate_guard (by rfl) ?_; dsimp only)); refine bx_ (N := 1) (cs := #[.slice A0_0 l0_0.length c0_0]) (t := 36) ?_; intro gb162 hg w3 hbox hb; have BK162 := mk_ (hbox); have GW162 : Aside0 (w.heap.size ≤ gb162) := bz_ hg; have GE162 := GW162; replace HB := bs_ HB hb; clear hb hbox hg; obtain ⟨hcz4_0, hfz4_0⟩ := b1_ BK162))
  go_ret
  exact ⟨er_, bw_ HB⟩
 ·rw [if_neg c2] at H
  have c2b0 : decide (30 < (l0_0.length : Int)) = false := decide_eq_false c2
  have c2b1 : decide (30 < l0_0.length) = false := decide_eq_false (by omega)
  clear c2
  have H' := Aside0.mk H
  clear H
  go_enter Tryz.func26, Tryz.ntmps26
  go_wp2_with (first | ((with_reducible refine gate_dst (N := 1) rfl ?_); (try (refine gate_guard (by rfl) ?_; dsimp only)); refine bx_ (N := 1) (cs := #[.slice A0_0 l0_0.length c0_0]) (t := 36) ?_; intro gb162 hg w5 hbox hb; have BK162 := mk_ (hbox); have GW162 : Aside0 (w.heap.size ≤ gb162) := bz_ hg; have GE162 := GW162; replace HB := bs_ HB hb; clear hb hbox hg; obtain ⟨hcz6_0, hfz6_0⟩ := b1_ BK162))
  go_loopg [3] k (fun kq v3 w' => ∃ (x3_1 : Int), v3 = .int .i64 x3_1 ∧ Aside0 (spec_DiskOk.l0 kq x3_1 l0_0 = some r) ∧ Aside0 (kq ≤ k) ∧ Aside0 (w'.heap[gb162]? = some (.cells #[(.slice A0_0 l0_0.length c0_0)] 36 (0, 0))) ∧ Aside0 (Below w.heap.size w w'))
  case atStart => exact ⟨(0), (by first | rfl | (simp; done) | (simp [*]; done)), H', ⟨Nat.le_refl _⟩, ⟨bf_⟩, ⟨bw_ HB⟩⟩
  case round =>
   clear H'
   try clear c2
   try clear c2b0
   try clear c2b1
   try clear p2
   try clear hcz4_0
   try clear hcz6_0
   try clear hfz4_0
   try clear hfz6_0
   obtain ⟨x3_1, rfl, HA, HK1, BK162, HB⟩ := hrel
   cases gk with
   | zero => exact absurd HA.out (by simp [spec_DiskOk.l0])
   | succ k1 =>
    have H := HA.out
    clear HA
    simp only [spec_DiskOk.l0] at H
    by_cases c7 : x3_1 < (l0_0.length : Int)
    ·rw [if_pos c7] at H
     have c7b0 : decide (x3_1 < (l0_0.length : Int)) = true := decide_eq_true c7
     clear c7
     by_cases c8 : 0 ≤ x3_1
     ·rw [if_pos c8] at H
      have c8b0 : decide (0 ≤ x3_1) = true := decide_eq_true c8
      clear c8
      replace H := Option.bind_eq_some_iff.mp H
      obtain ⟨t165, A90, H⟩ := H
      replace H : (if t165 = true then (if (((rd_T57 l0_0 x3_1).f1).size : Int) > 20000 then (some false) else ((spec_l01In.f ((rd_T57 l0_0 x3_1).f2) 0 (((rd_T57 l0_0 x3_1).f1).size : Int)).bind fun t166 => (if t166 = true then (if x3_1 > 0 then (if 0 ≤ (wrap64 (x3_1 - 1)) then (if (wrap64 (x3_1 - 1)) < (l0_0.length : Int) then (if ((Op.bytesLess (((rd_T57 l0_0 (wrap64 (x3_1 - 1))).f0).toList) (((rd_T57 l0_0 x3_1).f0).toList)) = true) then (spec_DiskOk.l0 k1 (wrap64 (x3_1 + 1)) l0_0) else (some false)) else (none)) else (none)) else (spec_DiskOk.l0 k1 (wrap64 (x3_1 + 1)) l0_0)) else (some false)))) else (some false)) = some r := H
      have A9 := Aside0.mk A90
      clear A90
      by_cases c10 : t165 = true
      ·subst c10
       have H1 : (if (((rd_T57 l0_0 x3_1).f1).size : Int) > 20000 then (some false) else ((spec_l01In.f ((rd_T57 l0_0 x3_1).f2) 0 (((rd_T57 l0_0 x3_1).f1).size : Int)).bind fun t166 => (if t166 = true then (if x3_1 > 0 then (if 0 ≤ (wrap64 (x3_1 - 1)) then (if (wrap64 (x3_1 - 1)) < (l0_0.length : Int) then (if ((Op.bytesLess (((rd_T57 l0_0 (wrap64 (x3_1 - 1))).f0).toList) (((rd_T57 l0_0 x3_1).f0).toList)) = true) then (spec_DiskOk.l0 k1 (wrap64 (x3_1 + 1)) l0_0) else (some false)) else (none)) else (none)) else (spec_DiskOk.l0 k1 (wrap64 (x3_1 + 1)) l0_0)) else (some false)))) = some r := by rw [if_pos rfl] at H; exact H
       clear H
       have H := H1
       clear H1
       by_cases c11 : (((rd_T57 l0_0 x3_1).f1).size : Int) > 20000
       ·rw [if_pos c11] at H
        have c11b0 : decide (20000 < (((rd_T57 l0_0 x3_1).f1).size : Int)) = true := decide_eq_true c11
        have c11b1 : decide (20000 < ((rd_T57 l0_0 x3_1).f1).size) = true := decide_eq_true (by omega)
        clear c11
        obtain rfl := Option.some.inj H
        have hcz12_0 : wr.cell? ⟨gb162, 0, none⟩ = some (.slice A0_0 l0_0.length c0_0) := bc_ BK162 0
        have hfz12_0 := blk_frozen BK162.out 0
        have p163 : 0 ≤ (x3_1 : Int) := od_
        have q163 : x3_1 < (l0_0.length : Int) := od_
        obtain ⟨ad163, e163, hx163_0, hx163_1, hx163_2⟩ := at_T57 HR0_0.out x3_1 p163 q163
        cases e163
        replace hx163_0 := hc_ HB hx163_0
        replace hx163_1 := hc_ HB hx163_1
        replace hx163_2 := hc_ HB hx163_2
        replace p163 := eq_true p163
        replace q163 := eq_true q163
        go_wp2_with (first | ((with_reducible refine gate_dst (N := 4) rfl ?_); (try (refine gate_guard (by rfl) ?_; dsimp only)); refine bx_ (N := 4) (cs := #[.string (⟨#[]⟩ : ByteArray), .string (⟨#[]⟩ : ByteArray), .int .i64 0]) (t := 57) ?_; intro gb164 hg w13 hbox hb; have BK164 := mk_ (hbox); have GW164 : Aside0 (w.heap.size ≤ gb164) := bz_ hg; have GE164 := GW164; have NB162_164 := bl_ BK162 hg; have NB164_162 := bg_ BK162 hg; replace BK162 := bb_ BK162 hb; replace HB := bs_ HB hb; clear hb hbox hg; have hnb14 := NB164_162.out; have hnc14 := NB162_164.out; obtain ⟨hcz15_0, hcz15_1, hcz15_2, hfz15_0, hfz15_1, hfz15_2⟩ := b3_ BK164))
        repeat (go_quiet (first | (go_at_call 57; (with_reducible refine (spec_l03Name.calls ((rd_T57 l0_0 x3_1).f0) true _ A9.out).mono ?_); rintro e w' ⟨rfl, ⟨nd, rfl⟩⟩; (try first | exact ⟨rfl, _, World.drewN_drewN _ _ _⟩ | exact ⟨rfl, _, Eq.trans (World.drewN_drewN _ _ _) (congrArg (World.drewN _) (Nat.add_assoc _ _ _))⟩))); try go_wp2_with fail)
        go_ret
        exact ⟨er_, bw_ HB⟩
       ·rw [if_neg c11] at H
        have c11b0 : decide (20000 < (((rd_T57 l0_0 x3_1).f1).size : Int)) = false := decide_eq_false c11
        have c11b1 : decide (20000 < ((rd_T57 l0_0 x3_1).f1).size) = false := decide_eq_false (by omega)
        clear c11
        replace H := Option.bind_eq_some_iff.mp H
        obtain ⟨t166, A160, H⟩ := H
        replace H : (if t166 = true then (if x3_1 > 0 then (if 0 ≤ (wrap64 (x3_1 - 1)) then (if (wrap64 (x3_1 - 1)) < (l0_0.length : Int) then (if ((Op.bytesLess (((rd_T57 l0_0 (wrap64 (x3_1 - 1))).f0).toList) (((rd_T57 l0_0 x3_1).f0).toList)) = true) then (spec_DiskOk.l0 k1 (wrap64 (x3_1 + 1)) l0_0) else (some false)) else (none)) else (none)) else (spec_DiskOk.l0 k1 (wrap64 (x3_1 + 1)) l0_0)) else (some false)) = some r := H
        have A16 := Aside0.mk A160
        clear A160
        by_cases c17 : t166 = true
        ·subst c17
         have H1 : (if x3_1 > 0 then (if 0 ≤ (wrap64 (x3_1 - 1)) then (if (wrap64 (x3_1 - 1)) < (l0_0.length : Int) then (if ((Op.bytesLess (((rd_T57 l0_0 (wrap64 (x3_1 - 1))).f0).toList) (((rd_T57 l0_0 x3_1).f0).toList)) = true) then (spec_DiskOk.l0 k1 (wrap64 (x3_1 + 1)) l0_0) else (some false)) else (none)) else (none)) else (spec_DiskOk.l0 k1 (wrap64 (x3_1 + 1)) l0_0)) = some r := by rw [if_pos rfl] at H; exact H
         clear H
         have H := H1
         clear H1
         by_cases c18 : x3_1 > 0
         ·rw [if_pos c18] at H
          have c18b0 : decide (0 < x3_1) = true := decide_eq_true c18
          clear c18
          obtain ⟨ji19, hji19⟩ : ∃ j_ : Int, (wrap64 (x3_1 - 1)) = j_ := ⟨_, rfl⟩
          replace H : (if 0 ≤ (ji19) then (if (ji19) < (l0_0.length : Int) then (if ((Op.bytesLess (((rd_T57 l0_0 (ji19)).f0).toList) (((rd_T57 l0_0 x3_1).f0).toList)) = true) then (spec_DiskOk.l0 k1 (wrap64 (x3_1 + 1)) l0_0) else (some false)) else (none)) else (none)) = some r := by first | (rw [hji19] at H; exact H) | (simp only [hji19] at H ⊢; exact H)
          (try rw [hji19] at A9)
          (try rw [hji19] at A16)
          have hji19w : (IntKind.i64.wrap (x3_1 - 1)) = ji19 := (i64_w _).trans hji19
          by_cases c20 : 0 ≤ (ji19)
          ·rw [if_pos c20] at H
           have c20b0 : decide (0 ≤ (ji19)) = true := decide_eq_true c20
           clear c20
           by_cases c21 : (ji19) < (l0_0.length : Int)
           ·rw [if_pos c21] at H
            have c21b0 : decide ((ji19) < (l0_0.length : Int)) = true := decide_eq_true c21
            clear c21
            by_cases c22 : ((Op.bytesLess (((rd_T57 l0_0 (ji19)).f0).toList) (((rd_T57 l0_0 x3_1).f0).toList)) = true)
            ·rw [if_pos c22] at H
             have c22b0 : (Op.bytesLess (((rd_T57 l0_0 (ji19)).f0).toList) (((rd_T57 l0_0 x3_1).f0).toList)) = true := c22
             have c22g0 : Op.bytesLess (((rd_T57 l0_0 x3_1).f0).toList) (((rd_T57 l0_0 (ji19)).f0).toList) = false := Go.Proofs.YtgnmlgoadkhceaaGreatDoor.Sem.less_no c22b0
             have c22g1 : ((((rd_T57 l0_0 x3_1).f0).toList) == (((rd_T57 l0_0 (ji19)).f0).toList)) = false := Go.Proofs.YtgnmlgoadkhceaaGreatDoor.Sem.less_ne c22b0
             clear c22
             have H' := Aside0.mk H
             clear H
             have hcz23_0 : wr.cell? ⟨gb162, 0, none⟩ = some (.slice A0_0 l0_0.length c0_0) := bc_ BK162 0
             have hfz23_0 := blk_frozen BK162.out 0
             have p163 : 0 ≤ (x3_1 : Int) := od_
             have q163 : x3_1 < (l0_0.length : Int) := od_
             obtain ⟨ad163, e163, hx163_0, hx163_1, hx163_2⟩ := at_T57 HR0_0.out x3_1 p163 q163
             cases e163
             replace hx163_0 := hc_ HB hx163_0
             replace hx163_1 := hc_ HB hx163_1
             replace hx163_2 := hc_ HB hx163_2
             replace p163 := eq_true p163
             replace q163 := eq_true q163
             go_wp2_with (first | ((with_reducible refine gate_dst (N := 4) rfl ?_); (try (refine gate_guard (by rfl) ?_; dsimp only)); refine bx_ (N := 4) (cs := #[.string (⟨#[]⟩ : ByteArray), .string (⟨#[]⟩ : ByteArray), .int .i64 0]) (t := 57) ?_; intro gb164 hg w24 hbox hb; have BK164 := mk_ (hbox); have GW164 : Aside0 (w.heap.size ≤ gb164) := bz_ hg; have GE164 := GW164; have NB162_164 := bl_ BK162 hg; have NB164_162 := bg_ BK162 hg; replace BK162 := bb_ BK162 hb; replace HB := bs_ HB hb; clear hb hbox hg; have hnb25 := NB164_162.out; have hnc25 := NB162_164.out; obtain ⟨hcz26_0, hcz26_1, hcz26_2, hfz26_0, hfz26_1, hfz26_2⟩ := b3_ BK164))
             repeat (go_quiet (first | (go_at_call 57; (with_reducible refine (spec_l03Name.calls ((rd_T57 l0_0 x3_1).f0) true _ A9.out).mono ?_); rintro e w' ⟨rfl, ⟨nd, rfl⟩⟩; (try first | exact ⟨rfl, _, World.drewN_drewN _ _ _⟩ | exact ⟨rfl, _, Eq.trans (World.drewN_drewN _ _ _) (congrArg (World.drewN _) (Nat.add_assoc _ _ _))⟩)) | (go_at_call 58; (with_reducible refine (spec_l01In.calls ((rd_T57 l0_0 x3_1).f2) 0 (((rd_T57 l0_0 x3_1).f1).size : Int) true _ A16.out).mono ?_); rintro e w' ⟨rfl, ⟨nd, rfl⟩⟩; (try first | exact ⟨rfl, _, World.drewN_drewN _ _ _⟩ | exact ⟨rfl, _, Eq.trans (World.drewN_drewN _ _ _) (congrArg (World.drewN _) (Nat.add_assoc _ _ _))⟩); obtain ⟨hcz27_0, hfz27_0⟩ := b1_ BK162; have p167 : 0 ≤ ((ji19) : Int) := od_; have q167 : (ji19) < (l0_0.length : Int) := od_; obtain ⟨ad167, e167, hx167_0, hx167_1, hx167_2⟩ := at_T57 HR0_0.out (ji19) p167 q167; obtain rfl : ad163 = ad167 := (by injection e167); have hn167_0 : ad163.block ≠ gb164 := Nat.ne_of_lt (Nat.lt_of_lt_of_le (by have := World.block_lt_of_cell? _ _ hx167_0; first | rwa [add_block] at this | exact this) GW164.out); have hn167_1 : ad163.block ≠ gb164 := Nat.ne_of_lt (Nat.lt_of_lt_of_le (by have := World.block_lt_of_cell? _ _ hx167_0; first | rwa [add_block] at this | exact this) GW164.out); have hn167_2 : ad163.block ≠ gb164 := Nat.ne_of_lt (Nat.lt_of_lt_of_le (by have := World.block_lt_of_cell? _ _ hx167_0; first | rwa [add_block] at this | exact this) GW164.out); replace hx167_0 := hc_ HB hx167_0; replace hx167_1 := hc_ HB hx167_1; replace hx167_2 := hc_ HB hx167_2; replace hx167_0 := (cell_far (p := ⟨gb164, 0, none⟩) ab_ (.string ((rd_T57 l0_0 x3_1).f0))).trans hx167_0; replace hx167_1 := (cell_far (p := ⟨gb164, 0, none⟩) ab_ (.string ((rd_T57 l0_0 x3_1).f0))).trans hx167_1; replace hx167_2 := (cell_far (p := ⟨gb164, 0, none⟩) ab_ (.string ((rd_T57 l0_0 x3_1).f0))).trans hx167_2; replace hx167_0 := (cell_far (p := ⟨gb164, 1, none⟩) ab_ (.string ((rd_T57 l0_0 x3_1).f1))).trans hx167_0; replace hx167_1 := (cell_far (p := ⟨gb164, 1, none⟩) ab_ (.string ((rd_T57 l0_0 x3_1).f1))).trans hx167_1; replace hx167_2 := (cell_far (p := ⟨gb164, 1, none⟩) ab_ (.string ((rd_T57 l0_0 x3_1).f1))).trans hx167_2; replace hx167_0 := (cell_far (p := ⟨gb164, 2, none⟩) ab_ (.int .i64 ((rd_T57 l0_0 x3_1).f2))).trans hx167_0; replace hx167_1 := (cell_far (p := ⟨gb164, 2, none⟩) ab_ (.int .i64 ((rd_T57 l0_0 x3_1).f2))).trans hx167_1; replace hx167_2 := (cell_far (p := ⟨gb164, 2, none⟩) ab_ (.int .i64 ((rd_T57 l0_0 x3_1).f2))).trans hx167_2; (try have hy167_0 := fun (n_ : Nat) => (show (((((w24.drewN n_).setCell ⟨gb164, 0, none⟩ (.string ((rd_T57 l0_0 x3_1).f0))).setCell ⟨gb164, 1, none⟩ (.string ((rd_T57 l0_0 x3_1).f1))).setCell ⟨gb164, 2, none⟩ (.int .i64 ((rd_T57 l0_0 x3_1).f2)))).cell? _ = some _ from hx167_0)); (try have hy167_1 := fun (n_ : Nat) => (show (((((w24.drewN n_).setCell ⟨gb164, 0, none⟩ (.string ((rd_T57 l0_0 x3_1).f0))).setCell ⟨gb164, 1, none⟩ (.string ((rd_T57 l0_0 x3_1).f1))).setCell ⟨gb164, 2, none⟩ (.int .i64 ((rd_T57 l0_0 x3_1).f2)))).cell? _ = some _ from hx167_1)); (try have hy167_2 := fun (n_ : Nat) => (show (((((w24.drewN n_).setCell ⟨gb164, 0, none⟩ (.string ((rd_T57 l0_0 x3_1).f0))).setCell ⟨gb164, 1, none⟩ (.string ((rd_T57 l0_0 x3_1).f1))).setCell ⟨gb164, 2, none⟩ (.int .i64 ((rd_T57 l0_0 x3_1).f2)))).cell? _ = some _ from hx167_2)); clear hn167_0; clear hn167_1; clear hn167_2; replace p167 := eq_true p167; replace q167 := eq_true q167)); try go_wp2_with fail)
             go_roundg k1
             case measure => have := HK1.out; omega
             case rel => exact ⟨(wrap64 (x3_1 + 1)), (by first | rfl | (simp; done) | (simp [*]; done)), H', ⟨by have := HK1.out; omega⟩, ⟨bf_⟩, ⟨bw_ HB⟩⟩
            ·rw [if_neg c22] at H
             have c22b0 : (Op.bytesLess (((rd_T57 l0_0 (ji19)).f0).toList) (((rd_T57 l0_0 x3_1).f0).toList)) = false := by simpa using c22
             have c22g0 : (Op.bytesLess (((rd_T57 l0_0 x3_1).f0).toList) (((rd_T57 l0_0 (ji19)).f0).toList) || (((rd_T57 l0_0 x3_1).f0).toList) == (((rd_T57 l0_0 (ji19)).f0).toList)) = true := Go.Proofs.YtgnmlgoadkhceaaGreatDoor.Sem.less_or c22b0
             have c22g1 : (!Op.bytesLess (((rd_T57 l0_0 x3_1).f0).toList) (((rd_T57 l0_0 (ji19)).f0).toList) && !((((rd_T57 l0_0 x3_1).f0).toList) == (((rd_T57 l0_0 (ji19)).f0).toList))) = false := Go.Proofs.YtgnmlgoadkhceaaGreatDoor.Sem.less_and c22b0
             clear c22
             obtain rfl := Option.some.inj H
             have hcz28_0 : wr.cell? ⟨gb162, 0, none⟩ = some (.slice A0_0 l0_0.length c0_0) := bc_ BK162 0
             have hfz28_0 := blk_frozen BK162.out 0
             have p163 : 0 ≤ (x3_1 : Int) := od_
             have q163 : x3_1 < (l0_0.length : Int) := od_
             obtain ⟨ad163, e163, hx163_0, hx163_1, hx163_2⟩ := at_T57 HR0_0.out x3_1 p163 q163
             cases e163
             replace hx163_0 := hc_ HB hx163_0
             replace hx163_1 := hc_ HB hx163_1
             replace hx163_2 := hc_ HB hx163_2
             replace p163 := eq_true p163
             replace q163 := eq_true q163
             go_wp2_with (first | ((with_reducible refine gate_dst (N := 4) rfl ?_); (try (refine gate_guard (by rfl) ?_; dsimp only)); refine bx_ (N := 4) (cs := #[.string (⟨#[]⟩ : ByteArray), .string (⟨#[]⟩ : ByteArray), .int .i64 0]) (t := 57) ?_; intro gb164 hg w29 hbox hb; have BK164 := mk_ (hbox); have GW164 : Aside0 (w.heap.size ≤ gb164) := bz_ hg; have GE164 := GW164; have NB162_164 := bl_ BK162 hg; have NB164_162 := bg_ BK162 hg; replace BK162 := bb_ BK162 hb; replace HB := bs_ HB hb; clear hb hbox hg; have hnb30 := NB164_162.out; have hnc30 := NB162_164.out; obtain ⟨hcz31_0, hcz31_1, hcz31_2, hfz31_0, hfz31_1, hfz31_2⟩ := b3_ BK164))
             repeat (go_quiet (first | (go_at_call 57; (with_reducible refine (spec_l03Name.calls ((rd_T57 l0_0 x3_1).f0) true _ A9.out).mono ?_); rintro e w' ⟨rfl, ⟨nd, rfl⟩⟩; (try first | exact ⟨rfl, _, World.drewN_drewN _ _ _⟩ | exact ⟨rfl, _, Eq.trans (World.drewN_drewN _ _ _) (congrArg (World.drewN _) (Nat.add_assoc _ _ _))⟩)) | (go_at_call 58; (with_reducible refine (spec_l01In.calls ((rd_T57 l0_0 x3_1).f2) 0 (((rd_T57 l0_0 x3_1).f1).size : Int) true _ A16.out).mono ?_); rintro e w' ⟨rfl, ⟨nd, rfl⟩⟩; (try first | exact ⟨rfl, _, World.drewN_drewN _ _ _⟩ | exact ⟨rfl, _, Eq.trans (World.drewN_drewN _ _ _) (congrArg (World.drewN _) (Nat.add_assoc _ _ _))⟩); obtain ⟨hcz32_0, hfz32_0⟩ := b1_ BK162; have p167 : 0 ≤ ((ji19) : Int) := od_; have q167 : (ji19) < (l0_0.length : Int) := od_; obtain ⟨ad167, e167, hx167_0, hx167_1, hx167_2⟩ := at_T57 HR0_0.out (ji19) p167 q167; obtain rfl : ad163 = ad167 := (by injection e167); have hn167_0 : ad163.block ≠ gb164 := Nat.ne_of_lt (Nat.lt_of_lt_of_le (by have := World.block_lt_of_cell? _ _ hx167_0; first | rwa [add_block] at this | exact this) GW164.out); have hn167_1 : ad163.block ≠ gb164 := Nat.ne_of_lt (Nat.lt_of_lt_of_le (by have := World.block_lt_of_cell? _ _ hx167_0; first | rwa [add_block] at this | exact this) GW164.out); have hn167_2 : ad163.block ≠ gb164 := Nat.ne_of_lt (Nat.lt_of_lt_of_le (by have := World.block_lt_of_cell? _ _ hx167_0; first | rwa [add_block] at this | exact this) GW164.out); replace hx167_0 := hc_ HB hx167_0; replace hx167_1 := hc_ HB hx167_1; replace hx167_2 := hc_ HB hx167_2; replace hx167_0 := (cell_far (p := ⟨gb164, 0, none⟩) ab_ (.string ((rd_T57 l0_0 x3_1).f0))).trans hx167_0; replace hx167_1 := (cell_far (p := ⟨gb164, 0, none⟩) ab_ (.string ((rd_T57 l0_0 x3_1).f0))).trans hx167_1; replace hx167_2 := (cell_far (p := ⟨gb164, 0, none⟩) ab_ (.string ((rd_T57 l0_0 x3_1).f0))).trans hx167_2; replace hx167_0 := (cell_far (p := ⟨gb164, 1, none⟩) ab_ (.string ((rd_T57 l0_0 x3_1).f1))).trans hx167_0; replace hx167_1 := (cell_far (p := ⟨gb164, 1, none⟩) ab_ (.string ((rd_T57 l0_0 x3_1).f1))).trans hx167_1; replace hx167_2 := (cell_far (p := ⟨gb164, 1, none⟩) ab_ (.string ((rd_T57 l0_0 x3_1).f1))).trans hx167_2; replace hx167_0 := (cell_far (p := ⟨gb164, 2, none⟩) ab_ (.int .i64 ((rd_T57 l0_0 x3_1).f2))).trans hx167_0; replace hx167_1 := (cell_far (p := ⟨gb164, 2, none⟩) ab_ (.int .i64 ((rd_T57 l0_0 x3_1).f2))).trans hx167_1; replace hx167_2 := (cell_far (p := ⟨gb164, 2, none⟩) ab_ (.int .i64 ((rd_T57 l0_0 x3_1).f2))).trans hx167_2; (try have hy167_0 := fun (n_ : Nat) => (show (((((w29.drewN n_).setCell ⟨gb164, 0, none⟩ (.string ((rd_T57 l0_0 x3_1).f0))).setCell ⟨gb164, 1, none⟩ (.string ((rd_T57 l0_0 x3_1).f1))).setCell ⟨gb164, 2, none⟩ (.int .i64 ((rd_T57 l0_0 x3_1).f2)))).cell? _ = some _ from hx167_0)); (try have hy167_1 := fun (n_ : Nat) => (show (((((w29.drewN n_).setCell ⟨gb164, 0, none⟩ (.string ((rd_T57 l0_0 x3_1).f0))).setCell ⟨gb164, 1, none⟩ (.string ((rd_T57 l0_0 x3_1).f1))).setCell ⟨gb164, 2, none⟩ (.int .i64 ((rd_T57 l0_0 x3_1).f2)))).cell? _ = some _ from hx167_1)); (try have hy167_2 := fun (n_ : Nat) => (show (((((w29.drewN n_).setCell ⟨gb164, 0, none⟩ (.string ((rd_T57 l0_0 x3_1).f0))).setCell ⟨gb164, 1, none⟩ (.string ((rd_T57 l0_0 x3_1).f1))).setCell ⟨gb164, 2, none⟩ (.int .i64 ((rd_T57 l0_0 x3_1).f2)))).cell? _ = some _ from hx167_2)); clear hn167_0; clear hn167_1; clear hn167_2; replace p167 := eq_true p167; replace q167 := eq_true q167)); try go_wp2_with fail)
             go_ret
             exact ⟨by first | rfl | (simp [errW_none, errW_some] <;> rfl) | (simp only [← hji19]; first | rfl | (simp [errW_none, errW_some] <;> rfl)) | (simp [*, errW_none, errW_some] <;> rfl), bw_ HB⟩
           ·rw [if_neg c21] at H
            exact absurd H (by simp)
          ·rw [if_neg c20] at H
           exact absurd H (by simp)
         ·rw [if_neg c18] at H
          have c18b0 : decide (0 < x3_1) = false := decide_eq_false c18
          clear c18
          have H' := Aside0.mk H
          clear H
          have hcz33_0 : wr.cell? ⟨gb162, 0, none⟩ = some (.slice A0_0 l0_0.length c0_0) := bc_ BK162 0
          have hfz33_0 := blk_frozen BK162.out 0
          have p163 : 0 ≤ (x3_1 : Int) := od_
          have q163 : x3_1 < (l0_0.length : Int) := od_
          obtain ⟨ad163, e163, hx163_0, hx163_1, hx163_2⟩ := at_T57 HR0_0.out x3_1 p163 q163
          cases e163
          replace hx163_0 := hc_ HB hx163_0
          replace hx163_1 := hc_ HB hx163_1
          replace hx163_2 := hc_ HB hx163_2
          replace p163 := eq_true p163
          replace q163 := eq_true q163
          go_wp2_with (first | ((with_reducible refine gate_dst (N := 4) rfl ?_); (try (refine gate_guard (by rfl) ?_; dsimp only)); refine bx_ (N := 4) (cs := #[.string (⟨#[]⟩ : ByteArray), .string (⟨#[]⟩ : ByteArray), .int .i64 0]) (t := 57) ?_; intro gb164 hg w34 hbox hb; have BK164 := mk_ (hbox); have GW164 : Aside0 (w.heap.size ≤ gb164) := bz_ hg; have GE164 := GW164; have NB162_164 := bl_ BK162 hg; have NB164_162 := bg_ BK162 hg; replace BK162 := bb_ BK162 hb; replace HB := bs_ HB hb; clear hb hbox hg; have hnb35 := NB164_162.out; have hnc35 := NB162_164.out; obtain ⟨hcz36_0, hcz36_1, hcz36_2, hfz36_0, hfz36_1, hfz36_2⟩ := b3_ BK164))
          repeat (go_quiet (first | (go_at_call 57; (with_reducible refine (spec_l03Name.calls ((rd_T57 l0_0 x3_1).f0) true _ A9.out).mono ?_); rintro e w' ⟨rfl, ⟨nd, rfl⟩⟩; (try first | exact ⟨rfl, _, World.drewN_drewN _ _ _⟩ | exact ⟨rfl, _, Eq.trans (World.drewN_drewN _ _ _) (congrArg (World.drewN _) (Nat.add_assoc _ _ _))⟩)) | (go_at_call 58; (with_reducible refine (spec_l01In.calls ((rd_T57 l0_0 x3_1).f2) 0 (((rd_T57 l0_0 x3_1).f1).size : Int) true _ A16.out).mono ?_); rintro e w' ⟨rfl, ⟨nd, rfl⟩⟩; (try first | exact ⟨rfl, _, World.drewN_drewN _ _ _⟩ | exact ⟨rfl, _, Eq.trans (World.drewN_drewN _ _ _) (congrArg (World.drewN _) (Nat.add_assoc _ _ _))⟩))); try go_wp2_with fail)
          go_roundg k1
          case measure => have := HK1.out; omega
          case rel => exact ⟨(wrap64 (x3_1 + 1)), (by first | rfl | (simp; done) | (simp [*]; done)), H', ⟨by have := HK1.out; omega⟩, ⟨bf_⟩, ⟨bw_ HB⟩⟩
        ·replace c17 := Bool.eq_false_iff.mpr c17
         subst c17
         have H1 : (some false) = some r := by rw [if_neg (show ¬ (false = true) by decide)] at H; exact H
         clear H
         have H := H1
         clear H1
         obtain rfl := Option.some.inj H
         have hcz37_0 : wr.cell? ⟨gb162, 0, none⟩ = some (.slice A0_0 l0_0.length c0_0) := bc_ BK162 0
         have hfz37_0 := blk_frozen BK162.out 0
         have p163 : 0 ≤ (x3_1 : Int) := od_
         have q163 : x3_1 < (l0_0.length : Int) := od_
         obtain ⟨ad163, e163, hx163_0, hx163_1, hx163_2⟩ := at_T57 HR0_0.out x3_1 p163 q163
         cases e163
         replace hx163_0 := hc_ HB hx163_0
         replace hx163_1 := hc_ HB hx163_1
         replace hx163_2 := hc_ HB hx163_2
         replace p163 := eq_true p163
         replace q163 := eq_true q163
         go_wp2_with (first | ((with_reducible refine gate_dst (N := 4) rfl ?_); (try (refine gate_guard (by rfl) ?_; dsimp only)); refine bx_ (N := 4) (cs := #[.string (⟨#[]⟩ : ByteArray), .string (⟨#[]⟩ : ByteArray), .int .i64 0]) (t := 57) ?_; intro gb164 hg w38 hbox hb; have BK164 := mk_ (hbox); have GW164 : Aside0 (w.heap.size ≤ gb164) := bz_ hg; have GE164 := GW164; have NB162_164 := bl_ BK162 hg; have NB164_162 := bg_ BK162 hg; replace BK162 := bb_ BK162 hb; replace HB := bs_ HB hb; clear hb hbox hg; have hnb39 := NB164_162.out; have hnc39 := NB162_164.out; obtain ⟨hcz40_0, hcz40_1, hcz40_2, hfz40_0, hfz40_1, hfz40_2⟩ := b3_ BK164))
         repeat (go_quiet (first | (go_at_call 57; (with_reducible refine (spec_l03Name.calls ((rd_T57 l0_0 x3_1).f0) true _ A9.out).mono ?_); rintro e w' ⟨rfl, ⟨nd, rfl⟩⟩; (try first | exact ⟨rfl, _, World.drewN_drewN _ _ _⟩ | exact ⟨rfl, _, Eq.trans (World.drewN_drewN _ _ _) (congrArg (World.drewN _) (Nat.add_assoc _ _ _))⟩)) | (go_at_call 58; (with_reducible refine (spec_l01In.calls ((rd_T57 l0_0 x3_1).f2) 0 (((rd_T57 l0_0 x3_1).f1).size : Int) false _ A16.out).mono ?_); rintro e w' ⟨rfl, ⟨nd, rfl⟩⟩; (try first | exact ⟨rfl, _, World.drewN_drewN _ _ _⟩ | exact ⟨rfl, _, Eq.trans (World.drewN_drewN _ _ _) (congrArg (World.drewN _) (Nat.add_assoc _ _ _))⟩))); try go_wp2_with fail)
         go_ret
         exact ⟨er_, bw_ HB⟩
      ·replace c10 := Bool.eq_false_iff.mpr c10
       subst c10
       have H1 : (some false) = some r := by rw [if_neg (show ¬ (false = true) by decide)] at H; exact H
       clear H
       have H := H1
       clear H1
       obtain rfl := Option.some.inj H
       have hcz41_0 : wr.cell? ⟨gb162, 0, none⟩ = some (.slice A0_0 l0_0.length c0_0) := bc_ BK162 0
       have hfz41_0 := blk_frozen BK162.out 0
       have p163 : 0 ≤ (x3_1 : Int) := od_
       have q163 : x3_1 < (l0_0.length : Int) := od_
       obtain ⟨ad163, e163, hx163_0, hx163_1, hx163_2⟩ := at_T57 HR0_0.out x3_1 p163 q163
       cases e163
       replace hx163_0 := hc_ HB hx163_0
       replace hx163_1 := hc_ HB hx163_1
       replace hx163_2 := hc_ HB hx163_2
       replace p163 := eq_true p163
       replace q163 := eq_true q163
       go_wp2_with (first | ((with_reducible refine gate_dst (N := 4) rfl ?_); (try (refine gate_guard (by rfl) ?_; dsimp only)); refine bx_ (N := 4) (cs := #[.string (⟨#[]⟩ : ByteArray), .string (⟨#[]⟩ : ByteArray), .int .i64 0]) (t := 57) ?_; intro gb164 hg w42 hbox hb; have BK164 := mk_ (hbox); have GW164 : Aside0 (w.heap.size ≤ gb164) := bz_ hg; have GE164 := GW164; have NB162_164 := bl_ BK162 hg; have NB164_162 := bg_ BK162 hg; replace BK162 := bb_ BK162 hb; replace HB := bs_ HB hb; clear hb hbox hg; have hnb43 := NB164_162.out; have hnc43 := NB162_164.out; obtain ⟨hcz44_0, hcz44_1, hcz44_2, hfz44_0, hfz44_1, hfz44_2⟩ := b3_ BK164))
       repeat (go_quiet (first | (go_at_call 57; (with_reducible refine (spec_l03Name.calls ((rd_T57 l0_0 x3_1).f0) false _ A9.out).mono ?_); rintro e w' ⟨rfl, ⟨nd, rfl⟩⟩; (try first | exact ⟨rfl, _, World.drewN_drewN _ _ _⟩ | exact ⟨rfl, _, Eq.trans (World.drewN_drewN _ _ _) (congrArg (World.drewN _) (Nat.add_assoc _ _ _))⟩))); try go_wp2_with fail)
       go_ret
       exact ⟨er_, bw_ HB⟩
     ·rw [if_neg c8] at H
      exact absurd H (by simp)
    ·rw [if_neg c7] at H
     have c7b0 : decide (x3_1 < (l0_0.length : Int)) = false := decide_eq_false c7
     clear c7
     obtain rfl := Option.some.inj H
     have hcz45_0 : wr.cell? ⟨gb162, 0, none⟩ = some (.slice A0_0 l0_0.length c0_0) := bc_ BK162 0
     have hfz45_0 := blk_frozen BK162.out 0
     go_wp2
     go_ret
     exact ⟨er_, bw_ HB⟩

/-! ### spec_l01Figure: function 95 -/
def spec_l01Figure.f (a0 : Int) : Option (Int) := if a0 < 10 then (some ((wrap64 (48 + a0)) % 256)) else (some ((wrap64 ((wrap64 (97 + a0)) - 10)) % 256))
set_option maxHeartbeats 8000000 in
set_option maxRecDepth 100000 in
theorem spec_l01Figure.calls (a0 : Int) (r : Int) (w : World) (h : spec_l01Figure.f a0 = some r) :
  Calls Tryz.prog 95 #[.int .i64 a0] w fun e w' => e = .returned (.int .u8 r) ∧ Drawn0 w w' := by
 have H : (if a0 < 10 then (some ((wrap64 (48 + a0)) % 256)) else (some ((wrap64 ((wrap64 (97 + a0)) - 10)) % 256))) = some r := h
 clear h
 by_cases c2 : a0 < 10
 ·rw [if_pos c2] at H
  have c2b0 : decide (a0 < 10) = true := decide_eq_true c2
  clear c2
  obtain rfl := Option.some.inj H
  go_enter Tryz.func95, Tryz.ntmps95
  go_wp2
  go_ret
  exact ⟨by first | rfl | (simp; done) | (simp [*]; done), by repeat (first | exact Drawn0.refl _ | apply Drawn0.step)⟩
 ·rw [if_neg c2] at H
  have c2b0 : decide (a0 < 10) = false := decide_eq_false c2
  clear c2
  obtain rfl := Option.some.inj H
  go_enter Tryz.func95, Tryz.ntmps95
  go_wp2
  go_ret
  exact ⟨by first | rfl | (simp; done) | (simp [*]; done), by repeat (first | exact Drawn0.refl _ | apply Drawn0.step)⟩

/-! ### spec_Decimal: function 60 -/
def spec_Decimal.l0 : Nat → Int → Bool → ByteArray → Option (ByteArray)
 | 0, _, _, _ => none
 | k + 1, x0, x3, x4 => if x0 = 0 then (if x3 = true then (if 1 + x4.size ≤ 9223372036854775807 then (some ((⟨#[45]⟩ : ByteArray) ++ x4)) else (none)) else (some x4)) else (if (Int.tmod x0 10) < 0 then ((spec_l01Figure.f (wrap64 (-(Int.tmod x0 10)))).bind fun t168 => ((some (([t168] : List Int) : List Int)).bind fun y169 => (if (strOfNums y169).size + x4.size ≤ 9223372036854775807 then (spec_Decimal.l0 k (wrap64 (Int.tdiv x0 10)) x3 ((strOfNums y169) ++ x4)) else (none)))) else ((spec_l01Figure.f (Int.tmod x0 10)).bind fun t172 => ((some (([t172] : List Int) : List Int)).bind fun y173 => (if (strOfNums y173).size + x4.size ≤ 9223372036854775807 then (spec_Decimal.l0 k (wrap64 (Int.tdiv x0 10)) x3 ((strOfNums y173) ++ x4)) else (none)))))
def spec_Decimal.f (k : Nat) (a0 : Int) : Option (ByteArray) := if a0 = 0 then (some (⟨#[48]⟩ : ByteArray)) else (spec_Decimal.l0 k a0 (decide (a0 < 0)) (⟨#[]⟩ : ByteArray))
theorem spec_Decimal.mono_l : ∀ k, (∀ y0 y1 y2, LeO (spec_Decimal.l0 k y0 y1 y2) (spec_Decimal.l0 (k + 1) y0 y1 y2))
 | 0 => fun _ _ _ r h => by simp [spec_Decimal.l0] at h
 | k + 1 => by
  have ih0 := spec_Decimal.mono_l k
  ·intro y0 y1 y2
   unfold spec_Decimal.l0
   repeat' first
   | (with_reducible exact ih0 _ _ _)
   | (with_reducible exact LeO.refl _)
   | (with_reducible refine LeO.ite ?_ ?_)
   | (with_reducible refine LeO.bind ?_ (fun _ => ?_))
theorem spec_Decimal.mono : ∀ a0 k, LeO (spec_Decimal.f k a0) (spec_Decimal.f (k + 1) a0) := by
 intro a0 k
 have ih0 := spec_Decimal.mono_l k
 unfold spec_Decimal.f
 repeat' first
   | (with_reducible exact ih0 _ _ _)
   | (with_reducible exact LeO.refl _)
   | (with_reducible refine LeO.ite ?_ ?_)
set_option maxHeartbeats 8000000 in
set_option maxRecDepth 100000 in
theorem spec_Decimal.calls (k : Nat) (a0 : Int) (r : ByteArray) (w : World) (h : spec_Decimal.f k a0 = some r) :
  Calls Tryz.prog 60 #[.int .i64 a0] w fun e w' => e = .returned (.string r) ∧ Below w.heap.size w w' := by
 have HB := mk_ (Below.refl w.heap.size w)
 have H : (if a0 = 0 then (some (⟨#[48]⟩ : ByteArray)) else (spec_Decimal.l0 k a0 (decide (a0 < 0)) (⟨#[]⟩ : ByteArray))) = some r := h
 clear h
 by_cases c2 : a0 = 0
 ·rw [if_pos c2] at H
  have c2b0 : (a0 == 0) = true := beq_iff_eq.mpr c2
  have c2b1 : (a0 != 0) = false := bne_eq_false_iff_eq.mpr c2
  clear c2
  obtain rfl := Option.some.inj H
  go_enter Tryz.func60, Tryz.ntmps60
  go_wp2
  go_ret
  exact ⟨er_, bw_ HB⟩
 ·rw [if_neg c2] at H
  have c2b0 : (a0 == 0) = false := beq_eq_false_iff_ne.mpr c2
  have c2b1 : (a0 != 0) = true := bne_iff_ne.mpr c2
  have H' := Aside0.mk H
  clear H
  go_enter Tryz.func60, Tryz.ntmps60
  go_wp2
  go_loopg [0, 4] k (fun kq v0 v4 w' => ∃ (x0_1 : Int) (x4_1 : ByteArray), v0 = .int .i64 x0_1 ∧ v4 = .string x4_1 ∧ Aside0 (spec_Decimal.l0 kq x0_1 (decide (a0 < 0)) x4_1 = some r) ∧ Aside0 (kq ≤ k) ∧ Aside0 (Below w.heap.size w w'))
  case atStart => exact ⟨(a0), ((⟨#[]⟩ : ByteArray)), (by first | rfl | (simp; done) | (simp [*]; done)), (by first | rfl | (simp; done) | (simp [*]; done)), H', ⟨Nat.le_refl _⟩, ⟨bw_ HB⟩⟩
  case round =>
   clear H'
   try clear c2
   try clear c2b0
   try clear c2b1
   try clear p2
   obtain ⟨x0_1, x4_1, rfl, rfl, HA, HK1, HB⟩ := hrel
   cases gk with
   | zero => exact absurd HA.out (by simp [spec_Decimal.l0])
   | succ k1 =>
    have H := HA.out
    clear HA
    simp only [spec_Decimal.l0] at H
    by_cases c3 : x0_1 = 0
    ·rw [if_pos c3] at H
     have c3b0 : (x0_1 == 0) = true := beq_iff_eq.mpr c3
     have c3b1 : (x0_1 != 0) = false := bne_eq_false_iff_eq.mpr c3
     clear c3
     by_cases c4 : (decide (a0 < 0)) = true
     ·rw [if_pos c4] at H
      have c4b0 : (decide (a0 < 0)) = true := c4
      have c4z : a0 < 0 := of_decide_eq_true c4b0
      clear c4
      by_cases c5 : 1 + x4_1.size ≤ 9223372036854775807
      ·rw [if_pos c5] at H
       have c5b0 := eq_true c5
       have c5b1 : decide (1 + x4_1.size ≤ 9223372036854775807) = true := decide_eq_true c5
       try have c5b2 : (9223372036854775807 < 1 + x4_1.size) = False := eq_false (Nat.not_lt.2 c5)
       obtain rfl := Option.some.inj H
       go_wp2
       go_ret
       exact ⟨er_, bw_ HB⟩
      ·rw [if_neg c5] at H
       exact absurd H (by simp)
     ·rw [if_neg c4] at H
      have c4b0 : (decide (a0 < 0)) = false := by simpa using c4
      have c4z : 0 ≤ a0 := Int.not_lt.1 (of_decide_eq_false c4b0)
      clear c4
      obtain rfl := Option.some.inj H
      go_wp2
      go_ret
      exact ⟨er_, bw_ HB⟩
    ·rw [if_neg c3] at H
     have c3b0 : (x0_1 == 0) = false := beq_eq_false_iff_ne.mpr c3
     have c3b1 : (x0_1 != 0) = true := bne_iff_ne.mpr c3
     by_cases c6 : (Int.tmod x0_1 10) < 0
     ·rw [if_pos c6] at H
      have c6b0 : decide ((Int.tmod x0_1 10) < 0) = true := decide_eq_true c6
      clear c6
      replace H := Option.bind_eq_some_iff.mp H
      obtain ⟨t168, A70, H⟩ := H
      replace H : ((some (([t168] : List Int) : List Int)).bind fun y169 => (if (strOfNums y169).size + x4_1.size ≤ 9223372036854775807 then (spec_Decimal.l0 k1 (wrap64 (Int.tdiv x0_1 10)) (decide (a0 < 0)) ((strOfNums y169) ++ x4_1)) else (none))) = some r := H
      have A7 := Aside0.mk A70
      clear A70
      obtain ⟨y169, hy169⟩ : ∃ y_ : List Int, y_ = (([t168] : List Int)) := ⟨_, rfl⟩
      replace H : (if (strOfNums y169).size + x4_1.size ≤ 9223372036854775807 then (spec_Decimal.l0 k1 (wrap64 (Int.tdiv x0_1 10)) (decide (a0 < 0)) ((strOfNums y169) ++ x4_1)) else (none)) = some r := by first | (rw [hy169]; with_reducible exact H) | (have H2_ := (Option.bind_some _ _).symm.trans H; rw [hy169]; with_reducible exact H2_) | (have H2_ := (Option.bind_some _ _).symm.trans H; with_reducible exact H2_) | with_reducible exact H | (rw [hy169]; exact H) | exact H
      have Ny169 := Aside0.mk hy169
      clear hy169
      by_cases c8 : (strOfNums y169).size + x4_1.size ≤ 9223372036854775807
      ·rw [if_pos c8] at H
       have c8b0 := eq_true c8
       have c8b1 : decide ((strOfNums y169).size + x4_1.size ≤ 9223372036854775807) = true := decide_eq_true c8
       try have c8b2 : (9223372036854775807 < (strOfNums y169).size + x4_1.size) = False := eq_false (Nat.not_lt.2 c8)
       have H' := Aside0.mk H
       clear H
       go_wp2_with (first | ((with_reducible refine gate_callee (f := 95) rfl ?_); refine goesL_ (some 19) rfl rfl Tryz.func95 (by kernel_rfl) rfl #[.int .i64 (wrap64 (-(Int.tmod x0_1 10)))] rfl ga_ ?_; (with_reducible refine (spec_l01Figure.calls (wrap64 (-(Int.tmod x0_1 10))) t168 _ A7.out).mono ?_); rintro e w' ⟨rfl, ⟨nd, rfl⟩⟩; refine ⟨_, rfl, ?_⟩) | ((with_reducible refine gate_dst (N := 20) rfl ?_); refine Kd.R_lit (Kd.int .u8) _ 5 ?hg (N := 20) ?hd (xs := ([t168] : List Int)) (inner := [.int .u8 t168]) (ok := fun _ => True) (okp := fun _ => True) ?hr ?hp (fun _ hk => hk) trivial (Below.refl _ _) (Nat.le_refl _) (by simp) ?_; (case hd => rfl); (case hg => rfl); (case hr => first | (go_simp; done) | (go_simp; rfl)); (case hp => exact (Reps.one (show Kd.M (Kd.int .u8) _ _ _ t168 [.int .u8 t168] from rfl) (Reps.none _ _))); intro v170 w9 ho10 hb hg_ hnew_; clear hg_ hnew_; (first | rw [← Ny169.out] at ho10 | (simp only [Int.reduceToNat] at ho10; rw [← Ny169.out] at ho10)); have HO171 := mk_ (Kd.R_lower ho10 (below_size (bw_ HB))); replace HB := bs_ HB hb; clear hb ho10; have hcv11 := own_string (P := Tryz.prog) Tryz.underlying107 Tryz.underlying5 Tryz.underlying9 (Kd.own_of_R HO171.out)))
       go_roundg k1
       case measure => have := HK1.out; omega
       case rel => exact ⟨(wrap64 (Int.tdiv x0_1 10)), ((strOfNums y169) ++ x4_1), (by first | rfl | (simp; done) | (simp [*]; done)), (by first | rfl | (simp; done) | (simp [*]; done)), H', ⟨by have := HK1.out; omega⟩, ⟨bw_ HB⟩⟩
      ·rw [if_neg c8] at H
       exact absurd H (by simp)
     ·rw [if_neg c6] at H
      have c6b0 : decide ((Int.tmod x0_1 10) < 0) = false := decide_eq_false c6
      clear c6
      replace H := Option.bind_eq_some_iff.mp H
      obtain ⟨t172, A120, H⟩ := H
      replace H : ((some (([t172] : List Int) : List Int)).bind fun y173 => (if (strOfNums y173).size + x4_1.size ≤ 9223372036854775807 then (spec_Decimal.l0 k1 (wrap64 (Int.tdiv x0_1 10)) (decide (a0 < 0)) ((strOfNums y173) ++ x4_1)) else (none))) = some r := H
      have A12 := Aside0.mk A120
      clear A120
      obtain ⟨y173, hy173⟩ : ∃ y_ : List Int, y_ = (([t172] : List Int)) := ⟨_, rfl⟩
      replace H : (if (strOfNums y173).size + x4_1.size ≤ 9223372036854775807 then (spec_Decimal.l0 k1 (wrap64 (Int.tdiv x0_1 10)) (decide (a0 < 0)) ((strOfNums y173) ++ x4_1)) else (none)) = some r := by first | (rw [hy173]; with_reducible exact H) | (have H2_ := (Option.bind_some _ _).symm.trans H; rw [hy173]; with_reducible exact H2_) | (have H2_ := (Option.bind_some _ _).symm.trans H; with_reducible exact H2_) | with_reducible exact H | (rw [hy173]; exact H) | exact H
      have Ny173 := Aside0.mk hy173
      clear hy173
      by_cases c13 : (strOfNums y173).size + x4_1.size ≤ 9223372036854775807
      ·rw [if_pos c13] at H
       have c13b0 := eq_true c13
       have c13b1 : decide ((strOfNums y173).size + x4_1.size ≤ 9223372036854775807) = true := decide_eq_true c13
       try have c13b2 : (9223372036854775807 < (strOfNums y173).size + x4_1.size) = False := eq_false (Nat.not_lt.2 c13)
       have H' := Aside0.mk H
       clear H
       go_wp2_with (first | ((with_reducible refine gate_callee (f := 95) rfl ?_); refine goesL_ (some 19) rfl rfl Tryz.func95 (by kernel_rfl) rfl #[.int .i64 (Int.tmod x0_1 10)] rfl ga_ ?_; (with_reducible refine (spec_l01Figure.calls (Int.tmod x0_1 10) t172 _ A12.out).mono ?_); rintro e w' ⟨rfl, ⟨nd, rfl⟩⟩; refine ⟨_, rfl, ?_⟩) | ((with_reducible refine gate_dst (N := 20) rfl ?_); refine Kd.R_lit (Kd.int .u8) _ 5 ?hg (N := 20) ?hd (xs := ([t172] : List Int)) (inner := [.int .u8 t172]) (ok := fun _ => True) (okp := fun _ => True) ?hr ?hp (fun _ hk => hk) trivial (Below.refl _ _) (Nat.le_refl _) (by simp) ?_; (case hd => rfl); (case hg => rfl); (case hr => first | (go_simp; done) | (go_simp; rfl)); (case hp => exact (Reps.one (show Kd.M (Kd.int .u8) _ _ _ t172 [.int .u8 t172] from rfl) (Reps.none _ _))); intro v174 w14 ho15 hb hg_ hnew_; clear hg_ hnew_; (first | rw [← Ny173.out] at ho15 | (simp only [Int.reduceToNat] at ho15; rw [← Ny173.out] at ho15)); have HO175 := mk_ (Kd.R_lower ho15 (below_size (bw_ HB))); replace HB := bs_ HB hb; clear hb ho15; have hcv16 := own_string (P := Tryz.prog) Tryz.underlying107 Tryz.underlying5 Tryz.underlying9 (Kd.own_of_R HO175.out)))
       go_roundg k1
       case measure => have := HK1.out; omega
       case rel => exact ⟨(wrap64 (Int.tdiv x0_1 10)), ((strOfNums y173) ++ x4_1), (by first | rfl | (simp; done) | (simp [*]; done)), (by first | rfl | (simp; done) | (simp [*]; done)), H', ⟨by have := HK1.out; omega⟩, ⟨bw_ HB⟩⟩
      ·rw [if_neg c13] at H
       exact absurd H (by simp)

/-! ### spec_ReadDecimal: function 59 -/
def spec_ReadDecimal.l0 : Nat → ByteArray → Int → Int → Option (Int × Bool)
 | 0, _, _, _ => none
 | k + 1, x0, x4, x5 => if x5 < (x0.size : Int) then (if 0 ≤ x5 then (if (bt x0 x5) < 48 then (some (0, false)) else (if (bt x0 x5) > 57 then (some (0, false)) else (spec_ReadDecimal.l0 k x0 (wrap64 ((wrap64 ((wrap64 (10 * x4)) + (wrap64 (bt x0 x5)))) - 48)) (wrap64 (x5 + 1))))) else (none)) else (if x4 > 1000000000 then (some (0, false)) else ((spec_Decimal.f k x4).bind fun t176 => (if t176.toList = x0.toList then (some (x4, true)) else (some (0, false)))))
def spec_ReadDecimal.f (k : Nat) (a0 : ByteArray) : Option (Int × Bool) := if (a0.size : Int) > 10 then (some (0, false)) else (spec_ReadDecimal.l0 k a0 0 0)
theorem spec_ReadDecimal.mono_l : ∀ k, (∀ y0 y1 y2, LeO (spec_ReadDecimal.l0 k y0 y1 y2) (spec_ReadDecimal.l0 (k + 1) y0 y1 y2))
 | 0 => fun _ _ _ r h => by simp [spec_ReadDecimal.l0] at h
 | k + 1 => by
  have ih0 := spec_ReadDecimal.mono_l k
  ·intro y0 y1 y2
   unfold spec_ReadDecimal.l0
   repeat' first
   | (with_reducible exact ih0 _ _ _)
   | (with_reducible exact spec_Decimal.mono _ _)
   | (with_reducible exact LeO.refl _)
   | (with_reducible refine LeO.ite ?_ ?_)
   | (with_reducible refine LeO.bind ?_ (fun _ => ?_))
theorem spec_ReadDecimal.mono : ∀ a0 k, LeO (spec_ReadDecimal.f k a0) (spec_ReadDecimal.f (k + 1) a0) := by
 intro a0 k
 have ih0 := spec_ReadDecimal.mono_l k
 unfold spec_ReadDecimal.f
 repeat' first
   | (with_reducible exact ih0 _ _ _)
   | (with_reducible exact LeO.refl _)
   | (with_reducible refine LeO.ite ?_ ?_)
set_option maxHeartbeats 8000000 in
set_option maxRecDepth 100000 in
theorem spec_ReadDecimal.calls (k : Nat) (a0 : ByteArray) (r1 : Int) (r2 : Bool) (w : World) (h : spec_ReadDecimal.f k a0 = some (r1, r2)) :
  Calls Tryz.prog 59 #[.string a0] w fun e w' => e = .returned (.tuple #[.int .i64 r1, .bool r2]) ∧ Below w.heap.size w w' := by
 have HB := mk_ (Below.refl w.heap.size w)
 have H : (if (a0.size : Int) > 10 then (some (0, false)) else (spec_ReadDecimal.l0 k a0 0 0)) = some (r1, r2) := h
 clear h
 by_cases c2 : (a0.size : Int) > 10
 ·rw [if_pos c2] at H
  have c2b0 : decide (10 < (a0.size : Int)) = true := decide_eq_true c2
  have c2b1 : decide (10 < a0.size) = true := decide_eq_true (by omega)
  clear c2
  simp only [Option.some.injEq, Prod.mk.injEq] at H
  obtain ⟨rfl, rfl⟩ := H
  go_enter Tryz.func59, Tryz.ntmps59
  go_wp2
  go_ret2
  exact ⟨er_, bw_ HB⟩
 ·rw [if_neg c2] at H
  have c2b0 : decide (10 < (a0.size : Int)) = false := decide_eq_false c2
  have c2b1 : decide (10 < a0.size) = false := decide_eq_false (by omega)
  clear c2
  have H' := Aside0.mk H
  clear H
  go_enter Tryz.func59, Tryz.ntmps59
  go_wp2
  go_loopg [4, 5] k (fun kq v4 v5 w' => ∃ (x4_1 : Int) (x5_1 : Int), v4 = .int .i64 x4_1 ∧ v5 = .int .i64 x5_1 ∧ Aside0 (spec_ReadDecimal.l0 kq a0 x4_1 x5_1 = some (r1, r2)) ∧ Aside0 (kq ≤ k) ∧ Aside0 (Below w.heap.size w w'))
  case atStart => exact ⟨(0), (0), (by first | rfl | (simp; done) | (simp [*]; done)), (by first | rfl | (simp; done) | (simp [*]; done)), H', ⟨Nat.le_refl _⟩, ⟨bw_ HB⟩⟩
  case round =>
   clear H'
   try clear c2
   try clear c2b0
   try clear c2b1
   try clear p2
   obtain ⟨x4_1, x5_1, rfl, rfl, HA, HK1, HB⟩ := hrel
   cases gk with
   | zero => exact absurd HA.out (by simp [spec_ReadDecimal.l0])
   | succ k1 =>
    have H := HA.out
    clear HA
    simp only [spec_ReadDecimal.l0] at H
    by_cases c3 : x5_1 < (a0.size : Int)
    ·rw [if_pos c3] at H
     have c3b0 : decide (x5_1 < (a0.size : Int)) = true := decide_eq_true c3
     clear c3
     by_cases c4 : 0 ≤ x5_1
     ·rw [if_pos c4] at H
      have c4b0 : decide (0 ≤ x5_1) = true := decide_eq_true c4
      clear c4
      by_cases c6 : (bt a0 x5_1) < 48
      ·rw [if_pos c6] at H
       have c6b0 : decide ((bt a0 x5_1) < 48) = true := decide_eq_true c6
       clear c6
       simp only [Option.some.injEq, Prod.mk.injEq] at H
       obtain ⟨rfl, rfl⟩ := H
       have p5 : 0 ≤ (x5_1 : Int) := od_
       have q5 : x5_1 < (a0.size : Int) := od_
       have hx5 := bt_at a0 x5_1
       replace p5 := eq_true p5
       replace q5 := eq_true q5
       go_wp2
       go_ret2
       exact ⟨er_, bw_ HB⟩
      ·rw [if_neg c6] at H
       have c6b0 : decide ((bt a0 x5_1) < 48) = false := decide_eq_false c6
       clear c6
       by_cases c8 : (bt a0 x5_1) > 57
       ·rw [if_pos c8] at H
        have c8b0 : decide (57 < (bt a0 x5_1)) = true := decide_eq_true c8
        clear c8
        simp only [Option.some.injEq, Prod.mk.injEq] at H
        obtain ⟨rfl, rfl⟩ := H
        have p5 : 0 ≤ (x5_1 : Int) := od_
        have q5 : x5_1 < (a0.size : Int) := od_
        have hx5 := bt_at a0 x5_1
        replace p5 := eq_true p5
        replace q5 := eq_true q5
        have p7 : 0 ≤ (x5_1 : Int) := od_
        have q7 : x5_1 < (a0.size : Int) := od_
        have hx7 := bt_at a0 x5_1
        replace p7 := eq_true p7
        replace q7 := eq_true q7
        go_wp2
        go_ret2
        exact ⟨er_, bw_ HB⟩
       ·rw [if_neg c8] at H
        have c8b0 : decide (57 < (bt a0 x5_1)) = false := decide_eq_false c8
        clear c8
        have H' := Aside0.mk H
        clear H
        have p5 : 0 ≤ (x5_1 : Int) := od_
        have q5 : x5_1 < (a0.size : Int) := od_
        have hx5 := bt_at a0 x5_1
        replace p5 := eq_true p5
        replace q5 := eq_true q5
        have p7 : 0 ≤ (x5_1 : Int) := od_
        have q7 : x5_1 < (a0.size : Int) := od_
        have hx7 := bt_at a0 x5_1
        replace p7 := eq_true p7
        replace q7 := eq_true q7
        have p9 : 0 ≤ (x5_1 : Int) := od_
        have q9 : x5_1 < (a0.size : Int) := od_
        have hx9 := bt_at a0 x5_1
        replace p9 := eq_true p9
        replace q9 := eq_true q9
        go_wp2
        go_roundg k1
        case measure => have := HK1.out; omega
        case rel => exact ⟨(wrap64 ((wrap64 ((wrap64 (10 * x4_1)) + (wrap64 (bt a0 x5_1)))) - 48)), (wrap64 (x5_1 + 1)), (by first | rfl | (simp; done) | (simp [*]; done)), (by first | rfl | (simp; done) | (simp [*]; done)), H', ⟨by have := HK1.out; omega⟩, ⟨bw_ HB⟩⟩
     ·rw [if_neg c4] at H
      exact absurd H (by simp)
    ·rw [if_neg c3] at H
     have c3b0 : decide (x5_1 < (a0.size : Int)) = false := decide_eq_false c3
     clear c3
     by_cases c10 : x4_1 > 1000000000
     ·rw [if_pos c10] at H
      have c10b0 : decide (1000000000 < x4_1) = true := decide_eq_true c10
      clear c10
      simp only [Option.some.injEq, Prod.mk.injEq] at H
      obtain ⟨rfl, rfl⟩ := H
      go_wp2
      go_ret2
      exact ⟨er_, bw_ HB⟩
     ·rw [if_neg c10] at H
      have c10b0 : decide (1000000000 < x4_1) = false := decide_eq_false c10
      clear c10
      replace H := Option.bind_eq_some_iff.mp H
      obtain ⟨t176, A110, H⟩ := H
      replace H : (if t176.toList = a0.toList then (some (x4_1, true)) else (some (0, false))) = some (r1, r2) := H
      have A11 := Aside0.mk A110
      clear A110
      by_cases c12 : t176.toList = a0.toList
      ·rw [if_pos c12] at H
       have c12b0 : (t176.toList == a0.toList) = true := beq_iff_eq.mpr c12
       have c12b1 : (t176.toList != a0.toList) = false := bne_eq_false_iff_eq.mpr c12
       clear c12
       simp only [Option.some.injEq, Prod.mk.injEq] at H
       obtain ⟨rfl, rfl⟩ := H
       go_wp2_with (first | (go_at_call 60; (with_reducible refine (spec_Decimal.calls k1 x4_1 t176 _ A11.out).mono ?_); rintro e w13 ⟨rfl, hb⟩; replace HB := bs_ HB hb; (try clear hb)))
       go_ret2
       exact ⟨er_, bw_ HB⟩
      ·rw [if_neg c12] at H
       have c12b0 : (t176.toList == a0.toList) = false := beq_eq_false_iff_ne.mpr c12
       have c12b1 : (t176.toList != a0.toList) = true := bne_iff_ne.mpr c12
       simp only [Option.some.injEq, Prod.mk.injEq] at H
       obtain ⟨rfl, rfl⟩ := H
       go_wp2_with (first | (go_at_call 60; (with_reducible refine (spec_Decimal.calls k1 x4_1 t176 _ A11.out).mono ?_); rintro e w14 ⟨rfl, hb⟩; replace HB := bs_ HB hb; (try clear hb)))
       go_ret2
       exact ⟨er_, bw_ HB⟩

/-! ### spec_SnapName: function 84 -/
def spec_SnapName.f (k : Nat) (a0 : Int) : Option (ByteArray) := (spec_l01In.f a0 0 1000000).bind fun t177 => (if t177 = true then ((spec_Decimal.f k a0).bind fun t178 => (if 1 + t178.size ≤ 9223372036854775807 then (some ((⟨#[115]⟩ : ByteArray) ++ t178)) else (none))) else (some (⟨#[]⟩ : ByteArray)))
theorem spec_SnapName.mono : ∀ a0 k, LeO (spec_SnapName.f k a0) (spec_SnapName.f (k + 1) a0) := by
 intro a0 k
 unfold spec_SnapName.f
 repeat' first
   | (with_reducible exact spec_Decimal.mono _ _)
   | (with_reducible exact LeO.refl _)
   | (with_reducible refine LeO.ite ?_ ?_)
   | (with_reducible refine LeO.bind ?_ (fun _ => ?_))
set_option maxHeartbeats 8000000 in
set_option maxRecDepth 100000 in
theorem spec_SnapName.calls (k : Nat) (a0 : Int) (r : ByteArray) (w : World) (h : spec_SnapName.f k a0 = some r) :
  Calls Tryz.prog 84 #[.int .i64 a0] w fun e w' => e = .returned (.string r) ∧ Below w.heap.size w w' := by
 have HB := mk_ (Below.refl w.heap.size w)
 have H : ((spec_l01In.f a0 0 1000000).bind fun t177 => (if t177 = true then ((spec_Decimal.f k a0).bind fun t178 => (if 1 + t178.size ≤ 9223372036854775807 then (some ((⟨#[115]⟩ : ByteArray) ++ t178)) else (none))) else (some (⟨#[]⟩ : ByteArray)))) = some r := h
 clear h
 replace H := Option.bind_eq_some_iff.mp H
 obtain ⟨t177, A20, H⟩ := H
 replace H : (if t177 = true then ((spec_Decimal.f k a0).bind fun t178 => (if 1 + t178.size ≤ 9223372036854775807 then (some ((⟨#[115]⟩ : ByteArray) ++ t178)) else (none))) else (some (⟨#[]⟩ : ByteArray))) = some r := H
 have A2 := Aside0.mk A20
 clear A20
 by_cases c3 : t177 = true
 ·subst c3
  have H1 : ((spec_Decimal.f k a0).bind fun t178 => (if 1 + t178.size ≤ 9223372036854775807 then (some ((⟨#[115]⟩ : ByteArray) ++ t178)) else (none))) = some r := by rw [if_pos rfl] at H; exact H
  clear H
  have H := H1
  clear H1
  replace H := Option.bind_eq_some_iff.mp H
  obtain ⟨t178, A40, H⟩ := H
  replace H : (if 1 + t178.size ≤ 9223372036854775807 then (some ((⟨#[115]⟩ : ByteArray) ++ t178)) else (none)) = some r := H
  have A4 := Aside0.mk A40
  clear A40
  by_cases c5 : 1 + t178.size ≤ 9223372036854775807
  ·rw [if_pos c5] at H
   have c5b0 := eq_true c5
   have c5b1 : decide (1 + t178.size ≤ 9223372036854775807) = true := decide_eq_true c5
   try have c5b2 : (9223372036854775807 < 1 + t178.size) = False := eq_false (Nat.not_lt.2 c5)
   obtain rfl := Option.some.inj H
   go_enter Tryz.func84, Tryz.ntmps84
   go_wp2_with (first | ((with_reducible refine gate_callee (f := 58) rfl ?_); refine goesL_ (some 4) rfl rfl Tryz.func58 (by kernel_rfl) rfl #[.int .i64 a0, .int .i64 0, .int .i64 1000000] rfl ga_ ?_; (with_reducible refine (spec_l01In.calls a0 0 1000000 true _ A2.out).mono ?_); rintro e w' ⟨rfl, ⟨nd, rfl⟩⟩; refine ⟨_, rfl, ?_⟩) | ((with_reducible refine gate_callee (f := 60) rfl ?_); refine goesL_ (some 7) rfl rfl Tryz.func60 (by kernel_rfl) rfl #[.int .i64 a0] rfl ga_ ?_; (with_reducible refine (spec_Decimal.calls k a0 t178 _ A4.out).mono ?_); rintro e w6 ⟨rfl, hb⟩; refine ⟨_, rfl, ?_⟩; replace HB := bs_ HB hb; (try clear hb)))
   go_ret
   exact ⟨er_, bw_ HB⟩
  ·rw [if_neg c5] at H
   exact absurd H (by simp)
 ·replace c3 := Bool.eq_false_iff.mpr c3
  subst c3
  have H1 : (some (⟨#[]⟩ : ByteArray)) = some r := by rw [if_neg (show ¬ (false = true) by decide)] at H; exact H
  clear H
  have H := H1
  clear H1
  obtain rfl := Option.some.inj H
  go_enter Tryz.func84, Tryz.ntmps84
  go_wp2_with (first | ((with_reducible refine gate_callee (f := 58) rfl ?_); refine goesL_ (some 4) rfl rfl Tryz.func58 (by kernel_rfl) rfl #[.int .i64 a0, .int .i64 0, .int .i64 1000000] rfl ga_ ?_; (with_reducible refine (spec_l01In.calls a0 0 1000000 false _ A2.out).mono ?_); rintro e w' ⟨rfl, ⟨nd, rfl⟩⟩; refine ⟨_, rfl, ?_⟩))
  go_ret
  exact ⟨er_, bw_ HB⟩

/-! ### spec_l08Index: function 48 -/
def spec_l08Index.f (k : Nat) (a0 : ByteArray) : Option (Int) := if (a0.size : Int) < 2 then (some (-1)) else (if 1 ≤ (a0.size : Int) then ((spec_ReadDecimal.f k (a0.extract 1 a0.size)).bind fun bt179 => (if bt179.2 = true then ((spec_SnapName.f k bt179.1).bind fun t181 => (if t181.toList = a0.toList then (some bt179.1) else (some (-1)))) else (some (-1)))) else (none))
theorem spec_l08Index.mono : ∀ a0 k, LeO (spec_l08Index.f k a0) (spec_l08Index.f (k + 1) a0) := by
 intro a0 k
 unfold spec_l08Index.f
 repeat' first
   | (with_reducible exact spec_ReadDecimal.mono _ _)
   | (with_reducible exact spec_SnapName.mono _ _)
   | (with_reducible exact LeO.refl _)
   | (with_reducible refine LeO.ite ?_ ?_)
   | (with_reducible refine LeO.bind ?_ (fun _ => ?_))
set_option maxHeartbeats 8000000 in
set_option maxRecDepth 100000 in
theorem spec_l08Index.calls (k : Nat) (a0 : ByteArray) (r : Int) (w : World) (h : spec_l08Index.f k a0 = some r) :
  Calls Tryz.prog 48 #[.string a0] w fun e w' => e = .returned (.int .i64 r) ∧ Below w.heap.size w w' := by
 have HB := mk_ (Below.refl w.heap.size w)
 have H : (if (a0.size : Int) < 2 then (some (-1)) else (if 1 ≤ (a0.size : Int) then ((spec_ReadDecimal.f k (a0.extract 1 a0.size)).bind fun bt179 => (if bt179.2 = true then ((spec_SnapName.f k bt179.1).bind fun t181 => (if t181.toList = a0.toList then (some bt179.1) else (some (-1)))) else (some (-1)))) else (none))) = some r := h
 clear h
 by_cases c2 : (a0.size : Int) < 2
 ·rw [if_pos c2] at H
  have c2b0 : decide ((a0.size : Int) < 2) = true := decide_eq_true c2
  have c2b1 : decide (a0.size < 2) = true := decide_eq_true (by omega)
  clear c2
  obtain rfl := Option.some.inj H
  go_enter Tryz.func48, Tryz.ntmps48
  go_wp2
  go_ret
  exact ⟨er_, bw_ HB⟩
 ·rw [if_neg c2] at H
  have c2b0 : decide ((a0.size : Int) < 2) = false := decide_eq_false c2
  have c2b1 : decide (a0.size < 2) = false := decide_eq_false (by omega)
  clear c2
  by_cases c3 : 1 ≤ (a0.size : Int)
  ·rw [if_pos c3] at H
   have c3b0 := eq_true c3
   have c3b1 : decide (1 ≤ (a0.size : Int)) = true := decide_eq_true c3
   clear c3
   replace H := Option.bind_eq_some_iff.mp H
   obtain ⟨⟨t179, t180⟩, A40, H⟩ := H
   replace H : (if t180 = true then ((spec_SnapName.f k t179).bind fun t181 => (if t181.toList = a0.toList then (some t179) else (some (-1)))) else (some (-1))) = some r := H
   have A4 := Aside0.mk A40
   clear A40
   by_cases c5 : t180 = true
   ·subst c5
    have H1 : ((spec_SnapName.f k t179).bind fun t181 => (if t181.toList = a0.toList then (some t179) else (some (-1)))) = some r := by rw [if_pos rfl] at H; exact H
    clear H
    have H := H1
    clear H1
    replace H := Option.bind_eq_some_iff.mp H
    obtain ⟨t181, A60, H⟩ := H
    replace H : (if t181.toList = a0.toList then (some t179) else (some (-1))) = some r := H
    have A6 := Aside0.mk A60
    clear A60
    by_cases c7 : t181.toList = a0.toList
    ·rw [if_pos c7] at H
     have c7b0 : (t181.toList == a0.toList) = true := beq_iff_eq.mpr c7
     have c7b1 : (t181.toList != a0.toList) = false := bne_eq_false_iff_eq.mpr c7
     clear c7
     obtain rfl := Option.some.inj H
     go_enter Tryz.func48, Tryz.ntmps48
     go_wp2_with (first | ((with_reducible refine gate_callee (f := 59) rfl ?_); refine goesL_ (some 11) rfl rfl Tryz.func59 (by kernel_rfl) rfl #[.string (a0.extract 1 a0.size)] rfl ga_ ?_; (with_reducible refine (spec_ReadDecimal.calls k (a0.extract 1 a0.size) t179 true _ A4.out).mono ?_); rintro e w8 ⟨rfl, hb⟩; refine ⟨_, rfl, ?_⟩; replace HB := bs_ HB hb; (try clear hb)) | (go_at_call 84; (with_reducible refine (spec_SnapName.calls k t179 t181 _ A6.out).mono ?_); rintro e w9 ⟨rfl, hb⟩; replace HB := bs_ HB hb; (try clear hb)))
     go_ret
     exact ⟨er_, bw_ HB⟩
    ·rw [if_neg c7] at H
     have c7b0 : (t181.toList == a0.toList) = false := beq_eq_false_iff_ne.mpr c7
     have c7b1 : (t181.toList != a0.toList) = true := bne_iff_ne.mpr c7
     obtain rfl := Option.some.inj H
     go_enter Tryz.func48, Tryz.ntmps48
     go_wp2_with (first | ((with_reducible refine gate_callee (f := 59) rfl ?_); refine goesL_ (some 11) rfl rfl Tryz.func59 (by kernel_rfl) rfl #[.string (a0.extract 1 a0.size)] rfl ga_ ?_; (with_reducible refine (spec_ReadDecimal.calls k (a0.extract 1 a0.size) t179 true _ A4.out).mono ?_); rintro e w10 ⟨rfl, hb⟩; refine ⟨_, rfl, ?_⟩; replace HB := bs_ HB hb; (try clear hb)) | (go_at_call 84; (with_reducible refine (spec_SnapName.calls k t179 t181 _ A6.out).mono ?_); rintro e w11 ⟨rfl, hb⟩; replace HB := bs_ HB hb; (try clear hb)))
     go_ret
     exact ⟨er_, bw_ HB⟩
   ·replace c5 := Bool.eq_false_iff.mpr c5
    subst c5
    have H1 : (some (-1)) = some r := by rw [if_neg (show ¬ (false = true) by decide)] at H; exact H
    clear H
    have H := H1
    clear H1
    obtain rfl := Option.some.inj H
    go_enter Tryz.func48, Tryz.ntmps48
    go_wp2_with (first | ((with_reducible refine gate_callee (f := 59) rfl ?_); refine goesL_ (some 11) rfl rfl Tryz.func59 (by kernel_rfl) rfl #[.string (a0.extract 1 a0.size)] rfl ga_ ?_; (with_reducible refine (spec_ReadDecimal.calls k (a0.extract 1 a0.size) t179 false _ A4.out).mono ?_); rintro e w12 ⟨rfl, hb⟩; refine ⟨_, rfl, ?_⟩; replace HB := bs_ HB hb; (try clear hb)))
    go_ret
    exact ⟨er_, bw_ HB⟩
  ·rw [if_neg c3] at H
   exact absurd H (by simp)

/-! ### spec_l02Four: function 102 -/
def spec_l02Four.f (a0 : Int) : Option (ByteArray) := some (strOfNums (([(a0 / 16777216) % 256, (a0 / 65536) % 256, (a0 / 256) % 256, (a0) % 256] : List Int)))
set_option maxHeartbeats 8000000 in
set_option maxRecDepth 100000 in
theorem spec_l02Four.calls (a0 : Int) (r : ByteArray) (w : World) (h : spec_l02Four.f a0 = some r) :
  Calls Tryz.prog 102 #[.int .u32 a0] w fun e w' => e = .returned (.string r) ∧ Below w.heap.size w w' := by
 have HB := mk_ (Below.refl w.heap.size w)
 have H : (some (strOfNums (([(a0 / 16777216) % 256, (a0 / 65536) % 256, (a0 / 256) % 256, (a0) % 256] : List Int)))) = some r := h
 clear h
 obtain ⟨y182, hy182⟩ : ∃ y_ : List Int, y_ = (([(a0 / 16777216) % 256, (a0 / 65536) % 256, (a0 / 256) % 256, (a0) % 256] : List Int)) := ⟨_, rfl⟩
 replace H : (some (strOfNums y182)) = some r := by first | (rw [hy182]; with_reducible exact H) | (have H2_ := (Option.bind_some _ _).symm.trans H; rw [hy182]; with_reducible exact H2_) | (have H2_ := (Option.bind_some _ _).symm.trans H; with_reducible exact H2_) | with_reducible exact H | (rw [hy182]; exact H) | exact H
 have Ny182 := Aside0.mk hy182
 clear hy182
 obtain rfl := Option.some.inj H
 go_enter Tryz.func102, Tryz.ntmps102
 go_wp2_with (first | ((with_reducible refine gate_dst (N := 14) rfl ?_); refine Kd.R_lit (Kd.int .u8) _ 5 ?hg (N := 14) ?hd (xs := ([(a0 / 16777216) % 256, (a0 / 65536) % 256, (a0 / 256) % 256, (a0) % 256] : List Int)) (inner := [.int .u8 ((a0 / 16777216) % 256), .int .u8 ((a0 / 65536) % 256), .int .u8 ((a0 / 256) % 256), .int .u8 ((a0) % 256)]) (ok := fun _ => True) (okp := fun _ => True) ?hr ?hp (fun _ hk => hk) trivial (Below.refl _ _) (Nat.le_refl _) (by simp) ?_; (case hd => rfl); (case hg => rfl); (case hr => first | (go_simp; done) | (go_simp; rfl)); (case hp => exact (Reps.one (show Kd.M (Kd.int .u8) _ _ _ ((a0 / 16777216) % 256) [.int .u8 ((a0 / 16777216) % 256)] from rfl) (Reps.one (show Kd.M (Kd.int .u8) _ _ _ ((a0 / 65536) % 256) [.int .u8 ((a0 / 65536) % 256)] from rfl) (Reps.one (show Kd.M (Kd.int .u8) _ _ _ ((a0 / 256) % 256) [.int .u8 ((a0 / 256) % 256)] from rfl) (Reps.one (show Kd.M (Kd.int .u8) _ _ _ ((a0) % 256) [.int .u8 ((a0) % 256)] from rfl) (Reps.none _ _)))))); intro v183 w2 ho3 hb hg_ hnew_; clear hg_ hnew_; (first | rw [← Ny182.out] at ho3 | (simp only [Int.reduceToNat] at ho3; rw [← Ny182.out] at ho3)); have HO184 := mk_ (Kd.R_lower ho3 (below_size (bw_ HB))); replace HB := bs_ HB hb; clear hb ho3; have hcv4 := own_string (P := Tryz.prog) Tryz.underlying107 Tryz.underlying5 Tryz.underlying9 (Kd.own_of_R HO184.out)))
 go_ret
 exact ⟨er_, bw_ HB⟩

end Go.Proofs.YtgnmlgoadkhceaaGreatDoor.QFnExactShedActs
