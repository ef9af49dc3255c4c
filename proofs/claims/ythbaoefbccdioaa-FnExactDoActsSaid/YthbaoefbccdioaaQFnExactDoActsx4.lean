/- Written by this session's own program (wip/tpl/pp.py): what the law's functions come to, and that the machine's calls do just that. -/
import Derived.Test.YthbaoefbccdioaaQFnExactDoActsx0
namespace Go.Proofs.Ythbaoefbccdioaa.QFnExactDoActs
open Go.RowKit Go.Proofs.YthbaoefbccdioaaW.PrintWords Go.Proofs.YthbaoefbccdioaaW.PrintLast Go.Proofs.YthbaoefbccdioaaW.PrintMore
attribute [local go_sem] Go.Proofs.Ythbaoefbccdioaa.Sem.string_geq Go.Proofs.Ythbaoefbccdioaa.Sem.string_leq Go.Proofs.Ythbaoefbccdioaa.Sem.string_gtr
attribute [local go_sem] max2_int min2_int max_two min_two max_three min_three max_four min_four   -- for this text's walks alone
set_option linter.unusedVariables false
set_option linter.unusedSimpArgs false

/-! ### laws_szAct: function 9 -/
def laws_szAct.f (a0_0 : Int) (a0_1 : ByteArray) (a0_2 : ByteArray) (a0_3 : ByteArray) (a1 : Int) : Option (Int) := if (wrap64 (a1 - (a0_1.size : Int))) < 0 then (some (-1)) else (if (wrap64 ((wrap64 (a1 - (a0_1.size : Int))) - (a0_2.size : Int))) < 0 then (some (-1)) else (if (wrap64 ((wrap64 ((wrap64 (a1 - (a0_1.size : Int))) - (a0_2.size : Int))) - (a0_3.size : Int))) < 0 then (some (-1)) else (some (wrap64 ((wrap64 ((wrap64 (a1 - (a0_1.size : Int))) - (a0_2.size : Int))) - (a0_3.size : Int))))))
set_option maxHeartbeats 8000000 in
set_option maxRecDepth 100000 in
theorem laws_szAct.calls (a0_0 : Int) (a0_1 : ByteArray) (a0_2 : ByteArray) (a0_3 : ByteArray) (a1 : Int) (r : Int) (w : World) (h : laws_szAct.f a0_0 a0_1 a0_2 a0_3 a1 = some r) :
  Calls Try.prog 9 #[.agg #[.int .i64 a0_0, .string a0_1, .string a0_2, .string a0_3], .int .i64 a1] w fun e w' => e = .returned (.int .i64 r) ∧ Below w.heap.size w w' := by
 have hu26 := Try.underlying26
 have HB := mk_ (Below.refl w.heap.size w)
 have H : (if (wrap64 (a1 - (a0_1.size : Int))) < 0 then (some (-1)) else (if (wrap64 ((wrap64 (a1 - (a0_1.size : Int))) - (a0_2.size : Int))) < 0 then (some (-1)) else (if (wrap64 ((wrap64 ((wrap64 (a1 - (a0_1.size : Int))) - (a0_2.size : Int))) - (a0_3.size : Int))) < 0 then (some (-1)) else (some (wrap64 ((wrap64 ((wrap64 (a1 - (a0_1.size : Int))) - (a0_2.size : Int))) - (a0_3.size : Int))))))) = some r := h
 clear h
 by_cases c3 : (wrap64 (a1 - (a0_1.size : Int))) < 0
 ·rw [if_pos c3] at H
  have c3b0 : decide ((wrap64 (a1 - (a0_1.size : Int))) < 0) = true := decide_eq_true c3
  clear c3
  obtain rfl := Option.some.inj H
  go_enter Try.func9, Try.ntmps9
  go_wp2_with (first | ((with_reducible refine gate_dst (N := 2) rfl ?_); refine bx_ (N := 2) (cs := #[.int .i64 a0_0, .string a0_1, .string a0_2, .string a0_3]) (t := 26) ?_; intro gb149 hg w4 hbox hb; have BK149 := mk_ (hbox); have GW149 : Aside0 (w.heap.size ≤ gb149) := bz_ hg; have GE149 := GW149; replace HB := bs_ HB hb; clear hb hbox hg; obtain ⟨hcz5_0, hcz5_1, hcz5_2, hcz5_3, hfz5_0, hfz5_1, hfz5_2, hfz5_3⟩ := b4_ BK149))
  go_ret
  exact ⟨er_, bw_ HB⟩
 ·rw [if_neg c3] at H
  have c3b0 : decide ((wrap64 (a1 - (a0_1.size : Int))) < 0) = false := decide_eq_false c3
  clear c3
  by_cases c6 : (wrap64 ((wrap64 (a1 - (a0_1.size : Int))) - (a0_2.size : Int))) < 0
  ·rw [if_pos c6] at H
   have c6b0 : decide ((wrap64 ((wrap64 (a1 - (a0_1.size : Int))) - (a0_2.size : Int))) < 0) = true := decide_eq_true c6
   clear c6
   obtain rfl := Option.some.inj H
   go_enter Try.func9, Try.ntmps9
   go_wp2_with (first | ((with_reducible refine gate_dst (N := 2) rfl ?_); refine bx_ (N := 2) (cs := #[.int .i64 a0_0, .string a0_1, .string a0_2, .string a0_3]) (t := 26) ?_; intro gb149 hg w7 hbox hb; have BK149 := mk_ (hbox); have GW149 : Aside0 (w.heap.size ≤ gb149) := bz_ hg; have GE149 := GW149; replace HB := bs_ HB hb; clear hb hbox hg; obtain ⟨hcz8_0, hcz8_1, hcz8_2, hcz8_3, hfz8_0, hfz8_1, hfz8_2, hfz8_3⟩ := b4_ BK149))
   go_ret
   exact ⟨er_, bw_ HB⟩
  ·rw [if_neg c6] at H
   have c6b0 : decide ((wrap64 ((wrap64 (a1 - (a0_1.size : Int))) - (a0_2.size : Int))) < 0) = false := decide_eq_false c6
   clear c6
   by_cases c9 : (wrap64 ((wrap64 ((wrap64 (a1 - (a0_1.size : Int))) - (a0_2.size : Int))) - (a0_3.size : Int))) < 0
   ·rw [if_pos c9] at H
    have c9b0 : decide ((wrap64 ((wrap64 ((wrap64 (a1 - (a0_1.size : Int))) - (a0_2.size : Int))) - (a0_3.size : Int))) < 0) = true := decide_eq_true c9
    clear c9
    obtain rfl := Option.some.inj H
    go_enter Try.func9, Try.ntmps9
    go_wp2_with (first | ((with_reducible refine gate_dst (N := 2) rfl ?_); refine bx_ (N := 2) (cs := #[.int .i64 a0_0, .string a0_1, .string a0_2, .string a0_3]) (t := 26) ?_; intro gb149 hg w10 hbox hb; have BK149 := mk_ (hbox); have GW149 : Aside0 (w.heap.size ≤ gb149) := bz_ hg; have GE149 := GW149; replace HB := bs_ HB hb; clear hb hbox hg; obtain ⟨hcz11_0, hcz11_1, hcz11_2, hcz11_3, hfz11_0, hfz11_1, hfz11_2, hfz11_3⟩ := b4_ BK149))
    go_ret
    exact ⟨er_, bw_ HB⟩
   ·rw [if_neg c9] at H
    have c9b0 : decide ((wrap64 ((wrap64 ((wrap64 (a1 - (a0_1.size : Int))) - (a0_2.size : Int))) - (a0_3.size : Int))) < 0) = false := decide_eq_false c9
    clear c9
    obtain rfl := Option.some.inj H
    go_enter Try.func9, Try.ntmps9
    go_wp2_with (first | ((with_reducible refine gate_dst (N := 2) rfl ?_); refine bx_ (N := 2) (cs := #[.int .i64 a0_0, .string a0_1, .string a0_2, .string a0_3]) (t := 26) ?_; intro gb149 hg w12 hbox hb; have BK149 := mk_ (hbox); have GW149 : Aside0 (w.heap.size ≤ gb149) := bz_ hg; have GE149 := GW149; replace HB := bs_ HB hb; clear hb hbox hg; obtain ⟨hcz13_0, hcz13_1, hcz13_2, hcz13_3, hfz13_0, hfz13_1, hfz13_2, hfz13_3⟩ := b4_ BK149))
    go_ret
    exact ⟨er_, bw_ HB⟩

/-! ### laws_szActS: function 17 -/
def laws_szActS.l0 : Nat → List (S26) → Int → Int → Option (Int)
 | 0, _, _, _ => none
 | k + 1, x0, x1, x5 => if x5 < (x0.length : Int) then (if 0 ≤ x5 then ((laws_szAct.f ((rd_T26 x0 x5).f0) ((rd_T26 x0 x5).f1) ((rd_T26 x0 x5).f2) ((rd_T26 x0 x5).f3) x1).bind fun t151 => (if t151 < 0 then (some (-1)) else (laws_szActS.l0 k x0 t151 (wrap64 (x5 + 1))))) else (none)) else (some x1)
def laws_szActS.f (k : Nat) (l0 : List (S26)) (a1 : Int) : Option (Int) := if (wrap64 (a1 - (l0.length : Int))) < 0 then (some (-1)) else (laws_szActS.l0 k l0 (wrap64 (a1 - (l0.length : Int))) 0)
theorem laws_szActS.mono_l : ∀ k, (∀ y0 y1 y2, LeO (laws_szActS.l0 k y0 y1 y2) (laws_szActS.l0 (k + 1) y0 y1 y2))
 | 0 => fun _ _ _ r h => by simp [laws_szActS.l0] at h
 | k + 1 => by
  have ih0 := laws_szActS.mono_l k
  ·intro y0 y1 y2
   unfold laws_szActS.l0
   repeat' first
   | (with_reducible exact ih0 _ _ _)
   | (with_reducible exact LeO.refl _)
   | (with_reducible exact LeO.none _)
   | (with_reducible refine LeO.ite ?_ ?_)
   | (with_reducible refine LeO.bind ?_ (fun _ => ?_))
   | exact ih0 _ _ _
   | exact LeO.none _
   | refine LeO.ite ?_ ?_
   | refine LeO.bind ?_ (fun _ => ?_)
theorem laws_szActS.mono : ∀ a0 a1 k, LeO (laws_szActS.f k a0 a1) (laws_szActS.f (k + 1) a0 a1) := by
 intro a0 a1 k
 have ih0 := laws_szActS.mono_l k
 unfold laws_szActS.f
 repeat' first
   | (with_reducible exact ih0 _ _ _)
   | (with_reducible exact LeO.refl _)
   | (with_reducible exact LeO.none _)
   | (with_reducible refine LeO.ite ?_ ?_)
   | (with_reducible refine LeO.bind ?_ (fun _ => ?_))
   | exact ih0 _ _ _
   | exact LeO.none _
   | refine LeO.ite ?_ ?_
   | refine LeO.bind ?_ (fun _ => ?_)
set_option maxHeartbeats 8000000 in
set_option maxRecDepth 100000 in
theorem laws_szActS.calls (k : Nat) (A0 : Option Addr) (c0 : Nat) (l0 : List (S26)) (a1 : Int) (r : Int) (w : World) (hr0 : Kd.C k26 w A0 l0.length l0) (hc0 : l0.length ≤ c0) (h : laws_szActS.f k l0 a1 = some r) :
  Calls Try.prog 17 #[.slice A0 l0.length c0, .int .i64 a1] w fun e w' => e = .returned (.int .i64 r) ∧ Below w.heap.size w w' := by
 have hu26 := Try.underlying26
 have HR0 := Aside0.mk hr0
 have HC0 := Aside0.mk hc0
 clear hr0 hc0
 have HB := mk_ (Below.refl w.heap.size w)
 have H : (if (wrap64 (a1 - (l0.length : Int))) < 0 then (some (-1)) else (laws_szActS.l0 k l0 (wrap64 (a1 - (l0.length : Int))) 0)) = some r := h
 clear h
 by_cases c3 : (wrap64 (a1 - (l0.length : Int))) < 0
 ·rw [if_pos c3] at H
  have c3b0 : decide ((wrap64 (a1 - (l0.length : Int))) < 0) = true := decide_eq_true c3
  clear c3
  obtain rfl := Option.some.inj H
  go_enter Try.func17, Try.ntmps17
  go_wp2
  go_ret
  exact ⟨er_, bw_ HB⟩
 ·rw [if_neg c3] at H
  have c3b0 : decide ((wrap64 (a1 - (l0.length : Int))) < 0) = false := decide_eq_false c3
  clear c3
  have H' := Aside0.mk H
  clear H
  go_enter Try.func17, Try.ntmps17
  go_wp2
  go_loopg [1, 5] k (fun kq v1 v5 w' => ∃ (x1_1 : Int) (x5_1 : Int), v1 = .int .i64 x1_1 ∧ v5 = .int .i64 x5_1 ∧ Aside0 (laws_szActS.l0 kq l0 x1_1 x5_1 = some r) ∧ Aside0 (kq ≤ k) ∧ Aside0 (Below w.heap.size w w'))
  case atStart => exact ⟨(wrap64 (a1 - (l0.length : Int))), (0), (by first | rfl | (simp; done) | (simp [*]; done)), (by first | rfl | (simp; done) | (simp [*]; done)), H', ⟨Nat.le_refl _⟩, ⟨bw_ HB⟩⟩
  case round =>
   clear H'
   try clear c1
   try clear p2
   try clear c3
   try clear c3b0
   obtain ⟨x1_1, x5_1, rfl, rfl, HA, HK1, HB⟩ := hrel
   cases gk with
   | zero => exact absurd HA.out (by simp [laws_szActS.l0])
   | succ k1 =>
    have H := HA.out
    clear HA
    simp only [laws_szActS.l0] at H
    by_cases c4 : x5_1 < (l0.length : Int)
    ·rw [if_pos c4] at H
     have c4b0 : decide (x5_1 < (l0.length : Int)) = true := decide_eq_true c4
     clear c4
     by_cases c5 : 0 ≤ x5_1
     ·rw [if_pos c5] at H
      have c5b0 : decide (0 ≤ x5_1) = true := decide_eq_true c5
      clear c5
      replace H := Option.bind_eq_some_iff.mp H
      obtain ⟨t151, A60, H⟩ := H
      replace H : (if t151 < 0 then (some (-1)) else (laws_szActS.l0 k1 l0 t151 (wrap64 (x5_1 + 1)))) = some r := H
      have A6 := Aside0.mk A60
      clear A60
      by_cases c7 : t151 < 0
      ·rw [if_pos c7] at H
       have c7b0 : decide (t151 < 0) = true := decide_eq_true c7
       clear c7
       obtain rfl := Option.some.inj H
       have p150 : 0 ≤ (x5_1 : Int) := od_
       have q150 : x5_1 < (l0.length : Int) := od_
       obtain ⟨ad150, e150, hx150_0, hx150_1, hx150_2, hx150_3⟩ := at_T26 HR0.out x5_1 p150 q150
       cases e150
       replace hx150_0 := hc_ HB hx150_0
       replace hx150_1 := hc_ HB hx150_1
       replace hx150_2 := hc_ HB hx150_2
       replace hx150_3 := hc_ HB hx150_3
       replace p150 := eq_true p150
       replace q150 := eq_true q150
       go_wp2_with (first | ((with_reducible refine gate_callee (f := 9) rfl ?_); refine goesL_ (some 23) rfl rfl Try.func9 (by kernel_rfl) rfl #[.agg #[.int .i64 ((rd_T26 l0 x5_1).f0), .string ((rd_T26 l0 x5_1).f1), .string ((rd_T26 l0 x5_1).f2), .string ((rd_T26 l0 x5_1).f3)], .int .i64 x1_1] rfl ga_ ?_; (with_reducible refine (laws_szAct.calls ((rd_T26 l0 x5_1).f0) ((rd_T26 l0 x5_1).f1) ((rd_T26 l0 x5_1).f2) ((rd_T26 l0 x5_1).f3) x1_1 t151 _ A6.out).mono ?_); rintro e w8 ⟨rfl, hb⟩; refine ⟨_, rfl, ?_⟩; replace HB := bs_ HB hb; (try clear hb)))
       go_ret
       exact ⟨er_, bw_ HB⟩
      ·rw [if_neg c7] at H
       have c7b0 : decide (t151 < 0) = false := decide_eq_false c7
       clear c7
       have H' := Aside0.mk H
       clear H
       have p150 : 0 ≤ (x5_1 : Int) := od_
       have q150 : x5_1 < (l0.length : Int) := od_
       obtain ⟨ad150, e150, hx150_0, hx150_1, hx150_2, hx150_3⟩ := at_T26 HR0.out x5_1 p150 q150
       cases e150
       replace hx150_0 := hc_ HB hx150_0
       replace hx150_1 := hc_ HB hx150_1
       replace hx150_2 := hc_ HB hx150_2
       replace hx150_3 := hc_ HB hx150_3
       replace p150 := eq_true p150
       replace q150 := eq_true q150
       go_wp2_with (first | ((with_reducible refine gate_callee (f := 9) rfl ?_); refine goesL_ (some 23) rfl rfl Try.func9 (by kernel_rfl) rfl #[.agg #[.int .i64 ((rd_T26 l0 x5_1).f0), .string ((rd_T26 l0 x5_1).f1), .string ((rd_T26 l0 x5_1).f2), .string ((rd_T26 l0 x5_1).f3)], .int .i64 x1_1] rfl ga_ ?_; (with_reducible refine (laws_szAct.calls ((rd_T26 l0 x5_1).f0) ((rd_T26 l0 x5_1).f1) ((rd_T26 l0 x5_1).f2) ((rd_T26 l0 x5_1).f3) x1_1 t151 _ A6.out).mono ?_); rintro e w9 ⟨rfl, hb⟩; refine ⟨_, rfl, ?_⟩; replace HB := bs_ HB hb; (try clear hb)))
       go_roundg k1
       case measure => have := HK1.out; omega
       case rel => exact ⟨(t151), (wrap64 (x5_1 + 1)), (by first | rfl | (simp; done) | (simp [*]; done)), (by first | rfl | (simp; done) | (simp [*]; done)), H', ⟨by have := HK1.out; omega⟩, ⟨bw_ HB⟩⟩
     ·rw [if_neg c5] at H
      exact absurd H (by simp)
    ·rw [if_neg c4] at H
     have c4b0 : decide (x5_1 < (l0.length : Int)) = false := decide_eq_false c4
     clear c4
     obtain rfl := Option.some.inj H
     go_wp2
     go_ret
     exact ⟨er_, bw_ HB⟩

/-! ### spec_l01In: function 61 -/
def spec_l01In.f (a0 : Int) (a1 : Int) (a2 : Int) : Option (Bool) := if a0 ≥ a1 then (some (decide (a0 ≤ a2))) else (some false)
set_option maxHeartbeats 8000000 in
set_option maxRecDepth 100000 in
theorem spec_l01In.calls (a0 : Int) (a1 : Int) (a2 : Int) (r : Bool) (w : World) (h : spec_l01In.f a0 a1 a2 = some r) :
  Calls Try.prog 61 #[.int .i64 a0, .int .i64 a1, .int .i64 a2] w fun e w' => e = .returned (.bool r) ∧ Drawn0 w w' := by
 have H : (if a0 ≥ a1 then (some (decide (a0 ≤ a2))) else (some false)) = some r := h
 clear h
 by_cases c4 : a0 ≥ a1
 ·rw [if_pos c4] at H
  have c4b0 : decide (a1 ≤ a0) = true := decide_eq_true c4
  clear c4
  obtain rfl := Option.some.inj H
  go_enter Try.func61, Try.ntmps61
  go_wp2
  go_ret
  exact ⟨by first | rfl | (simp; done) | (simp [*]; done), by repeat (first | exact Drawn0.refl _ | apply Drawn0.step)⟩
 ·rw [if_neg c4] at H
  have c4b0 : decide (a1 ≤ a0) = false := decide_eq_false c4
  clear c4
  obtain rfl := Option.some.inj H
  go_enter Try.func61, Try.ntmps61
  go_wp2
  go_ret
  exact ⟨by first | rfl | (simp; done) | (simp [*]; done), by repeat (first | exact Drawn0.refl _ | apply Drawn0.step)⟩

/-! ### spec_l03Name: function 39 -/
def spec_l03Name.f (a0 : ByteArray) : Option (Bool) := (spec_l01In.f (a0.size : Int) 1 8).bind fun t152 => (some t152)
set_option maxHeartbeats 8000000 in
set_option maxRecDepth 100000 in
theorem spec_l03Name.calls (a0 : ByteArray) (r : Bool) (w : World) (h : spec_l03Name.f a0 = some r) :
  Calls Try.prog 39 #[.string a0] w fun e w' => e = .returned (.bool r) ∧ Drawn0 w w' := by
 have H : ((spec_l01In.f (a0.size : Int) 1 8).bind fun t152 => (some t152)) = some r := h
 clear h
 replace H := Option.bind_eq_some_iff.mp H
 obtain ⟨t152, A20, H⟩ := H
 replace H : (some t152) = some r := H
 have A2 := Aside0.mk A20
 clear A20
 obtain rfl := Option.some.inj H
 go_enter Try.func39, Try.ntmps39
 go_wp2_with (first | ((with_reducible refine gate_callee (f := 61) rfl ?_); refine goesL_ (some 5) rfl rfl Try.func61 (by kernel_rfl) rfl #[.int .i64 (a0.size : Int), .int .i64 1, .int .i64 8] rfl ga_ ?_; (with_reducible refine (spec_l01In.calls (a0.size : Int) 1 8 t152 _ A2.out).mono ?_); rintro e w' ⟨rfl, ⟨nd, rfl⟩⟩; refine ⟨_, rfl, ?_⟩))
 go_ret
 exact ⟨by first | rfl | (simp; done) | (simp [*]; done), by repeat (first | exact Drawn0.refl _ | apply Drawn0.step)⟩

/-! ### spec_DiskOk: function 38 -/
def spec_DiskOk.l0 : Nat → Int → List (S76) → Option (Bool)
 | 0, _, _ => none
 | k + 1, x3, x154000 => if x3 < (x154000.length : Int) then (if 0 ≤ x3 then ((spec_l03Name.f ((rd_T76 x154000 x3).f0)).bind fun t156 => (if t156 = true then (if (((rd_T76 x154000 x3).f1).size : Int) > 20000 then (some false) else ((spec_l01In.f ((rd_T76 x154000 x3).f2) 0 (((rd_T76 x154000 x3).f1).size : Int)).bind fun t157 => (if t157 = true then (if x3 > 0 then (if 0 ≤ (wrap64 (x3 - 1)) then (if (wrap64 (x3 - 1)) < (x154000.length : Int) then (if ((Op.bytesLess (((rd_T76 x154000 (wrap64 (x3 - 1))).f0).toList) (((rd_T76 x154000 x3).f0).toList)) = true) then (spec_DiskOk.l0 k (wrap64 (x3 + 1)) x154000) else (some false)) else (none)) else (none)) else (spec_DiskOk.l0 k (wrap64 (x3 + 1)) x154000)) else (some false)))) else (some false))) else (none)) else (some true)
def spec_DiskOk.f (k : Nat) (l0_0 : List (S76)) : Option (Bool) := if (l0_0.length : Int) > 30 then (some false) else (spec_DiskOk.l0 k 0 l0_0)
theorem spec_DiskOk.mono_l : ∀ k, (∀ y0 y1, LeO (spec_DiskOk.l0 k y0 y1) (spec_DiskOk.l0 (k + 1) y0 y1))
 | 0 => fun _ _ r h => by simp [spec_DiskOk.l0] at h
 | k + 1 => by
  have ih0 := spec_DiskOk.mono_l k
  ·intro y0 y1
   unfold spec_DiskOk.l0
   repeat' first
   | (with_reducible exact ih0 _ _)
   | (with_reducible exact LeO.refl _)
   | (with_reducible exact LeO.none _)
   | (with_reducible refine LeO.ite ?_ ?_)
   | (with_reducible refine LeO.bind ?_ (fun _ => ?_))
   | exact ih0 _ _
   | exact LeO.none _
   | refine LeO.ite ?_ ?_
   | refine LeO.bind ?_ (fun _ => ?_)
theorem spec_DiskOk.mono : ∀ a0 k, LeO (spec_DiskOk.f k a0) (spec_DiskOk.f (k + 1) a0) := by
 intro a0 k
 have ih0 := spec_DiskOk.mono_l k
 unfold spec_DiskOk.f
 repeat' first
   | (with_reducible exact ih0 _ _)
   | (with_reducible exact LeO.refl _)
   | (with_reducible exact LeO.none _)
   | (with_reducible refine LeO.ite ?_ ?_)
   | (with_reducible refine LeO.bind ?_ (fun _ => ?_))
   | exact ih0 _ _
   | exact LeO.none _
   | refine LeO.ite ?_ ?_
   | refine LeO.bind ?_ (fun _ => ?_)
set_option maxHeartbeats 8000000 in
set_option maxRecDepth 100000 in
theorem spec_DiskOk.calls (k : Nat) (A0_0 : Option Addr) (c0_0 : Nat) (l0_0 : List (S76)) (r : Bool) (w : World) (hr0_0 : Kd.C k76 w A0_0 l0_0.length l0_0) (hc0_0 : l0_0.length ≤ c0_0) (h : spec_DiskOk.f k l0_0 = some r) :
  Calls Try.prog 38 #[.agg #[.slice A0_0 l0_0.length c0_0]] w fun e w' => e = .returned (.bool r) ∧ Below w.heap.size w w' := by
 have hu31 := Try.underlying31
 have hu76 := Try.underlying76
 have HR0_0 := Aside0.mk hr0_0
 have HC0_0 := Aside0.mk hc0_0
 clear hr0_0 hc0_0
 have HB := mk_ (Below.refl w.heap.size w)
 have H : (if (l0_0.length : Int) > 30 then (some false) else (spec_DiskOk.l0 k 0 l0_0)) = some r := h
 clear h
 by_cases c2 : (l0_0.length : Int) > 30
 ·rw [if_pos c2] at H
  have c2b0 : decide (30 < (l0_0.length : Int)) = true := decide_eq_true c2
  have c2b1 : decide (30 < l0_0.length) = true := decide_eq_true (by omega)
  clear c2
  obtain rfl := Option.some.inj H
  go_enter Try.func38, Try.ntmps38
  go_wp2_with (first | ((with_reducible refine gate_dst (N := 1) rfl ?_); (try (refine gate_guard (by rfl) ?_; dsimp only)); refine bx_ (N := 1) (cs := #[.slice A0_0 l0_0.length c0_0]) (t := 31) ?_; intro gb153 hg w3 hbox hb; have BK153 := mk_ (hbox); have GW153 : Aside0 (w.heap.size ≤ gb153) := bz_ hg; have GE153 := GW153; replace HB := bs_ HB hb; clear hb hbox hg; obtain ⟨hcz4_0, hfz4_0⟩ := b1_ BK153))
  repeat (go_quiet (first | ((with_reducible refine gate_dst (N := 1) rfl ?_); (try (refine gate_guard (by rfl) ?_; dsimp only)); refine bx_ (N := 1) (cs := #[.slice A0_0 l0_0.length c0_0]) (t := 31) ?_; intro gb153 hg w3 hbox hb; have BK153 := mk_ (hbox); have GW153 : Aside0 (w.heap.size ≤ gb153) := bz_ hg; have GE153 := GW153; replace HB := bs_ HB hb; clear hb hbox hg; obtain ⟨hcz4_0, hfz4_0⟩ := b1_ BK153)); try go_wp2_with (first | ((with_reducible refine gate_dst (N := 1) rfl ?_); (try (refine gate_guard (by rfl) ?_; dsimp only)); refine bx_ (N := 1) (cs := #[.slice A0_0 l0_0.length c0_0]) (t := 31) ?_; intro gb153 hg w3 hbox hb; have BK153 := mk_ (hbox); have GW153 : Aside0 (w.heap.size ≤ gb153) := bz_ hg; have GE153 := GW153; replace HB := bs_ HB hb; clear hb hbox hg; obtain ⟨hcz4_0, hfz4_0⟩ := b1_ BK153)))
  go_ret
  exact ⟨er_, bw_ HB⟩
 ·rw [if_neg c2] at H
  have c2b0 : decide (30 < (l0_0.length : Int)) = false := decide_eq_false c2
  have c2b1 : decide (30 < l0_0.length) = false := decide_eq_false (by omega)
  clear c2
  have H' := Aside0.mk H
  clear H
  go_enter Try.func38, Try.ntmps38
  go_wp2_with (first | ((with_reducible refine gate_dst (N := 1) rfl ?_); (try (refine gate_guard (by rfl) ?_; dsimp only)); refine bx_ (N := 1) (cs := #[.slice A0_0 l0_0.length c0_0]) (t := 31) ?_; intro gb153 hg w5 hbox hb; have BK153 := mk_ (hbox); have GW153 : Aside0 (w.heap.size ≤ gb153) := bz_ hg; have GE153 := GW153; replace HB := bs_ HB hb; clear hb hbox hg; obtain ⟨hcz6_0, hfz6_0⟩ := b1_ BK153))
  repeat (go_quiet (first | ((with_reducible refine gate_dst (N := 1) rfl ?_); (try (refine gate_guard (by rfl) ?_; dsimp only)); refine bx_ (N := 1) (cs := #[.slice A0_0 l0_0.length c0_0]) (t := 31) ?_; intro gb153 hg w5 hbox hb; have BK153 := mk_ (hbox); have GW153 : Aside0 (w.heap.size ≤ gb153) := bz_ hg; have GE153 := GW153; replace HB := bs_ HB hb; clear hb hbox hg; obtain ⟨hcz6_0, hfz6_0⟩ := b1_ BK153)); try go_wp2_with (first | ((with_reducible refine gate_dst (N := 1) rfl ?_); (try (refine gate_guard (by rfl) ?_; dsimp only)); refine bx_ (N := 1) (cs := #[.slice A0_0 l0_0.length c0_0]) (t := 31) ?_; intro gb153 hg w5 hbox hb; have BK153 := mk_ (hbox); have GW153 : Aside0 (w.heap.size ≤ gb153) := bz_ hg; have GE153 := GW153; replace HB := bs_ HB hb; clear hb hbox hg; obtain ⟨hcz6_0, hfz6_0⟩ := b1_ BK153)))
  go_loopg [3] k (fun kq v3 w' => ∃ (x3_1 : Int), v3 = .int .i64 x3_1 ∧ Aside0 (spec_DiskOk.l0 kq x3_1 l0_0 = some r) ∧ Aside0 (kq ≤ k) ∧ Aside0 (w'.heap[gb153]? = some (.cells #[(.slice A0_0 l0_0.length c0_0)] 31 (0, 0))) ∧ Aside0 (Below w.heap.size w w'))
  case atStart => exact ⟨(0), (by first | rfl | (simp; done) | (simp [*]; done)), H', ⟨Nat.le_refl _⟩, ⟨bf_⟩, ⟨bw_ HB⟩⟩
  case round =>
   clear H'
   try clear c2
   try clear c2b0
   try clear c2b1
   try clear p2
   try clear c3
   try clear hcz4_0
   try clear hcz6_0
   try clear hfz4_0
   try clear hfz6_0
   obtain ⟨x3_1, rfl, HA, HK1, BK153, HB⟩ := hrel
   cases gk with
   | zero => exact absurd HA.out (by simp [spec_DiskOk.l0])
   | succ k1 =>
    have H := HA.out
    clear HA
    simp only [spec_DiskOk.l0] at H
    by_cases c7 : x3_1 < (l0_0.length : Int)
    ·rw [if_pos c7] at H
     have c7b0 : decide (x3_1 < (l0_0.length : Int)) = true := decide_eq_true c7
     clear c7
     by_cases c8 : 0 ≤ x3_1
     ·rw [if_pos c8] at H
      have c8b0 : decide (0 ≤ x3_1) = true := decide_eq_true c8
      clear c8
      replace H := Option.bind_eq_some_iff.mp H
      obtain ⟨t156, A90, H⟩ := H
      replace H : (if t156 = true then (if (((rd_T76 l0_0 x3_1).f1).size : Int) > 20000 then (some false) else ((spec_l01In.f ((rd_T76 l0_0 x3_1).f2) 0 (((rd_T76 l0_0 x3_1).f1).size : Int)).bind fun t157 => (if t157 = true then (if x3_1 > 0 then (if 0 ≤ (wrap64 (x3_1 - 1)) then (if (wrap64 (x3_1 - 1)) < (l0_0.length : Int) then (if ((Op.bytesLess (((rd_T76 l0_0 (wrap64 (x3_1 - 1))).f0).toList) (((rd_T76 l0_0 x3_1).f0).toList)) = true) then (spec_DiskOk.l0 k1 (wrap64 (x3_1 + 1)) l0_0) else (some false)) else (none)) else (none)) else (spec_DiskOk.l0 k1 (wrap64 (x3_1 + 1)) l0_0)) else (some false)))) else (some false)) = some r := H
      have A9 := Aside0.mk A90
      clear A90
      by_cases c10 : t156 = true
      ·subst c10
       have H1 : (if (((rd_T76 l0_0 x3_1).f1).size : Int) > 20000 then (some false) else ((spec_l01In.f ((rd_T76 l0_0 x3_1).f2) 0 (((rd_T76 l0_0 x3_1).f1).size : Int)).bind fun t157 => (if t157 = true then (if x3_1 > 0 then (if 0 ≤ (wrap64 (x3_1 - 1)) then (if (wrap64 (x3_1 - 1)) < (l0_0.length : Int) then (if ((Op.bytesLess (((rd_T76 l0_0 (wrap64 (x3_1 - 1))).f0).toList) (((rd_T76 l0_0 x3_1).f0).toList)) = true) then (spec_DiskOk.l0 k1 (wrap64 (x3_1 + 1)) l0_0) else (some false)) else (none)) else (none)) else (spec_DiskOk.l0 k1 (wrap64 (x3_1 + 1)) l0_0)) else (some false)))) = some r := by rw [if_pos rfl] at H; exact H
       clear H
       have H := H1
       clear H1
       by_cases c11 : (((rd_T76 l0_0 x3_1).f1).size : Int) > 20000
       ·rw [if_pos c11] at H
        have c11b0 : decide (20000 < (((rd_T76 l0_0 x3_1).f1).size : Int)) = true := decide_eq_true c11
        have c11b1 : decide (20000 < ((rd_T76 l0_0 x3_1).f1).size) = true := decide_eq_true (by omega)
        clear c11
        obtain rfl := Option.some.inj H
        have hcz12_0 : wr.cell? ⟨gb153, 0, none⟩ = some (.slice A0_0 l0_0.length c0_0) := bc_ BK153 0
        have hfz12_0 := blk_frozen BK153.out 0
        have p154 : 0 ≤ (x3_1 : Int) := od_
        have q154 : x3_1 < (l0_0.length : Int) := od_
        obtain ⟨ad154, e154, hx154_0, hx154_1, hx154_2⟩ := at_T76 HR0_0.out x3_1 p154 q154
        cases e154
        replace hx154_0 := hc_ HB hx154_0
        replace hx154_1 := hc_ HB hx154_1
        replace hx154_2 := hc_ HB hx154_2
        replace p154 := eq_true p154
        replace q154 := eq_true q154
        go_wp2_with (first | ((with_reducible refine gate_dst (N := 4) rfl ?_); (try (refine gate_guard (by rfl) ?_; dsimp only)); refine bx_ (N := 4) (cs := #[.string (⟨#[]⟩ : ByteArray), .string (⟨#[]⟩ : ByteArray), .int .i64 0]) (t := 76) ?_; intro gb155 hg w13 hbox hb; have BK155 := mk_ (hbox); have GW155 : Aside0 (w.heap.size ≤ gb155) := bz_ hg; have GE155 := GW155; have NB153_155 := bl_ BK153 hg; have NB155_153 := bg_ BK153 hg; replace BK153 := bb_ BK153 hb; replace HB := bs_ HB hb; clear hb hbox hg; have hnb14 := NB155_153.out; have hnc14 := NB153_155.out; obtain ⟨hcz15_0, hcz15_1, hcz15_2, hfz15_0, hfz15_1, hfz15_2⟩ := b3_ BK155) | (go_at_call 39; (with_reducible refine (spec_l03Name.calls ((rd_T76 l0_0 x3_1).f0) true _ A9.out).mono ?_); rintro e w' ⟨rfl, ⟨nd, rfl⟩⟩; (try first | exact ⟨rfl, _, World.drewN_drewN _ _ _⟩ | exact ⟨rfl, _, Eq.trans (World.drewN_drewN _ _ _) (congrArg (World.drewN _) (Nat.add_assoc _ _ _))⟩)))
        repeat (go_quiet (first | ((with_reducible refine gate_dst (N := 4) rfl ?_); (try (refine gate_guard (by rfl) ?_; dsimp only)); refine bx_ (N := 4) (cs := #[.string (⟨#[]⟩ : ByteArray), .string (⟨#[]⟩ : ByteArray), .int .i64 0]) (t := 76) ?_; intro gb155 hg w13 hbox hb; have BK155 := mk_ (hbox); have GW155 : Aside0 (w.heap.size ≤ gb155) := bz_ hg; have GE155 := GW155; have NB153_155 := bl_ BK153 hg; have NB155_153 := bg_ BK153 hg; replace BK153 := bb_ BK153 hb; replace HB := bs_ HB hb; clear hb hbox hg; have hnb14 := NB155_153.out; have hnc14 := NB153_155.out; obtain ⟨hcz15_0, hcz15_1, hcz15_2, hfz15_0, hfz15_1, hfz15_2⟩ := b3_ BK155) | (go_at_call 39; (with_reducible refine (spec_l03Name.calls ((rd_T76 l0_0 x3_1).f0) true _ A9.out).mono ?_); rintro e w' ⟨rfl, ⟨nd, rfl⟩⟩; (try first | exact ⟨rfl, _, World.drewN_drewN _ _ _⟩ | exact ⟨rfl, _, Eq.trans (World.drewN_drewN _ _ _) (congrArg (World.drewN _) (Nat.add_assoc _ _ _))⟩))); try go_wp2_with (first | ((with_reducible refine gate_dst (N := 4) rfl ?_); (try (refine gate_guard (by rfl) ?_; dsimp only)); refine bx_ (N := 4) (cs := #[.string (⟨#[]⟩ : ByteArray), .string (⟨#[]⟩ : ByteArray), .int .i64 0]) (t := 76) ?_; intro gb155 hg w13 hbox hb; have BK155 := mk_ (hbox); have GW155 : Aside0 (w.heap.size ≤ gb155) := bz_ hg; have GE155 := GW155; have NB153_155 := bl_ BK153 hg; have NB155_153 := bg_ BK153 hg; replace BK153 := bb_ BK153 hb; replace HB := bs_ HB hb; clear hb hbox hg; have hnb14 := NB155_153.out; have hnc14 := NB153_155.out; obtain ⟨hcz15_0, hcz15_1, hcz15_2, hfz15_0, hfz15_1, hfz15_2⟩ := b3_ BK155) | (go_at_call 39; (with_reducible refine (spec_l03Name.calls ((rd_T76 l0_0 x3_1).f0) true _ A9.out).mono ?_); rintro e w' ⟨rfl, ⟨nd, rfl⟩⟩; (try first | exact ⟨rfl, _, World.drewN_drewN _ _ _⟩ | exact ⟨rfl, _, Eq.trans (World.drewN_drewN _ _ _) (congrArg (World.drewN _) (Nat.add_assoc _ _ _))⟩))))
        go_ret
        exact ⟨er_, bw_ HB⟩
       ·rw [if_neg c11] at H
        have c11b0 : decide (20000 < (((rd_T76 l0_0 x3_1).f1).size : Int)) = false := decide_eq_false c11
        have c11b1 : decide (20000 < ((rd_T76 l0_0 x3_1).f1).size) = false := decide_eq_false (by omega)
        clear c11
        replace H := Option.bind_eq_some_iff.mp H
        obtain ⟨t157, A160, H⟩ := H
        replace H : (if t157 = true then (if x3_1 > 0 then (if 0 ≤ (wrap64 (x3_1 - 1)) then (if (wrap64 (x3_1 - 1)) < (l0_0.length : Int) then (if ((Op.bytesLess (((rd_T76 l0_0 (wrap64 (x3_1 - 1))).f0).toList) (((rd_T76 l0_0 x3_1).f0).toList)) = true) then (spec_DiskOk.l0 k1 (wrap64 (x3_1 + 1)) l0_0) else (some false)) else (none)) else (none)) else (spec_DiskOk.l0 k1 (wrap64 (x3_1 + 1)) l0_0)) else (some false)) = some r := H
        have A16 := Aside0.mk A160
        clear A160
        by_cases c17 : t157 = true
        ·subst c17
         have H1 : (if x3_1 > 0 then (if 0 ≤ (wrap64 (x3_1 - 1)) then (if (wrap64 (x3_1 - 1)) < (l0_0.length : Int) then (if ((Op.bytesLess (((rd_T76 l0_0 (wrap64 (x3_1 - 1))).f0).toList) (((rd_T76 l0_0 x3_1).f0).toList)) = true) then (spec_DiskOk.l0 k1 (wrap64 (x3_1 + 1)) l0_0) else (some false)) else (none)) else (none)) else (spec_DiskOk.l0 k1 (wrap64 (x3_1 + 1)) l0_0)) = some r := by rw [if_pos rfl] at H; exact H
         clear H
         have H := H1
         clear H1
         by_cases c18 : x3_1 > 0
         ·rw [if_pos c18] at H
          have c18b0 : decide (0 < x3_1) = true := decide_eq_true c18
          clear c18
          obtain ⟨ji19, hji19⟩ : ∃ j_ : Int, (wrap64 (x3_1 - 1)) = j_ := ⟨_, rfl⟩
          replace H : (if 0 ≤ (ji19) then (if (ji19) < (l0_0.length : Int) then (if ((Op.bytesLess (((rd_T76 l0_0 (ji19)).f0).toList) (((rd_T76 l0_0 x3_1).f0).toList)) = true) then (spec_DiskOk.l0 k1 (wrap64 (x3_1 + 1)) l0_0) else (some false)) else (none)) else (none)) = some r := by first | (rw [hji19] at H; exact H) | (simp only [hji19] at H ⊢; exact H)
          (try rw [hji19] at A9)
          (try rw [hji19] at A16)
          have hji19w : (IntKind.i64.wrap (x3_1 - 1)) = ji19 := (i64_w _).trans hji19
          by_cases c20 : 0 ≤ (ji19)
          ·rw [if_pos c20] at H
           have c20b0 : decide (0 ≤ (ji19)) = true := decide_eq_true c20
           clear c20
           by_cases c21 : (ji19) < (l0_0.length : Int)
           ·rw [if_pos c21] at H
            have c21b0 : decide ((ji19) < (l0_0.length : Int)) = true := decide_eq_true c21
            clear c21
            by_cases c22 : ((Op.bytesLess (((rd_T76 l0_0 (ji19)).f0).toList) (((rd_T76 l0_0 x3_1).f0).toList)) = true)
            ·rw [if_pos c22] at H
             have c22b0 : (Op.bytesLess (((rd_T76 l0_0 (ji19)).f0).toList) (((rd_T76 l0_0 x3_1).f0).toList)) = true := c22
             have c22g0 : Op.bytesLess (((rd_T76 l0_0 x3_1).f0).toList) (((rd_T76 l0_0 (ji19)).f0).toList) = false := Go.Proofs.Ythbaoefbccdioaa.Sem.less_no c22b0
             have c22g1 : ((((rd_T76 l0_0 x3_1).f0).toList) == (((rd_T76 l0_0 (ji19)).f0).toList)) = false := Go.Proofs.Ythbaoefbccdioaa.Sem.less_ne c22b0
             clear c22
             have H' := Aside0.mk H
             clear H
             have hcz23_0 : wr.cell? ⟨gb153, 0, none⟩ = some (.slice A0_0 l0_0.length c0_0) := bc_ BK153 0
             have hfz23_0 := blk_frozen BK153.out 0
             have p154 : 0 ≤ (x3_1 : Int) := od_
             have q154 : x3_1 < (l0_0.length : Int) := od_
             obtain ⟨ad154, e154, hx154_0, hx154_1, hx154_2⟩ := at_T76 HR0_0.out x3_1 p154 q154
             cases e154
             replace hx154_0 := hc_ HB hx154_0
             replace hx154_1 := hc_ HB hx154_1
             replace hx154_2 := hc_ HB hx154_2
             replace p154 := eq_true p154
             replace q154 := eq_true q154
             go_wp2_with (first | ((with_reducible refine gate_dst (N := 4) rfl ?_); (try (refine gate_guard (by rfl) ?_; dsimp only)); refine bx_ (N := 4) (cs := #[.string (⟨#[]⟩ : ByteArray), .string (⟨#[]⟩ : ByteArray), .int .i64 0]) (t := 76) ?_; intro gb155 hg w24 hbox hb; have BK155 := mk_ (hbox); have GW155 : Aside0 (w.heap.size ≤ gb155) := bz_ hg; have GE155 := GW155; have NB153_155 := bl_ BK153 hg; have NB155_153 := bg_ BK153 hg; replace BK153 := bb_ BK153 hb; replace HB := bs_ HB hb; clear hb hbox hg; have hnb25 := NB155_153.out; have hnc25 := NB153_155.out; obtain ⟨hcz26_0, hcz26_1, hcz26_2, hfz26_0, hfz26_1, hfz26_2⟩ := b3_ BK155) | (go_at_call 39; (with_reducible refine (spec_l03Name.calls ((rd_T76 l0_0 x3_1).f0) true _ A9.out).mono ?_); rintro e w' ⟨rfl, ⟨nd, rfl⟩⟩; (try first | exact ⟨rfl, _, World.drewN_drewN _ _ _⟩ | exact ⟨rfl, _, Eq.trans (World.drewN_drewN _ _ _) (congrArg (World.drewN _) (Nat.add_assoc _ _ _))⟩)) | (go_at_call 61; (with_reducible refine (spec_l01In.calls ((rd_T76 l0_0 x3_1).f2) 0 (((rd_T76 l0_0 x3_1).f1).size : Int) true _ A16.out).mono ?_); rintro e w' ⟨rfl, ⟨nd, rfl⟩⟩; (try first | exact ⟨rfl, _, World.drewN_drewN _ _ _⟩ | exact ⟨rfl, _, Eq.trans (World.drewN_drewN _ _ _) (congrArg (World.drewN _) (Nat.add_assoc _ _ _))⟩); obtain ⟨hcz27_0, hfz27_0⟩ := b1_ BK153; have p158 : 0 ≤ ((ji19) : Int) := od_; have q158 : (ji19) < (l0_0.length : Int) := od_; obtain ⟨ad158, e158, hx158_0, hx158_1, hx158_2⟩ := at_T76 HR0_0.out (ji19) p158 q158; obtain rfl : ad154 = ad158 := (by injection e158); have hn158_0 : ad154.block ≠ gb155 := Nat.ne_of_lt (Nat.lt_of_lt_of_le (by have := World.block_lt_of_cell? _ _ hx158_0; first | rwa [add_block] at this | exact this) GW155.out); have hn158_1 : ad154.block ≠ gb155 := Nat.ne_of_lt (Nat.lt_of_lt_of_le (by have := World.block_lt_of_cell? _ _ hx158_0; first | rwa [add_block] at this | exact this) GW155.out); have hn158_2 : ad154.block ≠ gb155 := Nat.ne_of_lt (Nat.lt_of_lt_of_le (by have := World.block_lt_of_cell? _ _ hx158_0; first | rwa [add_block] at this | exact this) GW155.out); replace hx158_0 := hc_ HB hx158_0; replace hx158_1 := hc_ HB hx158_1; replace hx158_2 := hc_ HB hx158_2; replace hx158_0 := (cell_far (p := ⟨gb155, 0, none⟩) ab_ (.string ((rd_T76 l0_0 x3_1).f0))).trans hx158_0; replace hx158_1 := (cell_far (p := ⟨gb155, 0, none⟩) ab_ (.string ((rd_T76 l0_0 x3_1).f0))).trans hx158_1; replace hx158_2 := (cell_far (p := ⟨gb155, 0, none⟩) ab_ (.string ((rd_T76 l0_0 x3_1).f0))).trans hx158_2; replace hx158_0 := (cell_far (p := ⟨gb155, 1, none⟩) ab_ (.string ((rd_T76 l0_0 x3_1).f1))).trans hx158_0; replace hx158_1 := (cell_far (p := ⟨gb155, 1, none⟩) ab_ (.string ((rd_T76 l0_0 x3_1).f1))).trans hx158_1; replace hx158_2 := (cell_far (p := ⟨gb155, 1, none⟩) ab_ (.string ((rd_T76 l0_0 x3_1).f1))).trans hx158_2; replace hx158_0 := (cell_far (p := ⟨gb155, 2, none⟩) ab_ (.int .i64 ((rd_T76 l0_0 x3_1).f2))).trans hx158_0; replace hx158_1 := (cell_far (p := ⟨gb155, 2, none⟩) ab_ (.int .i64 ((rd_T76 l0_0 x3_1).f2))).trans hx158_1; replace hx158_2 := (cell_far (p := ⟨gb155, 2, none⟩) ab_ (.int .i64 ((rd_T76 l0_0 x3_1).f2))).trans hx158_2; (try have hy158_0 := fun (n_ : Nat) => (show (((((w24.drewN n_).setCell ⟨gb155, 0, none⟩ (.string ((rd_T76 l0_0 x3_1).f0))).setCell ⟨gb155, 1, none⟩ (.string ((rd_T76 l0_0 x3_1).f1))).setCell ⟨gb155, 2, none⟩ (.int .i64 ((rd_T76 l0_0 x3_1).f2)))).cell? _ = some _ from hx158_0)); (try have hy158_1 := fun (n_ : Nat) => (show (((((w24.drewN n_).setCell ⟨gb155, 0, none⟩ (.string ((rd_T76 l0_0 x3_1).f0))).setCell ⟨gb155, 1, none⟩ (.string ((rd_T76 l0_0 x3_1).f1))).setCell ⟨gb155, 2, none⟩ (.int .i64 ((rd_T76 l0_0 x3_1).f2)))).cell? _ = some _ from hx158_1)); (try have hy158_2 := fun (n_ : Nat) => (show (((((w24.drewN n_).setCell ⟨gb155, 0, none⟩ (.string ((rd_T76 l0_0 x3_1).f0))).setCell ⟨gb155, 1, none⟩ (.string ((rd_T76 l0_0 x3_1).f1))).setCell ⟨gb155, 2, none⟩ (.int .i64 ((rd_T76 l0_0 x3_1).f2)))).cell? _ = some _ from hx158_2)); clear hn158_0; clear hn158_1; clear hn158_2; replace p158 := eq_true p158; replace q158 := eq_true q158))
             repeat (go_quiet (first | ((with_reducible refine gate_dst (N := 4) rfl ?_); (try (refine gate_guard (by rfl) ?_; dsimp only)); refine bx_ (N := 4) (cs := #[.string (⟨#[]⟩ : ByteArray), .string (⟨#[]⟩ : ByteArray), .int .i64 0]) (t := 76) ?_; intro gb155 hg w24 hbox hb; have BK155 := mk_ (hbox); have GW155 : Aside0 (w.heap.size ≤ gb155) := bz_ hg; have GE155 := GW155; have NB153_155 := bl_ BK153 hg; have NB155_153 := bg_ BK153 hg; replace BK153 := bb_ BK153 hb; replace HB := bs_ HB hb; clear hb hbox hg; have hnb25 := NB155_153.out; have hnc25 := NB153_155.out; obtain ⟨hcz26_0, hcz26_1, hcz26_2, hfz26_0, hfz26_1, hfz26_2⟩ := b3_ BK155) | (go_at_call 39; (with_reducible refine (spec_l03Name.calls ((rd_T76 l0_0 x3_1).f0) true _ A9.out).mono ?_); rintro e w' ⟨rfl, ⟨nd, rfl⟩⟩; (try first | exact ⟨rfl, _, World.drewN_drewN _ _ _⟩ | exact ⟨rfl, _, Eq.trans (World.drewN_drewN _ _ _) (congrArg (World.drewN _) (Nat.add_assoc _ _ _))⟩)) | (go_at_call 61; (with_reducible refine (spec_l01In.calls ((rd_T76 l0_0 x3_1).f2) 0 (((rd_T76 l0_0 x3_1).f1).size : Int) true _ A16.out).mono ?_); rintro e w' ⟨rfl, ⟨nd, rfl⟩⟩; (try first | exact ⟨rfl, _, World.drewN_drewN _ _ _⟩ | exact ⟨rfl, _, Eq.trans (World.drewN_drewN _ _ _) (congrArg (World.drewN _) (Nat.add_assoc _ _ _))⟩); obtain ⟨hcz27_0, hfz27_0⟩ := b1_ BK153; have p158 : 0 ≤ ((ji19) : Int) := od_; have q158 : (ji19) < (l0_0.length : Int) := od_; obtain ⟨ad158, e158, hx158_0, hx158_1, hx158_2⟩ := at_T76 HR0_0.out (ji19) p158 q158; obtain rfl : ad154 = ad158 := (by injection e158); have hn158_0 : ad154.block ≠ gb155 := Nat.ne_of_lt (Nat.lt_of_lt_of_le (by have := World.block_lt_of_cell? _ _ hx158_0; first | rwa [add_block] at this | exact this) GW155.out); have hn158_1 : ad154.block ≠ gb155 := Nat.ne_of_lt (Nat.lt_of_lt_of_le (by have := World.block_lt_of_cell? _ _ hx158_0; first | rwa [add_block] at this | exact this) GW155.out); have hn158_2 : ad154.block ≠ gb155 := Nat.ne_of_lt (Nat.lt_of_lt_of_le (by have := World.block_lt_of_cell? _ _ hx158_0; first | rwa [add_block] at this | exact this) GW155.out); replace hx158_0 := hc_ HB hx158_0; replace hx158_1 := hc_ HB hx158_1; replace hx158_2 := hc_ HB hx158_2; replace hx158_0 := (cell_far (p := ⟨gb155, 0, none⟩) ab_ (.string ((rd_T76 l0_0 x3_1).f0))).trans hx158_0; replace hx158_1 := (cell_far (p := ⟨gb155, 0, none⟩) ab_ (.string ((rd_T76 l0_0 x3_1).f0))).trans hx158_1; replace hx158_2 := (cell_far (p := ⟨gb155, 0, none⟩) ab_ (.string ((rd_T76 l0_0 x3_1).f0))).trans hx158_2; replace hx158_0 := (cell_far (p := ⟨gb155, 1, none⟩) ab_ (.string ((rd_T76 l0_0 x3_1).f1))).trans hx158_0; replace hx158_1 := (cell_far (p := ⟨gb155, 1, none⟩) ab_ (.string ((rd_T76 l0_0 x3_1).f1))).trans hx158_1; replace hx158_2 := (cell_far (p := ⟨gb155, 1, none⟩) ab_ (.string ((rd_T76 l0_0 x3_1).f1))).trans hx158_2; replace hx158_0 := (cell_far (p := ⟨gb155, 2, none⟩) ab_ (.int .i64 ((rd_T76 l0_0 x3_1).f2))).trans hx158_0; replace hx158_1 := (cell_far (p := ⟨gb155, 2, none⟩) ab_ (.int .i64 ((rd_T76 l0_0 x3_1).f2))).trans hx158_1; replace hx158_2 := (cell_far (p := ⟨gb155, 2, none⟩) ab_ (.int .i64 ((rd_T76 l0_0 x3_1).f2))).trans hx158_2; (try have hy158_0 := fun (n_ : Nat) => (show (((((w24.drewN n_).setCell ⟨gb155, 0, none⟩ (.string ((rd_T76 l0_0 x3_1).f0))).setCell ⟨gb155, 1, none⟩ (.string ((rd_T76 l0_0 x3_1).f1))).setCell ⟨gb155, 2, none⟩ (.int .i64 ((rd_T76 l0_0 x3_1).f2)))).cell? _ = some _ from hx158_0)); (try have hy158_1 := fun (n_ : Nat) => (show (((((w24.drewN n_).setCell ⟨gb155, 0, none⟩ (.string ((rd_T76 l0_0 x3_1).f0))).setCell ⟨gb155, 1, none⟩ (.string ((rd_T76 l0_0 x3_1).f1))).setCell ⟨gb155, 2, none⟩ (.int .i64 ((rd_T76 l0_0 x3_1).f2)))).cell? _ = some _ from hx158_1)); (try have hy158_2 := fun (n_ : Nat) => (show (((((w24.drewN n_).setCell ⟨gb155, 0, none⟩ (.string ((rd_T76 l0_0 x3_1).f0))).setCell ⟨gb155, 1, none⟩ (.string ((rd_T76 l0_0 x3_1).f1))).setCell ⟨gb155, 2, none⟩ (.int .i64 ((rd_T76 l0_0 x3_1).f2)))).cell? _ = some _ from hx158_2)); clear hn158_0; clear hn158_1; clear hn158_2; replace p158 := eq_true p158; replace q158 := eq_true q158)); try go_wp2_with (first | ((with_reducible refine gate_dst (N := 4) rfl ?_); (try (refine gate_guard (by rfl) ?_; dsimp only)); refine bx_ (N := 4) (cs := #[.string (⟨#[]⟩ : ByteArray), .string (⟨#[]⟩ : ByteArray), .int .i64 0]) (t := 76) ?_; intro gb155 hg w24 hbox hb; have BK155 := mk_ (hbox); have GW155 : Aside0 (w.heap.size ≤ gb155) := bz_ hg; have GE155 := GW155; have NB153_155 := bl_ BK153 hg; have NB155_153 := bg_ BK153 hg; replace BK153 := bb_ BK153 hb; replace HB := bs_ HB hb; clear hb hbox hg; have hnb25 := NB155_153.out; have hnc25 := NB153_155.out; obtain ⟨hcz26_0, hcz26_1, hcz26_2, hfz26_0, hfz26_1, hfz26_2⟩ := b3_ BK155) | (go_at_call 39; (with_reducible refine (spec_l03Name.calls ((rd_T76 l0_0 x3_1).f0) true _ A9.out).mono ?_); rintro e w' ⟨rfl, ⟨nd, rfl⟩⟩; (try first | exact ⟨rfl, _, World.drewN_drewN _ _ _⟩ | exact ⟨rfl, _, Eq.trans (World.drewN_drewN _ _ _) (congrArg (World.drewN _) (Nat.add_assoc _ _ _))⟩)) | (go_at_call 61; (with_reducible refine (spec_l01In.calls ((rd_T76 l0_0 x3_1).f2) 0 (((rd_T76 l0_0 x3_1).f1).size : Int) true _ A16.out).mono ?_); rintro e w' ⟨rfl, ⟨nd, rfl⟩⟩; (try first | exact ⟨rfl, _, World.drewN_drewN _ _ _⟩ | exact ⟨rfl, _, Eq.trans (World.drewN_drewN _ _ _) (congrArg (World.drewN _) (Nat.add_assoc _ _ _))⟩); obtain ⟨hcz27_0, hfz27_0⟩ := b1_ BK153; have p158 : 0 ≤ ((ji19) : Int) := od_; have q158 : (ji19) < (l0_0.length : Int) := od_; obtain ⟨ad158, e158, hx158_0, hx158_1, hx158_2⟩ := at_T76 HR0_0.out (ji19) p158 q158; obtain rfl : ad154 = ad158 := (by injection e158); have hn158_0 : ad154.block ≠ gb155 := Nat.ne_of_lt (Nat.lt_of_lt_of_le (by have := World.block_lt_of_cell? _ _ hx158_0; first | rwa [add_block] at this | exact this) GW155.out); have hn158_1 : ad154.block ≠ gb155 := Nat.ne_of_lt (Nat.lt_of_lt_of_le (by have := World.block_lt_of_cell? _ _ hx158_0; first | rwa [add_block] at this | exact this) GW155.out); have hn158_2 : ad154.block ≠ gb155 := Nat.ne_of_lt (Nat.lt_of_lt_of_le (by have := World.block_lt_of_cell? _ _ hx158_0; first | rwa [add_block] at this | exact this) GW155.out); replace hx158_0 := hc_ HB hx158_0; replace hx158_1 := hc_ HB hx158_1; replace hx158_2 := hc_ HB hx158_2; replace hx158_0 := (cell_far (p := ⟨gb155, 0, none⟩) ab_ (.string ((rd_T76 l0_0 x3_1).f0))).trans hx158_0; replace hx158_1 := (cell_far (p := ⟨gb155, 0, none⟩) ab_ (.string ((rd_T76 l0_0 x3_1).f0))).trans hx158_1; replace hx158_2 := (cell_far (p := ⟨gb155, 0, none⟩) ab_ (.string ((rd_T76 l0_0 x3_1).f0))).trans hx158_2; replace hx158_0 := (cell_far (p := ⟨gb155, 1, none⟩) ab_ (.string ((rd_T76 l0_0 x3_1).f1))).trans hx158_0; replace hx158_1 := (cell_far (p := ⟨gb155, 1, none⟩) ab_ (.string ((rd_T76 l0_0 x3_1).f1))).trans hx158_1; replace hx158_2 := (cell_far (p := ⟨gb155, 1, none⟩) ab_ (.string ((rd_T76 l0_0 x3_1).f1))).trans hx158_2; replace hx158_0 := (cell_far (p := ⟨gb155, 2, none⟩) ab_ (.int .i64 ((rd_T76 l0_0 x3_1).f2))).trans hx158_0; replace hx158_1 := (cell_far (p := ⟨gb155, 2, none⟩) ab_ (.int .i64 ((rd_T76 l0_0 x3_1).f2))).trans hx158_1; replace hx158_2 := (cell_far (p := ⟨gb155, 2, none⟩) ab_ (.int .i64 ((rd_T76 l0_0 x3_1).f2))).trans hx158_2; (try have hy158_0 := fun (n_ : Nat) => (show (((((w24.drewN n_).setCell ⟨gb155, 0, none⟩ (.string ((rd_T76 l0_0 x3_1).f0))).setCell ⟨gb155, 1, none⟩ (.string ((rd_T76 l0_0 x3_1).f1))).setCell ⟨gb155, 2, none⟩ (.int .i64 ((rd_T76 l0_0 x3_1).f2)))).cell? _ = some _ from hx158_0)); (try have hy158_1 := fun (n_ : Nat) => (show (((((w24.drewN n_).setCell ⟨gb155, 0, none⟩ (.string ((rd_T76 l0_0 x3_1).f0))).setCell ⟨gb155, 1, none⟩ (.string ((rd_T76 l0_0 x3_1).f1))).setCell ⟨gb155, 2, none⟩ (.int .i64 ((rd_T76 l0_0 x3_1).f2)))).cell? _ = some _ from hx158_1)); (try have hy158_2 := fun (n_ : Nat) => (show (((((w24.drewN n_).setCell ⟨gb155, 0, none⟩ (.string ((rd_T76 l0_0 x3_1).f0))).setCell ⟨gb155, 1, none⟩ (.string ((rd_T76 l0_0 x3_1).f1))).setCell ⟨gb155, 2, none⟩ (.int .i64 ((rd_T76 l0_0 x3_1).f2)))).cell? _ = some _ from hx158_2)); clear hn158_0; clear hn158_1; clear hn158_2; replace p158 := eq_true p158; replace q158 := eq_true q158)))
             go_roundg k1
             case measure => have := HK1.out; omega
             case rel => exact ⟨(wrap64 (x3_1 + 1)), (by first | rfl | (simp; done) | (simp [*]; done)), H', ⟨by have := HK1.out; omega⟩, ⟨bf_⟩, ⟨bw_ HB⟩⟩
            ·rw [if_neg c22] at H
             have c22b0 : (Op.bytesLess (((rd_T76 l0_0 (ji19)).f0).toList) (((rd_T76 l0_0 x3_1).f0).toList)) = false := by simpa using c22
             have c22g0 : (Op.bytesLess (((rd_T76 l0_0 x3_1).f0).toList) (((rd_T76 l0_0 (ji19)).f0).toList) || (((rd_T76 l0_0 x3_1).f0).toList) == (((rd_T76 l0_0 (ji19)).f0).toList)) = true := Go.Proofs.Ythbaoefbccdioaa.Sem.less_or c22b0
             have c22g1 : (!Op.bytesLess (((rd_T76 l0_0 x3_1).f0).toList) (((rd_T76 l0_0 (ji19)).f0).toList) && !((((rd_T76 l0_0 x3_1).f0).toList) == (((rd_T76 l0_0 (ji19)).f0).toList))) = false := Go.Proofs.Ythbaoefbccdioaa.Sem.less_and c22b0
             clear c22
             obtain rfl := Option.some.inj H
             have hcz28_0 : wr.cell? ⟨gb153, 0, none⟩ = some (.slice A0_0 l0_0.length c0_0) := bc_ BK153 0
             have hfz28_0 := blk_frozen BK153.out 0
             have p154 : 0 ≤ (x3_1 : Int) := od_
             have q154 : x3_1 < (l0_0.length : Int) := od_
             obtain ⟨ad154, e154, hx154_0, hx154_1, hx154_2⟩ := at_T76 HR0_0.out x3_1 p154 q154
             cases e154
             replace hx154_0 := hc_ HB hx154_0
             replace hx154_1 := hc_ HB hx154_1
             replace hx154_2 := hc_ HB hx154_2
             replace p154 := eq_true p154
             replace q154 := eq_true q154
             go_wp2_with (first | ((with_reducible refine gate_dst (N := 4) rfl ?_); (try (refine gate_guard (by rfl) ?_; dsimp only)); refine bx_ (N := 4) (cs := #[.string (⟨#[]⟩ : ByteArray), .string (⟨#[]⟩ : ByteArray), .int .i64 0]) (t := 76) ?_; intro gb155 hg w29 hbox hb; have BK155 := mk_ (hbox); have GW155 : Aside0 (w.heap.size ≤ gb155) := bz_ hg; have GE155 := GW155; have NB153_155 := bl_ BK153 hg; have NB155_153 := bg_ BK153 hg; replace BK153 := bb_ BK153 hb; replace HB := bs_ HB hb; clear hb hbox hg; have hnb30 := NB155_153.out; have hnc30 := NB153_155.out; obtain ⟨hcz31_0, hcz31_1, hcz31_2, hfz31_0, hfz31_1, hfz31_2⟩ := b3_ BK155) | (go_at_call 39; (with_reducible refine (spec_l03Name.calls ((rd_T76 l0_0 x3_1).f0) true _ A9.out).mono ?_); rintro e w' ⟨rfl, ⟨nd, rfl⟩⟩; (try first | exact ⟨rfl, _, World.drewN_drewN _ _ _⟩ | exact ⟨rfl, _, Eq.trans (World.drewN_drewN _ _ _) (congrArg (World.drewN _) (Nat.add_assoc _ _ _))⟩)) | (go_at_call 61; (with_reducible refine (spec_l01In.calls ((rd_T76 l0_0 x3_1).f2) 0 (((rd_T76 l0_0 x3_1).f1).size : Int) true _ A16.out).mono ?_); rintro e w' ⟨rfl, ⟨nd, rfl⟩⟩; (try first | exact ⟨rfl, _, World.drewN_drewN _ _ _⟩ | exact ⟨rfl, _, Eq.trans (World.drewN_drewN _ _ _) (congrArg (World.drewN _) (Nat.add_assoc _ _ _))⟩); obtain ⟨hcz32_0, hfz32_0⟩ := b1_ BK153; have p158 : 0 ≤ ((ji19) : Int) := od_; have q158 : (ji19) < (l0_0.length : Int) := od_; obtain ⟨ad158, e158, hx158_0, hx158_1, hx158_2⟩ := at_T76 HR0_0.out (ji19) p158 q158; obtain rfl : ad154 = ad158 := (by injection e158); have hn158_0 : ad154.block ≠ gb155 := Nat.ne_of_lt (Nat.lt_of_lt_of_le (by have := World.block_lt_of_cell? _ _ hx158_0; first | rwa [add_block] at this | exact this) GW155.out); have hn158_1 : ad154.block ≠ gb155 := Nat.ne_of_lt (Nat.lt_of_lt_of_le (by have := World.block_lt_of_cell? _ _ hx158_0; first | rwa [add_block] at this | exact this) GW155.out); have hn158_2 : ad154.block ≠ gb155 := Nat.ne_of_lt (Nat.lt_of_lt_of_le (by have := World.block_lt_of_cell? _ _ hx158_0; first | rwa [add_block] at this | exact this) GW155.out); replace hx158_0 := hc_ HB hx158_0; replace hx158_1 := hc_ HB hx158_1; replace hx158_2 := hc_ HB hx158_2; replace hx158_0 := (cell_far (p := ⟨gb155, 0, none⟩) ab_ (.string ((rd_T76 l0_0 x3_1).f0))).trans hx158_0; replace hx158_1 := (cell_far (p := ⟨gb155, 0, none⟩) ab_ (.string ((rd_T76 l0_0 x3_1).f0))).trans hx158_1; replace hx158_2 := (cell_far (p := ⟨gb155, 0, none⟩) ab_ (.string ((rd_T76 l0_0 x3_1).f0))).trans hx158_2; replace hx158_0 := (cell_far (p := ⟨gb155, 1, none⟩) ab_ (.string ((rd_T76 l0_0 x3_1).f1))).trans hx158_0; replace hx158_1 := (cell_far (p := ⟨gb155, 1, none⟩) ab_ (.string ((rd_T76 l0_0 x3_1).f1))).trans hx158_1; replace hx158_2 := (cell_far (p := ⟨gb155, 1, none⟩) ab_ (.string ((rd_T76 l0_0 x3_1).f1))).trans hx158_2; replace hx158_0 := (cell_far (p := ⟨gb155, 2, none⟩) ab_ (.int .i64 ((rd_T76 l0_0 x3_1).f2))).trans hx158_0; replace hx158_1 := (cell_far (p := ⟨gb155, 2, none⟩) ab_ (.int .i64 ((rd_T76 l0_0 x3_1).f2))).trans hx158_1; replace hx158_2 := (cell_far (p := ⟨gb155, 2, none⟩) ab_ (.int .i64 ((rd_T76 l0_0 x3_1).f2))).trans hx158_2; (try have hy158_0 := fun (n_ : Nat) => (show (((((w29.drewN n_).setCell ⟨gb155, 0, none⟩ (.string ((rd_T76 l0_0 x3_1).f0))).setCell ⟨gb155, 1, none⟩ (.string ((rd_T76 l0_0 x3_1).f1))).setCell ⟨gb155, 2, none⟩ (.int .i64 ((rd_T76 l0_0 x3_1).f2)))).cell? _ = some _ from hx158_0)); (try have hy158_1 := fun (n_ : Nat) => (show (((((w29.drewN n_).setCell ⟨gb155, 0, none⟩ (.string ((rd_T76 l0_0 x3_1).f0))).setCell ⟨gb155, 1, none⟩ (.string ((rd_T76 l0_0 x3_1).f1))).setCell ⟨gb155, 2, none⟩ (.int .i64 ((rd_T76 l0_0 x3_1).f2)))).cell? _ = some _ from hx158_1)); (try have hy158_2 := fun (n_ : Nat) => (show (((((w29.drewN n_).setCell ⟨gb155, 0, none⟩ (.string ((rd_T76 l0_0 x3_1).f0))).setCell ⟨gb155, 1, none⟩ (.string ((rd_T76 l0_0 x3_1).f1))).setCell ⟨gb155, 2, none⟩ (.int .i64 ((rd_T76 l0_0 x3_1).f2)))).cell? _ = some _ from hx158_2)); clear hn158_0; clear hn158_1; clear hn158_2; replace p158 := eq_true p158; replace q158 := eq_true q158))
             repeat (go_quiet (first | ((with_reducible refine gate_dst (N := 4) rfl ?_); (try (refine gate_guard (by rfl) ?_; dsimp only)); refine bx_ (N := 4) (cs := #[.string (⟨#[]⟩ : ByteArray), .string (⟨#[]⟩ : ByteArray), .int .i64 0]) (t := 76) ?_; intro gb155 hg w29 hbox hb; have BK155 := mk_ (hbox); have GW155 : Aside0 (w.heap.size ≤ gb155) := bz_ hg; have GE155 := GW155; have NB153_155 := bl_ BK153 hg; have NB155_153 := bg_ BK153 hg; replace BK153 := bb_ BK153 hb; replace HB := bs_ HB hb; clear hb hbox hg; have hnb30 := NB155_153.out; have hnc30 := NB153_155.out; obtain ⟨hcz31_0, hcz31_1, hcz31_2, hfz31_0, hfz31_1, hfz31_2⟩ := b3_ BK155) | (go_at_call 39; (with_reducible refine (spec_l03Name.calls ((rd_T76 l0_0 x3_1).f0) true _ A9.out).mono ?_); rintro e w' ⟨rfl, ⟨nd, rfl⟩⟩; (try first | exact ⟨rfl, _, World.drewN_drewN _ _ _⟩ | exact ⟨rfl, _, Eq.trans (World.drewN_drewN _ _ _) (congrArg (World.drewN _) (Nat.add_assoc _ _ _))⟩)) | (go_at_call 61; (with_reducible refine (spec_l01In.calls ((rd_T76 l0_0 x3_1).f2) 0 (((rd_T76 l0_0 x3_1).f1).size : Int) true _ A16.out).mono ?_); rintro e w' ⟨rfl, ⟨nd, rfl⟩⟩; (try first | exact ⟨rfl, _, World.drewN_drewN _ _ _⟩ | exact ⟨rfl, _, Eq.trans (World.drewN_drewN _ _ _) (congrArg (World.drewN _) (Nat.add_assoc _ _ _))⟩); obtain ⟨hcz32_0, hfz32_0⟩ := b1_ BK153; have p158 : 0 ≤ ((ji19) : Int) := od_; have q158 : (ji19) < (l0_0.length : Int) := od_; obtain ⟨ad158, e158, hx158_0, hx158_1, hx158_2⟩ := at_T76 HR0_0.out (ji19) p158 q158; obtain rfl : ad154 = ad158 := (by injection e158); have hn158_0 : ad154.block ≠ gb155 := Nat.ne_of_lt (Nat.lt_of_lt_of_le (by have := World.block_lt_of_cell? _ _ hx158_0; first | rwa [add_block] at this | exact this) GW155.out); have hn158_1 : ad154.block ≠ gb155 := Nat.ne_of_lt (Nat.lt_of_lt_of_le (by have := World.block_lt_of_cell? _ _ hx158_0; first | rwa [add_block] at this | exact this) GW155.out); have hn158_2 : ad154.block ≠ gb155 := Nat.ne_of_lt (Nat.lt_of_lt_of_le (by have := World.block_lt_of_cell? _ _ hx158_0; first | rwa [add_block] at this | exact this) GW155.out); replace hx158_0 := hc_ HB hx158_0; replace hx158_1 := hc_ HB hx158_1; replace hx158_2 := hc_ HB hx158_2; replace hx158_0 := (cell_far (p := ⟨gb155, 0, none⟩) ab_ (.string ((rd_T76 l0_0 x3_1).f0))).trans hx158_0; replace hx158_1 := (cell_far (p := ⟨gb155, 0, none⟩) ab_ (.string ((rd_T76 l0_0 x3_1).f0))).trans hx158_1; replace hx158_2 := (cell_far (p := ⟨gb155, 0, none⟩) ab_ (.string ((rd_T76 l0_0 x3_1).f0))).trans hx158_2; replace hx158_0 := (cell_far (p := ⟨gb155, 1, none⟩) ab_ (.string ((rd_T76 l0_0 x3_1).f1))).trans hx158_0; replace hx158_1 := (cell_far (p := ⟨gb155, 1, none⟩) ab_ (.string ((rd_T76 l0_0 x3_1).f1))).trans hx158_1; replace hx158_2 := (cell_far (p := ⟨gb155, 1, none⟩) ab_ (.string ((rd_T76 l0_0 x3_1).f1))).trans hx158_2; replace hx158_0 := (cell_far (p := ⟨gb155, 2, none⟩) ab_ (.int .i64 ((rd_T76 l0_0 x3_1).f2))).trans hx158_0; replace hx158_1 := (cell_far (p := ⟨gb155, 2, none⟩) ab_ (.int .i64 ((rd_T76 l0_0 x3_1).f2))).trans hx158_1; replace hx158_2 := (cell_far (p := ⟨gb155, 2, none⟩) ab_ (.int .i64 ((rd_T76 l0_0 x3_1).f2))).trans hx158_2; (try have hy158_0 := fun (n_ : Nat) => (show (((((w29.drewN n_).setCell ⟨gb155, 0, none⟩ (.string ((rd_T76 l0_0 x3_1).f0))).setCell ⟨gb155, 1, none⟩ (.string ((rd_T76 l0_0 x3_1).f1))).setCell ⟨gb155, 2, none⟩ (.int .i64 ((rd_T76 l0_0 x3_1).f2)))).cell? _ = some _ from hx158_0)); (try have hy158_1 := fun (n_ : Nat) => (show (((((w29.drewN n_).setCell ⟨gb155, 0, none⟩ (.string ((rd_T76 l0_0 x3_1).f0))).setCell ⟨gb155, 1, none⟩ (.string ((rd_T76 l0_0 x3_1).f1))).setCell ⟨gb155, 2, none⟩ (.int .i64 ((rd_T76 l0_0 x3_1).f2)))).cell? _ = some _ from hx158_1)); (try have hy158_2 := fun (n_ : Nat) => (show (((((w29.drewN n_).setCell ⟨gb155, 0, none⟩ (.string ((rd_T76 l0_0 x3_1).f0))).setCell ⟨gb155, 1, none⟩ (.string ((rd_T76 l0_0 x3_1).f1))).setCell ⟨gb155, 2, none⟩ (.int .i64 ((rd_T76 l0_0 x3_1).f2)))).cell? _ = some _ from hx158_2)); clear hn158_0; clear hn158_1; clear hn158_2; replace p158 := eq_true p158; replace q158 := eq_true q158)); try go_wp2_with (first | ((with_reducible refine gate_dst (N := 4) rfl ?_); (try (refine gate_guard (by rfl) ?_; dsimp only)); refine bx_ (N := 4) (cs := #[.string (⟨#[]⟩ : ByteArray), .string (⟨#[]⟩ : ByteArray), .int .i64 0]) (t := 76) ?_; intro gb155 hg w29 hbox hb; have BK155 := mk_ (hbox); have GW155 : Aside0 (w.heap.size ≤ gb155) := bz_ hg; have GE155 := GW155; have NB153_155 := bl_ BK153 hg; have NB155_153 := bg_ BK153 hg; replace BK153 := bb_ BK153 hb; replace HB := bs_ HB hb; clear hb hbox hg; have hnb30 := NB155_153.out; have hnc30 := NB153_155.out; obtain ⟨hcz31_0, hcz31_1, hcz31_2, hfz31_0, hfz31_1, hfz31_2⟩ := b3_ BK155) | (go_at_call 39; (with_reducible refine (spec_l03Name.calls ((rd_T76 l0_0 x3_1).f0) true _ A9.out).mono ?_); rintro e w' ⟨rfl, ⟨nd, rfl⟩⟩; (try first | exact ⟨rfl, _, World.drewN_drewN _ _ _⟩ | exact ⟨rfl, _, Eq.trans (World.drewN_drewN _ _ _) (congrArg (World.drewN _) (Nat.add_assoc _ _ _))⟩)) | (go_at_call 61; (with_reducible refine (spec_l01In.calls ((rd_T76 l0_0 x3_1).f2) 0 (((rd_T76 l0_0 x3_1).f1).size : Int) true _ A16.out).mono ?_); rintro e w' ⟨rfl, ⟨nd, rfl⟩⟩; (try first | exact ⟨rfl, _, World.drewN_drewN _ _ _⟩ | exact ⟨rfl, _, Eq.trans (World.drewN_drewN _ _ _) (congrArg (World.drewN _) (Nat.add_assoc _ _ _))⟩); obtain ⟨hcz32_0, hfz32_0⟩ := b1_ BK153; have p158 : 0 ≤ ((ji19) : Int) := od_; have q158 : (ji19) < (l0_0.length : Int) := od_; obtain ⟨ad158, e158, hx158_0, hx158_1, hx158_2⟩ := at_T76 HR0_0.out (ji19) p158 q158; obtain rfl : ad154 = ad158 := (by injection e158); have hn158_0 : ad154.block ≠ gb155 := Nat.ne_of_lt (Nat.lt_of_lt_of_le (by have := World.block_lt_of_cell? _ _ hx158_0; first | rwa [add_block] at this | exact this) GW155.out); have hn158_1 : ad154.block ≠ gb155 := Nat.ne_of_lt (Nat.lt_of_lt_of_le (by have := World.block_lt_of_cell? _ _ hx158_0; first | rwa [add_block] at this | exact this) GW155.out); have hn158_2 : ad154.block ≠ gb155 := Nat.ne_of_lt (Nat.lt_of_lt_of_le (by have := World.block_lt_of_cell? _ _ hx158_0; first | rwa [add_block] at this | exact this) GW155.out); replace hx158_0 := hc_ HB hx158_0; replace hx158_1 := hc_ HB hx158_1; replace hx158_2 := hc_ HB hx158_2; replace hx158_0 := (cell_far (p := ⟨gb155, 0, none⟩) ab_ (.string ((rd_T76 l0_0 x3_1).f0))).trans hx158_0; replace hx158_1 := (cell_far (p := ⟨gb155, 0, none⟩) ab_ (.string ((rd_T76 l0_0 x3_1).f0))).trans hx158_1; replace hx158_2 := (cell_far (p := ⟨gb155, 0, none⟩) ab_ (.string ((rd_T76 l0_0 x3_1).f0))).trans hx158_2; replace hx158_0 := (cell_far (p := ⟨gb155, 1, none⟩) ab_ (.string ((rd_T76 l0_0 x3_1).f1))).trans hx158_0; replace hx158_1 := (cell_far (p := ⟨gb155, 1, none⟩) ab_ (.string ((rd_T76 l0_0 x3_1).f1))).trans hx158_1; replace hx158_2 := (cell_far (p := ⟨gb155, 1, none⟩) ab_ (.string ((rd_T76 l0_0 x3_1).f1))).trans hx158_2; replace hx158_0 := (cell_far (p := ⟨gb155, 2, none⟩) ab_ (.int .i64 ((rd_T76 l0_0 x3_1).f2))).trans hx158_0; replace hx158_1 := (cell_far (p := ⟨gb155, 2, none⟩) ab_ (.int .i64 ((rd_T76 l0_0 x3_1).f2))).trans hx158_1; replace hx158_2 := (cell_far (p := ⟨gb155, 2, none⟩) ab_ (.int .i64 ((rd_T76 l0_0 x3_1).f2))).trans hx158_2; (try have hy158_0 := fun (n_ : Nat) => (show (((((w29.drewN n_).setCell ⟨gb155, 0, none⟩ (.string ((rd_T76 l0_0 x3_1).f0))).setCell ⟨gb155, 1, none⟩ (.string ((rd_T76 l0_0 x3_1).f1))).setCell ⟨gb155, 2, none⟩ (.int .i64 ((rd_T76 l0_0 x3_1).f2)))).cell? _ = some _ from hx158_0)); (try have hy158_1 := fun (n_ : Nat) => (show (((((w29.drewN n_).setCell ⟨gb155, 0, none⟩ (.string ((rd_T76 l0_0 x3_1).f0))).setCell ⟨gb155, 1, none⟩ (.string ((rd_T76 l0_0 x3_1).f1))).setCell ⟨gb155, 2, none⟩ (.int .i64 ((rd_T76 l0_0 x3_1).f2)))).cell? _ = some _ from hx158_1)); (try have hy158_2 := fun (n_ : Nat) => (show (((((w29.drewN n_).setCell ⟨gb155, 0, none⟩ (.string ((rd_T76 l0_0 x3_1).f0))).setCell ⟨gb155, 1, none⟩ (.string ((rd_T76 l0_0 x3_1).f1))).setCell ⟨gb155, 2, none⟩ (.int .i64 ((rd_T76 l0_0 x3_1).f2)))).cell? _ = some _ from hx158_2)); clear hn158_0; clear hn158_1; clear hn158_2; replace p158 := eq_true p158; replace q158 := eq_true q158)))
             go_ret
             exact ⟨by first | rfl | (simp [errW_none, errW_some] <;> rfl) | (simp only [← hji19]; first | rfl | (simp [errW_none, errW_some] <;> rfl)) | (simp [*, errW_none, errW_some] <;> rfl), bw_ HB⟩
           ·rw [if_neg c21] at H
            exact absurd H (by simp)
          ·rw [if_neg c20] at H
           exact absurd H (by simp)
         ·rw [if_neg c18] at H
          have c18b0 : decide (0 < x3_1) = false := decide_eq_false c18
          clear c18
          have H' := Aside0.mk H
          clear H
          have hcz33_0 : wr.cell? ⟨gb153, 0, none⟩ = some (.slice A0_0 l0_0.length c0_0) := bc_ BK153 0
          have hfz33_0 := blk_frozen BK153.out 0
          have p154 : 0 ≤ (x3_1 : Int) := od_
          have q154 : x3_1 < (l0_0.length : Int) := od_
          obtain ⟨ad154, e154, hx154_0, hx154_1, hx154_2⟩ := at_T76 HR0_0.out x3_1 p154 q154
          cases e154
          replace hx154_0 := hc_ HB hx154_0
          replace hx154_1 := hc_ HB hx154_1
          replace hx154_2 := hc_ HB hx154_2
          replace p154 := eq_true p154
          replace q154 := eq_true q154
          go_wp2_with (first | ((with_reducible refine gate_dst (N := 4) rfl ?_); (try (refine gate_guard (by rfl) ?_; dsimp only)); refine bx_ (N := 4) (cs := #[.string (⟨#[]⟩ : ByteArray), .string (⟨#[]⟩ : ByteArray), .int .i64 0]) (t := 76) ?_; intro gb155 hg w34 hbox hb; have BK155 := mk_ (hbox); have GW155 : Aside0 (w.heap.size ≤ gb155) := bz_ hg; have GE155 := GW155; have NB153_155 := bl_ BK153 hg; have NB155_153 := bg_ BK153 hg; replace BK153 := bb_ BK153 hb; replace HB := bs_ HB hb; clear hb hbox hg; have hnb35 := NB155_153.out; have hnc35 := NB153_155.out; obtain ⟨hcz36_0, hcz36_1, hcz36_2, hfz36_0, hfz36_1, hfz36_2⟩ := b3_ BK155) | (go_at_call 39; (with_reducible refine (spec_l03Name.calls ((rd_T76 l0_0 x3_1).f0) true _ A9.out).mono ?_); rintro e w' ⟨rfl, ⟨nd, rfl⟩⟩; (try first | exact ⟨rfl, _, World.drewN_drewN _ _ _⟩ | exact ⟨rfl, _, Eq.trans (World.drewN_drewN _ _ _) (congrArg (World.drewN _) (Nat.add_assoc _ _ _))⟩)) | (go_at_call 61; (with_reducible refine (spec_l01In.calls ((rd_T76 l0_0 x3_1).f2) 0 (((rd_T76 l0_0 x3_1).f1).size : Int) true _ A16.out).mono ?_); rintro e w' ⟨rfl, ⟨nd, rfl⟩⟩; (try first | exact ⟨rfl, _, World.drewN_drewN _ _ _⟩ | exact ⟨rfl, _, Eq.trans (World.drewN_drewN _ _ _) (congrArg (World.drewN _) (Nat.add_assoc _ _ _))⟩)))
          repeat (go_quiet (first | ((with_reducible refine gate_dst (N := 4) rfl ?_); (try (refine gate_guard (by rfl) ?_; dsimp only)); refine bx_ (N := 4) (cs := #[.string (⟨#[]⟩ : ByteArray), .string (⟨#[]⟩ : ByteArray), .int .i64 0]) (t := 76) ?_; intro gb155 hg w34 hbox hb; have BK155 := mk_ (hbox); have GW155 : Aside0 (w.heap.size ≤ gb155) := bz_ hg; have GE155 := GW155; have NB153_155 := bl_ BK153 hg; have NB155_153 := bg_ BK153 hg; replace BK153 := bb_ BK153 hb; replace HB := bs_ HB hb; clear hb hbox hg; have hnb35 := NB155_153.out; have hnc35 := NB153_155.out; obtain ⟨hcz36_0, hcz36_1, hcz36_2, hfz36_0, hfz36_1, hfz36_2⟩ := b3_ BK155) | (go_at_call 39; (with_reducible refine (spec_l03Name.calls ((rd_T76 l0_0 x3_1).f0) true _ A9.out).mono ?_); rintro e w' ⟨rfl, ⟨nd, rfl⟩⟩; (try first | exact ⟨rfl, _, World.drewN_drewN _ _ _⟩ | exact ⟨rfl, _, Eq.trans (World.drewN_drewN _ _ _) (congrArg (World.drewN _) (Nat.add_assoc _ _ _))⟩)) | (go_at_call 61; (with_reducible refine (spec_l01In.calls ((rd_T76 l0_0 x3_1).f2) 0 (((rd_T76 l0_0 x3_1).f1).size : Int) true _ A16.out).mono ?_); rintro e w' ⟨rfl, ⟨nd, rfl⟩⟩; (try first | exact ⟨rfl, _, World.drewN_drewN _ _ _⟩ | exact ⟨rfl, _, Eq.trans (World.drewN_drewN _ _ _) (congrArg (World.drewN _) (Nat.add_assoc _ _ _))⟩))); try go_wp2_with (first | ((with_reducible refine gate_dst (N := 4) rfl ?_); (try (refine gate_guard (by rfl) ?_; dsimp only)); refine bx_ (N := 4) (cs := #[.string (⟨#[]⟩ : ByteArray), .string (⟨#[]⟩ : ByteArray), .int .i64 0]) (t := 76) ?_; intro gb155 hg w34 hbox hb; have BK155 := mk_ (hbox); have GW155 : Aside0 (w.heap.size ≤ gb155) := bz_ hg; have GE155 := GW155; have NB153_155 := bl_ BK153 hg; have NB155_153 := bg_ BK153 hg; replace BK153 := bb_ BK153 hb; replace HB := bs_ HB hb; clear hb hbox hg; have hnb35 := NB155_153.out; have hnc35 := NB153_155.out; obtain ⟨hcz36_0, hcz36_1, hcz36_2, hfz36_0, hfz36_1, hfz36_2⟩ := b3_ BK155) | (go_at_call 39; (with_reducible refine (spec_l03Name.calls ((rd_T76 l0_0 x3_1).f0) true _ A9.out).mono ?_); rintro e w' ⟨rfl, ⟨nd, rfl⟩⟩; (try first | exact ⟨rfl, _, World.drewN_drewN _ _ _⟩ | exact ⟨rfl, _, Eq.trans (World.drewN_drewN _ _ _) (congrArg (World.drewN _) (Nat.add_assoc _ _ _))⟩)) | (go_at_call 61; (with_reducible refine (spec_l01In.calls ((rd_T76 l0_0 x3_1).f2) 0 (((rd_T76 l0_0 x3_1).f1).size : Int) true _ A16.out).mono ?_); rintro e w' ⟨rfl, ⟨nd, rfl⟩⟩; (try first | exact ⟨rfl, _, World.drewN_drewN _ _ _⟩ | exact ⟨rfl, _, Eq.trans (World.drewN_drewN _ _ _) (congrArg (World.drewN _) (Nat.add_assoc _ _ _))⟩))))
          go_roundg k1
          case measure => have := HK1.out; omega
          case rel => exact ⟨(wrap64 (x3_1 + 1)), (by first | rfl | (simp; done) | (simp [*]; done)), H', ⟨by have := HK1.out; omega⟩, ⟨bf_⟩, ⟨bw_ HB⟩⟩
        ·replace c17 := Bool.eq_false_iff.mpr c17
         subst c17
         have H1 : (some false) = some r := by rw [if_neg (show ¬ (false = true) by decide)] at H; exact H
         clear H
         have H := H1
         clear H1
         obtain rfl := Option.some.inj H
         have hcz37_0 : wr.cell? ⟨gb153, 0, none⟩ = some (.slice A0_0 l0_0.length c0_0) := bc_ BK153 0
         have hfz37_0 := blk_frozen BK153.out 0
         have p154 : 0 ≤ (x3_1 : Int) := od_
         have q154 : x3_1 < (l0_0.length : Int) := od_
         obtain ⟨ad154, e154, hx154_0, hx154_1, hx154_2⟩ := at_T76 HR0_0.out x3_1 p154 q154
         cases e154
         replace hx154_0 := hc_ HB hx154_0
         replace hx154_1 := hc_ HB hx154_1
         replace hx154_2 := hc_ HB hx154_2
         replace p154 := eq_true p154
         replace q154 := eq_true q154
         go_wp2_with (first | ((with_reducible refine gate_dst (N := 4) rfl ?_); (try (refine gate_guard (by rfl) ?_; dsimp only)); refine bx_ (N := 4) (cs := #[.string (⟨#[]⟩ : ByteArray), .string (⟨#[]⟩ : ByteArray), .int .i64 0]) (t := 76) ?_; intro gb155 hg w38 hbox hb; have BK155 := mk_ (hbox); have GW155 : Aside0 (w.heap.size ≤ gb155) := bz_ hg; have GE155 := GW155; have NB153_155 := bl_ BK153 hg; have NB155_153 := bg_ BK153 hg; replace BK153 := bb_ BK153 hb; replace HB := bs_ HB hb; clear hb hbox hg; have hnb39 := NB155_153.out; have hnc39 := NB153_155.out; obtain ⟨hcz40_0, hcz40_1, hcz40_2, hfz40_0, hfz40_1, hfz40_2⟩ := b3_ BK155) | (go_at_call 39; (with_reducible refine (spec_l03Name.calls ((rd_T76 l0_0 x3_1).f0) true _ A9.out).mono ?_); rintro e w' ⟨rfl, ⟨nd, rfl⟩⟩; (try first | exact ⟨rfl, _, World.drewN_drewN _ _ _⟩ | exact ⟨rfl, _, Eq.trans (World.drewN_drewN _ _ _) (congrArg (World.drewN _) (Nat.add_assoc _ _ _))⟩)) | (go_at_call 61; (with_reducible refine (spec_l01In.calls ((rd_T76 l0_0 x3_1).f2) 0 (((rd_T76 l0_0 x3_1).f1).size : Int) false _ A16.out).mono ?_); rintro e w' ⟨rfl, ⟨nd, rfl⟩⟩; (try first | exact ⟨rfl, _, World.drewN_drewN _ _ _⟩ | exact ⟨rfl, _, Eq.trans (World.drewN_drewN _ _ _) (congrArg (World.drewN _) (Nat.add_assoc _ _ _))⟩)))
         repeat (go_quiet (first | ((with_reducible refine gate_dst (N := 4) rfl ?_); (try (refine gate_guard (by rfl) ?_; dsimp only)); refine bx_ (N := 4) (cs := #[.string (⟨#[]⟩ : ByteArray), .string (⟨#[]⟩ : ByteArray), .int .i64 0]) (t := 76) ?_; intro gb155 hg w38 hbox hb; have BK155 := mk_ (hbox); have GW155 : Aside0 (w.heap.size ≤ gb155) := bz_ hg; have GE155 := GW155; have NB153_155 := bl_ BK153 hg; have NB155_153 := bg_ BK153 hg; replace BK153 := bb_ BK153 hb; replace HB := bs_ HB hb; clear hb hbox hg; have hnb39 := NB155_153.out; have hnc39 := NB153_155.out; obtain ⟨hcz40_0, hcz40_1, hcz40_2, hfz40_0, hfz40_1, hfz40_2⟩ := b3_ BK155) | (go_at_call 39; (with_reducible refine (spec_l03Name.calls ((rd_T76 l0_0 x3_1).f0) true _ A9.out).mono ?_); rintro e w' ⟨rfl, ⟨nd, rfl⟩⟩; (try first | exact ⟨rfl, _, World.drewN_drewN _ _ _⟩ | exact ⟨rfl, _, Eq.trans (World.drewN_drewN _ _ _) (congrArg (World.drewN _) (Nat.add_assoc _ _ _))⟩)) | (go_at_call 61; (with_reducible refine (spec_l01In.calls ((rd_T76 l0_0 x3_1).f2) 0 (((rd_T76 l0_0 x3_1).f1).size : Int) false _ A16.out).mono ?_); rintro e w' ⟨rfl, ⟨nd, rfl⟩⟩; (try first | exact ⟨rfl, _, World.drewN_drewN _ _ _⟩ | exact ⟨rfl, _, Eq.trans (World.drewN_drewN _ _ _) (congrArg (World.drewN _) (Nat.add_assoc _ _ _))⟩))); try go_wp2_with (first | ((with_reducible refine gate_dst (N := 4) rfl ?_); (try (refine gate_guard (by rfl) ?_; dsimp only)); refine bx_ (N := 4) (cs := #[.string (⟨#[]⟩ : ByteArray), .string (⟨#[]⟩ : ByteArray), .int .i64 0]) (t := 76) ?_; intro gb155 hg w38 hbox hb; have BK155 := mk_ (hbox); have GW155 : Aside0 (w.heap.size ≤ gb155) := bz_ hg; have GE155 := GW155; have NB153_155 := bl_ BK153 hg; have NB155_153 := bg_ BK153 hg; replace BK153 := bb_ BK153 hb; replace HB := bs_ HB hb; clear hb hbox hg; have hnb39 := NB155_153.out; have hnc39 := NB153_155.out; obtain ⟨hcz40_0, hcz40_1, hcz40_2, hfz40_0, hfz40_1, hfz40_2⟩ := b3_ BK155) | (go_at_call 39; (with_reducible refine (spec_l03Name.calls ((rd_T76 l0_0 x3_1).f0) true _ A9.out).mono ?_); rintro e w' ⟨rfl, ⟨nd, rfl⟩⟩; (try first | exact ⟨rfl, _, World.drewN_drewN _ _ _⟩ | exact ⟨rfl, _, Eq.trans (World.drewN_drewN _ _ _) (congrArg (World.drewN _) (Nat.add_assoc _ _ _))⟩)) | (go_at_call 61; (with_reducible refine (spec_l01In.calls ((rd_T76 l0_0 x3_1).f2) 0 (((rd_T76 l0_0 x3_1).f1).size : Int) false _ A16.out).mono ?_); rintro e w' ⟨rfl, ⟨nd, rfl⟩⟩; (try first | exact ⟨rfl, _, World.drewN_drewN _ _ _⟩ | exact ⟨rfl, _, Eq.trans (World.drewN_drewN _ _ _) (congrArg (World.drewN _) (Nat.add_assoc _ _ _))⟩))))
         go_ret
         exact ⟨er_, bw_ HB⟩
      ·replace c10 := Bool.eq_false_iff.mpr c10
       subst c10
       have H1 : (some false) = some r := by rw [if_neg (show ¬ (false = true) by decide)] at H; exact H
       clear H
       have H := H1
       clear H1
       obtain rfl := Option.some.inj H
       have hcz41_0 : wr.cell? ⟨gb153, 0, none⟩ = some (.slice A0_0 l0_0.length c0_0) := bc_ BK153 0
       have hfz41_0 := blk_frozen BK153.out 0
       have p154 : 0 ≤ (x3_1 : Int) := od_
       have q154 : x3_1 < (l0_0.length : Int) := od_
       obtain ⟨ad154, e154, hx154_0, hx154_1, hx154_2⟩ := at_T76 HR0_0.out x3_1 p154 q154
       cases e154
       replace hx154_0 := hc_ HB hx154_0
       replace hx154_1 := hc_ HB hx154_1
       replace hx154_2 := hc_ HB hx154_2
       replace p154 := eq_true p154
       replace q154 := eq_true q154
       go_wp2_with (first | ((with_reducible refine gate_dst (N := 4) rfl ?_); (try (refine gate_guard (by rfl) ?_; dsimp only)); refine bx_ (N := 4) (cs := #[.string (⟨#[]⟩ : ByteArray), .string (⟨#[]⟩ : ByteArray), .int .i64 0]) (t := 76) ?_; intro gb155 hg w42 hbox hb; have BK155 := mk_ (hbox); have GW155 : Aside0 (w.heap.size ≤ gb155) := bz_ hg; have GE155 := GW155; have NB153_155 := bl_ BK153 hg; have NB155_153 := bg_ BK153 hg; replace BK153 := bb_ BK153 hb; replace HB := bs_ HB hb; clear hb hbox hg; have hnb43 := NB155_153.out; have hnc43 := NB153_155.out; obtain ⟨hcz44_0, hcz44_1, hcz44_2, hfz44_0, hfz44_1, hfz44_2⟩ := b3_ BK155) | (go_at_call 39; (with_reducible refine (spec_l03Name.calls ((rd_T76 l0_0 x3_1).f0) false _ A9.out).mono ?_); rintro e w' ⟨rfl, ⟨nd, rfl⟩⟩; (try first | exact ⟨rfl, _, World.drewN_drewN _ _ _⟩ | exact ⟨rfl, _, Eq.trans (World.drewN_drewN _ _ _) (congrArg (World.drewN _) (Nat.add_assoc _ _ _))⟩)))
       repeat (go_quiet (first | ((with_reducible refine gate_dst (N := 4) rfl ?_); (try (refine gate_guard (by rfl) ?_; dsimp only)); refine bx_ (N := 4) (cs := #[.string (⟨#[]⟩ : ByteArray), .string (⟨#[]⟩ : ByteArray), .int .i64 0]) (t := 76) ?_; intro gb155 hg w42 hbox hb; have BK155 := mk_ (hbox); have GW155 : Aside0 (w.heap.size ≤ gb155) := bz_ hg; have GE155 := GW155; have NB153_155 := bl_ BK153 hg; have NB155_153 := bg_ BK153 hg; replace BK153 := bb_ BK153 hb; replace HB := bs_ HB hb; clear hb hbox hg; have hnb43 := NB155_153.out; have hnc43 := NB153_155.out; obtain ⟨hcz44_0, hcz44_1, hcz44_2, hfz44_0, hfz44_1, hfz44_2⟩ := b3_ BK155) | (go_at_call 39; (with_reducible refine (spec_l03Name.calls ((rd_T76 l0_0 x3_1).f0) false _ A9.out).mono ?_); rintro e w' ⟨rfl, ⟨nd, rfl⟩⟩; (try first | exact ⟨rfl, _, World.drewN_drewN _ _ _⟩ | exact ⟨rfl, _, Eq.trans (World.drewN_drewN _ _ _) (congrArg (World.drewN _) (Nat.add_assoc _ _ _))⟩))); try go_wp2_with (first | ((with_reducible refine gate_dst (N := 4) rfl ?_); (try (refine gate_guard (by rfl) ?_; dsimp only)); refine bx_ (N := 4) (cs := #[.string (⟨#[]⟩ : ByteArray), .string (⟨#[]⟩ : ByteArray), .int .i64 0]) (t := 76) ?_; intro gb155 hg w42 hbox hb; have BK155 := mk_ (hbox); have GW155 : Aside0 (w.heap.size ≤ gb155) := bz_ hg; have GE155 := GW155; have NB153_155 := bl_ BK153 hg; have NB155_153 := bg_ BK153 hg; replace BK153 := bb_ BK153 hb; replace HB := bs_ HB hb; clear hb hbox hg; have hnb43 := NB155_153.out; have hnc43 := NB153_155.out; obtain ⟨hcz44_0, hcz44_1, hcz44_2, hfz44_0, hfz44_1, hfz44_2⟩ := b3_ BK155) | (go_at_call 39; (with_reducible refine (spec_l03Name.calls ((rd_T76 l0_0 x3_1).f0) false _ A9.out).mono ?_); rintro e w' ⟨rfl, ⟨nd, rfl⟩⟩; (try first | exact ⟨rfl, _, World.drewN_drewN _ _ _⟩ | exact ⟨rfl, _, Eq.trans (World.drewN_drewN _ _ _) (congrArg (World.drewN _) (Nat.add_assoc _ _ _))⟩))))
       go_ret
       exact ⟨er_, bw_ HB⟩
     ·rw [if_neg c8] at H
      exact absurd H (by simp)
    ·rw [if_neg c7] at H
     have c7b0 : decide (x3_1 < (l0_0.length : Int)) = false := decide_eq_false c7
     clear c7
     obtain rfl := Option.some.inj H
     have hcz45_0 : wr.cell? ⟨gb153, 0, none⟩ = some (.slice A0_0 l0_0.length c0_0) := bc_ BK153 0
     have hfz45_0 := blk_frozen BK153.out 0
     go_wp2
     repeat (go_quiet (fail); try go_wp2)
     go_ret
     exact ⟨er_, bw_ HB⟩

/-! ### spec_l03At: function 40 -/
def spec_l03At.l0 : Nat → ByteArray → Int → List (S76) → Option (Int)
 | 0, _, _, _ => none
 | k + 1, x1, x5, x160000 => if x5 < (x160000.length : Int) then (if 0 ≤ x5 then (if ((rd_T76 x160000 x5).f0).toList = x1.toList then (some x5) else (spec_l03At.l0 k x1 (wrap64 (x5 + 1)) x160000)) else (none)) else (some (-1))
def spec_l03At.f (k : Nat) (l0_0 : List (S76)) (a1 : ByteArray) : Option (Int) := spec_l03At.l0 k a1 0 l0_0
theorem spec_l03At.mono_l : ∀ k, (∀ y0 y1 y2, LeO (spec_l03At.l0 k y0 y1 y2) (spec_l03At.l0 (k + 1) y0 y1 y2))
 | 0 => fun _ _ _ r h => by simp [spec_l03At.l0] at h
 | k + 1 => by
  have ih0 := spec_l03At.mono_l k
  ·intro y0 y1 y2
   unfold spec_l03At.l0
   repeat' first
   | (with_reducible exact ih0 _ _ _)
   | (with_reducible exact LeO.refl _)
   | (with_reducible exact LeO.none _)
   | (with_reducible refine LeO.ite ?_ ?_)
   | (with_reducible refine LeO.bind ?_ (fun _ => ?_))
   | exact ih0 _ _ _
   | exact LeO.none _
   | refine LeO.ite ?_ ?_
   | refine LeO.bind ?_ (fun _ => ?_)
theorem spec_l03At.mono : ∀ a0 a1 k, LeO (spec_l03At.f k a0 a1) (spec_l03At.f (k + 1) a0 a1) := by
 intro a0 a1 k
 have ih0 := spec_l03At.mono_l k
 unfold spec_l03At.f
 repeat' first
   | (with_reducible exact ih0 _ _ _)
   | (with_reducible exact LeO.refl _)
   | (with_reducible exact LeO.none _)
   | (with_reducible refine LeO.ite ?_ ?_)
   | (with_reducible refine LeO.bind ?_ (fun _ => ?_))
   | exact ih0 _ _ _
   | exact LeO.none _
   | refine LeO.ite ?_ ?_
   | refine LeO.bind ?_ (fun _ => ?_)
set_option maxHeartbeats 8000000 in
set_option maxRecDepth 100000 in
theorem spec_l03At.calls (k : Nat) (A0_0 : Option Addr) (c0_0 : Nat) (l0_0 : List (S76)) (a1 : ByteArray) (r : Int) (w : World) (hr0_0 : Kd.C k76 w A0_0 l0_0.length l0_0) (hc0_0 : l0_0.length ≤ c0_0) (h : spec_l03At.f k l0_0 a1 = some r) :
  Calls Try.prog 40 #[.agg #[.slice A0_0 l0_0.length c0_0], .string a1] w fun e w' => e = .returned (.int .i64 r) ∧ Below w.heap.size w w' := by
 have hu31 := Try.underlying31
 have HR0_0 := Aside0.mk hr0_0
 have HC0_0 := Aside0.mk hc0_0
 clear hr0_0 hc0_0
 have HB := mk_ (Below.refl w.heap.size w)
 have H : (spec_l03At.l0 k a1 0 l0_0) = some r := h
 clear h
 have H' := Aside0.mk H
 clear H
 go_enter Try.func40, Try.ntmps40
 go_wp2_with (first | ((with_reducible refine gate_dst (N := 2) rfl ?_); refine bx_ (N := 2) (cs := #[.slice A0_0 l0_0.length c0_0]) (t := 31) ?_; intro gb159 hg w3 hbox hb; have BK159 := mk_ (hbox); have GW159 : Aside0 (w.heap.size ≤ gb159) := bz_ hg; have GE159 := GW159; replace HB := bs_ HB hb; clear hb hbox hg))
 go_loopg [5] k (fun kq v5 w' => ∃ (x5_1 : Int), v5 = .int .i64 x5_1 ∧ Aside0 (spec_l03At.l0 kq a1 x5_1 l0_0 = some r) ∧ Aside0 (kq ≤ k) ∧ Aside0 (w'.heap[gb159]? = some (.cells #[(.slice A0_0 l0_0.length c0_0)] 31 (0, 0))) ∧ Aside0 (Below w.heap.size w w'))
 case atStart => exact ⟨(0), (by first | rfl | (simp; done) | (simp [*]; done)), H', ⟨Nat.le_refl _⟩, ⟨bf_⟩, ⟨bw_ HB⟩⟩
 case round =>
  clear H'
  try clear p2
  obtain ⟨x5_1, rfl, HA, HK1, BK159, HB⟩ := hrel
  cases gk with
  | zero => exact absurd HA.out (by simp [spec_l03At.l0])
  | succ k1 =>
   have H := HA.out
   clear HA
   simp only [spec_l03At.l0] at H
   by_cases c4 : x5_1 < (l0_0.length : Int)
   ·rw [if_pos c4] at H
    have c4b0 : decide (x5_1 < (l0_0.length : Int)) = true := decide_eq_true c4
    clear c4
    by_cases c5 : 0 ≤ x5_1
    ·rw [if_pos c5] at H
     have c5b0 : decide (0 ≤ x5_1) = true := decide_eq_true c5
     clear c5
     by_cases c6 : ((rd_T76 l0_0 x5_1).f0).toList = a1.toList
     ·rw [if_pos c6] at H
      have c6b0 : (((rd_T76 l0_0 x5_1).f0).toList == a1.toList) = true := beq_iff_eq.mpr c6
      have c6b1 : (((rd_T76 l0_0 x5_1).f0).toList != a1.toList) = false := bne_eq_false_iff_eq.mpr c6
      clear c6
      obtain rfl := Option.some.inj H
      have hcz7_0 : wr.cell? ⟨gb159, 0, none⟩ = some (.slice A0_0 l0_0.length c0_0) := bc_ BK159 0
      have hfz7_0 := blk_frozen BK159.out 0
      have p160 : 0 ≤ (x5_1 : Int) := od_
      have q160 : x5_1 < (l0_0.length : Int) := od_
      obtain ⟨ad160, e160, hx160_0, hx160_1, hx160_2⟩ := at_T76 HR0_0.out x5_1 p160 q160
      cases e160
      replace hx160_0 := hc_ HB hx160_0
      replace hx160_1 := hc_ HB hx160_1
      replace hx160_2 := hc_ HB hx160_2
      replace p160 := eq_true p160
      replace q160 := eq_true q160
      go_wp2
      go_ret
      exact ⟨er_, bw_ HB⟩
     ·rw [if_neg c6] at H
      have c6b0 : (((rd_T76 l0_0 x5_1).f0).toList == a1.toList) = false := beq_eq_false_iff_ne.mpr c6
      have c6b1 : (((rd_T76 l0_0 x5_1).f0).toList != a1.toList) = true := bne_iff_ne.mpr c6
      have H' := Aside0.mk H
      clear H
      have hcz8_0 : wr.cell? ⟨gb159, 0, none⟩ = some (.slice A0_0 l0_0.length c0_0) := bc_ BK159 0
      have hfz8_0 := blk_frozen BK159.out 0
      have p160 : 0 ≤ (x5_1 : Int) := od_
      have q160 : x5_1 < (l0_0.length : Int) := od_
      obtain ⟨ad160, e160, hx160_0, hx160_1, hx160_2⟩ := at_T76 HR0_0.out x5_1 p160 q160
      cases e160
      replace hx160_0 := hc_ HB hx160_0
      replace hx160_1 := hc_ HB hx160_1
      replace hx160_2 := hc_ HB hx160_2
      replace p160 := eq_true p160
      replace q160 := eq_true q160
      go_wp2
      go_roundg k1
      case measure => have := HK1.out; omega
      case rel => exact ⟨(wrap64 (x5_1 + 1)), (by first | rfl | (simp; done) | (simp [*]; done)), H', ⟨by have := HK1.out; omega⟩, ⟨bf_⟩, ⟨bw_ HB⟩⟩
    ·rw [if_neg c5] at H
     exact absurd H (by simp)
   ·rw [if_neg c4] at H
    have c4b0 : decide (x5_1 < (l0_0.length : Int)) = false := decide_eq_false c4
    clear c4
    obtain rfl := Option.some.inj H
    have hcz9_0 : wr.cell? ⟨gb159, 0, none⟩ = some (.slice A0_0 l0_0.length c0_0) := bc_ BK159 0
    have hfz9_0 := blk_frozen BK159.out 0
    go_wp2
    go_ret
    exact ⟨er_, bw_ HB⟩

end Go.Proofs.Ythbaoefbccdioaa.QFnExactDoActs
