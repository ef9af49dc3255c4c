/- Written by this session's own program (wip/tpl/pp.py): what the law's functions come to, and that the machine's calls do just that. -/
import Derived.Test.YtgnmlgoadkhceaaGreatDoorQFnExactShedActsx0
import Derived.Test.YtgnmlgoadkhceaaGreatDoorQFnExactShedActsx11
import Derived.Test.YtgnmlgoadkhceaaGreatDoorQFnExactShedActsx14
namespace Go.Proofs.YtgnmlgoadkhceaaGreatDoor.QFnExactShedActs
open Go.RowKit Go.Proofs.YtgnmlgoadkhceaaGreatDoorW.PrintWords Go.Proofs.YtgnmlgoadkhceaaGreatDoorW.PrintLast Go.Proofs.YtgnmlgoadkhceaaGreatDoorW.PrintMore
attribute [local go_sem] Go.Proofs.YtgnmlgoadkhceaaGreatDoor.Sem.string_geq Go.Proofs.YtgnmlgoadkhceaaGreatDoor.Sem.string_leq Go.Proofs.YtgnmlgoadkhceaaGreatDoor.Sem.string_gtr
attribute [local go_sem] max2_int min2_int max_two min_two max_three min_three max_four min_four   -- for this text's walks alone
set_option linter.unusedVariables false
set_option linter.unusedSimpArgs false

/-! ### impl_NewestSnap: function 19 -/
def impl_NewestSnap.l0 : Nat → Bool → List (S57) → Int → Int → Int → Int → List Int → ByteArray → Option (Int × Int × List Int × ByteArray × Bool)
 | 0, _, _, _, _, _, _, _, _ => none
 | k + 1, x5, x16, x17, x18, x435000, x435001, x435002, x435003 => if x18 < x17 then (if 0 ≤ x18 then (if x18 < (x16.length : Int) then ((impl_numberOf.f ((rd_T57 x16 x18).f0) (⟨#[115]⟩ : ByteArray) 1000000).bind fun t438 => ((impl_ReadSnap.f k ((rd_T57 x16 x18).f1)).bind fun bt439 => (if t438 ≥ 0 then (if bt439.2.2.2.2 = true then (if bt439.1 = t438 then (if x5 = true then (if t438 > x435000 then (impl_NewestSnap.l0 k true x16 x17 (wrap64 (x18 + 1)) bt439.1 bt439.2.1 bt439.2.2.1 bt439.2.2.2.1) else (impl_NewestSnap.l0 k x5 x16 x17 (wrap64 (x18 + 1)) x435000 x435001 x435002 x435003)) else (impl_NewestSnap.l0 k true x16 x17 (wrap64 (x18 + 1)) bt439.1 bt439.2.1 bt439.2.2.1 bt439.2.2.2.1)) else (impl_NewestSnap.l0 k x5 x16 x17 (wrap64 (x18 + 1)) x435000 x435001 x435002 x435003)) else (impl_NewestSnap.l0 k x5 x16 x17 (wrap64 (x18 + 1)) x435000 x435001 x435002 x435003)) else (impl_NewestSnap.l0 k x5 x16 x17 (wrap64 (x18 + 1)) x435000 x435001 x435002 x435003)))) else (none)) else (none)) else (some (x435000, x435001, x435002, x435003, x5))
def impl_NewestSnap.f (k : Nat) (l0_0 : List (S57)) : Option (Int × Int × List Int × ByteArray × Bool) := (impl_DiskOk.f k l0_0).bind fun t435 => (if t435 = true then (impl_NewestSnap.l0 k false l0_0 (l0_0.length : Int) 0 0 0 ([] : List Int) (⟨#[]⟩ : ByteArray)) else (some (0, 0, ([] : List Int), (⟨#[]⟩ : ByteArray), false)))
theorem impl_NewestSnap.mono_l : ∀ k, (∀ y0 y1 y2 y3 y4 y5 y6 y7, LeO (impl_NewestSnap.l0 k y0 y1 y2 y3 y4 y5 y6 y7) (impl_NewestSnap.l0 (k + 1) y0 y1 y2 y3 y4 y5 y6 y7))
 | 0 => fun _ _ _ _ _ _ _ _ r h => by simp [impl_NewestSnap.l0] at h
 | k + 1 => by
  have ih0 := impl_NewestSnap.mono_l k
  ·intro y0 y1 y2 y3 y4 y5 y6 y7
   unfold impl_NewestSnap.l0
   repeat' first
   | (with_reducible exact ih0 _ _ _ _ _ _ _ _)
   | (with_reducible exact impl_ReadSnap.mono _ _)
   | (with_reducible exact LeO.refl _)
   | (with_reducible refine LeO.ite ?_ ?_)
   | (with_reducible refine LeO.bind ?_ (fun _ => ?_))
theorem impl_NewestSnap.mono : ∀ a0 k, LeO (impl_NewestSnap.f k a0) (impl_NewestSnap.f (k + 1) a0) := by
 intro a0 k
 have ih0 := impl_NewestSnap.mono_l k
 unfold impl_NewestSnap.f
 repeat' first
   | (with_reducible exact ih0 _ _ _ _ _ _ _ _)
   | (with_reducible exact impl_DiskOk.mono _ _)
   | (with_reducible exact LeO.refl _)
   | (with_reducible refine LeO.ite ?_ ?_)
   | (with_reducible refine LeO.bind ?_ (fun _ => ?_))
set_option maxHeartbeats 8000000 in
set_option maxRecDepth 100000 in
theorem impl_NewestSnap.calls (k : Nat) (A0_0 : Option Addr) (c0_0 : Nat) (l0_0 : List (S57)) (r1 : Int) (r2 : Int) (r3 : List Int) (r4 : ByteArray) (r5 : Bool) (w : World) (hT : Tab2 w) (hr0_0 : Kd.C k57 w A0_0 l0_0.length l0_0) (hc0_0 : l0_0.length ≤ c0_0) (h : impl_NewestSnap.f k l0_0 = some (r1, r2, r3, r4, r5)) :
  Calls Tryz.prog 19 #[.agg #[.slice A0_0 l0_0.length c0_0]] w fun e w' => ∃ v2_ : Value, e = .returned (.tuple #[.agg #[.int .i64 r1, .int .i64 r2, v2_, .string r4], .bool r5]) ∧ Kd.R (Kd.int .i64) 3 w' w.heap.size (fun _ => True) v2_ r3 ∧ Below w.heap.size w w' := by
 have hu36 := Tryz.underlying36
 have hu47 := Tryz.underlying47
 have hu57 := Tryz.underlying57
 have HR0_0 := Aside0.mk hr0_0
 have HC0_0 := Aside0.mk hc0_0
 clear hr0_0 hc0_0
 have HT := Aside0.mk hT
 clear hT
 have HB := mk_ (Below.refl w.heap.size w)
 have H : ((impl_DiskOk.f k l0_0).bind fun t435 => (if t435 = true then (impl_NewestSnap.l0 k false l0_0 (l0_0.length : Int) 0 0 0 ([] : List Int) (⟨#[]⟩ : ByteArray)) else (some (0, 0, ([] : List Int), (⟨#[]⟩ : ByteArray), false)))) = some (r1, r2, r3, r4, r5) := h
 clear h
 replace H := Option.bind_eq_some_iff.mp H
 obtain ⟨t435, A20, H⟩ := H
 replace H : (if t435 = true then (impl_NewestSnap.l0 k false l0_0 (l0_0.length : Int) 0 0 0 ([] : List Int) (⟨#[]⟩ : ByteArray)) else (some (0, 0, ([] : List Int), (⟨#[]⟩ : ByteArray), false))) = some (r1, r2, r3, r4, r5) := H
 have A2 := Aside0.mk A20
 clear A20
 by_cases c3 : t435 = true
 ·subst c3
  have H1 : (impl_NewestSnap.l0 k false l0_0 (l0_0.length : Int) 0 0 0 ([] : List Int) (⟨#[]⟩ : ByteArray)) = some (r1, r2, r3, r4, r5) := by rw [if_pos rfl] at H; exact H
  clear H
  have H := H1
  clear H1
  have H' := Aside0.mk H
  clear H
  go_enter Tryz.func19, Tryz.ntmps19
  go_wp2_with (first | ((with_reducible refine gate_dst (N := 1) rfl ?_); refine bx_ (N := 1) (cs := #[.slice A0_0 l0_0.length c0_0]) (t := 36) ?_; intro gb432 hg w4 hbox hb; have BK432 := mk_ (hbox); have GW432 : Aside0 (w.heap.size ≤ gb432) := bz_ hg; have GE432 := GW432; replace HB := bs_ HB hb; clear hb hbox hg) | ((with_reducible refine gate_dst (N := 2) rfl ?_); refine bx_ (N := 2) (cs := #[.int .i64 0, .int .i64 0, .slice none 0 0, .string (⟨#[]⟩ : ByteArray)]) (t := 47) ?_; intro gb433 hg w5 hbox hb; have BK433 := mk_ (hbox); have GW433 : Aside0 (w.heap.size ≤ gb433) := bz_ hg; have GE433 := GW433; have NB432_433 := bl_ BK432 hg; have NB433_432 := bg_ BK432 hg; replace BK432 := bb_ BK432 hb; replace HB := bs_ HB hb; clear hb hbox hg) | ((with_reducible refine gate_dst (N := 4) rfl ?_); refine bx_ (N := 4) (cs := #[.int .i64 0, .int .i64 0, .slice none 0 0, .string (⟨#[]⟩ : ByteArray)]) (t := 47) ?_; intro gb434 hg w6 hbox hb; have BK434 := mk_ (hbox); have GW434 : Aside0 (w.heap.size ≤ gb434) := bz_ hg; have GE434 := GW434; have NB432_434 := bl_ BK432 hg; have NB434_432 := bg_ BK432 hg; have NB433_434 := bl_ BK433 hg; have NB434_433 := bg_ BK433 hg; replace BK432 := bb_ BK432 hb; replace BK433 := bb_ BK433 hb; replace HB := bs_ HB hb; clear hb hbox hg; have hnb7 := NB432_433.out; have hnc7 := NB433_432.out; have hnb8 := NB432_434.out; have hnc8 := NB434_432.out; obtain ⟨hcz9_0, hfz9_0⟩ := b1_ BK432) | ((with_reducible refine gate_callee (f := 36) rfl ?_); refine goesL_ (some 12) rfl rfl Tryz.func36 (by kernel_rfl) rfl #[.agg #[.slice A0_0 l0_0.length c0_0]] rfl ga_ ?_; (with_reducible refine (impl_DiskOk.calls k _ _ l0_0 true _ ?side1 ?side2 A2.out).mono ?_); (case side1 => repeat (first | exact (Kd.C_below HR0_0.out HB.out) | (with_reducible refine Kd.C_alloc ?_ _) | (with_reducible refine Kd.C_drewN ?_ _) | (with_reducible refine Kd.C_drew ?_))); (case side2 => exact HC0_0.out); rintro e w10 ⟨rfl, hb⟩; refine ⟨_, rfl, ?_⟩; replace BK432 := bb_ BK432 hb; replace BK433 := bb_ BK433 hb; replace BK434 := bb_ BK434 hb; replace HB := bs_ HB hb; (try clear hb); obtain ⟨hcz11_0, hfz11_0⟩ := b1_ BK432))
  go_loopg [5, 18] k (fun kq v5 v18 w' => ∃ (x5_1 : Bool) (x18_1 : Int) (x435000_1 : Int) (x435001_1 : Int) (x435002_1 : List Int) (x435003_1 : ByteArray) (u435002 : Value), v5 = .bool x5_1 ∧ v18 = .int .i64 x18_1 ∧ Aside0 (impl_NewestSnap.l0 kq x5_1 l0_0 (l0_0.length : Int) x18_1 x435000_1 x435001_1 x435002_1 x435003_1 = some (r1, r2, r3, r4, r5)) ∧ Aside0 (kq ≤ k) ∧ Aside0 (Kd.R (Kd.int .i64) 3 w' w.heap.size (fun _ => True) u435002 x435002_1) ∧ Aside0 (w'.heap[gb432]? = some (.cells #[(.slice A0_0 l0_0.length c0_0)] 36 (0, 0))) ∧ Aside0 (w'.heap[gb433]? = some (.cells #[.int .i64 0, .int .i64 0, (.slice none 0 0), .string (⟨#[]⟩ : ByteArray)] 47 (0, 0))) ∧ Aside0 (w'.heap[gb434]? = some (.cells #[.int .i64 x435000_1, .int .i64 x435001_1, u435002, .string x435003_1] 47 (0, 0))) ∧ Aside0 (Below w.heap.size w w'))
  case atStart => exact ⟨(false), (0), (0), (0), (([] : List Int)), ((⟨#[]⟩ : ByteArray)), (.slice none 0 0), (by first | rfl | (simp; done) | (simp [*]; done)), (by first | rfl | (simp; done) | (simp [*]; done)), H', ⟨Nat.le_refl _⟩, ⟨by first | exact Kd.R_nil _ _ _ _ _ | exact Kd.N_nil _ _ _ _ _ | exact Kd.V_nil _ _ _ _ _ | exact Kd.Q_nil _ _ _ _ _ | exact Kd.S_nil _ _ _ _ _⟩, ⟨bf_⟩, ⟨bf_⟩, ⟨bf_⟩, ⟨bw_ HB⟩⟩
  case round =>
   clear H'
   try clear c1
   try clear p2
   try clear c3
   try clear c7
   try clear c8
   try clear hcz11_0
   try clear hcz9_0
   try clear hfz11_0
   try clear hfz9_0
   obtain ⟨x5_1, x18_1, x435000_1, x435001_1, x435002_1, x435003_1, u435002, rfl, rfl, HA, HK1, HO_435002, BK432, BK433, BK434, HB⟩ := hrel
   cases gk with
   | zero => exact absurd HA.out (by simp [impl_NewestSnap.l0])
   | succ k1 =>
    have H := HA.out
    clear HA
    simp only [impl_NewestSnap.l0] at H
    by_cases c12 : x18_1 < (l0_0.length : Int)
    ·rw [if_pos c12] at H
     have c12b0 : decide (x18_1 < (l0_0.length : Int)) = true := decide_eq_true c12
     clear c12
     by_cases c13 : 0 ≤ x18_1
     ·rw [if_pos c13] at H
      have c13b0 : decide (0 ≤ x18_1) = true := decide_eq_true c13
      clear c13
      by_cases c14 : x18_1 < (l0_0.length : Int)
      ·rw [if_pos c14] at H
       have c14b0 : decide (x18_1 < (l0_0.length : Int)) = true := decide_eq_true c14
       clear c14
       replace H := Option.bind_eq_some_iff.mp H
       obtain ⟨t438, A150, H⟩ := H
       replace H : ((impl_ReadSnap.f k1 ((rd_T57 l0_0 x18_1).f1)).bind fun bt439 => (if t438 ≥ 0 then (if bt439.2.2.2.2 = true then (if bt439.1 = t438 then (if x5_1 = true then (if t438 > x435000_1 then (impl_NewestSnap.l0 k1 true l0_0 (l0_0.length : Int) (wrap64 (x18_1 + 1)) bt439.1 bt439.2.1 bt439.2.2.1 bt439.2.2.2.1) else (impl_NewestSnap.l0 k1 x5_1 l0_0 (l0_0.length : Int) (wrap64 (x18_1 + 1)) x435000_1 x435001_1 x435002_1 x435003_1)) else (impl_NewestSnap.l0 k1 true l0_0 (l0_0.length : Int) (wrap64 (x18_1 + 1)) bt439.1 bt439.2.1 bt439.2.2.1 bt439.2.2.2.1)) else (impl_NewestSnap.l0 k1 x5_1 l0_0 (l0_0.length : Int) (wrap64 (x18_1 + 1)) x435000_1 x435001_1 x435002_1 x435003_1)) else (impl_NewestSnap.l0 k1 x5_1 l0_0 (l0_0.length : Int) (wrap64 (x18_1 + 1)) x435000_1 x435001_1 x435002_1 x435003_1)) else (impl_NewestSnap.l0 k1 x5_1 l0_0 (l0_0.length : Int) (wrap64 (x18_1 + 1)) x435000_1 x435001_1 x435002_1 x435003_1))) = some (r1, r2, r3, r4, r5) := H
       have A15 := Aside0.mk A150
       clear A150
       replace H := Option.bind_eq_some_iff.mp H
       obtain ⟨⟨t439, t440, t441, t444, t445⟩, A160, H⟩ := H
       replace H : (if t438 ≥ 0 then (if t445 = true then (if t439 = t438 then (if x5_1 = true then (if t438 > x435000_1 then (impl_NewestSnap.l0 k1 true l0_0 (l0_0.length : Int) (wrap64 (x18_1 + 1)) t439 t440 t441 t444) else (impl_NewestSnap.l0 k1 x5_1 l0_0 (l0_0.length : Int) (wrap64 (x18_1 + 1)) x435000_1 x435001_1 x435002_1 x435003_1)) else (impl_NewestSnap.l0 k1 true l0_0 (l0_0.length : Int) (wrap64 (x18_1 + 1)) t439 t440 t441 t444)) else (impl_NewestSnap.l0 k1 x5_1 l0_0 (l0_0.length : Int) (wrap64 (x18_1 + 1)) x435000_1 x435001_1 x435002_1 x435003_1)) else (impl_NewestSnap.l0 k1 x5_1 l0_0 (l0_0.length : Int) (wrap64 (x18_1 + 1)) x435000_1 x435001_1 x435002_1 x435003_1)) else (impl_NewestSnap.l0 k1 x5_1 l0_0 (l0_0.length : Int) (wrap64 (x18_1 + 1)) x435000_1 x435001_1 x435002_1 x435003_1)) = some (r1, r2, r3, r4, r5) := H
       have A16 := Aside0.mk A160
       clear A160
       by_cases c17 : t438 ≥ 0
       ·rw [if_pos c17] at H
        have c17b0 : decide (0 ≤ t438) = true := decide_eq_true c17
        clear c17
        by_cases c18 : t445 = true
        ·subst c18
         have H1 : (if t439 = t438 then (if x5_1 = true then (if t438 > x435000_1 then (impl_NewestSnap.l0 k1 true l0_0 (l0_0.length : Int) (wrap64 (x18_1 + 1)) t439 t440 t441 t444) else (impl_NewestSnap.l0 k1 x5_1 l0_0 (l0_0.length : Int) (wrap64 (x18_1 + 1)) x435000_1 x435001_1 x435002_1 x435003_1)) else (impl_NewestSnap.l0 k1 true l0_0 (l0_0.length : Int) (wrap64 (x18_1 + 1)) t439 t440 t441 t444)) else (impl_NewestSnap.l0 k1 x5_1 l0_0 (l0_0.length : Int) (wrap64 (x18_1 + 1)) x435000_1 x435001_1 x435002_1 x435003_1)) = some (r1, r2, r3, r4, r5) := by rw [if_pos rfl] at H; exact H
         clear H
         have H := H1
         clear H1
         by_cases c19 : t439 = t438
         ·rw [if_pos c19] at H
          have c19b0 : (t439 == t438) = true := beq_iff_eq.mpr c19
          have c19b1 : (t439 != t438) = false := bne_eq_false_iff_eq.mpr c19
          clear c19
          by_cases c20 : x5_1 = true
          ·subst c20
           have H1 : (if t438 > x435000_1 then (impl_NewestSnap.l0 k1 true l0_0 (l0_0.length : Int) (wrap64 (x18_1 + 1)) t439 t440 t441 t444) else (impl_NewestSnap.l0 k1 true l0_0 (l0_0.length : Int) (wrap64 (x18_1 + 1)) x435000_1 x435001_1 x435002_1 x435003_1)) = some (r1, r2, r3, r4, r5) := by rw [if_pos rfl] at H; exact H
           clear H
           have H := H1
           clear H1
           by_cases c21 : t438 > x435000_1
           ·rw [if_pos c21] at H
            have c21b0 : decide (x435000_1 < t438) = true := decide_eq_true c21
            clear c21
            have H' := Aside0.mk H
            clear H
            have p436 : 0 ≤ (x18_1 : Int) := od_
            have q436 : x18_1 < (l0_0.length : Int) := od_
            obtain ⟨ad436, e436, hx436_0, hx436_1, hx436_2⟩ := at_T57 HR0_0.out x18_1 p436 q436
            cases e436
            replace hx436_0 := hc_ HB hx436_0
            replace hx436_1 := hc_ HB hx436_1
            replace hx436_2 := hc_ HB hx436_2
            replace p436 := eq_true p436
            replace q436 := eq_true q436
            go_wp2_with (first | ((with_reducible refine gate_dst (N := 7) rfl ?_); refine bx_ (N := 7) (cs := #[.string (⟨#[]⟩ : ByteArray), .string (⟨#[]⟩ : ByteArray), .int .i64 0]) (t := 57) ?_; intro gb437 hg w22 hbox hb; have BK437 := mk_ (hbox); have GW437 : Aside0 (w.heap.size ≤ gb437) := bz_ hg; have GE437 := GW437; have NB432_437 := bl_ BK432 hg; have NB437_432 := bg_ BK432 hg; have NB433_437 := bl_ BK433 hg; have NB437_433 := bg_ BK433 hg; have NB434_437 := bl_ BK434 hg; have NB437_434 := bg_ BK434 hg; replace HO_435002 := rb_ HO_435002 hb; replace BK432 := bb_ BK432 hb; replace BK433 := bb_ BK433 hb; replace BK434 := bb_ BK434 hb; replace HB := bs_ HB hb; clear hb hbox hg; have hnb23 := NB437_432.out; have hnc23 := NB432_437.out; have hnb24 := NB437_433.out; have hnc24 := NB433_437.out; have hnb25 := NB437_434.out; have hnc25 := NB434_437.out; obtain ⟨hcz26_0, hcz26_1, hcz26_2, hfz26_0, hfz26_1, hfz26_2⟩ := b3_ BK437) | ((with_reducible refine gate_callee (f := 35) rfl ?_); refine goesL_ (some 24) rfl rfl Tryz.func35 (by kernel_rfl) rfl #[.string ((rd_T57 l0_0 x18_1).f0), .string (⟨#[115]⟩ : ByteArray), .int .i64 1000000] rfl ga_ ?_; (with_reducible refine (impl_numberOf.calls ((rd_T57 l0_0 x18_1).f0) (⟨#[115]⟩ : ByteArray) 1000000 t438 _ (tab22 HT HB) A15.out).mono ?_); rintro e w27 ⟨rfl, hb⟩; refine ⟨_, rfl, ?_⟩; replace HO_435002 := mk_ (Kd.R_below (by (with_reducible repeat (first | apply Kd.R_alloc | apply Kd.R_drewN | apply Kd.R_drew)); exact (Kd.R_mono (Kd.R_far (p := ⟨gb437, 2, none⟩) (Kd.R_far (p := ⟨gb437, 1, none⟩) (Kd.R_far (p := ⟨gb437, 0, none⟩) (Kd.R_types HO_435002.out BK437.out (by decide)) (fun _ hk => hk.2) (.string ((rd_T57 l0_0 x18_1).f0))) (fun _ hk => hk.2) (.string ((rd_T57 l0_0 x18_1).f1))) (fun _ hk => hk.2) (.int .i64 ((rd_T57 l0_0 x18_1).f2))) (fun _ h_ => h_.1))) hb); replace BK432 := mk_ (blk_below (g := gb432) (o := .cells #[.slice (some ad436) l0_0.length c0_0] 36 (0, 0)) bf_ hb); replace BK433 := mk_ (blk_below (g := gb433) (o := .cells #[.int .i64 0, .int .i64 0, .slice none 0 0, .string (⟨#[]⟩ : ByteArray)] 47 (0, 0)) bf_ hb); replace BK434 := mk_ (blk_below (g := gb434) (o := .cells #[.int .i64 x435000_1, .int .i64 x435001_1, u435002, .string x435003_1] 47 (0, 0)) bf_ hb); replace BK437 := mk_ (blk_below (g := gb437) (o := .cells #[.string ((rd_T57 l0_0 x18_1).f0), .string ((rd_T57 l0_0 x18_1).f1), .int .i64 ((rd_T57 l0_0 x18_1).f2)] 57 (0, 0)) bu_ hb); replace HB := bs_ HB hb; (try clear hb); (try clear hk); obtain ⟨hcz28_0, hcz28_1, hcz28_2, hfz28_0, hfz28_1, hfz28_2⟩ := b3_ BK437) | ((with_reducible refine gate_callee (f := 50) rfl ?_); refine goesL_ (some 28) rfl rfl Tryz.func50 (by kernel_rfl) rfl #[.string ((rd_T57 l0_0 x18_1).f1)] rfl ga_ ?_; (with_reducible refine (impl_ReadSnap.calls k1 ((rd_T57 l0_0 x18_1).f1) t439 t440 t441 t444 true _ A16.out).mono ?_); rintro e w29 ⟨v442, rfl, ho0, hb⟩; refine ⟨_, rfl, ?_⟩; have HO443 := mk_ (Kd.R_lower (Kd.R_new' ho0 (Kd.R_lt (rp_ HO_435002))) (below_size (bw_ HB))); replace HO_435002 := mk_ (Kd.R_elder' (rp_ HO_435002) (Kd.R_base ho0) hb); replace BK432 := bb_ BK432 hb; replace BK433 := bb_ BK433 hb; replace BK434 := bb_ BK434 hb; replace BK437 := bb_ BK437 hb; replace HB := bs_ HB hb; (try clear hb); (try clear hk); (try clear ho0)) | ((with_reducible refine gate_dst (N := 9) rfl ?_); refine bx_ (N := 9) (cs := #[.int .i64 0, .int .i64 0, .slice none 0 0, .string (⟨#[]⟩ : ByteArray)]) (t := 47) ?_; intro gb446 hg w30 hbox hb; have BK446 := mk_ (hbox); have GW446 : Aside0 (w.heap.size ≤ gb446) := bz_ hg; have GE446 := GW446; have NB432_446 := bl_ BK432 hg; have NB446_432 := bg_ BK432 hg; have NB433_446 := bl_ BK433 hg; have NB446_433 := bg_ BK433 hg; have NB434_446 := bl_ BK434 hg; have NB446_434 := bg_ BK434 hg; have NB437_446 := bl_ BK437 hg; have NB446_437 := bg_ BK437 hg; replace HO_435002 := rb_ HO_435002 hb; replace HO443 := rb_ HO443 hb; replace BK432 := bb_ BK432 hb; replace BK433 := bb_ BK433 hb; replace BK434 := bb_ BK434 hb; replace BK437 := bb_ BK437 hb; replace HB := bs_ HB hb; clear hb hbox hg; have hnb31 := NB446_432.out; have hnc31 := NB432_446.out; have hnb32 := NB446_433.out; have hnc32 := NB433_446.out; have hnb33 := NB446_434.out; have hnc33 := NB434_446.out; have hnb34 := NB446_437.out; have hnc34 := NB437_446.out; obtain ⟨hcz35_0, hcz35_1, hcz35_2, hcz35_3, hfz35_0, hfz35_1, hfz35_2, hfz35_3⟩ := b4_ BK446; obtain ⟨Ao36, co36, eo36⟩ := Kd.R_slice HO443.out; subst eo36; have hnb37 := NB434_432.out; have hnc37 := NB432_434.out; have hnb38 := NB434_433.out; have hnc38 := NB433_434.out; obtain ⟨hcz39_0, hcz39_1, hcz39_2, hcz39_3, hfz39_0, hfz39_1, hfz39_2, hfz39_3⟩ := b4_ BK434))
            go_roundg k1
            case measure => have := HK1.out; omega
            case rel => exact ⟨(true), (wrap64 (x18_1 + 1)), (t439), (t440), (t441), (t444), (.slice Ao36 t441.length co36), (by first | rfl | (simp; done) | (simp [*]; done)), (by first | rfl | (simp; done) | (simp [*]; done)), H', ⟨by have := HK1.out; omega⟩, ⟨by (with_reducible repeat (first | apply Kd.R_alloc | apply Kd.R_drewN | apply Kd.R_drew)); exact Kd.R_mono (Kd.R_far (p := ⟨gb434, 3, none⟩) (Kd.R_far (p := ⟨gb434, 2, none⟩) (Kd.R_far (p := ⟨gb434, 1, none⟩) (Kd.R_far (p := ⟨gb434, 0, none⟩) (Kd.R_far (p := ⟨gb446, 3, none⟩) (Kd.R_far (p := ⟨gb446, 2, none⟩) (Kd.R_far (p := ⟨gb446, 1, none⟩) (Kd.R_far (p := ⟨gb446, 0, none⟩) (Kd.R_types (Kd.R_types HO443.out BK446.out (by decide)) BK434.out (by decide)) (fun _ hk => hk.1.2) (.int .i64 t439)) (fun _ hk => hk.1.2) (.int .i64 t440)) (fun _ hk => hk.1.2) (.slice Ao36 t441.length co36)) (fun _ hk => hk.1.2) (.string t444)) (fun _ hk => hk.2) (.int .i64 t439)) (fun _ hk => hk.2) (.int .i64 t440)) (fun _ hk => hk.2) (.slice Ao36 t441.length co36)) (fun _ hk => hk.2) (.string t444)) (fun _ hk => trivial)⟩, ⟨bf_⟩, ⟨bf_⟩, ⟨bu_⟩, ⟨bw_ HB⟩⟩
           ·rw [if_neg c21] at H
            have c21b0 : decide (x435000_1 < t438) = false := decide_eq_false c21
            clear c21
            have H' := Aside0.mk H
            clear H
            have p436 : 0 ≤ (x18_1 : Int) := od_
            have q436 : x18_1 < (l0_0.length : Int) := od_
            obtain ⟨ad436, e436, hx436_0, hx436_1, hx436_2⟩ := at_T57 HR0_0.out x18_1 p436 q436
            cases e436
            replace hx436_0 := hc_ HB hx436_0
            replace hx436_1 := hc_ HB hx436_1
            replace hx436_2 := hc_ HB hx436_2
            replace p436 := eq_true p436
            replace q436 := eq_true q436
            go_wp2_with (first | ((with_reducible refine gate_dst (N := 7) rfl ?_); refine bx_ (N := 7) (cs := #[.string (⟨#[]⟩ : ByteArray), .string (⟨#[]⟩ : ByteArray), .int .i64 0]) (t := 57) ?_; intro gb437 hg w40 hbox hb; have BK437 := mk_ (hbox); have GW437 : Aside0 (w.heap.size ≤ gb437) := bz_ hg; have GE437 := GW437; have NB432_437 := bl_ BK432 hg; have NB437_432 := bg_ BK432 hg; have NB433_437 := bl_ BK433 hg; have NB437_433 := bg_ BK433 hg; have NB434_437 := bl_ BK434 hg; have NB437_434 := bg_ BK434 hg; replace HO_435002 := rb_ HO_435002 hb; replace BK432 := bb_ BK432 hb; replace BK433 := bb_ BK433 hb; replace BK434 := bb_ BK434 hb; replace HB := bs_ HB hb; clear hb hbox hg; have hnb41 := NB437_432.out; have hnc41 := NB432_437.out; have hnb42 := NB437_433.out; have hnc42 := NB433_437.out; have hnb43 := NB437_434.out; have hnc43 := NB434_437.out; obtain ⟨hcz44_0, hcz44_1, hcz44_2, hfz44_0, hfz44_1, hfz44_2⟩ := b3_ BK437) | ((with_reducible refine gate_callee (f := 35) rfl ?_); refine goesL_ (some 24) rfl rfl Tryz.func35 (by kernel_rfl) rfl #[.string ((rd_T57 l0_0 x18_1).f0), .string (⟨#[115]⟩ : ByteArray), .int .i64 1000000] rfl ga_ ?_; (with_reducible refine (impl_numberOf.calls ((rd_T57 l0_0 x18_1).f0) (⟨#[115]⟩ : ByteArray) 1000000 t438 _ (tab22 HT HB) A15.out).mono ?_); rintro e w45 ⟨rfl, hb⟩; refine ⟨_, rfl, ?_⟩; replace HO_435002 := mk_ (Kd.R_below (by (with_reducible repeat (first | apply Kd.R_alloc | apply Kd.R_drewN | apply Kd.R_drew)); exact (Kd.R_mono (Kd.R_far (p := ⟨gb437, 2, none⟩) (Kd.R_far (p := ⟨gb437, 1, none⟩) (Kd.R_far (p := ⟨gb437, 0, none⟩) (Kd.R_types HO_435002.out BK437.out (by decide)) (fun _ hk => hk.2) (.string ((rd_T57 l0_0 x18_1).f0))) (fun _ hk => hk.2) (.string ((rd_T57 l0_0 x18_1).f1))) (fun _ hk => hk.2) (.int .i64 ((rd_T57 l0_0 x18_1).f2))) (fun _ h_ => h_.1))) hb); replace BK432 := mk_ (blk_below (g := gb432) (o := .cells #[.slice (some ad436) l0_0.length c0_0] 36 (0, 0)) bf_ hb); replace BK433 := mk_ (blk_below (g := gb433) (o := .cells #[.int .i64 0, .int .i64 0, .slice none 0 0, .string (⟨#[]⟩ : ByteArray)] 47 (0, 0)) bf_ hb); replace BK434 := mk_ (blk_below (g := gb434) (o := .cells #[.int .i64 x435000_1, .int .i64 x435001_1, u435002, .string x435003_1] 47 (0, 0)) bf_ hb); replace BK437 := mk_ (blk_below (g := gb437) (o := .cells #[.string ((rd_T57 l0_0 x18_1).f0), .string ((rd_T57 l0_0 x18_1).f1), .int .i64 ((rd_T57 l0_0 x18_1).f2)] 57 (0, 0)) bu_ hb); replace HB := bs_ HB hb; (try clear hb); (try clear hk); obtain ⟨hcz46_0, hcz46_1, hcz46_2, hfz46_0, hfz46_1, hfz46_2⟩ := b3_ BK437) | ((with_reducible refine gate_callee (f := 50) rfl ?_); refine goesL_ (some 28) rfl rfl Tryz.func50 (by kernel_rfl) rfl #[.string ((rd_T57 l0_0 x18_1).f1)] rfl ga_ ?_; (with_reducible refine (impl_ReadSnap.calls k1 ((rd_T57 l0_0 x18_1).f1) t439 t440 t441 t444 true _ A16.out).mono ?_); rintro e w47 ⟨v442, rfl, ho0, hb⟩; refine ⟨_, rfl, ?_⟩; have HO443 := mk_ (Kd.R_lower (Kd.R_new' ho0 (Kd.R_lt (rp_ HO_435002))) (below_size (bw_ HB))); replace HO_435002 := mk_ (Kd.R_elder' (rp_ HO_435002) (Kd.R_base ho0) hb); replace BK432 := bb_ BK432 hb; replace BK433 := bb_ BK433 hb; replace BK434 := bb_ BK434 hb; replace BK437 := bb_ BK437 hb; replace HB := bs_ HB hb; (try clear hb); (try clear hk); (try clear ho0)) | ((with_reducible refine gate_dst (N := 9) rfl ?_); refine bx_ (N := 9) (cs := #[.int .i64 0, .int .i64 0, .slice none 0 0, .string (⟨#[]⟩ : ByteArray)]) (t := 47) ?_; intro gb446 hg w48 hbox hb; have BK446 := mk_ (hbox); have GW446 : Aside0 (w.heap.size ≤ gb446) := bz_ hg; have GE446 := GW446; have NB432_446 := bl_ BK432 hg; have NB446_432 := bg_ BK432 hg; have NB433_446 := bl_ BK433 hg; have NB446_433 := bg_ BK433 hg; have NB434_446 := bl_ BK434 hg; have NB446_434 := bg_ BK434 hg; have NB437_446 := bl_ BK437 hg; have NB446_437 := bg_ BK437 hg; replace HO_435002 := rb_ HO_435002 hb; replace HO443 := rb_ HO443 hb; replace BK432 := bb_ BK432 hb; replace BK433 := bb_ BK433 hb; replace BK434 := bb_ BK434 hb; replace BK437 := bb_ BK437 hb; replace HB := bs_ HB hb; clear hb hbox hg; have hnb49 := NB446_432.out; have hnc49 := NB432_446.out; have hnb50 := NB446_433.out; have hnc50 := NB433_446.out; have hnb51 := NB446_434.out; have hnc51 := NB434_446.out; have hnb52 := NB446_437.out; have hnc52 := NB437_446.out; obtain ⟨hcz53_0, hcz53_1, hcz53_2, hcz53_3, hfz53_0, hfz53_1, hfz53_2, hfz53_3⟩ := b4_ BK446; obtain ⟨Ao54, co54, eo54⟩ := Kd.R_slice HO443.out; subst eo54; have hnb55 := NB434_432.out; have hnc55 := NB432_434.out; have hnb56 := NB434_433.out; have hnc56 := NB433_434.out; obtain ⟨hcz57_0, hcz57_1, hcz57_2, hcz57_3, hfz57_0, hfz57_1, hfz57_2, hfz57_3⟩ := b4_ BK434))
            go_roundg k1
            case measure => have := HK1.out; omega
            case rel => exact ⟨(true), (wrap64 (x18_1 + 1)), (x435000_1), (x435001_1), (x435002_1), (x435003_1), (u435002), (by first | rfl | (simp; done) | (simp [*]; done)), (by first | rfl | (simp; done) | (simp [*]; done)), H', ⟨by have := HK1.out; omega⟩, ⟨by (with_reducible repeat (first | apply Kd.R_alloc | apply Kd.R_drewN | apply Kd.R_drew)); exact Kd.R_mono (Kd.R_far (p := ⟨gb446, 3, none⟩) (Kd.R_far (p := ⟨gb446, 2, none⟩) (Kd.R_far (p := ⟨gb446, 1, none⟩) (Kd.R_far (p := ⟨gb446, 0, none⟩) (Kd.R_types HO_435002.out BK446.out (by decide)) (fun _ hk => hk.2) (.int .i64 t439)) (fun _ hk => hk.2) (.int .i64 t440)) (fun _ hk => hk.2) (.slice Ao54 t441.length co54)) (fun _ hk => hk.2) (.string t444)) (fun _ hk => trivial)⟩, ⟨bf_⟩, ⟨bf_⟩, ⟨bf_⟩, ⟨bw_ HB⟩⟩
          ·replace c20 := Bool.eq_false_iff.mpr c20
           subst c20
           have H1 : (impl_NewestSnap.l0 k1 true l0_0 (l0_0.length : Int) (wrap64 (x18_1 + 1)) t439 t440 t441 t444) = some (r1, r2, r3, r4, r5) := by rw [if_neg (show ¬ (false = true) by decide)] at H; exact H
           clear H
           have H := H1
           clear H1
           have H' := Aside0.mk H
           clear H
           have p436 : 0 ≤ (x18_1 : Int) := od_
           have q436 : x18_1 < (l0_0.length : Int) := od_
           obtain ⟨ad436, e436, hx436_0, hx436_1, hx436_2⟩ := at_T57 HR0_0.out x18_1 p436 q436
           cases e436
           replace hx436_0 := hc_ HB hx436_0
           replace hx436_1 := hc_ HB hx436_1
           replace hx436_2 := hc_ HB hx436_2
           replace p436 := eq_true p436
           replace q436 := eq_true q436
           go_wp2_with (first | ((with_reducible refine gate_dst (N := 7) rfl ?_); refine bx_ (N := 7) (cs := #[.string (⟨#[]⟩ : ByteArray), .string (⟨#[]⟩ : ByteArray), .int .i64 0]) (t := 57) ?_; intro gb437 hg w58 hbox hb; have BK437 := mk_ (hbox); have GW437 : Aside0 (w.heap.size ≤ gb437) := bz_ hg; have GE437 := GW437; have NB432_437 := bl_ BK432 hg; have NB437_432 := bg_ BK432 hg; have NB433_437 := bl_ BK433 hg; have NB437_433 := bg_ BK433 hg; have NB434_437 := bl_ BK434 hg; have NB437_434 := bg_ BK434 hg; replace HO_435002 := rb_ HO_435002 hb; replace BK432 := bb_ BK432 hb; replace BK433 := bb_ BK433 hb; replace BK434 := bb_ BK434 hb; replace HB := bs_ HB hb; clear hb hbox hg; have hnb59 := NB437_432.out; have hnc59 := NB432_437.out; have hnb60 := NB437_433.out; have hnc60 := NB433_437.out; have hnb61 := NB437_434.out; have hnc61 := NB434_437.out; obtain ⟨hcz62_0, hcz62_1, hcz62_2, hfz62_0, hfz62_1, hfz62_2⟩ := b3_ BK437) | ((with_reducible refine gate_callee (f := 35) rfl ?_); refine goesL_ (some 24) rfl rfl Tryz.func35 (by kernel_rfl) rfl #[.string ((rd_T57 l0_0 x18_1).f0), .string (⟨#[115]⟩ : ByteArray), .int .i64 1000000] rfl ga_ ?_; (with_reducible refine (impl_numberOf.calls ((rd_T57 l0_0 x18_1).f0) (⟨#[115]⟩ : ByteArray) 1000000 t438 _ (tab22 HT HB) A15.out).mono ?_); rintro e w63 ⟨rfl, hb⟩; refine ⟨_, rfl, ?_⟩; replace HO_435002 := mk_ (Kd.R_below (by (with_reducible repeat (first | apply Kd.R_alloc | apply Kd.R_drewN | apply Kd.R_drew)); exact (Kd.R_mono (Kd.R_far (p := ⟨gb437, 2, none⟩) (Kd.R_far (p := ⟨gb437, 1, none⟩) (Kd.R_far (p := ⟨gb437, 0, none⟩) (Kd.R_types HO_435002.out BK437.out (by decide)) (fun _ hk => hk.2) (.string ((rd_T57 l0_0 x18_1).f0))) (fun _ hk => hk.2) (.string ((rd_T57 l0_0 x18_1).f1))) (fun _ hk => hk.2) (.int .i64 ((rd_T57 l0_0 x18_1).f2))) (fun _ h_ => h_.1))) hb); replace BK432 := mk_ (blk_below (g := gb432) (o := .cells #[.slice (some ad436) l0_0.length c0_0] 36 (0, 0)) bf_ hb); replace BK433 := mk_ (blk_below (g := gb433) (o := .cells #[.int .i64 0, .int .i64 0, .slice none 0 0, .string (⟨#[]⟩ : ByteArray)] 47 (0, 0)) bf_ hb); replace BK434 := mk_ (blk_below (g := gb434) (o := .cells #[.int .i64 x435000_1, .int .i64 x435001_1, u435002, .string x435003_1] 47 (0, 0)) bf_ hb); replace BK437 := mk_ (blk_below (g := gb437) (o := .cells #[.string ((rd_T57 l0_0 x18_1).f0), .string ((rd_T57 l0_0 x18_1).f1), .int .i64 ((rd_T57 l0_0 x18_1).f2)] 57 (0, 0)) bu_ hb); replace HB := bs_ HB hb; (try clear hb); (try clear hk); obtain ⟨hcz64_0, hcz64_1, hcz64_2, hfz64_0, hfz64_1, hfz64_2⟩ := b3_ BK437) | ((with_reducible refine gate_callee (f := 50) rfl ?_); refine goesL_ (some 28) rfl rfl Tryz.func50 (by kernel_rfl) rfl #[.string ((rd_T57 l0_0 x18_1).f1)] rfl ga_ ?_; (with_reducible refine (impl_ReadSnap.calls k1 ((rd_T57 l0_0 x18_1).f1) t439 t440 t441 t444 true _ A16.out).mono ?_); rintro e w65 ⟨v442, rfl, ho0, hb⟩; refine ⟨_, rfl, ?_⟩; have HO443 := mk_ (Kd.R_lower (Kd.R_new' ho0 (Kd.R_lt (rp_ HO_435002))) (below_size (bw_ HB))); replace HO_435002 := mk_ (Kd.R_elder' (rp_ HO_435002) (Kd.R_base ho0) hb); replace BK432 := bb_ BK432 hb; replace BK433 := bb_ BK433 hb; replace BK434 := bb_ BK434 hb; replace BK437 := bb_ BK437 hb; replace HB := bs_ HB hb; (try clear hb); (try clear hk); (try clear ho0)) | ((with_reducible refine gate_dst (N := 9) rfl ?_); refine bx_ (N := 9) (cs := #[.int .i64 0, .int .i64 0, .slice none 0 0, .string (⟨#[]⟩ : ByteArray)]) (t := 47) ?_; intro gb446 hg w66 hbox hb; have BK446 := mk_ (hbox); have GW446 : Aside0 (w.heap.size ≤ gb446) := bz_ hg; have GE446 := GW446; have NB432_446 := bl_ BK432 hg; have NB446_432 := bg_ BK432 hg; have NB433_446 := bl_ BK433 hg; have NB446_433 := bg_ BK433 hg; have NB434_446 := bl_ BK434 hg; have NB446_434 := bg_ BK434 hg; have NB437_446 := bl_ BK437 hg; have NB446_437 := bg_ BK437 hg; replace HO_435002 := rb_ HO_435002 hb; replace HO443 := rb_ HO443 hb; replace BK432 := bb_ BK432 hb; replace BK433 := bb_ BK433 hb; replace BK434 := bb_ BK434 hb; replace BK437 := bb_ BK437 hb; replace HB := bs_ HB hb; clear hb hbox hg; have hnb67 := NB446_432.out; have hnc67 := NB432_446.out; have hnb68 := NB446_433.out; have hnc68 := NB433_446.out; have hnb69 := NB446_434.out; have hnc69 := NB434_446.out; have hnb70 := NB446_437.out; have hnc70 := NB437_446.out; obtain ⟨hcz71_0, hcz71_1, hcz71_2, hcz71_3, hfz71_0, hfz71_1, hfz71_2, hfz71_3⟩ := b4_ BK446; obtain ⟨Ao72, co72, eo72⟩ := Kd.R_slice HO443.out; subst eo72; have hnb73 := NB434_432.out; have hnc73 := NB432_434.out; have hnb74 := NB434_433.out; have hnc74 := NB433_434.out; obtain ⟨hcz75_0, hcz75_1, hcz75_2, hcz75_3, hfz75_0, hfz75_1, hfz75_2, hfz75_3⟩ := b4_ BK434))
           go_roundg k1
           case measure => have := HK1.out; omega
           case rel => exact ⟨(true), (wrap64 (x18_1 + 1)), (t439), (t440), (t441), (t444), (.slice Ao72 t441.length co72), (by first | rfl | (simp; done) | (simp [*]; done)), (by first | rfl | (simp; done) | (simp [*]; done)), H', ⟨by have := HK1.out; omega⟩, ⟨by (with_reducible repeat (first | apply Kd.R_alloc | apply Kd.R_drewN | apply Kd.R_drew)); exact Kd.R_mono (Kd.R_far (p := ⟨gb434, 3, none⟩) (Kd.R_far (p := ⟨gb434, 2, none⟩) (Kd.R_far (p := ⟨gb434, 1, none⟩) (Kd.R_far (p := ⟨gb434, 0, none⟩) (Kd.R_far (p := ⟨gb446, 3, none⟩) (Kd.R_far (p := ⟨gb446, 2, none⟩) (Kd.R_far (p := ⟨gb446, 1, none⟩) (Kd.R_far (p := ⟨gb446, 0, none⟩) (Kd.R_types (Kd.R_types HO443.out BK446.out (by decide)) BK434.out (by decide)) (fun _ hk => hk.1.2) (.int .i64 t439)) (fun _ hk => hk.1.2) (.int .i64 t440)) (fun _ hk => hk.1.2) (.slice Ao72 t441.length co72)) (fun _ hk => hk.1.2) (.string t444)) (fun _ hk => hk.2) (.int .i64 t439)) (fun _ hk => hk.2) (.int .i64 t440)) (fun _ hk => hk.2) (.slice Ao72 t441.length co72)) (fun _ hk => hk.2) (.string t444)) (fun _ hk => trivial)⟩, ⟨bf_⟩, ⟨bf_⟩, ⟨bu_⟩, ⟨bw_ HB⟩⟩
         ·rw [if_neg c19] at H
          have c19b0 : (t439 == t438) = false := beq_eq_false_iff_ne.mpr c19
          have c19b1 : (t439 != t438) = true := bne_iff_ne.mpr c19
          have H' := Aside0.mk H
          clear H
          have p436 : 0 ≤ (x18_1 : Int) := od_
          have q436 : x18_1 < (l0_0.length : Int) := od_
          obtain ⟨ad436, e436, hx436_0, hx436_1, hx436_2⟩ := at_T57 HR0_0.out x18_1 p436 q436
          cases e436
          replace hx436_0 := hc_ HB hx436_0
          replace hx436_1 := hc_ HB hx436_1
          replace hx436_2 := hc_ HB hx436_2
          replace p436 := eq_true p436
          replace q436 := eq_true q436
          go_wp2_with (first | ((with_reducible refine gate_dst (N := 7) rfl ?_); refine bx_ (N := 7) (cs := #[.string (⟨#[]⟩ : ByteArray), .string (⟨#[]⟩ : ByteArray), .int .i64 0]) (t := 57) ?_; intro gb437 hg w76 hbox hb; have BK437 := mk_ (hbox); have GW437 : Aside0 (w.heap.size ≤ gb437) := bz_ hg; have GE437 := GW437; have NB432_437 := bl_ BK432 hg; have NB437_432 := bg_ BK432 hg; have NB433_437 := bl_ BK433 hg; have NB437_433 := bg_ BK433 hg; have NB434_437 := bl_ BK434 hg; have NB437_434 := bg_ BK434 hg; replace HO_435002 := rb_ HO_435002 hb; replace BK432 := bb_ BK432 hb; replace BK433 := bb_ BK433 hb; replace BK434 := bb_ BK434 hb; replace HB := bs_ HB hb; clear hb hbox hg; have hnb77 := NB437_432.out; have hnc77 := NB432_437.out; have hnb78 := NB437_433.out; have hnc78 := NB433_437.out; have hnb79 := NB437_434.out; have hnc79 := NB434_437.out; obtain ⟨hcz80_0, hcz80_1, hcz80_2, hfz80_0, hfz80_1, hfz80_2⟩ := b3_ BK437) | ((with_reducible refine gate_callee (f := 35) rfl ?_); refine goesL_ (some 24) rfl rfl Tryz.func35 (by kernel_rfl) rfl #[.string ((rd_T57 l0_0 x18_1).f0), .string (⟨#[115]⟩ : ByteArray), .int .i64 1000000] rfl ga_ ?_; (with_reducible refine (impl_numberOf.calls ((rd_T57 l0_0 x18_1).f0) (⟨#[115]⟩ : ByteArray) 1000000 t438 _ (tab22 HT HB) A15.out).mono ?_); rintro e w81 ⟨rfl, hb⟩; refine ⟨_, rfl, ?_⟩; replace HO_435002 := mk_ (Kd.R_below (by (with_reducible repeat (first | apply Kd.R_alloc | apply Kd.R_drewN | apply Kd.R_drew)); exact (Kd.R_mono (Kd.R_far (p := ⟨gb437, 2, none⟩) (Kd.R_far (p := ⟨gb437, 1, none⟩) (Kd.R_far (p := ⟨gb437, 0, none⟩) (Kd.R_types HO_435002.out BK437.out (by decide)) (fun _ hk => hk.2) (.string ((rd_T57 l0_0 x18_1).f0))) (fun _ hk => hk.2) (.string ((rd_T57 l0_0 x18_1).f1))) (fun _ hk => hk.2) (.int .i64 ((rd_T57 l0_0 x18_1).f2))) (fun _ h_ => h_.1))) hb); replace BK432 := mk_ (blk_below (g := gb432) (o := .cells #[.slice (some ad436) l0_0.length c0_0] 36 (0, 0)) bf_ hb); replace BK433 := mk_ (blk_below (g := gb433) (o := .cells #[.int .i64 0, .int .i64 0, .slice none 0 0, .string (⟨#[]⟩ : ByteArray)] 47 (0, 0)) bf_ hb); replace BK434 := mk_ (blk_below (g := gb434) (o := .cells #[.int .i64 x435000_1, .int .i64 x435001_1, u435002, .string x435003_1] 47 (0, 0)) bf_ hb); replace BK437 := mk_ (blk_below (g := gb437) (o := .cells #[.string ((rd_T57 l0_0 x18_1).f0), .string ((rd_T57 l0_0 x18_1).f1), .int .i64 ((rd_T57 l0_0 x18_1).f2)] 57 (0, 0)) bu_ hb); replace HB := bs_ HB hb; (try clear hb); (try clear hk); obtain ⟨hcz82_0, hcz82_1, hcz82_2, hfz82_0, hfz82_1, hfz82_2⟩ := b3_ BK437) | ((with_reducible refine gate_callee (f := 50) rfl ?_); refine goesL_ (some 28) rfl rfl Tryz.func50 (by kernel_rfl) rfl #[.string ((rd_T57 l0_0 x18_1).f1)] rfl ga_ ?_; (with_reducible refine (impl_ReadSnap.calls k1 ((rd_T57 l0_0 x18_1).f1) t439 t440 t441 t444 true _ A16.out).mono ?_); rintro e w83 ⟨v442, rfl, ho0, hb⟩; refine ⟨_, rfl, ?_⟩; have HO443 := mk_ (Kd.R_lower (Kd.R_new' ho0 (Kd.R_lt (rp_ HO_435002))) (below_size (bw_ HB))); replace HO_435002 := mk_ (Kd.R_elder' (rp_ HO_435002) (Kd.R_base ho0) hb); replace BK432 := bb_ BK432 hb; replace BK433 := bb_ BK433 hb; replace BK434 := bb_ BK434 hb; replace BK437 := bb_ BK437 hb; replace HB := bs_ HB hb; (try clear hb); (try clear hk); (try clear ho0)) | ((with_reducible refine gate_dst (N := 9) rfl ?_); refine bx_ (N := 9) (cs := #[.int .i64 0, .int .i64 0, .slice none 0 0, .string (⟨#[]⟩ : ByteArray)]) (t := 47) ?_; intro gb446 hg w84 hbox hb; have BK446 := mk_ (hbox); have GW446 : Aside0 (w.heap.size ≤ gb446) := bz_ hg; have GE446 := GW446; have NB432_446 := bl_ BK432 hg; have NB446_432 := bg_ BK432 hg; have NB433_446 := bl_ BK433 hg; have NB446_433 := bg_ BK433 hg; have NB434_446 := bl_ BK434 hg; have NB446_434 := bg_ BK434 hg; have NB437_446 := bl_ BK437 hg; have NB446_437 := bg_ BK437 hg; replace HO_435002 := rb_ HO_435002 hb; replace HO443 := rb_ HO443 hb; replace BK432 := bb_ BK432 hb; replace BK433 := bb_ BK433 hb; replace BK434 := bb_ BK434 hb; replace BK437 := bb_ BK437 hb; replace HB := bs_ HB hb; clear hb hbox hg; have hnb85 := NB446_432.out; have hnc85 := NB432_446.out; have hnb86 := NB446_433.out; have hnc86 := NB433_446.out; have hnb87 := NB446_434.out; have hnc87 := NB434_446.out; have hnb88 := NB446_437.out; have hnc88 := NB437_446.out; obtain ⟨hcz89_0, hcz89_1, hcz89_2, hcz89_3, hfz89_0, hfz89_1, hfz89_2, hfz89_3⟩ := b4_ BK446; obtain ⟨Ao90, co90, eo90⟩ := Kd.R_slice HO443.out; subst eo90))
          go_roundg k1
          case measure => have := HK1.out; omega
          case rel => exact ⟨(x5_1), (wrap64 (x18_1 + 1)), (x435000_1), (x435001_1), (x435002_1), (x435003_1), (u435002), (by first | rfl | (simp; done) | (simp [*]; done)), (by first | rfl | (simp; done) | (simp [*]; done)), H', ⟨by have := HK1.out; omega⟩, ⟨by (with_reducible repeat (first | apply Kd.R_alloc | apply Kd.R_drewN | apply Kd.R_drew)); exact Kd.R_mono (Kd.R_far (p := ⟨gb446, 3, none⟩) (Kd.R_far (p := ⟨gb446, 2, none⟩) (Kd.R_far (p := ⟨gb446, 1, none⟩) (Kd.R_far (p := ⟨gb446, 0, none⟩) (Kd.R_types HO_435002.out BK446.out (by decide)) (fun _ hk => hk.2) (.int .i64 t439)) (fun _ hk => hk.2) (.int .i64 t440)) (fun _ hk => hk.2) (.slice Ao90 t441.length co90)) (fun _ hk => hk.2) (.string t444)) (fun _ hk => trivial)⟩, ⟨bf_⟩, ⟨bf_⟩, ⟨bf_⟩, ⟨bw_ HB⟩⟩
        ·replace c18 := Bool.eq_false_iff.mpr c18
         subst c18
         have H1 : (impl_NewestSnap.l0 k1 x5_1 l0_0 (l0_0.length : Int) (wrap64 (x18_1 + 1)) x435000_1 x435001_1 x435002_1 x435003_1) = some (r1, r2, r3, r4, r5) := by rw [if_neg (show ¬ (false = true) by decide)] at H; exact H
         clear H
         have H := H1
         clear H1
         have H' := Aside0.mk H
         clear H
         have p436 : 0 ≤ (x18_1 : Int) := od_
         have q436 : x18_1 < (l0_0.length : Int) := od_
         obtain ⟨ad436, e436, hx436_0, hx436_1, hx436_2⟩ := at_T57 HR0_0.out x18_1 p436 q436
         cases e436
         replace hx436_0 := hc_ HB hx436_0
         replace hx436_1 := hc_ HB hx436_1
         replace hx436_2 := hc_ HB hx436_2
         replace p436 := eq_true p436
         replace q436 := eq_true q436
         go_wp2_with (first | ((with_reducible refine gate_dst (N := 7) rfl ?_); refine bx_ (N := 7) (cs := #[.string (⟨#[]⟩ : ByteArray), .string (⟨#[]⟩ : ByteArray), .int .i64 0]) (t := 57) ?_; intro gb437 hg w91 hbox hb; have BK437 := mk_ (hbox); have GW437 : Aside0 (w.heap.size ≤ gb437) := bz_ hg; have GE437 := GW437; have NB432_437 := bl_ BK432 hg; have NB437_432 := bg_ BK432 hg; have NB433_437 := bl_ BK433 hg; have NB437_433 := bg_ BK433 hg; have NB434_437 := bl_ BK434 hg; have NB437_434 := bg_ BK434 hg; replace HO_435002 := rb_ HO_435002 hb; replace BK432 := bb_ BK432 hb; replace BK433 := bb_ BK433 hb; replace BK434 := bb_ BK434 hb; replace HB := bs_ HB hb; clear hb hbox hg; have hnb92 := NB437_432.out; have hnc92 := NB432_437.out; have hnb93 := NB437_433.out; have hnc93 := NB433_437.out; have hnb94 := NB437_434.out; have hnc94 := NB434_437.out; obtain ⟨hcz95_0, hcz95_1, hcz95_2, hfz95_0, hfz95_1, hfz95_2⟩ := b3_ BK437) | ((with_reducible refine gate_callee (f := 35) rfl ?_); refine goesL_ (some 24) rfl rfl Tryz.func35 (by kernel_rfl) rfl #[.string ((rd_T57 l0_0 x18_1).f0), .string (⟨#[115]⟩ : ByteArray), .int .i64 1000000] rfl ga_ ?_; (with_reducible refine (impl_numberOf.calls ((rd_T57 l0_0 x18_1).f0) (⟨#[115]⟩ : ByteArray) 1000000 t438 _ (tab22 HT HB) A15.out).mono ?_); rintro e w96 ⟨rfl, hb⟩; refine ⟨_, rfl, ?_⟩; replace HO_435002 := mk_ (Kd.R_below (by (with_reducible repeat (first | apply Kd.R_alloc | apply Kd.R_drewN | apply Kd.R_drew)); exact (Kd.R_mono (Kd.R_far (p := ⟨gb437, 2, none⟩) (Kd.R_far (p := ⟨gb437, 1, none⟩) (Kd.R_far (p := ⟨gb437, 0, none⟩) (Kd.R_types HO_435002.out BK437.out (by decide)) (fun _ hk => hk.2) (.string ((rd_T57 l0_0 x18_1).f0))) (fun _ hk => hk.2) (.string ((rd_T57 l0_0 x18_1).f1))) (fun _ hk => hk.2) (.int .i64 ((rd_T57 l0_0 x18_1).f2))) (fun _ h_ => h_.1))) hb); replace BK432 := mk_ (blk_below (g := gb432) (o := .cells #[.slice (some ad436) l0_0.length c0_0] 36 (0, 0)) bf_ hb); replace BK433 := mk_ (blk_below (g := gb433) (o := .cells #[.int .i64 0, .int .i64 0, .slice none 0 0, .string (⟨#[]⟩ : ByteArray)] 47 (0, 0)) bf_ hb); replace BK434 := mk_ (blk_below (g := gb434) (o := .cells #[.int .i64 x435000_1, .int .i64 x435001_1, u435002, .string x435003_1] 47 (0, 0)) bf_ hb); replace BK437 := mk_ (blk_below (g := gb437) (o := .cells #[.string ((rd_T57 l0_0 x18_1).f0), .string ((rd_T57 l0_0 x18_1).f1), .int .i64 ((rd_T57 l0_0 x18_1).f2)] 57 (0, 0)) bu_ hb); replace HB := bs_ HB hb; (try clear hb); (try clear hk); obtain ⟨hcz97_0, hcz97_1, hcz97_2, hfz97_0, hfz97_1, hfz97_2⟩ := b3_ BK437) | ((with_reducible refine gate_callee (f := 50) rfl ?_); refine goesL_ (some 28) rfl rfl Tryz.func50 (by kernel_rfl) rfl #[.string ((rd_T57 l0_0 x18_1).f1)] rfl ga_ ?_; (with_reducible refine (impl_ReadSnap.calls k1 ((rd_T57 l0_0 x18_1).f1) t439 t440 t441 t444 false _ A16.out).mono ?_); rintro e w98 ⟨v442, rfl, ho0, hb⟩; refine ⟨_, rfl, ?_⟩; have HO443 := mk_ (Kd.R_lower (Kd.R_new' ho0 (Kd.R_lt (rp_ HO_435002))) (below_size (bw_ HB))); replace HO_435002 := mk_ (Kd.R_elder' (rp_ HO_435002) (Kd.R_base ho0) hb); replace BK432 := bb_ BK432 hb; replace BK433 := bb_ BK433 hb; replace BK434 := bb_ BK434 hb; replace BK437 := bb_ BK437 hb; replace HB := bs_ HB hb; (try clear hb); (try clear hk); (try clear ho0)) | ((with_reducible refine gate_dst (N := 9) rfl ?_); refine bx_ (N := 9) (cs := #[.int .i64 0, .int .i64 0, .slice none 0 0, .string (⟨#[]⟩ : ByteArray)]) (t := 47) ?_; intro gb446 hg w99 hbox hb; have BK446 := mk_ (hbox); have GW446 : Aside0 (w.heap.size ≤ gb446) := bz_ hg; have GE446 := GW446; have NB432_446 := bl_ BK432 hg; have NB446_432 := bg_ BK432 hg; have NB433_446 := bl_ BK433 hg; have NB446_433 := bg_ BK433 hg; have NB434_446 := bl_ BK434 hg; have NB446_434 := bg_ BK434 hg; have NB437_446 := bl_ BK437 hg; have NB446_437 := bg_ BK437 hg; replace HO_435002 := rb_ HO_435002 hb; replace HO443 := rb_ HO443 hb; replace BK432 := bb_ BK432 hb; replace BK433 := bb_ BK433 hb; replace BK434 := bb_ BK434 hb; replace BK437 := bb_ BK437 hb; replace HB := bs_ HB hb; clear hb hbox hg; have hnb100 := NB446_432.out; have hnc100 := NB432_446.out; have hnb101 := NB446_433.out; have hnc101 := NB433_446.out; have hnb102 := NB446_434.out; have hnc102 := NB434_446.out; have hnb103 := NB446_437.out; have hnc103 := NB437_446.out; obtain ⟨hcz104_0, hcz104_1, hcz104_2, hcz104_3, hfz104_0, hfz104_1, hfz104_2, hfz104_3⟩ := b4_ BK446; obtain ⟨Ao105, co105, eo105⟩ := Kd.R_slice HO443.out; subst eo105))
         go_roundg k1
         case measure => have := HK1.out; omega
         case rel => exact ⟨(x5_1), (wrap64 (x18_1 + 1)), (x435000_1), (x435001_1), (x435002_1), (x435003_1), (u435002), (by first | rfl | (simp; done) | (simp [*]; done)), (by first | rfl | (simp; done) | (simp [*]; done)), H', ⟨by have := HK1.out; omega⟩, ⟨by (with_reducible repeat (first | apply Kd.R_alloc | apply Kd.R_drewN | apply Kd.R_drew)); exact Kd.R_mono (Kd.R_far (p := ⟨gb446, 3, none⟩) (Kd.R_far (p := ⟨gb446, 2, none⟩) (Kd.R_far (p := ⟨gb446, 1, none⟩) (Kd.R_far (p := ⟨gb446, 0, none⟩) (Kd.R_types HO_435002.out BK446.out (by decide)) (fun _ hk => hk.2) (.int .i64 t439)) (fun _ hk => hk.2) (.int .i64 t440)) (fun _ hk => hk.2) (.slice Ao105 t441.length co105)) (fun _ hk => hk.2) (.string t444)) (fun _ hk => trivial)⟩, ⟨bf_⟩, ⟨bf_⟩, ⟨bf_⟩, ⟨bw_ HB⟩⟩
       ·rw [if_neg c17] at H
        have c17b0 : decide (0 ≤ t438) = false := decide_eq_false c17
        clear c17
        have H' := Aside0.mk H
        clear H
        have p436 : 0 ≤ (x18_1 : Int) := od_
        have q436 : x18_1 < (l0_0.length : Int) := od_
        obtain ⟨ad436, e436, hx436_0, hx436_1, hx436_2⟩ := at_T57 HR0_0.out x18_1 p436 q436
        cases e436
        replace hx436_0 := hc_ HB hx436_0
        replace hx436_1 := hc_ HB hx436_1
        replace hx436_2 := hc_ HB hx436_2
        replace p436 := eq_true p436
        replace q436 := eq_true q436
        go_wp2_with (first | ((with_reducible refine gate_dst (N := 7) rfl ?_); refine bx_ (N := 7) (cs := #[.string (⟨#[]⟩ : ByteArray), .string (⟨#[]⟩ : ByteArray), .int .i64 0]) (t := 57) ?_; intro gb437 hg w106 hbox hb; have BK437 := mk_ (hbox); have GW437 : Aside0 (w.heap.size ≤ gb437) := bz_ hg; have GE437 := GW437; have NB432_437 := bl_ BK432 hg; have NB437_432 := bg_ BK432 hg; have NB433_437 := bl_ BK433 hg; have NB437_433 := bg_ BK433 hg; have NB434_437 := bl_ BK434 hg; have NB437_434 := bg_ BK434 hg; replace HO_435002 := rb_ HO_435002 hb; replace BK432 := bb_ BK432 hb; replace BK433 := bb_ BK433 hb; replace BK434 := bb_ BK434 hb; replace HB := bs_ HB hb; clear hb hbox hg; have hnb107 := NB437_432.out; have hnc107 := NB432_437.out; have hnb108 := NB437_433.out; have hnc108 := NB433_437.out; have hnb109 := NB437_434.out; have hnc109 := NB434_437.out; obtain ⟨hcz110_0, hcz110_1, hcz110_2, hfz110_0, hfz110_1, hfz110_2⟩ := b3_ BK437) | ((with_reducible refine gate_callee (f := 35) rfl ?_); refine goesL_ (some 24) rfl rfl Tryz.func35 (by kernel_rfl) rfl #[.string ((rd_T57 l0_0 x18_1).f0), .string (⟨#[115]⟩ : ByteArray), .int .i64 1000000] rfl ga_ ?_; (with_reducible refine (impl_numberOf.calls ((rd_T57 l0_0 x18_1).f0) (⟨#[115]⟩ : ByteArray) 1000000 t438 _ (tab22 HT HB) A15.out).mono ?_); rintro e w111 ⟨rfl, hb⟩; refine ⟨_, rfl, ?_⟩; replace HO_435002 := mk_ (Kd.R_below (by (with_reducible repeat (first | apply Kd.R_alloc | apply Kd.R_drewN | apply Kd.R_drew)); exact (Kd.R_mono (Kd.R_far (p := ⟨gb437, 2, none⟩) (Kd.R_far (p := ⟨gb437, 1, none⟩) (Kd.R_far (p := ⟨gb437, 0, none⟩) (Kd.R_types HO_435002.out BK437.out (by decide)) (fun _ hk => hk.2) (.string ((rd_T57 l0_0 x18_1).f0))) (fun _ hk => hk.2) (.string ((rd_T57 l0_0 x18_1).f1))) (fun _ hk => hk.2) (.int .i64 ((rd_T57 l0_0 x18_1).f2))) (fun _ h_ => h_.1))) hb); replace BK432 := mk_ (blk_below (g := gb432) (o := .cells #[.slice (some ad436) l0_0.length c0_0] 36 (0, 0)) bf_ hb); replace BK433 := mk_ (blk_below (g := gb433) (o := .cells #[.int .i64 0, .int .i64 0, .slice none 0 0, .string (⟨#[]⟩ : ByteArray)] 47 (0, 0)) bf_ hb); replace BK434 := mk_ (blk_below (g := gb434) (o := .cells #[.int .i64 x435000_1, .int .i64 x435001_1, u435002, .string x435003_1] 47 (0, 0)) bf_ hb); replace BK437 := mk_ (blk_below (g := gb437) (o := .cells #[.string ((rd_T57 l0_0 x18_1).f0), .string ((rd_T57 l0_0 x18_1).f1), .int .i64 ((rd_T57 l0_0 x18_1).f2)] 57 (0, 0)) bu_ hb); replace HB := bs_ HB hb; (try clear hb); (try clear hk); obtain ⟨hcz112_0, hcz112_1, hcz112_2, hfz112_0, hfz112_1, hfz112_2⟩ := b3_ BK437) | ((with_reducible refine gate_callee (f := 50) rfl ?_); refine goesL_ (some 28) rfl rfl Tryz.func50 (by kernel_rfl) rfl #[.string ((rd_T57 l0_0 x18_1).f1)] rfl ga_ ?_; (with_reducible refine (impl_ReadSnap.calls k1 ((rd_T57 l0_0 x18_1).f1) t439 t440 t441 t444 t445 _ A16.out).mono ?_); rintro e w113 ⟨v442, rfl, ho0, hb⟩; refine ⟨_, rfl, ?_⟩; have HO443 := mk_ (Kd.R_lower (Kd.R_new' ho0 (Kd.R_lt (rp_ HO_435002))) (below_size (bw_ HB))); replace HO_435002 := mk_ (Kd.R_elder' (rp_ HO_435002) (Kd.R_base ho0) hb); replace BK432 := bb_ BK432 hb; replace BK433 := bb_ BK433 hb; replace BK434 := bb_ BK434 hb; replace BK437 := bb_ BK437 hb; replace HB := bs_ HB hb; (try clear hb); (try clear hk); (try clear ho0)) | ((with_reducible refine gate_dst (N := 9) rfl ?_); refine bx_ (N := 9) (cs := #[.int .i64 0, .int .i64 0, .slice none 0 0, .string (⟨#[]⟩ : ByteArray)]) (t := 47) ?_; intro gb446 hg w114 hbox hb; have BK446 := mk_ (hbox); have GW446 : Aside0 (w.heap.size ≤ gb446) := bz_ hg; have GE446 := GW446; have NB432_446 := bl_ BK432 hg; have NB446_432 := bg_ BK432 hg; have NB433_446 := bl_ BK433 hg; have NB446_433 := bg_ BK433 hg; have NB434_446 := bl_ BK434 hg; have NB446_434 := bg_ BK434 hg; have NB437_446 := bl_ BK437 hg; have NB446_437 := bg_ BK437 hg; replace HO_435002 := rb_ HO_435002 hb; replace HO443 := rb_ HO443 hb; replace BK432 := bb_ BK432 hb; replace BK433 := bb_ BK433 hb; replace BK434 := bb_ BK434 hb; replace BK437 := bb_ BK437 hb; replace HB := bs_ HB hb; clear hb hbox hg; have hnb115 := NB446_432.out; have hnc115 := NB432_446.out; have hnb116 := NB446_433.out; have hnc116 := NB433_446.out; have hnb117 := NB446_434.out; have hnc117 := NB434_446.out; have hnb118 := NB446_437.out; have hnc118 := NB437_446.out; obtain ⟨hcz119_0, hcz119_1, hcz119_2, hcz119_3, hfz119_0, hfz119_1, hfz119_2, hfz119_3⟩ := b4_ BK446; obtain ⟨Ao120, co120, eo120⟩ := Kd.R_slice HO443.out; subst eo120))
        go_roundg k1
        case measure => have := HK1.out; omega
        case rel => exact ⟨(x5_1), (wrap64 (x18_1 + 1)), (x435000_1), (x435001_1), (x435002_1), (x435003_1), (u435002), (by first | rfl | (simp; done) | (simp [*]; done)), (by first | rfl | (simp; done) | (simp [*]; done)), H', ⟨by have := HK1.out; omega⟩, ⟨by (with_reducible repeat (first | apply Kd.R_alloc | apply Kd.R_drewN | apply Kd.R_drew)); exact Kd.R_mono (Kd.R_far (p := ⟨gb446, 3, none⟩) (Kd.R_far (p := ⟨gb446, 2, none⟩) (Kd.R_far (p := ⟨gb446, 1, none⟩) (Kd.R_far (p := ⟨gb446, 0, none⟩) (Kd.R_types HO_435002.out BK446.out (by decide)) (fun _ hk => hk.2) (.int .i64 t439)) (fun _ hk => hk.2) (.int .i64 t440)) (fun _ hk => hk.2) (.slice Ao120 t441.length co120)) (fun _ hk => hk.2) (.string t444)) (fun _ hk => trivial)⟩, ⟨bf_⟩, ⟨bf_⟩, ⟨bf_⟩, ⟨bw_ HB⟩⟩
      ·rw [if_neg c14] at H
       exact absurd H (by simp)
     ·rw [if_neg c13] at H
      exact absurd H (by simp)
    ·rw [if_neg c12] at H
     have c12b0 : decide (x18_1 < (l0_0.length : Int)) = false := decide_eq_false c12
     clear c12
     simp only [Option.some.injEq, Prod.mk.injEq] at H
     obtain ⟨rfl, rfl, rfl, rfl, rfl⟩ := H
     have hnb121 := NB434_432.out
     have hnc121 := NB432_434.out
     have hnb122 := NB434_433.out
     have hnc122 := NB433_434.out
     have hcz123_0 : wr.cell? ⟨gb434, 0, none⟩ = some (.int .i64 x435000_1) := bc_ BK434 0
     have hcz123_1 : wr.cell? ⟨gb434, 1, none⟩ = some (.int .i64 x435001_1) := bc_ BK434 1
     have hcz123_2 : wr.cell? ⟨gb434, 2, none⟩ = some (u435002) := bc_ BK434 2
     have hcz123_3 : wr.cell? ⟨gb434, 3, none⟩ = some (.string x435003_1) := bc_ BK434 3
     have hfz123_0 := blk_frozen BK434.out 0
     have hfz123_1 := blk_frozen BK434.out 1
     have hfz123_2 := blk_frozen BK434.out 2
     have hfz123_3 := blk_frozen BK434.out 3
     have hnb124 := NB433_432.out
     have hnc124 := NB432_433.out
     have hcz125_0 : wr.cell? ⟨gb433, 0, none⟩ = some (.int .i64 0) := bc_ BK433 0
     have hcz125_1 : wr.cell? ⟨gb433, 1, none⟩ = some (.int .i64 0) := bc_ BK433 1
     have hcz125_2 : wr.cell? ⟨gb433, 2, none⟩ = some (.slice none 0 0) := bc_ BK433 2
     have hcz125_3 : wr.cell? ⟨gb433, 3, none⟩ = some (.string (⟨#[]⟩ : ByteArray)) := bc_ BK433 3
     have hfz125_0 := blk_frozen BK433.out 0
     have hfz125_1 := blk_frozen BK433.out 1
     have hfz125_2 := blk_frozen BK433.out 2
     have hfz125_3 := blk_frozen BK433.out 3
     obtain ⟨Ao126, co126, eo126⟩ := Kd.R_slice HO_435002.out
     subst eo126
     go_wp2
     refine bodyPost_ret (results_ct rfl _ _ gb433 47 #[.int .i64 x435000_1, .int .i64 x435001_1, .slice Ao126 x435002_1.length co126, .string x435003_1] (0, 0) _ rfl bu_ Tryz.underlying47 rfl (by kernel_rfl)) rfl ?_
     exact ⟨_, er_, by (with_reducible repeat (first | apply Kd.R_alloc | apply Kd.R_drewN | apply Kd.R_drew)); exact Kd.R_mono (Kd.R_far (p := ⟨gb433, 3, none⟩) (Kd.R_far (p := ⟨gb433, 2, none⟩) (Kd.R_far (p := ⟨gb433, 1, none⟩) (Kd.R_far (p := ⟨gb433, 0, none⟩) (Kd.R_types HO_435002.out BK433.out (by decide)) (fun _ hk => hk.2) (.int .i64 x435000_1)) (fun _ hk => hk.2) (.int .i64 x435001_1)) (fun _ hk => hk.2) (.slice Ao126 x435002_1.length co126)) (fun _ hk => hk.2) (.string x435003_1)) (fun _ hk => trivial), bw_ HB⟩
 ·replace c3 := Bool.eq_false_iff.mpr c3
  subst c3
  have H1 : (some (0, 0, ([] : List Int), (⟨#[]⟩ : ByteArray), false)) = some (r1, r2, r3, r4, r5) := by rw [if_neg (show ¬ (false = true) by decide)] at H; exact H
  clear H
  have H := H1
  clear H1
  simp only [Option.some.injEq, Prod.mk.injEq] at H
  obtain ⟨rfl, rfl, rfl, rfl, rfl⟩ := H
  go_enter Tryz.func19, Tryz.ntmps19
  go_wp2_with (first | ((with_reducible refine gate_dst (N := 1) rfl ?_); refine bx_ (N := 1) (cs := #[.slice A0_0 l0_0.length c0_0]) (t := 36) ?_; intro gb432 hg w127 hbox hb; have BK432 := mk_ (hbox); have GW432 : Aside0 (w.heap.size ≤ gb432) := bz_ hg; have GE432 := GW432; replace HB := bs_ HB hb; clear hb hbox hg) | ((with_reducible refine gate_dst (N := 2) rfl ?_); refine bx_ (N := 2) (cs := #[.int .i64 0, .int .i64 0, .slice none 0 0, .string (⟨#[]⟩ : ByteArray)]) (t := 47) ?_; intro gb433 hg w128 hbox hb; have BK433 := mk_ (hbox); have GW433 : Aside0 (w.heap.size ≤ gb433) := bz_ hg; have GE433 := GW433; have NB432_433 := bl_ BK432 hg; have NB433_432 := bg_ BK432 hg; replace BK432 := bb_ BK432 hb; replace HB := bs_ HB hb; clear hb hbox hg) | ((with_reducible refine gate_dst (N := 4) rfl ?_); refine bx_ (N := 4) (cs := #[.int .i64 0, .int .i64 0, .slice none 0 0, .string (⟨#[]⟩ : ByteArray)]) (t := 47) ?_; intro gb434 hg w129 hbox hb; have BK434 := mk_ (hbox); have GW434 : Aside0 (w.heap.size ≤ gb434) := bz_ hg; have GE434 := GW434; have NB432_434 := bl_ BK432 hg; have NB434_432 := bg_ BK432 hg; have NB433_434 := bl_ BK433 hg; have NB434_433 := bg_ BK433 hg; replace BK432 := bb_ BK432 hb; replace BK433 := bb_ BK433 hb; replace HB := bs_ HB hb; clear hb hbox hg; have hnb130 := NB432_433.out; have hnc130 := NB433_432.out; have hnb131 := NB432_434.out; have hnc131 := NB434_432.out; obtain ⟨hcz132_0, hfz132_0⟩ := b1_ BK432) | ((with_reducible refine gate_callee (f := 36) rfl ?_); refine goesL_ (some 12) rfl rfl Tryz.func36 (by kernel_rfl) rfl #[.agg #[.slice A0_0 l0_0.length c0_0]] rfl ga_ ?_; (with_reducible refine (impl_DiskOk.calls k _ _ l0_0 false _ ?side1 ?side2 A2.out).mono ?_); (case side1 => repeat (first | exact (Kd.C_below HR0_0.out HB.out) | (with_reducible refine Kd.C_alloc ?_ _) | (with_reducible refine Kd.C_drewN ?_ _) | (with_reducible refine Kd.C_drew ?_))); (case side2 => exact HC0_0.out); rintro e w133 ⟨rfl, hb⟩; refine ⟨_, rfl, ?_⟩; replace BK432 := bb_ BK432 hb; replace BK433 := bb_ BK433 hb; replace BK434 := bb_ BK434 hb; replace HB := bs_ HB hb; (try clear hb); have hnb134 := NB434_433.out; have hnc134 := NB433_434.out; obtain ⟨hcz135_0, hcz135_1, hcz135_2, hcz135_3, hfz135_0, hfz135_1, hfz135_2, hfz135_3⟩ := b4_ BK434; obtain ⟨hcz136_0, hcz136_1, hcz136_2, hcz136_3, hfz136_0, hfz136_1, hfz136_2, hfz136_3⟩ := b4_ BK433))
  refine bodyPost_ret (results_ct rfl _ _ gb433 47 #[.int .i64 0, .int .i64 0, .slice none 0 0, .string (⟨#[]⟩ : ByteArray)] (0, 0) _ rfl bu_ Tryz.underlying47 rfl (by kernel_rfl)) rfl ?_
  exact ⟨_, er_, by first | exact Kd.R_nil _ _ _ _ _ | exact Kd.N_nil _ _ _ _ _ | exact Kd.V_nil _ _ _ _ _ | exact Kd.Q_nil _ _ _ _ _ | exact Kd.S_nil _ _ _ _ _, bw_ HB⟩

end Go.Proofs.YtgnmlgoadkhceaaGreatDoor.QFnExactShedActs
