/- Written by this session's own program (wip/tpl/pp.py): what the law's functions come to, and that the machine's calls do just that. -/
import Derived.Test.YtgnmlgoadkhceaaGreatDoorQFnExactShedActsx0
import Derived.Test.YtgnmlgoadkhceaaGreatDoorQFnExactShedActsx5
import Derived.Test.YtgnmlgoadkhceaaGreatDoorQFnExactShedActsx9
namespace Go.Proofs.YtgnmlgoadkhceaaGreatDoor.QFnExactShedActs
open Go.RowKit Go.Proofs.YtgnmlgoadkhceaaGreatDoorW.PrintWords Go.Proofs.YtgnmlgoadkhceaaGreatDoorW.PrintLast Go.Proofs.YtgnmlgoadkhceaaGreatDoorW.PrintMore
attribute [local go_sem] Go.Proofs.YtgnmlgoadkhceaaGreatDoor.Sem.string_geq Go.Proofs.YtgnmlgoadkhceaaGreatDoor.Sem.string_leq Go.Proofs.YtgnmlgoadkhceaaGreatDoor.Sem.string_gtr
attribute [local go_sem] max2_int min2_int max_two min_two max_three min_three max_four min_four   -- for this text's walks alone
set_option linter.unusedVariables false
set_option linter.unusedSimpArgs false

/-! ### spec_NewestSnap: function 18 -/
mutual
def spec_NewestSnap.l0 : Nat → Int → List (S57) → Int → Int → List Int → ByteArray → Option (Int × Int × List Int × ByteArray × Bool)
 | 0, _, _, _, _, _, _ => none
 | k + 1, x5, x283000, x285000, x285001, x285002, x285003 => if x5 < (x283000.length : Int) then ((spec_DiskOk.f k x283000).bind fun t285 => (spec_NewestSnap.j1 k x5 t285 x283000 x285000 x285001 x285002 x285003)) else (spec_NewestSnap.j1 k x5 false x283000 x285000 x285001 x285002 x285003)
def spec_NewestSnap.j1 : Nat → Int → Bool → List (S57) → Int → Int → List Int → ByteArray → Option (Int × Int × List Int × ByteArray × Bool)
 | 0, _, _, _, _, _, _, _ => none
 | k + 1, x5, x18, x283000, x285000, x285001, x285002, x285003 => if x18 = true then (if 0 ≤ x5 then (if x5 < (x283000.length : Int) then ((spec_l08Index.f k ((rd_T57 x283000 x5).f0)).bind fun t287 => ((spec_ReadSnap.f k ((rd_T57 x283000 x5).f1)).bind fun bt289 => (if t287 ≥ 0 then (if bt289.2.2.2.2 = true then (if bt289.1 = t287 then (if t287 > x285000 then (spec_NewestSnap.l0 k (wrap64 (x5 + 1)) x283000 bt289.1 bt289.2.1 bt289.2.2.1 bt289.2.2.2.1) else (spec_NewestSnap.l0 k (wrap64 (x5 + 1)) x283000 x285000 x285001 x285002 x285003)) else (spec_NewestSnap.l0 k (wrap64 (x5 + 1)) x283000 x285000 x285001 x285002 x285003)) else (spec_NewestSnap.l0 k (wrap64 (x5 + 1)) x283000 x285000 x285001 x285002 x285003)) else (spec_NewestSnap.l0 k (wrap64 (x5 + 1)) x283000 x285000 x285001 x285002 x285003)))) else (none)) else (none)) else (if x285000 < 0 then (some (0, 0, ([] : List Int), (⟨#[]⟩ : ByteArray), false)) else (some (x285000, x285001, x285002, x285003, true)))
end
def spec_NewestSnap.f (k : Nat) (l0_0 : List (S57)) : Option (Int × Int × List Int × ByteArray × Bool) := spec_NewestSnap.l0 k 0 l0_0 (-1) 0 ([] : List Int) (⟨#[]⟩ : ByteArray)
theorem spec_NewestSnap.mono_l : ∀ k, (∀ y0 y1 y2 y3 y4 y5, LeO (spec_NewestSnap.l0 k y0 y1 y2 y3 y4 y5) (spec_NewestSnap.l0 (k + 1) y0 y1 y2 y3 y4 y5)) ∧ (∀ y0 y1 y2 y3 y4 y5 y6, LeO (spec_NewestSnap.j1 k y0 y1 y2 y3 y4 y5 y6) (spec_NewestSnap.j1 (k + 1) y0 y1 y2 y3 y4 y5 y6))
 | 0 => ⟨fun _ _ _ _ _ _ r h => by simp [spec_NewestSnap.l0] at h, fun _ _ _ _ _ _ _ r h => by simp [spec_NewestSnap.j1] at h⟩
 | k + 1 => by
  obtain ⟨ih0, ih1⟩ := spec_NewestSnap.mono_l k
  refine ⟨?_, ?_⟩
  ·intro y0 y1 y2 y3 y4 y5
   unfold spec_NewestSnap.l0
   repeat' first
   | (with_reducible exact ih1 _ _ _ _ _ _ _)
   | (with_reducible exact spec_DiskOk.mono _ _)
   | (with_reducible refine LeO.ite ?_ ?_)
   | (with_reducible refine LeO.bind ?_ (fun _ => ?_))
  ·intro y0 y1 y2 y3 y4 y5 y6
   unfold spec_NewestSnap.j1
   repeat' first
   | (with_reducible exact ih0 _ _ _ _ _ _)
   | (with_reducible exact spec_ReadSnap.mono _ _)
   | (with_reducible exact spec_l08Index.mono _ _)
   | (with_reducible exact LeO.refl _)
   | (with_reducible refine LeO.ite ?_ ?_)
   | (with_reducible refine LeO.bind ?_ (fun _ => ?_))
theorem spec_NewestSnap.mono : ∀ a0 k, LeO (spec_NewestSnap.f k a0) (spec_NewestSnap.f (k + 1) a0) := by
 intro a0 k
 obtain ⟨ih0, ih1⟩ := spec_NewestSnap.mono_l k
 unfold spec_NewestSnap.f
 repeat' first
   | (with_reducible exact ih0 _ _ _ _ _ _)
set_option maxHeartbeats 8000000 in
set_option maxRecDepth 100000 in
theorem spec_NewestSnap.calls (k : Nat) (A0_0 : Option Addr) (c0_0 : Nat) (l0_0 : List (S57)) (r1 : Int) (r2 : Int) (r3 : List Int) (r4 : ByteArray) (r5 : Bool) (w : World) (hr0_0 : Kd.C k57 w A0_0 l0_0.length l0_0) (hc0_0 : l0_0.length ≤ c0_0) (h : spec_NewestSnap.f k l0_0 = some (r1, r2, r3, r4, r5)) :
  Calls Tryz.prog 18 #[.agg #[.slice A0_0 l0_0.length c0_0]] w fun e w' => ∃ v2_ : Value, e = .returned (.tuple #[.agg #[.int .i64 r1, .int .i64 r2, v2_, .string r4], .bool r5]) ∧ Kd.R (Kd.int .i64) 3 w' w.heap.size (fun _ => True) v2_ r3 ∧ Below w.heap.size w w' := by
 have hu36 := Tryz.underlying36
 have hu47 := Tryz.underlying47
 have HR0_0 := Aside0.mk hr0_0
 have HC0_0 := Aside0.mk hc0_0
 clear hr0_0 hc0_0
 have HB := mk_ (Below.refl w.heap.size w)
 have H : (spec_NewestSnap.l0 k 0 l0_0 (-1) 0 ([] : List Int) (⟨#[]⟩ : ByteArray)) = some (r1, r2, r3, r4, r5) := h
 clear h
 have H' := Aside0.mk H
 clear H
 go_enter Tryz.func18, Tryz.ntmps18
 go_wp2_with (first | ((with_reducible refine gate_dst (N := 1) rfl ?_); refine bx_ (N := 1) (cs := #[.slice A0_0 l0_0.length c0_0]) (t := 36) ?_; intro gb282 hg w2 hbox hb; have BK282 := mk_ (hbox); have GW282 : Aside0 (w.heap.size ≤ gb282) := bz_ hg; have GE282 := GW282; replace HB := bs_ HB hb; clear hb hbox hg) | ((with_reducible refine gate_dst (N := 2) rfl ?_); refine bx_ (N := 2) (cs := #[.int .i64 0, .int .i64 0, .slice none 0 0, .string (⟨#[]⟩ : ByteArray)]) (t := 47) ?_; intro gb283 hg w3 hbox hb; have BK283 := mk_ (hbox); have GW283 : Aside0 (w.heap.size ≤ gb283) := bz_ hg; have GE283 := GW283; have NB282_283 := bl_ BK282 hg; have NB283_282 := bg_ BK282 hg; replace BK282 := bb_ BK282 hb; replace HB := bs_ HB hb; clear hb hbox hg) | ((with_reducible refine gate_dst (N := 4) rfl ?_); refine bx_ (N := 4) (cs := #[.int .i64 0, .int .i64 0, .slice none 0 0, .string (⟨#[]⟩ : ByteArray)]) (t := 47) ?_; intro gb284 hg w4 hbox hb; have BK284 := mk_ (hbox); have GW284 : Aside0 (w.heap.size ≤ gb284) := bz_ hg; have GE284 := GW284; have NB282_284 := bl_ BK282 hg; have NB284_282 := bg_ BK282 hg; have NB283_284 := bl_ BK283 hg; have NB284_283 := bg_ BK283 hg; replace BK282 := bb_ BK282 hb; replace BK283 := bb_ BK283 hb; replace HB := bs_ HB hb; clear hb hbox hg; have hnb5 := NB284_282.out; have hnc5 := NB282_284.out; have hnb6 := NB284_283.out; have hnc6 := NB283_284.out; obtain ⟨hcz7_0, hcz7_1, hcz7_2, hcz7_3, hfz7_0, hfz7_1, hfz7_2, hfz7_3⟩ := b4_ BK284))
 go_loopg [5] k (fun kq v5 w' => ∃ (x5_1 : Int) (x285000_1 : Int) (x285001_1 : Int) (x285002_1 : List Int) (x285003_1 : ByteArray) (u285002 : Value), v5 = .int .i64 x5_1 ∧ Aside0 (spec_NewestSnap.l0 kq x5_1 l0_0 x285000_1 x285001_1 x285002_1 x285003_1 = some (r1, r2, r3, r4, r5)) ∧ Aside0 (kq ≤ k) ∧ Aside0 (Kd.R (Kd.int .i64) 3 w' w.heap.size (fun _ => True) u285002 x285002_1) ∧ Aside0 (w'.heap[gb282]? = some (.cells #[(.slice A0_0 l0_0.length c0_0)] 36 (0, 0))) ∧ Aside0 (w'.heap[gb283]? = some (.cells #[.int .i64 0, .int .i64 0, (.slice none 0 0), .string (⟨#[]⟩ : ByteArray)] 47 (0, 0))) ∧ Aside0 (w'.heap[gb284]? = some (.cells #[.int .i64 x285000_1, .int .i64 x285001_1, u285002, .string x285003_1] 47 (0, 0))) ∧ Aside0 (Below w.heap.size w w'))
 case atStart => exact ⟨(0), ((-1)), (0), (([] : List Int)), ((⟨#[]⟩ : ByteArray)), (.slice none 0 0), (by first | rfl | (simp; done) | (simp [*]; done)), H', ⟨Nat.le_refl _⟩, ⟨by first | exact Kd.R_nil _ _ _ _ _ | exact Kd.N_nil _ _ _ _ _ | exact Kd.V_nil _ _ _ _ _ | exact Kd.Q_nil _ _ _ _ _ | exact Kd.S_nil _ _ _ _ _⟩, ⟨bf_⟩, ⟨bf_⟩, ⟨bu_⟩, ⟨bw_ HB⟩⟩
 case round =>
  clear H'
  try clear c1
  try clear p2
  try clear c5
  try clear c6
  try clear hcz7_0
  try clear hcz7_1
  try clear hcz7_2
  try clear hcz7_3
  try clear hfz7_0
  try clear hfz7_1
  try clear hfz7_2
  try clear hfz7_3
  obtain ⟨x5_1, x285000_1, x285001_1, x285002_1, x285003_1, u285002, rfl, HA, HK1, HO_285002, BK282, BK283, BK284, HB⟩ := hrel
  cases gk with
  | zero => exact absurd HA.out (by simp [spec_NewestSnap.l0])
  | succ k1 =>
   have H := HA.out
   clear HA
   simp only [spec_NewestSnap.l0] at H
   have HC8 := Aside0.mk H
   clear H
   go_upto_region 3 with (fail)
   go_cut [18] (fun v18 wc => ∃ (kq : Nat) (x18_7 : Bool), v18 = .bool x18_7 ∧ Aside0 (spec_NewestSnap.j1 kq x5_1 x18_7 l0_0 x285000_1 x285001_1 x285002_1 x285003_1 = some (r1, r2, r3, r4, r5)) ∧ Aside0 (kq ≤ k1) ∧ Aside0 (Kd.R (Kd.int .i64) 3 wc w.heap.size (fun _ => True) u285002 x285002_1) ∧ Aside0 (wc.heap[gb282]? = some (.cells #[(.slice A0_0 l0_0.length c0_0)] 36 (0, 0))) ∧ Aside0 (wc.heap[gb283]? = some (.cells #[.int .i64 0, .int .i64 0, (.slice none 0 0), .string (⟨#[]⟩ : ByteArray)] 47 (0, 0))) ∧ Aside0 (wc.heap[gb284]? = some (.cells #[.int .i64 x285000_1, .int .i64 x285001_1, u285002, .string x285003_1] 47 (0, 0))) ∧ Aside0 (Below w.heap.size w wc))
   case first =>
    have H := HC8.out
    clear HC8
    by_cases c9 : x5_1 < (l0_0.length : Int)
    ·rw [if_pos c9] at H
     have c9b0 : decide (x5_1 < (l0_0.length : Int)) = true := decide_eq_true c9
     clear c9
     (first | rw [c9b0] | (simp only [i64_w, i32_w]; rw [c9b0]) | skip)
     replace H := Option.bind_eq_some_iff.mp H
     obtain ⟨t285, A100, H⟩ := H
     replace H : (spec_NewestSnap.j1 k1 x5_1 t285 l0_0 x285000_1 x285001_1 x285002_1 x285003_1) = some (r1, r2, r3, r4, r5) := H
     have A10 := Aside0.mk A100
     clear A100
     have H' := Aside0.mk H
     clear H
     have hnb11 := NB282_283.out
     have hnc11 := NB283_282.out
     have hnb12 := NB282_284.out
     have hnc12 := NB284_282.out
     have hcz13_0 : wr.cell? ⟨gb282, 0, none⟩ = some (.slice A0_0 l0_0.length c0_0) := bc_ BK282 0
     have hfz13_0 := blk_frozen BK282.out 0
     go_wp2_with (first | (go_at_call 26; (with_reducible refine (spec_DiskOk.calls k1 _ _ l0_0 t285 _ ?side1 ?side2 A10.out).mono ?_); (case side1 => repeat (first | exact (Kd.C_below HR0_0.out HB.out) | (with_reducible refine Kd.C_alloc ?_ _) | (with_reducible refine Kd.C_drewN ?_ _) | (with_reducible refine Kd.C_drew ?_))); (case side2 => exact HC0_0.out); rintro e w14 ⟨rfl, hb⟩; replace HO_285002 := rb_ HO_285002 hb; replace BK282 := bb_ BK282 hb; replace BK283 := bb_ BK283 hb; replace BK284 := bb_ BK284 hb; replace HB := bs_ HB hb; (try clear hb)))
     go_meet
     case rel => exact ⟨_, (t285), (by first | rfl | (simp; done) | (simp [*]; done)), H', ⟨by have := HK1.out; first | omega | exact Nat.le_refl _⟩, ⟨by (with_reducible repeat (first | apply Kd.R_alloc | apply Kd.R_drewN | apply Kd.R_drew)); exact HO_285002.out⟩, ⟨bf_⟩, ⟨bf_⟩, ⟨bf_⟩, ⟨bw_ HB⟩⟩
    ·rw [if_neg c9] at H
     have c9b0 : decide (x5_1 < (l0_0.length : Int)) = false := decide_eq_false c9
     clear c9
     (first | rw [c9b0] | (simp only [i64_w, i32_w]; rw [c9b0]) | skip)
     have H' := Aside0.mk H
     clear H
     have hnb15 := NB282_283.out
     have hnc15 := NB283_282.out
     have hnb16 := NB282_284.out
     have hnc16 := NB284_282.out
     have hcz17_0 : wr.cell? ⟨gb282, 0, none⟩ = some (.slice A0_0 l0_0.length c0_0) := bc_ BK282 0
     have hfz17_0 := blk_frozen BK282.out 0
     go_wp2
     go_meet
     case rel => exact ⟨_, (false), (by first | rfl | (simp; done) | (simp [*]; done)), H', ⟨by have := HK1.out; first | omega | exact Nat.le_refl _⟩, ⟨by (with_reducible repeat (first | apply Kd.R_alloc | apply Kd.R_drewN | apply Kd.R_drew)); exact HO_285002.out⟩, ⟨bf_⟩, ⟨bf_⟩, ⟨bf_⟩, ⟨bw_ HB⟩⟩
   case rest =>
    clear HC8
    try clear c1
    try clear p2
    try clear c5
    try clear c6
    try clear c9
    try clear c9b0
    try clear c11
    try clear c12
    try clear c15
    try clear c16
    try clear hcz13_0
    try clear hcz17_0
    try clear hcz7_0
    try clear hcz7_1
    try clear hcz7_2
    try clear hcz7_3
    try clear hfz13_0
    try clear hfz17_0
    try clear hfz7_0
    try clear hfz7_1
    try clear hfz7_2
    try clear hfz7_3
    try clear p2
    obtain ⟨kq, x18_7, rfl, HA, HJ7, HO_285002, BK282, BK283, BK284, HB⟩ := hcut
    cases kq with
    | zero => exact absurd HA.out (by simp [spec_NewestSnap.j1])
    | succ kj7 =>
     have H := HA.out
     clear HA
     simp only [spec_NewestSnap.j1] at H
     by_cases c18 : x18_7 = true
     ·subst c18
      have H1 : (if 0 ≤ x5_1 then (if x5_1 < (l0_0.length : Int) then ((spec_l08Index.f kj7 ((rd_T57 l0_0 x5_1).f0)).bind fun t287 => ((spec_ReadSnap.f kj7 ((rd_T57 l0_0 x5_1).f1)).bind fun bt289 => (if t287 ≥ 0 then (if bt289.2.2.2.2 = true then (if bt289.1 = t287 then (if t287 > x285000_1 then (spec_NewestSnap.l0 kj7 (wrap64 (x5_1 + 1)) l0_0 bt289.1 bt289.2.1 bt289.2.2.1 bt289.2.2.2.1) else (spec_NewestSnap.l0 kj7 (wrap64 (x5_1 + 1)) l0_0 x285000_1 x285001_1 x285002_1 x285003_1)) else (spec_NewestSnap.l0 kj7 (wrap64 (x5_1 + 1)) l0_0 x285000_1 x285001_1 x285002_1 x285003_1)) else (spec_NewestSnap.l0 kj7 (wrap64 (x5_1 + 1)) l0_0 x285000_1 x285001_1 x285002_1 x285003_1)) else (spec_NewestSnap.l0 kj7 (wrap64 (x5_1 + 1)) l0_0 x285000_1 x285001_1 x285002_1 x285003_1)))) else (none)) else (none)) = some (r1, r2, r3, r4, r5) := by rw [if_pos rfl] at H; exact H
      clear H
      have H := H1
      clear H1
      by_cases c19 : 0 ≤ x5_1
      ·rw [if_pos c19] at H
       have c19b0 : decide (0 ≤ x5_1) = true := decide_eq_true c19
       clear c19
       by_cases c20 : x5_1 < (l0_0.length : Int)
       ·rw [if_pos c20] at H
        have c20b0 : decide (x5_1 < (l0_0.length : Int)) = true := decide_eq_true c20
        clear c20
        replace H := Option.bind_eq_some_iff.mp H
        obtain ⟨t287, A210, H⟩ := H
        replace H : ((spec_ReadSnap.f kj7 ((rd_T57 l0_0 x5_1).f1)).bind fun bt289 => (if t287 ≥ 0 then (if bt289.2.2.2.2 = true then (if bt289.1 = t287 then (if t287 > x285000_1 then (spec_NewestSnap.l0 kj7 (wrap64 (x5_1 + 1)) l0_0 bt289.1 bt289.2.1 bt289.2.2.1 bt289.2.2.2.1) else (spec_NewestSnap.l0 kj7 (wrap64 (x5_1 + 1)) l0_0 x285000_1 x285001_1 x285002_1 x285003_1)) else (spec_NewestSnap.l0 kj7 (wrap64 (x5_1 + 1)) l0_0 x285000_1 x285001_1 x285002_1 x285003_1)) else (spec_NewestSnap.l0 kj7 (wrap64 (x5_1 + 1)) l0_0 x285000_1 x285001_1 x285002_1 x285003_1)) else (spec_NewestSnap.l0 kj7 (wrap64 (x5_1 + 1)) l0_0 x285000_1 x285001_1 x285002_1 x285003_1))) = some (r1, r2, r3, r4, r5) := H
        have A21 := Aside0.mk A210
        clear A210
        replace H := Option.bind_eq_some_iff.mp H
        obtain ⟨⟨t289, t290, t291, t294, t295⟩, A220, H⟩ := H
        replace H : (if t287 ≥ 0 then (if t295 = true then (if t289 = t287 then (if t287 > x285000_1 then (spec_NewestSnap.l0 kj7 (wrap64 (x5_1 + 1)) l0_0 t289 t290 t291 t294) else (spec_NewestSnap.l0 kj7 (wrap64 (x5_1 + 1)) l0_0 x285000_1 x285001_1 x285002_1 x285003_1)) else (spec_NewestSnap.l0 kj7 (wrap64 (x5_1 + 1)) l0_0 x285000_1 x285001_1 x285002_1 x285003_1)) else (spec_NewestSnap.l0 kj7 (wrap64 (x5_1 + 1)) l0_0 x285000_1 x285001_1 x285002_1 x285003_1)) else (spec_NewestSnap.l0 kj7 (wrap64 (x5_1 + 1)) l0_0 x285000_1 x285001_1 x285002_1 x285003_1)) = some (r1, r2, r3, r4, r5) := H
        have A22 := Aside0.mk A220
        clear A220
        by_cases c23 : t287 ≥ 0
        ·rw [if_pos c23] at H
         have c23b0 : decide (0 ≤ t287) = true := decide_eq_true c23
         clear c23
         by_cases c24 : t295 = true
         ·subst c24
          have H1 : (if t289 = t287 then (if t287 > x285000_1 then (spec_NewestSnap.l0 kj7 (wrap64 (x5_1 + 1)) l0_0 t289 t290 t291 t294) else (spec_NewestSnap.l0 kj7 (wrap64 (x5_1 + 1)) l0_0 x285000_1 x285001_1 x285002_1 x285003_1)) else (spec_NewestSnap.l0 kj7 (wrap64 (x5_1 + 1)) l0_0 x285000_1 x285001_1 x285002_1 x285003_1)) = some (r1, r2, r3, r4, r5) := by rw [if_pos rfl] at H; exact H
          clear H
          have H := H1
          clear H1
          by_cases c25 : t289 = t287
          ·rw [if_pos c25] at H
           have c25b0 : (t289 == t287) = true := beq_iff_eq.mpr c25
           have c25b1 : (t289 != t287) = false := bne_eq_false_iff_eq.mpr c25
           clear c25
           by_cases c26 : t287 > x285000_1
           ·rw [if_pos c26] at H
            have c26b0 : decide (x285000_1 < t287) = true := decide_eq_true c26
            clear c26
            have H' := Aside0.mk H
            clear H
            have hnb27 := NB282_283.out
            have hnc27 := NB283_282.out
            have hnb28 := NB282_284.out
            have hnc28 := NB284_282.out
            have hcz29_0 : wc.cell? ⟨gb282, 0, none⟩ = some (.slice A0_0 l0_0.length c0_0) := bc_ BK282 0
            have hfz29_0 := blk_frozen BK282.out 0
            have p286 : 0 ≤ (x5_1 : Int) := od_
            have q286 : x5_1 < (l0_0.length : Int) := od_
            obtain ⟨ad286, e286, hx286_0, hx286_1, hx286_2⟩ := at_T57 HR0_0.out x5_1 p286 q286
            cases e286
            replace hx286_0 := hc_ HB hx286_0
            replace hx286_1 := hc_ HB hx286_1
            replace hx286_2 := hc_ HB hx286_2
            replace p286 := eq_true p286
            replace q286 := eq_true q286
            go_wp2_with (first | ((with_reducible refine gate_callee (f := 48) rfl ?_); refine goesL_ (some 27) rfl rfl Tryz.func48 (by kernel_rfl) rfl #[.string ((rd_T57 l0_0 x5_1).f0)] rfl ga_ ?_; (with_reducible refine (spec_l08Index.calls kj7 ((rd_T57 l0_0 x5_1).f0) t287 _ A21.out).mono ?_); rintro e w30 ⟨rfl, hb⟩; refine ⟨_, rfl, ?_⟩; replace HO_285002 := rb_ HO_285002 hb; replace BK282 := bb_ BK282 hb; replace BK283 := bb_ BK283 hb; replace BK284 := bb_ BK284 hb; replace HB := bs_ HB hb; (try clear hb); obtain ⟨hcz31_0, hfz31_0⟩ := b1_ BK282; have p288 : 0 ≤ (x5_1 : Int) := od_; have q288 : x5_1 < (l0_0.length : Int) := od_; obtain ⟨ad288, e288, hx288_0, hx288_1, hx288_2⟩ := at_T57 HR0_0.out x5_1 p288 q288; obtain rfl : ad286 = ad288 := (by injection e288); replace hx288_0 := hc_ HB hx288_0; replace hx288_1 := hc_ HB hx288_1; replace hx288_2 := hc_ HB hx288_2; replace p288 := eq_true p288; replace q288 := eq_true q288) | ((with_reducible refine gate_callee (f := 49) rfl ?_); refine goesL_ (some 35) rfl rfl Tryz.func49 (by kernel_rfl) rfl #[.string ((rd_T57 l0_0 x5_1).f1)] rfl ga_ ?_; (with_reducible refine (spec_ReadSnap.calls kj7 ((rd_T57 l0_0 x5_1).f1) t289 t290 t291 t294 true _ A22.out).mono ?_); rintro e w32 ⟨v292, rfl, ho0, hb⟩; refine ⟨_, rfl, ?_⟩; have HO293 := mk_ (Kd.R_lower (Kd.R_new' ho0 (Kd.R_lt (rp_ HO_285002))) (below_size (bw_ HB))); replace HO_285002 := mk_ (Kd.R_elder' (rp_ HO_285002) (Kd.R_base ho0) hb); replace BK282 := bb_ BK282 hb; replace BK283 := bb_ BK283 hb; replace BK284 := bb_ BK284 hb; replace HB := bs_ HB hb; (try clear hb); (try clear ho0)) | ((with_reducible refine gate_dst (N := 7) rfl ?_); refine bx_ (N := 7) (cs := #[.int .i64 0, .int .i64 0, .slice none 0 0, .string (⟨#[]⟩ : ByteArray)]) (t := 47) ?_; intro gb296 hg w33 hbox hb; have BK296 := mk_ (hbox); have GW296 : Aside0 (w.heap.size ≤ gb296) := bz_ hg; have GE296 := GW296; have NB282_296 := bl_ BK282 hg; have NB296_282 := bg_ BK282 hg; have NB283_296 := bl_ BK283 hg; have NB296_283 := bg_ BK283 hg; have NB284_296 := bl_ BK284 hg; have NB296_284 := bg_ BK284 hg; replace HO_285002 := rb_ HO_285002 hb; replace HO293 := rb_ HO293 hb; replace BK282 := bb_ BK282 hb; replace BK283 := bb_ BK283 hb; replace BK284 := bb_ BK284 hb; replace HB := bs_ HB hb; clear hb hbox hg; have hnb34 := NB296_282.out; have hnc34 := NB282_296.out; have hnb35 := NB296_283.out; have hnc35 := NB283_296.out; have hnb36 := NB296_284.out; have hnc36 := NB284_296.out; obtain ⟨hcz37_0, hcz37_1, hcz37_2, hcz37_3, hfz37_0, hfz37_1, hfz37_2, hfz37_3⟩ := b4_ BK296; obtain ⟨Ao38, co38, eo38⟩ := Kd.R_slice HO293.out; subst eo38; have hnb39 := NB284_283.out; have hnc39 := NB283_284.out; obtain ⟨hcz40_0, hcz40_1, hcz40_2, hcz40_3, hfz40_0, hfz40_1, hfz40_2, hfz40_3⟩ := b4_ BK284))
            go_roundg kj7
            case measure => have := HK1.out; have := HJ7.out; omega
            case rel => exact ⟨(wrap64 (x5_1 + 1)), (t289), (t290), (t291), (t294), (.slice Ao38 t291.length co38), (by first | rfl | (simp; done) | (simp [*]; done)), H', ⟨by have := HK1.out; have := HJ7.out; omega⟩, ⟨by (with_reducible repeat (first | apply Kd.R_alloc | apply Kd.R_drewN | apply Kd.R_drew)); exact Kd.R_mono (Kd.R_far (p := ⟨gb284, 3, none⟩) (Kd.R_far (p := ⟨gb284, 2, none⟩) (Kd.R_far (p := ⟨gb284, 1, none⟩) (Kd.R_far (p := ⟨gb284, 0, none⟩) (Kd.R_far (p := ⟨gb296, 3, none⟩) (Kd.R_far (p := ⟨gb296, 2, none⟩) (Kd.R_far (p := ⟨gb296, 1, none⟩) (Kd.R_far (p := ⟨gb296, 0, none⟩) (Kd.R_types (Kd.R_types HO293.out BK296.out (by decide)) BK284.out (by decide)) (fun _ hk => hk.1.2) (.int .i64 t289)) (fun _ hk => hk.1.2) (.int .i64 t290)) (fun _ hk => hk.1.2) (.slice Ao38 t291.length co38)) (fun _ hk => hk.1.2) (.string t294)) (fun _ hk => hk.2) (.int .i64 t289)) (fun _ hk => hk.2) (.int .i64 t290)) (fun _ hk => hk.2) (.slice Ao38 t291.length co38)) (fun _ hk => hk.2) (.string t294)) (fun _ hk => trivial)⟩, ⟨bf_⟩, ⟨bf_⟩, ⟨bu_⟩, ⟨bw_ HB⟩⟩
           ·rw [if_neg c26] at H
            have c26b0 : decide (x285000_1 < t287) = false := decide_eq_false c26
            clear c26
            have H' := Aside0.mk H
            clear H
            have hnb41 := NB282_283.out
            have hnc41 := NB283_282.out
            have hnb42 := NB282_284.out
            have hnc42 := NB284_282.out
            have hcz43_0 : wc.cell? ⟨gb282, 0, none⟩ = some (.slice A0_0 l0_0.length c0_0) := bc_ BK282 0
            have hfz43_0 := blk_frozen BK282.out 0
            have p286 : 0 ≤ (x5_1 : Int) := od_
            have q286 : x5_1 < (l0_0.length : Int) := od_
            obtain ⟨ad286, e286, hx286_0, hx286_1, hx286_2⟩ := at_T57 HR0_0.out x5_1 p286 q286
            cases e286
            replace hx286_0 := hc_ HB hx286_0
            replace hx286_1 := hc_ HB hx286_1
            replace hx286_2 := hc_ HB hx286_2
            replace p286 := eq_true p286
            replace q286 := eq_true q286
            go_wp2_with (first | ((with_reducible refine gate_callee (f := 48) rfl ?_); refine goesL_ (some 27) rfl rfl Tryz.func48 (by kernel_rfl) rfl #[.string ((rd_T57 l0_0 x5_1).f0)] rfl ga_ ?_; (with_reducible refine (spec_l08Index.calls kj7 ((rd_T57 l0_0 x5_1).f0) t287 _ A21.out).mono ?_); rintro e w44 ⟨rfl, hb⟩; refine ⟨_, rfl, ?_⟩; replace HO_285002 := rb_ HO_285002 hb; replace BK282 := bb_ BK282 hb; replace BK283 := bb_ BK283 hb; replace BK284 := bb_ BK284 hb; replace HB := bs_ HB hb; (try clear hb); obtain ⟨hcz45_0, hfz45_0⟩ := b1_ BK282; have p288 : 0 ≤ (x5_1 : Int) := od_; have q288 : x5_1 < (l0_0.length : Int) := od_; obtain ⟨ad288, e288, hx288_0, hx288_1, hx288_2⟩ := at_T57 HR0_0.out x5_1 p288 q288; obtain rfl : ad286 = ad288 := (by injection e288); replace hx288_0 := hc_ HB hx288_0; replace hx288_1 := hc_ HB hx288_1; replace hx288_2 := hc_ HB hx288_2; replace p288 := eq_true p288; replace q288 := eq_true q288) | ((with_reducible refine gate_callee (f := 49) rfl ?_); refine goesL_ (some 35) rfl rfl Tryz.func49 (by kernel_rfl) rfl #[.string ((rd_T57 l0_0 x5_1).f1)] rfl ga_ ?_; (with_reducible refine (spec_ReadSnap.calls kj7 ((rd_T57 l0_0 x5_1).f1) t289 t290 t291 t294 true _ A22.out).mono ?_); rintro e w46 ⟨v292, rfl, ho0, hb⟩; refine ⟨_, rfl, ?_⟩; have HO293 := mk_ (Kd.R_lower (Kd.R_new' ho0 (Kd.R_lt (rp_ HO_285002))) (below_size (bw_ HB))); replace HO_285002 := mk_ (Kd.R_elder' (rp_ HO_285002) (Kd.R_base ho0) hb); replace BK282 := bb_ BK282 hb; replace BK283 := bb_ BK283 hb; replace BK284 := bb_ BK284 hb; replace HB := bs_ HB hb; (try clear hb); (try clear ho0)) | ((with_reducible refine gate_dst (N := 7) rfl ?_); refine bx_ (N := 7) (cs := #[.int .i64 0, .int .i64 0, .slice none 0 0, .string (⟨#[]⟩ : ByteArray)]) (t := 47) ?_; intro gb296 hg w47 hbox hb; have BK296 := mk_ (hbox); have GW296 : Aside0 (w.heap.size ≤ gb296) := bz_ hg; have GE296 := GW296; have NB282_296 := bl_ BK282 hg; have NB296_282 := bg_ BK282 hg; have NB283_296 := bl_ BK283 hg; have NB296_283 := bg_ BK283 hg; have NB284_296 := bl_ BK284 hg; have NB296_284 := bg_ BK284 hg; replace HO_285002 := rb_ HO_285002 hb; replace HO293 := rb_ HO293 hb; replace BK282 := bb_ BK282 hb; replace BK283 := bb_ BK283 hb; replace BK284 := bb_ BK284 hb; replace HB := bs_ HB hb; clear hb hbox hg; have hnb48 := NB296_282.out; have hnc48 := NB282_296.out; have hnb49 := NB296_283.out; have hnc49 := NB283_296.out; have hnb50 := NB296_284.out; have hnc50 := NB284_296.out; obtain ⟨hcz51_0, hcz51_1, hcz51_2, hcz51_3, hfz51_0, hfz51_1, hfz51_2, hfz51_3⟩ := b4_ BK296; obtain ⟨Ao52, co52, eo52⟩ := Kd.R_slice HO293.out; subst eo52; have hnb53 := NB284_283.out; have hnc53 := NB283_284.out; obtain ⟨hcz54_0, hcz54_1, hcz54_2, hcz54_3, hfz54_0, hfz54_1, hfz54_2, hfz54_3⟩ := b4_ BK284))
            go_roundg kj7
            case measure => have := HK1.out; have := HJ7.out; omega
            case rel => exact ⟨(wrap64 (x5_1 + 1)), (x285000_1), (x285001_1), (x285002_1), (x285003_1), (u285002), (by first | rfl | (simp; done) | (simp [*]; done)), H', ⟨by have := HK1.out; have := HJ7.out; omega⟩, ⟨by (with_reducible repeat (first | apply Kd.R_alloc | apply Kd.R_drewN | apply Kd.R_drew)); exact Kd.R_mono (Kd.R_far (p := ⟨gb296, 3, none⟩) (Kd.R_far (p := ⟨gb296, 2, none⟩) (Kd.R_far (p := ⟨gb296, 1, none⟩) (Kd.R_far (p := ⟨gb296, 0, none⟩) (Kd.R_types HO_285002.out BK296.out (by decide)) (fun _ hk => hk.2) (.int .i64 t289)) (fun _ hk => hk.2) (.int .i64 t290)) (fun _ hk => hk.2) (.slice Ao52 t291.length co52)) (fun _ hk => hk.2) (.string t294)) (fun _ hk => trivial)⟩, ⟨bf_⟩, ⟨bf_⟩, ⟨bf_⟩, ⟨bw_ HB⟩⟩
          ·rw [if_neg c25] at H
           have c25b0 : (t289 == t287) = false := beq_eq_false_iff_ne.mpr c25
           have c25b1 : (t289 != t287) = true := bne_iff_ne.mpr c25
           have H' := Aside0.mk H
           clear H
           have hnb55 := NB282_283.out
           have hnc55 := NB283_282.out
           have hnb56 := NB282_284.out
           have hnc56 := NB284_282.out
           have hcz57_0 : wc.cell? ⟨gb282, 0, none⟩ = some (.slice A0_0 l0_0.length c0_0) := bc_ BK282 0
           have hfz57_0 := blk_frozen BK282.out 0
           have p286 : 0 ≤ (x5_1 : Int) := od_
           have q286 : x5_1 < (l0_0.length : Int) := od_
           obtain ⟨ad286, e286, hx286_0, hx286_1, hx286_2⟩ := at_T57 HR0_0.out x5_1 p286 q286
           cases e286
           replace hx286_0 := hc_ HB hx286_0
           replace hx286_1 := hc_ HB hx286_1
           replace hx286_2 := hc_ HB hx286_2
           replace p286 := eq_true p286
           replace q286 := eq_true q286
           go_wp2_with (first | ((with_reducible refine gate_callee (f := 48) rfl ?_); refine goesL_ (some 27) rfl rfl Tryz.func48 (by kernel_rfl) rfl #[.string ((rd_T57 l0_0 x5_1).f0)] rfl ga_ ?_; (with_reducible refine (spec_l08Index.calls kj7 ((rd_T57 l0_0 x5_1).f0) t287 _ A21.out).mono ?_); rintro e w58 ⟨rfl, hb⟩; refine ⟨_, rfl, ?_⟩; replace HO_285002 := rb_ HO_285002 hb; replace BK282 := bb_ BK282 hb; replace BK283 := bb_ BK283 hb; replace BK284 := bb_ BK284 hb; replace HB := bs_ HB hb; (try clear hb); obtain ⟨hcz59_0, hfz59_0⟩ := b1_ BK282; have p288 : 0 ≤ (x5_1 : Int) := od_; have q288 : x5_1 < (l0_0.length : Int) := od_; obtain ⟨ad288, e288, hx288_0, hx288_1, hx288_2⟩ := at_T57 HR0_0.out x5_1 p288 q288; obtain rfl : ad286 = ad288 := (by injection e288); replace hx288_0 := hc_ HB hx288_0; replace hx288_1 := hc_ HB hx288_1; replace hx288_2 := hc_ HB hx288_2; replace p288 := eq_true p288; replace q288 := eq_true q288) | ((with_reducible refine gate_callee (f := 49) rfl ?_); refine goesL_ (some 35) rfl rfl Tryz.func49 (by kernel_rfl) rfl #[.string ((rd_T57 l0_0 x5_1).f1)] rfl ga_ ?_; (with_reducible refine (spec_ReadSnap.calls kj7 ((rd_T57 l0_0 x5_1).f1) t289 t290 t291 t294 true _ A22.out).mono ?_); rintro e w60 ⟨v292, rfl, ho0, hb⟩; refine ⟨_, rfl, ?_⟩; have HO293 := mk_ (Kd.R_lower (Kd.R_new' ho0 (Kd.R_lt (rp_ HO_285002))) (below_size (bw_ HB))); replace HO_285002 := mk_ (Kd.R_elder' (rp_ HO_285002) (Kd.R_base ho0) hb); replace BK282 := bb_ BK282 hb; replace BK283 := bb_ BK283 hb; replace BK284 := bb_ BK284 hb; replace HB := bs_ HB hb; (try clear hb); (try clear ho0)) | ((with_reducible refine gate_dst (N := 7) rfl ?_); refine bx_ (N := 7) (cs := #[.int .i64 0, .int .i64 0, .slice none 0 0, .string (⟨#[]⟩ : ByteArray)]) (t := 47) ?_; intro gb296 hg w61 hbox hb; have BK296 := mk_ (hbox); have GW296 : Aside0 (w.heap.size ≤ gb296) := bz_ hg; have GE296 := GW296; have NB282_296 := bl_ BK282 hg; have NB296_282 := bg_ BK282 hg; have NB283_296 := bl_ BK283 hg; have NB296_283 := bg_ BK283 hg; have NB284_296 := bl_ BK284 hg; have NB296_284 := bg_ BK284 hg; replace HO_285002 := rb_ HO_285002 hb; replace HO293 := rb_ HO293 hb; replace BK282 := bb_ BK282 hb; replace BK283 := bb_ BK283 hb; replace BK284 := bb_ BK284 hb; replace HB := bs_ HB hb; clear hb hbox hg; have hnb62 := NB296_282.out; have hnc62 := NB282_296.out; have hnb63 := NB296_283.out; have hnc63 := NB283_296.out; have hnb64 := NB296_284.out; have hnc64 := NB284_296.out; obtain ⟨hcz65_0, hcz65_1, hcz65_2, hcz65_3, hfz65_0, hfz65_1, hfz65_2, hfz65_3⟩ := b4_ BK296; obtain ⟨Ao66, co66, eo66⟩ := Kd.R_slice HO293.out; subst eo66))
           go_roundg kj7
           case measure => have := HK1.out; have := HJ7.out; omega
           case rel => exact ⟨(wrap64 (x5_1 + 1)), (x285000_1), (x285001_1), (x285002_1), (x285003_1), (u285002), (by first | rfl | (simp; done) | (simp [*]; done)), H', ⟨by have := HK1.out; have := HJ7.out; omega⟩, ⟨by (with_reducible repeat (first | apply Kd.R_alloc | apply Kd.R_drewN | apply Kd.R_drew)); exact Kd.R_mono (Kd.R_far (p := ⟨gb296, 3, none⟩) (Kd.R_far (p := ⟨gb296, 2, none⟩) (Kd.R_far (p := ⟨gb296, 1, none⟩) (Kd.R_far (p := ⟨gb296, 0, none⟩) (Kd.R_types HO_285002.out BK296.out (by decide)) (fun _ hk => hk.2) (.int .i64 t289)) (fun _ hk => hk.2) (.int .i64 t290)) (fun _ hk => hk.2) (.slice Ao66 t291.length co66)) (fun _ hk => hk.2) (.string t294)) (fun _ hk => trivial)⟩, ⟨bf_⟩, ⟨bf_⟩, ⟨bf_⟩, ⟨bw_ HB⟩⟩
         ·replace c24 := Bool.eq_false_iff.mpr c24
          subst c24
          have H1 : (spec_NewestSnap.l0 kj7 (wrap64 (x5_1 + 1)) l0_0 x285000_1 x285001_1 x285002_1 x285003_1) = some (r1, r2, r3, r4, r5) := by rw [if_neg (show ¬ (false = true) by decide)] at H; exact H
          clear H
          have H := H1
          clear H1
          have H' := Aside0.mk H
          clear H
          have hnb67 := NB282_283.out
          have hnc67 := NB283_282.out
          have hnb68 := NB282_284.out
          have hnc68 := NB284_282.out
          have hcz69_0 : wc.cell? ⟨gb282, 0, none⟩ = some (.slice A0_0 l0_0.length c0_0) := bc_ BK282 0
          have hfz69_0 := blk_frozen BK282.out 0
          have p286 : 0 ≤ (x5_1 : Int) := od_
          have q286 : x5_1 < (l0_0.length : Int) := od_
          obtain ⟨ad286, e286, hx286_0, hx286_1, hx286_2⟩ := at_T57 HR0_0.out x5_1 p286 q286
          cases e286
          replace hx286_0 := hc_ HB hx286_0
          replace hx286_1 := hc_ HB hx286_1
          replace hx286_2 := hc_ HB hx286_2
          replace p286 := eq_true p286
          replace q286 := eq_true q286
          go_wp2_with (first | ((with_reducible refine gate_callee (f := 48) rfl ?_); refine goesL_ (some 27) rfl rfl Tryz.func48 (by kernel_rfl) rfl #[.string ((rd_T57 l0_0 x5_1).f0)] rfl ga_ ?_; (with_reducible refine (spec_l08Index.calls kj7 ((rd_T57 l0_0 x5_1).f0) t287 _ A21.out).mono ?_); rintro e w70 ⟨rfl, hb⟩; refine ⟨_, rfl, ?_⟩; replace HO_285002 := rb_ HO_285002 hb; replace BK282 := bb_ BK282 hb; replace BK283 := bb_ BK283 hb; replace BK284 := bb_ BK284 hb; replace HB := bs_ HB hb; (try clear hb); obtain ⟨hcz71_0, hfz71_0⟩ := b1_ BK282; have p288 : 0 ≤ (x5_1 : Int) := od_; have q288 : x5_1 < (l0_0.length : Int) := od_; obtain ⟨ad288, e288, hx288_0, hx288_1, hx288_2⟩ := at_T57 HR0_0.out x5_1 p288 q288; obtain rfl : ad286 = ad288 := (by injection e288); replace hx288_0 := hc_ HB hx288_0; replace hx288_1 := hc_ HB hx288_1; replace hx288_2 := hc_ HB hx288_2; replace p288 := eq_true p288; replace q288 := eq_true q288) | ((with_reducible refine gate_callee (f := 49) rfl ?_); refine goesL_ (some 35) rfl rfl Tryz.func49 (by kernel_rfl) rfl #[.string ((rd_T57 l0_0 x5_1).f1)] rfl ga_ ?_; (with_reducible refine (spec_ReadSnap.calls kj7 ((rd_T57 l0_0 x5_1).f1) t289 t290 t291 t294 false _ A22.out).mono ?_); rintro e w72 ⟨v292, rfl, ho0, hb⟩; refine ⟨_, rfl, ?_⟩; have HO293 := mk_ (Kd.R_lower (Kd.R_new' ho0 (Kd.R_lt (rp_ HO_285002))) (below_size (bw_ HB))); replace HO_285002 := mk_ (Kd.R_elder' (rp_ HO_285002) (Kd.R_base ho0) hb); replace BK282 := bb_ BK282 hb; replace BK283 := bb_ BK283 hb; replace BK284 := bb_ BK284 hb; replace HB := bs_ HB hb; (try clear hb); (try clear ho0)) | ((with_reducible refine gate_dst (N := 7) rfl ?_); refine bx_ (N := 7) (cs := #[.int .i64 0, .int .i64 0, .slice none 0 0, .string (⟨#[]⟩ : ByteArray)]) (t := 47) ?_; intro gb296 hg w73 hbox hb; have BK296 := mk_ (hbox); have GW296 : Aside0 (w.heap.size ≤ gb296) := bz_ hg; have GE296 := GW296; have NB282_296 := bl_ BK282 hg; have NB296_282 := bg_ BK282 hg; have NB283_296 := bl_ BK283 hg; have NB296_283 := bg_ BK283 hg; have NB284_296 := bl_ BK284 hg; have NB296_284 := bg_ BK284 hg; replace HO_285002 := rb_ HO_285002 hb; replace HO293 := rb_ HO293 hb; replace BK282 := bb_ BK282 hb; replace BK283 := bb_ BK283 hb; replace BK284 := bb_ BK284 hb; replace HB := bs_ HB hb; clear hb hbox hg; have hnb74 := NB296_282.out; have hnc74 := NB282_296.out; have hnb75 := NB296_283.out; have hnc75 := NB283_296.out; have hnb76 := NB296_284.out; have hnc76 := NB284_296.out; obtain ⟨hcz77_0, hcz77_1, hcz77_2, hcz77_3, hfz77_0, hfz77_1, hfz77_2, hfz77_3⟩ := b4_ BK296; obtain ⟨Ao78, co78, eo78⟩ := Kd.R_slice HO293.out; subst eo78))
          go_roundg kj7
          case measure => have := HK1.out; have := HJ7.out; omega
          case rel => exact ⟨(wrap64 (x5_1 + 1)), (x285000_1), (x285001_1), (x285002_1), (x285003_1), (u285002), (by first | rfl | (simp; done) | (simp [*]; done)), H', ⟨by have := HK1.out; have := HJ7.out; omega⟩, ⟨by (with_reducible repeat (first | apply Kd.R_alloc | apply Kd.R_drewN | apply Kd.R_drew)); exact Kd.R_mono (Kd.R_far (p := ⟨gb296, 3, none⟩) (Kd.R_far (p := ⟨gb296, 2, none⟩) (Kd.R_far (p := ⟨gb296, 1, none⟩) (Kd.R_far (p := ⟨gb296, 0, none⟩) (Kd.R_types HO_285002.out BK296.out (by decide)) (fun _ hk => hk.2) (.int .i64 t289)) (fun _ hk => hk.2) (.int .i64 t290)) (fun _ hk => hk.2) (.slice Ao78 t291.length co78)) (fun _ hk => hk.2) (.string t294)) (fun _ hk => trivial)⟩, ⟨bf_⟩, ⟨bf_⟩, ⟨bf_⟩, ⟨bw_ HB⟩⟩
        ·rw [if_neg c23] at H
         have c23b0 : decide (0 ≤ t287) = false := decide_eq_false c23
         clear c23
         have H' := Aside0.mk H
         clear H
         have hnb79 := NB282_283.out
         have hnc79 := NB283_282.out
         have hnb80 := NB282_284.out
         have hnc80 := NB284_282.out
         have hcz81_0 : wc.cell? ⟨gb282, 0, none⟩ = some (.slice A0_0 l0_0.length c0_0) := bc_ BK282 0
         have hfz81_0 := blk_frozen BK282.out 0
         have p286 : 0 ≤ (x5_1 : Int) := od_
         have q286 : x5_1 < (l0_0.length : Int) := od_
         obtain ⟨ad286, e286, hx286_0, hx286_1, hx286_2⟩ := at_T57 HR0_0.out x5_1 p286 q286
         cases e286
         replace hx286_0 := hc_ HB hx286_0
         replace hx286_1 := hc_ HB hx286_1
         replace hx286_2 := hc_ HB hx286_2
         replace p286 := eq_true p286
         replace q286 := eq_true q286
         go_wp2_with (first | ((with_reducible refine gate_callee (f := 48) rfl ?_); refine goesL_ (some 27) rfl rfl Tryz.func48 (by kernel_rfl) rfl #[.string ((rd_T57 l0_0 x5_1).f0)] rfl ga_ ?_; (with_reducible refine (spec_l08Index.calls kj7 ((rd_T57 l0_0 x5_1).f0) t287 _ A21.out).mono ?_); rintro e w82 ⟨rfl, hb⟩; refine ⟨_, rfl, ?_⟩; replace HO_285002 := rb_ HO_285002 hb; replace BK282 := bb_ BK282 hb; replace BK283 := bb_ BK283 hb; replace BK284 := bb_ BK284 hb; replace HB := bs_ HB hb; (try clear hb); obtain ⟨hcz83_0, hfz83_0⟩ := b1_ BK282; have p288 : 0 ≤ (x5_1 : Int) := od_; have q288 : x5_1 < (l0_0.length : Int) := od_; obtain ⟨ad288, e288, hx288_0, hx288_1, hx288_2⟩ := at_T57 HR0_0.out x5_1 p288 q288; obtain rfl : ad286 = ad288 := (by injection e288); replace hx288_0 := hc_ HB hx288_0; replace hx288_1 := hc_ HB hx288_1; replace hx288_2 := hc_ HB hx288_2; replace p288 := eq_true p288; replace q288 := eq_true q288) | ((with_reducible refine gate_callee (f := 49) rfl ?_); refine goesL_ (some 35) rfl rfl Tryz.func49 (by kernel_rfl) rfl #[.string ((rd_T57 l0_0 x5_1).f1)] rfl ga_ ?_; (with_reducible refine (spec_ReadSnap.calls kj7 ((rd_T57 l0_0 x5_1).f1) t289 t290 t291 t294 t295 _ A22.out).mono ?_); rintro e w84 ⟨v292, rfl, ho0, hb⟩; refine ⟨_, rfl, ?_⟩; have HO293 := mk_ (Kd.R_lower (Kd.R_new' ho0 (Kd.R_lt (rp_ HO_285002))) (below_size (bw_ HB))); replace HO_285002 := mk_ (Kd.R_elder' (rp_ HO_285002) (Kd.R_base ho0) hb); replace BK282 := bb_ BK282 hb; replace BK283 := bb_ BK283 hb; replace BK284 := bb_ BK284 hb; replace HB := bs_ HB hb; (try clear hb); (try clear ho0)) | ((with_reducible refine gate_dst (N := 7) rfl ?_); refine bx_ (N := 7) (cs := #[.int .i64 0, .int .i64 0, .slice none 0 0, .string (⟨#[]⟩ : ByteArray)]) (t := 47) ?_; intro gb296 hg w85 hbox hb; have BK296 := mk_ (hbox); have GW296 : Aside0 (w.heap.size ≤ gb296) := bz_ hg; have GE296 := GW296; have NB282_296 := bl_ BK282 hg; have NB296_282 := bg_ BK282 hg; have NB283_296 := bl_ BK283 hg; have NB296_283 := bg_ BK283 hg; have NB284_296 := bl_ BK284 hg; have NB296_284 := bg_ BK284 hg; replace HO_285002 := rb_ HO_285002 hb; replace HO293 := rb_ HO293 hb; replace BK282 := bb_ BK282 hb; replace BK283 := bb_ BK283 hb; replace BK284 := bb_ BK284 hb; replace HB := bs_ HB hb; clear hb hbox hg; have hnb86 := NB296_282.out; have hnc86 := NB282_296.out; have hnb87 := NB296_283.out; have hnc87 := NB283_296.out; have hnb88 := NB296_284.out; have hnc88 := NB284_296.out; obtain ⟨hcz89_0, hcz89_1, hcz89_2, hcz89_3, hfz89_0, hfz89_1, hfz89_2, hfz89_3⟩ := b4_ BK296; obtain ⟨Ao90, co90, eo90⟩ := Kd.R_slice HO293.out; subst eo90))
         go_roundg kj7
         case measure => have := HK1.out; have := HJ7.out; omega
         case rel => exact ⟨(wrap64 (x5_1 + 1)), (x285000_1), (x285001_1), (x285002_1), (x285003_1), (u285002), (by first | rfl | (simp; done) | (simp [*]; done)), H', ⟨by have := HK1.out; have := HJ7.out; omega⟩, ⟨by (with_reducible repeat (first | apply Kd.R_alloc | apply Kd.R_drewN | apply Kd.R_drew)); exact Kd.R_mono (Kd.R_far (p := ⟨gb296, 3, none⟩) (Kd.R_far (p := ⟨gb296, 2, none⟩) (Kd.R_far (p := ⟨gb296, 1, none⟩) (Kd.R_far (p := ⟨gb296, 0, none⟩) (Kd.R_types HO_285002.out BK296.out (by decide)) (fun _ hk => hk.2) (.int .i64 t289)) (fun _ hk => hk.2) (.int .i64 t290)) (fun _ hk => hk.2) (.slice Ao90 t291.length co90)) (fun _ hk => hk.2) (.string t294)) (fun _ hk => trivial)⟩, ⟨bf_⟩, ⟨bf_⟩, ⟨bf_⟩, ⟨bw_ HB⟩⟩
       ·rw [if_neg c20] at H
        exact absurd H (by simp)
      ·rw [if_neg c19] at H
       exact absurd H (by simp)
     ·replace c18 := Bool.eq_false_iff.mpr c18
      subst c18
      have H1 : (if x285000_1 < 0 then (some (0, 0, ([] : List Int), (⟨#[]⟩ : ByteArray), false)) else (some (x285000_1, x285001_1, x285002_1, x285003_1, true))) = some (r1, r2, r3, r4, r5) := by rw [if_neg (show ¬ (false = true) by decide)] at H; exact H
      clear H
      have H := H1
      clear H1
      by_cases c91 : x285000_1 < 0
      ·rw [if_pos c91] at H
       have c91b0 : decide (x285000_1 < 0) = true := decide_eq_true c91
       clear c91
       simp only [Option.some.injEq, Prod.mk.injEq] at H
       obtain ⟨rfl, rfl, rfl, rfl, rfl⟩ := H
       have hnb92 := NB284_282.out
       have hnc92 := NB282_284.out
       have hnb93 := NB284_283.out
       have hnc93 := NB283_284.out
       have hcz94_0 : wc.cell? ⟨gb284, 0, none⟩ = some (.int .i64 x285000_1) := bc_ BK284 0
       have hcz94_1 : wc.cell? ⟨gb284, 1, none⟩ = some (.int .i64 x285001_1) := bc_ BK284 1
       have hcz94_2 : wc.cell? ⟨gb284, 2, none⟩ = some (u285002) := bc_ BK284 2
       have hcz94_3 : wc.cell? ⟨gb284, 3, none⟩ = some (.string x285003_1) := bc_ BK284 3
       have hfz94_0 := blk_frozen BK284.out 0
       have hfz94_1 := blk_frozen BK284.out 1
       have hfz94_2 := blk_frozen BK284.out 2
       have hfz94_3 := blk_frozen BK284.out 3
       have hnb95 := NB283_282.out
       have hnc95 := NB282_283.out
       have hcz96_0 : wc.cell? ⟨gb283, 0, none⟩ = some (.int .i64 0) := bc_ BK283 0
       have hcz96_1 : wc.cell? ⟨gb283, 1, none⟩ = some (.int .i64 0) := bc_ BK283 1
       have hcz96_2 : wc.cell? ⟨gb283, 2, none⟩ = some (.slice none 0 0) := bc_ BK283 2
       have hcz96_3 : wc.cell? ⟨gb283, 3, none⟩ = some (.string (⟨#[]⟩ : ByteArray)) := bc_ BK283 3
       have hfz96_0 := blk_frozen BK283.out 0
       have hfz96_1 := blk_frozen BK283.out 1
       have hfz96_2 := blk_frozen BK283.out 2
       have hfz96_3 := blk_frozen BK283.out 3
       go_wp2
       refine bodyPost_ret (results_ct rfl _ _ gb283 47 #[.int .i64 0, .int .i64 0, .slice none 0 0, .string (⟨#[]⟩ : ByteArray)] (0, 0) _ rfl bu_ Tryz.underlying47 rfl (by kernel_rfl)) rfl ?_
       exact ⟨_, er_, by first | exact Kd.R_nil _ _ _ _ _ | exact Kd.N_nil _ _ _ _ _ | exact Kd.V_nil _ _ _ _ _ | exact Kd.Q_nil _ _ _ _ _ | exact Kd.S_nil _ _ _ _ _, bw_ HB⟩
      ·rw [if_neg c91] at H
       have c91b0 : decide (x285000_1 < 0) = false := decide_eq_false c91
       clear c91
       simp only [Option.some.injEq, Prod.mk.injEq] at H
       obtain ⟨rfl, rfl, rfl, rfl, rfl⟩ := H
       have hnb97 := NB284_282.out
       have hnc97 := NB282_284.out
       have hnb98 := NB284_283.out
       have hnc98 := NB283_284.out
       have hcz99_0 : wc.cell? ⟨gb284, 0, none⟩ = some (.int .i64 x285000_1) := bc_ BK284 0
       have hcz99_1 : wc.cell? ⟨gb284, 1, none⟩ = some (.int .i64 x285001_1) := bc_ BK284 1
       have hcz99_2 : wc.cell? ⟨gb284, 2, none⟩ = some (u285002) := bc_ BK284 2
       have hcz99_3 : wc.cell? ⟨gb284, 3, none⟩ = some (.string x285003_1) := bc_ BK284 3
       have hfz99_0 := blk_frozen BK284.out 0
       have hfz99_1 := blk_frozen BK284.out 1
       have hfz99_2 := blk_frozen BK284.out 2
       have hfz99_3 := blk_frozen BK284.out 3
       have hnb100 := NB283_282.out
       have hnc100 := NB282_283.out
       have hcz101_0 : wc.cell? ⟨gb283, 0, none⟩ = some (.int .i64 0) := bc_ BK283 0
       have hcz101_1 : wc.cell? ⟨gb283, 1, none⟩ = some (.int .i64 0) := bc_ BK283 1
       have hcz101_2 : wc.cell? ⟨gb283, 2, none⟩ = some (.slice none 0 0) := bc_ BK283 2
       have hcz101_3 : wc.cell? ⟨gb283, 3, none⟩ = some (.string (⟨#[]⟩ : ByteArray)) := bc_ BK283 3
       have hfz101_0 := blk_frozen BK283.out 0
       have hfz101_1 := blk_frozen BK283.out 1
       have hfz101_2 := blk_frozen BK283.out 2
       have hfz101_3 := blk_frozen BK283.out 3
       obtain ⟨Ao102, co102, eo102⟩ := Kd.R_slice HO_285002.out
       subst eo102
       go_wp2
       refine bodyPost_ret (results_ct rfl _ _ gb283 47 #[.int .i64 x285000_1, .int .i64 x285001_1, .slice Ao102 x285002_1.length co102, .string x285003_1] (0, 0) _ rfl bu_ Tryz.underlying47 rfl (by kernel_rfl)) rfl ?_
       exact ⟨_, er_, by (with_reducible repeat (first | apply Kd.R_alloc | apply Kd.R_drewN | apply Kd.R_drew)); exact Kd.R_mono (Kd.R_far (p := ⟨gb283, 3, none⟩) (Kd.R_far (p := ⟨gb283, 2, none⟩) (Kd.R_far (p := ⟨gb283, 1, none⟩) (Kd.R_far (p := ⟨gb283, 0, none⟩) (Kd.R_types HO_285002.out BK283.out (by decide)) (fun _ hk => hk.2) (.int .i64 x285000_1)) (fun _ hk => hk.2) (.int .i64 x285001_1)) (fun _ hk => hk.2) (.slice Ao102 x285002_1.length co102)) (fun _ hk => hk.2) (.string x285003_1)) (fun _ hk => trivial), bw_ HB⟩

/-! ### spec_l03At: function 31 -/
def spec_l03At.l0 : Nat → ByteArray → Int → List (S57) → Option (Int)
 | 0, _, _, _ => none
 | k + 1, x1, x5, x298000 => if x5 < (x298000.length : Int) then (if 0 ≤ x5 then (if ((rd_T57 x298000 x5).f0).toList = x1.toList then (some x5) else (spec_l03At.l0 k x1 (wrap64 (x5 + 1)) x298000)) else (none)) else (some (-1))
def spec_l03At.f (k : Nat) (l0_0 : List (S57)) (a1 : ByteArray) : Option (Int) := spec_l03At.l0 k a1 0 l0_0
theorem spec_l03At.mono_l : ∀ k, (∀ y0 y1 y2, LeO (spec_l03At.l0 k y0 y1 y2) (spec_l03At.l0 (k + 1) y0 y1 y2))
 | 0 => fun _ _ _ r h => by simp [spec_l03At.l0] at h
 | k + 1 => by
  have ih0 := spec_l03At.mono_l k
  ·intro y0 y1 y2
   unfold spec_l03At.l0
   repeat' first
   | (with_reducible exact ih0 _ _ _)
   | (with_reducible exact LeO.refl _)
   | (with_reducible refine LeO.ite ?_ ?_)
theorem spec_l03At.mono : ∀ a0 a1 k, LeO (spec_l03At.f k a0 a1) (spec_l03At.f (k + 1) a0 a1) := by
 intro a0 a1 k
 have ih0 := spec_l03At.mono_l k
 unfold spec_l03At.f
 repeat' first
   | (with_reducible exact ih0 _ _ _)
set_option maxHeartbeats 8000000 in
set_option maxRecDepth 100000 in
theorem spec_l03At.calls (k : Nat) (A0_0 : Option Addr) (c0_0 : Nat) (l0_0 : List (S57)) (a1 : ByteArray) (r : Int) (w : World) (hr0_0 : Kd.C k57 w A0_0 l0_0.length l0_0) (hc0_0 : l0_0.length ≤ c0_0) (h : spec_l03At.f k l0_0 a1 = some r) :
  Calls Tryz.prog 31 #[.agg #[.slice A0_0 l0_0.length c0_0], .string a1] w fun e w' => e = .returned (.int .i64 r) ∧ Below w.heap.size w w' := by
 have hu36 := Tryz.underlying36
 have HR0_0 := Aside0.mk hr0_0
 have HC0_0 := Aside0.mk hc0_0
 clear hr0_0 hc0_0
 have HB := mk_ (Below.refl w.heap.size w)
 have H : (spec_l03At.l0 k a1 0 l0_0) = some r := h
 clear h
 have H' := Aside0.mk H
 clear H
 go_enter Tryz.func31, Tryz.ntmps31
 go_wp2_with (first | ((with_reducible refine gate_dst (N := 2) rfl ?_); refine bx_ (N := 2) (cs := #[.slice A0_0 l0_0.length c0_0]) (t := 36) ?_; intro gb297 hg w3 hbox hb; have BK297 := mk_ (hbox); have GW297 : Aside0 (w.heap.size ≤ gb297) := bz_ hg; have GE297 := GW297; replace HB := bs_ HB hb; clear hb hbox hg))
 go_loopg [5] k (fun kq v5 w' => ∃ (x5_1 : Int), v5 = .int .i64 x5_1 ∧ Aside0 (spec_l03At.l0 kq a1 x5_1 l0_0 = some r) ∧ Aside0 (kq ≤ k) ∧ Aside0 (w'.heap[gb297]? = some (.cells #[(.slice A0_0 l0_0.length c0_0)] 36 (0, 0))) ∧ Aside0 (Below w.heap.size w w'))
 case atStart => exact ⟨(0), (by first | rfl | (simp; done) | (simp [*]; done)), H', ⟨Nat.le_refl _⟩, ⟨bf_⟩, ⟨bw_ HB⟩⟩
 case round =>
  clear H'
  try clear p2
  try clear c3
  obtain ⟨x5_1, rfl, HA, HK1, BK297, HB⟩ := hrel
  cases gk with
  | zero => exact absurd HA.out (by simp [spec_l03At.l0])
  | succ k1 =>
   have H := HA.out
   clear HA
   simp only [spec_l03At.l0] at H
   by_cases c4 : x5_1 < (l0_0.length : Int)
   ·rw [if_pos c4] at H
    have c4b0 : decide (x5_1 < (l0_0.length : Int)) = true := decide_eq_true c4
    clear c4
    by_cases c5 : 0 ≤ x5_1
    ·rw [if_pos c5] at H
     have c5b0 : decide (0 ≤ x5_1) = true := decide_eq_true c5
     clear c5
     by_cases c6 : ((rd_T57 l0_0 x5_1).f0).toList = a1.toList
     ·rw [if_pos c6] at H
      have c6b0 : (((rd_T57 l0_0 x5_1).f0).toList == a1.toList) = true := beq_iff_eq.mpr c6
      have c6b1 : (((rd_T57 l0_0 x5_1).f0).toList != a1.toList) = false := bne_eq_false_iff_eq.mpr c6
      clear c6
      obtain rfl := Option.some.inj H
      have hcz7_0 : wr.cell? ⟨gb297, 0, none⟩ = some (.slice A0_0 l0_0.length c0_0) := bc_ BK297 0
      have hfz7_0 := blk_frozen BK297.out 0
      have p298 : 0 ≤ (x5_1 : Int) := od_
      have q298 : x5_1 < (l0_0.length : Int) := od_
      obtain ⟨ad298, e298, hx298_0, hx298_1, hx298_2⟩ := at_T57 HR0_0.out x5_1 p298 q298
      cases e298
      replace hx298_0 := hc_ HB hx298_0
      replace hx298_1 := hc_ HB hx298_1
      replace hx298_2 := hc_ HB hx298_2
      replace p298 := eq_true p298
      replace q298 := eq_true q298
      go_wp2
      go_ret
      exact ⟨er_, bw_ HB⟩
     ·rw [if_neg c6] at H
      have c6b0 : (((rd_T57 l0_0 x5_1).f0).toList == a1.toList) = false := beq_eq_false_iff_ne.mpr c6
      have c6b1 : (((rd_T57 l0_0 x5_1).f0).toList != a1.toList) = true := bne_iff_ne.mpr c6
      have H' := Aside0.mk H
      clear H
      have hcz8_0 : wr.cell? ⟨gb297, 0, none⟩ = some (.slice A0_0 l0_0.length c0_0) := bc_ BK297 0
      have hfz8_0 := blk_frozen BK297.out 0
      have p298 : 0 ≤ (x5_1 : Int) := od_
      have q298 : x5_1 < (l0_0.length : Int) := od_
      obtain ⟨ad298, e298, hx298_0, hx298_1, hx298_2⟩ := at_T57 HR0_0.out x5_1 p298 q298
      cases e298
      replace hx298_0 := hc_ HB hx298_0
      replace hx298_1 := hc_ HB hx298_1
      replace hx298_2 := hc_ HB hx298_2
      replace p298 := eq_true p298
      replace q298 := eq_true q298
      go_wp2
      go_roundg k1
      case measure => have := HK1.out; omega
      case rel => exact ⟨(wrap64 (x5_1 + 1)), (by first | rfl | (simp; done) | (simp [*]; done)), H', ⟨by have := HK1.out; omega⟩, ⟨bf_⟩, ⟨bw_ HB⟩⟩
    ·rw [if_neg c5] at H
     exact absurd H (by simp)
   ·rw [if_neg c4] at H
    have c4b0 : decide (x5_1 < (l0_0.length : Int)) = false := decide_eq_false c4
    clear c4
    obtain rfl := Option.some.inj H
    have hcz9_0 : wr.cell? ⟨gb297, 0, none⟩ = some (.slice A0_0 l0_0.length c0_0) := bc_ BK297 0
    have hfz9_0 := blk_frozen BK297.out 0
    go_wp2
    go_ret
    exact ⟨er_, bw_ HB⟩

/-! ### spec_l08New: function 54 -/
def spec_l08New.f (k : Nat) (l0_0 : List (S57)) : Option ((List (S65))) := (spec_l03At.f k l0_0 (⟨#[115, 43]⟩ : ByteArray)).bind fun t300 => (if t300 ≥ 0 then (some (([(⟨4, (⟨#[115, 43]⟩ : ByteArray), (⟨#[]⟩ : ByteArray), (⟨#[]⟩ : ByteArray)⟩ : S65)] : List (S65)))) else (some (([] : List (S65)))))
theorem spec_l08New.mono : ∀ a0 k, LeO (spec_l08New.f k a0) (spec_l08New.f (k + 1) a0) := by
 intro a0 k
 unfold spec_l08New.f
 repeat' first
   | (with_reducible exact spec_l03At.mono _ _ _)
   | (with_reducible exact LeO.refl _)
   | (with_reducible refine LeO.bind ?_ (fun _ => ?_))
set_option maxHeartbeats 8000000 in
set_option maxRecDepth 100000 in
theorem spec_l08New.calls (k : Nat) (A0_0 : Option Addr) (c0_0 : Nat) (l0_0 : List (S57)) (r : List (S65)) (w : World) (hr0_0 : Kd.C k57 w A0_0 l0_0.length l0_0) (hc0_0 : l0_0.length ≤ c0_0) (h : spec_l08New.f k l0_0 = some r) :
  Calls Tryz.prog 54 #[.agg #[.slice A0_0 l0_0.length c0_0]] w fun e w' => ∃ v0_ : Value, e = .returned (v0_) ∧ Kd.R k65 65 w' w.heap.size (fun _ => True) v0_ r ∧ Below w.heap.size w w' := by
 have hu36 := Tryz.underlying36
 have hu65 := Tryz.underlying65
 have HR0_0 := Aside0.mk hr0_0
 have HC0_0 := Aside0.mk hc0_0
 clear hr0_0 hc0_0
 have HB := mk_ (Below.refl w.heap.size w)
 have H : ((spec_l03At.f k l0_0 (⟨#[115, 43]⟩ : ByteArray)).bind fun t300 => (if t300 ≥ 0 then (some (([(⟨4, (⟨#[115, 43]⟩ : ByteArray), (⟨#[]⟩ : ByteArray), (⟨#[]⟩ : ByteArray)⟩ : S65)] : List (S65)))) else (some (([] : List (S65)))))) = some r := h
 clear h
 replace H := Option.bind_eq_some_iff.mp H
 obtain ⟨t300, A20, H⟩ := H
 replace H : (if t300 ≥ 0 then (some (([(⟨4, (⟨#[115, 43]⟩ : ByteArray), (⟨#[]⟩ : ByteArray), (⟨#[]⟩ : ByteArray)⟩ : S65)] : List (S65)))) else (some (([] : List (S65))))) = some r := H
 have A2 := Aside0.mk A20
 clear A20
 by_cases c3 : t300 ≥ 0
 ·rw [if_pos c3] at H
  have c3b0 : decide (0 ≤ t300) = true := decide_eq_true c3
  clear c3
  obtain ⟨y301, hy301⟩ : ∃ y_ : List (S65), y_ = (([(⟨4, (⟨#[115, 43]⟩ : ByteArray), (⟨#[]⟩ : ByteArray), (⟨#[]⟩ : ByteArray)⟩ : S65)] : List (S65))) := ⟨_, rfl⟩
  replace H : (some y301) = some r := by first | (rw [hy301]; with_reducible exact H) | (have H2_ := (Option.bind_some _ _).symm.trans H; rw [hy301]; with_reducible exact H2_) | (have H2_ := (Option.bind_some _ _).symm.trans H; with_reducible exact H2_) | with_reducible exact H | (rw [hy301]; exact H) | exact H
  have Ny301 := Aside0.mk hy301
  clear hy301
  obtain rfl := Option.some.inj H
  go_enter Tryz.func54, Tryz.ntmps54
  go_wp2_with (first | ((with_reducible refine gate_dst (N := 1) rfl ?_); refine bx_ (N := 1) (cs := #[.slice A0_0 l0_0.length c0_0]) (t := 36) ?_; intro gb299 hg w4 hbox hb; have BK299 := mk_ (hbox); have GW299 : Aside0 (w.heap.size ≤ gb299) := bz_ hg; have GE299 := GW299; replace HB := bs_ HB hb; clear hb hbox hg; obtain ⟨hcz5_0, hfz5_0⟩ := b1_ BK299) | ((with_reducible refine gate_callee (f := 31) rfl ?_); refine goesL_ (some 4) rfl rfl Tryz.func31 (by kernel_rfl) rfl #[.agg #[.slice A0_0 l0_0.length c0_0], .string (⟨#[115, 43]⟩ : ByteArray)] rfl ga_ ?_; (with_reducible refine (spec_l03At.calls k _ _ l0_0 (⟨#[115, 43]⟩ : ByteArray) t300 _ ?side1 ?side2 A2.out).mono ?_); (case side1 => repeat (first | exact (Kd.C_below HR0_0.out HB.out) | (with_reducible refine Kd.C_alloc ?_ _) | (with_reducible refine Kd.C_drewN ?_ _) | (with_reducible refine Kd.C_drew ?_))); (case side2 => exact HC0_0.out); rintro e w6 ⟨rfl, hb⟩; refine ⟨_, rfl, ?_⟩; replace BK299 := bb_ BK299 hb; replace HB := bs_ HB hb; (try clear hb); (try clear hk)) | ((with_reducible refine gate_dst (N := 7) rfl ?_); refine Kd.R_lit k65 _ 65 ?hg (N := 7) ?hd (xs := ([(⟨4, (⟨#[115, 43]⟩ : ByteArray), (⟨#[]⟩ : ByteArray), (⟨#[]⟩ : ByteArray)⟩ : S65)] : List (S65))) (inner := [.int .i64 4, .string (⟨#[115, 43]⟩ : ByteArray), .string (⟨#[]⟩ : ByteArray), .string (⟨#[]⟩ : ByteArray)]) (ok := fun _ => True) (okp := fun _ => True) ?hr ?hp (fun _ hk => hk) trivial (Below.refl _ _) (Nat.le_refl _) (by simp) ?_; (case hd => rfl); (case hg => rfl); (case hr => first | (go_simp; done) | (go_simp; rfl)); (case hp => exact (Reps.c4 (show Kd.M k65 _ _ _ (⟨4, (⟨#[115, 43]⟩ : ByteArray), (⟨#[]⟩ : ByteArray), (⟨#[]⟩ : ByteArray)⟩ : S65) [.int .i64 4, .string (⟨#[115, 43]⟩ : ByteArray), .string (⟨#[]⟩ : ByteArray), .string (⟨#[]⟩ : ByteArray)] from (k65_mkM _ _ _ (⟨4, (⟨#[115, 43]⟩ : ByteArray), (⟨#[]⟩ : ByteArray), (⟨#[]⟩ : ByteArray)⟩ : S65) )) (Reps.none _ _))); intro v302 w7 ho8 hb hg_ hnew_; clear hg_ hnew_; (first | rw [← Ny301.out] at ho8 | (simp only [Int.reduceToNat] at ho8; rw [← Ny301.out] at ho8)); have HO303 := mk_ (Kd.R_lower ho8 (below_size (bw_ HB))); replace BK299 := bb_ BK299 hb; replace HB := bs_ HB hb; clear hb ho8))
  go_ret
  exact ⟨_, er_, by (with_reducible repeat (first | apply Kd.R_alloc | apply Kd.R_drewN | apply Kd.R_drew)); exact HO303.out, bw_ HB⟩
 ·rw [if_neg c3] at H
  have c3b0 : decide (0 ≤ t300) = false := decide_eq_false c3
  clear c3
  obtain ⟨y304, hy304⟩ : ∃ y_ : List (S65), y_ = (([] : List (S65))) := ⟨_, rfl⟩
  replace H : (some y304) = some r := by first | (rw [hy304]; with_reducible exact H) | (have H2_ := (Option.bind_some _ _).symm.trans H; rw [hy304]; with_reducible exact H2_) | (have H2_ := (Option.bind_some _ _).symm.trans H; with_reducible exact H2_) | with_reducible exact H | (rw [hy304]; exact H) | exact H
  have Ny304 := Aside0.mk hy304
  clear hy304
  obtain rfl := Option.some.inj H
  go_enter Tryz.func54, Tryz.ntmps54
  go_wp2_with (first | ((with_reducible refine gate_dst (N := 1) rfl ?_); refine bx_ (N := 1) (cs := #[.slice A0_0 l0_0.length c0_0]) (t := 36) ?_; intro gb299 hg w9 hbox hb; have BK299 := mk_ (hbox); have GW299 : Aside0 (w.heap.size ≤ gb299) := bz_ hg; have GE299 := GW299; replace HB := bs_ HB hb; clear hb hbox hg; obtain ⟨hcz10_0, hfz10_0⟩ := b1_ BK299) | ((with_reducible refine gate_callee (f := 31) rfl ?_); refine goesL_ (some 4) rfl rfl Tryz.func31 (by kernel_rfl) rfl #[.agg #[.slice A0_0 l0_0.length c0_0], .string (⟨#[115, 43]⟩ : ByteArray)] rfl ga_ ?_; (with_reducible refine (spec_l03At.calls k _ _ l0_0 (⟨#[115, 43]⟩ : ByteArray) t300 _ ?side1 ?side2 A2.out).mono ?_); (case side1 => repeat (first | exact (Kd.C_below HR0_0.out HB.out) | (with_reducible refine Kd.C_alloc ?_ _) | (with_reducible refine Kd.C_drewN ?_ _) | (with_reducible refine Kd.C_drew ?_))); (case side2 => exact HC0_0.out); rintro e w11 ⟨rfl, hb⟩; refine ⟨_, rfl, ?_⟩; replace BK299 := bb_ BK299 hb; replace HB := bs_ HB hb; (try clear hb); (try clear hk)) | ((with_reducible refine gate_dst (N := 8) rfl ?_); refine Kd.R_lit k65 _ 65 ?hg (N := 8) ?hd (xs := ([] : List (S65))) (inner := []) (ok := fun _ => True) (okp := fun _ => True) ?hr ?hp (fun _ hk => hk) trivial (Below.refl _ _) (Nat.le_refl _) (by simp) ?_; (case hd => rfl); (case hg => rfl); (case hr => first | (go_simp; done) | (go_simp; rfl)); (case hp => exact (Reps.none _ _)); intro v305 w12 ho13 hb hg_ hnew_; clear hg_ hnew_; (first | rw [← Ny304.out] at ho13 | (simp only [Int.reduceToNat] at ho13; rw [← Ny304.out] at ho13)); have HO306 := mk_ (Kd.R_lower ho13 (below_size (bw_ HB))); replace BK299 := bb_ BK299 hb; replace HB := bs_ HB hb; clear hb ho13))
  go_ret
  exact ⟨_, er_, by (with_reducible repeat (first | apply Kd.R_alloc | apply Kd.R_drewN | apply Kd.R_drew)); exact HO306.out, bw_ HB⟩

/-! ### spec_l08Drops: function 55 -/
def spec_l08Drops.l0 : Nat → Int → List (S65) → Int → List (S57) → Option ((List (S65)))
 | 0, _, _, _, _ => none
 | k + 1, x1, x5, x6, x308000 => if x6 < (x308000.length : Int) then (if 0 ≤ x6 then ((spec_l08Index.f k ((rd_T57 x308000 x6).f0)).bind fun t312 => (if t312 ≥ 0 then (if t312 = x1 then (spec_l08Drops.l0 k x1 x5 (wrap64 (x6 + 1)) x308000) else (if x5.length < 2513169434916 then (spec_l08Drops.l0 k x1 (x5 ++ [(⟨4, (rd_T57 x308000 x6).f0, (⟨#[]⟩ : ByteArray), (⟨#[]⟩ : ByteArray)⟩ : S65)]) (wrap64 (x6 + 1)) x308000) else (none))) else (spec_l08Drops.l0 k x1 x5 (wrap64 (x6 + 1)) x308000))) else (none)) else (some x5)
def spec_l08Drops.f (k : Nat) (l0_0 : List (S57)) (a1 : Int) : Option ((List (S65))) := spec_l08Drops.l0 k a1 (([] : List (S65))) 0 l0_0
theorem spec_l08Drops.mono_l : ∀ k, (∀ y0 y1 y2 y3, LeO (spec_l08Drops.l0 k y0 y1 y2 y3) (spec_l08Drops.l0 (k + 1) y0 y1 y2 y3))
 | 0 => fun _ _ _ _ r h => by simp [spec_l08Drops.l0] at h
 | k + 1 => by
  have ih0 := spec_l08Drops.mono_l k
  ·intro y0 y1 y2 y3
   unfold spec_l08Drops.l0
   repeat' first
   | (with_reducible exact ih0 _ _ _ _)
   | (with_reducible exact spec_l08Index.mono _ _)
   | (with_reducible exact LeO.refl _)
   | (with_reducible refine LeO.ite ?_ ?_)
   | (with_reducible refine LeO.bind ?_ (fun _ => ?_))
theorem spec_l08Drops.mono : ∀ a0 a1 k, LeO (spec_l08Drops.f k a0 a1) (spec_l08Drops.f (k + 1) a0 a1) := by
 intro a0 a1 k
 have ih0 := spec_l08Drops.mono_l k
 unfold spec_l08Drops.f
 repeat' first
   | (with_reducible exact ih0 _ _ _ _)
set_option maxHeartbeats 8000000 in
set_option maxRecDepth 100000 in
theorem spec_l08Drops.calls (k : Nat) (A0_0 : Option Addr) (c0_0 : Nat) (l0_0 : List (S57)) (a1 : Int) (r : List (S65)) (w : World) (hr0_0 : Kd.C k57 w A0_0 l0_0.length l0_0) (hc0_0 : l0_0.length ≤ c0_0) (h : spec_l08Drops.f k l0_0 a1 = some r) :
  Calls Tryz.prog 55 #[.agg #[.slice A0_0 l0_0.length c0_0], .int .i64 a1] w fun e w' => ∃ v0_ : Value, e = .returned (v0_) ∧ Kd.R k65 65 w' w.heap.size (fun _ => True) v0_ r ∧ Below w.heap.size w w' := by
 have hu36 := Tryz.underlying36
 have hu65 := Tryz.underlying65
 have HR0_0 := Aside0.mk hr0_0
 have HC0_0 := Aside0.mk hc0_0
 clear hr0_0 hc0_0
 have HB := mk_ (Below.refl w.heap.size w)
 have H : (spec_l08Drops.l0 k a1 (([] : List (S65))) 0 l0_0) = some r := h
 clear h
 obtain ⟨y308, hy308⟩ : ∃ y_ : List (S65), y_ = (([] : List (S65))) := ⟨_, rfl⟩
 replace H : (spec_l08Drops.l0 k a1 y308 0 l0_0) = some r := by first | (rw [hy308]; with_reducible exact H) | (have H2_ := (Option.bind_some _ _).symm.trans H; rw [hy308]; with_reducible exact H2_) | (have H2_ := (Option.bind_some _ _).symm.trans H; with_reducible exact H2_) | with_reducible exact H | (rw [hy308]; exact H) | exact H
 have Ny308 := Aside0.mk hy308
 clear hy308
 have H' := Aside0.mk H
 clear H
 go_enter Tryz.func55, Tryz.ntmps55
 go_wp2_with (first | ((with_reducible refine gate_dst (N := 2) rfl ?_); refine bx_ (N := 2) (cs := #[.slice A0_0 l0_0.length c0_0]) (t := 36) ?_; intro gb307 hg w3 hbox hb; have BK307 := mk_ (hbox); have GW307 : Aside0 (w.heap.size ≤ gb307) := bz_ hg; have GE307 := GW307; replace HB := bs_ HB hb; clear hb hbox hg) | ((with_reducible refine gate_dst (N := 8) rfl ?_); refine Kd.R_lit k65 _ 65 ?hg (N := 8) ?hd (xs := ([] : List (S65))) (inner := []) (ok := fun _ => True) (okp := fun _ => True) ?hr ?hp (fun _ hk => hk) trivial (Below.refl _ _) (Nat.le_refl _) (by simp) ?_; (case hd => rfl); (case hg => rfl); (case hr => first | (go_simp; done) | (go_simp; rfl)); (case hp => exact (Reps.none _ _)); intro v309 w4 ho5 hb hg_ hnew_; clear hg_ hnew_; (first | rw [← Ny308.out] at ho5 | (simp only [Int.reduceToNat] at ho5; rw [← Ny308.out] at ho5)); have HO310 := mk_ (Kd.R_lower ho5 (below_size (bw_ HB))); replace BK307 := bb_ BK307 hb; replace HB := bs_ HB hb; clear hb ho5))
 go_loopg [5, 6] k (fun kq v5 v6 w' => ∃ (x5_1 : List (S65)) (x6_1 : Int), v6 = .int .i64 x6_1 ∧ Aside0 (spec_l08Drops.l0 kq a1 x5_1 x6_1 l0_0 = some r) ∧ Aside0 (kq ≤ k) ∧ Aside0 (Kd.R k65 65 w' w.heap.size (fun _ => True) v5 x5_1) ∧ Aside0 (w'.heap[gb307]? = some (.cells #[(.slice A0_0 l0_0.length c0_0)] 36 (0, 0))) ∧ Aside0 (Below w.heap.size w w'))
 case atStart => exact ⟨(y308), (0), (by first | rfl | (simp; done) | (simp [*]; done)), H', ⟨Nat.le_refl _⟩, ⟨by (with_reducible repeat (first | apply Kd.R_alloc | apply Kd.R_drewN | apply Kd.R_drew)); exact HO310.out⟩, ⟨bf_⟩, ⟨bw_ HB⟩⟩
 case round =>
  clear H'
  try clear p2
  try clear c5
  obtain ⟨x5_1, x6_1, rfl, HA, HK1, HO_5, BK307, HB⟩ := hrel
  cases gk with
  | zero => exact absurd HA.out (by simp [spec_l08Drops.l0])
  | succ k1 =>
   have H := HA.out
   clear HA
   simp only [spec_l08Drops.l0] at H
   by_cases c6 : x6_1 < (l0_0.length : Int)
   ·rw [if_pos c6] at H
    have c6b0 : decide (x6_1 < (l0_0.length : Int)) = true := decide_eq_true c6
    clear c6
    by_cases c7 : 0 ≤ x6_1
    ·rw [if_pos c7] at H
     have c7b0 : decide (0 ≤ x6_1) = true := decide_eq_true c7
     clear c7
     replace H := Option.bind_eq_some_iff.mp H
     obtain ⟨t312, A80, H⟩ := H
     replace H : (if t312 ≥ 0 then (if t312 = a1 then (spec_l08Drops.l0 k1 a1 x5_1 (wrap64 (x6_1 + 1)) l0_0) else (if x5_1.length < 2513169434916 then (spec_l08Drops.l0 k1 a1 (x5_1 ++ [(⟨4, (rd_T57 l0_0 x6_1).f0, (⟨#[]⟩ : ByteArray), (⟨#[]⟩ : ByteArray)⟩ : S65)]) (wrap64 (x6_1 + 1)) l0_0) else (none))) else (spec_l08Drops.l0 k1 a1 x5_1 (wrap64 (x6_1 + 1)) l0_0)) = some r := H
     have A8 := Aside0.mk A80
     clear A80
     by_cases c9 : t312 ≥ 0
     ·rw [if_pos c9] at H
      have c9b0 : decide (0 ≤ t312) = true := decide_eq_true c9
      clear c9
      by_cases c10 : t312 = a1
      ·rw [if_pos c10] at H
       have c10b0 : (t312 == a1) = true := beq_iff_eq.mpr c10
       have c10b1 : (t312 != a1) = false := bne_eq_false_iff_eq.mpr c10
       clear c10
       have H' := Aside0.mk H
       clear H
       have hcz11_0 : wr.cell? ⟨gb307, 0, none⟩ = some (.slice A0_0 l0_0.length c0_0) := bc_ BK307 0
       have hfz11_0 := blk_frozen BK307.out 0
       have p311 : 0 ≤ (x6_1 : Int) := od_
       have q311 : x6_1 < (l0_0.length : Int) := od_
       obtain ⟨ad311, e311, hx311_0, hx311_1, hx311_2⟩ := at_T57 HR0_0.out x6_1 p311 q311
       cases e311
       replace hx311_0 := hc_ HB hx311_0
       replace hx311_1 := hc_ HB hx311_1
       replace hx311_2 := hc_ HB hx311_2
       replace p311 := eq_true p311
       replace q311 := eq_true q311
       go_wp2_with (first | ((with_reducible refine gate_callee (f := 48) rfl ?_); refine goesL_ (some 22) rfl rfl Tryz.func48 (by kernel_rfl) rfl #[.string ((rd_T57 l0_0 x6_1).f0)] rfl ga_ ?_; (with_reducible refine (spec_l08Index.calls k1 ((rd_T57 l0_0 x6_1).f0) t312 _ A8.out).mono ?_); rintro e w12 ⟨rfl, hb⟩; refine ⟨_, rfl, ?_⟩; replace HO_5 := rb_ HO_5 hb; replace BK307 := bb_ BK307 hb; replace HB := bs_ HB hb; (try clear hb)))
       go_roundg k1
       case measure => have := HK1.out; omega
       case rel => exact ⟨(x5_1), (wrap64 (x6_1 + 1)), (by first | rfl | (simp; done) | (simp [*]; done)), H', ⟨by have := HK1.out; omega⟩, ⟨by (with_reducible repeat (first | apply Kd.R_alloc | apply Kd.R_drewN | apply Kd.R_drew)); exact HO_5.out⟩, ⟨bf_⟩, ⟨bw_ HB⟩⟩
      ·rw [if_neg c10] at H
       have c10b0 : (t312 == a1) = false := beq_eq_false_iff_ne.mpr c10
       have c10b1 : (t312 != a1) = true := bne_iff_ne.mpr c10
       by_cases c13 : x5_1.length < 2513169434916
       ·rw [if_pos c13] at H
        have LMc13 := Aside0.mk c13
        clear c13
        obtain ⟨y314, hy314⟩ : ∃ y_ : List (S65), y_ = (x5_1 ++ [(⟨4, (rd_T57 l0_0 x6_1).f0, (⟨#[]⟩ : ByteArray), (⟨#[]⟩ : ByteArray)⟩ : S65)]) := ⟨_, rfl⟩
        replace H : (spec_l08Drops.l0 k1 a1 y314 (wrap64 (x6_1 + 1)) l0_0) = some r := by first | (rw [hy314]; with_reducible exact H) | (have H2_ := (Option.bind_some _ _).symm.trans H; rw [hy314]; with_reducible exact H2_) | (have H2_ := (Option.bind_some _ _).symm.trans H; with_reducible exact H2_) | with_reducible exact H | (rw [hy314]; exact H) | exact H
        have Ny314 := Aside0.mk hy314
        clear hy314
        have H' := Aside0.mk H
        clear H
        have hcz14_0 : wr.cell? ⟨gb307, 0, none⟩ = some (.slice A0_0 l0_0.length c0_0) := bc_ BK307 0
        have hfz14_0 := blk_frozen BK307.out 0
        have p311 : 0 ≤ (x6_1 : Int) := od_
        have q311 : x6_1 < (l0_0.length : Int) := od_
        obtain ⟨ad311, e311, hx311_0, hx311_1, hx311_2⟩ := at_T57 HR0_0.out x6_1 p311 q311
        cases e311
        replace hx311_0 := hc_ HB hx311_0
        replace hx311_1 := hc_ HB hx311_1
        replace hx311_2 := hc_ HB hx311_2
        replace p311 := eq_true p311
        replace q311 := eq_true q311
        go_wp2_with (first | ((with_reducible refine gate_callee (f := 48) rfl ?_); refine goesL_ (some 22) rfl rfl Tryz.func48 (by kernel_rfl) rfl #[.string ((rd_T57 l0_0 x6_1).f0)] rfl ga_ ?_; (with_reducible refine (spec_l08Index.calls k1 ((rd_T57 l0_0 x6_1).f0) t312 _ A8.out).mono ?_); rintro e w15 ⟨rfl, hb⟩; refine ⟨_, rfl, ?_⟩; replace HO_5 := rb_ HO_5 hb; replace BK307 := bb_ BK307 hb; replace HB := bs_ HB hb; (try clear hb); (try clear hk); obtain ⟨hcz16_0, hfz16_0⟩ := b1_ BK307; have p313 : 0 ≤ (x6_1 : Int) := od_; have q313 : x6_1 < (l0_0.length : Int) := od_; obtain ⟨ad313, e313, hx313_0, hx313_1, hx313_2⟩ := at_T57 HR0_0.out x6_1 p313 q313; obtain rfl : ad311 = ad313 := (by injection e313); replace hx313_0 := hc_ HB hx313_0; replace hx313_1 := hc_ HB hx313_1; replace hx313_2 := hc_ HB hx313_2; replace p313 := eq_true p313; replace q313 := eq_true q313) | ((with_reducible refine gate_builtin (b := .append) (xs := #[.tmp 30, .tmp 38]) rfl ?_); at_builtin; refine Kd.R_append k65 (w0 := w) w.heap.size rfl (.tmp 30) (.tmp 38) 31 65 (.agg #[(.int .i64 0), (.string ⟨#[]⟩), (.string ⟨#[]⟩), (.string ⟨#[]⟩)]) 56 rfl Tryz.underlying31 info65 rfl (by decide) (by omega) u5 x5_1 (⟨4, (rd_T57 l0_0 x6_1).f0, (⟨#[]⟩ : ByteArray), (⟨#[]⟩ : ByteArray)⟩ : S65) [.int .i64 4, .string ((rd_T57 l0_0 x6_1).f0), .string (⟨#[]⟩ : ByteArray), .string (⟨#[]⟩ : ByteArray)] (fun _ => True) (fun _ => False) rfl rfl ?aP (fun _ hk => hk.elim) ?aF ?aO ?aB ?aS ?aL ?_; (case aP => exact k65_mkM _ _ _ (⟨4, (rd_T57 l0_0 x6_1).f0, (⟨#[]⟩ : ByteArray), (⟨#[]⟩ : ByteArray)⟩ : S65)); (case aB => exact (bw_ HB)); (case aF => exact (fun _ _ => trivial)); (case aO => exact (rp_ HO_5)); (case aS => exact (below_size (bw_ HB))); (case aL => have := LMc13.out; omega); intro v315 w17 ho hb hg hat; rw [← Ny314.out] at ho; have HO316 := mk_ (ho); replace BK307 := mk_ (blk_grown (g := gb307) (o := .cells #[.slice (some ad311) l0_0.length c0_0] 36 (0, 0)) (bp_ BK307) hg (Kd.R_ne HO_5.out BK307.out (by decide))); replace HB := mk_ (hb); clear HO_5; clear ho hb hg hat))
        go_roundg k1
        case measure => have := HK1.out; omega
        case rel => exact ⟨(y314), (wrap64 (x6_1 + 1)), (by first | rfl | (simp; done) | (simp [*]; done)), H', ⟨by have := HK1.out; omega⟩, ⟨by (with_reducible repeat (first | apply Kd.R_alloc | apply Kd.R_drewN | apply Kd.R_drew)); exact HO316.out⟩, ⟨bf_⟩, ⟨bw_ HB⟩⟩
       ·rw [if_neg c13] at H
        exact absurd H (by simp)
     ·rw [if_neg c9] at H
      have c9b0 : decide (0 ≤ t312) = false := decide_eq_false c9
      clear c9
      have H' := Aside0.mk H
      clear H
      have hcz18_0 : wr.cell? ⟨gb307, 0, none⟩ = some (.slice A0_0 l0_0.length c0_0) := bc_ BK307 0
      have hfz18_0 := blk_frozen BK307.out 0
      have p311 : 0 ≤ (x6_1 : Int) := od_
      have q311 : x6_1 < (l0_0.length : Int) := od_
      obtain ⟨ad311, e311, hx311_0, hx311_1, hx311_2⟩ := at_T57 HR0_0.out x6_1 p311 q311
      cases e311
      replace hx311_0 := hc_ HB hx311_0
      replace hx311_1 := hc_ HB hx311_1
      replace hx311_2 := hc_ HB hx311_2
      replace p311 := eq_true p311
      replace q311 := eq_true q311
      go_wp2_with (first | ((with_reducible refine gate_callee (f := 48) rfl ?_); refine goesL_ (some 22) rfl rfl Tryz.func48 (by kernel_rfl) rfl #[.string ((rd_T57 l0_0 x6_1).f0)] rfl ga_ ?_; (with_reducible refine (spec_l08Index.calls k1 ((rd_T57 l0_0 x6_1).f0) t312 _ A8.out).mono ?_); rintro e w19 ⟨rfl, hb⟩; refine ⟨_, rfl, ?_⟩; replace HO_5 := rb_ HO_5 hb; replace BK307 := bb_ BK307 hb; replace HB := bs_ HB hb; (try clear hb)))
      go_roundg k1
      case measure => have := HK1.out; omega
      case rel => exact ⟨(x5_1), (wrap64 (x6_1 + 1)), (by first | rfl | (simp; done) | (simp [*]; done)), H', ⟨by have := HK1.out; omega⟩, ⟨by (with_reducible repeat (first | apply Kd.R_alloc | apply Kd.R_drewN | apply Kd.R_drew)); exact HO_5.out⟩, ⟨bf_⟩, ⟨bw_ HB⟩⟩
    ·rw [if_neg c7] at H
     exact absurd H (by simp)
   ·rw [if_neg c6] at H
    have c6b0 : decide (x6_1 < (l0_0.length : Int)) = false := decide_eq_false c6
    clear c6
    obtain rfl := Option.some.inj H
    have hcz20_0 : wr.cell? ⟨gb307, 0, none⟩ = some (.slice A0_0 l0_0.length c0_0) := bc_ BK307 0
    have hfz20_0 := blk_frozen BK307.out 0
    go_wp2
    go_ret
    exact ⟨_, er_, by (with_reducible repeat (first | apply Kd.R_alloc | apply Kd.R_drewN | apply Kd.R_drew)); exact HO_5.out, bw_ HB⟩

end Go.Proofs.YtgnmlgoadkhceaaGreatDoor.QFnExactShedActs
