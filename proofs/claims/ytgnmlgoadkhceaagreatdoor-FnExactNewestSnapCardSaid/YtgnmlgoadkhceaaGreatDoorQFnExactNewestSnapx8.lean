/- Written by this session's own program (wip/tpl/pp.py): what the law's functions come to, and that the machine's calls do just that. -/
import Derived.Test.YtgnmlgoadkhceaaGreatDoorQFnExactNewestSnapx0
import Derived.Test.YtgnmlgoadkhceaaGreatDoorQFnExactNewestSnapx2
import Derived.Test.YtgnmlgoadkhceaaGreatDoorQFnExactNewestSnapx3
import Derived.Test.YtgnmlgoadkhceaaGreatDoorQFnExactNewestSnapx7
namespace Go.Proofs.YtgnmlgoadkhceaaGreatDoor.QFnExactNewestSnap
open Go.RowKit Go.Proofs.YtgnmlgoadkhceaaGreatDoorW.PrintWords Go.Proofs.YtgnmlgoadkhceaaGreatDoorW.PrintLast Go.Proofs.YtgnmlgoadkhceaaGreatDoorW.PrintMore
attribute [local go_sem] Go.Proofs.YtgnmlgoadkhceaaGreatDoor.Sem.string_geq Go.Proofs.YtgnmlgoadkhceaaGreatDoor.Sem.string_leq Go.Proofs.YtgnmlgoadkhceaaGreatDoor.Sem.string_gtr
attribute [local go_sem] max2_int min2_int max_two min_two max_three min_three max_four min_four   -- for this text's walks alone
set_option linter.unusedVariables false
set_option linter.unusedSimpArgs false

/-! ### spec_NewestSnap: function 18 -/
mutual
def spec_NewestSnap.l0 : Nat → Int → List (S57) → Int → Int → List Int → ByteArray → Option (Int × Int × List Int × ByteArray × Bool)
 | 0, _, _, _, _, _, _ => none
 | k + 1, x5, x264000, x266000, x266001, x266002, x266003 => if x5 < (x264000.length : Int) then ((spec_DiskOk.f k x264000).bind fun t266 => (spec_NewestSnap.j1 k x5 t266 x264000 x266000 x266001 x266002 x266003)) else (spec_NewestSnap.j1 k x5 false x264000 x266000 x266001 x266002 x266003)
def spec_NewestSnap.j1 : Nat → Int → Bool → List (S57) → Int → Int → List Int → ByteArray → Option (Int × Int × List Int × ByteArray × Bool)
 | 0, _, _, _, _, _, _, _ => none
 | k + 1, x5, x18, x264000, x266000, x266001, x266002, x266003 => if x18 = true then (if 0 ≤ x5 then (if x5 < (x264000.length : Int) then ((spec_l08Index.f k ((rd_T57 x264000 x5).f0)).bind fun t268 => ((spec_ReadSnap.f k ((rd_T57 x264000 x5).f1)).bind fun bt270 => (if t268 ≥ 0 then (if bt270.2.2.2.2 = true then (if bt270.1 = t268 then (if t268 > x266000 then (spec_NewestSnap.l0 k (wrap64 (x5 + 1)) x264000 bt270.1 bt270.2.1 bt270.2.2.1 bt270.2.2.2.1) else (spec_NewestSnap.l0 k (wrap64 (x5 + 1)) x264000 x266000 x266001 x266002 x266003)) else (spec_NewestSnap.l0 k (wrap64 (x5 + 1)) x264000 x266000 x266001 x266002 x266003)) else (spec_NewestSnap.l0 k (wrap64 (x5 + 1)) x264000 x266000 x266001 x266002 x266003)) else (spec_NewestSnap.l0 k (wrap64 (x5 + 1)) x264000 x266000 x266001 x266002 x266003)))) else (none)) else (none)) else (if x266000 < 0 then (some (0, 0, ([] : List Int), (⟨#[]⟩ : ByteArray), false)) else (some (x266000, x266001, x266002, x266003, true)))
end
def spec_NewestSnap.f (k : Nat) (l0_0 : List (S57)) : Option (Int × Int × List Int × ByteArray × Bool) := spec_NewestSnap.l0 k 0 l0_0 (-1) 0 ([] : List Int) (⟨#[]⟩ : ByteArray)
theorem spec_NewestSnap.mono_l : ∀ k, (∀ y0 y1 y2 y3 y4 y5, LeO (spec_NewestSnap.l0 k y0 y1 y2 y3 y4 y5) (spec_NewestSnap.l0 (k + 1) y0 y1 y2 y3 y4 y5)) ∧ (∀ y0 y1 y2 y3 y4 y5 y6, LeO (spec_NewestSnap.j1 k y0 y1 y2 y3 y4 y5 y6) (spec_NewestSnap.j1 (k + 1) y0 y1 y2 y3 y4 y5 y6))
 | 0 => ⟨fun _ _ _ _ _ _ r h => by simp [spec_NewestSnap.l0] at h, fun _ _ _ _ _ _ _ r h => by simp [spec_NewestSnap.j1] at h⟩
 | k + 1 => by
  obtain ⟨ih0, ih1⟩ := spec_NewestSnap.mono_l k
  refine ⟨?_, ?_⟩
  ·intro y0 y1 y2 y3 y4 y5
   unfold spec_NewestSnap.l0
   repeat' first
   | (with_reducible exact ih0 _ _ _ _ _ _)
   | (with_reducible exact ih1 _ _ _ _ _ _ _)
   | (with_reducible exact spec_DiskOk.mono _ _)
   | (with_reducible exact spec_ReadSnap.mono _ _)
   | (with_reducible exact spec_l08Index.mono _ _)
   | (with_reducible exact LeO.refl _)
   | (with_reducible exact LeO.none _)
   | (with_reducible refine LeO.ite ?_ ?_)
   | (with_reducible refine LeO.bind ?_ (fun _ => ?_))
   | exact ih0 _ _ _ _ _ _
   | exact ih1 _ _ _ _ _ _ _
   | exact spec_DiskOk.mono _ _
   | exact spec_ReadSnap.mono _ _
   | exact spec_l08Index.mono _ _
   | exact LeO.none _
   | refine LeO.ite ?_ ?_
   | refine LeO.bind ?_ (fun _ => ?_)
  ·intro y0 y1 y2 y3 y4 y5 y6
   unfold spec_NewestSnap.j1
   repeat' first
   | (with_reducible exact ih0 _ _ _ _ _ _)
   | (with_reducible exact ih1 _ _ _ _ _ _ _)
   | (with_reducible exact spec_DiskOk.mono _ _)
   | (with_reducible exact spec_ReadSnap.mono _ _)
   | (with_reducible exact spec_l08Index.mono _ _)
   | (with_reducible exact LeO.refl _)
   | (with_reducible exact LeO.none _)
   | (with_reducible refine LeO.ite ?_ ?_)
   | (with_reducible refine LeO.bind ?_ (fun _ => ?_))
   | exact ih0 _ _ _ _ _ _
   | exact ih1 _ _ _ _ _ _ _
   | exact spec_DiskOk.mono _ _
   | exact spec_ReadSnap.mono _ _
   | exact spec_l08Index.mono _ _
   | exact LeO.none _
   | refine LeO.ite ?_ ?_
   | refine LeO.bind ?_ (fun _ => ?_)
theorem spec_NewestSnap.mono : ∀ a0 k, LeO (spec_NewestSnap.f k a0) (spec_NewestSnap.f (k + 1) a0) := by
 intro a0 k
 obtain ⟨ih0, ih1⟩ := spec_NewestSnap.mono_l k
 unfold spec_NewestSnap.f
 repeat' first
   | (with_reducible exact ih0 _ _ _ _ _ _)
   | (with_reducible exact ih1 _ _ _ _ _ _ _)
   | (with_reducible exact spec_DiskOk.mono _ _)
   | (with_reducible exact spec_ReadSnap.mono _ _)
   | (with_reducible exact spec_l08Index.mono _ _)
   | (with_reducible exact LeO.refl _)
   | (with_reducible exact LeO.none _)
   | (with_reducible refine LeO.ite ?_ ?_)
   | (with_reducible refine LeO.bind ?_ (fun _ => ?_))
   | exact ih0 _ _ _ _ _ _
   | exact ih1 _ _ _ _ _ _ _
   | exact spec_DiskOk.mono _ _
   | exact spec_ReadSnap.mono _ _
   | exact spec_l08Index.mono _ _
   | exact LeO.none _
   | refine LeO.ite ?_ ?_
   | refine LeO.bind ?_ (fun _ => ?_)
set_option maxHeartbeats 8000000 in
set_option maxRecDepth 100000 in
theorem spec_NewestSnap.calls (k : Nat) (A0_0 : Option Addr) (c0_0 : Nat) (l0_0 : List (S57)) (r1 : Int) (r2 : Int) (r3 : List Int) (r4 : ByteArray) (r5 : Bool) (w : World) (hr0_0 : Kd.C k57 w A0_0 l0_0.length l0_0) (hc0_0 : l0_0.length ≤ c0_0) (h : spec_NewestSnap.f k l0_0 = some (r1, r2, r3, r4, r5)) :
  Calls Tryz.prog 18 #[.agg #[.slice A0_0 l0_0.length c0_0]] w fun e w' => ∃ v2_ : Value, e = .returned (.tuple #[.agg #[.int .i64 r1, .int .i64 r2, v2_, .string r4], .bool r5]) ∧ Kd.R (Kd.int .i64) 3 w' w.heap.size (fun _ => True) v2_ r3 ∧ Below w.heap.size w w' := by
 have hu36 := Tryz.underlying36
 have hu47 := Tryz.underlying47
 have HR0_0 := Aside0.mk hr0_0
 have HC0_0 := Aside0.mk hc0_0
 clear hr0_0 hc0_0
 have HB := mk_ (Below.refl w.heap.size w)
 have H : (spec_NewestSnap.l0 k 0 l0_0 (-1) 0 ([] : List Int) (⟨#[]⟩ : ByteArray)) = some (r1, r2, r3, r4, r5) := h
 clear h
 have H' := Aside0.mk H
 clear H
 go_enter Tryz.func18, Tryz.ntmps18
 go_wp2_with (first | ((with_reducible refine gate_dst (N := 1) rfl ?_); refine box_event ?hg (N := 1) ?hd (cs := #[.slice A0_0 l0_0.length c0_0]) (t := 36) ?hr ?_; (case hd => rfl); (case hg => rfl); (case hr => first | (go_simp; done) | (go_simp; rfl)); intro gb263 hg w2 hbox hb; have BK263 := mk_ (hbox); have GW263 : Aside0 (w.heap.size ≤ gb263) := bz_ hg; have GE263 : Aside0 (w.heap.size ≤ gb263) := bz_ hg; replace HB := bs_ HB hb; clear hb hbox hg) | ((with_reducible refine gate_dst (N := 2) rfl ?_); refine box_event ?hg (N := 2) ?hd (cs := #[.int .i64 0, .int .i64 0, .slice none 0 0, .string (⟨#[]⟩ : ByteArray)]) (t := 47) ?hr ?_; (case hd => rfl); (case hg => rfl); (case hr => first | (go_simp; done) | (go_simp; rfl)); intro gb264 hg w3 hbox hb; have BK264 := mk_ (hbox); have GW264 : Aside0 (w.heap.size ≤ gb264) := bz_ hg; have GE264 : Aside0 (w.heap.size ≤ gb264) := bz_ hg; have NB263_264 : Aside0 (gb263 ≠ gb264) := bl_ BK263 hg; have NB264_263 : Aside0 (gb264 ≠ gb263) := bg_ BK263 hg; replace BK263 := bb_ BK263 hb; replace HB := bs_ HB hb; clear hb hbox hg) | ((with_reducible refine gate_dst (N := 4) rfl ?_); refine box_event ?hg (N := 4) ?hd (cs := #[.int .i64 0, .int .i64 0, .slice none 0 0, .string (⟨#[]⟩ : ByteArray)]) (t := 47) ?hr ?_; (case hd => rfl); (case hg => rfl); (case hr => first | (go_simp; done) | (go_simp; rfl)); intro gb265 hg w4 hbox hb; have BK265 := mk_ (hbox); have GW265 : Aside0 (w.heap.size ≤ gb265) := bz_ hg; have GE265 : Aside0 (w.heap.size ≤ gb265) := bz_ hg; have NB263_265 : Aside0 (gb263 ≠ gb265) := bl_ BK263 hg; have NB265_263 : Aside0 (gb265 ≠ gb263) := bg_ BK263 hg; have NB264_265 : Aside0 (gb264 ≠ gb265) := bl_ BK264 hg; have NB265_264 : Aside0 (gb265 ≠ gb264) := bg_ BK264 hg; replace BK263 := bb_ BK263 hb; replace BK264 := bb_ BK264 hb; replace HB := bs_ HB hb; clear hb hbox hg; have hnb5 := NB265_263.out; have hnc5 := NB263_265.out; have hnb6 := NB265_264.out; have hnc6 := NB264_265.out; have hcz7_0 : w4.cell? ⟨gb265, 0, none⟩ = some (.int .i64 0) := bc_ BK265 0; have hcz7_1 : w4.cell? ⟨gb265, 1, none⟩ = some (.int .i64 0) := bc_ BK265 1; have hcz7_2 : w4.cell? ⟨gb265, 2, none⟩ = some (.slice none 0 0) := bc_ BK265 2; have hcz7_3 : w4.cell? ⟨gb265, 3, none⟩ = some (.string (⟨#[]⟩ : ByteArray)) := bc_ BK265 3; have hfz7_0 := blk_frozen BK265.out 0; have hfz7_1 := blk_frozen BK265.out 1; have hfz7_2 := blk_frozen BK265.out 2; have hfz7_3 := blk_frozen BK265.out 3))
 go_loopg [5] k (fun kq v5 w' => ∃ (x5_1 : Int) (x266000_1 : Int) (x266001_1 : Int) (x266002_1 : List Int) (x266003_1 : ByteArray) (u266002 : Value), v5 = .int .i64 x5_1 ∧ Aside0 (spec_NewestSnap.l0 kq x5_1 l0_0 x266000_1 x266001_1 x266002_1 x266003_1 = some (r1, r2, r3, r4, r5)) ∧ Aside0 (kq ≤ k) ∧ Aside0 (Kd.R (Kd.int .i64) 3 w' w.heap.size (fun _ => True) u266002 x266002_1) ∧ Aside0 (w'.heap[gb263]? = some (.cells #[(.slice A0_0 l0_0.length c0_0)] 36 (0, 0))) ∧ Aside0 (w'.heap[gb264]? = some (.cells #[.int .i64 0, .int .i64 0, (.slice none 0 0), .string (⟨#[]⟩ : ByteArray)] 47 (0, 0))) ∧ Aside0 (w'.heap[gb265]? = some (.cells #[.int .i64 x266000_1, .int .i64 x266001_1, u266002, .string x266003_1] 47 (0, 0))) ∧ Aside0 (Below w.heap.size w w'))
 case atStart => exact ⟨(0), ((-1)), (0), (([] : List Int)), ((⟨#[]⟩ : ByteArray)), (.slice none 0 0), (by first | rfl | (simp; done) | (simp [*]; done)), H', ⟨Nat.le_refl _⟩, ⟨by first | exact Kd.R_nil _ _ _ _ _ | exact Kd.N_nil _ _ _ _ _ | exact Kd.V_nil _ _ _ _ _ | exact Kd.Q_nil _ _ _ _ _ | exact Kd.S_nil _ _ _ _ _⟩, ⟨bf_⟩, ⟨bf_⟩, ⟨bu_⟩, ⟨bw_ HB⟩⟩
 case round =>
  clear H'
  try clear c1
  try clear p2
  try clear c5
  try clear c6
  try clear hcz7_0
  try clear hcz7_1
  try clear hcz7_2
  try clear hcz7_3
  try clear hfz7_0
  try clear hfz7_1
  try clear hfz7_2
  try clear hfz7_3
  obtain ⟨x5_1, x266000_1, x266001_1, x266002_1, x266003_1, u266002, rfl, HA, HK1, HO_266002, BK263, BK264, BK265, HB⟩ := hrel
  cases gk with
  | zero => exact absurd HA.out (by simp [spec_NewestSnap.l0])
  | succ k1 =>
   have H := HA.out
   clear HA
   simp only [spec_NewestSnap.l0] at H
   have HC8 := Aside0.mk H
   clear H
   go_upto_region 3 with (fail)
   go_cut [18] (fun v18 wc => ∃ (kq : Nat) (x18_7 : Bool), v18 = .bool x18_7 ∧ Aside0 (spec_NewestSnap.j1 kq x5_1 x18_7 l0_0 x266000_1 x266001_1 x266002_1 x266003_1 = some (r1, r2, r3, r4, r5)) ∧ Aside0 (kq ≤ k1) ∧ Aside0 (Kd.R (Kd.int .i64) 3 wc w.heap.size (fun _ => True) u266002 x266002_1) ∧ Aside0 (wc.heap[gb263]? = some (.cells #[(.slice A0_0 l0_0.length c0_0)] 36 (0, 0))) ∧ Aside0 (wc.heap[gb264]? = some (.cells #[.int .i64 0, .int .i64 0, (.slice none 0 0), .string (⟨#[]⟩ : ByteArray)] 47 (0, 0))) ∧ Aside0 (wc.heap[gb265]? = some (.cells #[.int .i64 x266000_1, .int .i64 x266001_1, u266002, .string x266003_1] 47 (0, 0))) ∧ Aside0 (Below w.heap.size w wc))
   case first =>
    have H := HC8.out
    clear HC8
    by_cases c9 : x5_1 < (l0_0.length : Int)
    ·rw [if_pos c9] at H
     have c9b0 : decide (x5_1 < (l0_0.length : Int)) = true := decide_eq_true c9
     clear c9
     (first | rw [c9b0] | (simp only [i64_w, i32_w]; rw [c9b0]) | skip)
     replace H := Option.bind_eq_some_iff.mp H
     obtain ⟨t266, A100, H⟩ := H
     replace H : (spec_NewestSnap.j1 k1 x5_1 t266 l0_0 x266000_1 x266001_1 x266002_1 x266003_1) = some (r1, r2, r3, r4, r5) := H
     have A10 := Aside0.mk A100
     clear A100
     have H' := Aside0.mk H
     clear H
     have hnb11 := NB263_264.out
     have hnc11 := NB264_263.out
     have hnb12 := NB263_265.out
     have hnc12 := NB265_263.out
     have hcz13_0 : wr.cell? ⟨gb263, 0, none⟩ = some (.slice A0_0 l0_0.length c0_0) := bc_ BK263 0
     have hfz13_0 := blk_frozen BK263.out 0
     go_wp2_with (first | (go_at_call 26; (with_reducible refine (spec_DiskOk.calls k1 _ _ l0_0 t266 _ ?side1 ?side2 A10.out).mono ?_); (case side1 => repeat (first | exact (Kd.C_below HR0_0.out HB.out) | (with_reducible refine Kd.C_alloc ?_ _) | (with_reducible refine Kd.C_drewN ?_ _) | (with_reducible refine Kd.C_drew ?_))); (case side2 => exact HC0_0.out); rintro e w14 ⟨rfl, hb⟩; replace HO_266002 := rb_ HO_266002 hb; replace BK263 := bb_ BK263 hb; replace BK264 := bb_ BK264 hb; replace BK265 := bb_ BK265 hb; replace HB := bs_ HB hb; (try clear hb)))
     go_meet
     case rel => exact ⟨_, (t266), (by first | rfl | (simp; done) | (simp [*]; done)), H', ⟨by have := HK1.out; first | omega | exact Nat.le_refl _⟩, ⟨by (with_reducible repeat (first | apply Kd.R_alloc | apply Kd.R_drewN | apply Kd.R_drew)); exact HO_266002.out⟩, ⟨bf_⟩, ⟨bf_⟩, ⟨bf_⟩, ⟨bw_ HB⟩⟩
    ·rw [if_neg c9] at H
     have c9b0 : decide (x5_1 < (l0_0.length : Int)) = false := decide_eq_false c9
     clear c9
     (first | rw [c9b0] | (simp only [i64_w, i32_w]; rw [c9b0]) | skip)
     have H' := Aside0.mk H
     clear H
     have hnb15 := NB263_264.out
     have hnc15 := NB264_263.out
     have hnb16 := NB263_265.out
     have hnc16 := NB265_263.out
     have hcz17_0 : wr.cell? ⟨gb263, 0, none⟩ = some (.slice A0_0 l0_0.length c0_0) := bc_ BK263 0
     have hfz17_0 := blk_frozen BK263.out 0
     go_wp2
     go_meet
     case rel => exact ⟨_, (false), (by first | rfl | (simp; done) | (simp [*]; done)), H', ⟨by have := HK1.out; first | omega | exact Nat.le_refl _⟩, ⟨by (with_reducible repeat (first | apply Kd.R_alloc | apply Kd.R_drewN | apply Kd.R_drew)); exact HO_266002.out⟩, ⟨bf_⟩, ⟨bf_⟩, ⟨bf_⟩, ⟨bw_ HB⟩⟩
   case rest =>
    clear HC8
    try clear c1
    try clear p2
    try clear c5
    try clear c6
    try clear c9
    try clear c9b0
    try clear c11
    try clear c12
    try clear c15
    try clear c16
    try clear hcz13_0
    try clear hcz17_0
    try clear hcz7_0
    try clear hcz7_1
    try clear hcz7_2
    try clear hcz7_3
    try clear hfz13_0
    try clear hfz17_0
    try clear hfz7_0
    try clear hfz7_1
    try clear hfz7_2
    try clear hfz7_3
    try clear p2
    obtain ⟨kq, x18_7, rfl, HA, HJ7, HO_266002, BK263, BK264, BK265, HB⟩ := hcut
    cases kq with
    | zero => exact absurd HA.out (by simp [spec_NewestSnap.j1])
    | succ kj7 =>
     have H := HA.out
     clear HA
     simp only [spec_NewestSnap.j1] at H
     by_cases c18 : x18_7 = true
     ·subst c18
      have H1 : (if 0 ≤ x5_1 then (if x5_1 < (l0_0.length : Int) then ((spec_l08Index.f kj7 ((rd_T57 l0_0 x5_1).f0)).bind fun t268 => ((spec_ReadSnap.f kj7 ((rd_T57 l0_0 x5_1).f1)).bind fun bt270 => (if t268 ≥ 0 then (if bt270.2.2.2.2 = true then (if bt270.1 = t268 then (if t268 > x266000_1 then (spec_NewestSnap.l0 kj7 (wrap64 (x5_1 + 1)) l0_0 bt270.1 bt270.2.1 bt270.2.2.1 bt270.2.2.2.1) else (spec_NewestSnap.l0 kj7 (wrap64 (x5_1 + 1)) l0_0 x266000_1 x266001_1 x266002_1 x266003_1)) else (spec_NewestSnap.l0 kj7 (wrap64 (x5_1 + 1)) l0_0 x266000_1 x266001_1 x266002_1 x266003_1)) else (spec_NewestSnap.l0 kj7 (wrap64 (x5_1 + 1)) l0_0 x266000_1 x266001_1 x266002_1 x266003_1)) else (spec_NewestSnap.l0 kj7 (wrap64 (x5_1 + 1)) l0_0 x266000_1 x266001_1 x266002_1 x266003_1)))) else (none)) else (none)) = some (r1, r2, r3, r4, r5) := by rw [if_pos rfl] at H; exact H
      clear H
      have H := H1
      clear H1
      by_cases c19 : 0 ≤ x5_1
      ·rw [if_pos c19] at H
       have c19b0 : decide (0 ≤ x5_1) = true := decide_eq_true c19
       clear c19
       by_cases c20 : x5_1 < (l0_0.length : Int)
       ·rw [if_pos c20] at H
        have c20b0 : decide (x5_1 < (l0_0.length : Int)) = true := decide_eq_true c20
        clear c20
        replace H := Option.bind_eq_some_iff.mp H
        obtain ⟨t268, A210, H⟩ := H
        replace H : ((spec_ReadSnap.f kj7 ((rd_T57 l0_0 x5_1).f1)).bind fun bt270 => (if t268 ≥ 0 then (if bt270.2.2.2.2 = true then (if bt270.1 = t268 then (if t268 > x266000_1 then (spec_NewestSnap.l0 kj7 (wrap64 (x5_1 + 1)) l0_0 bt270.1 bt270.2.1 bt270.2.2.1 bt270.2.2.2.1) else (spec_NewestSnap.l0 kj7 (wrap64 (x5_1 + 1)) l0_0 x266000_1 x266001_1 x266002_1 x266003_1)) else (spec_NewestSnap.l0 kj7 (wrap64 (x5_1 + 1)) l0_0 x266000_1 x266001_1 x266002_1 x266003_1)) else (spec_NewestSnap.l0 kj7 (wrap64 (x5_1 + 1)) l0_0 x266000_1 x266001_1 x266002_1 x266003_1)) else (spec_NewestSnap.l0 kj7 (wrap64 (x5_1 + 1)) l0_0 x266000_1 x266001_1 x266002_1 x266003_1))) = some (r1, r2, r3, r4, r5) := H
        have A21 := Aside0.mk A210
        clear A210
        replace H := Option.bind_eq_some_iff.mp H
        obtain ⟨⟨t270, t271, t272, t275, t276⟩, A220, H⟩ := H
        replace H : (if t268 ≥ 0 then (if t276 = true then (if t270 = t268 then (if t268 > x266000_1 then (spec_NewestSnap.l0 kj7 (wrap64 (x5_1 + 1)) l0_0 t270 t271 t272 t275) else (spec_NewestSnap.l0 kj7 (wrap64 (x5_1 + 1)) l0_0 x266000_1 x266001_1 x266002_1 x266003_1)) else (spec_NewestSnap.l0 kj7 (wrap64 (x5_1 + 1)) l0_0 x266000_1 x266001_1 x266002_1 x266003_1)) else (spec_NewestSnap.l0 kj7 (wrap64 (x5_1 + 1)) l0_0 x266000_1 x266001_1 x266002_1 x266003_1)) else (spec_NewestSnap.l0 kj7 (wrap64 (x5_1 + 1)) l0_0 x266000_1 x266001_1 x266002_1 x266003_1)) = some (r1, r2, r3, r4, r5) := H
        have A22 := Aside0.mk A220
        clear A220
        by_cases c23 : t268 ≥ 0
        ·rw [if_pos c23] at H
         have c23b0 : decide (0 ≤ t268) = true := decide_eq_true c23
         clear c23
         by_cases c24 : t276 = true
         ·subst c24
          have H1 : (if t270 = t268 then (if t268 > x266000_1 then (spec_NewestSnap.l0 kj7 (wrap64 (x5_1 + 1)) l0_0 t270 t271 t272 t275) else (spec_NewestSnap.l0 kj7 (wrap64 (x5_1 + 1)) l0_0 x266000_1 x266001_1 x266002_1 x266003_1)) else (spec_NewestSnap.l0 kj7 (wrap64 (x5_1 + 1)) l0_0 x266000_1 x266001_1 x266002_1 x266003_1)) = some (r1, r2, r3, r4, r5) := by rw [if_pos rfl] at H; exact H
          clear H
          have H := H1
          clear H1
          by_cases c25 : t270 = t268
          ·rw [if_pos c25] at H
           have c25b0 : (t270 == t268) = true := beq_iff_eq.mpr c25
           have c25b1 : (t270 != t268) = false := bne_eq_false_iff_eq.mpr c25
           clear c25
           by_cases c26 : t268 > x266000_1
           ·rw [if_pos c26] at H
            have c26b0 : decide (x266000_1 < t268) = true := decide_eq_true c26
            clear c26
            have H' := Aside0.mk H
            clear H
            have hnb27 := NB263_264.out
            have hnc27 := NB264_263.out
            have hnb28 := NB263_265.out
            have hnc28 := NB265_263.out
            have hcz29_0 : wc.cell? ⟨gb263, 0, none⟩ = some (.slice A0_0 l0_0.length c0_0) := bc_ BK263 0
            have hfz29_0 := blk_frozen BK263.out 0
            have p267 : 0 ≤ (x5_1 : Int) := of_decide_eq_true (by first | (with_reducible assumption) | assumption)
            have q267 : x5_1 < (l0_0.length : Int) := of_decide_eq_true (by first | (with_reducible assumption) | assumption)
            obtain ⟨ad267, e267, hx267_0, hx267_1, hx267_2⟩ := at_T57 HR0_0.out x5_1 p267 q267
            cases e267
            replace hx267_0 := (HB.out.cell (World.block_lt_of_cell? w _ hx267_0)).trans hx267_0
            replace hx267_1 := (HB.out.cell (World.block_lt_of_cell? w _ hx267_1)).trans hx267_1
            replace hx267_2 := (HB.out.cell (World.block_lt_of_cell? w _ hx267_2)).trans hx267_2
            replace p267 := eq_true p267
            replace q267 := eq_true q267
            go_wp2_with (first | ((with_reducible refine gate_callee (f := 48) rfl ?_); refine goesL_ (some 27) rfl rfl Tryz.func48 (by kernel_rfl) rfl #[.string ((rd_T57 l0_0 x5_1).f0)] rfl ga_ ?_; (with_reducible refine (spec_l08Index.calls kj7 ((rd_T57 l0_0 x5_1).f0) t268 _ A21.out).mono ?_); rintro e w30 ⟨rfl, hb⟩; refine ⟨_, rfl, ?_⟩; replace HO_266002 := rb_ HO_266002 hb; replace BK263 := bb_ BK263 hb; replace BK264 := bb_ BK264 hb; replace BK265 := bb_ BK265 hb; replace HB := bs_ HB hb; (try clear hb); have hcz31_0 : w30.cell? ⟨gb263, 0, none⟩ = some (.slice (some ad267) l0_0.length c0_0) := bc_ BK263 0; have hfz31_0 := blk_frozen BK263.out 0; have p269 : 0 ≤ (x5_1 : Int) := of_decide_eq_true (by first | (with_reducible assumption) | assumption); have q269 : x5_1 < (l0_0.length : Int) := of_decide_eq_true (by first | (with_reducible assumption) | assumption); obtain ⟨ad269, e269, hx269_0, hx269_1, hx269_2⟩ := at_T57 HR0_0.out x5_1 p269 q269; obtain rfl : ad267 = ad269 := (by injection e269); replace hx269_0 := (HB.out.cell (World.block_lt_of_cell? w _ hx269_0)).trans hx269_0; replace hx269_1 := (HB.out.cell (World.block_lt_of_cell? w _ hx269_1)).trans hx269_1; replace hx269_2 := (HB.out.cell (World.block_lt_of_cell? w _ hx269_2)).trans hx269_2; replace p269 := eq_true p269; replace q269 := eq_true q269) | ((with_reducible refine gate_callee (f := 49) rfl ?_); refine goesL_ (some 35) rfl rfl Tryz.func49 (by kernel_rfl) rfl #[.string ((rd_T57 l0_0 x5_1).f1)] rfl ga_ ?_; (with_reducible refine (spec_ReadSnap.calls kj7 ((rd_T57 l0_0 x5_1).f1) t270 t271 t272 t275 true _ A22.out).mono ?_); rintro e w32 ⟨v273, rfl, ho0, hb⟩; refine ⟨_, rfl, ?_⟩; have HO274 := mk_ (Kd.R_lower (Kd.R_new' ho0 (Kd.R_lt (rp_ HO_266002))) (below_size (bw_ HB))); replace HO_266002 := mk_ (Kd.R_elder' (rp_ HO_266002) (Kd.R_base ho0) hb); replace BK263 := bb_ BK263 hb; replace BK264 := bb_ BK264 hb; replace BK265 := bb_ BK265 hb; replace HB := bs_ HB hb; (try clear hb); (try clear ho0)) | ((with_reducible refine gate_dst (N := 7) rfl ?_); refine box_event ?hg (N := 7) ?hd (cs := #[.int .i64 0, .int .i64 0, .slice none 0 0, .string (⟨#[]⟩ : ByteArray)]) (t := 47) ?hr ?_; (case hd => rfl); (case hg => rfl); (case hr => first | (go_simp; done) | (go_simp; rfl)); intro gb277 hg w33 hbox hb; have BK277 := mk_ (hbox); have GW277 : Aside0 (w.heap.size ≤ gb277) := bz_ hg; have GE277 : Aside0 (w.heap.size ≤ gb277) := bz_ hg; have NB263_277 : Aside0 (gb263 ≠ gb277) := bl_ BK263 hg; have NB277_263 : Aside0 (gb277 ≠ gb263) := bg_ BK263 hg; have NB264_277 : Aside0 (gb264 ≠ gb277) := bl_ BK264 hg; have NB277_264 : Aside0 (gb277 ≠ gb264) := bg_ BK264 hg; have NB265_277 : Aside0 (gb265 ≠ gb277) := bl_ BK265 hg; have NB277_265 : Aside0 (gb277 ≠ gb265) := bg_ BK265 hg; replace HO_266002 := rb_ HO_266002 hb; replace HO274 := rb_ HO274 hb; replace BK263 := bb_ BK263 hb; replace BK264 := bb_ BK264 hb; replace BK265 := bb_ BK265 hb; replace HB := bs_ HB hb; clear hb hbox hg; have hnb34 := NB277_263.out; have hnc34 := NB263_277.out; have hnb35 := NB277_264.out; have hnc35 := NB264_277.out; have hnb36 := NB277_265.out; have hnc36 := NB265_277.out; have hcz37_0 : w33.cell? ⟨gb277, 0, none⟩ = some (.int .i64 0) := bc_ BK277 0; have hcz37_1 : w33.cell? ⟨gb277, 1, none⟩ = some (.int .i64 0) := bc_ BK277 1; have hcz37_2 : w33.cell? ⟨gb277, 2, none⟩ = some (.slice none 0 0) := bc_ BK277 2; have hcz37_3 : w33.cell? ⟨gb277, 3, none⟩ = some (.string (⟨#[]⟩ : ByteArray)) := bc_ BK277 3; have hfz37_0 := blk_frozen BK277.out 0; have hfz37_1 := blk_frozen BK277.out 1; have hfz37_2 := blk_frozen BK277.out 2; have hfz37_3 := blk_frozen BK277.out 3; obtain ⟨Ao38, co38, eo38⟩ := Kd.R_slice HO274.out; subst eo38; have hnb39 := NB265_264.out; have hnc39 := NB264_265.out; have hcz40_0 : w33.cell? ⟨gb265, 0, none⟩ = some (.int .i64 x266000_1) := bc_ BK265 0; have hcz40_1 : w33.cell? ⟨gb265, 1, none⟩ = some (.int .i64 x266001_1) := bc_ BK265 1; have hcz40_2 : w33.cell? ⟨gb265, 2, none⟩ = some (u266002) := bc_ BK265 2; have hcz40_3 : w33.cell? ⟨gb265, 3, none⟩ = some (.string x266003_1) := bc_ BK265 3; have hfz40_0 := blk_frozen BK265.out 0; have hfz40_1 := blk_frozen BK265.out 1; have hfz40_2 := blk_frozen BK265.out 2; have hfz40_3 := blk_frozen BK265.out 3))
            go_roundg kj7
            case measure => have := HK1.out; have := HJ7.out; omega
            case rel => exact ⟨(wrap64 (x5_1 + 1)), (t270), (t271), (t272), (t275), (.slice Ao38 t272.length co38), (by first | rfl | (simp; done) | (simp [*]; done)), H', ⟨by have := HK1.out; have := HJ7.out; omega⟩, ⟨by (with_reducible repeat (first | apply Kd.R_alloc | apply Kd.R_drewN | apply Kd.R_drew)); exact Kd.R_mono (Kd.R_far (p := ⟨gb265, 3, none⟩) (Kd.R_far (p := ⟨gb265, 2, none⟩) (Kd.R_far (p := ⟨gb265, 1, none⟩) (Kd.R_far (p := ⟨gb265, 0, none⟩) (Kd.R_far (p := ⟨gb277, 3, none⟩) (Kd.R_far (p := ⟨gb277, 2, none⟩) (Kd.R_far (p := ⟨gb277, 1, none⟩) (Kd.R_far (p := ⟨gb277, 0, none⟩) (Kd.R_types (Kd.R_types HO274.out BK277.out (by decide)) BK265.out (by decide)) (fun _ hk => hk.1.2) (.int .i64 t270)) (fun _ hk => hk.1.2) (.int .i64 t271)) (fun _ hk => hk.1.2) (.slice Ao38 t272.length co38)) (fun _ hk => hk.1.2) (.string t275)) (fun _ hk => hk.2) (.int .i64 t270)) (fun _ hk => hk.2) (.int .i64 t271)) (fun _ hk => hk.2) (.slice Ao38 t272.length co38)) (fun _ hk => hk.2) (.string t275)) (fun _ hk => trivial)⟩, ⟨bf_⟩, ⟨bf_⟩, ⟨bu_⟩, ⟨bw_ HB⟩⟩
           ·rw [if_neg c26] at H
            have c26b0 : decide (x266000_1 < t268) = false := decide_eq_false c26
            clear c26
            have H' := Aside0.mk H
            clear H
            have hnb41 := NB263_264.out
            have hnc41 := NB264_263.out
            have hnb42 := NB263_265.out
            have hnc42 := NB265_263.out
            have hcz43_0 : wc.cell? ⟨gb263, 0, none⟩ = some (.slice A0_0 l0_0.length c0_0) := bc_ BK263 0
            have hfz43_0 := blk_frozen BK263.out 0
            have p267 : 0 ≤ (x5_1 : Int) := of_decide_eq_true (by first | (with_reducible assumption) | assumption)
            have q267 : x5_1 < (l0_0.length : Int) := of_decide_eq_true (by first | (with_reducible assumption) | assumption)
            obtain ⟨ad267, e267, hx267_0, hx267_1, hx267_2⟩ := at_T57 HR0_0.out x5_1 p267 q267
            cases e267
            replace hx267_0 := (HB.out.cell (World.block_lt_of_cell? w _ hx267_0)).trans hx267_0
            replace hx267_1 := (HB.out.cell (World.block_lt_of_cell? w _ hx267_1)).trans hx267_1
            replace hx267_2 := (HB.out.cell (World.block_lt_of_cell? w _ hx267_2)).trans hx267_2
            replace p267 := eq_true p267
            replace q267 := eq_true q267
            go_wp2_with (first | ((with_reducible refine gate_callee (f := 48) rfl ?_); refine goesL_ (some 27) rfl rfl Tryz.func48 (by kernel_rfl) rfl #[.string ((rd_T57 l0_0 x5_1).f0)] rfl ga_ ?_; (with_reducible refine (spec_l08Index.calls kj7 ((rd_T57 l0_0 x5_1).f0) t268 _ A21.out).mono ?_); rintro e w44 ⟨rfl, hb⟩; refine ⟨_, rfl, ?_⟩; replace HO_266002 := rb_ HO_266002 hb; replace BK263 := bb_ BK263 hb; replace BK264 := bb_ BK264 hb; replace BK265 := bb_ BK265 hb; replace HB := bs_ HB hb; (try clear hb); have hcz45_0 : w44.cell? ⟨gb263, 0, none⟩ = some (.slice (some ad267) l0_0.length c0_0) := bc_ BK263 0; have hfz45_0 := blk_frozen BK263.out 0; have p269 : 0 ≤ (x5_1 : Int) := of_decide_eq_true (by first | (with_reducible assumption) | assumption); have q269 : x5_1 < (l0_0.length : Int) := of_decide_eq_true (by first | (with_reducible assumption) | assumption); obtain ⟨ad269, e269, hx269_0, hx269_1, hx269_2⟩ := at_T57 HR0_0.out x5_1 p269 q269; obtain rfl : ad267 = ad269 := (by injection e269); replace hx269_0 := (HB.out.cell (World.block_lt_of_cell? w _ hx269_0)).trans hx269_0; replace hx269_1 := (HB.out.cell (World.block_lt_of_cell? w _ hx269_1)).trans hx269_1; replace hx269_2 := (HB.out.cell (World.block_lt_of_cell? w _ hx269_2)).trans hx269_2; replace p269 := eq_true p269; replace q269 := eq_true q269) | ((with_reducible refine gate_callee (f := 49) rfl ?_); refine goesL_ (some 35) rfl rfl Tryz.func49 (by kernel_rfl) rfl #[.string ((rd_T57 l0_0 x5_1).f1)] rfl ga_ ?_; (with_reducible refine (spec_ReadSnap.calls kj7 ((rd_T57 l0_0 x5_1).f1) t270 t271 t272 t275 true _ A22.out).mono ?_); rintro e w46 ⟨v273, rfl, ho0, hb⟩; refine ⟨_, rfl, ?_⟩; have HO274 := mk_ (Kd.R_lower (Kd.R_new' ho0 (Kd.R_lt (rp_ HO_266002))) (below_size (bw_ HB))); replace HO_266002 := mk_ (Kd.R_elder' (rp_ HO_266002) (Kd.R_base ho0) hb); replace BK263 := bb_ BK263 hb; replace BK264 := bb_ BK264 hb; replace BK265 := bb_ BK265 hb; replace HB := bs_ HB hb; (try clear hb); (try clear ho0)) | ((with_reducible refine gate_dst (N := 7) rfl ?_); refine box_event ?hg (N := 7) ?hd (cs := #[.int .i64 0, .int .i64 0, .slice none 0 0, .string (⟨#[]⟩ : ByteArray)]) (t := 47) ?hr ?_; (case hd => rfl); (case hg => rfl); (case hr => first | (go_simp; done) | (go_simp; rfl)); intro gb277 hg w47 hbox hb; have BK277 := mk_ (hbox); have GW277 : Aside0 (w.heap.size ≤ gb277) := bz_ hg; have GE277 : Aside0 (w.heap.size ≤ gb277) := bz_ hg; have NB263_277 : Aside0 (gb263 ≠ gb277) := bl_ BK263 hg; have NB277_263 : Aside0 (gb277 ≠ gb263) := bg_ BK263 hg; have NB264_277 : Aside0 (gb264 ≠ gb277) := bl_ BK264 hg; have NB277_264 : Aside0 (gb277 ≠ gb264) := bg_ BK264 hg; have NB265_277 : Aside0 (gb265 ≠ gb277) := bl_ BK265 hg; have NB277_265 : Aside0 (gb277 ≠ gb265) := bg_ BK265 hg; replace HO_266002 := rb_ HO_266002 hb; replace HO274 := rb_ HO274 hb; replace BK263 := bb_ BK263 hb; replace BK264 := bb_ BK264 hb; replace BK265 := bb_ BK265 hb; replace HB := bs_ HB hb; clear hb hbox hg; have hnb48 := NB277_263.out; have hnc48 := NB263_277.out; have hnb49 := NB277_264.out; have hnc49 := NB264_277.out; have hnb50 := NB277_265.out; have hnc50 := NB265_277.out; have hcz51_0 : w47.cell? ⟨gb277, 0, none⟩ = some (.int .i64 0) := bc_ BK277 0; have hcz51_1 : w47.cell? ⟨gb277, 1, none⟩ = some (.int .i64 0) := bc_ BK277 1; have hcz51_2 : w47.cell? ⟨gb277, 2, none⟩ = some (.slice none 0 0) := bc_ BK277 2; have hcz51_3 : w47.cell? ⟨gb277, 3, none⟩ = some (.string (⟨#[]⟩ : ByteArray)) := bc_ BK277 3; have hfz51_0 := blk_frozen BK277.out 0; have hfz51_1 := blk_frozen BK277.out 1; have hfz51_2 := blk_frozen BK277.out 2; have hfz51_3 := blk_frozen BK277.out 3; obtain ⟨Ao52, co52, eo52⟩ := Kd.R_slice HO274.out; subst eo52; have hnb53 := NB265_264.out; have hnc53 := NB264_265.out; have hcz54_0 : w47.cell? ⟨gb265, 0, none⟩ = some (.int .i64 x266000_1) := bc_ BK265 0; have hcz54_1 : w47.cell? ⟨gb265, 1, none⟩ = some (.int .i64 x266001_1) := bc_ BK265 1; have hcz54_2 : w47.cell? ⟨gb265, 2, none⟩ = some (u266002) := bc_ BK265 2; have hcz54_3 : w47.cell? ⟨gb265, 3, none⟩ = some (.string x266003_1) := bc_ BK265 3; have hfz54_0 := blk_frozen BK265.out 0; have hfz54_1 := blk_frozen BK265.out 1; have hfz54_2 := blk_frozen BK265.out 2; have hfz54_3 := blk_frozen BK265.out 3))
            go_roundg kj7
            case measure => have := HK1.out; have := HJ7.out; omega
            case rel => exact ⟨(wrap64 (x5_1 + 1)), (x266000_1), (x266001_1), (x266002_1), (x266003_1), (u266002), (by first | rfl | (simp; done) | (simp [*]; done)), H', ⟨by have := HK1.out; have := HJ7.out; omega⟩, ⟨by (with_reducible repeat (first | apply Kd.R_alloc | apply Kd.R_drewN | apply Kd.R_drew)); exact Kd.R_mono (Kd.R_far (p := ⟨gb277, 3, none⟩) (Kd.R_far (p := ⟨gb277, 2, none⟩) (Kd.R_far (p := ⟨gb277, 1, none⟩) (Kd.R_far (p := ⟨gb277, 0, none⟩) (Kd.R_types HO_266002.out BK277.out (by decide)) (fun _ hk => hk.2) (.int .i64 t270)) (fun _ hk => hk.2) (.int .i64 t271)) (fun _ hk => hk.2) (.slice Ao52 t272.length co52)) (fun _ hk => hk.2) (.string t275)) (fun _ hk => trivial)⟩, ⟨bf_⟩, ⟨bf_⟩, ⟨bf_⟩, ⟨bw_ HB⟩⟩
          ·rw [if_neg c25] at H
           have c25b0 : (t270 == t268) = false := beq_eq_false_iff_ne.mpr c25
           have c25b1 : (t270 != t268) = true := bne_iff_ne.mpr c25
           have H' := Aside0.mk H
           clear H
           have hnb55 := NB263_264.out
           have hnc55 := NB264_263.out
           have hnb56 := NB263_265.out
           have hnc56 := NB265_263.out
           have hcz57_0 : wc.cell? ⟨gb263, 0, none⟩ = some (.slice A0_0 l0_0.length c0_0) := bc_ BK263 0
           have hfz57_0 := blk_frozen BK263.out 0
           have p267 : 0 ≤ (x5_1 : Int) := of_decide_eq_true (by first | (with_reducible assumption) | assumption)
           have q267 : x5_1 < (l0_0.length : Int) := of_decide_eq_true (by first | (with_reducible assumption) | assumption)
           obtain ⟨ad267, e267, hx267_0, hx267_1, hx267_2⟩ := at_T57 HR0_0.out x5_1 p267 q267
           cases e267
           replace hx267_0 := (HB.out.cell (World.block_lt_of_cell? w _ hx267_0)).trans hx267_0
           replace hx267_1 := (HB.out.cell (World.block_lt_of_cell? w _ hx267_1)).trans hx267_1
           replace hx267_2 := (HB.out.cell (World.block_lt_of_cell? w _ hx267_2)).trans hx267_2
           replace p267 := eq_true p267
           replace q267 := eq_true q267
           go_wp2_with (first | ((with_reducible refine gate_callee (f := 48) rfl ?_); refine goesL_ (some 27) rfl rfl Tryz.func48 (by kernel_rfl) rfl #[.string ((rd_T57 l0_0 x5_1).f0)] rfl ga_ ?_; (with_reducible refine (spec_l08Index.calls kj7 ((rd_T57 l0_0 x5_1).f0) t268 _ A21.out).mono ?_); rintro e w58 ⟨rfl, hb⟩; refine ⟨_, rfl, ?_⟩; replace HO_266002 := rb_ HO_266002 hb; replace BK263 := bb_ BK263 hb; replace BK264 := bb_ BK264 hb; replace BK265 := bb_ BK265 hb; replace HB := bs_ HB hb; (try clear hb); have hcz59_0 : w58.cell? ⟨gb263, 0, none⟩ = some (.slice (some ad267) l0_0.length c0_0) := bc_ BK263 0; have hfz59_0 := blk_frozen BK263.out 0; have p269 : 0 ≤ (x5_1 : Int) := of_decide_eq_true (by first | (with_reducible assumption) | assumption); have q269 : x5_1 < (l0_0.length : Int) := of_decide_eq_true (by first | (with_reducible assumption) | assumption); obtain ⟨ad269, e269, hx269_0, hx269_1, hx269_2⟩ := at_T57 HR0_0.out x5_1 p269 q269; obtain rfl : ad267 = ad269 := (by injection e269); replace hx269_0 := (HB.out.cell (World.block_lt_of_cell? w _ hx269_0)).trans hx269_0; replace hx269_1 := (HB.out.cell (World.block_lt_of_cell? w _ hx269_1)).trans hx269_1; replace hx269_2 := (HB.out.cell (World.block_lt_of_cell? w _ hx269_2)).trans hx269_2; replace p269 := eq_true p269; replace q269 := eq_true q269) | ((with_reducible refine gate_callee (f := 49) rfl ?_); refine goesL_ (some 35) rfl rfl Tryz.func49 (by kernel_rfl) rfl #[.string ((rd_T57 l0_0 x5_1).f1)] rfl ga_ ?_; (with_reducible refine (spec_ReadSnap.calls kj7 ((rd_T57 l0_0 x5_1).f1) t270 t271 t272 t275 true _ A22.out).mono ?_); rintro e w60 ⟨v273, rfl, ho0, hb⟩; refine ⟨_, rfl, ?_⟩; have HO274 := mk_ (Kd.R_lower (Kd.R_new' ho0 (Kd.R_lt (rp_ HO_266002))) (below_size (bw_ HB))); replace HO_266002 := mk_ (Kd.R_elder' (rp_ HO_266002) (Kd.R_base ho0) hb); replace BK263 := bb_ BK263 hb; replace BK264 := bb_ BK264 hb; replace BK265 := bb_ BK265 hb; replace HB := bs_ HB hb; (try clear hb); (try clear ho0)) | ((with_reducible refine gate_dst (N := 7) rfl ?_); refine box_event ?hg (N := 7) ?hd (cs := #[.int .i64 0, .int .i64 0, .slice none 0 0, .string (⟨#[]⟩ : ByteArray)]) (t := 47) ?hr ?_; (case hd => rfl); (case hg => rfl); (case hr => first | (go_simp; done) | (go_simp; rfl)); intro gb277 hg w61 hbox hb; have BK277 := mk_ (hbox); have GW277 : Aside0 (w.heap.size ≤ gb277) := bz_ hg; have GE277 : Aside0 (w.heap.size ≤ gb277) := bz_ hg; have NB263_277 : Aside0 (gb263 ≠ gb277) := bl_ BK263 hg; have NB277_263 : Aside0 (gb277 ≠ gb263) := bg_ BK263 hg; have NB264_277 : Aside0 (gb264 ≠ gb277) := bl_ BK264 hg; have NB277_264 : Aside0 (gb277 ≠ gb264) := bg_ BK264 hg; have NB265_277 : Aside0 (gb265 ≠ gb277) := bl_ BK265 hg; have NB277_265 : Aside0 (gb277 ≠ gb265) := bg_ BK265 hg; replace HO_266002 := rb_ HO_266002 hb; replace HO274 := rb_ HO274 hb; replace BK263 := bb_ BK263 hb; replace BK264 := bb_ BK264 hb; replace BK265 := bb_ BK265 hb; replace HB := bs_ HB hb; clear hb hbox hg; have hnb62 := NB277_263.out; have hnc62 := NB263_277.out; have hnb63 := NB277_264.out; have hnc63 := NB264_277.out; have hnb64 := NB277_265.out; have hnc64 := NB265_277.out; have hcz65_0 : w61.cell? ⟨gb277, 0, none⟩ = some (.int .i64 0) := bc_ BK277 0; have hcz65_1 : w61.cell? ⟨gb277, 1, none⟩ = some (.int .i64 0) := bc_ BK277 1; have hcz65_2 : w61.cell? ⟨gb277, 2, none⟩ = some (.slice none 0 0) := bc_ BK277 2; have hcz65_3 : w61.cell? ⟨gb277, 3, none⟩ = some (.string (⟨#[]⟩ : ByteArray)) := bc_ BK277 3; have hfz65_0 := blk_frozen BK277.out 0; have hfz65_1 := blk_frozen BK277.out 1; have hfz65_2 := blk_frozen BK277.out 2; have hfz65_3 := blk_frozen BK277.out 3; obtain ⟨Ao66, co66, eo66⟩ := Kd.R_slice HO274.out; subst eo66))
           go_roundg kj7
           case measure => have := HK1.out; have := HJ7.out; omega
           case rel => exact ⟨(wrap64 (x5_1 + 1)), (x266000_1), (x266001_1), (x266002_1), (x266003_1), (u266002), (by first | rfl | (simp; done) | (simp [*]; done)), H', ⟨by have := HK1.out; have := HJ7.out; omega⟩, ⟨by (with_reducible repeat (first | apply Kd.R_alloc | apply Kd.R_drewN | apply Kd.R_drew)); exact Kd.R_mono (Kd.R_far (p := ⟨gb277, 3, none⟩) (Kd.R_far (p := ⟨gb277, 2, none⟩) (Kd.R_far (p := ⟨gb277, 1, none⟩) (Kd.R_far (p := ⟨gb277, 0, none⟩) (Kd.R_types HO_266002.out BK277.out (by decide)) (fun _ hk => hk.2) (.int .i64 t270)) (fun _ hk => hk.2) (.int .i64 t271)) (fun _ hk => hk.2) (.slice Ao66 t272.length co66)) (fun _ hk => hk.2) (.string t275)) (fun _ hk => trivial)⟩, ⟨bf_⟩, ⟨bf_⟩, ⟨bf_⟩, ⟨bw_ HB⟩⟩
         ·replace c24 := Bool.eq_false_iff.mpr c24
          subst c24
          have H1 : (spec_NewestSnap.l0 kj7 (wrap64 (x5_1 + 1)) l0_0 x266000_1 x266001_1 x266002_1 x266003_1) = some (r1, r2, r3, r4, r5) := by rw [if_neg (show ¬ (false = true) by decide)] at H; exact H
          clear H
          have H := H1
          clear H1
          have H' := Aside0.mk H
          clear H
          have hnb67 := NB263_264.out
          have hnc67 := NB264_263.out
          have hnb68 := NB263_265.out
          have hnc68 := NB265_263.out
          have hcz69_0 : wc.cell? ⟨gb263, 0, none⟩ = some (.slice A0_0 l0_0.length c0_0) := bc_ BK263 0
          have hfz69_0 := blk_frozen BK263.out 0
          have p267 : 0 ≤ (x5_1 : Int) := of_decide_eq_true (by first | (with_reducible assumption) | assumption)
          have q267 : x5_1 < (l0_0.length : Int) := of_decide_eq_true (by first | (with_reducible assumption) | assumption)
          obtain ⟨ad267, e267, hx267_0, hx267_1, hx267_2⟩ := at_T57 HR0_0.out x5_1 p267 q267
          cases e267
          replace hx267_0 := (HB.out.cell (World.block_lt_of_cell? w _ hx267_0)).trans hx267_0
          replace hx267_1 := (HB.out.cell (World.block_lt_of_cell? w _ hx267_1)).trans hx267_1
          replace hx267_2 := (HB.out.cell (World.block_lt_of_cell? w _ hx267_2)).trans hx267_2
          replace p267 := eq_true p267
          replace q267 := eq_true q267
          go_wp2_with (first | ((with_reducible refine gate_callee (f := 48) rfl ?_); refine goesL_ (some 27) rfl rfl Tryz.func48 (by kernel_rfl) rfl #[.string ((rd_T57 l0_0 x5_1).f0)] rfl ga_ ?_; (with_reducible refine (spec_l08Index.calls kj7 ((rd_T57 l0_0 x5_1).f0) t268 _ A21.out).mono ?_); rintro e w70 ⟨rfl, hb⟩; refine ⟨_, rfl, ?_⟩; replace HO_266002 := rb_ HO_266002 hb; replace BK263 := bb_ BK263 hb; replace BK264 := bb_ BK264 hb; replace BK265 := bb_ BK265 hb; replace HB := bs_ HB hb; (try clear hb); have hcz71_0 : w70.cell? ⟨gb263, 0, none⟩ = some (.slice (some ad267) l0_0.length c0_0) := bc_ BK263 0; have hfz71_0 := blk_frozen BK263.out 0; have p269 : 0 ≤ (x5_1 : Int) := of_decide_eq_true (by first | (with_reducible assumption) | assumption); have q269 : x5_1 < (l0_0.length : Int) := of_decide_eq_true (by first | (with_reducible assumption) | assumption); obtain ⟨ad269, e269, hx269_0, hx269_1, hx269_2⟩ := at_T57 HR0_0.out x5_1 p269 q269; obtain rfl : ad267 = ad269 := (by injection e269); replace hx269_0 := (HB.out.cell (World.block_lt_of_cell? w _ hx269_0)).trans hx269_0; replace hx269_1 := (HB.out.cell (World.block_lt_of_cell? w _ hx269_1)).trans hx269_1; replace hx269_2 := (HB.out.cell (World.block_lt_of_cell? w _ hx269_2)).trans hx269_2; replace p269 := eq_true p269; replace q269 := eq_true q269) | ((with_reducible refine gate_callee (f := 49) rfl ?_); refine goesL_ (some 35) rfl rfl Tryz.func49 (by kernel_rfl) rfl #[.string ((rd_T57 l0_0 x5_1).f1)] rfl ga_ ?_; (with_reducible refine (spec_ReadSnap.calls kj7 ((rd_T57 l0_0 x5_1).f1) t270 t271 t272 t275 false _ A22.out).mono ?_); rintro e w72 ⟨v273, rfl, ho0, hb⟩; refine ⟨_, rfl, ?_⟩; have HO274 := mk_ (Kd.R_lower (Kd.R_new' ho0 (Kd.R_lt (rp_ HO_266002))) (below_size (bw_ HB))); replace HO_266002 := mk_ (Kd.R_elder' (rp_ HO_266002) (Kd.R_base ho0) hb); replace BK263 := bb_ BK263 hb; replace BK264 := bb_ BK264 hb; replace BK265 := bb_ BK265 hb; replace HB := bs_ HB hb; (try clear hb); (try clear ho0)) | ((with_reducible refine gate_dst (N := 7) rfl ?_); refine box_event ?hg (N := 7) ?hd (cs := #[.int .i64 0, .int .i64 0, .slice none 0 0, .string (⟨#[]⟩ : ByteArray)]) (t := 47) ?hr ?_; (case hd => rfl); (case hg => rfl); (case hr => first | (go_simp; done) | (go_simp; rfl)); intro gb277 hg w73 hbox hb; have BK277 := mk_ (hbox); have GW277 : Aside0 (w.heap.size ≤ gb277) := bz_ hg; have GE277 : Aside0 (w.heap.size ≤ gb277) := bz_ hg; have NB263_277 : Aside0 (gb263 ≠ gb277) := bl_ BK263 hg; have NB277_263 : Aside0 (gb277 ≠ gb263) := bg_ BK263 hg; have NB264_277 : Aside0 (gb264 ≠ gb277) := bl_ BK264 hg; have NB277_264 : Aside0 (gb277 ≠ gb264) := bg_ BK264 hg; have NB265_277 : Aside0 (gb265 ≠ gb277) := bl_ BK265 hg; have NB277_265 : Aside0 (gb277 ≠ gb265) := bg_ BK265 hg; replace HO_266002 := rb_ HO_266002 hb; replace HO274 := rb_ HO274 hb; replace BK263 := bb_ BK263 hb; replace BK264 := bb_ BK264 hb; replace BK265 := bb_ BK265 hb; replace HB := bs_ HB hb; clear hb hbox hg; have hnb74 := NB277_263.out; have hnc74 := NB263_277.out; have hnb75 := NB277_264.out; have hnc75 := NB264_277.out; have hnb76 := NB277_265.out; have hnc76 := NB265_277.out; have hcz77_0 : w73.cell? ⟨gb277, 0, none⟩ = some (.int .i64 0) := bc_ BK277 0; have hcz77_1 : w73.cell? ⟨gb277, 1, none⟩ = some (.int .i64 0) := bc_ BK277 1; have hcz77_2 : w73.cell? ⟨gb277, 2, none⟩ = some (.slice none 0 0) := bc_ BK277 2; have hcz77_3 : w73.cell? ⟨gb277, 3, none⟩ = some (.string (⟨#[]⟩ : ByteArray)) := bc_ BK277 3; have hfz77_0 := blk_frozen BK277.out 0; have hfz77_1 := blk_frozen BK277.out 1; have hfz77_2 := blk_frozen BK277.out 2; have hfz77_3 := blk_frozen BK277.out 3; obtain ⟨Ao78, co78, eo78⟩ := Kd.R_slice HO274.out; subst eo78))
          go_roundg kj7
          case measure => have := HK1.out; have := HJ7.out; omega
          case rel => exact ⟨(wrap64 (x5_1 + 1)), (x266000_1), (x266001_1), (x266002_1), (x266003_1), (u266002), (by first | rfl | (simp; done) | (simp [*]; done)), H', ⟨by have := HK1.out; have := HJ7.out; omega⟩, ⟨by (with_reducible repeat (first | apply Kd.R_alloc | apply Kd.R_drewN | apply Kd.R_drew)); exact Kd.R_mono (Kd.R_far (p := ⟨gb277, 3, none⟩) (Kd.R_far (p := ⟨gb277, 2, none⟩) (Kd.R_far (p := ⟨gb277, 1, none⟩) (Kd.R_far (p := ⟨gb277, 0, none⟩) (Kd.R_types HO_266002.out BK277.out (by decide)) (fun _ hk => hk.2) (.int .i64 t270)) (fun _ hk => hk.2) (.int .i64 t271)) (fun _ hk => hk.2) (.slice Ao78 t272.length co78)) (fun _ hk => hk.2) (.string t275)) (fun _ hk => trivial)⟩, ⟨bf_⟩, ⟨bf_⟩, ⟨bf_⟩, ⟨bw_ HB⟩⟩
        ·rw [if_neg c23] at H
         have c23b0 : decide (0 ≤ t268) = false := decide_eq_false c23
         clear c23
         have H' := Aside0.mk H
         clear H
         have hnb79 := NB263_264.out
         have hnc79 := NB264_263.out
         have hnb80 := NB263_265.out
         have hnc80 := NB265_263.out
         have hcz81_0 : wc.cell? ⟨gb263, 0, none⟩ = some (.slice A0_0 l0_0.length c0_0) := bc_ BK263 0
         have hfz81_0 := blk_frozen BK263.out 0
         have p267 : 0 ≤ (x5_1 : Int) := of_decide_eq_true (by first | (with_reducible assumption) | assumption)
         have q267 : x5_1 < (l0_0.length : Int) := of_decide_eq_true (by first | (with_reducible assumption) | assumption)
         obtain ⟨ad267, e267, hx267_0, hx267_1, hx267_2⟩ := at_T57 HR0_0.out x5_1 p267 q267
         cases e267
         replace hx267_0 := (HB.out.cell (World.block_lt_of_cell? w _ hx267_0)).trans hx267_0
         replace hx267_1 := (HB.out.cell (World.block_lt_of_cell? w _ hx267_1)).trans hx267_1
         replace hx267_2 := (HB.out.cell (World.block_lt_of_cell? w _ hx267_2)).trans hx267_2
         replace p267 := eq_true p267
         replace q267 := eq_true q267
         go_wp2_with (first | ((with_reducible refine gate_callee (f := 48) rfl ?_); refine goesL_ (some 27) rfl rfl Tryz.func48 (by kernel_rfl) rfl #[.string ((rd_T57 l0_0 x5_1).f0)] rfl ga_ ?_; (with_reducible refine (spec_l08Index.calls kj7 ((rd_T57 l0_0 x5_1).f0) t268 _ A21.out).mono ?_); rintro e w82 ⟨rfl, hb⟩; refine ⟨_, rfl, ?_⟩; replace HO_266002 := rb_ HO_266002 hb; replace BK263 := bb_ BK263 hb; replace BK264 := bb_ BK264 hb; replace BK265 := bb_ BK265 hb; replace HB := bs_ HB hb; (try clear hb); have hcz83_0 : w82.cell? ⟨gb263, 0, none⟩ = some (.slice (some ad267) l0_0.length c0_0) := bc_ BK263 0; have hfz83_0 := blk_frozen BK263.out 0; have p269 : 0 ≤ (x5_1 : Int) := of_decide_eq_true (by first | (with_reducible assumption) | assumption); have q269 : x5_1 < (l0_0.length : Int) := of_decide_eq_true (by first | (with_reducible assumption) | assumption); obtain ⟨ad269, e269, hx269_0, hx269_1, hx269_2⟩ := at_T57 HR0_0.out x5_1 p269 q269; obtain rfl : ad267 = ad269 := (by injection e269); replace hx269_0 := (HB.out.cell (World.block_lt_of_cell? w _ hx269_0)).trans hx269_0; replace hx269_1 := (HB.out.cell (World.block_lt_of_cell? w _ hx269_1)).trans hx269_1; replace hx269_2 := (HB.out.cell (World.block_lt_of_cell? w _ hx269_2)).trans hx269_2; replace p269 := eq_true p269; replace q269 := eq_true q269) | ((with_reducible refine gate_callee (f := 49) rfl ?_); refine goesL_ (some 35) rfl rfl Tryz.func49 (by kernel_rfl) rfl #[.string ((rd_T57 l0_0 x5_1).f1)] rfl ga_ ?_; (with_reducible refine (spec_ReadSnap.calls kj7 ((rd_T57 l0_0 x5_1).f1) t270 t271 t272 t275 t276 _ A22.out).mono ?_); rintro e w84 ⟨v273, rfl, ho0, hb⟩; refine ⟨_, rfl, ?_⟩; have HO274 := mk_ (Kd.R_lower (Kd.R_new' ho0 (Kd.R_lt (rp_ HO_266002))) (below_size (bw_ HB))); replace HO_266002 := mk_ (Kd.R_elder' (rp_ HO_266002) (Kd.R_base ho0) hb); replace BK263 := bb_ BK263 hb; replace BK264 := bb_ BK264 hb; replace BK265 := bb_ BK265 hb; replace HB := bs_ HB hb; (try clear hb); (try clear ho0)) | ((with_reducible refine gate_dst (N := 7) rfl ?_); refine box_event ?hg (N := 7) ?hd (cs := #[.int .i64 0, .int .i64 0, .slice none 0 0, .string (⟨#[]⟩ : ByteArray)]) (t := 47) ?hr ?_; (case hd => rfl); (case hg => rfl); (case hr => first | (go_simp; done) | (go_simp; rfl)); intro gb277 hg w85 hbox hb; have BK277 := mk_ (hbox); have GW277 : Aside0 (w.heap.size ≤ gb277) := bz_ hg; have GE277 : Aside0 (w.heap.size ≤ gb277) := bz_ hg; have NB263_277 : Aside0 (gb263 ≠ gb277) := bl_ BK263 hg; have NB277_263 : Aside0 (gb277 ≠ gb263) := bg_ BK263 hg; have NB264_277 : Aside0 (gb264 ≠ gb277) := bl_ BK264 hg; have NB277_264 : Aside0 (gb277 ≠ gb264) := bg_ BK264 hg; have NB265_277 : Aside0 (gb265 ≠ gb277) := bl_ BK265 hg; have NB277_265 : Aside0 (gb277 ≠ gb265) := bg_ BK265 hg; replace HO_266002 := rb_ HO_266002 hb; replace HO274 := rb_ HO274 hb; replace BK263 := bb_ BK263 hb; replace BK264 := bb_ BK264 hb; replace BK265 := bb_ BK265 hb; replace HB := bs_ HB hb; clear hb hbox hg; have hnb86 := NB277_263.out; have hnc86 := NB263_277.out; have hnb87 := NB277_264.out; have hnc87 := NB264_277.out; have hnb88 := NB277_265.out; have hnc88 := NB265_277.out; have hcz89_0 : w85.cell? ⟨gb277, 0, none⟩ = some (.int .i64 0) := bc_ BK277 0; have hcz89_1 : w85.cell? ⟨gb277, 1, none⟩ = some (.int .i64 0) := bc_ BK277 1; have hcz89_2 : w85.cell? ⟨gb277, 2, none⟩ = some (.slice none 0 0) := bc_ BK277 2; have hcz89_3 : w85.cell? ⟨gb277, 3, none⟩ = some (.string (⟨#[]⟩ : ByteArray)) := bc_ BK277 3; have hfz89_0 := blk_frozen BK277.out 0; have hfz89_1 := blk_frozen BK277.out 1; have hfz89_2 := blk_frozen BK277.out 2; have hfz89_3 := blk_frozen BK277.out 3; obtain ⟨Ao90, co90, eo90⟩ := Kd.R_slice HO274.out; subst eo90))
         go_roundg kj7
         case measure => have := HK1.out; have := HJ7.out; omega
         case rel => exact ⟨(wrap64 (x5_1 + 1)), (x266000_1), (x266001_1), (x266002_1), (x266003_1), (u266002), (by first | rfl | (simp; done) | (simp [*]; done)), H', ⟨by have := HK1.out; have := HJ7.out; omega⟩, ⟨by (with_reducible repeat (first | apply Kd.R_alloc | apply Kd.R_drewN | apply Kd.R_drew)); exact Kd.R_mono (Kd.R_far (p := ⟨gb277, 3, none⟩) (Kd.R_far (p := ⟨gb277, 2, none⟩) (Kd.R_far (p := ⟨gb277, 1, none⟩) (Kd.R_far (p := ⟨gb277, 0, none⟩) (Kd.R_types HO_266002.out BK277.out (by decide)) (fun _ hk => hk.2) (.int .i64 t270)) (fun _ hk => hk.2) (.int .i64 t271)) (fun _ hk => hk.2) (.slice Ao90 t272.length co90)) (fun _ hk => hk.2) (.string t275)) (fun _ hk => trivial)⟩, ⟨bf_⟩, ⟨bf_⟩, ⟨bf_⟩, ⟨bw_ HB⟩⟩
       ·rw [if_neg c20] at H
        exact absurd H (by simp)
      ·rw [if_neg c19] at H
       exact absurd H (by simp)
     ·replace c18 := Bool.eq_false_iff.mpr c18
      subst c18
      have H1 : (if x266000_1 < 0 then (some (0, 0, ([] : List Int), (⟨#[]⟩ : ByteArray), false)) else (some (x266000_1, x266001_1, x266002_1, x266003_1, true))) = some (r1, r2, r3, r4, r5) := by rw [if_neg (show ¬ (false = true) by decide)] at H; exact H
      clear H
      have H := H1
      clear H1
      by_cases c91 : x266000_1 < 0
      ·rw [if_pos c91] at H
       have c91b0 : decide (x266000_1 < 0) = true := decide_eq_true c91
       clear c91
       simp only [Option.some.injEq, Prod.mk.injEq] at H
       obtain ⟨rfl, rfl, rfl, rfl, rfl⟩ := H
       have hnb92 := NB265_263.out
       have hnc92 := NB263_265.out
       have hnb93 := NB265_264.out
       have hnc93 := NB264_265.out
       have hcz94_0 : wc.cell? ⟨gb265, 0, none⟩ = some (.int .i64 x266000_1) := bc_ BK265 0
       have hcz94_1 : wc.cell? ⟨gb265, 1, none⟩ = some (.int .i64 x266001_1) := bc_ BK265 1
       have hcz94_2 : wc.cell? ⟨gb265, 2, none⟩ = some (u266002) := bc_ BK265 2
       have hcz94_3 : wc.cell? ⟨gb265, 3, none⟩ = some (.string x266003_1) := bc_ BK265 3
       have hfz94_0 := blk_frozen BK265.out 0
       have hfz94_1 := blk_frozen BK265.out 1
       have hfz94_2 := blk_frozen BK265.out 2
       have hfz94_3 := blk_frozen BK265.out 3
       have hnb95 := NB264_263.out
       have hnc95 := NB263_264.out
       have hcz96_0 : wc.cell? ⟨gb264, 0, none⟩ = some (.int .i64 0) := bc_ BK264 0
       have hcz96_1 : wc.cell? ⟨gb264, 1, none⟩ = some (.int .i64 0) := bc_ BK264 1
       have hcz96_2 : wc.cell? ⟨gb264, 2, none⟩ = some (.slice none 0 0) := bc_ BK264 2
       have hcz96_3 : wc.cell? ⟨gb264, 3, none⟩ = some (.string (⟨#[]⟩ : ByteArray)) := bc_ BK264 3
       have hfz96_0 := blk_frozen BK264.out 0
       have hfz96_1 := blk_frozen BK264.out 1
       have hfz96_2 := blk_frozen BK264.out 2
       have hfz96_3 := blk_frozen BK264.out 3
       go_wp2
       refine bodyPost_ret (results_ct rfl _ _ gb264 47 #[.int .i64 0, .int .i64 0, .slice none 0 0, .string (⟨#[]⟩ : ByteArray)] (0, 0) _ rfl bu_ Tryz.underlying47 rfl (by kernel_rfl)) rfl ?_
       exact ⟨_, er_, by first | exact Kd.R_nil _ _ _ _ _ | exact Kd.N_nil _ _ _ _ _ | exact Kd.V_nil _ _ _ _ _ | exact Kd.Q_nil _ _ _ _ _ | exact Kd.S_nil _ _ _ _ _, bw_ HB⟩
      ·rw [if_neg c91] at H
       have c91b0 : decide (x266000_1 < 0) = false := decide_eq_false c91
       clear c91
       simp only [Option.some.injEq, Prod.mk.injEq] at H
       obtain ⟨rfl, rfl, rfl, rfl, rfl⟩ := H
       have hnb97 := NB265_263.out
       have hnc97 := NB263_265.out
       have hnb98 := NB265_264.out
       have hnc98 := NB264_265.out
       have hcz99_0 : wc.cell? ⟨gb265, 0, none⟩ = some (.int .i64 x266000_1) := bc_ BK265 0
       have hcz99_1 : wc.cell? ⟨gb265, 1, none⟩ = some (.int .i64 x266001_1) := bc_ BK265 1
       have hcz99_2 : wc.cell? ⟨gb265, 2, none⟩ = some (u266002) := bc_ BK265 2
       have hcz99_3 : wc.cell? ⟨gb265, 3, none⟩ = some (.string x266003_1) := bc_ BK265 3
       have hfz99_0 := blk_frozen BK265.out 0
       have hfz99_1 := blk_frozen BK265.out 1
       have hfz99_2 := blk_frozen BK265.out 2
       have hfz99_3 := blk_frozen BK265.out 3
       have hnb100 := NB264_263.out
       have hnc100 := NB263_264.out
       have hcz101_0 : wc.cell? ⟨gb264, 0, none⟩ = some (.int .i64 0) := bc_ BK264 0
       have hcz101_1 : wc.cell? ⟨gb264, 1, none⟩ = some (.int .i64 0) := bc_ BK264 1
       have hcz101_2 : wc.cell? ⟨gb264, 2, none⟩ = some (.slice none 0 0) := bc_ BK264 2
       have hcz101_3 : wc.cell? ⟨gb264, 3, none⟩ = some (.string (⟨#[]⟩ : ByteArray)) := bc_ BK264 3
       have hfz101_0 := blk_frozen BK264.out 0
       have hfz101_1 := blk_frozen BK264.out 1
       have hfz101_2 := blk_frozen BK264.out 2
       have hfz101_3 := blk_frozen BK264.out 3
       obtain ⟨Ao102, co102, eo102⟩ := Kd.R_slice HO_266002.out
       subst eo102
       go_wp2
       refine bodyPost_ret (results_ct rfl _ _ gb264 47 #[.int .i64 x266000_1, .int .i64 x266001_1, .slice Ao102 x266002_1.length co102, .string x266003_1] (0, 0) _ rfl bu_ Tryz.underlying47 rfl (by kernel_rfl)) rfl ?_
       exact ⟨_, er_, by (with_reducible repeat (first | apply Kd.R_alloc | apply Kd.R_drewN | apply Kd.R_drew)); exact Kd.R_mono (Kd.R_far (p := ⟨gb264, 3, none⟩) (Kd.R_far (p := ⟨gb264, 2, none⟩) (Kd.R_far (p := ⟨gb264, 1, none⟩) (Kd.R_far (p := ⟨gb264, 0, none⟩) (Kd.R_types HO_266002.out BK264.out (by decide)) (fun _ hk => hk.2) (.int .i64 x266000_1)) (fun _ hk => hk.2) (.int .i64 x266001_1)) (fun _ hk => hk.2) (.slice Ao102 x266002_1.length co102)) (fun _ hk => hk.2) (.string x266003_1)) (fun _ hk => trivial), bw_ HB⟩

/-! ### strings_CutPrefix: function 68 -/
def strings_CutPrefix.f (a0 a1 : ByteArray) : Option (ByteArray × Bool) := some (⟨(Lib.trimPrefix a0.data.toList a1.data.toList).toArray⟩, Lib.hasPrefix a0.data.toList a1.data.toList)
theorem strings_CutPrefix.calls (a0 a1 : ByteArray) (r1 : ByteArray) (r2 : Bool) (w : World) (h : strings_CutPrefix.f a0 a1 = some (r1, r2)) :
  Calls Tryz.prog 68 #[.string a0, .string a1] w fun e w' => e = .returned (.tuple #[.string r1, .bool r2]) ∧ Below w.heap.size w w' := by
 obtain ⟨rfl, rfl⟩ := Prod.mk.inj (Option.some.inj h)
 exact (Tryz.strings_CutPrefix a0 a1 w).mono fun e w' ⟨he, hw⟩ => ⟨he, hw ▸ Below.refl _ _⟩

/-! ### impl_within: function 70 -/
def impl_within.f (a0 : Int) (a1 : Int) (a2 : Int) : Option (Bool) := if a0 ≥ a1 then (some (decide (a0 ≤ a2))) else (some false)
set_option maxHeartbeats 8000000 in
set_option maxRecDepth 100000 in
theorem impl_within.calls (a0 : Int) (a1 : Int) (a2 : Int) (r : Bool) (w : World) (h : impl_within.f a0 a1 a2 = some r) :
  Calls Tryz.prog 70 #[.int .i64 a0, .int .i64 a1, .int .i64 a2] w fun e w' => e = .returned (.bool r) ∧ Drawn0 w w' := by
 have H : (if a0 ≥ a1 then (some (decide (a0 ≤ a2))) else (some false)) = some r := h
 clear h
 by_cases c4 : a0 ≥ a1
 ·rw [if_pos c4] at H
  have c4b0 : decide (a1 ≤ a0) = true := decide_eq_true c4
  clear c4
  obtain rfl := Option.some.inj H
  go_enter Tryz.func70, Tryz.ntmps70
  go_wp2
  go_ret
  exact ⟨by first | rfl | (simp; done) | (simp [*]; done), by repeat (first | exact Drawn0.refl _ | apply Drawn0.step)⟩
 ·rw [if_neg c4] at H
  have c4b0 : decide (a1 ≤ a0) = false := decide_eq_false c4
  clear c4
  obtain rfl := Option.some.inj H
  go_enter Tryz.func70, Tryz.ntmps70
  go_wp2
  go_ret
  exact ⟨by first | rfl | (simp; done) | (simp [*]; done), by repeat (first | exact Drawn0.refl _ | apply Drawn0.step)⟩

/-! ### impl_Decimal: function 72 -/
def impl_Decimal.f (a0 : Int) : Option ByteArray := if -9223372036854775808 ≤ a0 ∧ a0 ≤ 9223372036854775807 then some ⟨(Lib.itoa a0).toArray⟩ else none
set_option maxHeartbeats 4000000 in
theorem impl_Decimal.calls (a0 : Int) (r : ByteArray) (w : World) (hT : Tab1 w) (h : impl_Decimal.f a0 = some r) :
  Calls Tryz.prog 72 #[.int .i64 a0] w fun e w' => e = .returned (.string r) ∧ Below w.heap.size w w' := by
 unfold impl_Decimal.f at h
 split at h
 ·rename_i hb
  obtain rfl := Option.some.inj h
  have HX := mk_ (Tryz.strconv_Itoa a0 hb.1 hb.2 w hT)
  clear h hb hT
  generalize (Lib.itoa a0) = l at *
  go_enter Tryz.func72, Tryz.ntmps72
  go_wp2_with (go_at_call 111; refine HX.out.mono ?_; rintro e w' ⟨rfl, ⟨k, os, rfl⟩⟩)
  go_ret
  exact ⟨rfl, Lib.below_grow _ _ (Nat.le_refl _) _ _⟩
 ·cases h

/-! ### impl_ReadDecimal: function 69 -/
def impl_ReadDecimal.v (a0 : ByteArray) : Int × Bool := match Lib.atoiAll a0.data.toList with
 | .ok v => if (⟨(Lib.itoa v).toArray⟩ : ByteArray).toList = a0.toList then (if 0 ≤ v ∧ v ≤ 1000000000 then (v, true) else (0, false)) else (0, false)
 | _ => (0, false)
def impl_ReadDecimal.f (a0 : ByteArray) : Option (Int × Bool) := if a0.size ≤ 281474976710656 then some (impl_ReadDecimal.v a0) else none
theorem impl_ReadDecimal.in_ {v : Int} (h : 0 ≤ v ∧ v ≤ 1000000000) : impl_within.f v 0 1000000000 = some true := by
 unfold impl_within.f; rw [if_pos h.1, decide_eq_true h.2]
theorem impl_ReadDecimal.out_ {v : Int} (h : ¬ (0 ≤ v ∧ v ≤ 1000000000)) : impl_within.f v 0 1000000000 = some false := by
 unfold impl_within.f
 by_cases h0 : v ≥ 0
 ·rw [if_pos h0, decide_eq_false (by omega)]
 ·rw [if_neg h0]
set_option maxHeartbeats 4000000 in
set_option maxRecDepth 100000 in
theorem impl_ReadDecimal.calls (a0 : ByteArray) (r1 : Int) (r2 : Bool) (w : World) (hT : Tab2 w) (h : impl_ReadDecimal.f a0 = some (r1, r2)) :
  Calls Tryz.prog 69 #[.string a0] w fun e w' => e = .returned (.tuple #[.int .i64 r1, .bool r2]) ∧ Below w.heap.size w w' := by
 unfold impl_ReadDecimal.f at h
 split at h
 ·rename_i hs
  have h := Option.some.inj h
  obtain ⟨hT1, ⟨t2, p2, hv2⟩, t3, p3, hv3⟩ := hT
  unfold impl_ReadDecimal.v at h
  cases ha : Lib.atoiAll a0.data.toList with
  | ok v =>
   rw [ha] at h
   simp only at h
   obtain ⟨b0, b1⟩ := Lib.atoiAll_bounds ha
   have HA : Aside0 (Calls Tryz.prog 108 #[.string a0] w fun e w' => e = .returned (.tuple #[.int .i64 v, .nilIface]) ∧ Below w.heap.size w w') :=
    mk_ ((Tryz.strconv_Atoi_ok a0 (by omega) v ha w).mono fun e w' ⟨he, hw⟩ => ⟨he, by rcases hw with rfl | ⟨t, rfl⟩; exact Below.refl _ _; exact Lib.bytesWorld_below _ _ _⟩)
   have HD : Aside0 (impl_Decimal.f v = some (⟨(Lib.itoa v).toArray⟩ : ByteArray)) := mk_ (by unfold impl_Decimal.f; rw [if_pos ⟨by omega, by omega⟩])
   have HT1 := Aside0.mk hT1
   clear ha hT1 hv2 hv3 hs b0 b1
   generalize (⟨(Lib.itoa v).toArray⟩ : ByteArray) = s at *
   by_cases hq : s.toList = a0.toList
   ·rw [if_pos hq] at h
    have hq0 : (s.toList == a0.toList) = true := beq_iff_eq.mpr hq
    have hq1 : (s.toList != a0.toList) = false := bne_eq_false_iff_eq.mpr hq
    clear hq
    by_cases hr : 0 ≤ v ∧ v ≤ 1000000000
    ·rw [if_pos hr] at h
     obtain ⟨rfl, rfl⟩ := Prod.mk.inj h
     have HW := mk_ (impl_ReadDecimal.in_ hr)
     clear h hr
     go_enter Tryz.func69, Tryz.ntmps69
     go_wp2_with (first
      | (go_at_call 108; refine HA.out.mono ?_; rintro e w1 ⟨rfl, hb1⟩; have HB1 := Aside0.mk hb1; clear hb1)
      | (go_at_call 72; refine (impl_Decimal.calls _ s _ (HT1.out.keep HB1.out) HD.out).mono ?_; rintro e w2 ⟨rfl, hb2⟩; have HB2 := Aside0.mk hb2; clear hb2)
      | (go_at_call 70; refine (impl_within.calls _ 0 1000000000 true _ HW.out).mono ?_; rintro e w3 ⟨rfl, ⟨nd, rfl⟩⟩))
     go_ret2
     exact ⟨rfl, pw_below_drewN (below_then HB1.out HB1.out.size HB2.out) _⟩
    ·rw [if_neg hr] at h
     obtain ⟨rfl, rfl⟩ := Prod.mk.inj h
     have HW := mk_ (impl_ReadDecimal.out_ hr)
     clear h hr
     go_enter Tryz.func69, Tryz.ntmps69
     go_wp2_with (first
      | (go_at_call 108; refine HA.out.mono ?_; rintro e w1 ⟨rfl, hb1⟩; have HB1 := Aside0.mk hb1; clear hb1)
      | (go_at_call 72; refine (impl_Decimal.calls _ s _ (HT1.out.keep HB1.out) HD.out).mono ?_; rintro e w2 ⟨rfl, hb2⟩; have HB2 := Aside0.mk hb2; clear hb2)
      | (go_at_call 70; refine (impl_within.calls _ 0 1000000000 false _ HW.out).mono ?_; rintro e w3 ⟨rfl, ⟨nd, rfl⟩⟩))
     go_ret2
     exact ⟨rfl, pw_below_drewN (below_then HB1.out HB1.out.size HB2.out) _⟩
   ·rw [if_neg hq] at h
    have hq0 : (s.toList == a0.toList) = false := beq_eq_false_iff_ne.mpr hq
    have hq1 : (s.toList != a0.toList) = true := bne_iff_ne.mpr hq
    clear hq
    obtain ⟨rfl, rfl⟩ := Prod.mk.inj h
    clear h
    go_enter Tryz.func69, Tryz.ntmps69
    go_wp2_with (first
      | (go_at_call 108; refine HA.out.mono ?_; rintro e w1 ⟨rfl, hb1⟩; have HB1 := Aside0.mk hb1; clear hb1)
      | (go_at_call 72; refine (impl_Decimal.calls _ s _ (HT1.out.keep HB1.out) HD.out).mono ?_; rintro e w2 ⟨rfl, hb2⟩; have HB2 := Aside0.mk hb2; clear hb2))
    go_ret2
    exact ⟨rfl, below_then HB1.out HB1.out.size HB2.out⟩
  | range =>
   rw [ha] at h
   obtain ⟨rfl, rfl⟩ := Prod.mk.inj h
   have HA := mk_ (Tryz.strconv_Atoi_range_var a0 hs ha t3 p3 w hv3)
   clear ha hT1 hv2 hv3 hs h
   go_enter Tryz.func69, Tryz.ntmps69
   go_wp2_with (go_at_call 108; refine HA.out.mono ?_; rintro e w1 ⟨N, rfl, -, -, hb1⟩; have HB1 := Aside0.mk hb1; clear hb1)
   go_ret2
   exact ⟨rfl, HB1.out⟩
  | _ =>
   rw [ha] at h
   obtain ⟨rfl, rfl⟩ := Prod.mk.inj h
   have HA := mk_ (Tryz.strconv_Atoi_syntax_var a0 hs ha t2 p2 w hv2)
   clear ha hT1 hv2 hv3 hs h
   go_enter Tryz.func69, Tryz.ntmps69
   go_wp2_with (go_at_call 108; refine HA.out.mono ?_; rintro e w1 ⟨N, rfl, -, -, hb1⟩; have HB1 := Aside0.mk hb1; clear hb1)
   go_ret2
   exact ⟨rfl, HB1.out⟩
 ·cases h

/-! ### impl_numberOf: function 35 -/
def impl_numberOf.f (a0 : ByteArray) (a1 : ByteArray) (a2 : Int) : Option (Int) := (strings_CutPrefix.f a0 a1).bind fun bt278 => ((impl_ReadDecimal.f bt278.1).bind fun bt280 => (if bt278.2 = true then (if bt280.2 = true then (if bt280.1 > a2 then (some (-1)) else (some bt280.1)) else (some (-1))) else (some (-1))))
set_option maxHeartbeats 8000000 in
set_option maxRecDepth 100000 in
theorem impl_numberOf.calls (a0 : ByteArray) (a1 : ByteArray) (a2 : Int) (r : Int) (w : World) (hT : Tab2 w) (h : impl_numberOf.f a0 a1 a2 = some r) :
  Calls Tryz.prog 35 #[.string a0, .string a1, .int .i64 a2] w fun e w' => e = .returned (.int .i64 r) ∧ Below w.heap.size w w' := by
 have HT := Aside0.mk hT
 clear hT
 have HB := mk_ (Below.refl w.heap.size w)
 have H : ((strings_CutPrefix.f a0 a1).bind fun bt278 => ((impl_ReadDecimal.f bt278.1).bind fun bt280 => (if bt278.2 = true then (if bt280.2 = true then (if bt280.1 > a2 then (some (-1)) else (some bt280.1)) else (some (-1))) else (some (-1))))) = some r := h
 clear h
 replace H := Option.bind_eq_some_iff.mp H
 obtain ⟨⟨t278, t279⟩, A40, H⟩ := H
 replace H : ((impl_ReadDecimal.f t278).bind fun bt280 => (if t279 = true then (if bt280.2 = true then (if bt280.1 > a2 then (some (-1)) else (some bt280.1)) else (some (-1))) else (some (-1)))) = some r := H
 have A4 := Aside0.mk A40
 clear A40
 replace H := Option.bind_eq_some_iff.mp H
 obtain ⟨⟨t280, t281⟩, A50, H⟩ := H
 replace H : (if t279 = true then (if t281 = true then (if t280 > a2 then (some (-1)) else (some t280)) else (some (-1))) else (some (-1))) = some r := H
 have A5 := Aside0.mk A50
 clear A50
 by_cases c6 : t279 = true
 ·subst c6
  have H1 : (if t281 = true then (if t280 > a2 then (some (-1)) else (some t280)) else (some (-1))) = some r := by rw [if_pos rfl] at H; exact H
  clear H
  have H := H1
  clear H1
  by_cases c7 : t281 = true
  ·subst c7
   have H1 : (if t280 > a2 then (some (-1)) else (some t280)) = some r := by rw [if_pos rfl] at H; exact H
   clear H
   have H := H1
   clear H1
   by_cases c8 : t280 > a2
   ·rw [if_pos c8] at H
    have c8b0 : decide (a2 < t280) = true := decide_eq_true c8
    clear c8
    obtain rfl := Option.some.inj H
    go_enter Tryz.func35, Tryz.ntmps35
    go_wp2_with (first | ((with_reducible refine gate_callee (f := 68) rfl ?_); refine goesL_ (some 14) rfl rfl Tryz.func68 (by kernel_rfl) rfl #[.string a0, .string a1] rfl ga_ ?_; (with_reducible refine (strings_CutPrefix.calls a0 a1 t278 true _ A4.out).mono ?_); rintro e w9 ⟨rfl, hb⟩; refine ⟨_, rfl, ?_⟩; replace HB := bs_ HB hb; (try clear hb)) | ((with_reducible refine gate_callee (f := 69) rfl ?_); refine goesL_ (some 19) rfl rfl Tryz.func69 (by kernel_rfl) rfl #[.string t278] rfl ga_ ?_; (with_reducible refine (impl_ReadDecimal.calls t278 t280 true _ (tab22 HT HB) A5.out).mono ?_); rintro e w10 ⟨rfl, hb⟩; refine ⟨_, rfl, ?_⟩; replace HB := bs_ HB hb; (try clear hb)))
    go_ret
    exact ⟨er_, bw_ HB⟩
   ·rw [if_neg c8] at H
    have c8b0 : decide (a2 < t280) = false := decide_eq_false c8
    clear c8
    obtain rfl := Option.some.inj H
    go_enter Tryz.func35, Tryz.ntmps35
    go_wp2_with (first | ((with_reducible refine gate_callee (f := 68) rfl ?_); refine goesL_ (some 14) rfl rfl Tryz.func68 (by kernel_rfl) rfl #[.string a0, .string a1] rfl ga_ ?_; (with_reducible refine (strings_CutPrefix.calls a0 a1 t278 true _ A4.out).mono ?_); rintro e w11 ⟨rfl, hb⟩; refine ⟨_, rfl, ?_⟩; replace HB := bs_ HB hb; (try clear hb)) | ((with_reducible refine gate_callee (f := 69) rfl ?_); refine goesL_ (some 19) rfl rfl Tryz.func69 (by kernel_rfl) rfl #[.string t278] rfl ga_ ?_; (with_reducible refine (impl_ReadDecimal.calls t278 t280 true _ (tab22 HT HB) A5.out).mono ?_); rintro e w12 ⟨rfl, hb⟩; refine ⟨_, rfl, ?_⟩; replace HB := bs_ HB hb; (try clear hb)))
    go_ret
    exact ⟨er_, bw_ HB⟩
  ·replace c7 := Bool.eq_false_iff.mpr c7
   subst c7
   have H1 : (some (-1)) = some r := by rw [if_neg (show ¬ (false = true) by decide)] at H; exact H
   clear H
   have H := H1
   clear H1
   obtain rfl := Option.some.inj H
   go_enter Tryz.func35, Tryz.ntmps35
   go_wp2_with (first | ((with_reducible refine gate_callee (f := 68) rfl ?_); refine goesL_ (some 14) rfl rfl Tryz.func68 (by kernel_rfl) rfl #[.string a0, .string a1] rfl ga_ ?_; (with_reducible refine (strings_CutPrefix.calls a0 a1 t278 true _ A4.out).mono ?_); rintro e w13 ⟨rfl, hb⟩; refine ⟨_, rfl, ?_⟩; replace HB := bs_ HB hb; (try clear hb)) | ((with_reducible refine gate_callee (f := 69) rfl ?_); refine goesL_ (some 19) rfl rfl Tryz.func69 (by kernel_rfl) rfl #[.string t278] rfl ga_ ?_; (with_reducible refine (impl_ReadDecimal.calls t278 t280 false _ (tab22 HT HB) A5.out).mono ?_); rintro e w14 ⟨rfl, hb⟩; refine ⟨_, rfl, ?_⟩; replace HB := bs_ HB hb; (try clear hb)))
   go_ret
   exact ⟨er_, bw_ HB⟩
 ·replace c6 := Bool.eq_false_iff.mpr c6
  subst c6
  have H1 : (some (-1)) = some r := by rw [if_neg (show ¬ (false = true) by decide)] at H; exact H
  clear H
  have H := H1
  clear H1
  obtain rfl := Option.some.inj H
  go_enter Tryz.func35, Tryz.ntmps35
  go_wp2_with (first | ((with_reducible refine gate_callee (f := 68) rfl ?_); refine goesL_ (some 14) rfl rfl Tryz.func68 (by kernel_rfl) rfl #[.string a0, .string a1] rfl ga_ ?_; (with_reducible refine (strings_CutPrefix.calls a0 a1 t278 false _ A4.out).mono ?_); rintro e w15 ⟨rfl, hb⟩; refine ⟨_, rfl, ?_⟩; replace HB := bs_ HB hb; (try clear hb)) | ((with_reducible refine gate_callee (f := 69) rfl ?_); refine goesL_ (some 19) rfl rfl Tryz.func69 (by kernel_rfl) rfl #[.string t278] rfl ga_ ?_; (with_reducible refine (impl_ReadDecimal.calls t278 t280 t281 _ (tab22 HT HB) A5.out).mono ?_); rintro e w16 ⟨rfl, hb⟩; refine ⟨_, rfl, ?_⟩; replace HB := bs_ HB hb; (try clear hb)))
  go_ret
  exact ⟨er_, bw_ HB⟩

end Go.Proofs.YtgnmlgoadkhceaaGreatDoor.QFnExactNewestSnap
