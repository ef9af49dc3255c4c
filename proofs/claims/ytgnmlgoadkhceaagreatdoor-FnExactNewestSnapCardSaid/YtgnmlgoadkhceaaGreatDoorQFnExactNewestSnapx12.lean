/- Written by this session's own program (wip/tpl/pp.py): what the law's functions come to, and that the machine's calls do just that. -/
import Derived.Test.YtgnmlgoadkhceaaGreatDoorQFnExactNewestSnapx0
import Derived.Test.YtgnmlgoadkhceaaGreatDoorQFnExactNewestSnapx8
import Derived.Test.YtgnmlgoadkhceaaGreatDoorQFnExactNewestSnapx9
import Derived.Test.YtgnmlgoadkhceaaGreatDoorQFnExactNewestSnapx11
namespace Go.Proofs.YtgnmlgoadkhceaaGreatDoor.QFnExactNewestSnap
open Go.RowKit Go.Proofs.YtgnmlgoadkhceaaGreatDoorW.PrintWords Go.Proofs.YtgnmlgoadkhceaaGreatDoorW.PrintLast Go.Proofs.YtgnmlgoadkhceaaGreatDoorW.PrintMore
attribute [local go_sem] Go.Proofs.YtgnmlgoadkhceaaGreatDoor.Sem.string_geq Go.Proofs.YtgnmlgoadkhceaaGreatDoor.Sem.string_leq Go.Proofs.YtgnmlgoadkhceaaGreatDoor.Sem.string_gtr
attribute [local go_sem] max2_int min2_int max_two min_two max_three min_three max_four min_four   -- for this text's walks alone
set_option linter.unusedVariables false
set_option linter.unusedSimpArgs false

/-! ### impl_NewestSnap: function 19 -/
def impl_NewestSnap.l0 : Nat → Bool → List (S57) → Int → Int → Int → Int → List Int → ByteArray → Option (Int × Int × List Int × ByteArray × Bool)
 | 0, _, _, _, _, _, _, _, _ => none
 | k + 1, x5, x16, x17, x18, x375000, x375001, x375002, x375003 => if x18 < x17 then (if 0 ≤ x18 then (if x18 < (x16.length : Int) then ((impl_numberOf.f ((rd_T57 x16 x18).f0) (⟨#[115]⟩ : ByteArray) 1000000).bind fun t378 => ((impl_ReadSnap.f k ((rd_T57 x16 x18).f1)).bind fun bt379 => (if t378 ≥ 0 then (if bt379.2.2.2.2 = true then (if bt379.1 = t378 then (if x5 = true then (if t378 > x375000 then (impl_NewestSnap.l0 k true x16 x17 (wrap64 (x18 + 1)) bt379.1 bt379.2.1 bt379.2.2.1 bt379.2.2.2.1) else (impl_NewestSnap.l0 k x5 x16 x17 (wrap64 (x18 + 1)) x375000 x375001 x375002 x375003)) else (impl_NewestSnap.l0 k true x16 x17 (wrap64 (x18 + 1)) bt379.1 bt379.2.1 bt379.2.2.1 bt379.2.2.2.1)) else (impl_NewestSnap.l0 k x5 x16 x17 (wrap64 (x18 + 1)) x375000 x375001 x375002 x375003)) else (impl_NewestSnap.l0 k x5 x16 x17 (wrap64 (x18 + 1)) x375000 x375001 x375002 x375003)) else (impl_NewestSnap.l0 k x5 x16 x17 (wrap64 (x18 + 1)) x375000 x375001 x375002 x375003)))) else (none)) else (none)) else (some (x375000, x375001, x375002, x375003, x5))
def impl_NewestSnap.f (k : Nat) (l0_0 : List (S57)) : Option (Int × Int × List Int × ByteArray × Bool) := (impl_DiskOk.f k l0_0).bind fun t375 => (if t375 = true then (impl_NewestSnap.l0 k false l0_0 (l0_0.length : Int) 0 0 0 ([] : List Int) (⟨#[]⟩ : ByteArray)) else (some (0, 0, ([] : List Int), (⟨#[]⟩ : ByteArray), false)))
theorem impl_NewestSnap.mono_l : ∀ k, (∀ y0 y1 y2 y3 y4 y5 y6 y7, LeO (impl_NewestSnap.l0 k y0 y1 y2 y3 y4 y5 y6 y7) (impl_NewestSnap.l0 (k + 1) y0 y1 y2 y3 y4 y5 y6 y7))
 | 0 => fun _ _ _ _ _ _ _ _ r h => by simp [impl_NewestSnap.l0] at h
 | k + 1 => by
  have ih0 := impl_NewestSnap.mono_l k
  ·intro y0 y1 y2 y3 y4 y5 y6 y7
   unfold impl_NewestSnap.l0
   repeat' first
   | (with_reducible exact ih0 _ _ _ _ _ _ _ _)
   | (with_reducible exact impl_DiskOk.mono _ _)
   | (with_reducible exact impl_ReadSnap.mono _ _)
   | (with_reducible exact LeO.refl _)
   | (with_reducible exact LeO.none _)
   | (with_reducible refine LeO.ite ?_ ?_)
   | (with_reducible refine LeO.bind ?_ (fun _ => ?_))
   | exact ih0 _ _ _ _ _ _ _ _
   | exact impl_DiskOk.mono _ _
   | exact impl_ReadSnap.mono _ _
   | exact LeO.none _
   | refine LeO.ite ?_ ?_
   | refine LeO.bind ?_ (fun _ => ?_)
theorem impl_NewestSnap.mono : ∀ a0 k, LeO (impl_NewestSnap.f k a0) (impl_NewestSnap.f (k + 1) a0) := by
 intro a0 k
 have ih0 := impl_NewestSnap.mono_l k
 unfold impl_NewestSnap.f
 repeat' first
   | (with_reducible exact ih0 _ _ _ _ _ _ _ _)
   | (with_reducible exact impl_DiskOk.mono _ _)
   | (with_reducible exact impl_ReadSnap.mono _ _)
   | (with_reducible exact LeO.refl _)
   | (with_reducible exact LeO.none _)
   | (with_reducible refine LeO.ite ?_ ?_)
   | (with_reducible refine LeO.bind ?_ (fun _ => ?_))
   | exact ih0 _ _ _ _ _ _ _ _
   | exact impl_DiskOk.mono _ _
   | exact impl_ReadSnap.mono _ _
   | exact LeO.none _
   | refine LeO.ite ?_ ?_
   | refine LeO.bind ?_ (fun _ => ?_)
set_option maxHeartbeats 8000000 in
set_option maxRecDepth 100000 in
theorem impl_NewestSnap.calls (k : Nat) (A0_0 : Option Addr) (c0_0 : Nat) (l0_0 : List (S57)) (r1 : Int) (r2 : Int) (r3 : List Int) (r4 : ByteArray) (r5 : Bool) (w : World) (hT : Tab2 w) (hr0_0 : Kd.C k57 w A0_0 l0_0.length l0_0) (hc0_0 : l0_0.length ≤ c0_0) (h : impl_NewestSnap.f k l0_0 = some (r1, r2, r3, r4, r5)) :
  Calls Tryz.prog 19 #[.agg #[.slice A0_0 l0_0.length c0_0]] w fun e w' => ∃ v2_ : Value, e = .returned (.tuple #[.agg #[.int .i64 r1, .int .i64 r2, v2_, .string r4], .bool r5]) ∧ Kd.R (Kd.int .i64) 3 w' w.heap.size (fun _ => True) v2_ r3 ∧ Below w.heap.size w w' := by
 have hu36 := Tryz.underlying36
 have hu47 := Tryz.underlying47
 have hu57 := Tryz.underlying57
 have HR0_0 := Aside0.mk hr0_0
 have HC0_0 := Aside0.mk hc0_0
 clear hr0_0 hc0_0
 have HT := Aside0.mk hT
 clear hT
 have HB := mk_ (Below.refl w.heap.size w)
 have H : ((impl_DiskOk.f k l0_0).bind fun t375 => (if t375 = true then (impl_NewestSnap.l0 k false l0_0 (l0_0.length : Int) 0 0 0 ([] : List Int) (⟨#[]⟩ : ByteArray)) else (some (0, 0, ([] : List Int), (⟨#[]⟩ : ByteArray), false)))) = some (r1, r2, r3, r4, r5) := h
 clear h
 replace H := Option.bind_eq_some_iff.mp H
 obtain ⟨t375, A20, H⟩ := H
 replace H : (if t375 = true then (impl_NewestSnap.l0 k false l0_0 (l0_0.length : Int) 0 0 0 ([] : List Int) (⟨#[]⟩ : ByteArray)) else (some (0, 0, ([] : List Int), (⟨#[]⟩ : ByteArray), false))) = some (r1, r2, r3, r4, r5) := H
 have A2 := Aside0.mk A20
 clear A20
 by_cases c3 : t375 = true
 ·subst c3
  have H1 : (impl_NewestSnap.l0 k false l0_0 (l0_0.length : Int) 0 0 0 ([] : List Int) (⟨#[]⟩ : ByteArray)) = some (r1, r2, r3, r4, r5) := by rw [if_pos rfl] at H; exact H
  clear H
  have H := H1
  clear H1
  have H' := Aside0.mk H
  clear H
  go_enter Tryz.func19, Tryz.ntmps19
  go_wp2_with (first | ((with_reducible refine gate_dst (N := 1) rfl ?_); refine box_event ?hg (N := 1) ?hd (cs := #[.slice A0_0 l0_0.length c0_0]) (t := 36) ?hr ?_; (case hd => rfl); (case hg => rfl); (case hr => first | (go_simp; done) | (go_simp; rfl)); intro gb372 hg w4 hbox hb; have BK372 := mk_ (hbox); have GW372 : Aside0 (w.heap.size ≤ gb372) := bz_ hg; have GE372 : Aside0 (w.heap.size ≤ gb372) := bz_ hg; replace HB := bs_ HB hb; clear hb hbox hg) | ((with_reducible refine gate_dst (N := 2) rfl ?_); refine box_event ?hg (N := 2) ?hd (cs := #[.int .i64 0, .int .i64 0, .slice none 0 0, .string (⟨#[]⟩ : ByteArray)]) (t := 47) ?hr ?_; (case hd => rfl); (case hg => rfl); (case hr => first | (go_simp; done) | (go_simp; rfl)); intro gb373 hg w5 hbox hb; have BK373 := mk_ (hbox); have GW373 : Aside0 (w.heap.size ≤ gb373) := bz_ hg; have GE373 : Aside0 (w.heap.size ≤ gb373) := bz_ hg; have NB372_373 : Aside0 (gb372 ≠ gb373) := bl_ BK372 hg; have NB373_372 : Aside0 (gb373 ≠ gb372) := bg_ BK372 hg; replace BK372 := bb_ BK372 hb; replace HB := bs_ HB hb; clear hb hbox hg) | ((with_reducible refine gate_dst (N := 4) rfl ?_); refine box_event ?hg (N := 4) ?hd (cs := #[.int .i64 0, .int .i64 0, .slice none 0 0, .string (⟨#[]⟩ : ByteArray)]) (t := 47) ?hr ?_; (case hd => rfl); (case hg => rfl); (case hr => first | (go_simp; done) | (go_simp; rfl)); intro gb374 hg w6 hbox hb; have BK374 := mk_ (hbox); have GW374 : Aside0 (w.heap.size ≤ gb374) := bz_ hg; have GE374 : Aside0 (w.heap.size ≤ gb374) := bz_ hg; have NB372_374 : Aside0 (gb372 ≠ gb374) := bl_ BK372 hg; have NB374_372 : Aside0 (gb374 ≠ gb372) := bg_ BK372 hg; have NB373_374 : Aside0 (gb373 ≠ gb374) := bl_ BK373 hg; have NB374_373 : Aside0 (gb374 ≠ gb373) := bg_ BK373 hg; replace BK372 := bb_ BK372 hb; replace BK373 := bb_ BK373 hb; replace HB := bs_ HB hb; clear hb hbox hg; have hnb7 := NB372_373.out; have hnc7 := NB373_372.out; have hnb8 := NB372_374.out; have hnc8 := NB374_372.out; have hcz9_0 : w6.cell? ⟨gb372, 0, none⟩ = some (.slice A0_0 l0_0.length c0_0) := bc_ BK372 0; have hfz9_0 := blk_frozen BK372.out 0) | ((with_reducible refine gate_callee (f := 36) rfl ?_); refine goesL_ (some 12) rfl rfl Tryz.func36 (by kernel_rfl) rfl #[.agg #[.slice A0_0 l0_0.length c0_0]] rfl ga_ ?_; (with_reducible refine (impl_DiskOk.calls k _ _ l0_0 true _ ?side1 ?side2 A2.out).mono ?_); (case side1 => repeat (first | exact (Kd.C_below HR0_0.out HB.out) | (with_reducible refine Kd.C_alloc ?_ _) | (with_reducible refine Kd.C_drewN ?_ _) | (with_reducible refine Kd.C_drew ?_))); (case side2 => exact HC0_0.out); rintro e w10 ⟨rfl, hb⟩; refine ⟨_, rfl, ?_⟩; replace BK372 := bb_ BK372 hb; replace BK373 := bb_ BK373 hb; replace BK374 := bb_ BK374 hb; replace HB := bs_ HB hb; (try clear hb); have hcz11_0 : w10.cell? ⟨gb372, 0, none⟩ = some (.slice A0_0 l0_0.length c0_0) := bc_ BK372 0; have hfz11_0 := blk_frozen BK372.out 0))
  go_loopg [5, 18] k (fun kq v5 v18 w' => ∃ (x5_1 : Bool) (x18_1 : Int) (x375000_1 : Int) (x375001_1 : Int) (x375002_1 : List Int) (x375003_1 : ByteArray) (u375002 : Value), v5 = .bool x5_1 ∧ v18 = .int .i64 x18_1 ∧ Aside0 (impl_NewestSnap.l0 kq x5_1 l0_0 (l0_0.length : Int) x18_1 x375000_1 x375001_1 x375002_1 x375003_1 = some (r1, r2, r3, r4, r5)) ∧ Aside0 (kq ≤ k) ∧ Aside0 (Kd.R (Kd.int .i64) 3 w' w.heap.size (fun _ => True) u375002 x375002_1) ∧ Aside0 (w'.heap[gb372]? = some (.cells #[(.slice A0_0 l0_0.length c0_0)] 36 (0, 0))) ∧ Aside0 (w'.heap[gb373]? = some (.cells #[.int .i64 0, .int .i64 0, (.slice none 0 0), .string (⟨#[]⟩ : ByteArray)] 47 (0, 0))) ∧ Aside0 (w'.heap[gb374]? = some (.cells #[.int .i64 x375000_1, .int .i64 x375001_1, u375002, .string x375003_1] 47 (0, 0))) ∧ Aside0 (Below w.heap.size w w'))
  case atStart => exact ⟨(false), (0), (0), (0), (([] : List Int)), ((⟨#[]⟩ : ByteArray)), (.slice none 0 0), (by first | rfl | (simp; done) | (simp [*]; done)), (by first | rfl | (simp; done) | (simp [*]; done)), H', ⟨Nat.le_refl _⟩, ⟨by first | exact Kd.R_nil _ _ _ _ _ | exact Kd.N_nil _ _ _ _ _ | exact Kd.V_nil _ _ _ _ _ | exact Kd.Q_nil _ _ _ _ _ | exact Kd.S_nil _ _ _ _ _⟩, ⟨bf_⟩, ⟨bf_⟩, ⟨bf_⟩, ⟨bw_ HB⟩⟩
  case round =>
   clear H'
   try clear c1
   try clear p2
   try clear c3
   try clear c7
   try clear c8
   try clear hcz11_0
   try clear hcz9_0
   try clear hfz11_0
   try clear hfz9_0
   obtain ⟨x5_1, x18_1, x375000_1, x375001_1, x375002_1, x375003_1, u375002, rfl, rfl, HA, HK1, HO_375002, BK372, BK373, BK374, HB⟩ := hrel
   cases gk with
   | zero => exact absurd HA.out (by simp [impl_NewestSnap.l0])
   | succ k1 =>
    have H := HA.out
    clear HA
    simp only [impl_NewestSnap.l0] at H
    by_cases c12 : x18_1 < (l0_0.length : Int)
    ·rw [if_pos c12] at H
     have c12b0 : decide (x18_1 < (l0_0.length : Int)) = true := decide_eq_true c12
     clear c12
     by_cases c13 : 0 ≤ x18_1
     ·rw [if_pos c13] at H
      have c13b0 : decide (0 ≤ x18_1) = true := decide_eq_true c13
      clear c13
      by_cases c14 : x18_1 < (l0_0.length : Int)
      ·rw [if_pos c14] at H
       have c14b0 : decide (x18_1 < (l0_0.length : Int)) = true := decide_eq_true c14
       clear c14
       replace H := Option.bind_eq_some_iff.mp H
       obtain ⟨t378, A150, H⟩ := H
       replace H : ((impl_ReadSnap.f k1 ((rd_T57 l0_0 x18_1).f1)).bind fun bt379 => (if t378 ≥ 0 then (if bt379.2.2.2.2 = true then (if bt379.1 = t378 then (if x5_1 = true then (if t378 > x375000_1 then (impl_NewestSnap.l0 k1 true l0_0 (l0_0.length : Int) (wrap64 (x18_1 + 1)) bt379.1 bt379.2.1 bt379.2.2.1 bt379.2.2.2.1) else (impl_NewestSnap.l0 k1 x5_1 l0_0 (l0_0.length : Int) (wrap64 (x18_1 + 1)) x375000_1 x375001_1 x375002_1 x375003_1)) else (impl_NewestSnap.l0 k1 true l0_0 (l0_0.length : Int) (wrap64 (x18_1 + 1)) bt379.1 bt379.2.1 bt379.2.2.1 bt379.2.2.2.1)) else (impl_NewestSnap.l0 k1 x5_1 l0_0 (l0_0.length : Int) (wrap64 (x18_1 + 1)) x375000_1 x375001_1 x375002_1 x375003_1)) else (impl_NewestSnap.l0 k1 x5_1 l0_0 (l0_0.length : Int) (wrap64 (x18_1 + 1)) x375000_1 x375001_1 x375002_1 x375003_1)) else (impl_NewestSnap.l0 k1 x5_1 l0_0 (l0_0.length : Int) (wrap64 (x18_1 + 1)) x375000_1 x375001_1 x375002_1 x375003_1))) = some (r1, r2, r3, r4, r5) := H
       have A15 := Aside0.mk A150
       clear A150
       replace H := Option.bind_eq_some_iff.mp H
       obtain ⟨⟨t379, t380, t381, t384, t385⟩, A160, H⟩ := H
       replace H : (if t378 ≥ 0 then (if t385 = true then (if t379 = t378 then (if x5_1 = true then (if t378 > x375000_1 then (impl_NewestSnap.l0 k1 true l0_0 (l0_0.length : Int) (wrap64 (x18_1 + 1)) t379 t380 t381 t384) else (impl_NewestSnap.l0 k1 x5_1 l0_0 (l0_0.length : Int) (wrap64 (x18_1 + 1)) x375000_1 x375001_1 x375002_1 x375003_1)) else (impl_NewestSnap.l0 k1 true l0_0 (l0_0.length : Int) (wrap64 (x18_1 + 1)) t379 t380 t381 t384)) else (impl_NewestSnap.l0 k1 x5_1 l0_0 (l0_0.length : Int) (wrap64 (x18_1 + 1)) x375000_1 x375001_1 x375002_1 x375003_1)) else (impl_NewestSnap.l0 k1 x5_1 l0_0 (l0_0.length : Int) (wrap64 (x18_1 + 1)) x375000_1 x375001_1 x375002_1 x375003_1)) else (impl_NewestSnap.l0 k1 x5_1 l0_0 (l0_0.length : Int) (wrap64 (x18_1 + 1)) x375000_1 x375001_1 x375002_1 x375003_1)) = some (r1, r2, r3, r4, r5) := H
       have A16 := Aside0.mk A160
       clear A160
       by_cases c17 : t378 ≥ 0
       ·rw [if_pos c17] at H
        have c17b0 : decide (0 ≤ t378) = true := decide_eq_true c17
        clear c17
        by_cases c18 : t385 = true
        ·subst c18
         have H1 : (if t379 = t378 then (if x5_1 = true then (if t378 > x375000_1 then (impl_NewestSnap.l0 k1 true l0_0 (l0_0.length : Int) (wrap64 (x18_1 + 1)) t379 t380 t381 t384) else (impl_NewestSnap.l0 k1 x5_1 l0_0 (l0_0.length : Int) (wrap64 (x18_1 + 1)) x375000_1 x375001_1 x375002_1 x375003_1)) else (impl_NewestSnap.l0 k1 true l0_0 (l0_0.length : Int) (wrap64 (x18_1 + 1)) t379 t380 t381 t384)) else (impl_NewestSnap.l0 k1 x5_1 l0_0 (l0_0.length : Int) (wrap64 (x18_1 + 1)) x375000_1 x375001_1 x375002_1 x375003_1)) = some (r1, r2, r3, r4, r5) := by rw [if_pos rfl] at H; exact H
         clear H
         have H := H1
         clear H1
         by_cases c19 : t379 = t378
         ·rw [if_pos c19] at H
          have c19b0 : (t379 == t378) = true := beq_iff_eq.mpr c19
          have c19b1 : (t379 != t378) = false := bne_eq_false_iff_eq.mpr c19
          clear c19
          by_cases c20 : x5_1 = true
          ·subst c20
           have H1 : (if t378 > x375000_1 then (impl_NewestSnap.l0 k1 true l0_0 (l0_0.length : Int) (wrap64 (x18_1 + 1)) t379 t380 t381 t384) else (impl_NewestSnap.l0 k1 true l0_0 (l0_0.length : Int) (wrap64 (x18_1 + 1)) x375000_1 x375001_1 x375002_1 x375003_1)) = some (r1, r2, r3, r4, r5) := by rw [if_pos rfl] at H; exact H
           clear H
           have H := H1
           clear H1
           by_cases c21 : t378 > x375000_1
           ·rw [if_pos c21] at H
            have c21b0 : decide (x375000_1 < t378) = true := decide_eq_true c21
            clear c21
            have H' := Aside0.mk H
            clear H
            have p376 : 0 ≤ (x18_1 : Int) := of_decide_eq_true (by first | (with_reducible assumption) | assumption)
            have q376 : x18_1 < (l0_0.length : Int) := of_decide_eq_true (by first | (with_reducible assumption) | assumption)
            obtain ⟨ad376, e376, hx376_0, hx376_1, hx376_2⟩ := at_T57 HR0_0.out x18_1 p376 q376
            cases e376
            replace hx376_0 := (HB.out.cell (World.block_lt_of_cell? w _ hx376_0)).trans hx376_0
            replace hx376_1 := (HB.out.cell (World.block_lt_of_cell? w _ hx376_1)).trans hx376_1
            replace hx376_2 := (HB.out.cell (World.block_lt_of_cell? w _ hx376_2)).trans hx376_2
            replace p376 := eq_true p376
            replace q376 := eq_true q376
            go_wp2_with (first | ((with_reducible refine gate_dst (N := 7) rfl ?_); refine box_event ?hg (N := 7) ?hd (cs := #[.string (⟨#[]⟩ : ByteArray), .string (⟨#[]⟩ : ByteArray), .int .i64 0]) (t := 57) ?hr ?_; (case hd => rfl); (case hg => rfl); (case hr => first | (go_simp; done) | (go_simp; rfl)); intro gb377 hg w22 hbox hb; have BK377 := mk_ (hbox); have GW377 : Aside0 (w.heap.size ≤ gb377) := bz_ hg; have GE377 : Aside0 (w.heap.size ≤ gb377) := bz_ hg; have NB372_377 : Aside0 (gb372 ≠ gb377) := bl_ BK372 hg; have NB377_372 : Aside0 (gb377 ≠ gb372) := bg_ BK372 hg; have NB373_377 : Aside0 (gb373 ≠ gb377) := bl_ BK373 hg; have NB377_373 : Aside0 (gb377 ≠ gb373) := bg_ BK373 hg; have NB374_377 : Aside0 (gb374 ≠ gb377) := bl_ BK374 hg; have NB377_374 : Aside0 (gb377 ≠ gb374) := bg_ BK374 hg; replace HO_375002 := rb_ HO_375002 hb; replace BK372 := bb_ BK372 hb; replace BK373 := bb_ BK373 hb; replace BK374 := bb_ BK374 hb; replace HB := bs_ HB hb; clear hb hbox hg; have hnb23 := NB377_372.out; have hnc23 := NB372_377.out; have hnb24 := NB377_373.out; have hnc24 := NB373_377.out; have hnb25 := NB377_374.out; have hnc25 := NB374_377.out; have hcz26_0 : w22.cell? ⟨gb377, 0, none⟩ = some (.string (⟨#[]⟩ : ByteArray)) := bc_ BK377 0; have hcz26_1 : w22.cell? ⟨gb377, 1, none⟩ = some (.string (⟨#[]⟩ : ByteArray)) := bc_ BK377 1; have hcz26_2 : w22.cell? ⟨gb377, 2, none⟩ = some (.int .i64 0) := bc_ BK377 2; have hfz26_0 := blk_frozen BK377.out 0; have hfz26_1 := blk_frozen BK377.out 1; have hfz26_2 := blk_frozen BK377.out 2) | ((with_reducible refine gate_callee (f := 35) rfl ?_); refine goesL_ (some 24) rfl rfl Tryz.func35 (by kernel_rfl) rfl #[.string ((rd_T57 l0_0 x18_1).f0), .string (⟨#[115]⟩ : ByteArray), .int .i64 1000000] rfl ga_ ?_; (with_reducible refine (impl_numberOf.calls ((rd_T57 l0_0 x18_1).f0) (⟨#[115]⟩ : ByteArray) 1000000 t378 _ (tab22 HT HB) A15.out).mono ?_); rintro e w27 ⟨rfl, hb⟩; refine ⟨_, rfl, ?_⟩; replace HO_375002 := mk_ (Kd.R_below (by (with_reducible repeat (first | apply Kd.R_alloc | apply Kd.R_drewN | apply Kd.R_drew)); exact (Kd.R_mono (Kd.R_far (p := ⟨gb377, 2, none⟩) (Kd.R_far (p := ⟨gb377, 1, none⟩) (Kd.R_far (p := ⟨gb377, 0, none⟩) (Kd.R_types HO_375002.out BK377.out (by decide)) (fun _ hk => hk.2) (.string ((rd_T57 l0_0 x18_1).f0))) (fun _ hk => hk.2) (.string ((rd_T57 l0_0 x18_1).f1))) (fun _ hk => hk.2) (.int .i64 ((rd_T57 l0_0 x18_1).f2))) (fun _ h_ => h_.1))) hb); replace BK372 := mk_ (blk_below (g := gb372) (o := .cells #[.slice (some ad376) l0_0.length c0_0] 36 (0, 0)) bf_ hb); replace BK373 := mk_ (blk_below (g := gb373) (o := .cells #[.int .i64 0, .int .i64 0, .slice none 0 0, .string (⟨#[]⟩ : ByteArray)] 47 (0, 0)) bf_ hb); replace BK374 := mk_ (blk_below (g := gb374) (o := .cells #[.int .i64 x375000_1, .int .i64 x375001_1, u375002, .string x375003_1] 47 (0, 0)) bf_ hb); replace BK377 := mk_ (blk_below (g := gb377) (o := .cells #[.string ((rd_T57 l0_0 x18_1).f0), .string ((rd_T57 l0_0 x18_1).f1), .int .i64 ((rd_T57 l0_0 x18_1).f2)] 57 (0, 0)) bu_ hb); replace HB := bs_ HB hb; (try clear hb); (try clear hk); have hcz28_0 : w27.cell? ⟨gb377, 0, none⟩ = some (.string ((rd_T57 l0_0 x18_1).f0)) := bc_ BK377 0; have hcz28_1 : w27.cell? ⟨gb377, 1, none⟩ = some (.string ((rd_T57 l0_0 x18_1).f1)) := bc_ BK377 1; have hcz28_2 : w27.cell? ⟨gb377, 2, none⟩ = some (.int .i64 ((rd_T57 l0_0 x18_1).f2)) := bc_ BK377 2; have hfz28_0 := blk_frozen BK377.out 0; have hfz28_1 := blk_frozen BK377.out 1; have hfz28_2 := blk_frozen BK377.out 2) | ((with_reducible refine gate_callee (f := 50) rfl ?_); refine goesL_ (some 28) rfl rfl Tryz.func50 (by kernel_rfl) rfl #[.string ((rd_T57 l0_0 x18_1).f1)] rfl ga_ ?_; (with_reducible refine (impl_ReadSnap.calls k1 ((rd_T57 l0_0 x18_1).f1) t379 t380 t381 t384 true _ A16.out).mono ?_); rintro e w29 ⟨v382, rfl, ho0, hb⟩; refine ⟨_, rfl, ?_⟩; have HO383 := mk_ (Kd.R_lower (Kd.R_new' ho0 (Kd.R_lt (rp_ HO_375002))) (below_size (bw_ HB))); replace HO_375002 := mk_ (Kd.R_elder' (rp_ HO_375002) (Kd.R_base ho0) hb); replace BK372 := bb_ BK372 hb; replace BK373 := bb_ BK373 hb; replace BK374 := bb_ BK374 hb; replace BK377 := bb_ BK377 hb; replace HB := bs_ HB hb; (try clear hb); (try clear hk); (try clear ho0)) | ((with_reducible refine gate_dst (N := 9) rfl ?_); refine box_event ?hg (N := 9) ?hd (cs := #[.int .i64 0, .int .i64 0, .slice none 0 0, .string (⟨#[]⟩ : ByteArray)]) (t := 47) ?hr ?_; (case hd => rfl); (case hg => rfl); (case hr => first | (go_simp; done) | (go_simp; rfl)); intro gb386 hg w30 hbox hb; have BK386 := mk_ (hbox); have GW386 : Aside0 (w.heap.size ≤ gb386) := bz_ hg; have GE386 : Aside0 (w.heap.size ≤ gb386) := bz_ hg; have NB372_386 : Aside0 (gb372 ≠ gb386) := bl_ BK372 hg; have NB386_372 : Aside0 (gb386 ≠ gb372) := bg_ BK372 hg; have NB373_386 : Aside0 (gb373 ≠ gb386) := bl_ BK373 hg; have NB386_373 : Aside0 (gb386 ≠ gb373) := bg_ BK373 hg; have NB374_386 : Aside0 (gb374 ≠ gb386) := bl_ BK374 hg; have NB386_374 : Aside0 (gb386 ≠ gb374) := bg_ BK374 hg; have NB377_386 : Aside0 (gb377 ≠ gb386) := bl_ BK377 hg; have NB386_377 : Aside0 (gb386 ≠ gb377) := bg_ BK377 hg; replace HO_375002 := rb_ HO_375002 hb; replace HO383 := rb_ HO383 hb; replace BK372 := bb_ BK372 hb; replace BK373 := bb_ BK373 hb; replace BK374 := bb_ BK374 hb; replace BK377 := bb_ BK377 hb; replace HB := bs_ HB hb; clear hb hbox hg; have hnb31 := NB386_372.out; have hnc31 := NB372_386.out; have hnb32 := NB386_373.out; have hnc32 := NB373_386.out; have hnb33 := NB386_374.out; have hnc33 := NB374_386.out; have hnb34 := NB386_377.out; have hnc34 := NB377_386.out; have hcz35_0 : w30.cell? ⟨gb386, 0, none⟩ = some (.int .i64 0) := bc_ BK386 0; have hcz35_1 : w30.cell? ⟨gb386, 1, none⟩ = some (.int .i64 0) := bc_ BK386 1; have hcz35_2 : w30.cell? ⟨gb386, 2, none⟩ = some (.slice none 0 0) := bc_ BK386 2; have hcz35_3 : w30.cell? ⟨gb386, 3, none⟩ = some (.string (⟨#[]⟩ : ByteArray)) := bc_ BK386 3; have hfz35_0 := blk_frozen BK386.out 0; have hfz35_1 := blk_frozen BK386.out 1; have hfz35_2 := blk_frozen BK386.out 2; have hfz35_3 := blk_frozen BK386.out 3; obtain ⟨Ao36, co36, eo36⟩ := Kd.R_slice HO383.out; subst eo36; have hnb37 := NB374_372.out; have hnc37 := NB372_374.out; have hnb38 := NB374_373.out; have hnc38 := NB373_374.out; have hcz39_0 : w30.cell? ⟨gb374, 0, none⟩ = some (.int .i64 x375000_1) := bc_ BK374 0; have hcz39_1 : w30.cell? ⟨gb374, 1, none⟩ = some (.int .i64 x375001_1) := bc_ BK374 1; have hcz39_2 : w30.cell? ⟨gb374, 2, none⟩ = some (u375002) := bc_ BK374 2; have hcz39_3 : w30.cell? ⟨gb374, 3, none⟩ = some (.string x375003_1) := bc_ BK374 3; have hfz39_0 := blk_frozen BK374.out 0; have hfz39_1 := blk_frozen BK374.out 1; have hfz39_2 := blk_frozen BK374.out 2; have hfz39_3 := blk_frozen BK374.out 3))
            go_roundg k1
            case measure => have := HK1.out; omega
            case rel => exact ⟨(true), (wrap64 (x18_1 + 1)), (t379), (t380), (t381), (t384), (.slice Ao36 t381.length co36), (by first | rfl | (simp; done) | (simp [*]; done)), (by first | rfl | (simp; done) | (simp [*]; done)), H', ⟨by have := HK1.out; omega⟩, ⟨by (with_reducible repeat (first | apply Kd.R_alloc | apply Kd.R_drewN | apply Kd.R_drew)); exact Kd.R_mono (Kd.R_far (p := ⟨gb374, 3, none⟩) (Kd.R_far (p := ⟨gb374, 2, none⟩) (Kd.R_far (p := ⟨gb374, 1, none⟩) (Kd.R_far (p := ⟨gb374, 0, none⟩) (Kd.R_far (p := ⟨gb386, 3, none⟩) (Kd.R_far (p := ⟨gb386, 2, none⟩) (Kd.R_far (p := ⟨gb386, 1, none⟩) (Kd.R_far (p := ⟨gb386, 0, none⟩) (Kd.R_types (Kd.R_types HO383.out BK386.out (by decide)) BK374.out (by decide)) (fun _ hk => hk.1.2) (.int .i64 t379)) (fun _ hk => hk.1.2) (.int .i64 t380)) (fun _ hk => hk.1.2) (.slice Ao36 t381.length co36)) (fun _ hk => hk.1.2) (.string t384)) (fun _ hk => hk.2) (.int .i64 t379)) (fun _ hk => hk.2) (.int .i64 t380)) (fun _ hk => hk.2) (.slice Ao36 t381.length co36)) (fun _ hk => hk.2) (.string t384)) (fun _ hk => trivial)⟩, ⟨bf_⟩, ⟨bf_⟩, ⟨bu_⟩, ⟨bw_ HB⟩⟩
           ·rw [if_neg c21] at H
            have c21b0 : decide (x375000_1 < t378) = false := decide_eq_false c21
            clear c21
            have H' := Aside0.mk H
            clear H
            have p376 : 0 ≤ (x18_1 : Int) := of_decide_eq_true (by first | (with_reducible assumption) | assumption)
            have q376 : x18_1 < (l0_0.length : Int) := of_decide_eq_true (by first | (with_reducible assumption) | assumption)
            obtain ⟨ad376, e376, hx376_0, hx376_1, hx376_2⟩ := at_T57 HR0_0.out x18_1 p376 q376
            cases e376
            replace hx376_0 := (HB.out.cell (World.block_lt_of_cell? w _ hx376_0)).trans hx376_0
            replace hx376_1 := (HB.out.cell (World.block_lt_of_cell? w _ hx376_1)).trans hx376_1
            replace hx376_2 := (HB.out.cell (World.block_lt_of_cell? w _ hx376_2)).trans hx376_2
            replace p376 := eq_true p376
            replace q376 := eq_true q376
            go_wp2_with (first | ((with_reducible refine gate_dst (N := 7) rfl ?_); refine box_event ?hg (N := 7) ?hd (cs := #[.string (⟨#[]⟩ : ByteArray), .string (⟨#[]⟩ : ByteArray), .int .i64 0]) (t := 57) ?hr ?_; (case hd => rfl); (case hg => rfl); (case hr => first | (go_simp; done) | (go_simp; rfl)); intro gb377 hg w40 hbox hb; have BK377 := mk_ (hbox); have GW377 : Aside0 (w.heap.size ≤ gb377) := bz_ hg; have GE377 : Aside0 (w.heap.size ≤ gb377) := bz_ hg; have NB372_377 : Aside0 (gb372 ≠ gb377) := bl_ BK372 hg; have NB377_372 : Aside0 (gb377 ≠ gb372) := bg_ BK372 hg; have NB373_377 : Aside0 (gb373 ≠ gb377) := bl_ BK373 hg; have NB377_373 : Aside0 (gb377 ≠ gb373) := bg_ BK373 hg; have NB374_377 : Aside0 (gb374 ≠ gb377) := bl_ BK374 hg; have NB377_374 : Aside0 (gb377 ≠ gb374) := bg_ BK374 hg; replace HO_375002 := rb_ HO_375002 hb; replace BK372 := bb_ BK372 hb; replace BK373 := bb_ BK373 hb; replace BK374 := bb_ BK374 hb; replace HB := bs_ HB hb; clear hb hbox hg; have hnb41 := NB377_372.out; have hnc41 := NB372_377.out; have hnb42 := NB377_373.out; have hnc42 := NB373_377.out; have hnb43 := NB377_374.out; have hnc43 := NB374_377.out; have hcz44_0 : w40.cell? ⟨gb377, 0, none⟩ = some (.string (⟨#[]⟩ : ByteArray)) := bc_ BK377 0; have hcz44_1 : w40.cell? ⟨gb377, 1, none⟩ = some (.string (⟨#[]⟩ : ByteArray)) := bc_ BK377 1; have hcz44_2 : w40.cell? ⟨gb377, 2, none⟩ = some (.int .i64 0) := bc_ BK377 2; have hfz44_0 := blk_frozen BK377.out 0; have hfz44_1 := blk_frozen BK377.out 1; have hfz44_2 := blk_frozen BK377.out 2) | ((with_reducible refine gate_callee (f := 35) rfl ?_); refine goesL_ (some 24) rfl rfl Tryz.func35 (by kernel_rfl) rfl #[.string ((rd_T57 l0_0 x18_1).f0), .string (⟨#[115]⟩ : ByteArray), .int .i64 1000000] rfl ga_ ?_; (with_reducible refine (impl_numberOf.calls ((rd_T57 l0_0 x18_1).f0) (⟨#[115]⟩ : ByteArray) 1000000 t378 _ (tab22 HT HB) A15.out).mono ?_); rintro e w45 ⟨rfl, hb⟩; refine ⟨_, rfl, ?_⟩; replace HO_375002 := mk_ (Kd.R_below (by (with_reducible repeat (first | apply Kd.R_alloc | apply Kd.R_drewN | apply Kd.R_drew)); exact (Kd.R_mono (Kd.R_far (p := ⟨gb377, 2, none⟩) (Kd.R_far (p := ⟨gb377, 1, none⟩) (Kd.R_far (p := ⟨gb377, 0, none⟩) (Kd.R_types HO_375002.out BK377.out (by decide)) (fun _ hk => hk.2) (.string ((rd_T57 l0_0 x18_1).f0))) (fun _ hk => hk.2) (.string ((rd_T57 l0_0 x18_1).f1))) (fun _ hk => hk.2) (.int .i64 ((rd_T57 l0_0 x18_1).f2))) (fun _ h_ => h_.1))) hb); replace BK372 := mk_ (blk_below (g := gb372) (o := .cells #[.slice (some ad376) l0_0.length c0_0] 36 (0, 0)) bf_ hb); replace BK373 := mk_ (blk_below (g := gb373) (o := .cells #[.int .i64 0, .int .i64 0, .slice none 0 0, .string (⟨#[]⟩ : ByteArray)] 47 (0, 0)) bf_ hb); replace BK374 := mk_ (blk_below (g := gb374) (o := .cells #[.int .i64 x375000_1, .int .i64 x375001_1, u375002, .string x375003_1] 47 (0, 0)) bf_ hb); replace BK377 := mk_ (blk_below (g := gb377) (o := .cells #[.string ((rd_T57 l0_0 x18_1).f0), .string ((rd_T57 l0_0 x18_1).f1), .int .i64 ((rd_T57 l0_0 x18_1).f2)] 57 (0, 0)) bu_ hb); replace HB := bs_ HB hb; (try clear hb); (try clear hk); have hcz46_0 : w45.cell? ⟨gb377, 0, none⟩ = some (.string ((rd_T57 l0_0 x18_1).f0)) := bc_ BK377 0; have hcz46_1 : w45.cell? ⟨gb377, 1, none⟩ = some (.string ((rd_T57 l0_0 x18_1).f1)) := bc_ BK377 1; have hcz46_2 : w45.cell? ⟨gb377, 2, none⟩ = some (.int .i64 ((rd_T57 l0_0 x18_1).f2)) := bc_ BK377 2; have hfz46_0 := blk_frozen BK377.out 0; have hfz46_1 := blk_frozen BK377.out 1; have hfz46_2 := blk_frozen BK377.out 2) | ((with_reducible refine gate_callee (f := 50) rfl ?_); refine goesL_ (some 28) rfl rfl Tryz.func50 (by kernel_rfl) rfl #[.string ((rd_T57 l0_0 x18_1).f1)] rfl ga_ ?_; (with_reducible refine (impl_ReadSnap.calls k1 ((rd_T57 l0_0 x18_1).f1) t379 t380 t381 t384 true _ A16.out).mono ?_); rintro e w47 ⟨v382, rfl, ho0, hb⟩; refine ⟨_, rfl, ?_⟩; have HO383 := mk_ (Kd.R_lower (Kd.R_new' ho0 (Kd.R_lt (rp_ HO_375002))) (below_size (bw_ HB))); replace HO_375002 := mk_ (Kd.R_elder' (rp_ HO_375002) (Kd.R_base ho0) hb); replace BK372 := bb_ BK372 hb; replace BK373 := bb_ BK373 hb; replace BK374 := bb_ BK374 hb; replace BK377 := bb_ BK377 hb; replace HB := bs_ HB hb; (try clear hb); (try clear hk); (try clear ho0)) | ((with_reducible refine gate_dst (N := 9) rfl ?_); refine box_event ?hg (N := 9) ?hd (cs := #[.int .i64 0, .int .i64 0, .slice none 0 0, .string (⟨#[]⟩ : ByteArray)]) (t := 47) ?hr ?_; (case hd => rfl); (case hg => rfl); (case hr => first | (go_simp; done) | (go_simp; rfl)); intro gb386 hg w48 hbox hb; have BK386 := mk_ (hbox); have GW386 : Aside0 (w.heap.size ≤ gb386) := bz_ hg; have GE386 : Aside0 (w.heap.size ≤ gb386) := bz_ hg; have NB372_386 : Aside0 (gb372 ≠ gb386) := bl_ BK372 hg; have NB386_372 : Aside0 (gb386 ≠ gb372) := bg_ BK372 hg; have NB373_386 : Aside0 (gb373 ≠ gb386) := bl_ BK373 hg; have NB386_373 : Aside0 (gb386 ≠ gb373) := bg_ BK373 hg; have NB374_386 : Aside0 (gb374 ≠ gb386) := bl_ BK374 hg; have NB386_374 : Aside0 (gb386 ≠ gb374) := bg_ BK374 hg; have NB377_386 : Aside0 (gb377 ≠ gb386) := bl_ BK377 hg; have NB386_377 : Aside0 (gb386 ≠ gb377) := bg_ BK377 hg; replace HO_375002 := rb_ HO_375002 hb; replace HO383 := rb_ HO383 hb; replace BK372 := bb_ BK372 hb; replace BK373 := bb_ BK373 hb; replace BK374 := bb_ BK374 hb; replace BK377 := bb_ BK377 hb; replace HB := bs_ HB hb; clear hb hbox hg; have hnb49 := NB386_372.out; have hnc49 := NB372_386.out; have hnb50 := NB386_373.out; have hnc50 := NB373_386.out; have hnb51 := NB386_374.out; have hnc51 := NB374_386.out; have hnb52 := NB386_377.out; have hnc52 := NB377_386.out; have hcz53_0 : w48.cell? ⟨gb386, 0, none⟩ = some (.int .i64 0) := bc_ BK386 0; have hcz53_1 : w48.cell? ⟨gb386, 1, none⟩ = some (.int .i64 0) := bc_ BK386 1; have hcz53_2 : w48.cell? ⟨gb386, 2, none⟩ = some (.slice none 0 0) := bc_ BK386 2; have hcz53_3 : w48.cell? ⟨gb386, 3, none⟩ = some (.string (⟨#[]⟩ : ByteArray)) := bc_ BK386 3; have hfz53_0 := blk_frozen BK386.out 0; have hfz53_1 := blk_frozen BK386.out 1; have hfz53_2 := blk_frozen BK386.out 2; have hfz53_3 := blk_frozen BK386.out 3; obtain ⟨Ao54, co54, eo54⟩ := Kd.R_slice HO383.out; subst eo54; have hnb55 := NB374_372.out; have hnc55 := NB372_374.out; have hnb56 := NB374_373.out; have hnc56 := NB373_374.out; have hcz57_0 : w48.cell? ⟨gb374, 0, none⟩ = some (.int .i64 x375000_1) := bc_ BK374 0; have hcz57_1 : w48.cell? ⟨gb374, 1, none⟩ = some (.int .i64 x375001_1) := bc_ BK374 1; have hcz57_2 : w48.cell? ⟨gb374, 2, none⟩ = some (u375002) := bc_ BK374 2; have hcz57_3 : w48.cell? ⟨gb374, 3, none⟩ = some (.string x375003_1) := bc_ BK374 3; have hfz57_0 := blk_frozen BK374.out 0; have hfz57_1 := blk_frozen BK374.out 1; have hfz57_2 := blk_frozen BK374.out 2; have hfz57_3 := blk_frozen BK374.out 3))
            go_roundg k1
            case measure => have := HK1.out; omega
            case rel => exact ⟨(true), (wrap64 (x18_1 + 1)), (x375000_1), (x375001_1), (x375002_1), (x375003_1), (u375002), (by first | rfl | (simp; done) | (simp [*]; done)), (by first | rfl | (simp; done) | (simp [*]; done)), H', ⟨by have := HK1.out; omega⟩, ⟨by (with_reducible repeat (first | apply Kd.R_alloc | apply Kd.R_drewN | apply Kd.R_drew)); exact Kd.R_mono (Kd.R_far (p := ⟨gb386, 3, none⟩) (Kd.R_far (p := ⟨gb386, 2, none⟩) (Kd.R_far (p := ⟨gb386, 1, none⟩) (Kd.R_far (p := ⟨gb386, 0, none⟩) (Kd.R_types HO_375002.out BK386.out (by decide)) (fun _ hk => hk.2) (.int .i64 t379)) (fun _ hk => hk.2) (.int .i64 t380)) (fun _ hk => hk.2) (.slice Ao54 t381.length co54)) (fun _ hk => hk.2) (.string t384)) (fun _ hk => trivial)⟩, ⟨bf_⟩, ⟨bf_⟩, ⟨bf_⟩, ⟨bw_ HB⟩⟩
          ·replace c20 := Bool.eq_false_iff.mpr c20
           subst c20
           have H1 : (impl_NewestSnap.l0 k1 true l0_0 (l0_0.length : Int) (wrap64 (x18_1 + 1)) t379 t380 t381 t384) = some (r1, r2, r3, r4, r5) := by rw [if_neg (show ¬ (false = true) by decide)] at H; exact H
           clear H
           have H := H1
           clear H1
           have H' := Aside0.mk H
           clear H
           have p376 : 0 ≤ (x18_1 : Int) := of_decide_eq_true (by first | (with_reducible assumption) | assumption)
           have q376 : x18_1 < (l0_0.length : Int) := of_decide_eq_true (by first | (with_reducible assumption) | assumption)
           obtain ⟨ad376, e376, hx376_0, hx376_1, hx376_2⟩ := at_T57 HR0_0.out x18_1 p376 q376
           cases e376
           replace hx376_0 := (HB.out.cell (World.block_lt_of_cell? w _ hx376_0)).trans hx376_0
           replace hx376_1 := (HB.out.cell (World.block_lt_of_cell? w _ hx376_1)).trans hx376_1
           replace hx376_2 := (HB.out.cell (World.block_lt_of_cell? w _ hx376_2)).trans hx376_2
           replace p376 := eq_true p376
           replace q376 := eq_true q376
           go_wp2_with (first | ((with_reducible refine gate_dst (N := 7) rfl ?_); refine box_event ?hg (N := 7) ?hd (cs := #[.string (⟨#[]⟩ : ByteArray), .string (⟨#[]⟩ : ByteArray), .int .i64 0]) (t := 57) ?hr ?_; (case hd => rfl); (case hg => rfl); (case hr => first | (go_simp; done) | (go_simp; rfl)); intro gb377 hg w58 hbox hb; have BK377 := mk_ (hbox); have GW377 : Aside0 (w.heap.size ≤ gb377) := bz_ hg; have GE377 : Aside0 (w.heap.size ≤ gb377) := bz_ hg; have NB372_377 : Aside0 (gb372 ≠ gb377) := bl_ BK372 hg; have NB377_372 : Aside0 (gb377 ≠ gb372) := bg_ BK372 hg; have NB373_377 : Aside0 (gb373 ≠ gb377) := bl_ BK373 hg; have NB377_373 : Aside0 (gb377 ≠ gb373) := bg_ BK373 hg; have NB374_377 : Aside0 (gb374 ≠ gb377) := bl_ BK374 hg; have NB377_374 : Aside0 (gb377 ≠ gb374) := bg_ BK374 hg; replace HO_375002 := rb_ HO_375002 hb; replace BK372 := bb_ BK372 hb; replace BK373 := bb_ BK373 hb; replace BK374 := bb_ BK374 hb; replace HB := bs_ HB hb; clear hb hbox hg; have hnb59 := NB377_372.out; have hnc59 := NB372_377.out; have hnb60 := NB377_373.out; have hnc60 := NB373_377.out; have hnb61 := NB377_374.out; have hnc61 := NB374_377.out; have hcz62_0 : w58.cell? ⟨gb377, 0, none⟩ = some (.string (⟨#[]⟩ : ByteArray)) := bc_ BK377 0; have hcz62_1 : w58.cell? ⟨gb377, 1, none⟩ = some (.string (⟨#[]⟩ : ByteArray)) := bc_ BK377 1; have hcz62_2 : w58.cell? ⟨gb377, 2, none⟩ = some (.int .i64 0) := bc_ BK377 2; have hfz62_0 := blk_frozen BK377.out 0; have hfz62_1 := blk_frozen BK377.out 1; have hfz62_2 := blk_frozen BK377.out 2) | ((with_reducible refine gate_callee (f := 35) rfl ?_); refine goesL_ (some 24) rfl rfl Tryz.func35 (by kernel_rfl) rfl #[.string ((rd_T57 l0_0 x18_1).f0), .string (⟨#[115]⟩ : ByteArray), .int .i64 1000000] rfl ga_ ?_; (with_reducible refine (impl_numberOf.calls ((rd_T57 l0_0 x18_1).f0) (⟨#[115]⟩ : ByteArray) 1000000 t378 _ (tab22 HT HB) A15.out).mono ?_); rintro e w63 ⟨rfl, hb⟩; refine ⟨_, rfl, ?_⟩; replace HO_375002 := mk_ (Kd.R_below (by (with_reducible repeat (first | apply Kd.R_alloc | apply Kd.R_drewN | apply Kd.R_drew)); exact (Kd.R_mono (Kd.R_far (p := ⟨gb377, 2, none⟩) (Kd.R_far (p := ⟨gb377, 1, none⟩) (Kd.R_far (p := ⟨gb377, 0, none⟩) (Kd.R_types HO_375002.out BK377.out (by decide)) (fun _ hk => hk.2) (.string ((rd_T57 l0_0 x18_1).f0))) (fun _ hk => hk.2) (.string ((rd_T57 l0_0 x18_1).f1))) (fun _ hk => hk.2) (.int .i64 ((rd_T57 l0_0 x18_1).f2))) (fun _ h_ => h_.1))) hb); replace BK372 := mk_ (blk_below (g := gb372) (o := .cells #[.slice (some ad376) l0_0.length c0_0] 36 (0, 0)) bf_ hb); replace BK373 := mk_ (blk_below (g := gb373) (o := .cells #[.int .i64 0, .int .i64 0, .slice none 0 0, .string (⟨#[]⟩ : ByteArray)] 47 (0, 0)) bf_ hb); replace BK374 := mk_ (blk_below (g := gb374) (o := .cells #[.int .i64 x375000_1, .int .i64 x375001_1, u375002, .string x375003_1] 47 (0, 0)) bf_ hb); replace BK377 := mk_ (blk_below (g := gb377) (o := .cells #[.string ((rd_T57 l0_0 x18_1).f0), .string ((rd_T57 l0_0 x18_1).f1), .int .i64 ((rd_T57 l0_0 x18_1).f2)] 57 (0, 0)) bu_ hb); replace HB := bs_ HB hb; (try clear hb); (try clear hk); have hcz64_0 : w63.cell? ⟨gb377, 0, none⟩ = some (.string ((rd_T57 l0_0 x18_1).f0)) := bc_ BK377 0; have hcz64_1 : w63.cell? ⟨gb377, 1, none⟩ = some (.string ((rd_T57 l0_0 x18_1).f1)) := bc_ BK377 1; have hcz64_2 : w63.cell? ⟨gb377, 2, none⟩ = some (.int .i64 ((rd_T57 l0_0 x18_1).f2)) := bc_ BK377 2; have hfz64_0 := blk_frozen BK377.out 0; have hfz64_1 := blk_frozen BK377.out 1; have hfz64_2 := blk_frozen BK377.out 2) | ((with_reducible refine gate_callee (f := 50) rfl ?_); refine goesL_ (some 28) rfl rfl Tryz.func50 (by kernel_rfl) rfl #[.string ((rd_T57 l0_0 x18_1).f1)] rfl ga_ ?_; (with_reducible refine (impl_ReadSnap.calls k1 ((rd_T57 l0_0 x18_1).f1) t379 t380 t381 t384 true _ A16.out).mono ?_); rintro e w65 ⟨v382, rfl, ho0, hb⟩; refine ⟨_, rfl, ?_⟩; have HO383 := mk_ (Kd.R_lower (Kd.R_new' ho0 (Kd.R_lt (rp_ HO_375002))) (below_size (bw_ HB))); replace HO_375002 := mk_ (Kd.R_elder' (rp_ HO_375002) (Kd.R_base ho0) hb); replace BK372 := bb_ BK372 hb; replace BK373 := bb_ BK373 hb; replace BK374 := bb_ BK374 hb; replace BK377 := bb_ BK377 hb; replace HB := bs_ HB hb; (try clear hb); (try clear hk); (try clear ho0)) | ((with_reducible refine gate_dst (N := 9) rfl ?_); refine box_event ?hg (N := 9) ?hd (cs := #[.int .i64 0, .int .i64 0, .slice none 0 0, .string (⟨#[]⟩ : ByteArray)]) (t := 47) ?hr ?_; (case hd => rfl); (case hg => rfl); (case hr => first | (go_simp; done) | (go_simp; rfl)); intro gb386 hg w66 hbox hb; have BK386 := mk_ (hbox); have GW386 : Aside0 (w.heap.size ≤ gb386) := bz_ hg; have GE386 : Aside0 (w.heap.size ≤ gb386) := bz_ hg; have NB372_386 : Aside0 (gb372 ≠ gb386) := bl_ BK372 hg; have NB386_372 : Aside0 (gb386 ≠ gb372) := bg_ BK372 hg; have NB373_386 : Aside0 (gb373 ≠ gb386) := bl_ BK373 hg; have NB386_373 : Aside0 (gb386 ≠ gb373) := bg_ BK373 hg; have NB374_386 : Aside0 (gb374 ≠ gb386) := bl_ BK374 hg; have NB386_374 : Aside0 (gb386 ≠ gb374) := bg_ BK374 hg; have NB377_386 : Aside0 (gb377 ≠ gb386) := bl_ BK377 hg; have NB386_377 : Aside0 (gb386 ≠ gb377) := bg_ BK377 hg; replace HO_375002 := rb_ HO_375002 hb; replace HO383 := rb_ HO383 hb; replace BK372 := bb_ BK372 hb; replace BK373 := bb_ BK373 hb; replace BK374 := bb_ BK374 hb; replace BK377 := bb_ BK377 hb; replace HB := bs_ HB hb; clear hb hbox hg; have hnb67 := NB386_372.out; have hnc67 := NB372_386.out; have hnb68 := NB386_373.out; have hnc68 := NB373_386.out; have hnb69 := NB386_374.out; have hnc69 := NB374_386.out; have hnb70 := NB386_377.out; have hnc70 := NB377_386.out; have hcz71_0 : w66.cell? ⟨gb386, 0, none⟩ = some (.int .i64 0) := bc_ BK386 0; have hcz71_1 : w66.cell? ⟨gb386, 1, none⟩ = some (.int .i64 0) := bc_ BK386 1; have hcz71_2 : w66.cell? ⟨gb386, 2, none⟩ = some (.slice none 0 0) := bc_ BK386 2; have hcz71_3 : w66.cell? ⟨gb386, 3, none⟩ = some (.string (⟨#[]⟩ : ByteArray)) := bc_ BK386 3; have hfz71_0 := blk_frozen BK386.out 0; have hfz71_1 := blk_frozen BK386.out 1; have hfz71_2 := blk_frozen BK386.out 2; have hfz71_3 := blk_frozen BK386.out 3; obtain ⟨Ao72, co72, eo72⟩ := Kd.R_slice HO383.out; subst eo72; have hnb73 := NB374_372.out; have hnc73 := NB372_374.out; have hnb74 := NB374_373.out; have hnc74 := NB373_374.out; have hcz75_0 : w66.cell? ⟨gb374, 0, none⟩ = some (.int .i64 x375000_1) := bc_ BK374 0; have hcz75_1 : w66.cell? ⟨gb374, 1, none⟩ = some (.int .i64 x375001_1) := bc_ BK374 1; have hcz75_2 : w66.cell? ⟨gb374, 2, none⟩ = some (u375002) := bc_ BK374 2; have hcz75_3 : w66.cell? ⟨gb374, 3, none⟩ = some (.string x375003_1) := bc_ BK374 3; have hfz75_0 := blk_frozen BK374.out 0; have hfz75_1 := blk_frozen BK374.out 1; have hfz75_2 := blk_frozen BK374.out 2; have hfz75_3 := blk_frozen BK374.out 3))
           go_roundg k1
           case measure => have := HK1.out; omega
           case rel => exact ⟨(true), (wrap64 (x18_1 + 1)), (t379), (t380), (t381), (t384), (.slice Ao72 t381.length co72), (by first | rfl | (simp; done) | (simp [*]; done)), (by first | rfl | (simp; done) | (simp [*]; done)), H', ⟨by have := HK1.out; omega⟩, ⟨by (with_reducible repeat (first | apply Kd.R_alloc | apply Kd.R_drewN | apply Kd.R_drew)); exact Kd.R_mono (Kd.R_far (p := ⟨gb374, 3, none⟩) (Kd.R_far (p := ⟨gb374, 2, none⟩) (Kd.R_far (p := ⟨gb374, 1, none⟩) (Kd.R_far (p := ⟨gb374, 0, none⟩) (Kd.R_far (p := ⟨gb386, 3, none⟩) (Kd.R_far (p := ⟨gb386, 2, none⟩) (Kd.R_far (p := ⟨gb386, 1, none⟩) (Kd.R_far (p := ⟨gb386, 0, none⟩) (Kd.R_types (Kd.R_types HO383.out BK386.out (by decide)) BK374.out (by decide)) (fun _ hk => hk.1.2) (.int .i64 t379)) (fun _ hk => hk.1.2) (.int .i64 t380)) (fun _ hk => hk.1.2) (.slice Ao72 t381.length co72)) (fun _ hk => hk.1.2) (.string t384)) (fun _ hk => hk.2) (.int .i64 t379)) (fun _ hk => hk.2) (.int .i64 t380)) (fun _ hk => hk.2) (.slice Ao72 t381.length co72)) (fun _ hk => hk.2) (.string t384)) (fun _ hk => trivial)⟩, ⟨bf_⟩, ⟨bf_⟩, ⟨bu_⟩, ⟨bw_ HB⟩⟩
         ·rw [if_neg c19] at H
          have c19b0 : (t379 == t378) = false := beq_eq_false_iff_ne.mpr c19
          have c19b1 : (t379 != t378) = true := bne_iff_ne.mpr c19
          have H' := Aside0.mk H
          clear H
          have p376 : 0 ≤ (x18_1 : Int) := of_decide_eq_true (by first | (with_reducible assumption) | assumption)
          have q376 : x18_1 < (l0_0.length : Int) := of_decide_eq_true (by first | (with_reducible assumption) | assumption)
          obtain ⟨ad376, e376, hx376_0, hx376_1, hx376_2⟩ := at_T57 HR0_0.out x18_1 p376 q376
          cases e376
          replace hx376_0 := (HB.out.cell (World.block_lt_of_cell? w _ hx376_0)).trans hx376_0
          replace hx376_1 := (HB.out.cell (World.block_lt_of_cell? w _ hx376_1)).trans hx376_1
          replace hx376_2 := (HB.out.cell (World.block_lt_of_cell? w _ hx376_2)).trans hx376_2
          replace p376 := eq_true p376
          replace q376 := eq_true q376
          go_wp2_with (first | ((with_reducible refine gate_dst (N := 7) rfl ?_); refine box_event ?hg (N := 7) ?hd (cs := #[.string (⟨#[]⟩ : ByteArray), .string (⟨#[]⟩ : ByteArray), .int .i64 0]) (t := 57) ?hr ?_; (case hd => rfl); (case hg => rfl); (case hr => first | (go_simp; done) | (go_simp; rfl)); intro gb377 hg w76 hbox hb; have BK377 := mk_ (hbox); have GW377 : Aside0 (w.heap.size ≤ gb377) := bz_ hg; have GE377 : Aside0 (w.heap.size ≤ gb377) := bz_ hg; have NB372_377 : Aside0 (gb372 ≠ gb377) := bl_ BK372 hg; have NB377_372 : Aside0 (gb377 ≠ gb372) := bg_ BK372 hg; have NB373_377 : Aside0 (gb373 ≠ gb377) := bl_ BK373 hg; have NB377_373 : Aside0 (gb377 ≠ gb373) := bg_ BK373 hg; have NB374_377 : Aside0 (gb374 ≠ gb377) := bl_ BK374 hg; have NB377_374 : Aside0 (gb377 ≠ gb374) := bg_ BK374 hg; replace HO_375002 := rb_ HO_375002 hb; replace BK372 := bb_ BK372 hb; replace BK373 := bb_ BK373 hb; replace BK374 := bb_ BK374 hb; replace HB := bs_ HB hb; clear hb hbox hg; have hnb77 := NB377_372.out; have hnc77 := NB372_377.out; have hnb78 := NB377_373.out; have hnc78 := NB373_377.out; have hnb79 := NB377_374.out; have hnc79 := NB374_377.out; have hcz80_0 : w76.cell? ⟨gb377, 0, none⟩ = some (.string (⟨#[]⟩ : ByteArray)) := bc_ BK377 0; have hcz80_1 : w76.cell? ⟨gb377, 1, none⟩ = some (.string (⟨#[]⟩ : ByteArray)) := bc_ BK377 1; have hcz80_2 : w76.cell? ⟨gb377, 2, none⟩ = some (.int .i64 0) := bc_ BK377 2; have hfz80_0 := blk_frozen BK377.out 0; have hfz80_1 := blk_frozen BK377.out 1; have hfz80_2 := blk_frozen BK377.out 2) | ((with_reducible refine gate_callee (f := 35) rfl ?_); refine goesL_ (some 24) rfl rfl Tryz.func35 (by kernel_rfl) rfl #[.string ((rd_T57 l0_0 x18_1).f0), .string (⟨#[115]⟩ : ByteArray), .int .i64 1000000] rfl ga_ ?_; (with_reducible refine (impl_numberOf.calls ((rd_T57 l0_0 x18_1).f0) (⟨#[115]⟩ : ByteArray) 1000000 t378 _ (tab22 HT HB) A15.out).mono ?_); rintro e w81 ⟨rfl, hb⟩; refine ⟨_, rfl, ?_⟩; replace HO_375002 := mk_ (Kd.R_below (by (with_reducible repeat (first | apply Kd.R_alloc | apply Kd.R_drewN | apply Kd.R_drew)); exact (Kd.R_mono (Kd.R_far (p := ⟨gb377, 2, none⟩) (Kd.R_far (p := ⟨gb377, 1, none⟩) (Kd.R_far (p := ⟨gb377, 0, none⟩) (Kd.R_types HO_375002.out BK377.out (by decide)) (fun _ hk => hk.2) (.string ((rd_T57 l0_0 x18_1).f0))) (fun _ hk => hk.2) (.string ((rd_T57 l0_0 x18_1).f1))) (fun _ hk => hk.2) (.int .i64 ((rd_T57 l0_0 x18_1).f2))) (fun _ h_ => h_.1))) hb); replace BK372 := mk_ (blk_below (g := gb372) (o := .cells #[.slice (some ad376) l0_0.length c0_0] 36 (0, 0)) bf_ hb); replace BK373 := mk_ (blk_below (g := gb373) (o := .cells #[.int .i64 0, .int .i64 0, .slice none 0 0, .string (⟨#[]⟩ : ByteArray)] 47 (0, 0)) bf_ hb); replace BK374 := mk_ (blk_below (g := gb374) (o := .cells #[.int .i64 x375000_1, .int .i64 x375001_1, u375002, .string x375003_1] 47 (0, 0)) bf_ hb); replace BK377 := mk_ (blk_below (g := gb377) (o := .cells #[.string ((rd_T57 l0_0 x18_1).f0), .string ((rd_T57 l0_0 x18_1).f1), .int .i64 ((rd_T57 l0_0 x18_1).f2)] 57 (0, 0)) bu_ hb); replace HB := bs_ HB hb; (try clear hb); (try clear hk); have hcz82_0 : w81.cell? ⟨gb377, 0, none⟩ = some (.string ((rd_T57 l0_0 x18_1).f0)) := bc_ BK377 0; have hcz82_1 : w81.cell? ⟨gb377, 1, none⟩ = some (.string ((rd_T57 l0_0 x18_1).f1)) := bc_ BK377 1; have hcz82_2 : w81.cell? ⟨gb377, 2, none⟩ = some (.int .i64 ((rd_T57 l0_0 x18_1).f2)) := bc_ BK377 2; have hfz82_0 := blk_frozen BK377.out 0; have hfz82_1 := blk_frozen BK377.out 1; have hfz82_2 := blk_frozen BK377.out 2) | ((with_reducible refine gate_callee (f := 50) rfl ?_); refine goesL_ (some 28) rfl rfl Tryz.func50 (by kernel_rfl) rfl #[.string ((rd_T57 l0_0 x18_1).f1)] rfl ga_ ?_; (with_reducible refine (impl_ReadSnap.calls k1 ((rd_T57 l0_0 x18_1).f1) t379 t380 t381 t384 true _ A16.out).mono ?_); rintro e w83 ⟨v382, rfl, ho0, hb⟩; refine ⟨_, rfl, ?_⟩; have HO383 := mk_ (Kd.R_lower (Kd.R_new' ho0 (Kd.R_lt (rp_ HO_375002))) (below_size (bw_ HB))); replace HO_375002 := mk_ (Kd.R_elder' (rp_ HO_375002) (Kd.R_base ho0) hb); replace BK372 := bb_ BK372 hb; replace BK373 := bb_ BK373 hb; replace BK374 := bb_ BK374 hb; replace BK377 := bb_ BK377 hb; replace HB := bs_ HB hb; (try clear hb); (try clear hk); (try clear ho0)) | ((with_reducible refine gate_dst (N := 9) rfl ?_); refine box_event ?hg (N := 9) ?hd (cs := #[.int .i64 0, .int .i64 0, .slice none 0 0, .string (⟨#[]⟩ : ByteArray)]) (t := 47) ?hr ?_; (case hd => rfl); (case hg => rfl); (case hr => first | (go_simp; done) | (go_simp; rfl)); intro gb386 hg w84 hbox hb; have BK386 := mk_ (hbox); have GW386 : Aside0 (w.heap.size ≤ gb386) := bz_ hg; have GE386 : Aside0 (w.heap.size ≤ gb386) := bz_ hg; have NB372_386 : Aside0 (gb372 ≠ gb386) := bl_ BK372 hg; have NB386_372 : Aside0 (gb386 ≠ gb372) := bg_ BK372 hg; have NB373_386 : Aside0 (gb373 ≠ gb386) := bl_ BK373 hg; have NB386_373 : Aside0 (gb386 ≠ gb373) := bg_ BK373 hg; have NB374_386 : Aside0 (gb374 ≠ gb386) := bl_ BK374 hg; have NB386_374 : Aside0 (gb386 ≠ gb374) := bg_ BK374 hg; have NB377_386 : Aside0 (gb377 ≠ gb386) := bl_ BK377 hg; have NB386_377 : Aside0 (gb386 ≠ gb377) := bg_ BK377 hg; replace HO_375002 := rb_ HO_375002 hb; replace HO383 := rb_ HO383 hb; replace BK372 := bb_ BK372 hb; replace BK373 := bb_ BK373 hb; replace BK374 := bb_ BK374 hb; replace BK377 := bb_ BK377 hb; replace HB := bs_ HB hb; clear hb hbox hg; have hnb85 := NB386_372.out; have hnc85 := NB372_386.out; have hnb86 := NB386_373.out; have hnc86 := NB373_386.out; have hnb87 := NB386_374.out; have hnc87 := NB374_386.out; have hnb88 := NB386_377.out; have hnc88 := NB377_386.out; have hcz89_0 : w84.cell? ⟨gb386, 0, none⟩ = some (.int .i64 0) := bc_ BK386 0; have hcz89_1 : w84.cell? ⟨gb386, 1, none⟩ = some (.int .i64 0) := bc_ BK386 1; have hcz89_2 : w84.cell? ⟨gb386, 2, none⟩ = some (.slice none 0 0) := bc_ BK386 2; have hcz89_3 : w84.cell? ⟨gb386, 3, none⟩ = some (.string (⟨#[]⟩ : ByteArray)) := bc_ BK386 3; have hfz89_0 := blk_frozen BK386.out 0; have hfz89_1 := blk_frozen BK386.out 1; have hfz89_2 := blk_frozen BK386.out 2; have hfz89_3 := blk_frozen BK386.out 3; obtain ⟨Ao90, co90, eo90⟩ := Kd.R_slice HO383.out; subst eo90))
          go_roundg k1
          case measure => have := HK1.out; omega
          case rel => exact ⟨(x5_1), (wrap64 (x18_1 + 1)), (x375000_1), (x375001_1), (x375002_1), (x375003_1), (u375002), (by first | rfl | (simp; done) | (simp [*]; done)), (by first | rfl | (simp; done) | (simp [*]; done)), H', ⟨by have := HK1.out; omega⟩, ⟨by (with_reducible repeat (first | apply Kd.R_alloc | apply Kd.R_drewN | apply Kd.R_drew)); exact Kd.R_mono (Kd.R_far (p := ⟨gb386, 3, none⟩) (Kd.R_far (p := ⟨gb386, 2, none⟩) (Kd.R_far (p := ⟨gb386, 1, none⟩) (Kd.R_far (p := ⟨gb386, 0, none⟩) (Kd.R_types HO_375002.out BK386.out (by decide)) (fun _ hk => hk.2) (.int .i64 t379)) (fun _ hk => hk.2) (.int .i64 t380)) (fun _ hk => hk.2) (.slice Ao90 t381.length co90)) (fun _ hk => hk.2) (.string t384)) (fun _ hk => trivial)⟩, ⟨bf_⟩, ⟨bf_⟩, ⟨bf_⟩, ⟨bw_ HB⟩⟩
        ·replace c18 := Bool.eq_false_iff.mpr c18
         subst c18
         have H1 : (impl_NewestSnap.l0 k1 x5_1 l0_0 (l0_0.length : Int) (wrap64 (x18_1 + 1)) x375000_1 x375001_1 x375002_1 x375003_1) = some (r1, r2, r3, r4, r5) := by rw [if_neg (show ¬ (false = true) by decide)] at H; exact H
         clear H
         have H := H1
         clear H1
         have H' := Aside0.mk H
         clear H
         have p376 : 0 ≤ (x18_1 : Int) := of_decide_eq_true (by first | (with_reducible assumption) | assumption)
         have q376 : x18_1 < (l0_0.length : Int) := of_decide_eq_true (by first | (with_reducible assumption) | assumption)
         obtain ⟨ad376, e376, hx376_0, hx376_1, hx376_2⟩ := at_T57 HR0_0.out x18_1 p376 q376
         cases e376
         replace hx376_0 := (HB.out.cell (World.block_lt_of_cell? w _ hx376_0)).trans hx376_0
         replace hx376_1 := (HB.out.cell (World.block_lt_of_cell? w _ hx376_1)).trans hx376_1
         replace hx376_2 := (HB.out.cell (World.block_lt_of_cell? w _ hx376_2)).trans hx376_2
         replace p376 := eq_true p376
         replace q376 := eq_true q376
         go_wp2_with (first | ((with_reducible refine gate_dst (N := 7) rfl ?_); refine box_event ?hg (N := 7) ?hd (cs := #[.string (⟨#[]⟩ : ByteArray), .string (⟨#[]⟩ : ByteArray), .int .i64 0]) (t := 57) ?hr ?_; (case hd => rfl); (case hg => rfl); (case hr => first | (go_simp; done) | (go_simp; rfl)); intro gb377 hg w91 hbox hb; have BK377 := mk_ (hbox); have GW377 : Aside0 (w.heap.size ≤ gb377) := bz_ hg; have GE377 : Aside0 (w.heap.size ≤ gb377) := bz_ hg; have NB372_377 : Aside0 (gb372 ≠ gb377) := bl_ BK372 hg; have NB377_372 : Aside0 (gb377 ≠ gb372) := bg_ BK372 hg; have NB373_377 : Aside0 (gb373 ≠ gb377) := bl_ BK373 hg; have NB377_373 : Aside0 (gb377 ≠ gb373) := bg_ BK373 hg; have NB374_377 : Aside0 (gb374 ≠ gb377) := bl_ BK374 hg; have NB377_374 : Aside0 (gb377 ≠ gb374) := bg_ BK374 hg; replace HO_375002 := rb_ HO_375002 hb; replace BK372 := bb_ BK372 hb; replace BK373 := bb_ BK373 hb; replace BK374 := bb_ BK374 hb; replace HB := bs_ HB hb; clear hb hbox hg; have hnb92 := NB377_372.out; have hnc92 := NB372_377.out; have hnb93 := NB377_373.out; have hnc93 := NB373_377.out; have hnb94 := NB377_374.out; have hnc94 := NB374_377.out; have hcz95_0 : w91.cell? ⟨gb377, 0, none⟩ = some (.string (⟨#[]⟩ : ByteArray)) := bc_ BK377 0; have hcz95_1 : w91.cell? ⟨gb377, 1, none⟩ = some (.string (⟨#[]⟩ : ByteArray)) := bc_ BK377 1; have hcz95_2 : w91.cell? ⟨gb377, 2, none⟩ = some (.int .i64 0) := bc_ BK377 2; have hfz95_0 := blk_frozen BK377.out 0; have hfz95_1 := blk_frozen BK377.out 1; have hfz95_2 := blk_frozen BK377.out 2) | ((with_reducible refine gate_callee (f := 35) rfl ?_); refine goesL_ (some 24) rfl rfl Tryz.func35 (by kernel_rfl) rfl #[.string ((rd_T57 l0_0 x18_1).f0), .string (⟨#[115]⟩ : ByteArray), .int .i64 1000000] rfl ga_ ?_; (with_reducible refine (impl_numberOf.calls ((rd_T57 l0_0 x18_1).f0) (⟨#[115]⟩ : ByteArray) 1000000 t378 _ (tab22 HT HB) A15.out).mono ?_); rintro e w96 ⟨rfl, hb⟩; refine ⟨_, rfl, ?_⟩; replace HO_375002 := mk_ (Kd.R_below (by (with_reducible repeat (first | apply Kd.R_alloc | apply Kd.R_drewN | apply Kd.R_drew)); exact (Kd.R_mono (Kd.R_far (p := ⟨gb377, 2, none⟩) (Kd.R_far (p := ⟨gb377, 1, none⟩) (Kd.R_far (p := ⟨gb377, 0, none⟩) (Kd.R_types HO_375002.out BK377.out (by decide)) (fun _ hk => hk.2) (.string ((rd_T57 l0_0 x18_1).f0))) (fun _ hk => hk.2) (.string ((rd_T57 l0_0 x18_1).f1))) (fun _ hk => hk.2) (.int .i64 ((rd_T57 l0_0 x18_1).f2))) (fun _ h_ => h_.1))) hb); replace BK372 := mk_ (blk_below (g := gb372) (o := .cells #[.slice (some ad376) l0_0.length c0_0] 36 (0, 0)) bf_ hb); replace BK373 := mk_ (blk_below (g := gb373) (o := .cells #[.int .i64 0, .int .i64 0, .slice none 0 0, .string (⟨#[]⟩ : ByteArray)] 47 (0, 0)) bf_ hb); replace BK374 := mk_ (blk_below (g := gb374) (o := .cells #[.int .i64 x375000_1, .int .i64 x375001_1, u375002, .string x375003_1] 47 (0, 0)) bf_ hb); replace BK377 := mk_ (blk_below (g := gb377) (o := .cells #[.string ((rd_T57 l0_0 x18_1).f0), .string ((rd_T57 l0_0 x18_1).f1), .int .i64 ((rd_T57 l0_0 x18_1).f2)] 57 (0, 0)) bu_ hb); replace HB := bs_ HB hb; (try clear hb); (try clear hk); have hcz97_0 : w96.cell? ⟨gb377, 0, none⟩ = some (.string ((rd_T57 l0_0 x18_1).f0)) := bc_ BK377 0; have hcz97_1 : w96.cell? ⟨gb377, 1, none⟩ = some (.string ((rd_T57 l0_0 x18_1).f1)) := bc_ BK377 1; have hcz97_2 : w96.cell? ⟨gb377, 2, none⟩ = some (.int .i64 ((rd_T57 l0_0 x18_1).f2)) := bc_ BK377 2; have hfz97_0 := blk_frozen BK377.out 0; have hfz97_1 := blk_frozen BK377.out 1; have hfz97_2 := blk_frozen BK377.out 2) | ((with_reducible refine gate_callee (f := 50) rfl ?_); refine goesL_ (some 28) rfl rfl Tryz.func50 (by kernel_rfl) rfl #[.string ((rd_T57 l0_0 x18_1).f1)] rfl ga_ ?_; (with_reducible refine (impl_ReadSnap.calls k1 ((rd_T57 l0_0 x18_1).f1) t379 t380 t381 t384 false _ A16.out).mono ?_); rintro e w98 ⟨v382, rfl, ho0, hb⟩; refine ⟨_, rfl, ?_⟩; have HO383 := mk_ (Kd.R_lower (Kd.R_new' ho0 (Kd.R_lt (rp_ HO_375002))) (below_size (bw_ HB))); replace HO_375002 := mk_ (Kd.R_elder' (rp_ HO_375002) (Kd.R_base ho0) hb); replace BK372 := bb_ BK372 hb; replace BK373 := bb_ BK373 hb; replace BK374 := bb_ BK374 hb; replace BK377 := bb_ BK377 hb; replace HB := bs_ HB hb; (try clear hb); (try clear hk); (try clear ho0)) | ((with_reducible refine gate_dst (N := 9) rfl ?_); refine box_event ?hg (N := 9) ?hd (cs := #[.int .i64 0, .int .i64 0, .slice none 0 0, .string (⟨#[]⟩ : ByteArray)]) (t := 47) ?hr ?_; (case hd => rfl); (case hg => rfl); (case hr => first | (go_simp; done) | (go_simp; rfl)); intro gb386 hg w99 hbox hb; have BK386 := mk_ (hbox); have GW386 : Aside0 (w.heap.size ≤ gb386) := bz_ hg; have GE386 : Aside0 (w.heap.size ≤ gb386) := bz_ hg; have NB372_386 : Aside0 (gb372 ≠ gb386) := bl_ BK372 hg; have NB386_372 : Aside0 (gb386 ≠ gb372) := bg_ BK372 hg; have NB373_386 : Aside0 (gb373 ≠ gb386) := bl_ BK373 hg; have NB386_373 : Aside0 (gb386 ≠ gb373) := bg_ BK373 hg; have NB374_386 : Aside0 (gb374 ≠ gb386) := bl_ BK374 hg; have NB386_374 : Aside0 (gb386 ≠ gb374) := bg_ BK374 hg; have NB377_386 : Aside0 (gb377 ≠ gb386) := bl_ BK377 hg; have NB386_377 : Aside0 (gb386 ≠ gb377) := bg_ BK377 hg; replace HO_375002 := rb_ HO_375002 hb; replace HO383 := rb_ HO383 hb; replace BK372 := bb_ BK372 hb; replace BK373 := bb_ BK373 hb; replace BK374 := bb_ BK374 hb; replace BK377 := bb_ BK377 hb; replace HB := bs_ HB hb; clear hb hbox hg; have hnb100 := NB386_372.out; have hnc100 := NB372_386.out; have hnb101 := NB386_373.out; have hnc101 := NB373_386.out; have hnb102 := NB386_374.out; have hnc102 := NB374_386.out; have hnb103 := NB386_377.out; have hnc103 := NB377_386.out; have hcz104_0 : w99.cell? ⟨gb386, 0, none⟩ = some (.int .i64 0) := bc_ BK386 0; have hcz104_1 : w99.cell? ⟨gb386, 1, none⟩ = some (.int .i64 0) := bc_ BK386 1; have hcz104_2 : w99.cell? ⟨gb386, 2, none⟩ = some (.slice none 0 0) := bc_ BK386 2; have hcz104_3 : w99.cell? ⟨gb386, 3, none⟩ = some (.string (⟨#[]⟩ : ByteArray)) := bc_ BK386 3; have hfz104_0 := blk_frozen BK386.out 0; have hfz104_1 := blk_frozen BK386.out 1; have hfz104_2 := blk_frozen BK386.out 2; have hfz104_3 := blk_frozen BK386.out 3; obtain ⟨Ao105, co105, eo105⟩ := Kd.R_slice HO383.out; subst eo105))
         go_roundg k1
         case measure => have := HK1.out; omega
         case rel => exact ⟨(x5_1), (wrap64 (x18_1 + 1)), (x375000_1), (x375001_1), (x375002_1), (x375003_1), (u375002), (by first | rfl | (simp; done) | (simp [*]; done)), (by first | rfl | (simp; done) | (simp [*]; done)), H', ⟨by have := HK1.out; omega⟩, ⟨by (with_reducible repeat (first | apply Kd.R_alloc | apply Kd.R_drewN | apply Kd.R_drew)); exact Kd.R_mono (Kd.R_far (p := ⟨gb386, 3, none⟩) (Kd.R_far (p := ⟨gb386, 2, none⟩) (Kd.R_far (p := ⟨gb386, 1, none⟩) (Kd.R_far (p := ⟨gb386, 0, none⟩) (Kd.R_types HO_375002.out BK386.out (by decide)) (fun _ hk => hk.2) (.int .i64 t379)) (fun _ hk => hk.2) (.int .i64 t380)) (fun _ hk => hk.2) (.slice Ao105 t381.length co105)) (fun _ hk => hk.2) (.string t384)) (fun _ hk => trivial)⟩, ⟨bf_⟩, ⟨bf_⟩, ⟨bf_⟩, ⟨bw_ HB⟩⟩
       ·rw [if_neg c17] at H
        have c17b0 : decide (0 ≤ t378) = false := decide_eq_false c17
        clear c17
        have H' := Aside0.mk H
        clear H
        have p376 : 0 ≤ (x18_1 : Int) := of_decide_eq_true (by first | (with_reducible assumption) | assumption)
        have q376 : x18_1 < (l0_0.length : Int) := of_decide_eq_true (by first | (with_reducible assumption) | assumption)
        obtain ⟨ad376, e376, hx376_0, hx376_1, hx376_2⟩ := at_T57 HR0_0.out x18_1 p376 q376
        cases e376
        replace hx376_0 := (HB.out.cell (World.block_lt_of_cell? w _ hx376_0)).trans hx376_0
        replace hx376_1 := (HB.out.cell (World.block_lt_of_cell? w _ hx376_1)).trans hx376_1
        replace hx376_2 := (HB.out.cell (World.block_lt_of_cell? w _ hx376_2)).trans hx376_2
        replace p376 := eq_true p376
        replace q376 := eq_true q376
        go_wp2_with (first | ((with_reducible refine gate_dst (N := 7) rfl ?_); refine box_event ?hg (N := 7) ?hd (cs := #[.string (⟨#[]⟩ : ByteArray), .string (⟨#[]⟩ : ByteArray), .int .i64 0]) (t := 57) ?hr ?_; (case hd => rfl); (case hg => rfl); (case hr => first | (go_simp; done) | (go_simp; rfl)); intro gb377 hg w106 hbox hb; have BK377 := mk_ (hbox); have GW377 : Aside0 (w.heap.size ≤ gb377) := bz_ hg; have GE377 : Aside0 (w.heap.size ≤ gb377) := bz_ hg; have NB372_377 : Aside0 (gb372 ≠ gb377) := bl_ BK372 hg; have NB377_372 : Aside0 (gb377 ≠ gb372) := bg_ BK372 hg; have NB373_377 : Aside0 (gb373 ≠ gb377) := bl_ BK373 hg; have NB377_373 : Aside0 (gb377 ≠ gb373) := bg_ BK373 hg; have NB374_377 : Aside0 (gb374 ≠ gb377) := bl_ BK374 hg; have NB377_374 : Aside0 (gb377 ≠ gb374) := bg_ BK374 hg; replace HO_375002 := rb_ HO_375002 hb; replace BK372 := bb_ BK372 hb; replace BK373 := bb_ BK373 hb; replace BK374 := bb_ BK374 hb; replace HB := bs_ HB hb; clear hb hbox hg; have hnb107 := NB377_372.out; have hnc107 := NB372_377.out; have hnb108 := NB377_373.out; have hnc108 := NB373_377.out; have hnb109 := NB377_374.out; have hnc109 := NB374_377.out; have hcz110_0 : w106.cell? ⟨gb377, 0, none⟩ = some (.string (⟨#[]⟩ : ByteArray)) := bc_ BK377 0; have hcz110_1 : w106.cell? ⟨gb377, 1, none⟩ = some (.string (⟨#[]⟩ : ByteArray)) := bc_ BK377 1; have hcz110_2 : w106.cell? ⟨gb377, 2, none⟩ = some (.int .i64 0) := bc_ BK377 2; have hfz110_0 := blk_frozen BK377.out 0; have hfz110_1 := blk_frozen BK377.out 1; have hfz110_2 := blk_frozen BK377.out 2) | ((with_reducible refine gate_callee (f := 35) rfl ?_); refine goesL_ (some 24) rfl rfl Tryz.func35 (by kernel_rfl) rfl #[.string ((rd_T57 l0_0 x18_1).f0), .string (⟨#[115]⟩ : ByteArray), .int .i64 1000000] rfl ga_ ?_; (with_reducible refine (impl_numberOf.calls ((rd_T57 l0_0 x18_1).f0) (⟨#[115]⟩ : ByteArray) 1000000 t378 _ (tab22 HT HB) A15.out).mono ?_); rintro e w111 ⟨rfl, hb⟩; refine ⟨_, rfl, ?_⟩; replace HO_375002 := mk_ (Kd.R_below (by (with_reducible repeat (first | apply Kd.R_alloc | apply Kd.R_drewN | apply Kd.R_drew)); exact (Kd.R_mono (Kd.R_far (p := ⟨gb377, 2, none⟩) (Kd.R_far (p := ⟨gb377, 1, none⟩) (Kd.R_far (p := ⟨gb377, 0, none⟩) (Kd.R_types HO_375002.out BK377.out (by decide)) (fun _ hk => hk.2) (.string ((rd_T57 l0_0 x18_1).f0))) (fun _ hk => hk.2) (.string ((rd_T57 l0_0 x18_1).f1))) (fun _ hk => hk.2) (.int .i64 ((rd_T57 l0_0 x18_1).f2))) (fun _ h_ => h_.1))) hb); replace BK372 := mk_ (blk_below (g := gb372) (o := .cells #[.slice (some ad376) l0_0.length c0_0] 36 (0, 0)) bf_ hb); replace BK373 := mk_ (blk_below (g := gb373) (o := .cells #[.int .i64 0, .int .i64 0, .slice none 0 0, .string (⟨#[]⟩ : ByteArray)] 47 (0, 0)) bf_ hb); replace BK374 := mk_ (blk_below (g := gb374) (o := .cells #[.int .i64 x375000_1, .int .i64 x375001_1, u375002, .string x375003_1] 47 (0, 0)) bf_ hb); replace BK377 := mk_ (blk_below (g := gb377) (o := .cells #[.string ((rd_T57 l0_0 x18_1).f0), .string ((rd_T57 l0_0 x18_1).f1), .int .i64 ((rd_T57 l0_0 x18_1).f2)] 57 (0, 0)) bu_ hb); replace HB := bs_ HB hb; (try clear hb); (try clear hk); have hcz112_0 : w111.cell? ⟨gb377, 0, none⟩ = some (.string ((rd_T57 l0_0 x18_1).f0)) := bc_ BK377 0; have hcz112_1 : w111.cell? ⟨gb377, 1, none⟩ = some (.string ((rd_T57 l0_0 x18_1).f1)) := bc_ BK377 1; have hcz112_2 : w111.cell? ⟨gb377, 2, none⟩ = some (.int .i64 ((rd_T57 l0_0 x18_1).f2)) := bc_ BK377 2; have hfz112_0 := blk_frozen BK377.out 0; have hfz112_1 := blk_frozen BK377.out 1; have hfz112_2 := blk_frozen BK377.out 2) | ((with_reducible refine gate_callee (f := 50) rfl ?_); refine goesL_ (some 28) rfl rfl Tryz.func50 (by kernel_rfl) rfl #[.string ((rd_T57 l0_0 x18_1).f1)] rfl ga_ ?_; (with_reducible refine (impl_ReadSnap.calls k1 ((rd_T57 l0_0 x18_1).f1) t379 t380 t381 t384 t385 _ A16.out).mono ?_); rintro e w113 ⟨v382, rfl, ho0, hb⟩; refine ⟨_, rfl, ?_⟩; have HO383 := mk_ (Kd.R_lower (Kd.R_new' ho0 (Kd.R_lt (rp_ HO_375002))) (below_size (bw_ HB))); replace HO_375002 := mk_ (Kd.R_elder' (rp_ HO_375002) (Kd.R_base ho0) hb); replace BK372 := bb_ BK372 hb; replace BK373 := bb_ BK373 hb; replace BK374 := bb_ BK374 hb; replace BK377 := bb_ BK377 hb; replace HB := bs_ HB hb; (try clear hb); (try clear hk); (try clear ho0)) | ((with_reducible refine gate_dst (N := 9) rfl ?_); refine box_event ?hg (N := 9) ?hd (cs := #[.int .i64 0, .int .i64 0, .slice none 0 0, .string (⟨#[]⟩ : ByteArray)]) (t := 47) ?hr ?_; (case hd => rfl); (case hg => rfl); (case hr => first | (go_simp; done) | (go_simp; rfl)); intro gb386 hg w114 hbox hb; have BK386 := mk_ (hbox); have GW386 : Aside0 (w.heap.size ≤ gb386) := bz_ hg; have GE386 : Aside0 (w.heap.size ≤ gb386) := bz_ hg; have NB372_386 : Aside0 (gb372 ≠ gb386) := bl_ BK372 hg; have NB386_372 : Aside0 (gb386 ≠ gb372) := bg_ BK372 hg; have NB373_386 : Aside0 (gb373 ≠ gb386) := bl_ BK373 hg; have NB386_373 : Aside0 (gb386 ≠ gb373) := bg_ BK373 hg; have NB374_386 : Aside0 (gb374 ≠ gb386) := bl_ BK374 hg; have NB386_374 : Aside0 (gb386 ≠ gb374) := bg_ BK374 hg; have NB377_386 : Aside0 (gb377 ≠ gb386) := bl_ BK377 hg; have NB386_377 : Aside0 (gb386 ≠ gb377) := bg_ BK377 hg; replace HO_375002 := rb_ HO_375002 hb; replace HO383 := rb_ HO383 hb; replace BK372 := bb_ BK372 hb; replace BK373 := bb_ BK373 hb; replace BK374 := bb_ BK374 hb; replace BK377 := bb_ BK377 hb; replace HB := bs_ HB hb; clear hb hbox hg; have hnb115 := NB386_372.out; have hnc115 := NB372_386.out; have hnb116 := NB386_373.out; have hnc116 := NB373_386.out; have hnb117 := NB386_374.out; have hnc117 := NB374_386.out; have hnb118 := NB386_377.out; have hnc118 := NB377_386.out; have hcz119_0 : w114.cell? ⟨gb386, 0, none⟩ = some (.int .i64 0) := bc_ BK386 0; have hcz119_1 : w114.cell? ⟨gb386, 1, none⟩ = some (.int .i64 0) := bc_ BK386 1; have hcz119_2 : w114.cell? ⟨gb386, 2, none⟩ = some (.slice none 0 0) := bc_ BK386 2; have hcz119_3 : w114.cell? ⟨gb386, 3, none⟩ = some (.string (⟨#[]⟩ : ByteArray)) := bc_ BK386 3; have hfz119_0 := blk_frozen BK386.out 0; have hfz119_1 := blk_frozen BK386.out 1; have hfz119_2 := blk_frozen BK386.out 2; have hfz119_3 := blk_frozen BK386.out 3; obtain ⟨Ao120, co120, eo120⟩ := Kd.R_slice HO383.out; subst eo120))
        go_roundg k1
        case measure => have := HK1.out; omega
        case rel => exact ⟨(x5_1), (wrap64 (x18_1 + 1)), (x375000_1), (x375001_1), (x375002_1), (x375003_1), (u375002), (by first | rfl | (simp; done) | (simp [*]; done)), (by first | rfl | (simp; done) | (simp [*]; done)), H', ⟨by have := HK1.out; omega⟩, ⟨by (with_reducible repeat (first | apply Kd.R_alloc | apply Kd.R_drewN | apply Kd.R_drew)); exact Kd.R_mono (Kd.R_far (p := ⟨gb386, 3, none⟩) (Kd.R_far (p := ⟨gb386, 2, none⟩) (Kd.R_far (p := ⟨gb386, 1, none⟩) (Kd.R_far (p := ⟨gb386, 0, none⟩) (Kd.R_types HO_375002.out BK386.out (by decide)) (fun _ hk => hk.2) (.int .i64 t379)) (fun _ hk => hk.2) (.int .i64 t380)) (fun _ hk => hk.2) (.slice Ao120 t381.length co120)) (fun _ hk => hk.2) (.string t384)) (fun _ hk => trivial)⟩, ⟨bf_⟩, ⟨bf_⟩, ⟨bf_⟩, ⟨bw_ HB⟩⟩
      ·rw [if_neg c14] at H
       exact absurd H (by simp)
     ·rw [if_neg c13] at H
      exact absurd H (by simp)
    ·rw [if_neg c12] at H
     have c12b0 : decide (x18_1 < (l0_0.length : Int)) = false := decide_eq_false c12
     clear c12
     simp only [Option.some.injEq, Prod.mk.injEq] at H
     obtain ⟨rfl, rfl, rfl, rfl, rfl⟩ := H
     have hnb121 := NB374_372.out
     have hnc121 := NB372_374.out
     have hnb122 := NB374_373.out
     have hnc122 := NB373_374.out
     have hcz123_0 : wr.cell? ⟨gb374, 0, none⟩ = some (.int .i64 x375000_1) := bc_ BK374 0
     have hcz123_1 : wr.cell? ⟨gb374, 1, none⟩ = some (.int .i64 x375001_1) := bc_ BK374 1
     have hcz123_2 : wr.cell? ⟨gb374, 2, none⟩ = some (u375002) := bc_ BK374 2
     have hcz123_3 : wr.cell? ⟨gb374, 3, none⟩ = some (.string x375003_1) := bc_ BK374 3
     have hfz123_0 := blk_frozen BK374.out 0
     have hfz123_1 := blk_frozen BK374.out 1
     have hfz123_2 := blk_frozen BK374.out 2
     have hfz123_3 := blk_frozen BK374.out 3
     have hnb124 := NB373_372.out
     have hnc124 := NB372_373.out
     have hcz125_0 : wr.cell? ⟨gb373, 0, none⟩ = some (.int .i64 0) := bc_ BK373 0
     have hcz125_1 : wr.cell? ⟨gb373, 1, none⟩ = some (.int .i64 0) := bc_ BK373 1
     have hcz125_2 : wr.cell? ⟨gb373, 2, none⟩ = some (.slice none 0 0) := bc_ BK373 2
     have hcz125_3 : wr.cell? ⟨gb373, 3, none⟩ = some (.string (⟨#[]⟩ : ByteArray)) := bc_ BK373 3
     have hfz125_0 := blk_frozen BK373.out 0
     have hfz125_1 := blk_frozen BK373.out 1
     have hfz125_2 := blk_frozen BK373.out 2
     have hfz125_3 := blk_frozen BK373.out 3
     obtain ⟨Ao126, co126, eo126⟩ := Kd.R_slice HO_375002.out
     subst eo126
     go_wp2
     refine bodyPost_ret (results_ct rfl _ _ gb373 47 #[.int .i64 x375000_1, .int .i64 x375001_1, .slice Ao126 x375002_1.length co126, .string x375003_1] (0, 0) _ rfl bu_ Tryz.underlying47 rfl (by kernel_rfl)) rfl ?_
     exact ⟨_, er_, by (with_reducible repeat (first | apply Kd.R_alloc | apply Kd.R_drewN | apply Kd.R_drew)); exact Kd.R_mono (Kd.R_far (p := ⟨gb373, 3, none⟩) (Kd.R_far (p := ⟨gb373, 2, none⟩) (Kd.R_far (p := ⟨gb373, 1, none⟩) (Kd.R_far (p := ⟨gb373, 0, none⟩) (Kd.R_types HO_375002.out BK373.out (by decide)) (fun _ hk => hk.2) (.int .i64 x375000_1)) (fun _ hk => hk.2) (.int .i64 x375001_1)) (fun _ hk => hk.2) (.slice Ao126 x375002_1.length co126)) (fun _ hk => hk.2) (.string x375003_1)) (fun _ hk => trivial), bw_ HB⟩
 ·replace c3 := Bool.eq_false_iff.mpr c3
  subst c3
  have H1 : (some (0, 0, ([] : List Int), (⟨#[]⟩ : ByteArray), false)) = some (r1, r2, r3, r4, r5) := by rw [if_neg (show ¬ (false = true) by decide)] at H; exact H
  clear H
  have H := H1
  clear H1
  simp only [Option.some.injEq, Prod.mk.injEq] at H
  obtain ⟨rfl, rfl, rfl, rfl, rfl⟩ := H
  go_enter Tryz.func19, Tryz.ntmps19
  go_wp2_with (first | ((with_reducible refine gate_dst (N := 1) rfl ?_); refine box_event ?hg (N := 1) ?hd (cs := #[.slice A0_0 l0_0.length c0_0]) (t := 36) ?hr ?_; (case hd => rfl); (case hg => rfl); (case hr => first | (go_simp; done) | (go_simp; rfl)); intro gb372 hg w127 hbox hb; have BK372 := mk_ (hbox); have GW372 : Aside0 (w.heap.size ≤ gb372) := bz_ hg; have GE372 : Aside0 (w.heap.size ≤ gb372) := bz_ hg; replace HB := bs_ HB hb; clear hb hbox hg) | ((with_reducible refine gate_dst (N := 2) rfl ?_); refine box_event ?hg (N := 2) ?hd (cs := #[.int .i64 0, .int .i64 0, .slice none 0 0, .string (⟨#[]⟩ : ByteArray)]) (t := 47) ?hr ?_; (case hd => rfl); (case hg => rfl); (case hr => first | (go_simp; done) | (go_simp; rfl)); intro gb373 hg w128 hbox hb; have BK373 := mk_ (hbox); have GW373 : Aside0 (w.heap.size ≤ gb373) := bz_ hg; have GE373 : Aside0 (w.heap.size ≤ gb373) := bz_ hg; have NB372_373 : Aside0 (gb372 ≠ gb373) := bl_ BK372 hg; have NB373_372 : Aside0 (gb373 ≠ gb372) := bg_ BK372 hg; replace BK372 := bb_ BK372 hb; replace HB := bs_ HB hb; clear hb hbox hg) | ((with_reducible refine gate_dst (N := 4) rfl ?_); refine box_event ?hg (N := 4) ?hd (cs := #[.int .i64 0, .int .i64 0, .slice none 0 0, .string (⟨#[]⟩ : ByteArray)]) (t := 47) ?hr ?_; (case hd => rfl); (case hg => rfl); (case hr => first | (go_simp; done) | (go_simp; rfl)); intro gb374 hg w129 hbox hb; have BK374 := mk_ (hbox); have GW374 : Aside0 (w.heap.size ≤ gb374) := bz_ hg; have GE374 : Aside0 (w.heap.size ≤ gb374) := bz_ hg; have NB372_374 : Aside0 (gb372 ≠ gb374) := bl_ BK372 hg; have NB374_372 : Aside0 (gb374 ≠ gb372) := bg_ BK372 hg; have NB373_374 : Aside0 (gb373 ≠ gb374) := bl_ BK373 hg; have NB374_373 : Aside0 (gb374 ≠ gb373) := bg_ BK373 hg; replace BK372 := bb_ BK372 hb; replace BK373 := bb_ BK373 hb; replace HB := bs_ HB hb; clear hb hbox hg; have hnb130 := NB372_373.out; have hnc130 := NB373_372.out; have hnb131 := NB372_374.out; have hnc131 := NB374_372.out; have hcz132_0 : w129.cell? ⟨gb372, 0, none⟩ = some (.slice A0_0 l0_0.length c0_0) := bc_ BK372 0; have hfz132_0 := blk_frozen BK372.out 0) | ((with_reducible refine gate_callee (f := 36) rfl ?_); refine goesL_ (some 12) rfl rfl Tryz.func36 (by kernel_rfl) rfl #[.agg #[.slice A0_0 l0_0.length c0_0]] rfl ga_ ?_; (with_reducible refine (impl_DiskOk.calls k _ _ l0_0 false _ ?side1 ?side2 A2.out).mono ?_); (case side1 => repeat (first | exact (Kd.C_below HR0_0.out HB.out) | (with_reducible refine Kd.C_alloc ?_ _) | (with_reducible refine Kd.C_drewN ?_ _) | (with_reducible refine Kd.C_drew ?_))); (case side2 => exact HC0_0.out); rintro e w133 ⟨rfl, hb⟩; refine ⟨_, rfl, ?_⟩; replace BK372 := bb_ BK372 hb; replace BK373 := bb_ BK373 hb; replace BK374 := bb_ BK374 hb; replace HB := bs_ HB hb; (try clear hb); have hnb134 := NB374_373.out; have hnc134 := NB373_374.out; have hcz135_0 : w133.cell? ⟨gb374, 0, none⟩ = some (.int .i64 0) := bc_ BK374 0; have hcz135_1 : w133.cell? ⟨gb374, 1, none⟩ = some (.int .i64 0) := bc_ BK374 1; have hcz135_2 : w133.cell? ⟨gb374, 2, none⟩ = some (.slice none 0 0) := bc_ BK374 2; have hcz135_3 : w133.cell? ⟨gb374, 3, none⟩ = some (.string (⟨#[]⟩ : ByteArray)) := bc_ BK374 3; have hfz135_0 := blk_frozen BK374.out 0; have hfz135_1 := blk_frozen BK374.out 1; have hfz135_2 := blk_frozen BK374.out 2; have hfz135_3 := blk_frozen BK374.out 3; have hcz136_0 : w133.cell? ⟨gb373, 0, none⟩ = some (.int .i64 0) := bc_ BK373 0; have hcz136_1 : w133.cell? ⟨gb373, 1, none⟩ = some (.int .i64 0) := bc_ BK373 1; have hcz136_2 : w133.cell? ⟨gb373, 2, none⟩ = some (.slice none 0 0) := bc_ BK373 2; have hcz136_3 : w133.cell? ⟨gb373, 3, none⟩ = some (.string (⟨#[]⟩ : ByteArray)) := bc_ BK373 3; have hfz136_0 := blk_frozen BK373.out 0; have hfz136_1 := blk_frozen BK373.out 1; have hfz136_2 := blk_frozen BK373.out 2; have hfz136_3 := blk_frozen BK373.out 3))
  refine bodyPost_ret (results_ct rfl _ _ gb373 47 #[.int .i64 0, .int .i64 0, .slice none 0 0, .string (⟨#[]⟩ : ByteArray)] (0, 0) _ rfl bu_ Tryz.underlying47 rfl (by kernel_rfl)) rfl ?_
  exact ⟨_, er_, by first | exact Kd.R_nil _ _ _ _ _ | exact Kd.N_nil _ _ _ _ _ | exact Kd.V_nil _ _ _ _ _ | exact Kd.Q_nil _ _ _ _ _ | exact Kd.S_nil _ _ _ _ _, bw_ HB⟩

/-! ### laws_eqIntS: function 51 -/
def laws_eqIntS.l0 : Nat → List Int → List Int → Int → Option (Bool)
 | 0, _, _, _ => none
 | k + 1, x0, x1, x5 => if x5 < (x0.length : Int) then (if 0 ≤ x5 then (if x5 < (x1.length : Int) then (if (rd x0 x5) = (rd x1 x5) then (laws_eqIntS.l0 k x0 x1 (wrap64 (x5 + 1))) else (some false)) else (none)) else (none)) else (some true)
def laws_eqIntS.f (k : Nat) (l0 : List Int) (l1 : List Int) : Option (Bool) := if (l0.length : Int) = (l1.length : Int) then (laws_eqIntS.l0 k l0 l1 0) else (some false)
theorem laws_eqIntS.mono_l : ∀ k, (∀ y0 y1 y2, LeO (laws_eqIntS.l0 k y0 y1 y2) (laws_eqIntS.l0 (k + 1) y0 y1 y2))
 | 0 => fun _ _ _ r h => by simp [laws_eqIntS.l0] at h
 | k + 1 => by
  have ih0 := laws_eqIntS.mono_l k
  ·intro y0 y1 y2
   unfold laws_eqIntS.l0
   repeat' first
   | (with_reducible exact ih0 _ _ _)
   | (with_reducible exact LeO.refl _)
   | (with_reducible exact LeO.none _)
   | (with_reducible refine LeO.ite ?_ ?_)
   | (with_reducible refine LeO.bind ?_ (fun _ => ?_))
   | exact ih0 _ _ _
   | exact LeO.none _
   | refine LeO.ite ?_ ?_
   | refine LeO.bind ?_ (fun _ => ?_)
theorem laws_eqIntS.mono : ∀ a0 a1 k, LeO (laws_eqIntS.f k a0 a1) (laws_eqIntS.f (k + 1) a0 a1) := by
 intro a0 a1 k
 have ih0 := laws_eqIntS.mono_l k
 unfold laws_eqIntS.f
 repeat' first
   | (with_reducible exact ih0 _ _ _)
   | (with_reducible exact LeO.refl _)
   | (with_reducible exact LeO.none _)
   | (with_reducible refine LeO.ite ?_ ?_)
   | (with_reducible refine LeO.bind ?_ (fun _ => ?_))
   | exact ih0 _ _ _
   | exact LeO.none _
   | refine LeO.ite ?_ ?_
   | refine LeO.bind ?_ (fun _ => ?_)
set_option maxHeartbeats 8000000 in
set_option maxRecDepth 100000 in
theorem laws_eqIntS.calls (k : Nat) (A0 : Option Addr) (c0 : Nat) (l0 : List Int) (A1 : Option Addr) (c1 : Nat) (l1 : List Int) (r : Bool) (w : World) (hr0 : Kd.C (Kd.int .i64) w A0 l0.length l0) (hc0 : l0.length ≤ c0) (hr1 : Kd.C (Kd.int .i64) w A1 l1.length l1) (hc1 : l1.length ≤ c1) (h : laws_eqIntS.f k l0 l1 = some r) :
  Calls Tryz.prog 51 #[.slice A0 l0.length c0, .slice A1 l1.length c1] w fun e w' => e = .returned (.bool r) ∧ Drawn0 w w' := by
 have HR0 := Aside0.mk hr0
 have HC0 := Aside0.mk hc0
 clear hr0 hc0
 have HR1 := Aside0.mk hr1
 have HC1 := Aside0.mk hc1
 clear hr1 hc1
 have H : (if (l0.length : Int) = (l1.length : Int) then (laws_eqIntS.l0 k l0 l1 0) else (some false)) = some r := h
 clear h
 by_cases c3 : (l0.length : Int) = (l1.length : Int)
 ·rw [if_pos c3] at H
  have c3b0 : ((l0.length : Int) == (l1.length : Int)) = true := beq_iff_eq.mpr c3
  have c3b1 : ((l0.length : Int) != (l1.length : Int)) = false := bne_eq_false_iff_eq.mpr c3
  have c3b2 : (l0.length == l1.length) = true := by first | simpa using c3 | (simp at c3 ⊢; omega)
  clear c3
  have H' := Aside0.mk H
  clear H
  go_enter Tryz.func51, Tryz.ntmps51
  go_wp2
  go_loopg [5] k (fun kq v5 w' => ∃ (x5_1 : Int), v5 = .int .i64 x5_1 ∧ Aside0 (laws_eqIntS.l0 kq l0 l1 x5_1 = some r) ∧ Aside0 (kq ≤ k) ∧ Drawn0 w w')
  case atStart => exact ⟨(0), (by first | rfl | (simp; done) | (simp [*]; done)), H', ⟨Nat.le_refl _⟩, by repeat (first | exact Drawn0.refl _ | apply Drawn0.step)⟩
  case round =>
   clear H'
   try clear c1
   try clear p2
   try clear c3
   try clear c3b0
   try clear c3b1
   try clear c3b2
   obtain ⟨x5_1, rfl, HA, HK1, ⟨m1, rfl⟩⟩ := hrel
   cases gk with
   | zero => exact absurd HA.out (by simp [laws_eqIntS.l0])
   | succ k1 =>
    have H := HA.out
    clear HA
    simp only [laws_eqIntS.l0] at H
    by_cases c4 : x5_1 < (l0.length : Int)
    ·rw [if_pos c4] at H
     have c4b0 : decide (x5_1 < (l0.length : Int)) = true := decide_eq_true c4
     clear c4
     by_cases c5 : 0 ≤ x5_1
     ·rw [if_pos c5] at H
      have c5b0 : decide (0 ≤ x5_1) = true := decide_eq_true c5
      clear c5
      by_cases c6 : x5_1 < (l1.length : Int)
      ·rw [if_pos c6] at H
       have c6b0 : decide (x5_1 < (l1.length : Int)) = true := decide_eq_true c6
       clear c6
       by_cases c7 : (rd l0 x5_1) = (rd l1 x5_1)
       ·rw [if_pos c7] at H
        have c7b0 : ((rd l0 x5_1) == (rd l1 x5_1)) = true := beq_iff_eq.mpr c7
        have c7b1 : ((rd l0 x5_1) != (rd l1 x5_1)) = false := bne_eq_false_iff_eq.mpr c7
        clear c7
        have H' := Aside0.mk H
        clear H
        have p387 : 0 ≤ (x5_1 : Int) := of_decide_eq_true (by first | (with_reducible assumption) | assumption)
        have q387 : x5_1 < (l0.length : Int) := of_decide_eq_true (by first | (with_reducible assumption) | assumption)
        obtain ⟨ad387, e387, hx387_0⟩ := Kd.at_int HR0.out x5_1 p387 q387
        cases e387
        replace p387 := eq_true p387
        replace q387 := eq_true q387
        have p388 : 0 ≤ (x5_1 : Int) := of_decide_eq_true (by first | (with_reducible assumption) | assumption)
        have q388 : x5_1 < (l1.length : Int) := of_decide_eq_true (by first | (with_reducible assumption) | assumption)
        obtain ⟨ad388, e388, hx388_0⟩ := Kd.at_int HR1.out x5_1 p388 q388
        cases e388
        replace p388 := eq_true p388
        replace q388 := eq_true q388
        go_wp2
        repeat (go_quiet (fail); try go_wp2)
        go_roundg k1
        case measure => have := HK1.out; omega
        case rel => exact ⟨(wrap64 (x5_1 + 1)), (by first | rfl | (simp; done) | (simp [*]; done)), H', ⟨by have := HK1.out; omega⟩, by repeat (first | exact Drawn0.refl _ | apply Drawn0.step)⟩
       ·rw [if_neg c7] at H
        have c7b0 : ((rd l0 x5_1) == (rd l1 x5_1)) = false := beq_eq_false_iff_ne.mpr c7
        have c7b1 : ((rd l0 x5_1) != (rd l1 x5_1)) = true := bne_iff_ne.mpr c7
        obtain rfl := Option.some.inj H
        have p387 : 0 ≤ (x5_1 : Int) := of_decide_eq_true (by first | (with_reducible assumption) | assumption)
        have q387 : x5_1 < (l0.length : Int) := of_decide_eq_true (by first | (with_reducible assumption) | assumption)
        obtain ⟨ad387, e387, hx387_0⟩ := Kd.at_int HR0.out x5_1 p387 q387
        cases e387
        replace p387 := eq_true p387
        replace q387 := eq_true q387
        have p388 : 0 ≤ (x5_1 : Int) := of_decide_eq_true (by first | (with_reducible assumption) | assumption)
        have q388 : x5_1 < (l1.length : Int) := of_decide_eq_true (by first | (with_reducible assumption) | assumption)
        obtain ⟨ad388, e388, hx388_0⟩ := Kd.at_int HR1.out x5_1 p388 q388
        cases e388
        replace p388 := eq_true p388
        replace q388 := eq_true q388
        go_wp2
        repeat (go_quiet (fail); try go_wp2)
        go_ret
        exact ⟨by first | rfl | (simp; done) | (simp [*]; done), by repeat (first | exact Drawn0.refl _ | apply Drawn0.step)⟩
      ·rw [if_neg c6] at H
       exact absurd H (by simp)
     ·rw [if_neg c5] at H
      exact absurd H (by simp)
    ·rw [if_neg c4] at H
     have c4b0 : decide (x5_1 < (l0.length : Int)) = false := decide_eq_false c4
     clear c4
     obtain rfl := Option.some.inj H
     go_wp2
     go_ret
     exact ⟨by first | rfl | (simp; done) | (simp [*]; done), by repeat (first | exact Drawn0.refl _ | apply Drawn0.step)⟩
 ·rw [if_neg c3] at H
  have c3b0 : ((l0.length : Int) == (l1.length : Int)) = false := beq_eq_false_iff_ne.mpr c3
  have c3b1 : ((l0.length : Int) != (l1.length : Int)) = true := bne_iff_ne.mpr c3
  have c3b2 : (l0.length == l1.length) = false := by first | simpa using c3 | (simp at c3 ⊢; omega)
  obtain rfl := Option.some.inj H
  go_enter Tryz.func51, Tryz.ntmps51
  go_wp2
  go_ret
  exact ⟨by first | rfl | (simp; done) | (simp [*]; done), by repeat (first | exact Drawn0.refl _ | apply Drawn0.step)⟩

/-! ### laws_eqSnap: function 20 -/
def laws_eqSnap.f (k : Nat) (a0_0 : Int) (a0_1 : Int) (l0_2 : List Int) (a0_3 : ByteArray) (a1_0 : Int) (a1_1 : Int) (l1_2 : List Int) (a1_3 : ByteArray) : Option (Bool) := if a0_0 = a1_0 then (if a0_1 = a1_1 then ((laws_eqIntS.f k l0_2 l1_2).bind fun t391 => (if t391 = true then (if a0_3.toList = a1_3.toList then (some true) else (some false)) else (some false))) else (some false)) else (some false)
theorem laws_eqSnap.mono : ∀ a0 a1 a2 a3 a4 a5 a6 a7 k, LeO (laws_eqSnap.f k a0 a1 a2 a3 a4 a5 a6 a7) (laws_eqSnap.f (k + 1) a0 a1 a2 a3 a4 a5 a6 a7) := by
 intro a0 a1 a2 a3 a4 a5 a6 a7 k
 unfold laws_eqSnap.f
 repeat' first
   | (with_reducible exact laws_eqIntS.mono _ _ _)
   | (with_reducible exact LeO.refl _)
   | (with_reducible exact LeO.none _)
   | (with_reducible refine LeO.ite ?_ ?_)
   | (with_reducible refine LeO.bind ?_ (fun _ => ?_))
   | exact laws_eqIntS.mono _ _ _
   | exact LeO.none _
   | refine LeO.ite ?_ ?_
   | refine LeO.bind ?_ (fun _ => ?_)
set_option maxHeartbeats 8000000 in
set_option maxRecDepth 100000 in
theorem laws_eqSnap.calls (k : Nat) (a0_0 : Int) (a0_1 : Int) (A0_2 : Option Addr) (c0_2 : Nat) (l0_2 : List Int) (a0_3 : ByteArray) (a1_0 : Int) (a1_1 : Int) (A1_2 : Option Addr) (c1_2 : Nat) (l1_2 : List Int) (a1_3 : ByteArray) (r : Bool) (w : World) (hr0_2 : Kd.C (Kd.int .i64) w A0_2 l0_2.length l0_2) (hc0_2 : l0_2.length ≤ c0_2) (hr1_2 : Kd.C (Kd.int .i64) w A1_2 l1_2.length l1_2) (hc1_2 : l1_2.length ≤ c1_2) (h : laws_eqSnap.f k a0_0 a0_1 l0_2 a0_3 a1_0 a1_1 l1_2 a1_3 = some r) :
  Calls Tryz.prog 20 #[.agg #[.int .i64 a0_0, .int .i64 a0_1, .slice A0_2 l0_2.length c0_2, .string a0_3], .agg #[.int .i64 a1_0, .int .i64 a1_1, .slice A1_2 l1_2.length c1_2, .string a1_3]] w fun e w' => e = .returned (.bool r) ∧ Below w.heap.size w w' := by
 have hu47 := Tryz.underlying47
 have HR0_2 := Aside0.mk hr0_2
 have HC0_2 := Aside0.mk hc0_2
 clear hr0_2 hc0_2
 have HR1_2 := Aside0.mk hr1_2
 have HC1_2 := Aside0.mk hc1_2
 clear hr1_2 hc1_2
 have HB := mk_ (Below.refl w.heap.size w)
 have H : (if a0_0 = a1_0 then (if a0_1 = a1_1 then ((laws_eqIntS.f k l0_2 l1_2).bind fun t391 => (if t391 = true then (if a0_3.toList = a1_3.toList then (some true) else (some false)) else (some false))) else (some false)) else (some false)) = some r := h
 clear h
 by_cases c3 : a0_0 = a1_0
 ·rw [if_pos c3] at H
  have c3b0 : (a0_0 == a1_0) = true := beq_iff_eq.mpr c3
  have c3b1 : (a0_0 != a1_0) = false := bne_eq_false_iff_eq.mpr c3
  clear c3
  by_cases c4 : a0_1 = a1_1
  ·rw [if_pos c4] at H
   have c4b0 : (a0_1 == a1_1) = true := beq_iff_eq.mpr c4
   have c4b1 : (a0_1 != a1_1) = false := bne_eq_false_iff_eq.mpr c4
   clear c4
   replace H := Option.bind_eq_some_iff.mp H
   obtain ⟨t391, A50, H⟩ := H
   replace H : (if t391 = true then (if a0_3.toList = a1_3.toList then (some true) else (some false)) else (some false)) = some r := H
   have A5 := Aside0.mk A50
   clear A50
   by_cases c6 : t391 = true
   ·subst c6
    have H1 : (if a0_3.toList = a1_3.toList then (some true) else (some false)) = some r := by rw [if_pos rfl] at H; exact H
    clear H
    have H := H1
    clear H1
    by_cases c7 : a0_3.toList = a1_3.toList
    ·rw [if_pos c7] at H
     have c7b0 : (a0_3.toList == a1_3.toList) = true := beq_iff_eq.mpr c7
     have c7b1 : (a0_3.toList != a1_3.toList) = false := bne_eq_false_iff_eq.mpr c7
     clear c7
     obtain rfl := Option.some.inj H
     go_enter Tryz.func20, Tryz.ntmps20
     go_wp2_with (first | ((with_reducible refine gate_dst (N := 2) rfl ?_); refine box_event ?hg (N := 2) ?hd (cs := #[.int .i64 a0_0, .int .i64 a0_1, .slice A0_2 l0_2.length c0_2, .string a0_3]) (t := 47) ?hr ?_; (case hd => rfl); (case hg => rfl); (case hr => first | (go_simp; done) | (go_simp; rfl)); intro gb389 hg w8 hbox hb; have BK389 := mk_ (hbox); have GW389 : Aside0 (w.heap.size ≤ gb389) := bz_ hg; have GE389 : Aside0 (w.heap.size ≤ gb389) := bz_ hg; replace HB := bs_ HB hb; clear hb hbox hg) | ((with_reducible refine gate_dst (N := 3) rfl ?_); refine box_event ?hg (N := 3) ?hd (cs := #[.int .i64 a1_0, .int .i64 a1_1, .slice A1_2 l1_2.length c1_2, .string a1_3]) (t := 47) ?hr ?_; (case hd => rfl); (case hg => rfl); (case hr => first | (go_simp; done) | (go_simp; rfl)); intro gb390 hg w9 hbox hb; have BK390 := mk_ (hbox); have GW390 : Aside0 (w.heap.size ≤ gb390) := bz_ hg; have GE390 : Aside0 (w.heap.size ≤ gb390) := bz_ hg; have NB389_390 : Aside0 (gb389 ≠ gb390) := bl_ BK389 hg; have NB390_389 : Aside0 (gb390 ≠ gb389) := bg_ BK389 hg; replace BK389 := bb_ BK389 hb; replace HB := bs_ HB hb; clear hb hbox hg; have hnb10 := NB389_390.out; have hnc10 := NB390_389.out; have hcz11_0 : w9.cell? ⟨gb389, 0, none⟩ = some (.int .i64 a0_0) := bc_ BK389 0; have hcz11_1 : w9.cell? ⟨gb389, 1, none⟩ = some (.int .i64 a0_1) := bc_ BK389 1; have hcz11_2 : w9.cell? ⟨gb389, 2, none⟩ = some (.slice A0_2 l0_2.length c0_2) := bc_ BK389 2; have hcz11_3 : w9.cell? ⟨gb389, 3, none⟩ = some (.string a0_3) := bc_ BK389 3; have hfz11_0 := blk_frozen BK389.out 0; have hfz11_1 := blk_frozen BK389.out 1; have hfz11_2 := blk_frozen BK389.out 2; have hfz11_3 := blk_frozen BK389.out 3; have hcz12_0 : w9.cell? ⟨gb390, 0, none⟩ = some (.int .i64 a1_0) := bc_ BK390 0; have hcz12_1 : w9.cell? ⟨gb390, 1, none⟩ = some (.int .i64 a1_1) := bc_ BK390 1; have hcz12_2 : w9.cell? ⟨gb390, 2, none⟩ = some (.slice A1_2 l1_2.length c1_2) := bc_ BK390 2; have hcz12_3 : w9.cell? ⟨gb390, 3, none⟩ = some (.string a1_3) := bc_ BK390 3; have hfz12_0 := blk_frozen BK390.out 0; have hfz12_1 := blk_frozen BK390.out 1; have hfz12_2 := blk_frozen BK390.out 2; have hfz12_3 := blk_frozen BK390.out 3) | ((with_reducible refine gate_callee (f := 51) rfl ?_); refine goesL_ (some 19) rfl rfl Tryz.func51 (by kernel_rfl) rfl #[.slice A0_2 l0_2.length c0_2, .slice A1_2 l1_2.length c1_2] rfl ga_ ?_; (with_reducible refine (laws_eqIntS.calls k _ _ l0_2 _ _ l1_2 true _ ?side1 ?side2 ?side3 ?side4 A5.out).mono ?_); (case side1 => repeat (first | exact (Kd.C_below HR0_2.out HB.out) | (with_reducible refine Kd.C_alloc ?_ _) | (with_reducible refine Kd.C_drewN ?_ _) | (with_reducible refine Kd.C_drew ?_))); (case side2 => exact HC0_2.out); (case side3 => repeat (first | exact (Kd.C_below HR1_2.out HB.out) | (with_reducible refine Kd.C_alloc ?_ _) | (with_reducible refine Kd.C_drewN ?_ _) | (with_reducible refine Kd.C_drew ?_))); (case side4 => exact HC1_2.out); rintro e w' ⟨rfl, ⟨nd, rfl⟩⟩; refine ⟨_, rfl, ?_⟩))
     go_ret
     exact ⟨er_, bw_ HB⟩
    ·rw [if_neg c7] at H
     have c7b0 : (a0_3.toList == a1_3.toList) = false := beq_eq_false_iff_ne.mpr c7
     have c7b1 : (a0_3.toList != a1_3.toList) = true := bne_iff_ne.mpr c7
     obtain rfl := Option.some.inj H
     go_enter Tryz.func20, Tryz.ntmps20
     go_wp2_with (first | ((with_reducible refine gate_dst (N := 2) rfl ?_); refine box_event ?hg (N := 2) ?hd (cs := #[.int .i64 a0_0, .int .i64 a0_1, .slice A0_2 l0_2.length c0_2, .string a0_3]) (t := 47) ?hr ?_; (case hd => rfl); (case hg => rfl); (case hr => first | (go_simp; done) | (go_simp; rfl)); intro gb389 hg w13 hbox hb; have BK389 := mk_ (hbox); have GW389 : Aside0 (w.heap.size ≤ gb389) := bz_ hg; have GE389 : Aside0 (w.heap.size ≤ gb389) := bz_ hg; replace HB := bs_ HB hb; clear hb hbox hg) | ((with_reducible refine gate_dst (N := 3) rfl ?_); refine box_event ?hg (N := 3) ?hd (cs := #[.int .i64 a1_0, .int .i64 a1_1, .slice A1_2 l1_2.length c1_2, .string a1_3]) (t := 47) ?hr ?_; (case hd => rfl); (case hg => rfl); (case hr => first | (go_simp; done) | (go_simp; rfl)); intro gb390 hg w14 hbox hb; have BK390 := mk_ (hbox); have GW390 : Aside0 (w.heap.size ≤ gb390) := bz_ hg; have GE390 : Aside0 (w.heap.size ≤ gb390) := bz_ hg; have NB389_390 : Aside0 (gb389 ≠ gb390) := bl_ BK389 hg; have NB390_389 : Aside0 (gb390 ≠ gb389) := bg_ BK389 hg; replace BK389 := bb_ BK389 hb; replace HB := bs_ HB hb; clear hb hbox hg; have hnb15 := NB389_390.out; have hnc15 := NB390_389.out; have hcz16_0 : w14.cell? ⟨gb389, 0, none⟩ = some (.int .i64 a0_0) := bc_ BK389 0; have hcz16_1 : w14.cell? ⟨gb389, 1, none⟩ = some (.int .i64 a0_1) := bc_ BK389 1; have hcz16_2 : w14.cell? ⟨gb389, 2, none⟩ = some (.slice A0_2 l0_2.length c0_2) := bc_ BK389 2; have hcz16_3 : w14.cell? ⟨gb389, 3, none⟩ = some (.string a0_3) := bc_ BK389 3; have hfz16_0 := blk_frozen BK389.out 0; have hfz16_1 := blk_frozen BK389.out 1; have hfz16_2 := blk_frozen BK389.out 2; have hfz16_3 := blk_frozen BK389.out 3; have hcz17_0 : w14.cell? ⟨gb390, 0, none⟩ = some (.int .i64 a1_0) := bc_ BK390 0; have hcz17_1 : w14.cell? ⟨gb390, 1, none⟩ = some (.int .i64 a1_1) := bc_ BK390 1; have hcz17_2 : w14.cell? ⟨gb390, 2, none⟩ = some (.slice A1_2 l1_2.length c1_2) := bc_ BK390 2; have hcz17_3 : w14.cell? ⟨gb390, 3, none⟩ = some (.string a1_3) := bc_ BK390 3; have hfz17_0 := blk_frozen BK390.out 0; have hfz17_1 := blk_frozen BK390.out 1; have hfz17_2 := blk_frozen BK390.out 2; have hfz17_3 := blk_frozen BK390.out 3) | ((with_reducible refine gate_callee (f := 51) rfl ?_); refine goesL_ (some 19) rfl rfl Tryz.func51 (by kernel_rfl) rfl #[.slice A0_2 l0_2.length c0_2, .slice A1_2 l1_2.length c1_2] rfl ga_ ?_; (with_reducible refine (laws_eqIntS.calls k _ _ l0_2 _ _ l1_2 true _ ?side1 ?side2 ?side3 ?side4 A5.out).mono ?_); (case side1 => repeat (first | exact (Kd.C_below HR0_2.out HB.out) | (with_reducible refine Kd.C_alloc ?_ _) | (with_reducible refine Kd.C_drewN ?_ _) | (with_reducible refine Kd.C_drew ?_))); (case side2 => exact HC0_2.out); (case side3 => repeat (first | exact (Kd.C_below HR1_2.out HB.out) | (with_reducible refine Kd.C_alloc ?_ _) | (with_reducible refine Kd.C_drewN ?_ _) | (with_reducible refine Kd.C_drew ?_))); (case side4 => exact HC1_2.out); rintro e w' ⟨rfl, ⟨nd, rfl⟩⟩; refine ⟨_, rfl, ?_⟩))
     go_ret
     exact ⟨er_, bw_ HB⟩
   ·replace c6 := Bool.eq_false_iff.mpr c6
    subst c6
    have H1 : (some false) = some r := by rw [if_neg (show ¬ (false = true) by decide)] at H; exact H
    clear H
    have H := H1
    clear H1
    obtain rfl := Option.some.inj H
    go_enter Tryz.func20, Tryz.ntmps20
    go_wp2_with (first | ((with_reducible refine gate_dst (N := 2) rfl ?_); refine box_event ?hg (N := 2) ?hd (cs := #[.int .i64 a0_0, .int .i64 a0_1, .slice A0_2 l0_2.length c0_2, .string a0_3]) (t := 47) ?hr ?_; (case hd => rfl); (case hg => rfl); (case hr => first | (go_simp; done) | (go_simp; rfl)); intro gb389 hg w18 hbox hb; have BK389 := mk_ (hbox); have GW389 : Aside0 (w.heap.size ≤ gb389) := bz_ hg; have GE389 : Aside0 (w.heap.size ≤ gb389) := bz_ hg; replace HB := bs_ HB hb; clear hb hbox hg) | ((with_reducible refine gate_dst (N := 3) rfl ?_); refine box_event ?hg (N := 3) ?hd (cs := #[.int .i64 a1_0, .int .i64 a1_1, .slice A1_2 l1_2.length c1_2, .string a1_3]) (t := 47) ?hr ?_; (case hd => rfl); (case hg => rfl); (case hr => first | (go_simp; done) | (go_simp; rfl)); intro gb390 hg w19 hbox hb; have BK390 := mk_ (hbox); have GW390 : Aside0 (w.heap.size ≤ gb390) := bz_ hg; have GE390 : Aside0 (w.heap.size ≤ gb390) := bz_ hg; have NB389_390 : Aside0 (gb389 ≠ gb390) := bl_ BK389 hg; have NB390_389 : Aside0 (gb390 ≠ gb389) := bg_ BK389 hg; replace BK389 := bb_ BK389 hb; replace HB := bs_ HB hb; clear hb hbox hg; have hnb20 := NB389_390.out; have hnc20 := NB390_389.out; have hcz21_0 : w19.cell? ⟨gb389, 0, none⟩ = some (.int .i64 a0_0) := bc_ BK389 0; have hcz21_1 : w19.cell? ⟨gb389, 1, none⟩ = some (.int .i64 a0_1) := bc_ BK389 1; have hcz21_2 : w19.cell? ⟨gb389, 2, none⟩ = some (.slice A0_2 l0_2.length c0_2) := bc_ BK389 2; have hcz21_3 : w19.cell? ⟨gb389, 3, none⟩ = some (.string a0_3) := bc_ BK389 3; have hfz21_0 := blk_frozen BK389.out 0; have hfz21_1 := blk_frozen BK389.out 1; have hfz21_2 := blk_frozen BK389.out 2; have hfz21_3 := blk_frozen BK389.out 3; have hcz22_0 : w19.cell? ⟨gb390, 0, none⟩ = some (.int .i64 a1_0) := bc_ BK390 0; have hcz22_1 : w19.cell? ⟨gb390, 1, none⟩ = some (.int .i64 a1_1) := bc_ BK390 1; have hcz22_2 : w19.cell? ⟨gb390, 2, none⟩ = some (.slice A1_2 l1_2.length c1_2) := bc_ BK390 2; have hcz22_3 : w19.cell? ⟨gb390, 3, none⟩ = some (.string a1_3) := bc_ BK390 3; have hfz22_0 := blk_frozen BK390.out 0; have hfz22_1 := blk_frozen BK390.out 1; have hfz22_2 := blk_frozen BK390.out 2; have hfz22_3 := blk_frozen BK390.out 3) | ((with_reducible refine gate_callee (f := 51) rfl ?_); refine goesL_ (some 19) rfl rfl Tryz.func51 (by kernel_rfl) rfl #[.slice A0_2 l0_2.length c0_2, .slice A1_2 l1_2.length c1_2] rfl ga_ ?_; (with_reducible refine (laws_eqIntS.calls k _ _ l0_2 _ _ l1_2 false _ ?side1 ?side2 ?side3 ?side4 A5.out).mono ?_); (case side1 => repeat (first | exact (Kd.C_below HR0_2.out HB.out) | (with_reducible refine Kd.C_alloc ?_ _) | (with_reducible refine Kd.C_drewN ?_ _) | (with_reducible refine Kd.C_drew ?_))); (case side2 => exact HC0_2.out); (case side3 => repeat (first | exact (Kd.C_below HR1_2.out HB.out) | (with_reducible refine Kd.C_alloc ?_ _) | (with_reducible refine Kd.C_drewN ?_ _) | (with_reducible refine Kd.C_drew ?_))); (case side4 => exact HC1_2.out); rintro e w' ⟨rfl, ⟨nd, rfl⟩⟩; refine ⟨_, rfl, ?_⟩))
    go_ret
    exact ⟨er_, bw_ HB⟩
  ·rw [if_neg c4] at H
   have c4b0 : (a0_1 == a1_1) = false := beq_eq_false_iff_ne.mpr c4
   have c4b1 : (a0_1 != a1_1) = true := bne_iff_ne.mpr c4
   obtain rfl := Option.some.inj H
   go_enter Tryz.func20, Tryz.ntmps20
   go_wp2_with (first | ((with_reducible refine gate_dst (N := 2) rfl ?_); refine box_event ?hg (N := 2) ?hd (cs := #[.int .i64 a0_0, .int .i64 a0_1, .slice A0_2 l0_2.length c0_2, .string a0_3]) (t := 47) ?hr ?_; (case hd => rfl); (case hg => rfl); (case hr => first | (go_simp; done) | (go_simp; rfl)); intro gb389 hg w23 hbox hb; have BK389 := mk_ (hbox); have GW389 : Aside0 (w.heap.size ≤ gb389) := bz_ hg; have GE389 : Aside0 (w.heap.size ≤ gb389) := bz_ hg; replace HB := bs_ HB hb; clear hb hbox hg) | ((with_reducible refine gate_dst (N := 3) rfl ?_); refine box_event ?hg (N := 3) ?hd (cs := #[.int .i64 a1_0, .int .i64 a1_1, .slice A1_2 l1_2.length c1_2, .string a1_3]) (t := 47) ?hr ?_; (case hd => rfl); (case hg => rfl); (case hr => first | (go_simp; done) | (go_simp; rfl)); intro gb390 hg w24 hbox hb; have BK390 := mk_ (hbox); have GW390 : Aside0 (w.heap.size ≤ gb390) := bz_ hg; have GE390 : Aside0 (w.heap.size ≤ gb390) := bz_ hg; have NB389_390 : Aside0 (gb389 ≠ gb390) := bl_ BK389 hg; have NB390_389 : Aside0 (gb390 ≠ gb389) := bg_ BK389 hg; replace BK389 := bb_ BK389 hb; replace HB := bs_ HB hb; clear hb hbox hg; have hnb25 := NB389_390.out; have hnc25 := NB390_389.out; have hcz26_0 : w24.cell? ⟨gb389, 0, none⟩ = some (.int .i64 a0_0) := bc_ BK389 0; have hcz26_1 : w24.cell? ⟨gb389, 1, none⟩ = some (.int .i64 a0_1) := bc_ BK389 1; have hcz26_2 : w24.cell? ⟨gb389, 2, none⟩ = some (.slice A0_2 l0_2.length c0_2) := bc_ BK389 2; have hcz26_3 : w24.cell? ⟨gb389, 3, none⟩ = some (.string a0_3) := bc_ BK389 3; have hfz26_0 := blk_frozen BK389.out 0; have hfz26_1 := blk_frozen BK389.out 1; have hfz26_2 := blk_frozen BK389.out 2; have hfz26_3 := blk_frozen BK389.out 3; have hcz27_0 : w24.cell? ⟨gb390, 0, none⟩ = some (.int .i64 a1_0) := bc_ BK390 0; have hcz27_1 : w24.cell? ⟨gb390, 1, none⟩ = some (.int .i64 a1_1) := bc_ BK390 1; have hcz27_2 : w24.cell? ⟨gb390, 2, none⟩ = some (.slice A1_2 l1_2.length c1_2) := bc_ BK390 2; have hcz27_3 : w24.cell? ⟨gb390, 3, none⟩ = some (.string a1_3) := bc_ BK390 3; have hfz27_0 := blk_frozen BK390.out 0; have hfz27_1 := blk_frozen BK390.out 1; have hfz27_2 := blk_frozen BK390.out 2; have hfz27_3 := blk_frozen BK390.out 3))
   go_ret
   exact ⟨er_, bw_ HB⟩
 ·rw [if_neg c3] at H
  have c3b0 : (a0_0 == a1_0) = false := beq_eq_false_iff_ne.mpr c3
  have c3b1 : (a0_0 != a1_0) = true := bne_iff_ne.mpr c3
  obtain rfl := Option.some.inj H
  go_enter Tryz.func20, Tryz.ntmps20
  go_wp2_with (first | ((with_reducible refine gate_dst (N := 2) rfl ?_); refine box_event ?hg (N := 2) ?hd (cs := #[.int .i64 a0_0, .int .i64 a0_1, .slice A0_2 l0_2.length c0_2, .string a0_3]) (t := 47) ?hr ?_; (case hd => rfl); (case hg => rfl); (case hr => first | (go_simp; done) | (go_simp; rfl)); intro gb389 hg w28 hbox hb; have BK389 := mk_ (hbox); have GW389 : Aside0 (w.heap.size ≤ gb389) := bz_ hg; have GE389 : Aside0 (w.heap.size ≤ gb389) := bz_ hg; replace HB := bs_ HB hb; clear hb hbox hg) | ((with_reducible refine gate_dst (N := 3) rfl ?_); refine box_event ?hg (N := 3) ?hd (cs := #[.int .i64 a1_0, .int .i64 a1_1, .slice A1_2 l1_2.length c1_2, .string a1_3]) (t := 47) ?hr ?_; (case hd => rfl); (case hg => rfl); (case hr => first | (go_simp; done) | (go_simp; rfl)); intro gb390 hg w29 hbox hb; have BK390 := mk_ (hbox); have GW390 : Aside0 (w.heap.size ≤ gb390) := bz_ hg; have GE390 : Aside0 (w.heap.size ≤ gb390) := bz_ hg; have NB389_390 : Aside0 (gb389 ≠ gb390) := bl_ BK389 hg; have NB390_389 : Aside0 (gb390 ≠ gb389) := bg_ BK389 hg; replace BK389 := bb_ BK389 hb; replace HB := bs_ HB hb; clear hb hbox hg; have hnb30 := NB389_390.out; have hnc30 := NB390_389.out; have hcz31_0 : w29.cell? ⟨gb389, 0, none⟩ = some (.int .i64 a0_0) := bc_ BK389 0; have hcz31_1 : w29.cell? ⟨gb389, 1, none⟩ = some (.int .i64 a0_1) := bc_ BK389 1; have hcz31_2 : w29.cell? ⟨gb389, 2, none⟩ = some (.slice A0_2 l0_2.length c0_2) := bc_ BK389 2; have hcz31_3 : w29.cell? ⟨gb389, 3, none⟩ = some (.string a0_3) := bc_ BK389 3; have hfz31_0 := blk_frozen BK389.out 0; have hfz31_1 := blk_frozen BK389.out 1; have hfz31_2 := blk_frozen BK389.out 2; have hfz31_3 := blk_frozen BK389.out 3; have hcz32_0 : w29.cell? ⟨gb390, 0, none⟩ = some (.int .i64 a1_0) := bc_ BK390 0; have hcz32_1 : w29.cell? ⟨gb390, 1, none⟩ = some (.int .i64 a1_1) := bc_ BK390 1; have hcz32_2 : w29.cell? ⟨gb390, 2, none⟩ = some (.slice A1_2 l1_2.length c1_2) := bc_ BK390 2; have hcz32_3 : w29.cell? ⟨gb390, 3, none⟩ = some (.string a1_3) := bc_ BK390 3; have hfz32_0 := blk_frozen BK390.out 0; have hfz32_1 := blk_frozen BK390.out 1; have hfz32_2 := blk_frozen BK390.out 2; have hfz32_3 := blk_frozen BK390.out 3))
  go_ret
  exact ⟨er_, bw_ HB⟩

end Go.Proofs.YtgnmlgoadkhceaaGreatDoor.QFnExactNewestSnap
