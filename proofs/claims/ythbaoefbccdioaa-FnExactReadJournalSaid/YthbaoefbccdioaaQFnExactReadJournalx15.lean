/- Written by this session's own program (wip/tpl/pp.py): what the law's functions come to, and that the machine's calls do just that. -/
import Derived.Test.YthbaoefbccdioaaTMPack
import Derived.Test.YthbaoefbccdioaaQFnExactReadJournalx0
import Derived.Test.YthbaoefbccdioaaQFnExactReadJournalx14
namespace Go.Proofs.Ythbaoefbccdioaa.QFnExactReadJournal
open Go.RowKit Go.Proofs.YthbaoefbccdioaaW.PrintWords Go.Proofs.YthbaoefbccdioaaW.PrintLast Go.Proofs.YthbaoefbccdioaaW.PrintMore
attribute [local go_sem] Go.Proofs.Ythbaoefbccdioaa.Sem.string_geq Go.Proofs.Ythbaoefbccdioaa.Sem.string_leq Go.Proofs.Ythbaoefbccdioaa.Sem.string_gtr
attribute [local go_sem] max2_int min2_int max_two min_two max_three min_three max_four min_four   -- for this text's walks alone
set_option linter.unusedVariables false
set_option linter.unusedSimpArgs false

/-! ### laws_heldEntryS: function 112 -/
def laws_heldEntryS.l0 : Nat → List (S135) → Int → Int → Option (Int)
 | 0, _, _, _ => none
 | k + 1, x0, x1, x5 => if x5 < (x0.length : Int) then (if 0 ≤ x5 then (if ((rd_T135 x0 x5).f0) = x1 then (if ((rd_T135 x0 x5).f1) = (wrap64 (x1 + 1)) then ((laws_markText.f k (wrap64 ((wrap64 (x1 + 1)) + 1))).bind fun t398 => (if ((rd_T135 x0 x5).f2).toList = t398.toList then (laws_heldEntryS.l0 k x0 (wrap64 ((wrap64 ((wrap64 (x1 + 1)) + 1)) + 1)) (wrap64 (x5 + 1))) else (some (-1)))) else (some (-1))) else (some (-1))) else (none)) else (some x1)
def laws_heldEntryS.f (k : Nat) (l0 : List (S135)) (a1 : Int) : Option (Int) := laws_heldEntryS.l0 k l0 a1 0
theorem laws_heldEntryS.mono_l : ∀ k, (∀ y0 y1 y2, LeO (laws_heldEntryS.l0 k y0 y1 y2) (laws_heldEntryS.l0 (k + 1) y0 y1 y2))
 | 0 => fun _ _ _ r h => by simp [laws_heldEntryS.l0] at h
 | k + 1 => by
  have ih0 := laws_heldEntryS.mono_l k
  ·intro y0 y1 y2
   unfold laws_heldEntryS.l0
   repeat' first
   | (with_reducible exact ih0 _ _ _)
   | (with_reducible exact laws_markText.mono _ _)
   | (with_reducible exact LeO.refl _)
   | (with_reducible refine LeO.ite ?_ ?_)
   | (with_reducible refine LeO.bind ?_ (fun _ => ?_))
theorem laws_heldEntryS.mono : ∀ a0 a1 k, LeO (laws_heldEntryS.f k a0 a1) (laws_heldEntryS.f (k + 1) a0 a1) := by
 intro a0 a1 k
 have ih0 := laws_heldEntryS.mono_l k
 unfold laws_heldEntryS.f
 repeat' first
   | (with_reducible exact ih0 _ _ _)
def laws_heldEntryS.T10 : Bool × List (List Nat × List Nat) := (true, [([], []), ([], []), ([0, 1], [0, 1]), ([2], [2]), ([3], [3]), ([], []), ([5], [5]), ([4, 6], [4, 6])])
def laws_heldEntryS.B10 : List Nat := [0, 0, 3, 7, 15, 0, 32, 127]
theorem laws_heldEntryS.tab10 : rtab .any (opsOf Try.f112 10) = laws_heldEntryS.T10 := by kernel_rfl
theorem laws_heldEntryS.bits10 : waitsOk laws_heldEntryS.T10.2 laws_heldEntryS.B10 = true := by kernel_rfl
set_option maxHeartbeats 8000000 in
set_option maxRecDepth 100000 in
theorem laws_heldEntryS.calls (k : Nat) (A0 : Option Addr) (c0 : Nat) (l0 : List (S135)) (a1 : Int) (r : Int) (w : World) (hr0 : Kd.C k135 w A0 l0.length l0) (hc0 : l0.length ≤ c0) (h : laws_heldEntryS.f k l0 a1 = some r) :
  Calls Try.prog 112 #[.slice A0 l0.length c0, .int .i64 a1] w fun e w' => e = .returned (.int .i64 r) ∧ Below w.heap.size w w' := by
 have HR0 := Aside0.mk hr0
 have HC0 := Aside0.mk hc0
 clear hr0 hc0
 have HB := mk_ (Below.refl w.heap.size w)
 have H : (laws_heldEntryS.l0 k l0 a1 0) = some r := h
 clear h
 have H' := Aside0.mk H
 clear H
 go_enter Try.func112, Try.ntmps112
 go_wp2
 go_loopg [1, 5] k (fun kq v1 v5 w' => ∃ (x1_1 : Int) (x5_1 : Int), v1 = .int .i64 x1_1 ∧ v5 = .int .i64 x5_1 ∧ Aside0 (laws_heldEntryS.l0 kq l0 x1_1 x5_1 = some r) ∧ Aside0 (kq ≤ k) ∧ Aside0 (Below w.heap.size w w'))
 case atStart => exact ⟨(a1), (0), (by first | rfl | (simp; done) | (simp [*]; done) | (simp [bne]; done)), (by first | rfl | (simp; done) | (simp [*]; done) | (simp [bne]; done)), H', ⟨Nat.le_refl _⟩, ⟨bw_ HB⟩⟩
 case round =>
  clear H'
  (try clear c1); (try clear p2)
  obtain ⟨x1_1, x5_1, rfl, rfl, HA, HK1, HB⟩ := hrel
  cases gk with
  | zero => exact absurd HA.out (by simp [laws_heldEntryS.l0])
  | succ k1 =>
   have H := HA.out
   clear HA
   simp only [laws_heldEntryS.l0] at H
   by_cases c3 : x5_1 < (l0.length : Int)
   rotate_left
   ·rw [if_neg c3] at H
    have c3b0 : decide (x5_1 < (l0.length : Int)) = false := decide_eq_false c3
    clear c3
    obtain rfl := Option.some.inj H
    go_wp2
    go_ret
    exact ⟨er_, bw_ HB⟩
   rw [if_pos c3] at H
   have c3b0 : decide (x5_1 < (l0.length : Int)) = true := decide_eq_true c3
   clear c3
   by_cases c4 : 0 ≤ x5_1
   rotate_left
   ·rw [if_neg c4] at H
    exact absurd H (by simp)
   rw [if_pos c4] at H
   have c4b0 : decide (0 ≤ x5_1) = true := decide_eq_true c4
   clear c4
   by_cases c5 : ((rd_T135 l0 x5_1).f0) = x1_1
   rotate_left
   ·rw [if_neg c5] at H
    have c5b0 : (((rd_T135 l0 x5_1).f0) == x1_1) = false := beq_eq_false_iff_ne.mpr c5
    have c5b1 : (((rd_T135 l0 x5_1).f0) != x1_1) = true := bne_iff_ne.mpr c5
    obtain rfl := Option.some.inj H
    have p395 : 0 ≤ (x5_1 : Int) := od_
    have q395 : x5_1 < (l0.length : Int) := od_
    obtain ⟨ad395, e395, hx395_0, hx395_1, hx395_2⟩ := at_T135 HR0.out x5_1 p395 q395
    cases e395
    replace hx395_0 := hc_ HB hx395_0
    replace hx395_1 := hc_ HB hx395_1
    replace hx395_2 := hc_ HB hx395_2
    replace p395 := eq_true p395
    replace q395 := eq_true q395
    go_wp2
    go_ret
    exact ⟨er_, bw_ HB⟩
   rw [if_pos c5] at H
   have c5b0 : (((rd_T135 l0 x5_1).f0) == x1_1) = true := beq_iff_eq.mpr c5
   have c5b1 : (((rd_T135 l0 x5_1).f0) != x1_1) = false := bne_eq_false_iff_eq.mpr c5
   clear c5
   by_cases c6 : ((rd_T135 l0 x5_1).f1) = (wrap64 (x1_1 + 1))
   rotate_left
   ·rw [if_neg c6] at H
    have c6b0 : (((rd_T135 l0 x5_1).f1) == (wrap64 (x1_1 + 1))) = false := beq_eq_false_iff_ne.mpr c6
    have c6b1 : (((rd_T135 l0 x5_1).f1) != (wrap64 (x1_1 + 1))) = true := bne_iff_ne.mpr c6
    obtain rfl := Option.some.inj H
    have p395 : 0 ≤ (x5_1 : Int) := od_
    have q395 : x5_1 < (l0.length : Int) := od_
    obtain ⟨ad395, e395, hx395_0, hx395_1, hx395_2⟩ := at_T135 HR0.out x5_1 p395 q395
    cases e395
    replace hx395_0 := hc_ HB hx395_0
    replace hx395_1 := hc_ HB hx395_1
    replace hx395_2 := hc_ HB hx395_2
    replace p395 := eq_true p395
    replace q395 := eq_true q395
    have p396 : 0 ≤ (x5_1 : Int) := od_
    have q396 : x5_1 < (l0.length : Int) := od_
    obtain ⟨ad396, e396, hx396_0, hx396_1, hx396_2⟩ := at_T135 HR0.out x5_1 p396 q396
    obtain rfl : ad395 = ad396 := (by injection e396)
    replace hx396_0 := hc_ HB hx396_0
    replace hx396_1 := hc_ HB hx396_1
    replace hx396_2 := hc_ HB hx396_2
    replace p396 := eq_true p396
    replace q396 := eq_true q396
    go_wp2
    go_ret
    exact ⟨er_, bw_ HB⟩
   rw [if_pos c6] at H
   have c6b0 : (((rd_T135 l0 x5_1).f1) == (wrap64 (x1_1 + 1))) = true := beq_iff_eq.mpr c6
   have c6b1 : (((rd_T135 l0 x5_1).f1) != (wrap64 (x1_1 + 1))) = false := bne_eq_false_iff_eq.mpr c6
   clear c6
   replace H := Option.bind_eq_some_iff.mp H
   obtain ⟨t398, A70, H⟩ := H
   try dsimp only at H
   have A7 := Aside0.mk A70
   clear A70
   by_cases c8 : ((rd_T135 l0 x5_1).f2).toList = t398.toList
   rotate_left
   ·rw [if_neg c8] at H
    have c8b0 : (((rd_T135 l0 x5_1).f2).toList == t398.toList) = false := beq_eq_false_iff_ne.mpr c8
    have c8b1 : (((rd_T135 l0 x5_1).f2).toList != t398.toList) = true := bne_iff_ne.mpr c8
    obtain rfl := Option.some.inj H
    have p395 : 0 ≤ (x5_1 : Int) := od_
    have q395 : x5_1 < (l0.length : Int) := od_
    obtain ⟨ad395, e395, hx395_0, hx395_1, hx395_2⟩ := at_T135 HR0.out x5_1 p395 q395
    cases e395
    replace hx395_0 := hc_ HB hx395_0
    replace hx395_1 := hc_ HB hx395_1
    replace hx395_2 := hc_ HB hx395_2
    replace p395 := eq_true p395
    replace q395 := eq_true q395
    have p396 : 0 ≤ (x5_1 : Int) := od_
    have q396 : x5_1 < (l0.length : Int) := od_
    obtain ⟨ad396, e396, hx396_0, hx396_1, hx396_2⟩ := at_T135 HR0.out x5_1 p396 q396
    obtain rfl : ad395 = ad396 := (by injection e396)
    replace hx396_0 := hc_ HB hx396_0
    replace hx396_1 := hc_ HB hx396_1
    replace hx396_2 := hc_ HB hx396_2
    replace p396 := eq_true p396
    replace q396 := eq_true q396
    try go_wp2
    replace HB := wd_ HB
    have p397 : 0 ≤ (x5_1 : Int) := od_
    have q397 : x5_1 < (l0.length : Int) := od_
    obtain ⟨ad397, e397, hx397_0, hx397_1, hx397_2⟩ := at_T135 HR0.out x5_1 p397 q397
    have hw397_2 := hx397_2
    have hw397_1 := hx397_1
    have hw397_0 := hx397_0
    obtain rfl : ad395 = ad397 := (by injection e397)
    replace hx397_0 := hc_ HB hx397_0
    replace hx397_1 := hc_ HB hx397_1
    replace hx397_2 := hc_ HB hx397_2
    replace p397 := eq_true p397
    replace q397 := eq_true q397
    refine start_ (n := 8) (S := fun w' => w'.cell? (ad395.add ((x5_1).toNat * 3)) = some (.int .i64 ((rd_T135 l0 x5_1).f0)) ∧ w'.cell? ⟨(ad395.add ((x5_1).toNat * 3)).block, (ad395.add ((x5_1).toNat * 3)).off + 1, none⟩ = some (.int .i64 ((rd_T135 l0 x5_1).f1)) ∧ w'.cell? ⟨(ad395.add ((x5_1).toNat * 3)).block, (ad395.add ((x5_1).toNat * 3)).off + 2, none⟩ = some (.string ((rd_T135 l0 x5_1).f2))) (ds := []) #[false, false, false, false, false, false, false, false] (by kernel_rfl) rfl rfl ⟨(hc_ HB hw397_0), (hc_ HB hw397_1), (hc_ HB hw397_2)⟩ (fun hHeld => ?_); refine with_tabW laws_heldEntryS.tab10 laws_heldEntryS.bits10 (fun HT_ HW_ => ?_)
    generalize wr.drew = w11 at HB hx397_0 hx397_1 hx397_2 hHeld ⊢
    refine pv_ 0 30 ?_
    refine pv_ 1 31 ?_
    refine pv_ 2 32 ?_
    refine pv_ 3 33 ?_
    refine pv_ 5 35 ?_
    refine tv_ 4 34 hHeld ?_
    refine one_ (i := 6) (N := some 36) #[true, true, true, true, true, true, true, false] rfl rfl (one_of HT_.out (by kernel_rfl)) (by decide) (fun K hK => ?_)
    refine goes_ Try.func53 (by kernel_rfl) rfl #[.int .i64 (wrap64 ((wrap64 (x1_1 + 1)) + 1))] (by rfl) rfl rfl ga_ ?_
    with_reducible refine (laws_markText.calls k1 (wrap64 ((wrap64 (x1_1 + 1)) + 1)) t398 _ A7.out).mono ?_
    rintro e w12 ⟨rfl, hb⟩
    refine ⟨_, rfl, ?_⟩
    replace HB := bs_ HB hb; (try clear hb); (try clear hb2); (try clear hk); (try clear hi)
    refine hK.out _ _ ⟨(hc_ HB hw397_0), (hc_ HB hw397_1), (hc_ HB hw397_2)⟩ (fun hHeld => ?_)
    clear hK K
    refine norm_ (a' := ?_) ?_ ?_
    rotate_left
    ·show Act.put _ (some 36) _ = _
     simp only [Act.put, sia_, scz_, scs_, i64_w, i32_w]
     rfl
    refine pv_ 7 37 ?_
    refine done_ (done_of HT_.out (by kernel_rfl)) ?_
    try go_wp2
    go_ret
    exact ⟨er_, bw_ HB⟩
   rw [if_pos c8] at H
   have c8b0 : (((rd_T135 l0 x5_1).f2).toList == t398.toList) = true := beq_iff_eq.mpr c8
   have c8b1 : (((rd_T135 l0 x5_1).f2).toList != t398.toList) = false := bne_eq_false_iff_eq.mpr c8
   clear c8
   have H' := Aside0.mk H
   clear H
   have p395 : 0 ≤ (x5_1 : Int) := od_
   have q395 : x5_1 < (l0.length : Int) := od_
   obtain ⟨ad395, e395, hx395_0, hx395_1, hx395_2⟩ := at_T135 HR0.out x5_1 p395 q395
   cases e395
   replace hx395_0 := hc_ HB hx395_0
   replace hx395_1 := hc_ HB hx395_1
   replace hx395_2 := hc_ HB hx395_2
   replace p395 := eq_true p395
   replace q395 := eq_true q395
   have p396 : 0 ≤ (x5_1 : Int) := od_
   have q396 : x5_1 < (l0.length : Int) := od_
   obtain ⟨ad396, e396, hx396_0, hx396_1, hx396_2⟩ := at_T135 HR0.out x5_1 p396 q396
   obtain rfl : ad395 = ad396 := (by injection e396)
   replace hx396_0 := hc_ HB hx396_0
   replace hx396_1 := hc_ HB hx396_1
   replace hx396_2 := hc_ HB hx396_2
   replace p396 := eq_true p396
   replace q396 := eq_true q396
   try go_wp2
   replace HB := wd_ HB
   have p397 : 0 ≤ (x5_1 : Int) := od_
   have q397 : x5_1 < (l0.length : Int) := od_
   obtain ⟨ad397, e397, hx397_0, hx397_1, hx397_2⟩ := at_T135 HR0.out x5_1 p397 q397
   have hw397_2 := hx397_2
   have hw397_1 := hx397_1
   have hw397_0 := hx397_0
   obtain rfl : ad395 = ad397 := (by injection e397)
   replace hx397_0 := hc_ HB hx397_0
   replace hx397_1 := hc_ HB hx397_1
   replace hx397_2 := hc_ HB hx397_2
   replace p397 := eq_true p397
   replace q397 := eq_true q397
   refine start_ (n := 8) (S := fun w' => w'.cell? (ad395.add ((x5_1).toNat * 3)) = some (.int .i64 ((rd_T135 l0 x5_1).f0)) ∧ w'.cell? ⟨(ad395.add ((x5_1).toNat * 3)).block, (ad395.add ((x5_1).toNat * 3)).off + 1, none⟩ = some (.int .i64 ((rd_T135 l0 x5_1).f1)) ∧ w'.cell? ⟨(ad395.add ((x5_1).toNat * 3)).block, (ad395.add ((x5_1).toNat * 3)).off + 2, none⟩ = some (.string ((rd_T135 l0 x5_1).f2))) (ds := []) #[false, false, false, false, false, false, false, false] (by kernel_rfl) rfl rfl ⟨(hc_ HB hw397_0), (hc_ HB hw397_1), (hc_ HB hw397_2)⟩ (fun hHeld => ?_); refine with_tabW laws_heldEntryS.tab10 laws_heldEntryS.bits10 (fun HT_ HW_ => ?_)
   generalize wr.drew = w9 at HB hx397_0 hx397_1 hx397_2 hHeld ⊢
   refine pv_ 0 30 ?_
   refine pv_ 1 31 ?_
   refine pv_ 2 32 ?_
   refine pv_ 3 33 ?_
   refine pv_ 5 35 ?_
   refine tv_ 4 34 hHeld ?_
   refine one_ (i := 6) (N := some 36) #[true, true, true, true, true, true, true, false] rfl rfl (one_of HT_.out (by kernel_rfl)) (by decide) (fun K hK => ?_)
   refine goes_ Try.func53 (by kernel_rfl) rfl #[.int .i64 (wrap64 ((wrap64 (x1_1 + 1)) + 1))] (by rfl) rfl rfl ga_ ?_
   with_reducible refine (laws_markText.calls k1 (wrap64 ((wrap64 (x1_1 + 1)) + 1)) t398 _ A7.out).mono ?_
   rintro e w10 ⟨rfl, hb⟩
   refine ⟨_, rfl, ?_⟩
   replace HB := bs_ HB hb; (try clear hb); (try clear hb2); (try clear hk); (try clear hi)
   refine hK.out _ _ ⟨(hc_ HB hw397_0), (hc_ HB hw397_1), (hc_ HB hw397_2)⟩ (fun hHeld => ?_)
   clear hK K
   refine norm_ (a' := ?_) ?_ ?_
   rotate_left
   ·show Act.put _ (some 36) _ = _
    simp only [Act.put, sia_, scz_, scs_, i64_w, i32_w]
    rfl
   refine pv_ 7 37 ?_
   refine done_ (done_of HT_.out (by kernel_rfl)) ?_
   try go_wp2
   go_roundg k1
   case measure => have := HK1.out; omega
   case rel => exact ⟨(wrap64 ((wrap64 ((wrap64 (x1_1 + 1)) + 1)) + 1)), (wrap64 (x5_1 + 1)), (by first | rfl | (simp; done) | (simp [*]; done) | (simp [bne]; done)), (by first | rfl | (simp; done) | (simp [*]; done) | (simp [bne]; done)), H', ⟨by have := HK1.out; omega⟩, ⟨bw_ HB⟩⟩

/-! ### laws_heldLog: function 75 -/
def laws_heldLog.f (k : Nat) (a0_0 : Int) (a0_1 : Int) (l0_2 : List (S135)) (a1 : Int) : Option (Int) := (laws_heldEntryS.f k l0_2 a1).bind fun t400 => (if t400 < 0 then (some (-1)) else (some t400))
theorem laws_heldLog.mono : ∀ a0 a1 a2 a3 k, LeO (laws_heldLog.f k a0 a1 a2 a3) (laws_heldLog.f (k + 1) a0 a1 a2 a3) := by
 intro a0 a1 a2 a3 k
 unfold laws_heldLog.f
 repeat' first
   | (with_reducible exact laws_heldEntryS.mono _ _ _)
   | (with_reducible exact LeO.refl _)
   | (with_reducible refine LeO.bind ?_ (fun _ => ?_))
set_option maxHeartbeats 8000000 in
set_option maxRecDepth 100000 in
theorem laws_heldLog.calls (k : Nat) (a0_0 : Int) (a0_1 : Int) (A0_2 : Option Addr) (c0_2 : Nat) (l0_2 : List (S135)) (a1 : Int) (r : Int) (w : World) (hr0_2 : Kd.C k135 w A0_2 l0_2.length l0_2) (hc0_2 : l0_2.length ≤ c0_2) (h : laws_heldLog.f k a0_0 a0_1 l0_2 a1 = some r) :
  Calls Try.prog 75 #[.agg #[.int .i64 a0_0, .int .i64 a0_1, .slice A0_2 l0_2.length c0_2], .int .i64 a1] w fun e w' => e = .returned (.int .i64 r) ∧ Below w.heap.size w w' := by
 have hu59 := Try.underlying59
 have HR0_2 := Aside0.mk hr0_2
 have HC0_2 := Aside0.mk hc0_2
 clear hr0_2 hc0_2
 have HB := mk_ (Below.refl w.heap.size w)
 have H : ((laws_heldEntryS.f k l0_2 a1).bind fun t400 => (if t400 < 0 then (some (-1)) else (some t400))) = some r := h
 clear h
 replace H := Option.bind_eq_some_iff.mp H
 obtain ⟨t400, A30, H⟩ := H
 try dsimp only at H
 have A3 := Aside0.mk A30
 clear A30
 by_cases c4 : t400 < 0
 rotate_left
 ·rw [if_neg c4] at H
  have c4b0 : decide (t400 < 0) = false := decide_eq_false c4
  clear c4
  obtain rfl := Option.some.inj H
  go_enter Try.func75, Try.ntmps75
  go_wp2_with (first | ((with_reducible refine gate_dst (N := 2) rfl ?_); refine bx_ (N := 2) (cs := #[.int .i64 a0_0, .int .i64 a0_1, .slice A0_2 l0_2.length c0_2]) (t := 59) ?_; intro gb399 hg w8 hbox hb; have BK399 := mk_ (hbox); have GW399 : Aside0 (w.heap.size ≤ gb399) := bz_ hg; have GE399 := GW399; replace HB := bs_ HB hb; clear hb hbox hg; obtain ⟨hcz9_0, hcz9_1, hcz9_2, hfz9_0, hfz9_1, hfz9_2⟩ := b3_ BK399) | ((with_reducible refine gate_callee (f := 112) rfl ?_); refine gl_ 8 Try.func112 #[.slice A0_2 l0_2.length c0_2, .int .i64 a1] ?_; (with_reducible refine (laws_heldEntryS.calls k _ _ l0_2 a1 t400 _ ?side1 ?side2 A3.out).mono ?_); (case side1 => exact cb_ HR0_2 HB); (case side2 => exact HC0_2.out); rintro e w10 ⟨rfl, hb⟩; refine ⟨_, rfl, ?_⟩; replace BK399 := bb_ BK399 hb; replace HB := bs_ HB hb; (try clear hb)))
  go_ret
  exact ⟨er_, bw_ HB⟩
 rw [if_pos c4] at H
 have c4b0 : decide (t400 < 0) = true := decide_eq_true c4
 clear c4
 obtain rfl := Option.some.inj H
 go_enter Try.func75, Try.ntmps75
 go_wp2_with (first | ((with_reducible refine gate_dst (N := 2) rfl ?_); refine bx_ (N := 2) (cs := #[.int .i64 a0_0, .int .i64 a0_1, .slice A0_2 l0_2.length c0_2]) (t := 59) ?_; intro gb399 hg w5 hbox hb; have BK399 := mk_ (hbox); have GW399 : Aside0 (w.heap.size ≤ gb399) := bz_ hg; have GE399 := GW399; replace HB := bs_ HB hb; clear hb hbox hg; obtain ⟨hcz6_0, hcz6_1, hcz6_2, hfz6_0, hfz6_1, hfz6_2⟩ := b3_ BK399) | ((with_reducible refine gate_callee (f := 112) rfl ?_); refine gl_ 8 Try.func112 #[.slice A0_2 l0_2.length c0_2, .int .i64 a1] ?_; (with_reducible refine (laws_heldEntryS.calls k _ _ l0_2 a1 t400 _ ?side1 ?side2 A3.out).mono ?_); (case side1 => exact cb_ HR0_2 HB); (case side2 => exact HC0_2.out); rintro e w7 ⟨rfl, hb⟩; refine ⟨_, rfl, ?_⟩; replace BK399 := bb_ BK399 hb; replace HB := bs_ HB hb; (try clear hb)))
 go_ret
 exact ⟨er_, bw_ HB⟩

/-! ### laws_heldJournal: function 33 -/
def laws_heldJournal.f (k : Nat) (a0_0 : Int) (a0_1 : Int) (a0_2 : Int) (a0_3 : Int) (a0_4 : Int) (l0_5 : List (S135)) (a1 : Int) : Option (Int) := (laws_heldLog.f k a0_3 a0_4 l0_5 a1).bind fun t402 => (if t402 < 0 then (some (-1)) else (some t402))
theorem laws_heldJournal.mono : ∀ a0 a1 a2 a3 a4 a5 a6 k, LeO (laws_heldJournal.f k a0 a1 a2 a3 a4 a5 a6) (laws_heldJournal.f (k + 1) a0 a1 a2 a3 a4 a5 a6) := by
 intro a0 a1 a2 a3 a4 a5 a6 k
 unfold laws_heldJournal.f
 repeat' first
   | (with_reducible exact laws_heldLog.mono _ _ _ _ _)
   | (with_reducible exact LeO.refl _)
   | (with_reducible refine LeO.bind ?_ (fun _ => ?_))
set_option maxHeartbeats 8000000 in
set_option maxRecDepth 100000 in
theorem laws_heldJournal.calls (k : Nat) (a0_0 : Int) (a0_1 : Int) (a0_2 : Int) (a0_3 : Int) (a0_4 : Int) (A0_5 : Option Addr) (c0_5 : Nat) (l0_5 : List (S135)) (a1 : Int) (r : Int) (w : World) (hr0_5 : Kd.C k135 w A0_5 l0_5.length l0_5) (hc0_5 : l0_5.length ≤ c0_5) (h : laws_heldJournal.f k a0_0 a0_1 a0_2 a0_3 a0_4 l0_5 a1 = some r) :
  Calls Try.prog 33 #[.agg #[.int .i64 a0_0, .int .i64 a0_1, .int .i64 a0_2, .int .i64 a0_3, .int .i64 a0_4, .slice A0_5 l0_5.length c0_5], .int .i64 a1] w fun e w' => e = .returned (.int .i64 r) ∧ Below w.heap.size w w' := by
 have hu61 := Try.underlying61
 have hu59 := Try.underlying59
 have HR0_5 := Aside0.mk hr0_5
 have HC0_5 := Aside0.mk hc0_5
 clear hr0_5 hc0_5
 have HB := mk_ (Below.refl w.heap.size w)
 have H : ((laws_heldLog.f k a0_3 a0_4 l0_5 a1).bind fun t402 => (if t402 < 0 then (some (-1)) else (some t402))) = some r := h
 clear h
 replace H := Option.bind_eq_some_iff.mp H
 obtain ⟨t402, A30, H⟩ := H
 try dsimp only at H
 have A3 := Aside0.mk A30
 clear A30
 by_cases c4 : t402 < 0
 rotate_left
 ·rw [if_neg c4] at H
  have c4b0 : decide (t402 < 0) = false := decide_eq_false c4
  clear c4
  obtain rfl := Option.some.inj H
  go_enter Try.func33, Try.ntmps33
  go_wp2_with (first | ((with_reducible refine gate_dst (N := 2) rfl ?_); refine bx_ (N := 2) (cs := #[.int .i64 a0_0, .int .i64 a0_1, .int .i64 a0_2, .int .i64 a0_3, .int .i64 a0_4, .slice A0_5 l0_5.length c0_5]) (t := 61) ?_; intro gb401 hg w8 hbox hb; have BK401 := mk_ (hbox); have GW401 : Aside0 (w.heap.size ≤ gb401) := bz_ hg; have GE401 := GW401; replace HB := bs_ HB hb; clear hb hbox hg; obtain ⟨hcz9_0, hcz9_1, hcz9_2, hcz9_3, hcz9_4, hcz9_5, hfz9_0, hfz9_1, hfz9_2, hfz9_3, hfz9_4, hfz9_5⟩ := b6_ BK401) | ((with_reducible refine gate_callee (f := 75) rfl ?_); refine gl_ 8 Try.func75 #[.agg #[.int .i64 a0_3, .int .i64 a0_4, .slice A0_5 l0_5.length c0_5], .int .i64 a1] ?_; (with_reducible refine (laws_heldLog.calls k a0_3 a0_4 _ _ l0_5 a1 t402 _ ?side1 ?side2 A3.out).mono ?_); (case side1 => exact cb_ HR0_5 HB); (case side2 => exact HC0_5.out); rintro e w10 ⟨rfl, hb⟩; refine ⟨_, rfl, ?_⟩; replace BK401 := bb_ BK401 hb; replace HB := bs_ HB hb; (try clear hb)))
  go_ret
  exact ⟨er_, bw_ HB⟩
 rw [if_pos c4] at H
 have c4b0 : decide (t402 < 0) = true := decide_eq_true c4
 clear c4
 obtain rfl := Option.some.inj H
 go_enter Try.func33, Try.ntmps33
 go_wp2_with (first | ((with_reducible refine gate_dst (N := 2) rfl ?_); refine bx_ (N := 2) (cs := #[.int .i64 a0_0, .int .i64 a0_1, .int .i64 a0_2, .int .i64 a0_3, .int .i64 a0_4, .slice A0_5 l0_5.length c0_5]) (t := 61) ?_; intro gb401 hg w5 hbox hb; have BK401 := mk_ (hbox); have GW401 : Aside0 (w.heap.size ≤ gb401) := bz_ hg; have GE401 := GW401; replace HB := bs_ HB hb; clear hb hbox hg; obtain ⟨hcz6_0, hcz6_1, hcz6_2, hcz6_3, hcz6_4, hcz6_5, hfz6_0, hfz6_1, hfz6_2, hfz6_3, hfz6_4, hfz6_5⟩ := b6_ BK401) | ((with_reducible refine gate_callee (f := 75) rfl ?_); refine gl_ 8 Try.func75 #[.agg #[.int .i64 a0_3, .int .i64 a0_4, .slice A0_5 l0_5.length c0_5], .int .i64 a1] ?_; (with_reducible refine (laws_heldLog.calls k a0_3 a0_4 _ _ l0_5 a1 t402 _ ?side1 ?side2 A3.out).mono ?_); (case side1 => exact cb_ HR0_5 HB); (case side2 => exact HC0_5.out); rintro e w7 ⟨rfl, hb⟩; refine ⟨_, rfl, ?_⟩; replace BK401 := bb_ BK401 hb; replace HB := bs_ HB hb; (try clear hb)))
 go_ret
 exact ⟨er_, bw_ HB⟩

end Go.Proofs.Ythbaoefbccdioaa.QFnExactReadJournal
