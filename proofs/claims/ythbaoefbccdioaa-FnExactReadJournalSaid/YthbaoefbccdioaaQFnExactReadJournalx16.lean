/- Written by this session's own program (wip/tpl/pp.py): what the law's functions come to, and that the machine's calls do just that. -/
import Derived.Test.YthbaoefbccdioaaTMPack
import Derived.Test.YthbaoefbccdioaaQFnExactReadJournalx0
import Derived.Test.YthbaoefbccdioaaQFnExactReadJournalx8
import Derived.Test.YthbaoefbccdioaaQFnExactReadJournalx13
import Derived.Test.YthbaoefbccdioaaQFnExactReadJournalx14
import Derived.Test.YthbaoefbccdioaaQFnExactReadJournalx15
namespace Go.Proofs.Ythbaoefbccdioaa.QFnExactReadJournal
open Go.RowKit Go.Proofs.YthbaoefbccdioaaW.PrintWords Go.Proofs.YthbaoefbccdioaaW.PrintLast Go.Proofs.YthbaoefbccdioaaW.PrintMore
attribute [local go_sem] Go.Proofs.Ythbaoefbccdioaa.Sem.string_geq Go.Proofs.Ythbaoefbccdioaa.Sem.string_leq Go.Proofs.Ythbaoefbccdioaa.Sem.string_gtr
attribute [local go_sem] max2_int min2_int max_two min_two max_three min_three max_four min_four   -- for this text's walks alone
set_option linter.unusedVariables false
set_option linter.unusedSimpArgs false

/-! ### laws_FnExactReadJournal: function 6 -/
mutual
def laws_FnExactReadJournal.j0 : Nat → Int → ByteArray → Int → Bool → Bool → Int → Int → Int → Int → Int → List (S135) → Int → Int → Int → Int → Int → List (S135) → Option (Bool)
 | 0, _, _, _, _, _, _, _, _, _, _, _, _, _, _, _, _, _ => none
 | k + 1, x0, x1, x6, x7, x46, x414000, x414001, x414002, x414003, x414004, x414005, x425000, x425001, x425002, x425003, x425004, x425005 => if x46 = true then (none) else ((laws_markJournal.f k x425000 x425001 x425002 x425003 x425004 x425005 1).bind fun bt426 => ((laws_heldJournal.f k x425000 x425001 x425002 x425003 x425004 bt426.2 1).bind fun t428 => (if t428 < 0 then (none) else (if t428 = bt426.1 then ((impl_ReadJournal.f k x0 x1).bind fun bt429 => ((laws_eqJournal.f k bt429.1 bt429.2.1 bt429.2.2.1 bt429.2.2.2.1 bt429.2.2.2.2.1 bt429.2.2.2.2.2.1 x414000 x414001 x414002 x414003 x414004 x414005).bind fun t440 => (if t440 = true then (if bt429.2.2.2.2.2.2.1 = x6 then (laws_FnExactReadJournal.j1 k bt426.1 (bt429.2.2.2.2.2.2.2 != x7) x425000 x425001 x425002 x425003 x425004 bt426.2) else (none)) else (none)))) else (none)))))
def laws_FnExactReadJournal.j1 : Nat → Int → Bool → Int → Int → Int → Int → Int → List (S135) → Option (Bool)
 | 0, _, _, _, _, _, _, _, _ => none
 | k + 1, x11, x78, x425000, x425001, x425002, x425003, x425004, x425005 => if x78 = true then (none) else ((laws_heldJournal.f k x425000 x425001 x425002 x425003 x425004 x425005 1).bind fun t441 => (if t441 < 0 then (none) else (if t441 = x11 then (some true) else (none))))
end
def laws_FnExactReadJournal.f (k : Nat) (a0 : Int) (a1 : ByteArray) : Option (Bool) := if (a1.size : Int) > 1048576 then (some true) else ((spec_ReadJournal.f k a0 a1).bind fun bt403 => ((impl_ReadJournal.f k a0 a1).bind fun bt414 => ((laws_eqJournal.f k bt414.1 bt414.2.1 bt414.2.2.1 bt414.2.2.2.1 bt414.2.2.2.2.1 bt414.2.2.2.2.2.1 bt403.1 bt403.2.1 bt403.2.2.1 bt403.2.2.2.1 bt403.2.2.2.2.1 bt403.2.2.2.2.2.1).bind fun t425 => (if t425 = true then (if bt414.2.2.2.2.2.2.1 = bt403.2.2.2.2.2.2.1 then (laws_FnExactReadJournal.j0 k a0 a1 bt403.2.2.2.2.2.2.1 bt403.2.2.2.2.2.2.2 (bt414.2.2.2.2.2.2.2 != bt403.2.2.2.2.2.2.2) bt403.1 bt403.2.1 bt403.2.2.1 bt403.2.2.2.1 bt403.2.2.2.2.1 bt403.2.2.2.2.2.1 bt414.1 bt414.2.1 bt414.2.2.1 bt414.2.2.2.1 bt414.2.2.2.2.1 bt414.2.2.2.2.2.1) else (none)) else (none)))))
theorem laws_FnExactReadJournal.mono_l : ∀ k, (∀ y0 y1 y2 y3 y4 y5 y6 y7 y8 y9 y10 y11 y12 y13 y14 y15 y16, LeO (laws_FnExactReadJournal.j0 k y0 y1 y2 y3 y4 y5 y6 y7 y8 y9 y10 y11 y12 y13 y14 y15 y16) (laws_FnExactReadJournal.j0 (k + 1) y0 y1 y2 y3 y4 y5 y6 y7 y8 y9 y10 y11 y12 y13 y14 y15 y16)) ∧ (∀ y0 y1 y2 y3 y4 y5 y6 y7, LeO (laws_FnExactReadJournal.j1 k y0 y1 y2 y3 y4 y5 y6 y7) (laws_FnExactReadJournal.j1 (k + 1) y0 y1 y2 y3 y4 y5 y6 y7))
 | 0 => ⟨fun _ _ _ _ _ _ _ _ _ _ _ _ _ _ _ _ _ r h => by simp [laws_FnExactReadJournal.j0] at h, fun _ _ _ _ _ _ _ _ r h => by simp [laws_FnExactReadJournal.j1] at h⟩
 | k + 1 => by
  obtain ⟨ih0, ih1⟩ := laws_FnExactReadJournal.mono_l k
  refine ⟨?_, ?_⟩
  ·intro y0 y1 y2 y3 y4 y5 y6 y7 y8 y9 y10 y11 y12 y13 y14 y15 y16
   unfold laws_FnExactReadJournal.j0
   repeat' first
   | (with_reducible exact ih1 _ _ _ _ _ _ _ _)
   | (with_reducible exact impl_ReadJournal.mono _ _ _)
   | (with_reducible exact laws_eqJournal.mono _ _ _ _ _ _ _ _ _ _ _ _ _)
   | (with_reducible exact laws_heldJournal.mono _ _ _ _ _ _ _ _)
   | (with_reducible exact laws_markJournal.mono _ _ _ _ _ _ _ _)
   | (with_reducible exact LeO.refl _)
   | (with_reducible refine LeO.ite ?_ ?_)
   | (with_reducible refine LeO.bind ?_ (fun _ => ?_))
  ·intro y0 y1 y2 y3 y4 y5 y6 y7
   unfold laws_FnExactReadJournal.j1
   repeat' first
   | (with_reducible exact laws_heldJournal.mono _ _ _ _ _ _ _ _)
   | (with_reducible exact LeO.refl _)
   | (with_reducible refine LeO.ite ?_ ?_)
   | (with_reducible refine LeO.bind ?_ (fun _ => ?_))
theorem laws_FnExactReadJournal.mono : ∀ a0 a1 k, LeO (laws_FnExactReadJournal.f k a0 a1) (laws_FnExactReadJournal.f (k + 1) a0 a1) := by
 intro a0 a1 k
 obtain ⟨ih0, ih1⟩ := laws_FnExactReadJournal.mono_l k
 unfold laws_FnExactReadJournal.f
 repeat' first
   | (with_reducible exact ih0 _ _ _ _ _ _ _ _ _ _ _ _ _ _ _ _ _)
   | (with_reducible exact impl_ReadJournal.mono _ _ _)
   | (with_reducible exact laws_eqJournal.mono _ _ _ _ _ _ _ _ _ _ _ _ _)
   | (with_reducible exact spec_ReadJournal.mono _ _ _)
   | (with_reducible exact LeO.refl _)
   | (with_reducible refine LeO.ite ?_ ?_)
   | (with_reducible refine LeO.bind ?_ (fun _ => ?_))
set_option maxHeartbeats 8000000 in
set_option maxRecDepth 100000 in
theorem laws_FnExactReadJournal.calls (k : Nat) (a0 : Int) (a1 : ByteArray) (r : Bool) (w : World) (h : laws_FnExactReadJournal.f k a0 a1 = some r) :
  Calls Try.prog 6 #[.int .i64 a0, .string a1] w fun e w' => e = .returned (.bool r) ∧ Below w.heap.size w w' := by
 have hu61 := Try.underlying61
 have HB := mk_ (Below.refl w.heap.size w)
 have H : (if (a1.size : Int) > 1048576 then (some true) else ((spec_ReadJournal.f k a0 a1).bind fun bt403 => ((impl_ReadJournal.f k a0 a1).bind fun bt414 => ((laws_eqJournal.f k bt414.1 bt414.2.1 bt414.2.2.1 bt414.2.2.2.1 bt414.2.2.2.2.1 bt414.2.2.2.2.2.1 bt403.1 bt403.2.1 bt403.2.2.1 bt403.2.2.2.1 bt403.2.2.2.2.1 bt403.2.2.2.2.2.1).bind fun t425 => (if t425 = true then (if bt414.2.2.2.2.2.2.1 = bt403.2.2.2.2.2.2.1 then (laws_FnExactReadJournal.j0 k a0 a1 bt403.2.2.2.2.2.2.1 bt403.2.2.2.2.2.2.2 (bt414.2.2.2.2.2.2.2 != bt403.2.2.2.2.2.2.2) bt403.1 bt403.2.1 bt403.2.2.1 bt403.2.2.2.1 bt403.2.2.2.2.1 bt403.2.2.2.2.2.1 bt414.1 bt414.2.1 bt414.2.2.1 bt414.2.2.2.1 bt414.2.2.2.2.1 bt414.2.2.2.2.2.1) else (none)) else (none)))))) = some r := h
 clear h
 by_cases c3 : (a1.size : Int) > 1048576
 ·rw [if_pos c3] at H
  have c3b0 : decide (1048576 < (a1.size : Int)) = true := decide_eq_true c3
  have c3b1 : decide (1048576 < a1.size) = true := decide_eq_true (by omega)
  clear c3
  obtain rfl := Option.some.inj H
  go_enter Try.func6, Try.ntmps6
  go_wp2
  go_ret
  exact ⟨er_, bw_ HB⟩
 rw [if_neg c3] at H
 have c3b0 : decide (1048576 < (a1.size : Int)) = false := decide_eq_false c3
 have c3b1 : decide (1048576 < a1.size) = false := decide_eq_false (by omega)
 clear c3
 replace H := Option.bind_eq_some_iff.mp H
 obtain ⟨⟨t403, t404, t405, t406, t407, t408, t411, t412⟩, A40, H⟩ := H
 try dsimp only at H
 have A4 := Aside0.mk A40
 clear A40
 replace H := Option.bind_eq_some_iff.mp H
 obtain ⟨⟨t414, t415, t416, t417, t418, t419, t422, t423⟩, A50, H⟩ := H
 try dsimp only at H
 have A5 := Aside0.mk A50
 clear A50
 have HC6 := Aside0.mk H
 clear H
 go_enter Try.func6, Try.ntmps6
 go_upto_region 5 with (first | ((with_reducible refine gate_callee (f := 29) rfl ?_); refine gl_ 22 Try.func29 #[.int .i64 a0, .string a1] ?_; (with_reducible refine (spec_ReadJournal.calls k a0 a1 t403 t404 t405 t406 t407 t408 t411 t412 _ A4.out).mono ?_); rintro e w7 ⟨v409, rfl, ho0, hb⟩; refine ⟨_, rfl, ?_⟩; have HO410 := mk_ (Kd.R_lower ho0 (below_size (bw_ HB))); replace HB := bs_ HB hb; (try clear hb); (try clear hk); (try clear ho0)) | ((with_reducible refine gate_dst (N := 5) rfl ?_); refine bx_ (N := 5) (cs := #[.int .i64 0, .int .i64 0, .int .i64 0, .int .i64 0, .int .i64 0, .slice none 0 0]) (t := 61) ?_; intro gb413 hg w8 hbox hb; have BK413 := mk_ (hbox); have GW413 : Aside0 (w.heap.size ≤ gb413) := bz_ hg; have GE413 := GW413; replace HO410 := rb_ HO410 hb; replace HB := bs_ HB hb; clear hb hbox hg; obtain ⟨hcz9_0, hcz9_1, hcz9_2, hcz9_3, hcz9_4, hcz9_5, hfz9_0, hfz9_1, hfz9_2, hfz9_3, hfz9_4, hfz9_5⟩ := b6_ BK413; obtain ⟨Ao10, co10, eo10⟩ := Kd.R_slice HO410.out; subst eo10) | ((with_reducible refine gate_callee (f := 30) rfl ?_); refine gl_ 29 Try.func30 #[.int .i64 a0, .string a1] ?_; (with_reducible refine (impl_ReadJournal.calls k a0 a1 t414 t415 t416 t417 t418 t419 t422 t423 _ A5.out).mono ?_); rintro e w11 ⟨v420, rfl, ho0, hb⟩; refine ⟨_, rfl, ?_⟩; have HO421 := mk_ (Kd.R_lower (Kd.R_new' ho0 (Kd.R_lt (rq_ (Kd.R_mono (Kd.R_far (p := ⟨gb413, 5, none⟩) (Kd.R_far (p := ⟨gb413, 4, none⟩) (Kd.R_far (p := ⟨gb413, 3, none⟩) (Kd.R_far (p := ⟨gb413, 2, none⟩) (Kd.R_far (p := ⟨gb413, 1, none⟩) (Kd.R_far (p := ⟨gb413, 0, none⟩) (Kd.R_types HO410.out BK413.out (by decide)) (fun _ hk => hk.2) (.int .i64 t403)) (fun _ hk => hk.2) (.int .i64 t404)) (fun _ hk => hk.2) (.int .i64 t405)) (fun _ hk => hk.2) (.int .i64 t406)) (fun _ hk => hk.2) (.int .i64 t407)) (fun _ hk => hk.2) (.slice Ao10 t408.length co10)) (fun _ h_ => h_.1))))) (below_size (bw_ HB))); replace HO410 := mk_ (Kd.R_elder' (rq_ (Kd.R_mono (Kd.R_far (p := ⟨gb413, 5, none⟩) (Kd.R_far (p := ⟨gb413, 4, none⟩) (Kd.R_far (p := ⟨gb413, 3, none⟩) (Kd.R_far (p := ⟨gb413, 2, none⟩) (Kd.R_far (p := ⟨gb413, 1, none⟩) (Kd.R_far (p := ⟨gb413, 0, none⟩) (Kd.R_types HO410.out BK413.out (by decide)) (fun _ hk => hk.2) (.int .i64 t403)) (fun _ hk => hk.2) (.int .i64 t404)) (fun _ hk => hk.2) (.int .i64 t405)) (fun _ hk => hk.2) (.int .i64 t406)) (fun _ hk => hk.2) (.int .i64 t407)) (fun _ hk => hk.2) (.slice Ao10 t408.length co10)) (fun _ h_ => h_.1))) (Kd.R_base ho0) hb); replace BK413 := mk_ (blk_below (g := gb413) (o := .cells #[.int .i64 t403, .int .i64 t404, .int .i64 t405, .int .i64 t406, .int .i64 t407, .slice Ao10 t408.length co10] 61 (0, 0)) bu_ hb); replace HB := bs_ HB hb; (try clear hb); (try clear hk); (try clear ho0)) | ((with_reducible refine gate_dst (N := 8) rfl ?_); refine bx_ (N := 8) (cs := #[.int .i64 0, .int .i64 0, .int .i64 0, .int .i64 0, .int .i64 0, .slice none 0 0]) (t := 61) ?_; intro gb424 hg w12 hbox hb; have BK424 := mk_ (hbox); have GW424 : Aside0 (w.heap.size ≤ gb424) := bz_ hg; have GE424 := GW424; have NB413_424 := bl_ BK413 hg; have NB424_413 := bg_ BK413 hg; replace HO410 := rb_ HO410 hb; replace HO421 := rb_ HO421 hb; replace BK413 := bb_ BK413 hb; replace HB := bs_ HB hb; clear hb hbox hg; obtain ⟨hnb13, hnc13⟩ := ns_ NB424_413; obtain ⟨hcz14_0, hcz14_1, hcz14_2, hcz14_3, hcz14_4, hcz14_5, hfz14_0, hfz14_1, hfz14_2, hfz14_3, hfz14_4, hfz14_5⟩ := b6_ BK424; obtain ⟨Ao15, co15, eo15⟩ := Kd.R_slice HO421.out; subst eo15))
 (try simp only [Act.put, sia_, scz_, scs_])
 go_cut [46] (fun v46 wc => ∃ (kq : Nat) (x46_5 : Bool), v46 = .bool x46_5 ∧ Aside0 (laws_FnExactReadJournal.j0 kq a0 a1 t411 t412 x46_5 t403 t404 t405 t406 t407 t408 t414 t415 t416 t417 t418 t419 = some r) ∧ Aside0 (kq ≤ k) ∧ Aside0 (Kd.R k135 135 wc w.heap.size (fun k_ => some k_ ≠ ((.slice Ao15 t419.length co15) : Value).ownBlock) (.slice Ao10 t408.length co10) t408) ∧ Aside0 (Kd.R k135 135 wc w.heap.size (fun k_ => some k_ ≠ ((.slice Ao10 t408.length co10) : Value).ownBlock) (.slice Ao15 t419.length co15) t419) ∧ Aside0 (wc.heap[gb413]? = some (.cells #[.int .i64 t403, .int .i64 t404, .int .i64 t405, .int .i64 t406, .int .i64 t407, (.slice Ao10 t408.length co10)] 61 (0, 0))) ∧ Aside0 (wc.heap[gb424]? = some (.cells #[.int .i64 t414, .int .i64 t415, .int .i64 t416, .int .i64 t417, .int .i64 t418, (.slice Ao15 t419.length co15)] 61 (0, 0))) ∧ Aside0 (Below w.heap.size w wc))
 case first =>
  have H := HC6.out
  clear HC6
  replace H := Option.bind_eq_some_iff.mp H
  obtain ⟨t425, A160, H⟩ := H
  try dsimp only at H
  have A16 := Aside0.mk A160
  clear A160
  by_cases c17 : t425 = true
  rotate_left
  ·replace c17 := Bool.eq_false_iff.mpr c17
   subst c17
   rw [if_neg (show ¬ (false = true) by decide)] at H
   exact absurd H (by simp)
  subst c17
  rw [if_pos rfl] at H
  by_cases c18 : t422 = t411
  rotate_left
  ·rw [if_neg c18] at H
   exact absurd H (by simp)
  rw [if_pos c18] at H
  have c18b0 : (t422 == t411) = true := beq_iff_eq.mpr c18
  have c18b1 : (t422 != t411) = false := bne_eq_false_iff_eq.mpr c18
  clear c18
  (first | rw [c18b0] | (simp only [i64_w, i32_w]; rw [c18b0]) | skip)
  have H' := Aside0.mk H
  clear H
  obtain ⟨hnb19, hnc19⟩ := ns_ NB424_413
  have hcz20_0 : w12.cell? ⟨gb424, 0, none⟩ = some (.int .i64 0) := bc_ BK424 0
  have hcz20_1 : w12.cell? ⟨gb424, 1, none⟩ = some (.int .i64 0) := bc_ BK424 1
  have hcz20_2 : w12.cell? ⟨gb424, 2, none⟩ = some (.int .i64 0) := bc_ BK424 2
  have hcz20_3 : w12.cell? ⟨gb424, 3, none⟩ = some (.int .i64 0) := bc_ BK424 3
  have hcz20_4 : w12.cell? ⟨gb424, 4, none⟩ = some (.int .i64 0) := bc_ BK424 4
  have hcz20_5 : w12.cell? ⟨gb424, 5, none⟩ = some (.slice none 0 0) := bc_ BK424 5
  have hfz20_0 := blk_frozen BK424.out 0
  have hfz20_1 := blk_frozen BK424.out 1
  have hfz20_2 := blk_frozen BK424.out 2
  have hfz20_3 := blk_frozen BK424.out 3
  have hfz20_4 := blk_frozen BK424.out 4
  have hfz20_5 := blk_frozen BK424.out 5
  have hcz21_0 : w12.cell? ⟨gb413, 0, none⟩ = some (.int .i64 t403) := bc_ BK413 0
  have hcz21_1 : w12.cell? ⟨gb413, 1, none⟩ = some (.int .i64 t404) := bc_ BK413 1
  have hcz21_2 : w12.cell? ⟨gb413, 2, none⟩ = some (.int .i64 t405) := bc_ BK413 2
  have hcz21_3 : w12.cell? ⟨gb413, 3, none⟩ = some (.int .i64 t406) := bc_ BK413 3
  have hcz21_4 : w12.cell? ⟨gb413, 4, none⟩ = some (.int .i64 t407) := bc_ BK413 4
  have hcz21_5 : w12.cell? ⟨gb413, 5, none⟩ = some (.slice Ao10 t408.length co10) := bc_ BK413 5
  have hfz21_0 := blk_frozen BK413.out 0
  have hfz21_1 := blk_frozen BK413.out 1
  have hfz21_2 := blk_frozen BK413.out 2
  have hfz21_3 := blk_frozen BK413.out 3
  have hfz21_4 := blk_frozen BK413.out 4
  have hfz21_5 := blk_frozen BK413.out 5
  go_wp2_with (first | ((with_reducible refine gate_callee (f := 31) rfl ?_); refine gl_ 35 Try.func31 #[.agg #[.int .i64 t414, .int .i64 t415, .int .i64 t416, .int .i64 t417, .int .i64 t418, .slice Ao15 t419.length co15], .agg #[.int .i64 t403, .int .i64 t404, .int .i64 t405, .int .i64 t406, .int .i64 t407, .slice Ao10 t408.length co10]] ?_; (with_reducible refine (laws_eqJournal.calls k t414 t415 t416 t417 t418 _ _ t419 t403 t404 t405 t406 t407 _ _ t408 true _ ?side1 ?side2 ?side3 ?side4 A16.out).mono ?_); (case side1 => refine (Kd.R_reads' (e := 135) (base := w.heap.size) (ok := fun k_ => (True ∧ some k_ ≠ (.slice Ao10 t408.length co10 : Value).ownBlock)) (n := t419.length) (c := co15) ?_).2.2; exact (rq_ (Kd.R_mono (Kd.R_far (p := ⟨gb424, 5, none⟩) (Kd.R_far (p := ⟨gb424, 4, none⟩) (Kd.R_far (p := ⟨gb424, 3, none⟩) (Kd.R_far (p := ⟨gb424, 2, none⟩) (Kd.R_far (p := ⟨gb424, 1, none⟩) (Kd.R_far (p := ⟨gb424, 0, none⟩) (Kd.R_types HO421.out BK424.out (by decide)) (fun _ hk => hk.2) (.int .i64 t414)) (fun _ hk => hk.2) (.int .i64 t415)) (fun _ hk => hk.2) (.int .i64 t416)) (fun _ hk => hk.2) (.int .i64 t417)) (fun _ hk => hk.2) (.int .i64 t418)) (fun _ hk => hk.2) (.slice Ao15 t419.length co15)) (fun _ h_ => h_.1)))); (case side2 => exact (Kd.R_reads' HO421.out).2.1); (case side3 => refine (Kd.R_reads' (e := 135) (base := w.heap.size) (ok := fun k_ => (True ∧ some k_ ≠ (.slice Ao15 t419.length co15 : Value).ownBlock)) (n := t408.length) (c := co10) ?_).2.2; exact (rq_ (Kd.R_mono (Kd.R_far (p := ⟨gb424, 5, none⟩) (Kd.R_far (p := ⟨gb424, 4, none⟩) (Kd.R_far (p := ⟨gb424, 3, none⟩) (Kd.R_far (p := ⟨gb424, 2, none⟩) (Kd.R_far (p := ⟨gb424, 1, none⟩) (Kd.R_far (p := ⟨gb424, 0, none⟩) (Kd.R_types HO410.out BK424.out (by decide)) (fun _ hk => hk.2) (.int .i64 t414)) (fun _ hk => hk.2) (.int .i64 t415)) (fun _ hk => hk.2) (.int .i64 t416)) (fun _ hk => hk.2) (.int .i64 t417)) (fun _ hk => hk.2) (.int .i64 t418)) (fun _ hk => hk.2) (.slice Ao15 t419.length co15)) (fun _ h_ => h_.1)))); (case side4 => exact (Kd.R_reads' HO410.out).2.1); rintro e w22 ⟨rfl, hb⟩; refine ⟨_, rfl, ?_⟩; replace HO410 := mk_ (Kd.R_below (rq_ (Kd.R_mono (Kd.R_far (p := ⟨gb424, 5, none⟩) (Kd.R_far (p := ⟨gb424, 4, none⟩) (Kd.R_far (p := ⟨gb424, 3, none⟩) (Kd.R_far (p := ⟨gb424, 2, none⟩) (Kd.R_far (p := ⟨gb424, 1, none⟩) (Kd.R_far (p := ⟨gb424, 0, none⟩) (Kd.R_types HO410.out BK424.out (by decide)) (fun _ hk => hk.2) (.int .i64 t414)) (fun _ hk => hk.2) (.int .i64 t415)) (fun _ hk => hk.2) (.int .i64 t416)) (fun _ hk => hk.2) (.int .i64 t417)) (fun _ hk => hk.2) (.int .i64 t418)) (fun _ hk => hk.2) (.slice Ao15 t419.length co15)) (fun _ h_ => h_.1))) hb); replace HO421 := mk_ (Kd.R_below (rq_ (Kd.R_mono (Kd.R_far (p := ⟨gb424, 5, none⟩) (Kd.R_far (p := ⟨gb424, 4, none⟩) (Kd.R_far (p := ⟨gb424, 3, none⟩) (Kd.R_far (p := ⟨gb424, 2, none⟩) (Kd.R_far (p := ⟨gb424, 1, none⟩) (Kd.R_far (p := ⟨gb424, 0, none⟩) (Kd.R_types HO421.out BK424.out (by decide)) (fun _ hk => hk.2) (.int .i64 t414)) (fun _ hk => hk.2) (.int .i64 t415)) (fun _ hk => hk.2) (.int .i64 t416)) (fun _ hk => hk.2) (.int .i64 t417)) (fun _ hk => hk.2) (.int .i64 t418)) (fun _ hk => hk.2) (.slice Ao15 t419.length co15)) (fun _ h_ => h_.1))) hb); replace BK413 := mk_ (blk_below (g := gb413) (o := .cells #[.int .i64 t403, .int .i64 t404, .int .i64 t405, .int .i64 t406, .int .i64 t407, .slice Ao10 t408.length co10] 61 (0, 0)) bf_ hb); replace BK424 := mk_ (blk_below (g := gb424) (o := .cells #[.int .i64 t414, .int .i64 t415, .int .i64 t416, .int .i64 t417, .int .i64 t418, .slice Ao15 t419.length co15] 61 (0, 0)) bu_ hb); replace HB := bs_ HB hb; (try clear hb); (try clear hk)))
  go_meet
  case rel => exact ⟨_, ((t423 != t412)), (by first | rfl | (simp; done) | (simp [*]; done) | (simp [bne]; done)), H', ⟨by first | omega | exact Nat.le_refl _⟩, ⟨rq_ (Kd.R_mono HO410.out (fun _ hk => hk.2))⟩, ⟨rq_ (Kd.R_mono HO421.out (fun _ hk => hk.2))⟩, ⟨bf_⟩, ⟨bf_⟩, ⟨bw_ HB⟩⟩
 case rest =>
  clear HC6
  (try clear c1); (try clear c2); (try clear p2); (try clear c3); (try clear c3b0); (try clear c3b1); (try clear c6); (try clear c13); (try clear c17); (try clear c18); (try clear c18b0); (try clear c18b1); (try clear c19); (try clear hcz14_0); (try clear hcz14_1); (try clear hcz14_2); (try clear hcz14_3); (try clear hcz14_4); (try clear hcz14_5); (try clear hcz20_0); (try clear hcz20_1); (try clear hcz20_2); (try clear hcz20_3); (try clear hcz20_4); (try clear hcz20_5); (try clear hcz21_0); (try clear hcz21_1); (try clear hcz21_2); (try clear hcz21_3); (try clear hcz21_4); (try clear hcz21_5); (try clear hcz9_0); (try clear hcz9_1); (try clear hcz9_2); (try clear hcz9_3); (try clear hcz9_4); (try clear hcz9_5); (try clear hfz14_0); (try clear hfz14_1); (try clear hfz14_2); (try clear hfz14_3); (try clear hfz14_4); (try clear hfz14_5); (try clear hfz20_0); (try clear hfz20_1); (try clear hfz20_2); (try clear hfz20_3); (try clear hfz20_4); (try clear hfz20_5); (try clear hfz21_0); (try clear hfz21_1); (try clear hfz21_2); (try clear hfz21_3); (try clear hfz21_4); (try clear hfz21_5); (try clear hfz9_0); (try clear hfz9_1); (try clear hfz9_2); (try clear hfz9_3); (try clear hfz9_4); (try clear hfz9_5)
  obtain ⟨kq, x46_5, rfl, HA, HJ5, HO_414005, HO_425005, BK413, BK424, HB⟩ := hcut
  cases kq with
  | zero => exact absurd HA.out (by simp [laws_FnExactReadJournal.j0])
  | succ kj5 =>
   have H := HA.out
   clear HA
   simp only [laws_FnExactReadJournal.j0] at H
   by_cases c23 : x46_5 = true
   ·subst c23
    rw [if_pos rfl] at H
    exact absurd H (by simp)
   replace c23 := Bool.eq_false_iff.mpr c23
   subst c23
   rw [if_neg (show ¬ (false = true) by decide)] at H
   replace H := Option.bind_eq_some_iff.mp H
   obtain ⟨⟨t426, t427⟩, A240, H⟩ := H
   try dsimp only at H
   have A24 := Aside0.mk A240
   clear A240
   replace H := Option.bind_eq_some_iff.mp H
   obtain ⟨t428, A250, H⟩ := H
   try dsimp only at H
   have A25 := Aside0.mk A250
   clear A250
   by_cases c26 : t428 < 0
   ·rw [if_pos c26] at H
    exact absurd H (by simp)
   rw [if_neg c26] at H
   have c26b0 : decide (t428 < 0) = false := decide_eq_false c26
   clear c26
   by_cases c27 : t428 = t426
   rotate_left
   ·rw [if_neg c27] at H
    exact absurd H (by simp)
   rw [if_pos c27] at H
   have c27b0 : (t428 == t426) = true := beq_iff_eq.mpr c27
   have c27b1 : (t428 != t426) = false := bne_eq_false_iff_eq.mpr c27
   clear c27
   replace H := Option.bind_eq_some_iff.mp H
   obtain ⟨⟨t429, t430, t431, t432, t433, t434, t437, t438⟩, A280, H⟩ := H
   try dsimp only at H
   have A28 := Aside0.mk A280
   clear A280
   have HC29 := Aside0.mk H
   clear H
   obtain ⟨hnb30, hnc30⟩ := ns_ NB424_413
   have hcz31_0 : wc.cell? ⟨gb424, 0, none⟩ = some (.int .i64 t414) := bc_ BK424 0
   have hcz31_1 : wc.cell? ⟨gb424, 1, none⟩ = some (.int .i64 t415) := bc_ BK424 1
   have hcz31_2 : wc.cell? ⟨gb424, 2, none⟩ = some (.int .i64 t416) := bc_ BK424 2
   have hcz31_3 : wc.cell? ⟨gb424, 3, none⟩ = some (.int .i64 t417) := bc_ BK424 3
   have hcz31_4 : wc.cell? ⟨gb424, 4, none⟩ = some (.int .i64 t418) := bc_ BK424 4
   have hcz31_5 : wc.cell? ⟨gb424, 5, none⟩ = some (.slice Ao15 t419.length co15) := bc_ BK424 5
   have hfz31_0 := blk_frozen BK424.out 0
   have hfz31_1 := blk_frozen BK424.out 1
   have hfz31_2 := blk_frozen BK424.out 2
   have hfz31_3 := blk_frozen BK424.out 3
   have hfz31_4 := blk_frozen BK424.out 4
   have hfz31_5 := blk_frozen BK424.out 5
   go_upto_region 16 with (first | ((with_reducible refine gate_callee (f := 32) rfl ?_); refine gl_ 49 Try.func32 #[.agg #[.int .i64 t414, .int .i64 t415, .int .i64 t416, .int .i64 t417, .int .i64 t418, .slice Ao15 t419.length co15], .int .i64 1] ?_; (with_reducible refine (laws_markJournal.calls kj5 t414 t415 t416 t417 t418 (fun k_ => some k_ = (.slice Ao15 t419.length co15 : Value).ownBlock) (.slice Ao15 t419.length co15) t419 1 t426 t427 w _ ?side1 ?side2 A24.out).mono ?_); (case side1 => exact bw_ HB); (case side2 => exact Kd.R_tight rfl HO_425005.out); rintro e w32 ⟨rfl, hy0, hb, hkp⟩; refine ⟨_, rfl, ?_⟩; have n0_ := mk_ (Kd.R_mono (ok' := fun k_ => some k_ ≠ (.slice Ao15 t419.length co15 : Value).ownBlock) (Kd.R_keptB (HO_414005.out) hkp (fun k_ hk_ hs_ => (hk_) hs_)) (fun k_ hk_ => hk_.1)); have n1_ := mk_ (Kd.R_reok rfl hy0 (fun k_ e_ => HO_425005.out.1 k_ e_)); have n2_ := mk_ (blk_kept (bp_ BK413) hkp (fun hs_ => (fun e_ => (Kd.R_ne HO_425005.out BK413.out (by decide)) e_) hs_)); have n3_ := mk_ (blk_kept (bp_ BK424) hkp (fun hs_ => (fun e_ => (Kd.R_ne HO_425005.out BK424.out (by decide)) e_) hs_)); have n4_ := mk_ (hb); clear HO_414005; clear HO_425005; clear BK413; clear BK424; clear HB; have HO_414005 := n0_; have HO_425005 := n1_; have BK413 := n2_; have BK424 := n3_; have HB := n4_; clear n0_ n1_ n2_ n3_ n4_; (try clear hb); (try clear hkp); (try clear hy0); obtain ⟨hcz33_0, hcz33_1, hcz33_2, hcz33_3, hcz33_4, hcz33_5, hfz33_0, hfz33_1, hfz33_2, hfz33_3, hfz33_4, hfz33_5⟩ := b6_ BK424) | ((with_reducible refine gate_callee (f := 33) rfl ?_); refine goesL_ (some 52) rfl rfl Try.func33 (by kernel_rfl) rfl #[.agg #[.int .i64 t414, .int .i64 t415, .int .i64 t416, .int .i64 t417, .int .i64 t418, .slice Ao15 t427.length co15], .int .i64 1] rfl (by (try simp only [List.map_toArray, List.map_cons, List.map_nil]); first | done | (rw [show t427.length = t419.length from (Kd.R_reads' HO_425005.out).1.symm] <;> rfl) | rfl | (simp only [List.length_drop, List.length_take]; rfl)) ?_; (with_reducible refine (laws_heldJournal.calls kj5 t414 t415 t416 t417 t418 _ _ t427 1 t428 _ ?side1 ?side2 A25.out).mono ?_); (case side1 => repeat (first | exact (Kd.R_reads' HO_425005.out).2.2 | (with_reducible refine Kd.C_alloc ?_ _) | (with_reducible refine Kd.C_drewN ?_ _) | (with_reducible refine Kd.C_drew ?_))); (case side2 => rw [show t427.length = t419.length from (Kd.R_reads' HO_425005.out).1.symm]; exact (Kd.R_reads' HO_425005.out).2.1); rintro e w34 ⟨rfl, hb⟩; refine ⟨_, rfl, ?_⟩; replace HO_414005 := rb_ HO_414005 hb; replace HO_425005 := rb_ HO_425005 hb; replace BK413 := bb_ BK413 hb; replace BK424 := bb_ BK424 hb; replace HB := bs_ HB hb; (try clear hb)) | ((with_reducible refine gate_callee (f := 30) rfl ?_); refine gl_ 61 Try.func30 #[.int .i64 a0, .string a1] ?_; (with_reducible refine (impl_ReadJournal.calls kj5 a0 a1 t429 t430 t431 t432 t433 t434 t437 t438 _ A28.out).mono ?_); rintro e w35 ⟨v435, rfl, ho0, hb⟩; refine ⟨_, rfl, ?_⟩; have HO436 := mk_ (Kd.R_lower (Kd.R_new' (Kd.R_new' ho0 (Kd.R_lt (rp_ HO_414005))) (Kd.R_lt (rp_ HO_425005))) (below_size (bw_ HB))); replace HO_414005 := mk_ (Kd.R_elder' (rp_ HO_414005) (Kd.R_base ho0) hb); replace HO_425005 := mk_ (Kd.R_elder' (rp_ HO_425005) (Kd.R_base ho0) hb); replace BK413 := bb_ BK413 hb; replace BK424 := bb_ BK424 hb; replace HB := bs_ HB hb; (try clear hb); (try clear ho0)) | ((with_reducible refine gate_dst (N := 13) rfl ?_); refine bx_ (N := 13) (cs := #[.int .i64 0, .int .i64 0, .int .i64 0, .int .i64 0, .int .i64 0, .slice none 0 0]) (t := 61) ?_; intro gb439 hg w36 hbox hb; have BK439 := mk_ (hbox); have GW439 : Aside0 (w.heap.size ≤ gb439) := bz_ hg; have GE439 := GW439; have NB413_439 := bl_ BK413 hg; have NB439_413 := bg_ BK413 hg; have NB424_439 := bl_ BK424 hg; have NB439_424 := bg_ BK424 hg; replace HO_414005 := rb_ HO_414005 hb; replace HO_425005 := rb_ HO_425005 hb; replace HO436 := rb_ HO436 hb; replace BK413 := bb_ BK413 hb; replace BK424 := bb_ BK424 hb; replace HB := bs_ HB hb; clear hb hbox hg; obtain ⟨hnb37, hnc37⟩ := ns_ NB439_413; obtain ⟨hnb38, hnc38⟩ := ns_ NB439_424; obtain ⟨hcz39_0, hcz39_1, hcz39_2, hcz39_3, hcz39_4, hcz39_5, hfz39_0, hfz39_1, hfz39_2, hfz39_3, hfz39_4, hfz39_5⟩ := b6_ BK439; obtain ⟨Ao40, co40, eo40⟩ := Kd.R_slice HO436.out; subst eo40))
   (try simp only [Act.put, sia_, scz_, scs_])
   go_cut [78] (fun v78 wc => ∃ (kq : Nat) (x78_28 : Bool), v78 = .bool x78_28 ∧ Aside0 (laws_FnExactReadJournal.j1 kq t426 x78_28 t414 t415 t416 t417 t418 t427 = some r) ∧ Aside0 (kq ≤ kj5) ∧ Aside0 (Kd.R k135 135 wc w.heap.size (fun k_ => some k_ ≠ ((.slice Ao15 t419.length co15) : Value).ownBlock ∧ some k_ ≠ ((.slice Ao40 t434.length co40) : Value).ownBlock) (.slice Ao10 t408.length co10) t408) ∧ Aside0 (Kd.R k135 135 wc w.heap.size (fun k_ => some k_ ≠ ((.slice Ao10 t408.length co10) : Value).ownBlock ∧ some k_ ≠ ((.slice Ao40 t434.length co40) : Value).ownBlock) (.slice Ao15 t419.length co15) t427) ∧ Aside0 (Kd.R k135 135 wc w.heap.size (fun k_ => some k_ ≠ ((.slice Ao10 t408.length co10) : Value).ownBlock ∧ some k_ ≠ ((.slice Ao15 t419.length co15) : Value).ownBlock) (.slice Ao40 t434.length co40) t434) ∧ Aside0 (wc.heap[gb413]? = some (.cells #[.int .i64 t403, .int .i64 t404, .int .i64 t405, .int .i64 t406, .int .i64 t407, (.slice Ao10 t408.length co10)] 61 (0, 0))) ∧ Aside0 (wc.heap[gb424]? = some (.cells #[.int .i64 t414, .int .i64 t415, .int .i64 t416, .int .i64 t417, .int .i64 t418, (.slice Ao15 t419.length co15)] 61 (0, 0))) ∧ Aside0 (wc.heap[gb439]? = some (.cells #[.int .i64 t429, .int .i64 t430, .int .i64 t431, .int .i64 t432, .int .i64 t433, (.slice Ao40 t434.length co40)] 61 (0, 0))) ∧ Aside0 (Below w.heap.size w wc))
   case first =>
    have H := HC29.out
    clear HC29
    replace H := Option.bind_eq_some_iff.mp H
    obtain ⟨t440, A410, H⟩ := H
    try dsimp only at H
    have A41 := Aside0.mk A410
    clear A410
    by_cases c42 : t440 = true
    rotate_left
    ·replace c42 := Bool.eq_false_iff.mpr c42
     subst c42
     rw [if_neg (show ¬ (false = true) by decide)] at H
     exact absurd H (by simp)
    subst c42
    rw [if_pos rfl] at H
    by_cases c43 : t437 = t411
    rotate_left
    ·rw [if_neg c43] at H
     exact absurd H (by simp)
    rw [if_pos c43] at H
    have c43b0 : (t437 == t411) = true := beq_iff_eq.mpr c43
    have c43b1 : (t437 != t411) = false := bne_eq_false_iff_eq.mpr c43
    clear c43
    (first | rw [c43b0] | (simp only [i64_w, i32_w]; rw [c43b0]) | skip)
    have H' := Aside0.mk H
    clear H
    obtain ⟨hnb44, hnc44⟩ := ns_ NB439_413
    obtain ⟨hnb45, hnc45⟩ := ns_ NB439_424
    have hcz46_0 : w36.cell? ⟨gb439, 0, none⟩ = some (.int .i64 0) := bc_ BK439 0
    have hcz46_1 : w36.cell? ⟨gb439, 1, none⟩ = some (.int .i64 0) := bc_ BK439 1
    have hcz46_2 : w36.cell? ⟨gb439, 2, none⟩ = some (.int .i64 0) := bc_ BK439 2
    have hcz46_3 : w36.cell? ⟨gb439, 3, none⟩ = some (.int .i64 0) := bc_ BK439 3
    have hcz46_4 : w36.cell? ⟨gb439, 4, none⟩ = some (.int .i64 0) := bc_ BK439 4
    have hcz46_5 : w36.cell? ⟨gb439, 5, none⟩ = some (.slice none 0 0) := bc_ BK439 5
    have hfz46_0 := blk_frozen BK439.out 0
    have hfz46_1 := blk_frozen BK439.out 1
    have hfz46_2 := blk_frozen BK439.out 2
    have hfz46_3 := blk_frozen BK439.out 3
    have hfz46_4 := blk_frozen BK439.out 4
    have hfz46_5 := blk_frozen BK439.out 5
    obtain ⟨hnb47, hnc47⟩ := ns_ NB413_424
    have hcz48_0 : w36.cell? ⟨gb413, 0, none⟩ = some (.int .i64 t403) := bc_ BK413 0
    have hcz48_1 : w36.cell? ⟨gb413, 1, none⟩ = some (.int .i64 t404) := bc_ BK413 1
    have hcz48_2 : w36.cell? ⟨gb413, 2, none⟩ = some (.int .i64 t405) := bc_ BK413 2
    have hcz48_3 : w36.cell? ⟨gb413, 3, none⟩ = some (.int .i64 t406) := bc_ BK413 3
    have hcz48_4 : w36.cell? ⟨gb413, 4, none⟩ = some (.int .i64 t407) := bc_ BK413 4
    have hcz48_5 : w36.cell? ⟨gb413, 5, none⟩ = some (.slice Ao10 t408.length co10) := bc_ BK413 5
    have hfz48_0 := blk_frozen BK413.out 0
    have hfz48_1 := blk_frozen BK413.out 1
    have hfz48_2 := blk_frozen BK413.out 2
    have hfz48_3 := blk_frozen BK413.out 3
    have hfz48_4 := blk_frozen BK413.out 4
    have hfz48_5 := blk_frozen BK413.out 5
    go_wp2_with (first | ((with_reducible refine gate_callee (f := 31) rfl ?_); refine gl_ 67 Try.func31 #[.agg #[.int .i64 t429, .int .i64 t430, .int .i64 t431, .int .i64 t432, .int .i64 t433, .slice Ao40 t434.length co40], .agg #[.int .i64 t403, .int .i64 t404, .int .i64 t405, .int .i64 t406, .int .i64 t407, .slice Ao10 t408.length co10]] ?_; (with_reducible refine (laws_eqJournal.calls kj5 t429 t430 t431 t432 t433 _ _ t434 t403 t404 t405 t406 t407 _ _ t408 true _ ?side1 ?side2 ?side3 ?side4 A41.out).mono ?_); (case side1 => refine (Kd.R_reads' (e := 135) (base := w.heap.size) (ok := fun k_ => ((True ∧ some k_ ≠ (.slice Ao10 t408.length co10 : Value).ownBlock) ∧ some k_ ≠ (.slice Ao15 t419.length co15 : Value).ownBlock)) (n := t434.length) (c := co40) ?_).2.2; exact (rq_ (Kd.R_mono (Kd.R_far (p := ⟨gb439, 5, none⟩) (Kd.R_far (p := ⟨gb439, 4, none⟩) (Kd.R_far (p := ⟨gb439, 3, none⟩) (Kd.R_far (p := ⟨gb439, 2, none⟩) (Kd.R_far (p := ⟨gb439, 1, none⟩) (Kd.R_far (p := ⟨gb439, 0, none⟩) (Kd.R_types HO436.out BK439.out (by decide)) (fun _ hk => hk.2) (.int .i64 t429)) (fun _ hk => hk.2) (.int .i64 t430)) (fun _ hk => hk.2) (.int .i64 t431)) (fun _ hk => hk.2) (.int .i64 t432)) (fun _ hk => hk.2) (.int .i64 t433)) (fun _ hk => hk.2) (.slice Ao40 t434.length co40)) (fun _ h_ => h_.1)))); (case side2 => exact (Kd.R_reads' HO436.out).2.1); (case side3 => refine (Kd.R_reads' (e := 135) (base := w.heap.size) (ok := fun k_ => (some k_ ≠ (.slice Ao15 t419.length co15 : Value).ownBlock ∧ some k_ ≠ (.slice Ao40 t434.length co40 : Value).ownBlock)) (n := t408.length) (c := co10) ?_).2.2; exact (rq_ (Kd.R_mono (Kd.R_far (p := ⟨gb439, 5, none⟩) (Kd.R_far (p := ⟨gb439, 4, none⟩) (Kd.R_far (p := ⟨gb439, 3, none⟩) (Kd.R_far (p := ⟨gb439, 2, none⟩) (Kd.R_far (p := ⟨gb439, 1, none⟩) (Kd.R_far (p := ⟨gb439, 0, none⟩) (Kd.R_types HO_414005.out BK439.out (by decide)) (fun _ hk => hk.2) (.int .i64 t429)) (fun _ hk => hk.2) (.int .i64 t430)) (fun _ hk => hk.2) (.int .i64 t431)) (fun _ hk => hk.2) (.int .i64 t432)) (fun _ hk => hk.2) (.int .i64 t433)) (fun _ hk => hk.2) (.slice Ao40 t434.length co40)) (fun _ h_ => h_.1)))); (case side4 => exact (Kd.R_reads' HO_414005.out).2.1); rintro e w49 ⟨rfl, hb⟩; refine ⟨_, rfl, ?_⟩; replace HO_414005 := mk_ (Kd.R_below (rq_ (Kd.R_mono (Kd.R_far (p := ⟨gb439, 5, none⟩) (Kd.R_far (p := ⟨gb439, 4, none⟩) (Kd.R_far (p := ⟨gb439, 3, none⟩) (Kd.R_far (p := ⟨gb439, 2, none⟩) (Kd.R_far (p := ⟨gb439, 1, none⟩) (Kd.R_far (p := ⟨gb439, 0, none⟩) (Kd.R_types HO_414005.out BK439.out (by decide)) (fun _ hk => hk.2) (.int .i64 t429)) (fun _ hk => hk.2) (.int .i64 t430)) (fun _ hk => hk.2) (.int .i64 t431)) (fun _ hk => hk.2) (.int .i64 t432)) (fun _ hk => hk.2) (.int .i64 t433)) (fun _ hk => hk.2) (.slice Ao40 t434.length co40)) (fun _ h_ => h_.1))) hb); replace HO_425005 := mk_ (Kd.R_below (rq_ (Kd.R_mono (Kd.R_far (p := ⟨gb439, 5, none⟩) (Kd.R_far (p := ⟨gb439, 4, none⟩) (Kd.R_far (p := ⟨gb439, 3, none⟩) (Kd.R_far (p := ⟨gb439, 2, none⟩) (Kd.R_far (p := ⟨gb439, 1, none⟩) (Kd.R_far (p := ⟨gb439, 0, none⟩) (Kd.R_types HO_425005.out BK439.out (by decide)) (fun _ hk => hk.2) (.int .i64 t429)) (fun _ hk => hk.2) (.int .i64 t430)) (fun _ hk => hk.2) (.int .i64 t431)) (fun _ hk => hk.2) (.int .i64 t432)) (fun _ hk => hk.2) (.int .i64 t433)) (fun _ hk => hk.2) (.slice Ao40 t434.length co40)) (fun _ h_ => h_.1))) hb); replace HO436 := mk_ (Kd.R_below (rq_ (Kd.R_mono (Kd.R_far (p := ⟨gb439, 5, none⟩) (Kd.R_far (p := ⟨gb439, 4, none⟩) (Kd.R_far (p := ⟨gb439, 3, none⟩) (Kd.R_far (p := ⟨gb439, 2, none⟩) (Kd.R_far (p := ⟨gb439, 1, none⟩) (Kd.R_far (p := ⟨gb439, 0, none⟩) (Kd.R_types HO436.out BK439.out (by decide)) (fun _ hk => hk.2) (.int .i64 t429)) (fun _ hk => hk.2) (.int .i64 t430)) (fun _ hk => hk.2) (.int .i64 t431)) (fun _ hk => hk.2) (.int .i64 t432)) (fun _ hk => hk.2) (.int .i64 t433)) (fun _ hk => hk.2) (.slice Ao40 t434.length co40)) (fun _ h_ => h_.1))) hb); replace BK413 := mk_ (blk_below (g := gb413) (o := .cells #[.int .i64 t403, .int .i64 t404, .int .i64 t405, .int .i64 t406, .int .i64 t407, .slice Ao10 t408.length co10] 61 (0, 0)) bf_ hb); replace BK424 := mk_ (blk_below (g := gb424) (o := .cells #[.int .i64 t414, .int .i64 t415, .int .i64 t416, .int .i64 t417, .int .i64 t418, .slice Ao15 t419.length co15] 61 (0, 0)) bf_ hb); replace BK439 := mk_ (blk_below (g := gb439) (o := .cells #[.int .i64 t429, .int .i64 t430, .int .i64 t431, .int .i64 t432, .int .i64 t433, .slice Ao40 t434.length co40] 61 (0, 0)) bu_ hb); replace HB := bs_ HB hb; (try clear hb); (try clear hk)))
    go_meet
    case rel => exact ⟨_, ((t438 != t412)), (by first | rfl | (simp; done) | (simp [*]; done) | (simp [bne]; done)), H', ⟨by have := HJ5.out; first | omega | exact Nat.le_refl _⟩, ⟨rq_ HO_414005.out⟩, ⟨rq_ HO_425005.out⟩, ⟨rq_ (Kd.R_mono HO436.out (fun _ hk => ⟨hk.1.2, hk.2⟩))⟩, ⟨bf_⟩, ⟨bf_⟩, ⟨bf_⟩, ⟨bw_ HB⟩⟩
   case rest =>
    clear HC29
    (try clear c1); (try clear c2); (try clear p2); (try clear c3); (try clear c3b0); (try clear c3b1); (try clear c4); (try clear c6); (try clear c13); (try clear c17); (try clear c18); (try clear c18b0); (try clear c18b1); (try clear c19); (try clear c23); (try clear c26); (try clear c26b0); (try clear c27); (try clear c27b0); (try clear c27b1); (try clear c29); (try clear c30); (try clear c31); (try clear c32); (try clear c33); (try clear c37); (try clear c38); (try clear c42); (try clear c43); (try clear c43b0); (try clear c43b1); (try clear c44); (try clear c45); (try clear c47); (try clear hcz14_0); (try clear hcz14_1); (try clear hcz14_2); (try clear hcz14_3); (try clear hcz14_4); (try clear hcz14_5); (try clear hcz20_0); (try clear hcz20_1); (try clear hcz20_2); (try clear hcz20_3); (try clear hcz20_4); (try clear hcz20_5); (try clear hcz21_0); (try clear hcz21_1); (try clear hcz21_2); (try clear hcz21_3); (try clear hcz21_4); (try clear hcz21_5); (try clear hcz31_0); (try clear hcz31_1); (try clear hcz31_2); (try clear hcz31_3); (try clear hcz31_4); (try clear hcz31_5); (try clear hcz33_0); (try clear hcz33_1); (try clear hcz33_2); (try clear hcz33_3); (try clear hcz33_4); (try clear hcz33_5); (try clear hcz39_0); (try clear hcz39_1); (try clear hcz39_2); (try clear hcz39_3); (try clear hcz39_4); (try clear hcz39_5); (try clear hcz46_0); (try clear hcz46_1); (try clear hcz46_2); (try clear hcz46_3); (try clear hcz46_4); (try clear hcz46_5); (try clear hcz48_0); (try clear hcz48_1); (try clear hcz48_2); (try clear hcz48_3); (try clear hcz48_4); (try clear hcz48_5); (try clear hcz9_0); (try clear hcz9_1); (try clear hcz9_2); (try clear hcz9_3); (try clear hcz9_4); (try clear hcz9_5); (try clear hfz14_0); (try clear hfz14_1); (try clear hfz14_2); (try clear hfz14_3); (try clear hfz14_4); (try clear hfz14_5); (try clear hfz20_0); (try clear hfz20_1); (try clear hfz20_2); (try clear hfz20_3); (try clear hfz20_4); (try clear hfz20_5); (try clear hfz21_0); (try clear hfz21_1); (try clear hfz21_2); (try clear hfz21_3); (try clear hfz21_4); (try clear hfz21_5); (try clear hfz31_0); (try clear hfz31_1); (try clear hfz31_2); (try clear hfz31_3); (try clear hfz31_4); (try clear hfz31_5); (try clear hfz33_0); (try clear hfz33_1); (try clear hfz33_2); (try clear hfz33_3); (try clear hfz33_4); (try clear hfz33_5); (try clear hfz39_0); (try clear hfz39_1); (try clear hfz39_2); (try clear hfz39_3); (try clear hfz39_4); (try clear hfz39_5); (try clear hfz46_0); (try clear hfz46_1); (try clear hfz46_2); (try clear hfz46_3); (try clear hfz46_4); (try clear hfz46_5); (try clear hfz48_0); (try clear hfz48_1); (try clear hfz48_2); (try clear hfz48_3); (try clear hfz48_4); (try clear hfz48_5); (try clear hfz9_0); (try clear hfz9_1); (try clear hfz9_2); (try clear hfz9_3); (try clear hfz9_4); (try clear hfz9_5); (try clear p2)
    obtain ⟨kq, x78_28, rfl, HA, HJ28, HO_414005, HO_425005, HO_440005, BK413, BK424, BK439, HB⟩ := hcut
    have hl425005_28 := (Kd.R_reads' HO_425005.out).1
    rw [hl425005_28] at HO_425005
    (try simp only [hl425005_28])
    (try simp only [hl425005_28] at BK413)
    (try simp only [hl425005_28] at BK424)
    (try simp only [hl425005_28] at BK439)
    (try simp only [hl425005_28] at HO_414005)
    (try simp only [hl425005_28] at HO_440005)
    cases kq with
    | zero => exact absurd HA.out (by simp [laws_FnExactReadJournal.j1])
    | succ kj28 =>
     have H := HA.out
     clear HA
     simp only [laws_FnExactReadJournal.j1] at H
     by_cases c50 : x78_28 = true
     ·subst c50
      rw [if_pos rfl] at H
      exact absurd H (by simp)
     replace c50 := Bool.eq_false_iff.mpr c50
     subst c50
     rw [if_neg (show ¬ (false = true) by decide)] at H
     replace H := Option.bind_eq_some_iff.mp H
     obtain ⟨t441, A510, H⟩ := H
     try dsimp only at H
     have A51 := Aside0.mk A510
     clear A510
     by_cases c52 : t441 < 0
     ·rw [if_pos c52] at H
      exact absurd H (by simp)
     rw [if_neg c52] at H
     have c52b0 : decide (t441 < 0) = false := decide_eq_false c52
     clear c52
     by_cases c53 : t441 = t426
     rotate_left
     ·rw [if_neg c53] at H
      exact absurd H (by simp)
     rw [if_pos c53] at H
     have c53b0 : (t441 == t426) = true := beq_iff_eq.mpr c53
     have c53b1 : (t441 != t426) = false := bne_eq_false_iff_eq.mpr c53
     clear c53
     obtain rfl := Option.some.inj H
     obtain ⟨hnb54, hnc54⟩ := ns_ NB424_413
     obtain ⟨hnb55, hnc55⟩ := ns_ NB424_439
     have hcz56_0 : wc.cell? ⟨gb424, 0, none⟩ = some (.int .i64 t414) := bc_ BK424 0
     have hcz56_1 : wc.cell? ⟨gb424, 1, none⟩ = some (.int .i64 t415) := bc_ BK424 1
     have hcz56_2 : wc.cell? ⟨gb424, 2, none⟩ = some (.int .i64 t416) := bc_ BK424 2
     have hcz56_3 : wc.cell? ⟨gb424, 3, none⟩ = some (.int .i64 t417) := bc_ BK424 3
     have hcz56_4 : wc.cell? ⟨gb424, 4, none⟩ = some (.int .i64 t418) := bc_ BK424 4
     have hcz56_5 : wc.cell? ⟨gb424, 5, none⟩ = some (.slice Ao15 t427.length co15) := bc_ BK424 5
     have hfz56_0 := blk_frozen BK424.out 0
     have hfz56_1 := blk_frozen BK424.out 1
     have hfz56_2 := blk_frozen BK424.out 2
     have hfz56_3 := blk_frozen BK424.out 3
     have hfz56_4 := blk_frozen BK424.out 4
     have hfz56_5 := blk_frozen BK424.out 5
     go_wp2_with (first | ((with_reducible refine gate_callee (f := 33) rfl ?_); refine gl_ 81 Try.func33 #[.agg #[.int .i64 t414, .int .i64 t415, .int .i64 t416, .int .i64 t417, .int .i64 t418, .slice Ao15 t427.length co15], .int .i64 1] ?_; (with_reducible refine (laws_heldJournal.calls kj28 t414 t415 t416 t417 t418 _ _ t427 1 t441 _ ?side1 ?side2 A51.out).mono ?_); (case side1 => repeat (first | exact (Kd.R_reads' HO_425005.out).2.2 | (with_reducible refine Kd.C_alloc ?_ _) | (with_reducible refine Kd.C_drewN ?_ _) | (with_reducible refine Kd.C_drew ?_))); (case side2 => exact (Kd.R_reads' HO_425005.out).2.1); rintro e w57 ⟨rfl, hb⟩; refine ⟨_, rfl, ?_⟩; replace HO_414005 := rb_ HO_414005 hb; replace HO_425005 := rb_ HO_425005 hb; replace HO_440005 := rb_ HO_440005 hb; replace BK413 := bb_ BK413 hb; replace BK424 := bb_ BK424 hb; replace BK439 := bb_ BK439 hb; replace HB := bs_ HB hb; (try clear hb)))
     go_ret
     exact ⟨er_, bw_ HB⟩

/-- THE ONE PURE STATEMENT of laws_FnExactReadJournal: yours. -/
def laws_FnExactReadJournal.Pure : Prop := ∀ (a0 : Int) (a1 : ByteArray), (Lit.int .i64 a0).wf = true → a1.size ≤ 140737488351232 → ∃ k, laws_FnExactReadJournal.f k a0 a1 = some true
theorem laws_FnExactReadJournal.walk (P : laws_FnExactReadJournal.Pure) (a0 : Int) (a1 : ByteArray) (w : World) (w0 : (Lit.int .i64 a0).wf = true) (w1 : a1.size ≤ 140737488351232) :
  Calls Try.prog 6 #[.int .i64 a0, .string a1] w fun e w' => e = .returned (.bool true) ∧ Below w.heap.size w w' := by
 obtain ⟨k, h⟩ := P a0 a1 w0 w1
 refine (laws_FnExactReadJournal.calls k a0 a1 true w h).mono ?_
 rintro e w' ⟨rfl, hd⟩
 exact ⟨rfl, hd⟩

end Go.Proofs.Ythbaoefbccdioaa.QFnExactReadJournal
