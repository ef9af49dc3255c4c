/- Written by this session's own program (wip/tpl/pp.py): what the law's functions come to, and that the machine's calls do just that. -/
import Derived.Test.YthbaoefbccdioaaTMPack
import Derived.Test.YthbaoefbccdioaaQFnExactReadJournalx0
import Derived.Test.YthbaoefbccdioaaQFnExactReadJournalx8
import Derived.Test.YthbaoefbccdioaaQFnExactReadJournalx9
import Derived.Test.YthbaoefbccdioaaQFnExactReadJournalx10
import Derived.Test.YthbaoefbccdioaaQFnExactReadJournalx11
import Derived.Test.YthbaoefbccdioaaQFnExactReadJournalx12
namespace Go.Proofs.Ythbaoefbccdioaa.QFnExactReadJournal
open Go.RowKit Go.Proofs.YthbaoefbccdioaaW.PrintWords Go.Proofs.YthbaoefbccdioaaW.PrintLast Go.Proofs.YthbaoefbccdioaaW.PrintMore
attribute [local go_sem] Go.Proofs.Ythbaoefbccdioaa.Sem.string_geq Go.Proofs.Ythbaoefbccdioaa.Sem.string_leq Go.Proofs.Ythbaoefbccdioaa.Sem.string_gtr
attribute [local go_sem] max2_int min2_int max_two min_two max_three min_three max_four min_four   -- for this text's walks alone
set_option linter.unusedVariables false
set_option linter.unusedSimpArgs false

/-! ### impl_told: function 72 -/
def impl_told.f (k : Nat) (a0_0 : Int) (a0_1 : Int) (a0_2 : Int) (a0_3 : Int) (a0_4 : Int) (l0_5 : List (S135)) (a1 : ByteArray) : Option (Int × Int × Int × Int × Int × (List (S135)) × Bool) := (impl_head.f k a1 72).bind fun bt355 => (if bt355.2.2 = true then ((impl_JournalOk.f k a0_0 bt355.1 bt355.2.1 a0_3 a0_4 l0_5).bind fun t358 => (some (a0_0, bt355.1, bt355.2.1, a0_3, a0_4, l0_5, t358))) else ((impl_ReadEntry.f k a1).bind fun bt359 => (if bt359.2.2.2.2 = true then ((impl_LogPut.f k a0_3 a0_4 l0_5 bt359.1 bt359.2.1 bt359.2.2.1 bt359.2.2.2.1).bind fun bt365 => (some (a0_0, a0_1, a0_2, bt365.1, bt365.2.1, bt365.2.2.1, bt365.2.2.2))) else (some (a0_0, a0_1, a0_2, a0_3, a0_4, l0_5, false)))))
theorem impl_told.mono : ∀ a0 a1 a2 a3 a4 a5 a6 k, LeO (impl_told.f k a0 a1 a2 a3 a4 a5 a6) (impl_told.f (k + 1) a0 a1 a2 a3 a4 a5 a6) := by
 intro a0 a1 a2 a3 a4 a5 a6 k
 unfold impl_told.f
 repeat' first
   | (with_reducible exact impl_JournalOk.mono _ _ _ _ _ _ _)
   | (with_reducible exact impl_LogPut.mono _ _ _ _ _ _ _ _)
   | (with_reducible exact impl_ReadEntry.mono _ _)
   | (with_reducible exact impl_head.mono _ _ _)
   | (with_reducible exact LeO.refl _)
   | (with_reducible refine LeO.ite ?_ ?_)
   | (with_reducible refine LeO.bind ?_ (fun _ => ?_))
set_option maxHeartbeats 8000000 in
set_option maxRecDepth 100000 in
theorem impl_told.calls (k : Nat) (a0_0 : Int) (a0_1 : Int) (a0_2 : Int) (a0_3 : Int) (a0_4 : Int) (P0_5_ : Nat → Prop) (u9000_ : Value) (l0_5 : List (S135)) (a1 : ByteArray) (r1 : Int) (r2 : Int) (r3 : Int) (r4 : Int) (r5 : Int) (r6 : List (S135)) (r7 : Bool) (w0 w : World) (hB : Below w0.heap.size w0 w) (ho0_5 : Kd.R k135 135 w w0.heap.size P0_5_ u9000_ l0_5) (h : impl_told.f k a0_0 a0_1 a0_2 a0_3 a0_4 l0_5 a1 = some (r1, r2, r3, r4, r5, r6, r7)) :
  Calls Try.prog 72 #[.agg #[.int .i64 a0_0, .int .i64 a0_1, .int .i64 a0_2, .int .i64 a0_3, .int .i64 a0_4, u9000_], .string a1] w fun e w' => ∃ v5_ : Value, e = .returned (.tuple #[.agg #[.int .i64 r1, .int .i64 r2, .int .i64 r3, .int .i64 r4, .int .i64 r5, v5_], .bool r7]) ∧ Kd.R k135 135 w' w0.heap.size (fun k_ => (P0_5_ k_ ∨ w.heap.size ≤ k_)) v5_ r6 ∧ Below w0.heap.size w0 w' ∧ Kept w w' (fun _ => False) := by
 have hu61 := Try.underlying61
 have hu135 := Try.underlying135
 have hu59 := Try.underlying59
 have HO0_5 := mk_ (show Kd.R k135 135 w w0.heap.size (fun k_ => (P0_5_ k_ ∨ w.heap.size ≤ k_)) u9000_ l0_5 from Kd.R_mono ho0_5 (fun k_ hk => (.inl hk)))
 have HK := mk_ (Kept.refl w (fun _ => False))
 have HW0 := Aside0.mk hB.size
 have HB := Aside0.mk hB
 clear hB
 have H : ((impl_head.f k a1 72).bind fun bt355 => (if bt355.2.2 = true then ((impl_JournalOk.f k a0_0 bt355.1 bt355.2.1 a0_3 a0_4 l0_5).bind fun t358 => (some (a0_0, bt355.1, bt355.2.1, a0_3, a0_4, l0_5, t358))) else ((impl_ReadEntry.f k a1).bind fun bt359 => (if bt359.2.2.2.2 = true then ((impl_LogPut.f k a0_3 a0_4 l0_5 bt359.1 bt359.2.1 bt359.2.2.1 bt359.2.2.2.1).bind fun bt365 => (some (a0_0, a0_1, a0_2, bt365.1, bt365.2.1, bt365.2.2.1, bt365.2.2.2))) else (some (a0_0, a0_1, a0_2, a0_3, a0_4, l0_5, false)))))) = some (r1, r2, r3, r4, r5, r6, r7) := h
 clear h
 replace H := Option.bind_eq_some_iff.mp H
 obtain ⟨⟨t355, t356, t357⟩, A30, H⟩ := H
 try dsimp only at H
 have A3 := Aside0.mk A30
 clear A30
 by_cases c4 : t357 = true
 rotate_left
 ·replace c4 := Bool.eq_false_iff.mpr c4
  subst c4
  rw [if_neg (show ¬ (false = true) by decide)] at H
  replace H := Option.bind_eq_some_iff.mp H
  obtain ⟨⟨t359, t360, t361, t362, t363⟩, A210, H⟩ := H
  try dsimp only at H
  have A21 := Aside0.mk A210
  clear A210
  by_cases c22 : t363 = true
  rotate_left
  ·replace c22 := Bool.eq_false_iff.mpr c22
   subst c22
   rw [if_neg (show ¬ (false = true) by decide)] at H
   simp only [Option.some.injEq, Prod.mk.injEq] at H
   obtain ⟨rfl, rfl, rfl, rfl, rfl, rfl, rfl⟩ := H
   obtain ⟨Ao39, co39, eo39⟩ := Kd.R_slice HO0_5.out
   subst eo39
   go_enter Try.func72, Try.ntmps72
   go_wp2_with (first | ((with_reducible refine gate_dst (N := 2) rfl ?_); refine bx_ (N := 2) (cs := #[.int .i64 a0_0, .int .i64 a0_1, .int .i64 a0_2, .int .i64 a0_3, .int .i64 a0_4, .slice Ao39 l0_5.length co39]) (t := 61) ?_; intro gb353 hg w40 hbox hb; have BK353 := mk_ (hbox); have GW353 := mk_ ((by rw [hg]; exact (by first | exact HK.out.1 | exact (show Kept w _ (fun _ => False) from by repeat (first | (with_reducible first | exact HK.out | apply Kept.alloc | apply Kept.drewN | apply Kept.drew) | exact HK.out)).1) : w.heap.size ≤ gb353)); have GE353 := mk_ ((by rw [hg]; exact (below_size (bw_ HB)) : w0.heap.size ≤ gb353)); replace HO0_5 := mk_ (Kd.R_below (rq_ HO0_5.out) hb); replace HK := mk_ (Kept.below (S := (fun _ => False)) (by repeat (first | (with_reducible first | exact HK.out | apply Kept.alloc | apply Kept.drewN | apply Kept.drew) | exact HK.out)) hb); replace HB := bs_ HB hb; clear hb hbox hg) | ((with_reducible refine gate_dst (N := 4) rfl ?_); refine bx_ (N := 4) (cs := #[.int .i64 0, .int .i64 0, .int .i64 0, .int .i64 0, .int .i64 0, .slice none 0 0]) (t := 61) ?_; intro gb354 hg w41 hbox hb; have BK354 := mk_ (hbox); have GW354 := mk_ ((by rw [hg]; exact (by first | exact HK.out.1 | exact (show Kept w _ (fun _ => False) from by repeat (first | (with_reducible first | exact HK.out | apply Kept.alloc | apply Kept.drewN | apply Kept.drew | refine Kept.setCell ?_ (.inr GW353.out) _) | exact HK.out)).1) : w.heap.size ≤ gb354)); have GE354 := mk_ ((by rw [hg]; exact (below_size (bw_ HB)) : w0.heap.size ≤ gb354)); have NB353_354 := bl_ BK353 hg; have NB354_353 := bg_ BK353 hg; replace HO0_5 := mk_ (Kd.R_below (rq_ HO0_5.out) hb); replace BK353 := bb_ BK353 hb; replace HK := mk_ (Kept.below (S := (fun _ => False)) (by repeat (first | (with_reducible first | exact HK.out | apply Kept.alloc | apply Kept.drewN | apply Kept.drew | refine Kept.setCell ?_ (.inr GW353.out) _) | exact HK.out)) hb); replace HB := bs_ HB hb; clear hb hbox hg) | ((with_reducible refine gate_callee (f := 69) rfl ?_); refine gl_ 14 Try.func69 #[.string a1, .int .u8 72] ?_; (with_reducible refine (impl_head.calls k a1 72 t355 t356 false _ A3.out).mono ?_); rintro e w42 ⟨rfl, hb⟩; refine ⟨_, rfl, ?_⟩; replace HO0_5 := mk_ (Kd.R_below (rq_ HO0_5.out) hb); replace BK353 := bb_ BK353 hb; replace BK354 := bb_ BK354 hb; replace HK := mk_ (Kept.below (S := (fun _ => False)) (by repeat (first | (with_reducible first | exact HK.out | apply Kept.alloc | apply Kept.drewN | apply Kept.drew | refine Kept.setCell ?_ (.inr GW353.out) _ | refine Kept.setCell ?_ (.inr GW354.out) _) | exact HK.out)) hb); replace HB := bs_ HB hb; (try clear hb)) | ((with_reducible refine gate_callee (f := 108) rfl ?_); refine gl_ 28 Try.func108 #[.string a1] ?_; (with_reducible refine (impl_ReadEntry.calls k a1 t359 t360 t361 t362 false _ A21.out).mono ?_); rintro e w43 ⟨rfl, hb⟩; refine ⟨_, rfl, ?_⟩; replace HO0_5 := mk_ (Kd.R_below (rq_ HO0_5.out) hb); replace BK353 := bb_ BK353 hb; replace BK354 := bb_ BK354 hb; replace HK := mk_ (Kept.below (S := (fun _ => False)) (by repeat (first | (with_reducible first | exact HK.out | apply Kept.alloc | apply Kept.drewN | apply Kept.drew | refine Kept.setCell ?_ (.inr GW353.out) _ | refine Kept.setCell ?_ (.inr GW354.out) _) | exact HK.out)) hb); replace HB := bs_ HB hb; (try clear hb)) | ((with_reducible refine gate_dst (N := 10) rfl ?_); refine bx_ (N := 10) (cs := #[.int .i64 0, .int .i64 0, .string (⟨#[]⟩ : ByteArray)]) (t := 135) ?_; intro gb364 hg w44 hbox hb; have BK364 := mk_ (hbox); have GW364 := mk_ ((by rw [hg]; exact (by first | exact HK.out.1 | exact (show Kept w _ (fun _ => False) from by repeat (first | (with_reducible first | exact HK.out | apply Kept.alloc | apply Kept.drewN | apply Kept.drew | refine Kept.setCell ?_ (.inr GW353.out) _ | refine Kept.setCell ?_ (.inr GW354.out) _) | exact HK.out)).1) : w.heap.size ≤ gb364)); have GE364 := mk_ ((by rw [hg]; exact (below_size (bw_ HB)) : w0.heap.size ≤ gb364)); have NB353_364 := bl_ BK353 hg; have NB364_353 := bg_ BK353 hg; have NB354_364 := bl_ BK354 hg; have NB364_354 := bg_ BK354 hg; replace HO0_5 := mk_ (Kd.R_below (Kd.R_elderB (rq_ HO0_5.out) gb364 (Nat.le_of_eq hg.symm)) hb); replace BK353 := bb_ BK353 hb; replace BK354 := bb_ BK354 hb; replace HK := mk_ (Kept.below (S := (fun _ => False)) (by repeat (first | (with_reducible first | exact HK.out | apply Kept.alloc | apply Kept.drewN | apply Kept.drew | refine Kept.setCell ?_ (.inr GW353.out) _ | refine Kept.setCell ?_ (.inr GW354.out) _) | exact HK.out)) hb); replace HB := bs_ HB hb; clear hb hbox hg; obtain ⟨hnb45, hnc45⟩ := ns_ NB364_353; obtain ⟨hnb46, hnc46⟩ := ns_ NB364_354; obtain ⟨hcz47_0, hcz47_1, hcz47_2, hfz47_0, hfz47_1, hfz47_2⟩ := b3_ BK364; obtain ⟨hnb48, hnc48⟩ := ns_ NB353_354; obtain ⟨hcz49_0, hcz49_1, hcz49_2, hcz49_3, hcz49_4, hcz49_5, hfz49_0, hfz49_1, hfz49_2, hfz49_3, hfz49_4, hfz49_5⟩ := b6_ BK353; obtain ⟨hcz50_0, hcz50_1, hcz50_2, hcz50_3, hcz50_4, hcz50_5, hfz50_0, hfz50_1, hfz50_2, hfz50_3, hfz50_4, hfz50_5⟩ := b6_ BK354))
   refine bodyPost_ret (results_ct rfl _ _ gb354 61 #[.int .i64 a0_0, .int .i64 a0_1, .int .i64 a0_2, .int .i64 a0_3, .int .i64 a0_4, .slice Ao39 l0_5.length co39] (0, 0) _ rfl bu_ Try.underlying61 rfl (by kernel_rfl)) rfl ?_
   exact ⟨_, er_, rq_ (Kd.R_mono (Kd.R_far (p := ⟨gb354, 5, none⟩) (Kd.R_far (p := ⟨gb354, 4, none⟩) (Kd.R_far (p := ⟨gb354, 3, none⟩) (Kd.R_far (p := ⟨gb354, 2, none⟩) (Kd.R_far (p := ⟨gb354, 1, none⟩) (Kd.R_far (p := ⟨gb354, 0, none⟩) (Kd.R_far (p := ⟨gb364, 2, none⟩) (Kd.R_far (p := ⟨gb364, 1, none⟩) (Kd.R_far (p := ⟨gb364, 0, none⟩) (Kd.R_types (Kd.R_mono HO0_5.out (fun k_ hk => (⟨hk, hk.2⟩ : _ ∧ k_ ≠ gb364))) BK354.out (by decide)) (fun _ hk => hk.1.2) (.int .i64 t360)) (fun _ hk => hk.1.2) (.int .i64 t361)) (fun _ hk => hk.1.2) (.string t362)) (fun _ hk => hk.2) (.int .i64 a0_0)) (fun _ hk => hk.2) (.int .i64 a0_1)) (fun _ hk => hk.2) (.int .i64 a0_2)) (fun _ hk => hk.2) (.int .i64 a0_3)) (fun _ hk => hk.2) (.int .i64 a0_4)) (fun _ hk => hk.2) (.slice Ao39 l0_5.length co39)) (fun _ hk => hk.1.1.1)), bw_ HB, by repeat (first | (with_reducible first | exact HK.out | apply Kept.alloc | apply Kept.drewN | apply Kept.drew | refine Kept.setCell ?_ (.inr GW353.out) _ | refine Kept.setCell ?_ (.inr GW354.out) _ | refine Kept.setCell ?_ (.inr GW364.out) _) | exact HK.out)⟩
  subst c22
  rw [if_pos rfl] at H
  replace H := Option.bind_eq_some_iff.mp H
  obtain ⟨⟨t365, t366, t367, t370⟩, A230, H⟩ := H
  try dsimp only at H
  have A23 := Aside0.mk A230
  clear A230
  simp only [Option.some.injEq, Prod.mk.injEq] at H
  obtain ⟨rfl, rfl, rfl, rfl, rfl, rfl, rfl⟩ := H
  obtain ⟨Ao24, co24, eo24⟩ := Kd.R_slice HO0_5.out
  subst eo24
  go_enter Try.func72, Try.ntmps72
  go_wp2_with (first | ((with_reducible refine gate_dst (N := 2) rfl ?_); refine bx_ (N := 2) (cs := #[.int .i64 a0_0, .int .i64 a0_1, .int .i64 a0_2, .int .i64 a0_3, .int .i64 a0_4, .slice Ao24 l0_5.length co24]) (t := 61) ?_; intro gb353 hg w25 hbox hb; have BK353 := mk_ (hbox); have GW353 := mk_ ((by rw [hg]; exact (by first | exact HK.out.1 | exact (show Kept w _ (fun _ => False) from by repeat (first | (with_reducible first | exact HK.out | apply Kept.alloc | apply Kept.drewN | apply Kept.drew) | exact HK.out)).1) : w.heap.size ≤ gb353)); have GE353 := mk_ ((by rw [hg]; exact (below_size (bw_ HB)) : w0.heap.size ≤ gb353)); replace HO0_5 := mk_ (Kd.R_below (rq_ HO0_5.out) hb); replace HK := mk_ (Kept.below (S := (fun _ => False)) (by repeat (first | (with_reducible first | exact HK.out | apply Kept.alloc | apply Kept.drewN | apply Kept.drew) | exact HK.out)) hb); replace HB := bs_ HB hb; clear hb hbox hg) | ((with_reducible refine gate_dst (N := 4) rfl ?_); refine bx_ (N := 4) (cs := #[.int .i64 0, .int .i64 0, .int .i64 0, .int .i64 0, .int .i64 0, .slice none 0 0]) (t := 61) ?_; intro gb354 hg w26 hbox hb; have BK354 := mk_ (hbox); have GW354 := mk_ ((by rw [hg]; exact (by first | exact HK.out.1 | exact (show Kept w _ (fun _ => False) from by repeat (first | (with_reducible first | exact HK.out | apply Kept.alloc | apply Kept.drewN | apply Kept.drew | refine Kept.setCell ?_ (.inr GW353.out) _) | exact HK.out)).1) : w.heap.size ≤ gb354)); have GE354 := mk_ ((by rw [hg]; exact (below_size (bw_ HB)) : w0.heap.size ≤ gb354)); have NB353_354 := bl_ BK353 hg; have NB354_353 := bg_ BK353 hg; replace HO0_5 := mk_ (Kd.R_below (rq_ HO0_5.out) hb); replace BK353 := bb_ BK353 hb; replace HK := mk_ (Kept.below (S := (fun _ => False)) (by repeat (first | (with_reducible first | exact HK.out | apply Kept.alloc | apply Kept.drewN | apply Kept.drew | refine Kept.setCell ?_ (.inr GW353.out) _) | exact HK.out)) hb); replace HB := bs_ HB hb; clear hb hbox hg) | ((with_reducible refine gate_callee (f := 69) rfl ?_); refine gl_ 14 Try.func69 #[.string a1, .int .u8 72] ?_; (with_reducible refine (impl_head.calls k a1 72 t355 t356 false _ A3.out).mono ?_); rintro e w27 ⟨rfl, hb⟩; refine ⟨_, rfl, ?_⟩; replace HO0_5 := mk_ (Kd.R_below (rq_ HO0_5.out) hb); replace BK353 := bb_ BK353 hb; replace BK354 := bb_ BK354 hb; replace HK := mk_ (Kept.below (S := (fun _ => False)) (by repeat (first | (with_reducible first | exact HK.out | apply Kept.alloc | apply Kept.drewN | apply Kept.drew | refine Kept.setCell ?_ (.inr GW353.out) _ | refine Kept.setCell ?_ (.inr GW354.out) _) | exact HK.out)) hb); replace HB := bs_ HB hb; (try clear hb); (try clear hk)) | ((with_reducible refine gate_callee (f := 108) rfl ?_); refine gl_ 28 Try.func108 #[.string a1] ?_; (with_reducible refine (impl_ReadEntry.calls k a1 t359 t360 t361 t362 true _ A21.out).mono ?_); rintro e w28 ⟨rfl, hb⟩; refine ⟨_, rfl, ?_⟩; replace HO0_5 := mk_ (Kd.R_below (rq_ HO0_5.out) hb); replace BK353 := bb_ BK353 hb; replace BK354 := bb_ BK354 hb; replace HK := mk_ (Kept.below (S := (fun _ => False)) (by repeat (first | (with_reducible first | exact HK.out | apply Kept.alloc | apply Kept.drewN | apply Kept.drew | refine Kept.setCell ?_ (.inr GW353.out) _ | refine Kept.setCell ?_ (.inr GW354.out) _) | exact HK.out)) hb); replace HB := bs_ HB hb; (try clear hb); (try clear hk)) | ((with_reducible refine gate_dst (N := 10) rfl ?_); refine bx_ (N := 10) (cs := #[.int .i64 0, .int .i64 0, .string (⟨#[]⟩ : ByteArray)]) (t := 135) ?_; intro gb364 hg w29 hbox hb; have BK364 := mk_ (hbox); have GW364 := mk_ ((by rw [hg]; exact (by first | exact HK.out.1 | exact (show Kept w _ (fun _ => False) from by repeat (first | (with_reducible first | exact HK.out | apply Kept.alloc | apply Kept.drewN | apply Kept.drew | refine Kept.setCell ?_ (.inr GW353.out) _ | refine Kept.setCell ?_ (.inr GW354.out) _) | exact HK.out)).1) : w.heap.size ≤ gb364)); have GE364 := mk_ ((by rw [hg]; exact (below_size (bw_ HB)) : w0.heap.size ≤ gb364)); have NB353_364 := bl_ BK353 hg; have NB364_353 := bg_ BK353 hg; have NB354_364 := bl_ BK354 hg; have NB364_354 := bg_ BK354 hg; replace HO0_5 := mk_ (Kd.R_below (Kd.R_elderB (rq_ HO0_5.out) gb364 (Nat.le_of_eq hg.symm)) hb); replace BK353 := bb_ BK353 hb; replace BK354 := bb_ BK354 hb; replace HK := mk_ (Kept.below (S := (fun _ => False)) (by repeat (first | (with_reducible first | exact HK.out | apply Kept.alloc | apply Kept.drewN | apply Kept.drew | refine Kept.setCell ?_ (.inr GW353.out) _ | refine Kept.setCell ?_ (.inr GW354.out) _) | exact HK.out)) hb); replace HB := bs_ HB hb; clear hb hbox hg; obtain ⟨hnb30, hnc30⟩ := ns_ NB364_353; obtain ⟨hnb31, hnc31⟩ := ns_ NB364_354; obtain ⟨hcz32_0, hcz32_1, hcz32_2, hfz32_0, hfz32_1, hfz32_2⟩ := b3_ BK364; obtain ⟨hnb33, hnc33⟩ := ns_ NB353_354; obtain ⟨hcz34_0, hcz34_1, hcz34_2, hcz34_3, hcz34_4, hcz34_5, hfz34_0, hfz34_1, hfz34_2, hfz34_3, hfz34_4, hfz34_5⟩ := b6_ BK353) | ((with_reducible refine gate_callee (f := 109) rfl ?_); refine gl_ 40 Try.func109 #[.agg #[.int .i64 a0_3, .int .i64 a0_4, .slice Ao24 l0_5.length co24], .int .i64 t359, .agg #[.int .i64 t360, .int .i64 t361, .string t362]] ?_; (with_reducible refine (impl_LogPut.calls k a0_3 a0_4 _ _ l0_5 t359 t360 t361 t362 t365 t366 t367 t370 _ ?side1 ?side2 A23.out).mono ?_); (case side1 => refine (Kd.R_reads' (e := 135) (base := w0.heap.size) (ok := fun k_ => ((P0_5_ k_ ∨ w.heap.size ≤ k_) ∧ k_ ≠ gb364)) (n := l0_5.length) (c := co24) ?_).2.2; exact (rq_ (Kd.R_mono (Kd.R_far (p := ⟨gb364, 2, none⟩) (Kd.R_far (p := ⟨gb364, 1, none⟩) (Kd.R_far (p := ⟨gb364, 0, none⟩) (Kd.R_mono HO0_5.out (fun k_ hk => (⟨hk, hk.2⟩ : _ ∧ k_ ≠ gb364))) (fun _ hk => hk.2) (.int .i64 t360)) (fun _ hk => hk.2) (.int .i64 t361)) (fun _ hk => hk.2) (.string t362)) (fun _ h_ => h_.1)))); (case side2 => exact (Kd.R_reads' HO0_5.out).2.1); rintro e w35 ⟨v368, rfl, ho0, hb⟩; refine ⟨_, rfl, ?_⟩; have HO369 := mk_ (Kd.R_lower (Kd.R_newB (Kd.R_new' (Kd.R_newM (M := fun k_ => (P0_5_ k_ ∨ w.heap.size ≤ k_)) ho0 (show Kept w _ (fun _ => False) from by repeat (first | (with_reducible first | exact HK.out | apply Kept.alloc | apply Kept.drewN | apply Kept.drew | refine Kept.setCell ?_ (.inr GW353.out) _ | refine Kept.setCell ?_ (.inr GW354.out) _ | refine Kept.setCell ?_ (.inr GW364.out) _) | exact HK.out)).1 (fun k_ h_ => .inr h_)) (Kd.R_lt (rq_ (Kd.R_mono (Kd.R_far (p := ⟨gb364, 2, none⟩) (Kd.R_far (p := ⟨gb364, 1, none⟩) (Kd.R_far (p := ⟨gb364, 0, none⟩) (Kd.R_mono HO0_5.out (fun k_ hk => (⟨hk, hk.2⟩ : _ ∧ k_ ≠ gb364))) (fun _ hk => hk.2) (.int .i64 t360)) (fun _ hk => hk.2) (.int .i64 t361)) (fun _ hk => hk.2) (.string t362)) (fun _ h_ => h_.1))))) (g := gb364) (o := .cells #[.int .i64 t360, .int .i64 t361, .string t362] 135 (0, 0)) bu_) (below_size (bw_ HB))); replace HO0_5 := mk_ (Kd.R_elder' (rq_ (Kd.R_mono (Kd.R_far (p := ⟨gb364, 2, none⟩) (Kd.R_far (p := ⟨gb364, 1, none⟩) (Kd.R_far (p := ⟨gb364, 0, none⟩) (Kd.R_mono HO0_5.out (fun k_ hk => (⟨hk, hk.2⟩ : _ ∧ k_ ≠ gb364))) (fun _ hk => hk.2) (.int .i64 t360)) (fun _ hk => hk.2) (.int .i64 t361)) (fun _ hk => hk.2) (.string t362)) (fun _ h_ => h_.1))) (Kd.R_base ho0) hb); replace BK353 := mk_ (blk_below (g := gb353) (o := .cells #[.int .i64 a0_0, .int .i64 a0_1, .int .i64 a0_2, .int .i64 a0_3, .int .i64 a0_4, .slice Ao24 l0_5.length co24] 61 (0, 0)) bf_ hb); replace BK354 := mk_ (blk_below (g := gb354) (o := .cells #[.int .i64 0, .int .i64 0, .int .i64 0, .int .i64 0, .int .i64 0, .slice none 0 0] 61 (0, 0)) bf_ hb); replace BK364 := mk_ (blk_below (g := gb364) (o := .cells #[.int .i64 t360, .int .i64 t361, .string t362] 135 (0, 0)) bu_ hb); replace HK := mk_ (Kept.below (S := (fun _ => False)) (by repeat (first | (with_reducible first | exact HK.out | apply Kept.alloc | apply Kept.drewN | apply Kept.drew | refine Kept.setCell ?_ (.inr GW353.out) _ | refine Kept.setCell ?_ (.inr GW354.out) _ | refine Kept.setCell ?_ (.inr GW364.out) _) | exact HK.out)) hb); replace HB := bs_ HB hb; (try clear hb); (try clear hk); (try clear ho0); obtain ⟨hcz36_0, hcz36_1, hcz36_2, hcz36_3, hcz36_4, hcz36_5, hfz36_0, hfz36_1, hfz36_2, hfz36_3, hfz36_4, hfz36_5⟩ := b6_ BK353; obtain ⟨Ao37, co37, eo37⟩ := Kd.R_slice HO369.out; subst eo37; obtain ⟨hcz38_0, hcz38_1, hcz38_2, hcz38_3, hcz38_4, hcz38_5, hfz38_0, hfz38_1, hfz38_2, hfz38_3, hfz38_4, hfz38_5⟩ := b6_ BK354))
  refine bodyPost_ret (results_ct rfl _ _ gb354 61 #[.int .i64 a0_0, .int .i64 a0_1, .int .i64 a0_2, .int .i64 t365, .int .i64 t366, .slice Ao37 t367.length co37] (0, 0) _ rfl bu_ Try.underlying61 rfl (by kernel_rfl)) rfl ?_
  exact ⟨_, er_, rq_ (Kd.R_mono (Kd.R_far (p := ⟨gb354, 5, none⟩) (Kd.R_far (p := ⟨gb354, 4, none⟩) (Kd.R_far (p := ⟨gb354, 3, none⟩) (Kd.R_far (p := ⟨gb354, 2, none⟩) (Kd.R_far (p := ⟨gb354, 1, none⟩) (Kd.R_far (p := ⟨gb354, 0, none⟩) (Kd.R_far (p := ⟨gb353, 5, none⟩) (Kd.R_far (p := ⟨gb353, 4, none⟩) (Kd.R_far (p := ⟨gb353, 3, none⟩) (Kd.R_types (Kd.R_types HO369.out BK353.out (by decide)) BK354.out (by decide)) (fun _ hk => hk.1.2) (.int .i64 t365)) (fun _ hk => hk.1.2) (.int .i64 t366)) (fun _ hk => hk.1.2) (.slice Ao37 t367.length co37)) (fun _ hk => hk.2) (.int .i64 a0_0)) (fun _ hk => hk.2) (.int .i64 a0_1)) (fun _ hk => hk.2) (.int .i64 a0_2)) (fun _ hk => hk.2) (.int .i64 t365)) (fun _ hk => hk.2) (.int .i64 t366)) (fun _ hk => hk.2) (.slice Ao37 t367.length co37)) (fun _ hk => hk.1.1.1.1.1)), bw_ HB, by repeat (first | (with_reducible first | exact HK.out | apply Kept.alloc | apply Kept.drewN | apply Kept.drew | refine Kept.setCell ?_ (.inr GW353.out) _ | refine Kept.setCell ?_ (.inr GW354.out) _ | refine Kept.setCell ?_ (.inr GW364.out) _) | exact HK.out)⟩
 subst c4
 rw [if_pos rfl] at H
 replace H := Option.bind_eq_some_iff.mp H
 obtain ⟨t358, A50, H⟩ := H
 try dsimp only at H
 have A5 := Aside0.mk A50
 clear A50
 simp only [Option.some.injEq, Prod.mk.injEq] at H
 obtain ⟨rfl, rfl, rfl, rfl, rfl, rfl, rfl⟩ := H
 obtain ⟨Ao6, co6, eo6⟩ := Kd.R_slice HO0_5.out
 subst eo6
 go_enter Try.func72, Try.ntmps72
 try go_wp2_with (first | ((with_reducible refine gate_dst (N := 2) rfl ?_); refine bx_ (N := 2) (cs := #[.int .i64 a0_0, .int .i64 a0_1, .int .i64 a0_2, .int .i64 a0_3, .int .i64 a0_4, .slice Ao6 l0_5.length co6]) (t := 61) ?_; intro gb353 hg w7 hbox hb; have BK353 := mk_ (hbox); have GW353 := mk_ ((by rw [hg]; exact (by first | exact HK.out.1 | exact (show Kept w _ (fun _ => False) from by repeat (first | (with_reducible first | exact HK.out | apply Kept.alloc | apply Kept.drewN | apply Kept.drew) | exact HK.out)).1) : w.heap.size ≤ gb353)); have GE353 := mk_ ((by rw [hg]; exact (below_size (bw_ HB)) : w0.heap.size ≤ gb353)); replace HO0_5 := mk_ (Kd.R_below (rq_ HO0_5.out) hb); replace HK := mk_ (Kept.below (S := (fun _ => False)) (by repeat (first | (with_reducible first | exact HK.out | apply Kept.alloc | apply Kept.drewN | apply Kept.drew) | exact HK.out)) hb); replace HB := bs_ HB hb; clear hb hbox hg) | ((with_reducible refine gate_dst (N := 4) rfl ?_); refine bx_ (N := 4) (cs := #[.int .i64 0, .int .i64 0, .int .i64 0, .int .i64 0, .int .i64 0, .slice none 0 0]) (t := 61) ?_; intro gb354 hg w8 hbox hb; have BK354 := mk_ (hbox); have GW354 := mk_ ((by rw [hg]; exact (by first | exact HK.out.1 | exact (show Kept w _ (fun _ => False) from by repeat (first | (with_reducible first | exact HK.out | apply Kept.alloc | apply Kept.drewN | apply Kept.drew | refine Kept.setCell ?_ (.inr GW353.out) _) | exact HK.out)).1) : w.heap.size ≤ gb354)); have GE354 := mk_ ((by rw [hg]; exact (below_size (bw_ HB)) : w0.heap.size ≤ gb354)); have NB353_354 := bl_ BK353 hg; have NB354_353 := bg_ BK353 hg; replace HO0_5 := mk_ (Kd.R_below (rq_ HO0_5.out) hb); replace BK353 := bb_ BK353 hb; replace HK := mk_ (Kept.below (S := (fun _ => False)) (by repeat (first | (with_reducible first | exact HK.out | apply Kept.alloc | apply Kept.drewN | apply Kept.drew | refine Kept.setCell ?_ (.inr GW353.out) _) | exact HK.out)) hb); replace HB := bs_ HB hb; clear hb hbox hg) | ((with_reducible refine gate_callee (f := 69) rfl ?_); refine gl_ 14 Try.func69 #[.string a1, .int .u8 72] ?_; (with_reducible refine (impl_head.calls k a1 72 t355 t356 true _ A3.out).mono ?_); rintro e w9 ⟨rfl, hb⟩; refine ⟨_, rfl, ?_⟩; replace HO0_5 := mk_ (Kd.R_below (rq_ HO0_5.out) hb); replace BK353 := bb_ BK353 hb; replace BK354 := bb_ BK354 hb; replace HK := mk_ (Kept.below (S := (fun _ => False)) (by repeat (first | (with_reducible first | exact HK.out | apply Kept.alloc | apply Kept.drewN | apply Kept.drew | refine Kept.setCell ?_ (.inr GW353.out) _ | refine Kept.setCell ?_ (.inr GW354.out) _) | exact HK.out)) hb); replace HB := bs_ HB hb; (try clear hb); obtain ⟨hnb10, hnc10⟩ := ns_ NB353_354; obtain ⟨hcz11_0, hcz11_1, hcz11_2, hcz11_3, hcz11_4, hcz11_5, hfz11_0, hfz11_1, hfz11_2, hfz11_3, hfz11_4, hfz11_5⟩ := b6_ BK353))
 have n0_ : Aside0 (Kd.R k135 135 ((w9.setCell ⟨gb353, 1, none⟩ (.int .i64 t355)).setCell ⟨gb353, 2, none⟩ (.int .i64 t356)) w0.heap.size (fun k_ => (P0_5_ k_ ∨ w.heap.size ≤ k_)) (.slice Ao6 l0_5.length co6) l0_5) := ⟨rq_ (Kd.R_mono (Kd.R_far (p := ⟨gb353, 2, none⟩) (Kd.R_far (p := ⟨gb353, 1, none⟩) (Kd.R_types HO0_5.out BK353.out (by decide)) (fun _ hk => hk.2) (.int .i64 t355)) (fun _ hk => hk.2) (.int .i64 t356)) (fun _ hk => hk.1))⟩
 have n1_ : Aside0 (((w9.setCell ⟨gb353, 1, none⟩ (.int .i64 t355)).setCell ⟨gb353, 2, none⟩ (.int .i64 t356)).heap[gb353]? = some (.cells #[.int .i64 a0_0, .int .i64 t355, .int .i64 t356, .int .i64 a0_3, .int .i64 a0_4, .slice Ao6 l0_5.length co6] 61 (0, 0))) := ⟨bu_⟩
 have n2_ : Aside0 (((w9.setCell ⟨gb353, 1, none⟩ (.int .i64 t355)).setCell ⟨gb353, 2, none⟩ (.int .i64 t356)).heap[gb354]? = some (.cells #[.int .i64 0, .int .i64 0, .int .i64 0, .int .i64 0, .int .i64 0, .slice none 0 0] 61 (0, 0))) := ⟨bf_⟩
 have n3_ : Aside0 (Kept w ((w9.setCell ⟨gb353, 1, none⟩ (.int .i64 t355)).setCell ⟨gb353, 2, none⟩ (.int .i64 t356)) (fun _ => False)) := ⟨by repeat (first | (with_reducible first | exact HK.out | apply Kept.alloc | apply Kept.drewN | apply Kept.drew | refine Kept.setCell ?_ (.inr GW353.out) _ | refine Kept.setCell ?_ (.inr GW354.out) _) | exact HK.out)⟩
 have n4_ : Aside0 (Below w0.heap.size w0 ((w9.setCell ⟨gb353, 1, none⟩ (.int .i64 t355)).setCell ⟨gb353, 2, none⟩ (.int .i64 t356))) := ⟨bw_ HB⟩
 (try clear HO0_5); (try clear BK353); (try clear BK354); (try clear HK); (try clear HB)
 generalize ((w9.setCell ⟨gb353, 1, none⟩ (.int .i64 t355)).setCell ⟨gb353, 2, none⟩ (.int .i64 t356)) = w12 at n0_ n1_ n2_ n3_ n4_ ⊢
 have HO0_5 := n0_; have BK353 := n1_; have BK354 := n2_; have HK := n3_; have HB := n4_; clear n0_ n1_ n2_ n3_ n4_
 have n3_ := mk_ (Kept.drew HK.out)
 clear HK; have HK := n3_; clear n3_; replace HO0_5 := rd_ HO0_5; replace BK353 := kd_ BK353; replace BK354 := kd_ BK354; replace HB := wd_ HB
 refine start_ (n := 5) (S := fun w' => w'.cell? ⟨gb353, 0, none⟩ = some (.int .i64 a0_0) ∧ w'.cell? ⟨gb353, 1, none⟩ = some (.int .i64 t355) ∧ w'.cell? ⟨gb353, 2, none⟩ = some (.int .i64 t356) ∧ w'.cell? ⟨gb353, 3, none⟩ = some (.int .i64 a0_3) ∧ w'.cell? ⟨gb353, 4, none⟩ = some (.int .i64 a0_4) ∧ w'.cell? ⟨gb353, 5, none⟩ = some (.slice Ao6 l0_5.length co6)) (ds := []) #[false, false, false, false, false] (by kernel_rfl) rfl rfl ⟨bc_ BK353 0, bc_ BK353 1, bc_ BK353 2, bc_ BK353 3, bc_ BK353 4, bc_ BK353 5⟩ (fun hHeld => ?_)
 generalize w12.drew = w13 at HO0_5 BK353 BK354 HK HB hHeld ⊢
 refine tv_ 0 23 hHeld ?_
 refine tv_ 1 24 hHeld ?_
 refine one_ (i := 2) (N := some 25) #[true, true, true, false, false] rfl rfl (by kernel_rfl) (by decide) (fun K hK => ?_)
 refine goes_ Try.func70 (by kernel_rfl) rfl #[.agg #[.int .i64 a0_0, .int .i64 t355, .int .i64 t356, .int .i64 a0_3, .int .i64 a0_4, .slice Ao6 l0_5.length co6]] (by rfl) rfl rfl ga_ ?_
 with_reducible refine (impl_JournalOk.calls k a0_0 t355 t356 a0_3 a0_4 _ _ l0_5 t358 _ ?side1 ?side2 A5.out).mono ?_
 (case side1 => exact cr_ HO0_5)
 (case side2 => exact (Kd.R_reads' HO0_5.out).2.1)
 rintro e w14 ⟨rfl, hb⟩
 refine ⟨_, rfl, ?_⟩
 have n0_ := mk_ (Kd.R_below (rq_ HO0_5.out) hb)
 have n3_ := mk_ (Kept.below (S := (fun _ => False)) (by repeat (first | (with_reducible first | exact HK.out | apply Kept.alloc | apply Kept.drewN | apply Kept.drew | refine Kept.setCell ?_ (.inr GW353.out) _ | refine Kept.setCell ?_ (.inr GW354.out) _) | exact HK.out)) hb)
 clear HO0_5; clear HK; have HO0_5 := n0_; have HK := n3_; clear n0_ n3_; replace BK353 := bb_ BK353 hb; replace BK354 := bb_ BK354 hb; replace HB := bs_ HB hb; (try clear hb); (try clear hb2); (try clear hk); (try clear hi)
 refine hK.out _ _ ⟨bc_ BK353 0, bc_ BK353 1, bc_ BK353 2, bc_ BK353 3, bc_ BK353 4, bc_ BK353 5⟩ (fun hHeld => ?_)
 clear hK K
 refine norm_ (a' := ?_) ?_ ?_
 rotate_left
 ·show Act.put _ (some 25) _ = _
  simp only [Act.put, sia_, scz_, scs_, i64_w, i32_w]
  rfl
 refine one_ (i := 3) (N := none) #[true, true, true, true, false] rfl rfl (by kernel_rfl) (by decide) (fun K hK => ?_)
 have hs15 : w14.cell? ⟨gb354, 0, none⟩ = some (.int .i64 0) := bc_ BK354 0
 have hfs15 := blk_frozen BK354.out 0
 have hns15_0 := NB353_354.out
 have hms15_0 := NB354_353.out
 have hs16 : w14.cell? ⟨gb354, 1, none⟩ = some (.int .i64 0) := bc_ BK354 1
 have hfs16 := blk_frozen BK354.out 1
 have hns16_0 := NB353_354.out
 have hms16_0 := NB354_353.out
 have hs17 : w14.cell? ⟨gb354, 2, none⟩ = some (.int .i64 0) := bc_ BK354 2
 have hfs17 := blk_frozen BK354.out 2
 have hns17_0 := NB353_354.out
 have hms17_0 := NB354_353.out
 have hs18 : w14.cell? ⟨gb354, 3, none⟩ = some (.int .i64 0) := bc_ BK354 3
 have hfs18 := blk_frozen BK354.out 3
 have hns18_0 := NB353_354.out
 have hms18_0 := NB354_353.out
 have hs19 : w14.cell? ⟨gb354, 4, none⟩ = some (.int .i64 0) := bc_ BK354 4
 have hfs19 := blk_frozen BK354.out 4
 have hns19_0 := NB353_354.out
 have hms19_0 := NB354_353.out
 have hs20 : w14.cell? ⟨gb354, 5, none⟩ = some (.slice none 0 0) := bc_ BK354 5
 have hfs20 := blk_frozen BK354.out 5
 have hns20_0 := NB353_354.out
 have hms20_0 := NB354_353.out
 refine skip_ (w1 := ?_) (by rfl) rfl ?_ ?_
 rotate_left
 ·go_simp
  rfl
 refine hK.out _ _ ⟨((cell_far (p := ⟨gb354, _, none⟩) NB353_354.out _).trans (((cell_far (p := ⟨gb354, _, none⟩) NB353_354.out _).trans (((cell_far (p := ⟨gb354, _, none⟩) NB353_354.out _).trans (((cell_far (p := ⟨gb354, _, none⟩) NB353_354.out _).trans (((cell_far (p := ⟨gb354, _, none⟩) NB353_354.out _).trans (((cell_far (p := ⟨gb354, _, none⟩) NB353_354.out _).trans (hHeld.1)))))))))))), ((cell_far (p := ⟨gb354, _, none⟩) NB353_354.out _).trans (((cell_far (p := ⟨gb354, _, none⟩) NB353_354.out _).trans (((cell_far (p := ⟨gb354, _, none⟩) NB353_354.out _).trans (((cell_far (p := ⟨gb354, _, none⟩) NB353_354.out _).trans (((cell_far (p := ⟨gb354, _, none⟩) NB353_354.out _).trans (((cell_far (p := ⟨gb354, _, none⟩) NB353_354.out _).trans (hHeld.2.1)))))))))))), ((cell_far (p := ⟨gb354, _, none⟩) NB353_354.out _).trans (((cell_far (p := ⟨gb354, _, none⟩) NB353_354.out _).trans (((cell_far (p := ⟨gb354, _, none⟩) NB353_354.out _).trans (((cell_far (p := ⟨gb354, _, none⟩) NB353_354.out _).trans (((cell_far (p := ⟨gb354, _, none⟩) NB353_354.out _).trans (((cell_far (p := ⟨gb354, _, none⟩) NB353_354.out _).trans (hHeld.2.2.1)))))))))))), ((cell_far (p := ⟨gb354, _, none⟩) NB353_354.out _).trans (((cell_far (p := ⟨gb354, _, none⟩) NB353_354.out _).trans (((cell_far (p := ⟨gb354, _, none⟩) NB353_354.out _).trans (((cell_far (p := ⟨gb354, _, none⟩) NB353_354.out _).trans (((cell_far (p := ⟨gb354, _, none⟩) NB353_354.out _).trans (((cell_far (p := ⟨gb354, _, none⟩) NB353_354.out _).trans (hHeld.2.2.2.1)))))))))))), ((cell_far (p := ⟨gb354, _, none⟩) NB353_354.out _).trans (((cell_far (p := ⟨gb354, _, none⟩) NB353_354.out _).trans (((cell_far (p := ⟨gb354, _, none⟩) NB353_354.out _).trans (((cell_far (p := ⟨gb354, _, none⟩) NB353_354.out _).trans (((cell_far (p := ⟨gb354, _, none⟩) NB353_354.out _).trans (((cell_far (p := ⟨gb354, _, none⟩) NB353_354.out _).trans (hHeld.2.2.2.2.1)))))))))))), ((cell_far (p := ⟨gb354, _, none⟩) NB353_354.out _).trans (((cell_far (p := ⟨gb354, _, none⟩) NB353_354.out _).trans (((cell_far (p := ⟨gb354, _, none⟩) NB353_354.out _).trans (((cell_far (p := ⟨gb354, _, none⟩) NB353_354.out _).trans (((cell_far (p := ⟨gb354, _, none⟩) NB353_354.out _).trans (((cell_far (p := ⟨gb354, _, none⟩) NB353_354.out _).trans (hHeld.2.2.2.2.2))))))))))))⟩ (fun hHeld => ?_)
 clear hK K
 refine pv_ 4 5 ?_
 refine done_ (by kernel_rfl) ?_
 try go_wp2
 refine bodyPost_ret (results_ct rfl _ _ gb354 61 #[.int .i64 a0_0, .int .i64 t355, .int .i64 t356, .int .i64 a0_3, .int .i64 a0_4, .slice Ao6 l0_5.length co6] (0, 0) _ rfl bu_ Try.underlying61 rfl (by kernel_rfl)) rfl ?_
 exact ⟨_, er_, rq_ (Kd.R_mono (Kd.R_far (p := ⟨gb354, 5, none⟩) (Kd.R_far (p := ⟨gb354, 4, none⟩) (Kd.R_far (p := ⟨gb354, 3, none⟩) (Kd.R_far (p := ⟨gb354, 2, none⟩) (Kd.R_far (p := ⟨gb354, 1, none⟩) (Kd.R_far (p := ⟨gb354, 0, none⟩) (Kd.R_types HO0_5.out BK354.out (by decide)) (fun _ hk => hk.2) (.int .i64 a0_0)) (fun _ hk => hk.2) (.int .i64 t355)) (fun _ hk => hk.2) (.int .i64 t356)) (fun _ hk => hk.2) (.int .i64 a0_3)) (fun _ hk => hk.2) (.int .i64 a0_4)) (fun _ hk => hk.2) (.slice Ao6 l0_5.length co6)) (fun _ hk => hk.1)), bw_ HB, by repeat (first | (with_reducible first | exact HK.out | apply Kept.alloc | apply Kept.drewN | apply Kept.drew | refine Kept.setCell ?_ (.inr GW353.out) _ | refine Kept.setCell ?_ (.inr GW354.out) _) | exact HK.out)⟩

/-! ### impl_ReadJournal: function 30 -/
theorem add_next_ (ad : Addr) (i : Int) (h : 0 ≤ i) : (⟨ad.block, ad.off + 1, none⟩ : Addr).add i.toNat = ad.add (i + 1).toNat := by
 have h1 : (i + 1).toNat = i.toNat + 1 := by omega
 rw [h1]
 unfold Addr.add
 by_cases h0 : i.toNat = 0
 ·simp [h0]
 ·simp [h0]
  omega
theorem abs_ {P : Program} {ops : Array Oper} {rest : List Oper} {a : Act} {Q : Exit → Act → World → Prop} {W : World} (F : World → Prop) (hF : F W) (h : ∀ W', F W' → wpList P ops Q rest a W') : wpList P ops Q rest a W := h W hF
theorem of_kept_ {n : Nat} {w W W1 : World} (h0 : Below n w W) (hb : Below n w W1) (hk : Kept W W1 (fun _ => False)) : Below W.heap.size W W1 := ⟨hb.os.trans h0.os.symm, hb.tape.trans h0.tape.symm, hb.output.trans h0.output.symm, hk.1, fun k h => hk.2 k h id⟩
def impl_ReadJournal.l0 (ls : List ByteArray) : Nat → Int → Int → Int → Int → Int → Int → List S135 → Int → Option (Int × Int × Int × Int × Int × List S135 × Int)
 | 0, _, _, _, _, _, _, _, _ => none
 | k + 1, i, a0, a1, a2, a3, a4, l, e => if i < (ls.length : Int) - 1 then (if 0 ≤ i then ((impl_told.f k a0 a1 a2 a3 a4 l (rdOf ByteArray.empty ls (i + 1))).bind fun m => if m.2.2.2.2.2.2 = true then ((impl_Frame.f k (rdOf ByteArray.empty ls (i + 1))).bind fun f => impl_ReadJournal.l0 ls k (wrap64 (i + 1)) m.1 m.2.1 m.2.2.1 m.2.2.2.1 m.2.2.2.2.1 m.2.2.2.2.2.1 (wrap64 (e + (f.1.size : Int)))) else some (a0, a1, a2, a3, a4, l, e)) else none) else some (a0, a1, a2, a3, a4, l, e)
def impl_ReadJournal.f (k : Nat) (a0 : Int) (a1 : ByteArray) : Option (Int × Int × Int × Int × Int × List S135 × Int × Bool) := (impl_Unframe.f k a1).bind fun u => (impl_within.f a0 0 999).bind fun c => if c = true then (if (u.1.length : Int) = 0 then some (0, 0, 0, 0, 0, [], 0, false) else ((impl_head.f k (rdOf ByteArray.empty u.1 0) 66).bind fun h => if h.2.2 = true then ((impl_JournalOk.f k a0 0 0 h.1 h.2.1 []).bind fun g => if g = true then ((impl_Frame.f k (rdOf ByteArray.empty u.1 0)).bind fun f => (impl_ReadJournal.l0 u.1 k 0 a0 0 0 h.1 h.2.1 [] (f.1.size : Int)).bind fun r => some (r.1, r.2.1, r.2.2.1, r.2.2.2.1, r.2.2.2.2.1, r.2.2.2.2.2.1, r.2.2.2.2.2.2, true)) else some (0, 0, 0, 0, 0, [], 0, false)) else some (0, 0, 0, 0, 0, [], 0, false))) else some (0, 0, 0, 0, 0, [], 0, false)
theorem impl_ReadJournal.mono_l (ls : List ByteArray) : ∀ k, ∀ i a0 a1 a2 a3 a4 l e, LeO (impl_ReadJournal.l0 ls k i a0 a1 a2 a3 a4 l e) (impl_ReadJournal.l0 ls (k + 1) i a0 a1 a2 a3 a4 l e)
 | 0 => fun _ _ _ _ _ _ _ _ r h => by simp [impl_ReadJournal.l0] at h
 | k + 1 => by
  have ih0 := impl_ReadJournal.mono_l ls k
  intro i a0 a1 a2 a3 a4 l e
  unfold impl_ReadJournal.l0
  repeat' first
   | (with_reducible exact ih0 _ _ _ _ _ _ _ _)
   | (with_reducible exact LeO.refl _)
   | (with_reducible exact impl_told.mono _ _ _ _ _ _ _ _)
   | (with_reducible exact impl_Frame.mono _ _)
   | (with_reducible refine LeO.ite ?_ ?_)
   | (with_reducible refine LeO.bind ?_ (fun _ => ?_))
theorem impl_ReadJournal.mono : ∀ a0 a1 k, LeO (impl_ReadJournal.f k a0 a1) (impl_ReadJournal.f (k + 1) a0 a1) := by
 intro a0 a1 k
 unfold impl_ReadJournal.f
 repeat' first
  | (with_reducible exact impl_ReadJournal.mono_l _ _ _ _ _ _ _ _ _ _)
  | (with_reducible exact LeO.refl _)
  | (with_reducible exact impl_Unframe.mono _ _)
  | (with_reducible exact impl_head.mono _ _ _)
  | (with_reducible exact impl_Frame.mono _ _)
  | (with_reducible exact impl_JournalOk.mono _ _ _ _ _ _ _)
  | (with_reducible refine LeO.ite ?_ ?_)
  | (with_reducible refine LeO.bind ?_ (fun _ => ?_))
set_option maxHeartbeats 8000000 in
set_option maxRecDepth 100000 in
theorem impl_ReadJournal.no1_ (k : Nat) (a0 : Int) (a1 : ByteArray) (w : World) (u1 : List ByteArray) (u2 : Int) (hu : impl_Unframe.f k a1 = some (u1, u2)) (hc : impl_within.f a0 0 999 = some false) :
  Calls Try.prog 30 #[.int .i64 a0, .string a1] w fun e w' => ∃ v5_ : Value, e = .returned (.tuple #[.agg #[.int .i64 0, .int .i64 0, .int .i64 0, .int .i64 0, .int .i64 0, v5_], .int .i64 0, .bool false]) ∧ Kd.R k135 135 w' w.heap.size (fun _ => True) v5_ [] ∧ Below w.heap.size w w' := by
 have hu61 := Try.underlying61
 have hu59 := Try.underlying59
 have HU := Aside0.mk hu
 have HB := mk_ (Below.refl w.heap.size w)
 clear hu
 have HC := Aside0.mk hc
 clear hc
 go_enter Try.func30, Try.ntmps30
 go_wp2_with (first
  | ((with_reducible refine gate_dst (N := 4) rfl ?_); refine bx_ (N := 4) (cs := #[.int .i64 0, .int .i64 0, .int .i64 0, .int .i64 0, .int .i64 0, .slice none 0 0]) (t := 61) ?_; intro gr hg w1 hbox hb; have BR := Aside0.mk hbox; have GR : Aside0 (w.heap.size ≤ gr) := bz_ hg; replace HB := bs_ HB hb; clear hb hbox hg; obtain ⟨r0, r1_, r2_, r3_, r4_, r5_, z0, z1, z2, z3, z4, z5⟩ := b6_ BR)
  | (go_at_call 68; (with_reducible refine (impl_Unframe.calls k a1 u1 u2 _ HU.out).mono ?_); rintro e w2 ⟨v0, rfl, ho, hb⟩; obtain ⟨A0, c0, rfl⟩ := Kd.R_slice ho; have HR := mk_ (Kd.R_lower ho (below_size (bw_ HB))); replace BR := bb_ BR hb; replace HB := bs_ HB hb; clear hb ho; clear r0 r1_ r2_ r3_ r4_ r5_ z0 z1 z2 z3 z4 z5; obtain ⟨r0, r1_, r2_, r3_, r4_, r5_, z0, z1, z2, z3, z4, z5⟩ := b6_ BR)
  | (go_at_call 59; (with_reducible refine (impl_within.calls a0 0 999 false _ HC.out).mono ?_); rintro e w3 ⟨rfl, ⟨nd, rfl⟩⟩))
 refine bodyPost_ret (results_ctt rfl _ _ gr 61 #[.int .i64 0, .int .i64 0, .int .i64 0, .int .i64 0, .int .i64 0, .slice none 0 0] (0, 0) _ rfl bu_ Try.underlying61 rfl (by kernel_rfl)) rfl ?_
 exact ⟨_, rfl, Kd.R_nil _ _ _ _ _, bw_ HB⟩
set_option maxHeartbeats 8000000 in
set_option maxRecDepth 100000 in
theorem impl_ReadJournal.no2_ (k : Nat) (a0 : Int) (a1 : ByteArray) (w : World) (u1 : List ByteArray) (u2 : Int) (hu : impl_Unframe.f k a1 = some (u1, u2)) (hc : impl_within.f a0 0 999 = some true) (hl : (u1.length : Int) = 0) :
  Calls Try.prog 30 #[.int .i64 a0, .string a1] w fun e w' => ∃ v5_ : Value, e = .returned (.tuple #[.agg #[.int .i64 0, .int .i64 0, .int .i64 0, .int .i64 0, .int .i64 0, v5_], .int .i64 0, .bool false]) ∧ Kd.R k135 135 w' w.heap.size (fun _ => True) v5_ [] ∧ Below w.heap.size w w' := by
 have hu61 := Try.underlying61
 have hu59 := Try.underlying59
 have HU := Aside0.mk hu
 have HB := mk_ (Below.refl w.heap.size w)
 clear hu
 have HC := Aside0.mk hc
 have hlb : ((u1.length : Int) == 0) = true := beq_iff_eq.mpr hl
 have hlc : (u1.length == 0) = true := by first | simpa using hl | (simp at hl ⊢; omega)
 clear hc
 go_enter Try.func30, Try.ntmps30
 go_wp2_with (first
  | ((with_reducible refine gate_dst (N := 4) rfl ?_); refine bx_ (N := 4) (cs := #[.int .i64 0, .int .i64 0, .int .i64 0, .int .i64 0, .int .i64 0, .slice none 0 0]) (t := 61) ?_; intro gr hg w1 hbox hb; have BR := Aside0.mk hbox; have GR : Aside0 (w.heap.size ≤ gr) := bz_ hg; replace HB := bs_ HB hb; clear hb hbox hg; obtain ⟨r0, r1_, r2_, r3_, r4_, r5_, z0, z1, z2, z3, z4, z5⟩ := b6_ BR)
  | (go_at_call 68; (with_reducible refine (impl_Unframe.calls k a1 u1 u2 _ HU.out).mono ?_); rintro e w2 ⟨v0, rfl, ho, hb⟩; obtain ⟨A0, c0, rfl⟩ := Kd.R_slice ho; have HR := mk_ (Kd.R_lower ho (below_size (bw_ HB))); replace BR := bb_ BR hb; replace HB := bs_ HB hb; clear hb ho; clear r0 r1_ r2_ r3_ r4_ r5_ z0 z1 z2 z3 z4 z5; obtain ⟨r0, r1_, r2_, r3_, r4_, r5_, z0, z1, z2, z3, z4, z5⟩ := b6_ BR)
  | (go_at_call 59; (with_reducible refine (impl_within.calls a0 0 999 true _ HC.out).mono ?_); rintro e w3 ⟨rfl, ⟨nd, rfl⟩⟩))
 refine bodyPost_ret (results_ctt rfl _ _ gr 61 #[.int .i64 0, .int .i64 0, .int .i64 0, .int .i64 0, .int .i64 0, .slice none 0 0] (0, 0) _ rfl bu_ Try.underlying61 rfl (by kernel_rfl)) rfl ?_
 exact ⟨_, rfl, Kd.R_nil _ _ _ _ _, bw_ HB⟩
set_option maxHeartbeats 8000000 in
set_option maxRecDepth 100000 in
theorem impl_ReadJournal.no3_ (k : Nat) (a0 : Int) (a1 : ByteArray) (w : World) (u1 : List ByteArray) (u2 : Int) (hu : impl_Unframe.f k a1 = some (u1, u2)) (hc : impl_within.f a0 0 999 = some true) (hl : ¬ (u1.length : Int) = 0) (b1 b2 : Int) (h2 : impl_head.f k (rdOf ByteArray.empty u1 0) 66 = some (b1, b2, false)) :
  Calls Try.prog 30 #[.int .i64 a0, .string a1] w fun e w' => ∃ v5_ : Value, e = .returned (.tuple #[.agg #[.int .i64 0, .int .i64 0, .int .i64 0, .int .i64 0, .int .i64 0, v5_], .int .i64 0, .bool false]) ∧ Kd.R k135 135 w' w.heap.size (fun _ => True) v5_ [] ∧ Below w.heap.size w w' := by
 have hu61 := Try.underlying61
 have hu59 := Try.underlying59
 have HU := Aside0.mk hu
 have HB := mk_ (Below.refl w.heap.size w)
 clear hu
 have HC := Aside0.mk hc
 have hlb : ((u1.length : Int) == 0) = false := beq_eq_false_iff_ne.mpr hl
 have hlc : (u1.length == 0) = false := by first | simpa using hl | (simp at hl ⊢; omega)
 have H2 := Aside0.mk h2
 have p0 : (0 : Int) ≤ 0 := Int.le_refl 0
 have q0 : (0 : Int) < (u1.length : Int) := by omega
 clear hc h2
 go_enter Try.func30, Try.ntmps30
 go_wp2_with (first
  | ((with_reducible refine gate_dst (N := 4) rfl ?_); refine bx_ (N := 4) (cs := #[.int .i64 0, .int .i64 0, .int .i64 0, .int .i64 0, .int .i64 0, .slice none 0 0]) (t := 61) ?_; intro gr hg w1 hbox hb; have BR := Aside0.mk hbox; have GR : Aside0 (w.heap.size ≤ gr) := bz_ hg; replace HB := bs_ HB hb; clear hb hbox hg; obtain ⟨r0, r1_, r2_, r3_, r4_, r5_, z0, z1, z2, z3, z4, z5⟩ := b6_ BR)
  | (go_at_call 68; (with_reducible refine (impl_Unframe.calls k a1 u1 u2 _ HU.out).mono ?_); rintro e w2 ⟨v0, rfl, ho, hb⟩; obtain ⟨A0, c0, rfl⟩ := Kd.R_slice ho; have HR := mk_ (Kd.R_lower ho (below_size (bw_ HB))); replace BR := bb_ BR hb; replace HB := bs_ HB hb; clear hb ho; clear r0 r1_ r2_ r3_ r4_ r5_ z0 z1 z2 z3 z4 z5; obtain ⟨r0, r1_, r2_, r3_, r4_, r5_, z0, z1, z2, z3, z4, z5⟩ := b6_ BR)
  | (go_at_call 59; (with_reducible refine (impl_within.calls a0 0 999 true _ HC.out).mono ?_); rintro e w3 ⟨rfl, ⟨nd, rfl⟩⟩; obtain ⟨ad, e0, hx0⟩ := Kd.at_string (Kd.R_reads' HR.out).2.2 0 p0 q0; cases e0; have HCAP := mk_ (Kd.R_reads' HR.out).2.1; replace hx0 := (congrArg w2.cell? (show ad = ad.add (Int.toNat 0) from rfl)).trans hx0; have HX0 := Aside0.mk hx0)
  | (go_at_call 69; (with_reducible refine (impl_head.calls k (rdOf ByteArray.empty u1 0) 66 b1 b2 _ _ H2.out).mono ?_); rintro e w4 ⟨rfl, hb⟩; replace BR := bb_ BR hb; replace HR := rb_ HR hb; have HX4 : Aside0 (w4.cell? ad = some (.string (rdOf ByteArray.empty u1 0))) := ⟨(hb.cell (World.block_lt_of_cell? _ _ hx0)).trans hx0⟩; replace HB := bs_ HB hb; clear hb hx0 HX0; clear r0 r1_ r2_ r3_ r4_ r5_ z0 z1 z2 z3 z4 z5; obtain ⟨r0, r1_, r2_, r3_, r4_, r5_, z0, z1, z2, z3, z4, z5⟩ := b6_ BR; have HB4 := mk_ (Below.refl w4.heap.size w4); have HBW := HB; have BR4 := BR; have HC4 : Aside0 (Kd.C Kd.string w4 (some ad) u1.length u1) := ⟨(Kd.R_reads' HR.out).2.2⟩; replace hx0 := HX4.out; clear HR)
  | ((with_reducible refine gate_dst (N := 12) rfl ?_); refine bx_ (N := 12) (cs := #[.int .i64 0, .int .i64 0, .int .i64 0, .int .i64 0, .int .i64 0, .slice none 0 0]) (t := 61) ?_; intro gj hg w5 hbox hb; have BJ := Aside0.mk hbox; have GJ : Aside0 (w.heap.size ≤ gj) := bz_ hg; have EJ : Aside0 (gj = w4.heap.size) := ⟨hg⟩; have G4 : Aside0 (w4.heap.size ≤ gj) := ⟨by rw [EJ.out]; exact Nat.le_refl _⟩; replace HB4 : Aside0 (Below w4.heap.size w4 w5) := bs_ HB4 hb; have NRJ := bl_ BR hg; have NJR := bg_ BR hg; have hm1 := NRJ.out; have hm2 := NJR.out; replace BR := bb_ BR hb; replace HB := bs_ HB hb; replace hx0 := hc_ HB4 HX4.out; clear hb hbox hg; clear r0 r1_ r2_ r3_ r4_ r5_ z0 z1 z2 z3 z4 z5; obtain ⟨r0, r1_, r2_, r3_, r4_, r5_, z0, z1, z2, z3, z4, z5⟩ := b6_ BR; obtain ⟨j0, j1, j2, j3, j4, j5, y0, y1, y2, y3, y4, y5⟩ := b6_ BJ))
 refine bodyPost_ret (results_ctt rfl _ _ gr 61 #[.int .i64 0, .int .i64 0, .int .i64 0, .int .i64 0, .int .i64 0, .slice none 0 0] (0, 0) _ rfl bu_ Try.underlying61 rfl (by kernel_rfl)) rfl ?_
 exact ⟨_, rfl, Kd.R_nil _ _ _ _ _, bw_ HB⟩
set_option maxHeartbeats 8000000 in
set_option maxRecDepth 100000 in
theorem impl_ReadJournal.no4_ (k : Nat) (a0 : Int) (a1 : ByteArray) (w : World) (u1 : List ByteArray) (u2 : Int) (hu : impl_Unframe.f k a1 = some (u1, u2)) (hc : impl_within.f a0 0 999 = some true) (hl : ¬ (u1.length : Int) = 0) (b1 b2 : Int) (h2 : impl_head.f k (rdOf ByteArray.empty u1 0) 66 = some (b1, b2, true)) (h4 : impl_JournalOk.f k a0 0 0 b1 b2 [] = some false) :
  Calls Try.prog 30 #[.int .i64 a0, .string a1] w fun e w' => ∃ v5_ : Value, e = .returned (.tuple #[.agg #[.int .i64 0, .int .i64 0, .int .i64 0, .int .i64 0, .int .i64 0, v5_], .int .i64 0, .bool false]) ∧ Kd.R k135 135 w' w.heap.size (fun _ => True) v5_ [] ∧ Below w.heap.size w w' := by
 have hu61 := Try.underlying61
 have hu59 := Try.underlying59
 have HU := Aside0.mk hu
 have HB := mk_ (Below.refl w.heap.size w)
 clear hu
 have HC := Aside0.mk hc
 have hlb : ((u1.length : Int) == 0) = false := beq_eq_false_iff_ne.mpr hl
 have hlc : (u1.length == 0) = false := by first | simpa using hl | (simp at hl ⊢; omega)
 have H2 := Aside0.mk h2
 have p0 : (0 : Int) ≤ 0 := Int.le_refl 0
 have q0 : (0 : Int) < (u1.length : Int) := by omega
 clear hc h2
 have HLK : Aside0 (∀ W, Calls Try.prog 70 #[.agg #[.int .i64 a0, .int .i64 0, .int .i64 0, .int .i64 b1, .int .i64 b2, .slice none 0 0]] W (fun e w' => e = .returned (.bool false) ∧ Below W.heap.size W w')) := ⟨fun W => impl_JournalOk.calls k a0 0 0 b1 b2 none 0 [] false W ((Kd.R_reads' (Kd.R_nil k135 135 W 0 (fun _ => True))).2.2) (Nat.le_refl 0) h4⟩
 clear h4
 go_enter Try.func30, Try.ntmps30
 go_wp2_with (first
  | ((with_reducible refine gate_dst (N := 4) rfl ?_); refine bx_ (N := 4) (cs := #[.int .i64 0, .int .i64 0, .int .i64 0, .int .i64 0, .int .i64 0, .slice none 0 0]) (t := 61) ?_; intro gr hg w1 hbox hb; have BR := Aside0.mk hbox; have GR : Aside0 (w.heap.size ≤ gr) := bz_ hg; replace HB := bs_ HB hb; clear hb hbox hg; obtain ⟨r0, r1_, r2_, r3_, r4_, r5_, z0, z1, z2, z3, z4, z5⟩ := b6_ BR)
  | (go_at_call 68; (with_reducible refine (impl_Unframe.calls k a1 u1 u2 _ HU.out).mono ?_); rintro e w2 ⟨v0, rfl, ho, hb⟩; obtain ⟨A0, c0, rfl⟩ := Kd.R_slice ho; have HR := mk_ (Kd.R_lower ho (below_size (bw_ HB))); replace BR := bb_ BR hb; replace HB := bs_ HB hb; clear hb ho; clear r0 r1_ r2_ r3_ r4_ r5_ z0 z1 z2 z3 z4 z5; obtain ⟨r0, r1_, r2_, r3_, r4_, r5_, z0, z1, z2, z3, z4, z5⟩ := b6_ BR)
  | (go_at_call 59; (with_reducible refine (impl_within.calls a0 0 999 true _ HC.out).mono ?_); rintro e w3 ⟨rfl, ⟨nd, rfl⟩⟩; obtain ⟨ad, e0, hx0⟩ := Kd.at_string (Kd.R_reads' HR.out).2.2 0 p0 q0; cases e0; have HCAP := mk_ (Kd.R_reads' HR.out).2.1; replace hx0 := (congrArg w2.cell? (show ad = ad.add (Int.toNat 0) from rfl)).trans hx0; have HX0 := Aside0.mk hx0)
  | (go_at_call 69; (with_reducible refine (impl_head.calls k (rdOf ByteArray.empty u1 0) 66 b1 b2 _ _ H2.out).mono ?_); rintro e w4 ⟨rfl, hb⟩; replace BR := bb_ BR hb; replace HR := rb_ HR hb; have HX4 : Aside0 (w4.cell? ad = some (.string (rdOf ByteArray.empty u1 0))) := ⟨(hb.cell (World.block_lt_of_cell? _ _ hx0)).trans hx0⟩; replace HB := bs_ HB hb; clear hb hx0 HX0; clear r0 r1_ r2_ r3_ r4_ r5_ z0 z1 z2 z3 z4 z5; obtain ⟨r0, r1_, r2_, r3_, r4_, r5_, z0, z1, z2, z3, z4, z5⟩ := b6_ BR; have HB4 := mk_ (Below.refl w4.heap.size w4); have HBW := HB; have BR4 := BR; have HC4 : Aside0 (Kd.C Kd.string w4 (some ad) u1.length u1) := ⟨(Kd.R_reads' HR.out).2.2⟩; replace hx0 := HX4.out; clear HR)
  | ((with_reducible refine gate_dst (N := 12) rfl ?_); refine bx_ (N := 12) (cs := #[.int .i64 0, .int .i64 0, .int .i64 0, .int .i64 0, .int .i64 0, .slice none 0 0]) (t := 61) ?_; intro gj hg w5 hbox hb; have BJ := Aside0.mk hbox; have GJ : Aside0 (w.heap.size ≤ gj) := bz_ hg; have EJ : Aside0 (gj = w4.heap.size) := ⟨hg⟩; have G4 : Aside0 (w4.heap.size ≤ gj) := ⟨by rw [EJ.out]; exact Nat.le_refl _⟩; replace HB4 : Aside0 (Below w4.heap.size w4 w5) := bs_ HB4 hb; have NRJ := bl_ BR hg; have NJR := bg_ BR hg; have hm1 := NRJ.out; have hm2 := NJR.out; replace BR := bb_ BR hb; replace HB := bs_ HB hb; replace hx0 := hc_ HB4 HX4.out; clear hb hbox hg; clear r0 r1_ r2_ r3_ r4_ r5_ z0 z1 z2 z3 z4 z5; obtain ⟨r0, r1_, r2_, r3_, r4_, r5_, z0, z1, z2, z3, z4, z5⟩ := b6_ BR; obtain ⟨j0, j1, j2, j3, j4, j5, y0, y1, y2, y3, y4, y5⟩ := b6_ BJ)
  | (go_at_call 70; (with_reducible refine (HLK.out _).mono ?_); rintro e w6 ⟨rfl, hb⟩; replace BJ : Aside0 (w6.heap[gj]? = some (.cells #[.int .i64 a0, .int .i64 0, .int .i64 0, .int .i64 b1, .int .i64 b2, .slice none 0 0] 61 (0, 0))) := ⟨blk_below bu_ hb⟩; replace BR : Aside0 (w6.heap[gr]? = some (.cells #[.int .i64 0, .int .i64 0, .int .i64 0, .int .i64 0, .int .i64 0, .slice none 0 0] 61 (0, 0))) := ⟨blk_below bf_ hb⟩; replace HB4 := bs_ HB4 hb; replace HB := bs_ HB hb; replace hx0 := hc_ HB4 HX4.out; clear hb j0 j1 j2 j3 j4 j5 y0 y1 y2 y3 y4 y5; clear r0 r1_ r2_ r3_ r4_ r5_ z0 z1 z2 z3 z4 z5; obtain ⟨r0, r1_, r2_, r3_, r4_, r5_, z0, z1, z2, z3, z4, z5⟩ := b6_ BR))
 refine bodyPost_ret (results_ctt rfl _ _ gr 61 #[.int .i64 0, .int .i64 0, .int .i64 0, .int .i64 0, .int .i64 0, .slice none 0 0] (0, 0) _ rfl bu_ Try.underlying61 rfl (by kernel_rfl)) rfl ?_
 exact ⟨_, rfl, Kd.R_nil _ _ _ _ _, bw_ HB⟩
set_option maxHeartbeats 8000000 in
set_option maxRecDepth 100000 in
theorem impl_ReadJournal.loop_ (k : Nat) (a0 : Int) (a1 : ByteArray) (w : World) (u1 : List ByteArray) (u2 : Int) (hu : impl_Unframe.f k a1 = some (u1, u2)) (hc : impl_within.f a0 0 999 = some true) (hl : ¬ (u1.length : Int) = 0) (b1 b2 : Int) (h2 : impl_head.f k (rdOf ByteArray.empty u1 0) 66 = some (b1, b2, true)) (h4 : impl_JournalOk.f k a0 0 0 b1 b2 [] = some true) (f1 : ByteArray) (f2 : Bool) (hf : impl_Frame.f k (rdOf ByteArray.empty u1 0) = some (f1, f2)) (q0 q1 q2 q3 q4 : Int) (ql : List S135) (qe : Int) (h5 : impl_ReadJournal.l0 u1 k 0 a0 0 0 b1 b2 [] (f1.size : Int) = some (q0, q1, q2, q3, q4, ql, qe)) :
  Calls Try.prog 30 #[.int .i64 a0, .string a1] w fun e w' => ∃ v5_ : Value, e = .returned (.tuple #[.agg #[.int .i64 q0, .int .i64 q1, .int .i64 q2, .int .i64 q3, .int .i64 q4, v5_], .int .i64 qe, .bool true]) ∧ Kd.R k135 135 w' w.heap.size (fun _ => True) v5_ ql ∧ Below w.heap.size w w' := by
 have hu61 := Try.underlying61
 have hu59 := Try.underlying59
 have HU := Aside0.mk hu
 have HB := mk_ (Below.refl w.heap.size w)
 clear hu
 have HC := Aside0.mk hc
 have hlb : ((u1.length : Int) == 0) = false := beq_eq_false_iff_ne.mpr hl
 have hlc : (u1.length == 0) = false := by first | simpa using hl | (simp at hl ⊢; omega)
 have H2 := Aside0.mk h2
 have p0 : (0 : Int) ≤ 0 := Int.le_refl 0
 have q0' : (0 : Int) < (u1.length : Int) := by omega
 clear hc h2
 have HLK : Aside0 (∀ W, Calls Try.prog 70 #[.agg #[.int .i64 a0, .int .i64 0, .int .i64 0, .int .i64 b1, .int .i64 b2, .slice none 0 0]] W (fun e w' => e = .returned (.bool true) ∧ Below W.heap.size W w')) := ⟨fun W => impl_JournalOk.calls k a0 0 0 b1 b2 none 0 [] true W ((Kd.R_reads' (Kd.R_nil k135 135 W 0 (fun _ => True))).2.2) (Nat.le_refl 0) h4⟩
 clear h4
 have H5 := Aside0.mk h5
 have HFR := Aside0.mk hf
 clear h5 hf
 go_enter Try.func30, Try.ntmps30
 go_wp2_with (first
  | ((with_reducible refine gate_dst (N := 4) rfl ?_); refine bx_ (N := 4) (cs := #[.int .i64 0, .int .i64 0, .int .i64 0, .int .i64 0, .int .i64 0, .slice none 0 0]) (t := 61) ?_; intro gr hg w1 hbox hb; have BR := Aside0.mk hbox; have GR : Aside0 (w.heap.size ≤ gr) := bz_ hg; replace HB := bs_ HB hb; clear hb hbox hg; obtain ⟨r0, r1_, r2_, r3_, r4_, r5_, z0, z1, z2, z3, z4, z5⟩ := b6_ BR)
  | (go_at_call 68; (with_reducible refine (impl_Unframe.calls k a1 u1 u2 _ HU.out).mono ?_); rintro e w2 ⟨v0, rfl, ho, hb⟩; obtain ⟨A0, c0, rfl⟩ := Kd.R_slice ho; have HR := mk_ (Kd.R_lower ho (below_size (bw_ HB))); replace BR := bb_ BR hb; replace HB := bs_ HB hb; clear hb ho; clear r0 r1_ r2_ r3_ r4_ r5_ z0 z1 z2 z3 z4 z5; obtain ⟨r0, r1_, r2_, r3_, r4_, r5_, z0, z1, z2, z3, z4, z5⟩ := b6_ BR)
  | (go_at_call 59; (with_reducible refine (impl_within.calls a0 0 999 true _ HC.out).mono ?_); rintro e w3 ⟨rfl, ⟨nd, rfl⟩⟩; obtain ⟨ad, e0, hx0⟩ := Kd.at_string (Kd.R_reads' HR.out).2.2 0 p0 q0'; cases e0; have HCAP := mk_ (Kd.R_reads' HR.out).2.1; replace hx0 := (congrArg w2.cell? (show ad = ad.add (Int.toNat 0) from rfl)).trans hx0; have HX0 := Aside0.mk hx0)
  | (go_at_call 69; (with_reducible refine (impl_head.calls k (rdOf ByteArray.empty u1 0) 66 b1 b2 _ _ H2.out).mono ?_); rintro e w4 ⟨rfl, hb⟩; replace BR := bb_ BR hb; replace HR := rb_ HR hb; have HX4 : Aside0 (w4.cell? ad = some (.string (rdOf ByteArray.empty u1 0))) := ⟨(hb.cell (World.block_lt_of_cell? _ _ hx0)).trans hx0⟩; replace HB := bs_ HB hb; clear hb hx0 HX0; clear r0 r1_ r2_ r3_ r4_ r5_ z0 z1 z2 z3 z4 z5; obtain ⟨r0, r1_, r2_, r3_, r4_, r5_, z0, z1, z2, z3, z4, z5⟩ := b6_ BR; have HB4 := mk_ (Below.refl w4.heap.size w4); have HBW := HB; have BR4 := BR; have HC4 : Aside0 (Kd.C Kd.string w4 (some ad) u1.length u1) := ⟨(Kd.R_reads' HR.out).2.2⟩; replace hx0 := HX4.out; clear HR)
  | ((with_reducible refine gate_dst (N := 12) rfl ?_); refine bx_ (N := 12) (cs := #[.int .i64 0, .int .i64 0, .int .i64 0, .int .i64 0, .int .i64 0, .slice none 0 0]) (t := 61) ?_; intro gj hg w5 hbox hb; have BJ := Aside0.mk hbox; have GJ : Aside0 (w.heap.size ≤ gj) := bz_ hg; have EJ : Aside0 (gj = w4.heap.size) := ⟨hg⟩; have G4 : Aside0 (w4.heap.size ≤ gj) := ⟨by rw [EJ.out]; exact Nat.le_refl _⟩; replace HB4 : Aside0 (Below w4.heap.size w4 w5) := bs_ HB4 hb; have NRJ := bl_ BR hg; have NJR := bg_ BR hg; have hm1 := NRJ.out; have hm2 := NJR.out; replace BR := bb_ BR hb; replace HB := bs_ HB hb; replace hx0 := hc_ HB4 HX4.out; clear hb hbox hg; clear r0 r1_ r2_ r3_ r4_ r5_ z0 z1 z2 z3 z4 z5; obtain ⟨r0, r1_, r2_, r3_, r4_, r5_, z0, z1, z2, z3, z4, z5⟩ := b6_ BR; obtain ⟨j0, j1, j2, j3, j4, j5, y0, y1, y2, y3, y4, y5⟩ := b6_ BJ)
  | (go_at_call 70; (with_reducible refine (HLK.out _).mono ?_); rintro e w6 ⟨rfl, hb⟩; replace BJ : Aside0 (w6.heap[gj]? = some (.cells #[.int .i64 a0, .int .i64 0, .int .i64 0, .int .i64 b1, .int .i64 b2, .slice none 0 0] 61 (0, 0))) := ⟨blk_below bu_ hb⟩; replace BR : Aside0 (w6.heap[gr]? = some (.cells #[.int .i64 0, .int .i64 0, .int .i64 0, .int .i64 0, .int .i64 0, .slice none 0 0] 61 (0, 0))) := ⟨blk_below bf_ hb⟩; replace HB4 := bs_ HB4 hb; replace HB := bs_ HB hb; replace hx0 := hc_ HB4 HX4.out; clear hb j0 j1 j2 j3 j4 j5 y0 y1 y2 y3 y4 y5; clear r0 r1_ r2_ r3_ r4_ r5_ z0 z1 z2 z3 z4 z5; obtain ⟨r0, r1_, r2_, r3_, r4_, r5_, z0, z1, z2, z3, z4, z5⟩ := b6_ BR)
  | (go_at_call 71; (with_reducible refine (impl_Frame.calls k _ f1 f2 _ HFR.out).mono ?_); rintro e w7 ⟨rfl, hb⟩; replace BJ := bb_ BJ hb; replace BR := bb_ BR hb; replace HB4 := bs_ HB4 hb; replace HB := bs_ HB hb; clear hb hx0; clear r0 r1_ r2_ r3_ r4_ r5_ z0 z1 z2 z3 z4 z5; obtain ⟨r0, r1_, r2_, r3_, r4_, r5_, z0, z1, z2, z3, z4, z5⟩ := b6_ BR))
 case inl =>
  have HV : ∃ AD CC, Value.slice (some ad) (u1.length - 1) 0 = .slice (some AD) (u1.length - 1) CC ∧ ∀ i : Int, 0 ≤ i → i < (u1.length : Int) - 1 → w4.cell? (AD.add i.toNat) = some (.string (rdOf ByteArray.empty u1 (i + 1))) := ⟨ad, 0, rfl, fun i h0 h1 => by have := HCAP.out; omega⟩
  generalize Value.slice (some ad) (u1.length - 1) 0 = VT at HV ⊢
  obtain ⟨AD, CC, rfl, hT⟩ := HV
  have HTX := Aside0.mk hT
  clear hT
  go_loopg [15, 67] k (fun kq v15 v67 w' => ∃ (xe xi x0 x1 x2 x3 x4 : Int) (l : List S135) (v : Value), v15 = .int .i64 xe ∧ v67 = .int .i64 xi ∧ Aside0 (impl_ReadJournal.l0 u1 kq xi x0 x1 x2 x3 x4 l xe = some (q0, q1, q2, q3, q4, ql, qe)) ∧ Aside0 (kq ≤ k) ∧ Aside0 (w'.heap[gj]? = some (.cells #[.int .i64 x0, .int .i64 x1, .int .i64 x2, .int .i64 x3, .int .i64 x4, v] 61 (0, 0))) ∧ Aside0 (k135.R 135 w' w4.heap.size (fun k => True ∧ k ≠ gj) v l) ∧ Aside0 (Below w4.heap.size w4 w'))
  case atStart => exact ⟨(f1.size : Int), 0, a0, 0, 0, b1, b2, [], .slice none 0 0, rfl, rfl, H5, ⟨Nat.le_refl _⟩, ⟨bp_ BJ⟩, ⟨Kd.R_nil _ _ _ _ _⟩, ⟨bw_ HB4⟩⟩
  case round =>
   clear H5 BJ BR HB4 HB HLK HFR r0 r1_ r2_ r3_ r4_ r5_ z0 z1 z2 z3 z4 z5
   obtain ⟨xe, xi, x0, x1, x2, x3, x4, l, v, rfl, rfl, HA, HK1, BK, HO, HB4⟩ := hrel
   cases gk with
   | zero => exact absurd HA.out (by simp [impl_ReadJournal.l0])
   | succ k1 =>
    have H := HA.out
    clear HA
    simp only [impl_ReadJournal.l0] at H
    obtain ⟨A2, cm, rfl⟩ := Kd.R_slice HO.out
    have BR := bb_ BR4 HB4.out
    obtain ⟨j0, j1, j2, j3, j4, j5, y0, y1, y2, y3, y4, y5⟩ := b6_ BK; obtain ⟨r0, r1_, r2_, r3_, r4_, r5_, z0, z1, z2, z3, z4, z5⟩ := b6_ BR
    by_cases c1 : xi < (u1.length : Int) - 1
    ·rw [if_pos c1] at H
     have c1n : xi < ((u1.length - 1 : Nat) : Int) := by omega
     have c1b : decide (xi < ((u1.length - 1 : Nat) : Int)) = true := decide_eq_true c1n
     by_cases p1 : 0 ≤ xi
     ·rw [if_pos p1] at H
      obtain ⟨⟨m0, m1, m2, m3, m4, ml, mr⟩, hm, H⟩ := Option.bind_eq_some_iff.mp H
      have HM := Aside0.mk hm
      clear hm
      have hx := hc_ HB4 (HTX.out xi p1 c1)
      cases mr with
      | false =>
       rw [if_neg Bool.false_ne_true] at H
       simp only [Option.some.injEq, Prod.mk.injEq] at H
       obtain ⟨rfl, rfl, rfl, rfl, rfl, rfl, rfl⟩ := H
       go_wp2_with (first
        | (go_at_call 72; (with_reducible refine (impl_told.calls k1 x0 x1 x2 x3 x4 (fun k => True ∧ k ≠ gj) (.slice A2 l.length cm) l (rdOf ByteArray.empty u1 (xi + 1)) m0 m1 m2 m3 m4 ml false w4 _ ?hB ?hR HM.out).mono ?_); (case hB => exact bw_ HB4); (case hR => exact rp_ HO); rintro e w8 ⟨v8, rfl, ho, hb4, hk⟩; have hb := of_kept_ (show Below w4.heap.size w4 _ from bw_ HB4) hb4 hk; have hlt := blk_lt (show _ from bp_ BK); have HN : Aside0 (k135.R 135 w8 w4.heap.size (fun k => True ∧ k ≠ gj) v8 ml) := ⟨Kd.R_mono ho (fun k hk => ⟨trivial, hk.elim (fun h => h.2) (fun h e => by omega)⟩)⟩; clear hlt; replace BK := bb_ BK hb; replace HO := rb_ HO hb; replace BR := bb_ BR hb; replace HB4 := bs_ HB4 hb; clear hb ho hb4 hk hx j0 j1 j2 j3 j4 j5 y0 y1 y2 y3 y4 y5 r0 r1_ r2_ r3_ r4_ r5_ z0 z1 z2 z3 z4 z5; obtain ⟨A5, c5, rfl⟩ := Kd.R_slice HN.out; obtain ⟨j0, j1, j2, j3, j4, j5, y0, y1, y2, y3, y4, y5⟩ := b6_ BK; obtain ⟨r0, r1_, r2_, r3_, r4_, r5_, z0, z1, z2, z3, z4, z5⟩ := b6_ BR)
        | ((with_reducible refine gate_dst (N := 18) rfl ?_); refine bx_ (N := 18) (cs := #[.int .i64 0, .int .i64 0, .int .i64 0, .int .i64 0, .int .i64 0, .slice none 0 0]) (t := 61) ?_; intro gn hg w9 hbox hb; have BN := Aside0.mk hbox; have G9 : Aside0 (w4.heap.size ≤ gn) := ⟨by rw [hg]; exact low4_ HB4⟩; have NJN := bl_ BK hg; have NNJ := bg_ BK hg; have NRN := bl_ BR hg; have NNR := bg_ BR hg; have hn1 := NJN.out; have hn2 := NNJ.out; have hn3 := NRN.out; have hn4 := NNR.out; replace HN : Aside0 (k135.R 135 w9 w4.heap.size (fun k => (True ∧ k ≠ gj) ∧ k ≠ gn) (.slice A5 ml.length c5) ml) := ⟨Kd.R_below (Kd.R_mono (Kd.R_bound HN.out) (fun k hk => ⟨hk.1, by have := hk.2.2.1; omega⟩)) hb⟩; replace HO : Aside0 (k135.R 135 w9 w4.heap.size (fun k => (True ∧ k ≠ gj) ∧ k ≠ gn) (.slice A2 l.length cm) l) := ⟨Kd.R_below (Kd.R_mono (Kd.R_bound HO.out) (fun k hk => ⟨hk.1, by have := hk.2.2.1; omega⟩)) hb⟩; replace BK := bb_ BK hb; replace BR := bb_ BR hb; replace HB4 := bs_ HB4 hb; clear hb hbox hg j0 j1 j2 j3 j4 j5 y0 y1 y2 y3 y4 y5 r0 r1_ r2_ r3_ r4_ r5_ z0 z1 z2 z3 z4 z5; obtain ⟨j0, j1, j2, j3, j4, j5, y0, y1, y2, y3, y4, y5⟩ := b6_ BK; obtain ⟨r0, r1_, r2_, r3_, r4_, r5_, z0, z1, z2, z3, z4, z5⟩ := b6_ BR; obtain ⟨n0, n1, n2, n3, n4, n5, o0, o1, o2, o3, o4, o5⟩ := b6_ BN)
        | ((with_reducible refine gate_dst (N := 78) rfl ?_); refine abs_ (fun W => W.heap[gj]? = some (.cells #[.int .i64 x0, .int .i64 x1, .int .i64 x2, .int .i64 x3, .int .i64 x4, .slice A2 l.length cm] 61 (0, 0)) ∧ W.heap[gn]? = some (.cells #[.int .i64 m0, .int .i64 m1, .int .i64 m2, .int .i64 m3, .int .i64 m4, .slice A5 ml.length c5] 61 (0, 0)) ∧ W.heap[gr]? = some (.cells #[.int .i64 0, .int .i64 0, .int .i64 0, .int .i64 0, .int .i64 0, .slice none 0 0] 61 (0, 0)) ∧ k135.R 135 W w4.heap.size (fun k => (True ∧ k ≠ gn) ∧ k ≠ gj) (.slice A5 ml.length c5) ml ∧ k135.R 135 W w4.heap.size (fun k => True ∧ k ≠ gj) (.slice A2 l.length cm) l ∧ Below w4.heap.size w4 W) ⟨bf_, bu_, bf_, Kd.R_mono (rk_ HN.out) (fun k hk => ⟨⟨trivial, hk.2⟩, hk.1.2⟩), Kd.R_mono (rk_ HO.out) (fun k hk => hk.1), bw_ HB4⟩ ?_; clear HN HO BK BN BR HB4 j0 j1 j2 j3 j4 j5 y0 y1 y2 y3 y4 y5 r0 r1_ r2_ r3_ r4_ r5_ z0 z1 z2 z3 z4 z5 n0 n1 n2 n3 n4 n5 o0 o1 o2 o3 o4 o5; intro wc ⟨qk, qn, qr, qh, qo, qb⟩; have BK := Aside0.mk qk; have BN := Aside0.mk qn; have BR := Aside0.mk qr; have HN := Aside0.mk qh; have HO := Aside0.mk qo; have HB4 := Aside0.mk qb; clear qk qn qr qh qo qb; obtain ⟨j0, j1, j2, j3, j4, j5, y0, y1, y2, y3, y4, y5⟩ := b6_ BK; obtain ⟨r0, r1_, r2_, r3_, r4_, r5_, z0, z1, z2, z3, z4, z5⟩ := b6_ BR; obtain ⟨n0, n1, n2, n3, n4, n5, o0, o1, o2, o3, o4, o5⟩ := b6_ BN; refine Kd.event_run (v := .bool true) rfl (by first | (go_simp; done) | (go_simp; rfl)) ?_))
       have hOr : ∀ k, w4.heap.size ≤ k → k ≠ gr := fun k hk => by have h1 := blk_lt BR4.out; omega
       have HBF := bs_ HBW HB4.out
       refine bodyPost_ret (results_ctt rfl _ _ gr 61 #[.int .i64 x0, .int .i64 x1, .int .i64 x2, .int .i64 x3, .int .i64 x4, .slice A2 l.length cm] (0, 0) _ rfl bu_ Try.underlying61 rfl (by kernel_rfl)) rfl ?_
       exact ⟨_, rfl, Kd.R_mono (Kd.R_lower (rk_ (g := gr) (Kd.R_mono (Kd.R_bound HO.out) (fun k hk => ⟨trivial, hOr k hk.2.1⟩))) (below_size HBW.out)) (fun _ _ => trivial), bw_ HBF⟩
      | true =>
       rw [if_pos rfl] at H
       obtain ⟨⟨g1, g2⟩, hg, H⟩ := Option.bind_eq_some_iff.mp H
       have HFR2 := Aside0.mk hg
       have H' := Aside0.mk H
       clear hg H
       go_wp2_with (first
        | (go_at_call 72; (with_reducible refine (impl_told.calls k1 x0 x1 x2 x3 x4 (fun k => True ∧ k ≠ gj) (.slice A2 l.length cm) l (rdOf ByteArray.empty u1 (xi + 1)) m0 m1 m2 m3 m4 ml true w4 _ ?hB ?hR HM.out).mono ?_); (case hB => exact bw_ HB4); (case hR => exact rp_ HO); rintro e w8 ⟨v8, rfl, ho, hb4, hk⟩; have hb := of_kept_ (show Below w4.heap.size w4 _ from bw_ HB4) hb4 hk; have hlt := blk_lt (show _ from bp_ BK); have HN : Aside0 (k135.R 135 w8 w4.heap.size (fun k => True ∧ k ≠ gj) v8 ml) := ⟨Kd.R_mono ho (fun k hk => ⟨trivial, hk.elim (fun h => h.2) (fun h e => by omega)⟩)⟩; clear hlt; replace BK := bb_ BK hb; replace HO := rb_ HO hb; replace BR := bb_ BR hb; replace HB4 := bs_ HB4 hb; clear hb ho hb4 hk hx j0 j1 j2 j3 j4 j5 y0 y1 y2 y3 y4 y5 r0 r1_ r2_ r3_ r4_ r5_ z0 z1 z2 z3 z4 z5; obtain ⟨A5, c5, rfl⟩ := Kd.R_slice HN.out; obtain ⟨j0, j1, j2, j3, j4, j5, y0, y1, y2, y3, y4, y5⟩ := b6_ BK; obtain ⟨r0, r1_, r2_, r3_, r4_, r5_, z0, z1, z2, z3, z4, z5⟩ := b6_ BR)
        | ((with_reducible refine gate_dst (N := 18) rfl ?_); refine bx_ (N := 18) (cs := #[.int .i64 0, .int .i64 0, .int .i64 0, .int .i64 0, .int .i64 0, .slice none 0 0]) (t := 61) ?_; intro gn hg w9 hbox hb; have BN := Aside0.mk hbox; have G9 : Aside0 (w4.heap.size ≤ gn) := ⟨by rw [hg]; exact low4_ HB4⟩; have NJN := bl_ BK hg; have NNJ := bg_ BK hg; have NRN := bl_ BR hg; have NNR := bg_ BR hg; have hn1 := NJN.out; have hn2 := NNJ.out; have hn3 := NRN.out; have hn4 := NNR.out; replace HN : Aside0 (k135.R 135 w9 w4.heap.size (fun k => (True ∧ k ≠ gj) ∧ k ≠ gn) (.slice A5 ml.length c5) ml) := ⟨Kd.R_below (Kd.R_mono (Kd.R_bound HN.out) (fun k hk => ⟨hk.1, by have := hk.2.2.1; omega⟩)) hb⟩; replace HO : Aside0 (k135.R 135 w9 w4.heap.size (fun k => (True ∧ k ≠ gj) ∧ k ≠ gn) (.slice A2 l.length cm) l) := ⟨Kd.R_below (Kd.R_mono (Kd.R_bound HO.out) (fun k hk => ⟨hk.1, by have := hk.2.2.1; omega⟩)) hb⟩; replace BK := bb_ BK hb; replace BR := bb_ BR hb; replace HB4 := bs_ HB4 hb; clear hb hbox hg j0 j1 j2 j3 j4 j5 y0 y1 y2 y3 y4 y5 r0 r1_ r2_ r3_ r4_ r5_ z0 z1 z2 z3 z4 z5; obtain ⟨j0, j1, j2, j3, j4, j5, y0, y1, y2, y3, y4, y5⟩ := b6_ BK; obtain ⟨r0, r1_, r2_, r3_, r4_, r5_, z0, z1, z2, z3, z4, z5⟩ := b6_ BR; obtain ⟨n0, n1, n2, n3, n4, n5, o0, o1, o2, o3, o4, o5⟩ := b6_ BN)
        | ((with_reducible refine gate_dst (N := 78) rfl ?_); refine abs_ (fun W => W.heap[gj]? = some (.cells #[.int .i64 x0, .int .i64 x1, .int .i64 x2, .int .i64 x3, .int .i64 x4, .slice A2 l.length cm] 61 (0, 0)) ∧ W.heap[gn]? = some (.cells #[.int .i64 m0, .int .i64 m1, .int .i64 m2, .int .i64 m3, .int .i64 m4, .slice A5 ml.length c5] 61 (0, 0)) ∧ W.heap[gr]? = some (.cells #[.int .i64 0, .int .i64 0, .int .i64 0, .int .i64 0, .int .i64 0, .slice none 0 0] 61 (0, 0)) ∧ k135.R 135 W w4.heap.size (fun k => (True ∧ k ≠ gn) ∧ k ≠ gj) (.slice A5 ml.length c5) ml ∧ k135.R 135 W w4.heap.size (fun k => True ∧ k ≠ gj) (.slice A2 l.length cm) l ∧ Below w4.heap.size w4 W) ⟨bf_, bu_, bf_, Kd.R_mono (rk_ HN.out) (fun k hk => ⟨⟨trivial, hk.2⟩, hk.1.2⟩), Kd.R_mono (rk_ HO.out) (fun k hk => hk.1), bw_ HB4⟩ ?_; clear HN HO BK BN BR HB4 j0 j1 j2 j3 j4 j5 y0 y1 y2 y3 y4 y5 r0 r1_ r2_ r3_ r4_ r5_ z0 z1 z2 z3 z4 z5 n0 n1 n2 n3 n4 n5 o0 o1 o2 o3 o4 o5; intro wc ⟨qk, qn, qr, qh, qo, qb⟩; have BK := Aside0.mk qk; have BN := Aside0.mk qn; have BR := Aside0.mk qr; have HN := Aside0.mk qh; have HO := Aside0.mk qo; have HB4 := Aside0.mk qb; clear qk qn qr qh qo qb; obtain ⟨j0, j1, j2, j3, j4, j5, y0, y1, y2, y3, y4, y5⟩ := b6_ BK; obtain ⟨r0, r1_, r2_, r3_, r4_, r5_, z0, z1, z2, z3, z4, z5⟩ := b6_ BR; obtain ⟨n0, n1, n2, n3, n4, n5, o0, o1, o2, o3, o4, o5⟩ := b6_ BN; refine Kd.event_run (v := .bool false) rfl (by first | (go_simp; done) | (go_simp; rfl)) ?_)
        | (go_at_call 71; (with_reducible refine (impl_Frame.calls k1 _ g1 g2 _ HFR2.out).mono ?_); rintro e w10 ⟨rfl, hb⟩; replace BK : Aside0 (w10.heap[gj]? = some (.cells #[.int .i64 m0, .int .i64 m1, .int .i64 m2, .int .i64 m3, .int .i64 m4, .slice A5 ml.length c5] 61 (0, 0))) := ⟨blk_below bu_ hb⟩; replace HN : Aside0 (k135.R 135 w10 w4.heap.size (fun k => (True ∧ k ≠ gn) ∧ k ≠ gj) (.slice A5 ml.length c5) ml) := ⟨Kd.R_below (rk_ HN.out) hb⟩; replace HB4 := bs_ HB4 hb; clear hb HO BR BN n0 n1 n2 n3 n4 n5 o0 o1 o2 o3 o4 o5 j0 j1 j2 j3 j4 j5 y0 y1 y2 y3 y4 y5 r0 r1_ r2_ r3_ r4_ r5_ z0 z1 z2 z3 z4 z5))
       go_roundg k1
       case measure => have := HK1.out; omega
       case rel => exact ⟨_, wrap64 (xi + 1), m0, m1, m2, m3, m4, ml, _, rfl, rfl, H', ⟨by have := HK1.out; omega⟩, ⟨bp_ BK⟩, ⟨Kd.R_mono (rp_ HN) (fun _ hk => ⟨trivial, hk.2⟩)⟩, ⟨bw_ HB4⟩⟩
     ·rw [if_neg p1] at H
      cases H
    ·rw [if_neg c1] at H
     have c1n : ¬ xi < ((u1.length - 1 : Nat) : Int) := by omega
     have c1b : decide (xi < ((u1.length - 1 : Nat) : Int)) = false := decide_eq_false c1n
     simp only [Option.some.injEq, Prod.mk.injEq] at H
     obtain ⟨rfl, rfl, rfl, rfl, rfl, rfl, rfl⟩ := H
     go_wp2
     have hOr : ∀ k, w4.heap.size ≤ k → k ≠ gr := fun k hk => by have h1 := blk_lt BR4.out; omega
     have HBF := bs_ HBW HB4.out
     refine bodyPost_ret (results_ctt rfl _ _ gr 61 #[.int .i64 x0, .int .i64 x1, .int .i64 x2, .int .i64 x3, .int .i64 x4, .slice A2 l.length cm] (0, 0) _ rfl bu_ Try.underlying61 rfl (by kernel_rfl)) rfl ?_
     exact ⟨_, rfl, Kd.R_mono (Kd.R_lower (rk_ (g := gr) (Kd.R_mono (Kd.R_bound HO.out) (fun k hk => ⟨trivial, hOr k hk.2.1⟩))) (below_size HBW.out)) (fun _ _ => trivial), bw_ HBF⟩
 case inr =>
  have HV : ∃ AD CC, Value.slice (some ⟨ad.block, ad.off + 1, none⟩) (u1.length - 1) (c0 - 1) = .slice (some AD) (u1.length - 1) CC ∧ ∀ i : Int, 0 ≤ i → i < (u1.length : Int) - 1 → w4.cell? (AD.add i.toNat) = some (.string (rdOf ByteArray.empty u1 (i + 1))) := ⟨⟨ad.block, ad.off + 1, none⟩, c0 - 1, rfl, fun i h0 h1 => by
   obtain ⟨ad', e', hx⟩ := Kd.at_string HC4.out (i + 1) (by omega) (by omega)
   cases e'
   rw [add_next_ ad i h0]
   exact hx⟩
  generalize Value.slice (some ⟨ad.block, ad.off + 1, none⟩) (u1.length - 1) (c0 - 1) = VT at HV ⊢
  obtain ⟨AD, CC, rfl, hT⟩ := HV
  have HTX := Aside0.mk hT
  clear hT
  go_loopg [15, 67] k (fun kq v15 v67 w' => ∃ (xe xi x0 x1 x2 x3 x4 : Int) (l : List S135) (v : Value), v15 = .int .i64 xe ∧ v67 = .int .i64 xi ∧ Aside0 (impl_ReadJournal.l0 u1 kq xi x0 x1 x2 x3 x4 l xe = some (q0, q1, q2, q3, q4, ql, qe)) ∧ Aside0 (kq ≤ k) ∧ Aside0 (w'.heap[gj]? = some (.cells #[.int .i64 x0, .int .i64 x1, .int .i64 x2, .int .i64 x3, .int .i64 x4, v] 61 (0, 0))) ∧ Aside0 (k135.R 135 w' w4.heap.size (fun k => True ∧ k ≠ gj) v l) ∧ Aside0 (Below w4.heap.size w4 w'))
  case atStart => exact ⟨(f1.size : Int), 0, a0, 0, 0, b1, b2, [], .slice none 0 0, rfl, rfl, H5, ⟨Nat.le_refl _⟩, ⟨bp_ BJ⟩, ⟨Kd.R_nil _ _ _ _ _⟩, ⟨bw_ HB4⟩⟩
  case round =>
   clear H5 BJ BR HB4 HB HLK HFR r0 r1_ r2_ r3_ r4_ r5_ z0 z1 z2 z3 z4 z5
   obtain ⟨xe, xi, x0, x1, x2, x3, x4, l, v, rfl, rfl, HA, HK1, BK, HO, HB4⟩ := hrel
   cases gk with
   | zero => exact absurd HA.out (by simp [impl_ReadJournal.l0])
   | succ k1 =>
    have H := HA.out
    clear HA
    simp only [impl_ReadJournal.l0] at H
    obtain ⟨A2, cm, rfl⟩ := Kd.R_slice HO.out
    have BR := bb_ BR4 HB4.out
    obtain ⟨j0, j1, j2, j3, j4, j5, y0, y1, y2, y3, y4, y5⟩ := b6_ BK; obtain ⟨r0, r1_, r2_, r3_, r4_, r5_, z0, z1, z2, z3, z4, z5⟩ := b6_ BR
    by_cases c1 : xi < (u1.length : Int) - 1
    ·rw [if_pos c1] at H
     have c1n : xi < ((u1.length - 1 : Nat) : Int) := by omega
     have c1b : decide (xi < ((u1.length - 1 : Nat) : Int)) = true := decide_eq_true c1n
     by_cases p1 : 0 ≤ xi
     ·rw [if_pos p1] at H
      obtain ⟨⟨m0, m1, m2, m3, m4, ml, mr⟩, hm, H⟩ := Option.bind_eq_some_iff.mp H
      have HM := Aside0.mk hm
      clear hm
      have hx := hc_ HB4 (HTX.out xi p1 c1)
      cases mr with
      | false =>
       rw [if_neg Bool.false_ne_true] at H
       simp only [Option.some.injEq, Prod.mk.injEq] at H
       obtain ⟨rfl, rfl, rfl, rfl, rfl, rfl, rfl⟩ := H
       go_wp2_with (first
        | (go_at_call 72; (with_reducible refine (impl_told.calls k1 x0 x1 x2 x3 x4 (fun k => True ∧ k ≠ gj) (.slice A2 l.length cm) l (rdOf ByteArray.empty u1 (xi + 1)) m0 m1 m2 m3 m4 ml false w4 _ ?hB ?hR HM.out).mono ?_); (case hB => exact bw_ HB4); (case hR => exact rp_ HO); rintro e w8 ⟨v8, rfl, ho, hb4, hk⟩; have hb := of_kept_ (show Below w4.heap.size w4 _ from bw_ HB4) hb4 hk; have hlt := blk_lt (show _ from bp_ BK); have HN : Aside0 (k135.R 135 w8 w4.heap.size (fun k => True ∧ k ≠ gj) v8 ml) := ⟨Kd.R_mono ho (fun k hk => ⟨trivial, hk.elim (fun h => h.2) (fun h e => by omega)⟩)⟩; clear hlt; replace BK := bb_ BK hb; replace HO := rb_ HO hb; replace BR := bb_ BR hb; replace HB4 := bs_ HB4 hb; clear hb ho hb4 hk hx j0 j1 j2 j3 j4 j5 y0 y1 y2 y3 y4 y5 r0 r1_ r2_ r3_ r4_ r5_ z0 z1 z2 z3 z4 z5; obtain ⟨A5, c5, rfl⟩ := Kd.R_slice HN.out; obtain ⟨j0, j1, j2, j3, j4, j5, y0, y1, y2, y3, y4, y5⟩ := b6_ BK; obtain ⟨r0, r1_, r2_, r3_, r4_, r5_, z0, z1, z2, z3, z4, z5⟩ := b6_ BR)
        | ((with_reducible refine gate_dst (N := 18) rfl ?_); refine bx_ (N := 18) (cs := #[.int .i64 0, .int .i64 0, .int .i64 0, .int .i64 0, .int .i64 0, .slice none 0 0]) (t := 61) ?_; intro gn hg w9 hbox hb; have BN := Aside0.mk hbox; have G9 : Aside0 (w4.heap.size ≤ gn) := ⟨by rw [hg]; exact low4_ HB4⟩; have NJN := bl_ BK hg; have NNJ := bg_ BK hg; have NRN := bl_ BR hg; have NNR := bg_ BR hg; have hn1 := NJN.out; have hn2 := NNJ.out; have hn3 := NRN.out; have hn4 := NNR.out; replace HN : Aside0 (k135.R 135 w9 w4.heap.size (fun k => (True ∧ k ≠ gj) ∧ k ≠ gn) (.slice A5 ml.length c5) ml) := ⟨Kd.R_below (Kd.R_mono (Kd.R_bound HN.out) (fun k hk => ⟨hk.1, by have := hk.2.2.1; omega⟩)) hb⟩; replace HO : Aside0 (k135.R 135 w9 w4.heap.size (fun k => (True ∧ k ≠ gj) ∧ k ≠ gn) (.slice A2 l.length cm) l) := ⟨Kd.R_below (Kd.R_mono (Kd.R_bound HO.out) (fun k hk => ⟨hk.1, by have := hk.2.2.1; omega⟩)) hb⟩; replace BK := bb_ BK hb; replace BR := bb_ BR hb; replace HB4 := bs_ HB4 hb; clear hb hbox hg j0 j1 j2 j3 j4 j5 y0 y1 y2 y3 y4 y5 r0 r1_ r2_ r3_ r4_ r5_ z0 z1 z2 z3 z4 z5; obtain ⟨j0, j1, j2, j3, j4, j5, y0, y1, y2, y3, y4, y5⟩ := b6_ BK; obtain ⟨r0, r1_, r2_, r3_, r4_, r5_, z0, z1, z2, z3, z4, z5⟩ := b6_ BR; obtain ⟨n0, n1, n2, n3, n4, n5, o0, o1, o2, o3, o4, o5⟩ := b6_ BN)
        | ((with_reducible refine gate_dst (N := 78) rfl ?_); refine abs_ (fun W => W.heap[gj]? = some (.cells #[.int .i64 x0, .int .i64 x1, .int .i64 x2, .int .i64 x3, .int .i64 x4, .slice A2 l.length cm] 61 (0, 0)) ∧ W.heap[gn]? = some (.cells #[.int .i64 m0, .int .i64 m1, .int .i64 m2, .int .i64 m3, .int .i64 m4, .slice A5 ml.length c5] 61 (0, 0)) ∧ W.heap[gr]? = some (.cells #[.int .i64 0, .int .i64 0, .int .i64 0, .int .i64 0, .int .i64 0, .slice none 0 0] 61 (0, 0)) ∧ k135.R 135 W w4.heap.size (fun k => (True ∧ k ≠ gn) ∧ k ≠ gj) (.slice A5 ml.length c5) ml ∧ k135.R 135 W w4.heap.size (fun k => True ∧ k ≠ gj) (.slice A2 l.length cm) l ∧ Below w4.heap.size w4 W) ⟨bf_, bu_, bf_, Kd.R_mono (rk_ HN.out) (fun k hk => ⟨⟨trivial, hk.2⟩, hk.1.2⟩), Kd.R_mono (rk_ HO.out) (fun k hk => hk.1), bw_ HB4⟩ ?_; clear HN HO BK BN BR HB4 j0 j1 j2 j3 j4 j5 y0 y1 y2 y3 y4 y5 r0 r1_ r2_ r3_ r4_ r5_ z0 z1 z2 z3 z4 z5 n0 n1 n2 n3 n4 n5 o0 o1 o2 o3 o4 o5; intro wc ⟨qk, qn, qr, qh, qo, qb⟩; have BK := Aside0.mk qk; have BN := Aside0.mk qn; have BR := Aside0.mk qr; have HN := Aside0.mk qh; have HO := Aside0.mk qo; have HB4 := Aside0.mk qb; clear qk qn qr qh qo qb; obtain ⟨j0, j1, j2, j3, j4, j5, y0, y1, y2, y3, y4, y5⟩ := b6_ BK; obtain ⟨r0, r1_, r2_, r3_, r4_, r5_, z0, z1, z2, z3, z4, z5⟩ := b6_ BR; obtain ⟨n0, n1, n2, n3, n4, n5, o0, o1, o2, o3, o4, o5⟩ := b6_ BN; refine Kd.event_run (v := .bool true) rfl (by first | (go_simp; done) | (go_simp; rfl)) ?_))
       have hOr : ∀ k, w4.heap.size ≤ k → k ≠ gr := fun k hk => by have h1 := blk_lt BR4.out; omega
       have HBF := bs_ HBW HB4.out
       refine bodyPost_ret (results_ctt rfl _ _ gr 61 #[.int .i64 x0, .int .i64 x1, .int .i64 x2, .int .i64 x3, .int .i64 x4, .slice A2 l.length cm] (0, 0) _ rfl bu_ Try.underlying61 rfl (by kernel_rfl)) rfl ?_
       exact ⟨_, rfl, Kd.R_mono (Kd.R_lower (rk_ (g := gr) (Kd.R_mono (Kd.R_bound HO.out) (fun k hk => ⟨trivial, hOr k hk.2.1⟩))) (below_size HBW.out)) (fun _ _ => trivial), bw_ HBF⟩
      | true =>
       rw [if_pos rfl] at H
       obtain ⟨⟨g1, g2⟩, hg, H⟩ := Option.bind_eq_some_iff.mp H
       have HFR2 := Aside0.mk hg
       have H' := Aside0.mk H
       clear hg H
       go_wp2_with (first
        | (go_at_call 72; (with_reducible refine (impl_told.calls k1 x0 x1 x2 x3 x4 (fun k => True ∧ k ≠ gj) (.slice A2 l.length cm) l (rdOf ByteArray.empty u1 (xi + 1)) m0 m1 m2 m3 m4 ml true w4 _ ?hB ?hR HM.out).mono ?_); (case hB => exact bw_ HB4); (case hR => exact rp_ HO); rintro e w8 ⟨v8, rfl, ho, hb4, hk⟩; have hb := of_kept_ (show Below w4.heap.size w4 _ from bw_ HB4) hb4 hk; have hlt := blk_lt (show _ from bp_ BK); have HN : Aside0 (k135.R 135 w8 w4.heap.size (fun k => True ∧ k ≠ gj) v8 ml) := ⟨Kd.R_mono ho (fun k hk => ⟨trivial, hk.elim (fun h => h.2) (fun h e => by omega)⟩)⟩; clear hlt; replace BK := bb_ BK hb; replace HO := rb_ HO hb; replace BR := bb_ BR hb; replace HB4 := bs_ HB4 hb; clear hb ho hb4 hk hx j0 j1 j2 j3 j4 j5 y0 y1 y2 y3 y4 y5 r0 r1_ r2_ r3_ r4_ r5_ z0 z1 z2 z3 z4 z5; obtain ⟨A5, c5, rfl⟩ := Kd.R_slice HN.out; obtain ⟨j0, j1, j2, j3, j4, j5, y0, y1, y2, y3, y4, y5⟩ := b6_ BK; obtain ⟨r0, r1_, r2_, r3_, r4_, r5_, z0, z1, z2, z3, z4, z5⟩ := b6_ BR)
        | ((with_reducible refine gate_dst (N := 18) rfl ?_); refine bx_ (N := 18) (cs := #[.int .i64 0, .int .i64 0, .int .i64 0, .int .i64 0, .int .i64 0, .slice none 0 0]) (t := 61) ?_; intro gn hg w9 hbox hb; have BN := Aside0.mk hbox; have G9 : Aside0 (w4.heap.size ≤ gn) := ⟨by rw [hg]; exact low4_ HB4⟩; have NJN := bl_ BK hg; have NNJ := bg_ BK hg; have NRN := bl_ BR hg; have NNR := bg_ BR hg; have hn1 := NJN.out; have hn2 := NNJ.out; have hn3 := NRN.out; have hn4 := NNR.out; replace HN : Aside0 (k135.R 135 w9 w4.heap.size (fun k => (True ∧ k ≠ gj) ∧ k ≠ gn) (.slice A5 ml.length c5) ml) := ⟨Kd.R_below (Kd.R_mono (Kd.R_bound HN.out) (fun k hk => ⟨hk.1, by have := hk.2.2.1; omega⟩)) hb⟩; replace HO : Aside0 (k135.R 135 w9 w4.heap.size (fun k => (True ∧ k ≠ gj) ∧ k ≠ gn) (.slice A2 l.length cm) l) := ⟨Kd.R_below (Kd.R_mono (Kd.R_bound HO.out) (fun k hk => ⟨hk.1, by have := hk.2.2.1; omega⟩)) hb⟩; replace BK := bb_ BK hb; replace BR := bb_ BR hb; replace HB4 := bs_ HB4 hb; clear hb hbox hg j0 j1 j2 j3 j4 j5 y0 y1 y2 y3 y4 y5 r0 r1_ r2_ r3_ r4_ r5_ z0 z1 z2 z3 z4 z5; obtain ⟨j0, j1, j2, j3, j4, j5, y0, y1, y2, y3, y4, y5⟩ := b6_ BK; obtain ⟨r0, r1_, r2_, r3_, r4_, r5_, z0, z1, z2, z3, z4, z5⟩ := b6_ BR; obtain ⟨n0, n1, n2, n3, n4, n5, o0, o1, o2, o3, o4, o5⟩ := b6_ BN)
        | ((with_reducible refine gate_dst (N := 78) rfl ?_); refine abs_ (fun W => W.heap[gj]? = some (.cells #[.int .i64 x0, .int .i64 x1, .int .i64 x2, .int .i64 x3, .int .i64 x4, .slice A2 l.length cm] 61 (0, 0)) ∧ W.heap[gn]? = some (.cells #[.int .i64 m0, .int .i64 m1, .int .i64 m2, .int .i64 m3, .int .i64 m4, .slice A5 ml.length c5] 61 (0, 0)) ∧ W.heap[gr]? = some (.cells #[.int .i64 0, .int .i64 0, .int .i64 0, .int .i64 0, .int .i64 0, .slice none 0 0] 61 (0, 0)) ∧ k135.R 135 W w4.heap.size (fun k => (True ∧ k ≠ gn) ∧ k ≠ gj) (.slice A5 ml.length c5) ml ∧ k135.R 135 W w4.heap.size (fun k => True ∧ k ≠ gj) (.slice A2 l.length cm) l ∧ Below w4.heap.size w4 W) ⟨bf_, bu_, bf_, Kd.R_mono (rk_ HN.out) (fun k hk => ⟨⟨trivial, hk.2⟩, hk.1.2⟩), Kd.R_mono (rk_ HO.out) (fun k hk => hk.1), bw_ HB4⟩ ?_; clear HN HO BK BN BR HB4 j0 j1 j2 j3 j4 j5 y0 y1 y2 y3 y4 y5 r0 r1_ r2_ r3_ r4_ r5_ z0 z1 z2 z3 z4 z5 n0 n1 n2 n3 n4 n5 o0 o1 o2 o3 o4 o5; intro wc ⟨qk, qn, qr, qh, qo, qb⟩; have BK := Aside0.mk qk; have BN := Aside0.mk qn; have BR := Aside0.mk qr; have HN := Aside0.mk qh; have HO := Aside0.mk qo; have HB4 := Aside0.mk qb; clear qk qn qr qh qo qb; obtain ⟨j0, j1, j2, j3, j4, j5, y0, y1, y2, y3, y4, y5⟩ := b6_ BK; obtain ⟨r0, r1_, r2_, r3_, r4_, r5_, z0, z1, z2, z3, z4, z5⟩ := b6_ BR; obtain ⟨n0, n1, n2, n3, n4, n5, o0, o1, o2, o3, o4, o5⟩ := b6_ BN; refine Kd.event_run (v := .bool false) rfl (by first | (go_simp; done) | (go_simp; rfl)) ?_)
        | (go_at_call 71; (with_reducible refine (impl_Frame.calls k1 _ g1 g2 _ HFR2.out).mono ?_); rintro e w10 ⟨rfl, hb⟩; replace BK : Aside0 (w10.heap[gj]? = some (.cells #[.int .i64 m0, .int .i64 m1, .int .i64 m2, .int .i64 m3, .int .i64 m4, .slice A5 ml.length c5] 61 (0, 0))) := ⟨blk_below bu_ hb⟩; replace HN : Aside0 (k135.R 135 w10 w4.heap.size (fun k => (True ∧ k ≠ gn) ∧ k ≠ gj) (.slice A5 ml.length c5) ml) := ⟨Kd.R_below (rk_ HN.out) hb⟩; replace HB4 := bs_ HB4 hb; clear hb HO BR BN n0 n1 n2 n3 n4 n5 o0 o1 o2 o3 o4 o5 j0 j1 j2 j3 j4 j5 y0 y1 y2 y3 y4 y5 r0 r1_ r2_ r3_ r4_ r5_ z0 z1 z2 z3 z4 z5))
       go_roundg k1
       case measure => have := HK1.out; omega
       case rel => exact ⟨_, wrap64 (xi + 1), m0, m1, m2, m3, m4, ml, _, rfl, rfl, H', ⟨by have := HK1.out; omega⟩, ⟨bp_ BK⟩, ⟨Kd.R_mono (rp_ HN) (fun _ hk => ⟨trivial, hk.2⟩)⟩, ⟨bw_ HB4⟩⟩
     ·rw [if_neg p1] at H
      cases H
    ·rw [if_neg c1] at H
     have c1n : ¬ xi < ((u1.length - 1 : Nat) : Int) := by omega
     have c1b : decide (xi < ((u1.length - 1 : Nat) : Int)) = false := decide_eq_false c1n
     simp only [Option.some.injEq, Prod.mk.injEq] at H
     obtain ⟨rfl, rfl, rfl, rfl, rfl, rfl, rfl⟩ := H
     go_wp2
     have hOr : ∀ k, w4.heap.size ≤ k → k ≠ gr := fun k hk => by have h1 := blk_lt BR4.out; omega
     have HBF := bs_ HBW HB4.out
     refine bodyPost_ret (results_ctt rfl _ _ gr 61 #[.int .i64 x0, .int .i64 x1, .int .i64 x2, .int .i64 x3, .int .i64 x4, .slice A2 l.length cm] (0, 0) _ rfl bu_ Try.underlying61 rfl (by kernel_rfl)) rfl ?_
     exact ⟨_, rfl, Kd.R_mono (Kd.R_lower (rk_ (g := gr) (Kd.R_mono (Kd.R_bound HO.out) (fun k hk => ⟨trivial, hOr k hk.2.1⟩))) (below_size HBW.out)) (fun _ _ => trivial), bw_ HBF⟩
theorem impl_ReadJournal.calls (k : Nat) (a0 : Int) (a1 : ByteArray) (r1 : Int) (r2 : Int) (r3 : Int) (r4 : Int) (r5 : Int) (r6 : List S135) (r7 : Int) (r8 : Bool) (w : World) (h : impl_ReadJournal.f k a0 a1 = some (r1, r2, r3, r4, r5, r6, r7, r8)) :
  Calls Try.prog 30 #[.int .i64 a0, .string a1] w fun e w' => ∃ v5_ : Value, e = .returned (.tuple #[.agg #[.int .i64 r1, .int .i64 r2, .int .i64 r3, .int .i64 r4, .int .i64 r5, v5_], .int .i64 r7, .bool r8]) ∧ Kd.R k135 135 w' w.heap.size (fun _ => True) v5_ r6 ∧ Below w.heap.size w w' := by
 unfold impl_ReadJournal.f at h
 obtain ⟨⟨u1, u2⟩, hu, h⟩ := Option.bind_eq_some_iff.mp h
 obtain ⟨c, hc, h⟩ := Option.bind_eq_some_iff.mp h
 cases c with
 | false =>
  rw [if_neg Bool.false_ne_true] at h
  simp only [Option.some.injEq, Prod.mk.injEq] at h
  obtain ⟨rfl, rfl, rfl, rfl, rfl, rfl, rfl, rfl⟩ := h
  exact impl_ReadJournal.no1_ k a0 a1 w u1 u2 hu hc
 | true =>
  rw [if_pos rfl] at h
  by_cases hl : (u1.length : Int) = 0
  ·rw [if_pos hl] at h
   simp only [Option.some.injEq, Prod.mk.injEq] at h
   obtain ⟨rfl, rfl, rfl, rfl, rfl, rfl, rfl, rfl⟩ := h
   exact impl_ReadJournal.no2_ k a0 a1 w u1 u2 hu hc hl
  ·rw [if_neg hl] at h
   obtain ⟨⟨b1, b2, b3⟩, h2, h⟩ := Option.bind_eq_some_iff.mp h
   cases b3 with
   | false =>
    rw [if_neg Bool.false_ne_true] at h
    simp only [Option.some.injEq, Prod.mk.injEq] at h
    obtain ⟨rfl, rfl, rfl, rfl, rfl, rfl, rfl, rfl⟩ := h
    exact impl_ReadJournal.no3_ k a0 a1 w u1 u2 hu hc hl b1 b2 h2
   | true =>
    rw [if_pos rfl] at h
    obtain ⟨g, h4, h⟩ := Option.bind_eq_some_iff.mp h
    cases g with
    | false =>
     rw [if_neg Bool.false_ne_true] at h
     simp only [Option.some.injEq, Prod.mk.injEq] at h
     obtain ⟨rfl, rfl, rfl, rfl, rfl, rfl, rfl, rfl⟩ := h
     exact impl_ReadJournal.no4_ k a0 a1 w u1 u2 hu hc hl b1 b2 h2 h4
    | true =>
     rw [if_pos rfl] at h
     obtain ⟨⟨f1, f2⟩, hf, h⟩ := Option.bind_eq_some_iff.mp h
     obtain ⟨⟨q0, q1, q2, q3, q4, ql, qe⟩, h5, h⟩ := Option.bind_eq_some_iff.mp h
     simp only [Option.some.injEq, Prod.mk.injEq] at h
     obtain ⟨rfl, rfl, rfl, rfl, rfl, rfl, rfl, rfl⟩ := h
     exact impl_ReadJournal.loop_ k a0 a1 w u1 u2 hu hc hl b1 b2 h2 h4 f1 f2 hf q0 q1 q2 q3 q4 ql qe h5

/-! ### laws_eqEntry: function 125 -/
def laws_eqEntry.f (a0_0 : Int) (a0_1 : Int) (a0_2 : ByteArray) (a1_0 : Int) (a1_1 : Int) (a1_2 : ByteArray) : Option (Bool) := if a0_0 = a1_0 then (if a0_1 = a1_1 then (if a0_2.toList = a1_2.toList then (some true) else (some false)) else (some false)) else (some false)
set_option maxHeartbeats 8000000 in
set_option maxRecDepth 100000 in
theorem laws_eqEntry.calls (a0_0 : Int) (a0_1 : Int) (a0_2 : ByteArray) (a1_0 : Int) (a1_1 : Int) (a1_2 : ByteArray) (r : Bool) (w : World) (h : laws_eqEntry.f a0_0 a0_1 a0_2 a1_0 a1_1 a1_2 = some r) :
  Calls Try.prog 125 #[.agg #[.int .i64 a0_0, .int .i64 a0_1, .string a0_2], .agg #[.int .i64 a1_0, .int .i64 a1_1, .string a1_2]] w fun e w' => e = .returned (.bool r) ∧ Below w.heap.size w w' := by
 have hu135 := Try.underlying135
 have HB := mk_ (Below.refl w.heap.size w)
 have H : (if a0_0 = a1_0 then (if a0_1 = a1_1 then (if a0_2.toList = a1_2.toList then (some true) else (some false)) else (some false)) else (some false)) = some r := h
 clear h
 by_cases c3 : a0_0 = a1_0
 rotate_left
 ·rw [if_neg c3] at H
  have c3b0 : (a0_0 == a1_0) = false := beq_eq_false_iff_ne.mpr c3
  have c3b1 : (a0_0 != a1_0) = true := bne_iff_ne.mpr c3
  obtain rfl := Option.some.inj H
  go_enter Try.func125, Try.ntmps125
  go_wp2_with (first | ((with_reducible refine gate_dst (N := 2) rfl ?_); refine bx_ (N := 2) (cs := #[.int .i64 a0_0, .int .i64 a0_1, .string a0_2]) (t := 135) ?_; intro gb371 hg w21 hbox hb; have BK371 := mk_ (hbox); have GW371 : Aside0 (w.heap.size ≤ gb371) := bz_ hg; have GE371 := GW371; replace HB := bs_ HB hb; clear hb hbox hg) | ((with_reducible refine gate_dst (N := 3) rfl ?_); refine bx_ (N := 3) (cs := #[.int .i64 a1_0, .int .i64 a1_1, .string a1_2]) (t := 135) ?_; intro gb372 hg w22 hbox hb; have BK372 := mk_ (hbox); have GW372 : Aside0 (w.heap.size ≤ gb372) := bz_ hg; have GE372 := GW372; have NB371_372 := bl_ BK371 hg; have NB372_371 := bg_ BK371 hg; replace BK371 := bb_ BK371 hb; replace HB := bs_ HB hb; clear hb hbox hg; obtain ⟨hnb23, hnc23⟩ := ns_ NB371_372; obtain ⟨hcz24_0, hcz24_1, hcz24_2, hfz24_0, hfz24_1, hfz24_2⟩ := b3_ BK371; obtain ⟨hcz25_0, hcz25_1, hcz25_2, hfz25_0, hfz25_1, hfz25_2⟩ := b3_ BK372))
  go_ret
  exact ⟨er_, bw_ HB⟩
 rw [if_pos c3] at H
 have c3b0 : (a0_0 == a1_0) = true := beq_iff_eq.mpr c3
 have c3b1 : (a0_0 != a1_0) = false := bne_eq_false_iff_eq.mpr c3
 clear c3
 by_cases c4 : a0_1 = a1_1
 rotate_left
 ·rw [if_neg c4] at H
  have c4b0 : (a0_1 == a1_1) = false := beq_eq_false_iff_ne.mpr c4
  have c4b1 : (a0_1 != a1_1) = true := bne_iff_ne.mpr c4
  obtain rfl := Option.some.inj H
  go_enter Try.func125, Try.ntmps125
  go_wp2_with (first | ((with_reducible refine gate_dst (N := 2) rfl ?_); refine bx_ (N := 2) (cs := #[.int .i64 a0_0, .int .i64 a0_1, .string a0_2]) (t := 135) ?_; intro gb371 hg w16 hbox hb; have BK371 := mk_ (hbox); have GW371 : Aside0 (w.heap.size ≤ gb371) := bz_ hg; have GE371 := GW371; replace HB := bs_ HB hb; clear hb hbox hg) | ((with_reducible refine gate_dst (N := 3) rfl ?_); refine bx_ (N := 3) (cs := #[.int .i64 a1_0, .int .i64 a1_1, .string a1_2]) (t := 135) ?_; intro gb372 hg w17 hbox hb; have BK372 := mk_ (hbox); have GW372 : Aside0 (w.heap.size ≤ gb372) := bz_ hg; have GE372 := GW372; have NB371_372 := bl_ BK371 hg; have NB372_371 := bg_ BK371 hg; replace BK371 := bb_ BK371 hb; replace HB := bs_ HB hb; clear hb hbox hg; obtain ⟨hnb18, hnc18⟩ := ns_ NB371_372; obtain ⟨hcz19_0, hcz19_1, hcz19_2, hfz19_0, hfz19_1, hfz19_2⟩ := b3_ BK371; obtain ⟨hcz20_0, hcz20_1, hcz20_2, hfz20_0, hfz20_1, hfz20_2⟩ := b3_ BK372))
  go_ret
  exact ⟨er_, bw_ HB⟩
 rw [if_pos c4] at H
 have c4b0 : (a0_1 == a1_1) = true := beq_iff_eq.mpr c4
 have c4b1 : (a0_1 != a1_1) = false := bne_eq_false_iff_eq.mpr c4
 clear c4
 by_cases c5 : a0_2.toList = a1_2.toList
 rotate_left
 ·rw [if_neg c5] at H
  have c5b0 : (a0_2.toList == a1_2.toList) = false := beq_eq_false_iff_ne.mpr c5
  have c5b1 : (a0_2.toList != a1_2.toList) = true := bne_iff_ne.mpr c5
  obtain rfl := Option.some.inj H
  go_enter Try.func125, Try.ntmps125
  go_wp2_with (first | ((with_reducible refine gate_dst (N := 2) rfl ?_); refine bx_ (N := 2) (cs := #[.int .i64 a0_0, .int .i64 a0_1, .string a0_2]) (t := 135) ?_; intro gb371 hg w11 hbox hb; have BK371 := mk_ (hbox); have GW371 : Aside0 (w.heap.size ≤ gb371) := bz_ hg; have GE371 := GW371; replace HB := bs_ HB hb; clear hb hbox hg) | ((with_reducible refine gate_dst (N := 3) rfl ?_); refine bx_ (N := 3) (cs := #[.int .i64 a1_0, .int .i64 a1_1, .string a1_2]) (t := 135) ?_; intro gb372 hg w12 hbox hb; have BK372 := mk_ (hbox); have GW372 : Aside0 (w.heap.size ≤ gb372) := bz_ hg; have GE372 := GW372; have NB371_372 := bl_ BK371 hg; have NB372_371 := bg_ BK371 hg; replace BK371 := bb_ BK371 hb; replace HB := bs_ HB hb; clear hb hbox hg; obtain ⟨hnb13, hnc13⟩ := ns_ NB371_372; obtain ⟨hcz14_0, hcz14_1, hcz14_2, hfz14_0, hfz14_1, hfz14_2⟩ := b3_ BK371; obtain ⟨hcz15_0, hcz15_1, hcz15_2, hfz15_0, hfz15_1, hfz15_2⟩ := b3_ BK372))
  go_ret
  exact ⟨er_, bw_ HB⟩
 rw [if_pos c5] at H
 have c5b0 : (a0_2.toList == a1_2.toList) = true := beq_iff_eq.mpr c5
 have c5b1 : (a0_2.toList != a1_2.toList) = false := bne_eq_false_iff_eq.mpr c5
 clear c5
 obtain rfl := Option.some.inj H
 go_enter Try.func125, Try.ntmps125
 go_wp2_with (first | ((with_reducible refine gate_dst (N := 2) rfl ?_); refine bx_ (N := 2) (cs := #[.int .i64 a0_0, .int .i64 a0_1, .string a0_2]) (t := 135) ?_; intro gb371 hg w6 hbox hb; have BK371 := mk_ (hbox); have GW371 : Aside0 (w.heap.size ≤ gb371) := bz_ hg; have GE371 := GW371; replace HB := bs_ HB hb; clear hb hbox hg) | ((with_reducible refine gate_dst (N := 3) rfl ?_); refine bx_ (N := 3) (cs := #[.int .i64 a1_0, .int .i64 a1_1, .string a1_2]) (t := 135) ?_; intro gb372 hg w7 hbox hb; have BK372 := mk_ (hbox); have GW372 : Aside0 (w.heap.size ≤ gb372) := bz_ hg; have GE372 := GW372; have NB371_372 := bl_ BK371 hg; have NB372_371 := bg_ BK371 hg; replace BK371 := bb_ BK371 hb; replace HB := bs_ HB hb; clear hb hbox hg; obtain ⟨hnb8, hnc8⟩ := ns_ NB371_372; obtain ⟨hcz9_0, hcz9_1, hcz9_2, hfz9_0, hfz9_1, hfz9_2⟩ := b3_ BK371; obtain ⟨hcz10_0, hcz10_1, hcz10_2, hfz10_0, hfz10_1, hfz10_2⟩ := b3_ BK372))
 go_ret
 exact ⟨er_, bw_ HB⟩

end Go.Proofs.Ythbaoefbccdioaa.QFnExactReadJournal
