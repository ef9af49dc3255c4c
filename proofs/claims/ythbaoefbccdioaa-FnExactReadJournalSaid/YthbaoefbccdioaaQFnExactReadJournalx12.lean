/- Written by this session's own program (wip/tpl/pp.py): what the law's functions come to, and that the machine's calls do just that. -/
import Derived.Test.YthbaoefbccdioaaTMPack
import Derived.Test.YthbaoefbccdioaaQFnExactReadJournalx0
import Derived.Test.YthbaoefbccdioaaQFnExactReadJournalx8
import Derived.Test.YthbaoefbccdioaaQFnExactReadJournalx11
namespace Go.Proofs.Ythbaoefbccdioaa.QFnExactReadJournal
open Go.RowKit Go.Proofs.YthbaoefbccdioaaW.PrintWords Go.Proofs.YthbaoefbccdioaaW.PrintLast Go.Proofs.YthbaoefbccdioaaW.PrintMore
attribute [local go_sem] Go.Proofs.Ythbaoefbccdioaa.Sem.string_geq Go.Proofs.Ythbaoefbccdioaa.Sem.string_leq Go.Proofs.Ythbaoefbccdioaa.Sem.string_gtr
attribute [local go_sem] max2_int min2_int max_two min_two max_three min_three max_four min_four   -- for this text's walks alone
set_option linter.unusedVariables false
set_option linter.unusedSimpArgs false

/-! ### impl_LogPut: function 109 -/
def impl_LogPut.j0 : Nat → Int → Bool → Int → Int → List (S135) → Int → Int → ByteArray → Option (Int × Int × (List (S135)) × Bool)
 | 0, _, _, _, _, _, _, _, _ => none
 | k + 1, x1, x22, x335000, x335001, x335002, x336000, x336001, x336002 => if x22 = true then (some (0, 0, ([] : List (S135)), false)) else ((impl_copyLog.f x335000 x335001 x335002).bind fun bt340 => (if 0 ≤ (wrap64 ((wrap64 (x1 - x335000)) - 1)) then (if (wrap64 ((wrap64 (x1 - x335000)) - 1)) ≤ (bt340.2.2.length : Int) then ((some (bt340.2.2.take ((wrap64 ((wrap64 (x1 - x335000)) - 1)) : Int).toNat : List (S135))).bind fun y346 => (if y346.length < 4398046511104 then ((some (y346 ++ [(⟨x336000, x336001, x336002⟩ : S135)] : List (S135))).bind fun y349 => ((impl_LogOk.f k bt340.1 bt340.2.1 y349).bind fun t352 => (if t352 = true then (some (bt340.1, bt340.2.1, y349, true)) else (some (0, 0, ([] : List (S135)), false))))) else (none))) else (none)) else (none)))
def impl_LogPut.f (k : Nat) (a0_0 : Int) (a0_1 : Int) (l0_2 : List (S135)) (a1 : Int) (a2_0 : Int) (a2_1 : Int) (a2_2 : ByteArray) : Option (Int × Int × (List (S135)) × Bool) := (impl_LogOk.f k a0_0 a0_1 l0_2).bind fun t337 => (if t337 = true then ((impl_last.f a0_0 a0_1 l0_2).bind fun t338 => ((impl_within.f a1 (wrap64 (a0_0 + 1)) (wrap64 (t338 + 1))).bind fun t339 => (impl_LogPut.j0 k a1 (!t339) a0_0 a0_1 l0_2 a2_0 a2_1 a2_2))) else (impl_LogPut.j0 k a1 true a0_0 a0_1 l0_2 a2_0 a2_1 a2_2))
theorem impl_LogPut.mono_l : ∀ k, (∀ y0 y1 y2 y3 y4 y5 y6 y7, LeO (impl_LogPut.j0 k y0 y1 y2 y3 y4 y5 y6 y7) (impl_LogPut.j0 (k + 1) y0 y1 y2 y3 y4 y5 y6 y7))
 | 0 => fun _ _ _ _ _ _ _ _ r h => by simp [impl_LogPut.j0] at h
 | k + 1 => by
  have ih0 := impl_LogPut.mono_l k
  ·intro y0 y1 y2 y3 y4 y5 y6 y7
   unfold impl_LogPut.j0
   repeat' first
   | (with_reducible exact impl_LogOk.mono _ _ _ _)
   | (with_reducible exact LeO.refl _)
   | (with_reducible refine LeO.ite ?_ ?_)
   | (with_reducible refine LeO.bind ?_ (fun _ => ?_))
theorem impl_LogPut.mono : ∀ a0 a1 a2 a3 a4 a5 a6 k, LeO (impl_LogPut.f k a0 a1 a2 a3 a4 a5 a6) (impl_LogPut.f (k + 1) a0 a1 a2 a3 a4 a5 a6) := by
 intro a0 a1 a2 a3 a4 a5 a6 k
 have ih0 := impl_LogPut.mono_l k
 unfold impl_LogPut.f
 repeat' first
   | (with_reducible exact ih0 _ _ _ _ _ _ _ _)
   | (with_reducible exact impl_LogOk.mono _ _ _ _)
   | (with_reducible exact LeO.refl _)
   | (with_reducible refine LeO.ite ?_ ?_)
   | (with_reducible refine LeO.bind ?_ (fun _ => ?_))
def impl_LogPut.T1 : Bool × List (List Nat × List Nat) := (true, [([], []), ([0], [0]), ([1], [1]), ([2, 1], [2]), ([3], [3]), ([3], [3]), ([5, 3], [3, 5]), ([6, 3], [3, 6]), ([3], [3]), ([8, 3, 3], [3, 8]), ([9, 3], [3, 9]), ([4, 7, 10, 9, 3], [3, 4, 7, 10]), ([11, 3], [3, 11]), ([3, 12], [3, 12])])
def impl_LogPut.B1 : List Nat := [0, 1, 3, 7, 15, 15, 47, 111, 15, 271, 783, 2047, 4095, 8191]
theorem impl_LogPut.tab1 : rtab .any (opsOf Try.f109 1) = impl_LogPut.T1 := by kernel_rfl
theorem impl_LogPut.bits1 : waitsOk impl_LogPut.T1.2 impl_LogPut.B1 = true := by kernel_rfl
def impl_LogPut.T4 : Bool × List (List Nat × List Nat) := (true, [([], []), ([0], [0]), ([], []), ([], []), ([3], [3]), ([2, 4], [2, 4]), ([5], [5]), ([1, 6], [1, 6]), ([], []), ([8], [8]), ([7, 9], [7, 9]), ([0, 1, 2, 3, 4, 5, 6, 7, 8, 9, 10], []), ([11, 10, 10, 0, 1, 2, 3, 4, 5, 6, 7, 8, 9, 10], [10, 11])])
def impl_LogPut.B4 : List Nat := [0, 1, 0, 0, 8, 28, 60, 127, 0, 256, 1023, 2047, 4095]
theorem impl_LogPut.tab4 : rtab .any (opsOf Try.f109 4) = impl_LogPut.T4 := by kernel_rfl
theorem impl_LogPut.bits4 : waitsOk impl_LogPut.T4.2 impl_LogPut.B4 = true := by kernel_rfl
set_option maxHeartbeats 8000000 in
set_option maxRecDepth 100000 in
theorem impl_LogPut.calls (k : Nat) (a0_0 : Int) (a0_1 : Int) (A0_2 : Option Addr) (c0_2 : Nat) (l0_2 : List (S135)) (a1 : Int) (a2_0 : Int) (a2_1 : Int) (a2_2 : ByteArray) (r1 : Int) (r2 : Int) (r3 : List (S135)) (r4 : Bool) (w : World) (hr0_2 : Kd.C k135 w A0_2 l0_2.length l0_2) (hc0_2 : l0_2.length ≤ c0_2) (h : impl_LogPut.f k a0_0 a0_1 l0_2 a1 a2_0 a2_1 a2_2 = some (r1, r2, r3, r4)) :
  Calls Try.prog 109 #[.agg #[.int .i64 a0_0, .int .i64 a0_1, .slice A0_2 l0_2.length c0_2], .int .i64 a1, .agg #[.int .i64 a2_0, .int .i64 a2_1, .string a2_2]] w fun e w' => ∃ v2_ : Value, e = .returned (.tuple #[.agg #[.int .i64 r1, .int .i64 r2, v2_], .bool r4]) ∧ Kd.R k135 135 w' w.heap.size (fun _ => True) v2_ r3 ∧ Below w.heap.size w w' := by
 have hu59 := Try.underlying59
 have hu135 := Try.underlying135
 have HR0_2 := Aside0.mk hr0_2
 have HC0_2 := Aside0.mk hc0_2
 clear hr0_2 hc0_2
 have HB := mk_ (Below.refl w.heap.size w)
 have H : ((impl_LogOk.f k a0_0 a0_1 l0_2).bind fun t337 => (if t337 = true then ((impl_last.f a0_0 a0_1 l0_2).bind fun t338 => ((impl_within.f a1 (wrap64 (a0_0 + 1)) (wrap64 (t338 + 1))).bind fun t339 => (impl_LogPut.j0 k a1 (!t339) a0_0 a0_1 l0_2 a2_0 a2_1 a2_2))) else (impl_LogPut.j0 k a1 true a0_0 a0_1 l0_2 a2_0 a2_1 a2_2))) = some (r1, r2, r3, r4) := h
 clear h
 have HC4 := Aside0.mk H
 clear H
 go_enter Try.func109, Try.ntmps109
 go_upto_region 1 with (first | ((with_reducible refine gate_dst (N := 3) rfl ?_); refine bx_ (N := 3) (cs := #[.int .i64 a0_0, .int .i64 a0_1, .slice A0_2 l0_2.length c0_2]) (t := 59) ?_; intro gb334 hg w5 hbox hb; have BK334 := mk_ (hbox); have GW334 : Aside0 (w.heap.size ≤ gb334) := bz_ hg; have GE334 := GW334; replace HB := bs_ HB hb; clear hb hbox hg) | ((with_reducible refine gate_dst (N := 5) rfl ?_); refine bx_ (N := 5) (cs := #[.int .i64 a2_0, .int .i64 a2_1, .string a2_2]) (t := 135) ?_; intro gb335 hg w6 hbox hb; have BK335 := mk_ (hbox); have GW335 : Aside0 (w.heap.size ≤ gb335) := bz_ hg; have GE335 := GW335; have NB334_335 := bl_ BK334 hg; have NB335_334 := bg_ BK334 hg; replace BK334 := bb_ BK334 hb; replace HB := bs_ HB hb; clear hb hbox hg) | ((with_reducible refine gate_dst (N := 6) rfl ?_); refine bx_ (N := 6) (cs := #[.int .i64 0, .int .i64 0, .slice none 0 0]) (t := 59) ?_; intro gb336 hg w7 hbox hb; have BK336 := mk_ (hbox); have GW336 : Aside0 (w.heap.size ≤ gb336) := bz_ hg; have GE336 := GW336; have NB334_336 := bl_ BK334 hg; have NB336_334 := bg_ BK334 hg; have NB335_336 := bl_ BK335 hg; have NB336_335 := bg_ BK335 hg; replace BK334 := bb_ BK334 hb; replace BK335 := bb_ BK335 hb; replace HB := bs_ HB hb; clear hb hbox hg))
 (try simp only [Act.put, sia_, scz_, scs_])
 go_cut [22] (fun v22 wc => ∃ (kq : Nat) (x22_3 : Bool), v22 = .bool x22_3 ∧ Aside0 (impl_LogPut.j0 kq a1 x22_3 a0_0 a0_1 l0_2 a2_0 a2_1 a2_2 = some (r1, r2, r3, r4)) ∧ Aside0 (kq ≤ k) ∧ Aside0 (wc.heap[gb334]? = some (.cells #[.int .i64 a0_0, .int .i64 a0_1, (.slice A0_2 l0_2.length c0_2)] 59 (0, 0))) ∧ Aside0 (wc.heap[gb335]? = some (.cells #[.int .i64 a2_0, .int .i64 a2_1, .string a2_2] 135 (0, 0))) ∧ Aside0 (wc.heap[gb336]? = some (.cells #[.int .i64 0, .int .i64 0, (.slice none 0 0)] 59 (0, 0))) ∧ Aside0 (Below w.heap.size w wc))
 case first =>
  have H := HC4.out
  clear HC4
  replace H := Option.bind_eq_some_iff.mp H
  obtain ⟨t337, A80, H⟩ := H
  try dsimp only at H
  have A8 := Aside0.mk A80
  clear A80
  by_cases c9 : t337 = true
  rotate_left
  ·replace c9 := Bool.eq_false_iff.mpr c9
   subst c9
   rw [if_neg (show ¬ (false = true) by decide)] at H
   have H' := Aside0.mk H
   clear H
   try go_wp2
   replace BK334 := kd_ BK334; replace BK335 := kd_ BK335; replace BK336 := kd_ BK336; replace HB := wd_ HB
   refine start_ (n := 14) (S := fun w' => w'.cell? ⟨gb334, 0, none⟩ = some (.int .i64 a0_0) ∧ w'.cell? ⟨gb334, 1, none⟩ = some (.int .i64 a0_1) ∧ w'.cell? ⟨gb334, 2, none⟩ = some (.slice A0_2 l0_2.length c0_2)) (ds := []) #[false, false, false, false, false, false, false, false, false, false, false, false, false, false] (by kernel_rfl) rfl rfl ⟨bc_ BK334 0, bc_ BK334 1, bc_ BK334 2⟩ (fun hHeld => ?_); refine with_tabW impl_LogPut.tab1 impl_LogPut.bits1 (fun HT_ HW_ => ?_)
   generalize w7.drew = w15 at BK334 BK335 BK336 HB hHeld ⊢
   refine tv_ 0 9 hHeld ?_
   refine one_ (i := 1) (N := some 10) #[true, true, false, false, false, false, false, false, false, false, false, false, false, false] rfl rfl (one_of HT_.out (by kernel_rfl)) (by decide) (fun K hK => ?_)
   refine goes_ Try.func105 (by kernel_rfl) rfl #[.agg #[.int .i64 a0_0, .int .i64 a0_1, .slice A0_2 l0_2.length c0_2]] (by rfl) rfl rfl ga_ ?_
   with_reducible refine (impl_LogOk.calls k a0_0 a0_1 _ _ l0_2 false _ ?side1 ?side2 A8.out).mono ?_
   (case side1 => exact cb_ HR0_2 HB)
   (case side2 => exact HC0_2.out)
   rintro e w16 ⟨rfl, hb⟩
   refine ⟨_, rfl, ?_⟩
   replace BK334 := bb_ BK334 hb; replace BK335 := bb_ BK335 hb; replace BK336 := bb_ BK336 hb; replace HB := bs_ HB hb; (try clear hb); (try clear hb2); (try clear hk); (try clear hi)
   refine hK.out _ _ ⟨bc_ BK334 0, bc_ BK334 1, bc_ BK334 2⟩ (fun hHeld => ?_)
   clear hK K
   refine norm_ (a' := ?_) ?_ ?_
   rotate_left
   ·show Act.put _ (some 10) _ = _
    simp only [Act.put, sia_, scz_, scs_, i64_w, i32_w]
    rfl
   refine pv_ 2 11 ?_
   refine pv_ 3 12 ?_
   refine pure_ (i := 4) (N := some 13) (v := undef) (a' := ?_) #[true, true, true, true, true, false, false, false, false, false, false, false, false, false] rfl rfl (any_of HT_.out (by kernel_rfl)) (fun _ _ _ h => h) (Or.inr ⟨by rfl, rfl⟩) ?_ ?_
   rotate_left
   ·simp only [Act.put, sia_, scz_, scs_, i64_w, i32_w]
    rfl
   refine pure_ (i := 5) (N := some 14) (v := undef) (a' := ?_) #[true, true, true, true, true, true, false, false, false, false, false, false, false, false] rfl rfl (any_of HT_.out (by kernel_rfl)) (fun _ _ _ h => h) (Or.inr ⟨by rfl, rfl⟩) ?_ ?_
   rotate_left
   ·simp only [Act.put, sia_, scz_, scs_, i64_w, i32_w]
    rfl
   refine pure_ (i := 6) (N := some 15) (v := undef) (a' := ?_) #[true, true, true, true, true, true, true, false, false, false, false, false, false, false] rfl rfl (any_of HT_.out (by kernel_rfl)) (fun _ _ _ h => h) (Or.inr ⟨by rfl, rfl⟩) ?_ ?_
   rotate_left
   ·simp only [Act.put, sia_, scz_, scs_, i64_w, i32_w]
    rfl
   refine pure_ (i := 7) (N := some 16) (v := undef) (a' := ?_) #[true, true, true, true, true, true, true, true, false, false, false, false, false, false] rfl rfl (any_of HT_.out (by kernel_rfl)) (fun _ _ _ h => h) (Or.inr ⟨by rfl, rfl⟩) ?_ ?_
   rotate_left
   ·simp only [Act.put, sia_, scz_, scs_, i64_w, i32_w]
    rfl
   refine pure_ (i := 8) (N := some 17) (v := undef) (a' := ?_) #[true, true, true, true, true, true, true, true, true, false, false, false, false, false] rfl rfl (any_of HT_.out (by kernel_rfl)) (fun _ _ _ h => h) (Or.inr ⟨by rfl, rfl⟩) ?_ ?_
   rotate_left
   ·simp only [Act.put, sia_, scz_, scs_, i64_w, i32_w]
    rfl
   refine pure_ (i := 9) (N := some 18) (v := undef) (a' := ?_) #[true, true, true, true, true, true, true, true, true, true, false, false, false, false] rfl rfl (any_of HT_.out (by kernel_rfl)) (fun _ _ _ h => h) (Or.inr ⟨by rfl, rfl⟩) ?_ ?_
   rotate_left
   ·simp only [Act.put, sia_, scz_, scs_, i64_w, i32_w]
    rfl
   refine pure_ (i := 10) (N := some 19) (v := undef) (a' := ?_) #[true, true, true, true, true, true, true, true, true, true, true, false, false, false] rfl rfl (any_of HT_.out (by kernel_rfl)) (fun _ _ _ h => h) (Or.inr ⟨by rfl, rfl⟩) ?_ ?_
   rotate_left
   ·simp only [Act.put, sia_, scz_, scs_, i64_w, i32_w]
    rfl
   refine pure_ (i := 11) (N := some 20) (v := undef) (a' := ?_) #[true, true, true, true, true, true, true, true, true, true, true, true, false, false] rfl rfl (any_of HT_.out (by kernel_rfl)) (fun _ _ _ h => h) (Or.inr ⟨by rfl, rfl⟩) ?_ ?_
   rotate_left
   ·simp only [Act.put, sia_, scz_, scs_, i64_w, i32_w]
    rfl
   refine pure_ (i := 12) (N := some 21) (v := undef) (a' := ?_) #[true, true, true, true, true, true, true, true, true, true, true, true, true, false] rfl rfl (any_of HT_.out (by kernel_rfl)) (fun _ _ _ h => h) (Or.inr ⟨by rfl, rfl⟩) ?_ ?_
   rotate_left
   ·simp only [Act.put, sia_, scz_, scs_, i64_w, i32_w]
    rfl
   refine pv_ 13 22 ?_
   refine done_ (done_of HT_.out (by kernel_rfl)) ?_
   try go_wp2
   go_meet
   case rel => exact ⟨_, (true), (by first | rfl | (simp; done) | (simp [*]; done) | (simp [bne]; done)), H', ⟨by first | omega | exact Nat.le_refl _⟩, ⟨bf_⟩, ⟨bf_⟩, ⟨bf_⟩, ⟨bw_ HB⟩⟩
  subst c9
  rw [if_pos rfl] at H
  replace H := Option.bind_eq_some_iff.mp H
  obtain ⟨t338, A100, H⟩ := H
  try dsimp only at H
  have A10 := Aside0.mk A100
  clear A100
  replace H := Option.bind_eq_some_iff.mp H
  obtain ⟨t339, A110, H⟩ := H
  try dsimp only at H
  have A11 := Aside0.mk A110
  clear A110
  have H' := Aside0.mk H
  clear H
  try go_wp2
  replace BK334 := kd_ BK334; replace BK335 := kd_ BK335; replace BK336 := kd_ BK336; replace HB := wd_ HB
  refine start_ (n := 14) (S := fun w' => w'.cell? ⟨gb334, 0, none⟩ = some (.int .i64 a0_0) ∧ w'.cell? ⟨gb334, 1, none⟩ = some (.int .i64 a0_1) ∧ w'.cell? ⟨gb334, 2, none⟩ = some (.slice A0_2 l0_2.length c0_2)) (ds := []) #[false, false, false, false, false, false, false, false, false, false, false, false, false, false] (by kernel_rfl) rfl rfl ⟨bc_ BK334 0, bc_ BK334 1, bc_ BK334 2⟩ (fun hHeld => ?_); refine with_tabW impl_LogPut.tab1 impl_LogPut.bits1 (fun HT_ HW_ => ?_)
  generalize w7.drew = w12 at BK334 BK335 BK336 HB hHeld ⊢
  refine tv_ 0 9 hHeld ?_
  refine one_ (i := 1) (N := some 10) #[true, true, false, false, false, false, false, false, false, false, false, false, false, false] rfl rfl (one_of HT_.out (by kernel_rfl)) (by decide) (fun K hK => ?_)
  refine goes_ Try.func105 (by kernel_rfl) rfl #[.agg #[.int .i64 a0_0, .int .i64 a0_1, .slice A0_2 l0_2.length c0_2]] (by rfl) rfl rfl ga_ ?_
  with_reducible refine (impl_LogOk.calls k a0_0 a0_1 _ _ l0_2 true _ ?side1 ?side2 A8.out).mono ?_
  (case side1 => exact cb_ HR0_2 HB)
  (case side2 => exact HC0_2.out)
  rintro e w13 ⟨rfl, hb⟩
  refine ⟨_, rfl, ?_⟩
  replace BK334 := bb_ BK334 hb; replace BK335 := bb_ BK335 hb; replace BK336 := bb_ BK336 hb; replace HB := bs_ HB hb; (try clear hb); (try clear hb2); (try clear hk); (try clear hi)
  refine hK.out _ _ ⟨bc_ BK334 0, bc_ BK334 1, bc_ BK334 2⟩ (fun hHeld => ?_)
  clear hK K
  refine norm_ (a' := ?_) ?_ ?_
  rotate_left
  ·show Act.put _ (some 10) _ = _
   simp only [Act.put, sia_, scz_, scs_, i64_w, i32_w]
   rfl
  refine pv_ 2 11 ?_
  refine pv_ 3 12 ?_
  refine pv_ 4 13 ?_
  refine pv_ 5 14 ?_
  refine tv_ 6 15 hHeld ?_
  refine pv_ 7 16 ?_
  refine tv_ 8 17 hHeld ?_
  refine one_ (i := 9) (N := some 18) #[true, true, true, true, true, true, true, true, true, true, false, false, false, false] rfl rfl (one_of HT_.out (by kernel_rfl)) (by decide) (fun K hK => ?_)
  refine goes_ Try.func123 (by kernel_rfl) rfl #[.agg #[.int .i64 a0_0, .int .i64 a0_1, .slice A0_2 l0_2.length c0_2]] (by rfl) rfl rfl ga_ ?_
  with_reducible refine (impl_last.calls a0_0 a0_1 _ _ l0_2 t338 _ ?side1 ?side2 A10.out).mono ?_
  (case side1 => exact cb_ HR0_2 HB)
  (case side2 => exact HC0_2.out)
  rintro e w14 ⟨rfl, hb⟩
  refine ⟨_, rfl, ?_⟩
  replace BK334 := bb_ BK334 hb; replace BK335 := bb_ BK335 hb; replace BK336 := bb_ BK336 hb; replace HB := bs_ HB hb; (try clear hb); (try clear hb2); (try clear hk); (try clear hi)
  refine hK.out _ _ ⟨bc_ BK334 0, bc_ BK334 1, bc_ BK334 2⟩ (fun hHeld => ?_)
  clear hK K
  refine norm_ (a' := ?_) ?_ ?_
  rotate_left
  ·show Act.put _ (some 18) _ = _
   simp only [Act.put, sia_, scz_, scs_, i64_w, i32_w]
   rfl
  refine pv_ 10 19 ?_
  refine one_ (i := 11) (N := some 20) #[true, true, true, true, true, true, true, true, true, true, true, true, false, false] rfl rfl (one_of HT_.out (by kernel_rfl)) (by decide) (fun K hK => ?_)
  refine goes_ Try.func59 (by kernel_rfl) rfl #[.int .i64 a1, .int .i64 (wrap64 (a0_0 + 1)), .int .i64 (wrap64 (t338 + 1))] (by rfl) rfl rfl ga_ ?_
  with_reducible refine (impl_within.calls a1 (wrap64 (a0_0 + 1)) (wrap64 (t338 + 1)) t339 _ A11.out).mono ?_
  rintro e w' ⟨rfl, ⟨nd, rfl⟩⟩
  refine ⟨_, rfl, ?_⟩
  refine hK.out _ _ ⟨bc_ BK334 0, bc_ BK334 1, bc_ BK334 2⟩ (fun hHeld => ?_)
  clear hK K
  refine norm_ (a' := ?_) ?_ ?_
  rotate_left
  ·show Act.put _ (some 20) _ = _
   simp only [Act.put, sia_, scz_, scs_, i64_w, i32_w]
   rfl
  refine pv_ 12 21 ?_
  refine pv_ 13 22 ?_
  refine done_ (done_of HT_.out (by kernel_rfl)) ?_
  try go_wp2
  go_meet
  case rel => exact ⟨_, (!t339), (by first | rfl | (simp; done) | (simp [*]; done) | (simp [bne]; done)), H', ⟨by first | omega | exact Nat.le_refl _⟩, ⟨bf_⟩, ⟨bf_⟩, ⟨bf_⟩, ⟨bw_ HB⟩⟩
 case rest =>
  clear HC4
  (try clear c1); (try clear p2); (try clear c5); (try clear p6); (try clear c9); (try clear c10); (try clear c12)
  obtain ⟨kq, x22_3, rfl, HA, HJ3, BK334, BK335, BK336, HB⟩ := hcut
  cases kq with
  | zero => exact absurd HA.out (by simp [impl_LogPut.j0])
  | succ kj3 =>
   have H := HA.out
   clear HA
   simp only [impl_LogPut.j0] at H
   by_cases c17 : x22_3 = true
   ·subst c17
    rw [if_pos rfl] at H
    simp only [Option.some.injEq, Prod.mk.injEq] at H
    obtain ⟨rfl, rfl, rfl, rfl⟩ := H
    obtain ⟨hnb18, hnc18⟩ := ns_ NB336_334
    obtain ⟨hnb19, hnc19⟩ := ns_ NB336_335
    have hcz20_0 : wc.cell? ⟨gb336, 0, none⟩ = some (.int .i64 0) := bc_ BK336 0
    have hcz20_1 : wc.cell? ⟨gb336, 1, none⟩ = some (.int .i64 0) := bc_ BK336 1
    have hcz20_2 : wc.cell? ⟨gb336, 2, none⟩ = some (.slice none 0 0) := bc_ BK336 2
    have hfz20_0 := blk_frozen BK336.out 0
    have hfz20_1 := blk_frozen BK336.out 1
    have hfz20_2 := blk_frozen BK336.out 2
    go_wp2
    refine bodyPost_ret (results_ct rfl _ _ gb336 59 #[.int .i64 0, .int .i64 0, .slice none 0 0] (0, 0) _ rfl bu_ Try.underlying59 rfl (by kernel_rfl)) rfl ?_
    exact ⟨_, er_, by first | exact Kd.R_nil _ _ _ _ _ | exact Kd.N_nil _ _ _ _ _ | exact Kd.V_nil _ _ _ _ _ | exact Kd.Q_nil _ _ _ _ _ | exact Kd.S_nil _ _ _ _ _, bw_ HB⟩
   replace c17 := Bool.eq_false_iff.mpr c17
   subst c17
   rw [if_neg (show ¬ (false = true) by decide)] at H
   replace H := Option.bind_eq_some_iff.mp H
   obtain ⟨⟨t340, t341, t342⟩, A210, H⟩ := H
   try dsimp only at H
   have A21 := Aside0.mk A210
   clear A210
   obtain ⟨ji22, hji22⟩ : ∃ j_ : Int, (wrap64 ((wrap64 (a1 - a0_0)) - 1)) = j_ := ⟨_, rfl⟩
   replace H : (if 0 ≤ (ji22) then (if (ji22) ≤ (t342.length : Int) then ((some (t342.take ((ji22) : Int).toNat : List (S135))).bind fun y346 => (if y346.length < 4398046511104 then ((some (y346 ++ [(⟨a2_0, a2_1, a2_2⟩ : S135)] : List (S135))).bind fun y349 => ((impl_LogOk.f kj3 t340 t341 y349).bind fun t352 => (if t352 = true then (some (t340, t341, y349, true)) else (some (0, 0, ([] : List (S135)), false))))) else (none))) else (none)) else (none)) = some (r1, r2, r3, r4) := by first | (rw [hji22] at H; exact H) | (simp only [hji22] at H ⊢; exact H)
   (try rw [hji22] at A21)
   have hji22w : (IntKind.i64.wrap ((wrap64 (a1 - a0_0)) - 1)) = ji22 := (i64_w _).trans hji22
   by_cases c23 : 0 ≤ (ji22)
   rotate_left
   ·rw [if_neg c23] at H
    exact absurd H (by simp)
   rw [if_pos c23] at H
   have c23b0 := eq_true c23
   have c23b1 : decide (0 ≤ (ji22)) = true := decide_eq_true c23
   clear c23
   by_cases c24 : (ji22) ≤ (t342.length : Int)
   rotate_left
   ·rw [if_neg c24] at H
    exact absurd H (by simp)
   rw [if_pos c24] at H
   have c24b0 := eq_true c24
   have c24b1 : decide ((ji22) ≤ (t342.length : Int)) = true := decide_eq_true c24
   clear c24
   obtain ⟨y346, hy346⟩ : ∃ y_ : List (S135), y_ = (t342.take ((ji22) : Int).toNat) := ⟨_, rfl⟩
   replace H : (if y346.length < 4398046511104 then ((some (y346 ++ [(⟨a2_0, a2_1, a2_2⟩ : S135)] : List (S135))).bind fun y349 => ((impl_LogOk.f kj3 t340 t341 y349).bind fun t352 => (if t352 = true then (some (t340, t341, y349, true)) else (some (0, 0, ([] : List (S135)), false))))) else (none)) = some (r1, r2, r3, r4) := by first | (rw [hy346]; with_reducible exact H) | (have H2_ := (Option.bind_some _ _).symm.trans H; rw [hy346]; with_reducible exact H2_) | (have H2_ := (Option.bind_some _ _).symm.trans H; with_reducible exact H2_) | with_reducible exact H | (rw [hy346]; exact H) | exact H
   have Ny346 := Aside0.mk hy346
   clear hy346
   by_cases c25 : y346.length < 4398046511104
   rotate_left
   ·rw [if_neg c25] at H
    exact absurd H (by simp)
   rw [if_pos c25] at H
   have LMc25 := Aside0.mk c25
   clear c25
   obtain ⟨y349, hy349⟩ : ∃ y_ : List (S135), y_ = (y346 ++ [(⟨a2_0, a2_1, a2_2⟩ : S135)]) := ⟨_, rfl⟩
   replace H : ((impl_LogOk.f kj3 t340 t341 y349).bind fun t352 => (if t352 = true then (some (t340, t341, y349, true)) else (some (0, 0, ([] : List (S135)), false)))) = some (r1, r2, r3, r4) := by first | (rw [hy349]; with_reducible exact H) | (have H2_ := (Option.bind_some _ _).symm.trans H; rw [hy349]; with_reducible exact H2_) | (have H2_ := (Option.bind_some _ _).symm.trans H; with_reducible exact H2_) | with_reducible exact H | (rw [hy349]; exact H) | exact H
   have Ny349 := Aside0.mk hy349
   clear hy349
   replace H := Option.bind_eq_some_iff.mp H
   obtain ⟨t352, A260, H⟩ := H
   try dsimp only at H
   have A26 := Aside0.mk A260
   clear A260
   by_cases c27 : t352 = true
   ·subst c27
    rw [if_pos rfl] at H
    simp only [Option.some.injEq, Prod.mk.injEq] at H
    obtain ⟨rfl, rfl, rfl, rfl⟩ := H
    obtain ⟨hnb28, hnc28⟩ := ns_ NB334_335
    obtain ⟨hnb29, hnc29⟩ := ns_ NB334_336
    have hcz30_0 : wc.cell? ⟨gb334, 0, none⟩ = some (.int .i64 a0_0) := bc_ BK334 0
    have hcz30_1 : wc.cell? ⟨gb334, 1, none⟩ = some (.int .i64 a0_1) := bc_ BK334 1
    have hcz30_2 : wc.cell? ⟨gb334, 2, none⟩ = some (.slice A0_2 l0_2.length c0_2) := bc_ BK334 2
    have hfz30_0 := blk_frozen BK334.out 0
    have hfz30_1 := blk_frozen BK334.out 1
    have hfz30_2 := blk_frozen BK334.out 2
    try go_wp2_with (first | ((with_reducible refine gate_callee (f := 124) rfl ?_); refine gl_ 25 Try.func124 #[.agg #[.int .i64 a0_0, .int .i64 a0_1, .slice A0_2 l0_2.length c0_2]] ?_; (with_reducible refine (impl_copyLog.calls a0_0 a0_1 _ _ l0_2 t340 t341 t342 _ ?side1 ?side2 A21.out).mono ?_); (case side1 => exact cb_ HR0_2 HB); (case side2 => exact HC0_2.out); rintro e w31 ⟨v343, rfl, ho0, hb⟩; refine ⟨_, rfl, ?_⟩; have HO344 := mk_ (Kd.R_lower (Kd.R_newB ho0 (g := gb335) (o := .cells #[.int .i64 a2_0, .int .i64 a2_1, .string a2_2] 135 (0, 0)) (bp_ BK335)) (below_size (bw_ HB))); replace BK334 := bb_ BK334 hb; replace BK335 := bb_ BK335 hb; replace BK336 := bb_ BK336 hb; replace HB := bs_ HB hb; (try clear hb); (try clear ho0)) | ((with_reducible refine gate_dst (N := 8) rfl ?_); refine bx_ (N := 8) (cs := #[.int .i64 0, .int .i64 0, .slice none 0 0]) (t := 59) ?_; intro gb345 hg w32 hbox hb; have BK345 := mk_ (hbox); have GW345 : Aside0 (w.heap.size ≤ gb345) := bz_ hg; have GE345 := GW345; have NB334_345 := bl_ BK334 hg; have NB345_334 := bg_ BK334 hg; have NB335_345 := bl_ BK335 hg; have NB345_335 := bg_ BK335 hg; have NB336_345 := bl_ BK336 hg; have NB345_336 := bg_ BK336 hg; replace HO344 := rb_ HO344 hb; replace BK334 := bb_ BK334 hb; replace BK335 := bb_ BK335 hb; replace BK336 := bb_ BK336 hb; replace HB := bs_ HB hb; clear hb hbox hg; obtain ⟨hnb33, hnc33⟩ := ns_ NB345_334; obtain ⟨hnb34, hnc34⟩ := ns_ NB345_335; obtain ⟨hnb35, hnc35⟩ := ns_ NB345_336; obtain ⟨hcz36_0, hcz36_1, hcz36_2, hfz36_0, hfz36_1, hfz36_2⟩ := b3_ BK345; obtain ⟨Ao37, co37, eo37⟩ := Kd.R_slice HO344.out; subst eo37))
    have n0_ : Aside0 (Kd.R k135 135 (((w32.setCell ⟨gb345, 0, none⟩ (.int .i64 t340)).setCell ⟨gb345, 1, none⟩ (.int .i64 t341)).setCell ⟨gb345, 2, none⟩ (.slice Ao37 t342.length co37)) w.heap.size (fun k_ => k_ ≠ gb335) (.slice Ao37 t342.length co37) t342) := ⟨rq_ (Kd.R_mono (Kd.R_far (p := ⟨gb345, 2, none⟩) (Kd.R_far (p := ⟨gb345, 1, none⟩) (Kd.R_far (p := ⟨gb345, 0, none⟩) (Kd.R_types HO344.out BK345.out (by decide)) (fun _ hk => hk.2) (.int .i64 t340)) (fun _ hk => hk.2) (.int .i64 t341)) (fun _ hk => hk.2) (.slice Ao37 t342.length co37)) (fun _ hk => hk.1.2))⟩
    have n1_ : Aside0 ((((w32.setCell ⟨gb345, 0, none⟩ (.int .i64 t340)).setCell ⟨gb345, 1, none⟩ (.int .i64 t341)).setCell ⟨gb345, 2, none⟩ (.slice Ao37 t342.length co37)).heap[gb334]? = some (.cells #[.int .i64 a0_0, .int .i64 a0_1, .slice A0_2 l0_2.length c0_2] 59 (0, 0))) := ⟨bf_⟩
    have n2_ : Aside0 ((((w32.setCell ⟨gb345, 0, none⟩ (.int .i64 t340)).setCell ⟨gb345, 1, none⟩ (.int .i64 t341)).setCell ⟨gb345, 2, none⟩ (.slice Ao37 t342.length co37)).heap[gb335]? = some (.cells #[.int .i64 a2_0, .int .i64 a2_1, .string a2_2] 135 (0, 0))) := ⟨bf_⟩
    have n3_ : Aside0 ((((w32.setCell ⟨gb345, 0, none⟩ (.int .i64 t340)).setCell ⟨gb345, 1, none⟩ (.int .i64 t341)).setCell ⟨gb345, 2, none⟩ (.slice Ao37 t342.length co37)).heap[gb336]? = some (.cells #[.int .i64 0, .int .i64 0, .slice none 0 0] 59 (0, 0))) := ⟨bf_⟩
    have n4_ : Aside0 ((((w32.setCell ⟨gb345, 0, none⟩ (.int .i64 t340)).setCell ⟨gb345, 1, none⟩ (.int .i64 t341)).setCell ⟨gb345, 2, none⟩ (.slice Ao37 t342.length co37)).heap[gb345]? = some (.cells #[.int .i64 t340, .int .i64 t341, .slice Ao37 t342.length co37] 59 (0, 0))) := ⟨bu_⟩
    have n5_ : Aside0 (Below w.heap.size w (((w32.setCell ⟨gb345, 0, none⟩ (.int .i64 t340)).setCell ⟨gb345, 1, none⟩ (.int .i64 t341)).setCell ⟨gb345, 2, none⟩ (.slice Ao37 t342.length co37))) := ⟨bw_ HB⟩
    (try clear HO344); (try clear BK334); (try clear BK335); (try clear BK336); (try clear BK345); (try clear HB)
    generalize (((w32.setCell ⟨gb345, 0, none⟩ (.int .i64 t340)).setCell ⟨gb345, 1, none⟩ (.int .i64 t341)).setCell ⟨gb345, 2, none⟩ (.slice Ao37 t342.length co37)) = w38 at n0_ n1_ n2_ n3_ n4_ n5_ ⊢
    have HO344 := n0_; have BK334 := n1_; have BK335 := n2_; have BK336 := n3_; have BK345 := n4_; have HB := n5_; clear n0_ n1_ n2_ n3_ n4_ n5_
    replace HO344 := rd_ HO344; replace BK334 := kd_ BK334; replace BK335 := kd_ BK335; replace BK336 := kd_ BK336; replace BK345 := kd_ BK345; replace HB := wd_ HB
    have q40 : ((ji22) : Int) ≤ ((t342.length : Int) : Int) := od_
    obtain ⟨i040, hi040, _, hsz40, _⟩ := info_parts info135
    have hcut40 := cut_to (P := Try.prog) 57 135 .i64 Try.underlying57 hi040 Ao37 t342.length co37 (ji22) (od_) q40 (Kd.R_reads' HO344.out).2.1
    have hr40 := Kd.R_take (m := ((ji22) : Int).toNat) HO344.out (by omega)
    have hy40 : y346.length = ((ji22) : Int).toNat := (by rw [Ny346.out, List.length_take]; omega)
    rw [← Ny346.out] at hr40
    rw [← hy40] at hr40 hcut40
    clear hy40 hi040 hsz40 HO344
    have HO348 := Aside0.mk hr40
    clear hr40
    replace q40 := eq_true q40
    refine start_ (n := 13) (S := fun w' => w'.cell? ⟨gb345, 0, none⟩ = some (.int .i64 t340) ∧ w'.cell? ⟨gb345, 1, none⟩ = some (.int .i64 t341) ∧ w'.cell? ⟨gb345, 2, none⟩ = some (.slice Ao37 t342.length co37) ∧ w'.cell? ⟨gb334, 0, none⟩ = some (.int .i64 a0_0) ∧ w'.cell? ⟨gb334, 1, none⟩ = some (.int .i64 a0_1) ∧ w'.cell? ⟨gb334, 2, none⟩ = some (.slice A0_2 l0_2.length c0_2) ∧ w'.cell? ⟨gb335, 0, none⟩ = some (.int .i64 a2_0) ∧ w'.cell? ⟨gb335, 1, none⟩ = some (.int .i64 a2_1) ∧ w'.cell? ⟨gb335, 2, none⟩ = some (.string a2_2)) (ds := [12]) #[false, false, false, false, false, false, false, false, false, false, false, false, false] (by kernel_rfl) rfl rfl ⟨bc_ BK345 0, bc_ BK345 1, bc_ BK345 2, bc_ BK334 0, bc_ BK334 1, bc_ BK334 2, bc_ BK335 0, bc_ BK335 1, bc_ BK335 2⟩ (fun hHeld => ?_); refine with_tabW impl_LogPut.tab4 impl_LogPut.bits4 (fun HT_ HW_ => ?_)
    generalize w38.drew = w39 at BK334 BK335 BK336 BK345 HB HO348 hHeld ⊢
    refine pv_ 0 26 ?_
    refine pv_ 2 28 ?_
    refine pv_ 3 29 ?_
    refine tv_ 1 27 hHeld ?_
    refine tv_ 4 30 hHeld ?_
    refine pv_ 5 31 ?_
    refine pv_ 6 32 ?_
    refine pv_ 7 33 ?_
    refine tv_ 8 34 hHeld ?_
    refine one_ (i := 9) (N := some 35) #[true, true, true, true, true, true, true, true, true, true, false, false, false] rfl rfl (one_of HT_.out (by kernel_rfl)) (by decide) (fun K hK => ?_)
    refine value_ (w1 := ?_) (v := ?_) (by rfl) rfl ?_ ?_
    rotate_left 2
    ·go_simp
     constructor
     ·rfl
     ·rfl
    refine hK.out _ _ ⟨(blk_cell (blk_alloc BK345.out _) 0).trans rfl, (blk_cell (blk_alloc BK345.out _) 1).trans rfl, (blk_cell (blk_alloc BK345.out _) 2).trans rfl, (blk_cell (blk_alloc BK334.out _) 0).trans rfl, (blk_cell (blk_alloc BK334.out _) 1).trans rfl, (blk_cell (blk_alloc BK334.out _) 2).trans rfl, (blk_cell (blk_alloc BK335.out _) 0).trans rfl, (blk_cell (blk_alloc BK335.out _) 1).trans rfl, (blk_cell (blk_alloc BK335.out _) 2).trans rfl⟩ (fun hHeld => ?_)
    clear hK K
    refine norm_ (a' := ?_) ?_ ?_
    rotate_left
    ·show Act.put _ (some 35) _ = _
     simp only [Act.put, sia_, scz_, scs_, i64_w, i32_w]
     rfl
    refine one_ (i := 10) (N := some 36) #[true, true, true, true, true, true, true, true, true, true, true, false, false] rfl rfl (one_of HT_.out (by kernel_rfl)) (by decide) (fun K hK => ?_)
    refine Kd.R_append_step k135 (w0 := w) w.heap.size (by rfl) (.tmp 33) (.tmp 35) 57 135 (.agg #[(.int .i64 0), (.int .i64 0), (.string ⟨#[]⟩)]) 32 rfl Try.underlying57 info135 rfl (by decide) (by omega) (.slice Ao37 y346.length co37) y346 (⟨a2_0, a2_1, a2_2⟩ : S135) [.int .i64 a2_0, .int .i64 a2_1, .string a2_2] (fun k_ => k_ ≠ gb335) (fun _ => False) rfl rfl ?aP (fun _ hk => hk.elim) ?aF ?aO ?aB ?aS ?aL ?_
    (case aP => exact k135_mkM _ _ _ (⟨a2_0, a2_1, a2_2⟩ : S135))
    (case aB => exact (bw_ HB))
    (case aF => exact (fun k_ hk => Kd.freshB (g := gb335) (o := .cells #[.int .i64 a2_0, .int .i64 a2_1, .string a2_2] 135 (0, 0)) (bp_ BK335) k_ hk))
    (case aO => exact (rp_ HO348))
    (case aS => exact (below_size (bw_ HB)))
    (case aL => have := LMc25.out; omega)
    intro v350 w41 ho hb hg hat
    rw [← Ny349.out] at ho
    have n0_ := mk_ (blk_grown (g := gb334) (o := .cells #[.int .i64 a0_0, .int .i64 a0_1, .slice A0_2 l0_2.length c0_2] 59 (0, 0)) (bp_ BK334) hg (Kd.R_ne HO348.out BK334.out (by decide)))
    have n1_ := mk_ (blk_grown (g := gb335) (o := .cells #[.int .i64 a2_0, .int .i64 a2_1, .string a2_2] 135 (0, 0)) (bp_ BK335) hg (Kd.R_away HO348.out (fun _ hk => hk)))
    have n2_ := mk_ (blk_grown (g := gb336) (o := .cells #[.int .i64 0, .int .i64 0, .slice none 0 0] 59 (0, 0)) (bp_ BK336) hg (Kd.R_ne HO348.out BK336.out (by decide)))
    have n3_ := mk_ (blk_grown (g := gb345) (o := .cells #[.int .i64 t340, .int .i64 t341, .slice Ao37 t342.length co37] 59 (0, 0)) (bp_ BK345) hg (Kd.R_ne HO348.out BK345.out (by decide)))
    have n4_ := mk_ (hb)
    have n5_ := mk_ (ho)
    clear BK334; clear BK335; clear BK336; clear BK345; clear HB; clear HO348; have BK334 := n0_; have BK335 := n1_; have BK336 := n2_; have BK345 := n3_; have HB := n4_; have HO351 := n5_; clear n0_ n1_ n2_ n3_ n4_ n5_; clear ho hb hg hat
    obtain ⟨Ao42, co42, eo42⟩ := Kd.R_slice HO351.out
    (first | subst eo42 | (injection eo42 with f1_ f2_ f3_; have f4_ := f1_.symm; have f5_ := f3_.symm; clear f1_ f2_ f3_; subst f4_; subst f5_))
    refine hK.out _ _ ⟨bc_ BK345 0, bc_ BK345 1, bc_ BK345 2, bc_ BK334 0, bc_ BK334 1, bc_ BK334 2, bc_ BK335 0, bc_ BK335 1, bc_ BK335 2⟩ (fun hHeld => ?_)
    clear hK K
    refine norm_ (a' := ?_) ?_ ?_
    rotate_left
    ·show Act.put _ (some 36) _ = _
     simp only [Act.put, sia_, scz_, scs_, i64_w, i32_w]
     rfl
    refine pv_ 11 37 ?_
    refine last_ (i := 12) (N := none) #[true, true, true, true, true, true, true, true, true, true, true, true, true] rfl rfl (one_of HT_.out (by kernel_rfl)) (by decide) (fun K hK => ?_)
    have hs43 : w41.cell? ⟨gb345, 2, none⟩ = some (.slice Ao37 t342.length co37) := bc_ BK345 2
    have hfs43 := blk_frozen BK345.out 2
    have hns43_0 := NB334_345.out
    have hns43_1 := NB335_345.out
    have hns43_2 := NB336_345.out
    have hms43_0 := NB345_334.out
    have hms43_1 := NB345_335.out
    have hms43_2 := NB345_336.out
    refine skip_ (w1 := ?_) (by rfl) rfl ?_ ?_
    rotate_left
    ·go_simp
     rfl
    refine hK.out _ _ ?_
    clear hK K
    refine done_ (done_of HT_.out (by kernel_rfl)) ?_
    have hcz44_0 : w41.cell? ⟨gb345, 0, none⟩ = some (.int .i64 t340) := bc_ BK345 0
    have hcz44_1 : w41.cell? ⟨gb345, 1, none⟩ = some (.int .i64 t341) := bc_ BK345 1
    have hcz44_2 : w41.cell? ⟨gb345, 2, none⟩ = some (.slice Ao37 t342.length co37) := bc_ BK345 2
    have hfz44_0 := blk_frozen BK345.out 0
    have hfz44_1 := blk_frozen BK345.out 1
    have hfz44_2 := blk_frozen BK345.out 2
    try go_wp2_with (first | ((with_reducible refine gate_callee (f := 105) rfl ?_); refine gl_ 39 Try.func105 #[.agg #[.int .i64 t340, .int .i64 t341, .slice Ao42 y349.length co42]] ?_; (with_reducible refine (impl_LogOk.calls kj3 t340 t341 _ _ y349 true _ ?side1 ?side2 A26.out).mono ?_); (case side1 => refine (Kd.R_reads' (e := 135) (base := w.heap.size) (ok := fun k_ => k_ ≠ gb335) (n := y349.length) (c := co42) ?_).2.2; exact (rq_ (rf_ HO351 BK345 2 (.slice Ao42 y349.length co42)))); (case side2 => exact (Kd.R_reads' HO351.out).2.1); rintro e w45 ⟨rfl, hb⟩; refine ⟨_, rfl, ?_⟩; replace HO351 := mk_ (Kd.R_below (rq_ (rf_ HO351 BK345 2 (.slice Ao42 y349.length co42))) hb); replace BK334 := mk_ (blk_below (g := gb334) (o := .cells #[.int .i64 a0_0, .int .i64 a0_1, .slice A0_2 l0_2.length c0_2] 59 (0, 0)) bf_ hb); replace BK335 := mk_ (blk_below (g := gb335) (o := .cells #[.int .i64 a2_0, .int .i64 a2_1, .string a2_2] 135 (0, 0)) bf_ hb); replace BK336 := mk_ (blk_below (g := gb336) (o := .cells #[.int .i64 0, .int .i64 0, .slice none 0 0] 59 (0, 0)) bf_ hb); replace BK345 := mk_ (blk_below (g := gb345) (o := .cells #[.int .i64 t340, .int .i64 t341, .slice Ao42 y349.length co42] 59 (0, 0)) bu_ hb); replace HB := bs_ HB hb; (try clear hb); (try clear hk); obtain ⟨hcz46_0, hcz46_1, hcz46_2, hfz46_0, hfz46_1, hfz46_2⟩ := b3_ BK345; obtain ⟨hnb47, hnc47⟩ := ns_ NB336_335; obtain ⟨hcz48_0, hcz48_1, hcz48_2, hfz48_0, hfz48_1, hfz48_2⟩ := b3_ BK336))
    refine bodyPost_ret (results_ct rfl _ _ gb336 59 #[.int .i64 t340, .int .i64 t341, .slice Ao42 y349.length co42] (0, 0) _ rfl bu_ Try.underlying59 rfl (by kernel_rfl)) rfl ?_
    exact ⟨_, by first | rfl | (simp [errW_none, errW_some] <;> rfl) | (simp only [← hji22]; first | rfl | (simp [errW_none, errW_some] <;> rfl)) | (simp [*, errW_none, errW_some] <;> rfl), rq_ (Kd.R_mono (Kd.R_far (p := ⟨gb336, 2, none⟩) (Kd.R_far (p := ⟨gb336, 1, none⟩) (Kd.R_far (p := ⟨gb336, 0, none⟩) (Kd.R_types HO351.out BK336.out (by decide)) (fun _ hk => hk.2) (.int .i64 t340)) (fun _ hk => hk.2) (.int .i64 t341)) (fun _ hk => hk.2) (.slice Ao42 y349.length co42)) (fun _ hk => trivial)), bw_ HB⟩
   replace c27 := Bool.eq_false_iff.mpr c27
   subst c27
   rw [if_neg (show ¬ (false = true) by decide)] at H
   simp only [Option.some.injEq, Prod.mk.injEq] at H
   obtain ⟨rfl, rfl, rfl, rfl⟩ := H
   obtain ⟨hnb49, hnc49⟩ := ns_ NB334_335
   obtain ⟨hnb50, hnc50⟩ := ns_ NB334_336
   have hcz51_0 : wc.cell? ⟨gb334, 0, none⟩ = some (.int .i64 a0_0) := bc_ BK334 0
   have hcz51_1 : wc.cell? ⟨gb334, 1, none⟩ = some (.int .i64 a0_1) := bc_ BK334 1
   have hcz51_2 : wc.cell? ⟨gb334, 2, none⟩ = some (.slice A0_2 l0_2.length c0_2) := bc_ BK334 2
   have hfz51_0 := blk_frozen BK334.out 0
   have hfz51_1 := blk_frozen BK334.out 1
   have hfz51_2 := blk_frozen BK334.out 2
   try go_wp2_with (first | ((with_reducible refine gate_callee (f := 124) rfl ?_); refine gl_ 25 Try.func124 #[.agg #[.int .i64 a0_0, .int .i64 a0_1, .slice A0_2 l0_2.length c0_2]] ?_; (with_reducible refine (impl_copyLog.calls a0_0 a0_1 _ _ l0_2 t340 t341 t342 _ ?side1 ?side2 A21.out).mono ?_); (case side1 => exact cb_ HR0_2 HB); (case side2 => exact HC0_2.out); rintro e w52 ⟨v343, rfl, ho0, hb⟩; refine ⟨_, rfl, ?_⟩; have HO344 := mk_ (Kd.R_lower (Kd.R_newB ho0 (g := gb335) (o := .cells #[.int .i64 a2_0, .int .i64 a2_1, .string a2_2] 135 (0, 0)) (bp_ BK335)) (below_size (bw_ HB))); replace BK334 := bb_ BK334 hb; replace BK335 := bb_ BK335 hb; replace BK336 := bb_ BK336 hb; replace HB := bs_ HB hb; (try clear hb); (try clear ho0)) | ((with_reducible refine gate_dst (N := 8) rfl ?_); refine bx_ (N := 8) (cs := #[.int .i64 0, .int .i64 0, .slice none 0 0]) (t := 59) ?_; intro gb345 hg w53 hbox hb; have BK345 := mk_ (hbox); have GW345 : Aside0 (w.heap.size ≤ gb345) := bz_ hg; have GE345 := GW345; have NB334_345 := bl_ BK334 hg; have NB345_334 := bg_ BK334 hg; have NB335_345 := bl_ BK335 hg; have NB345_335 := bg_ BK335 hg; have NB336_345 := bl_ BK336 hg; have NB345_336 := bg_ BK336 hg; replace HO344 := rb_ HO344 hb; replace BK334 := bb_ BK334 hb; replace BK335 := bb_ BK335 hb; replace BK336 := bb_ BK336 hb; replace HB := bs_ HB hb; clear hb hbox hg; obtain ⟨hnb54, hnc54⟩ := ns_ NB345_334; obtain ⟨hnb55, hnc55⟩ := ns_ NB345_335; obtain ⟨hnb56, hnc56⟩ := ns_ NB345_336; obtain ⟨hcz57_0, hcz57_1, hcz57_2, hfz57_0, hfz57_1, hfz57_2⟩ := b3_ BK345; obtain ⟨Ao58, co58, eo58⟩ := Kd.R_slice HO344.out; subst eo58))
   have n0_ : Aside0 (Kd.R k135 135 (((w53.setCell ⟨gb345, 0, none⟩ (.int .i64 t340)).setCell ⟨gb345, 1, none⟩ (.int .i64 t341)).setCell ⟨gb345, 2, none⟩ (.slice Ao58 t342.length co58)) w.heap.size (fun k_ => k_ ≠ gb335) (.slice Ao58 t342.length co58) t342) := ⟨rq_ (Kd.R_mono (Kd.R_far (p := ⟨gb345, 2, none⟩) (Kd.R_far (p := ⟨gb345, 1, none⟩) (Kd.R_far (p := ⟨gb345, 0, none⟩) (Kd.R_types HO344.out BK345.out (by decide)) (fun _ hk => hk.2) (.int .i64 t340)) (fun _ hk => hk.2) (.int .i64 t341)) (fun _ hk => hk.2) (.slice Ao58 t342.length co58)) (fun _ hk => hk.1.2))⟩
   have n1_ : Aside0 ((((w53.setCell ⟨gb345, 0, none⟩ (.int .i64 t340)).setCell ⟨gb345, 1, none⟩ (.int .i64 t341)).setCell ⟨gb345, 2, none⟩ (.slice Ao58 t342.length co58)).heap[gb334]? = some (.cells #[.int .i64 a0_0, .int .i64 a0_1, .slice A0_2 l0_2.length c0_2] 59 (0, 0))) := ⟨bf_⟩
   have n2_ : Aside0 ((((w53.setCell ⟨gb345, 0, none⟩ (.int .i64 t340)).setCell ⟨gb345, 1, none⟩ (.int .i64 t341)).setCell ⟨gb345, 2, none⟩ (.slice Ao58 t342.length co58)).heap[gb335]? = some (.cells #[.int .i64 a2_0, .int .i64 a2_1, .string a2_2] 135 (0, 0))) := ⟨bf_⟩
   have n3_ : Aside0 ((((w53.setCell ⟨gb345, 0, none⟩ (.int .i64 t340)).setCell ⟨gb345, 1, none⟩ (.int .i64 t341)).setCell ⟨gb345, 2, none⟩ (.slice Ao58 t342.length co58)).heap[gb336]? = some (.cells #[.int .i64 0, .int .i64 0, .slice none 0 0] 59 (0, 0))) := ⟨bf_⟩
   have n4_ : Aside0 ((((w53.setCell ⟨gb345, 0, none⟩ (.int .i64 t340)).setCell ⟨gb345, 1, none⟩ (.int .i64 t341)).setCell ⟨gb345, 2, none⟩ (.slice Ao58 t342.length co58)).heap[gb345]? = some (.cells #[.int .i64 t340, .int .i64 t341, .slice Ao58 t342.length co58] 59 (0, 0))) := ⟨bu_⟩
   have n5_ : Aside0 (Below w.heap.size w (((w53.setCell ⟨gb345, 0, none⟩ (.int .i64 t340)).setCell ⟨gb345, 1, none⟩ (.int .i64 t341)).setCell ⟨gb345, 2, none⟩ (.slice Ao58 t342.length co58))) := ⟨bw_ HB⟩
   (try clear HO344); (try clear BK334); (try clear BK335); (try clear BK336); (try clear BK345); (try clear HB)
   generalize (((w53.setCell ⟨gb345, 0, none⟩ (.int .i64 t340)).setCell ⟨gb345, 1, none⟩ (.int .i64 t341)).setCell ⟨gb345, 2, none⟩ (.slice Ao58 t342.length co58)) = w59 at n0_ n1_ n2_ n3_ n4_ n5_ ⊢
   have HO344 := n0_; have BK334 := n1_; have BK335 := n2_; have BK336 := n3_; have BK345 := n4_; have HB := n5_; clear n0_ n1_ n2_ n3_ n4_ n5_
   replace HO344 := rd_ HO344; replace BK334 := kd_ BK334; replace BK335 := kd_ BK335; replace BK336 := kd_ BK336; replace BK345 := kd_ BK345; replace HB := wd_ HB
   have q61 : ((ji22) : Int) ≤ ((t342.length : Int) : Int) := od_
   obtain ⟨i061, hi061, _, hsz61, _⟩ := info_parts info135
   have hcut61 := cut_to (P := Try.prog) 57 135 .i64 Try.underlying57 hi061 Ao58 t342.length co58 (ji22) (od_) q61 (Kd.R_reads' HO344.out).2.1
   have hr61 := Kd.R_take (m := ((ji22) : Int).toNat) HO344.out (by omega)
   have hy61 : y346.length = ((ji22) : Int).toNat := (by rw [Ny346.out, List.length_take]; omega)
   rw [← Ny346.out] at hr61
   rw [← hy61] at hr61 hcut61
   clear hy61 hi061 hsz61 HO344
   have HO348 := Aside0.mk hr61
   clear hr61
   replace q61 := eq_true q61
   refine start_ (n := 13) (S := fun w' => w'.cell? ⟨gb345, 0, none⟩ = some (.int .i64 t340) ∧ w'.cell? ⟨gb345, 1, none⟩ = some (.int .i64 t341) ∧ w'.cell? ⟨gb345, 2, none⟩ = some (.slice Ao58 t342.length co58) ∧ w'.cell? ⟨gb334, 0, none⟩ = some (.int .i64 a0_0) ∧ w'.cell? ⟨gb334, 1, none⟩ = some (.int .i64 a0_1) ∧ w'.cell? ⟨gb334, 2, none⟩ = some (.slice A0_2 l0_2.length c0_2) ∧ w'.cell? ⟨gb335, 0, none⟩ = some (.int .i64 a2_0) ∧ w'.cell? ⟨gb335, 1, none⟩ = some (.int .i64 a2_1) ∧ w'.cell? ⟨gb335, 2, none⟩ = some (.string a2_2)) (ds := [12]) #[false, false, false, false, false, false, false, false, false, false, false, false, false] (by kernel_rfl) rfl rfl ⟨bc_ BK345 0, bc_ BK345 1, bc_ BK345 2, bc_ BK334 0, bc_ BK334 1, bc_ BK334 2, bc_ BK335 0, bc_ BK335 1, bc_ BK335 2⟩ (fun hHeld => ?_); refine with_tabW impl_LogPut.tab4 impl_LogPut.bits4 (fun HT_ HW_ => ?_)
   generalize w59.drew = w60 at BK334 BK335 BK336 BK345 HB HO348 hHeld ⊢
   refine pv_ 0 26 ?_
   refine pv_ 2 28 ?_
   refine pv_ 3 29 ?_
   refine tv_ 1 27 hHeld ?_
   refine tv_ 4 30 hHeld ?_
   refine pv_ 5 31 ?_
   refine pv_ 6 32 ?_
   refine pv_ 7 33 ?_
   refine tv_ 8 34 hHeld ?_
   refine one_ (i := 9) (N := some 35) #[true, true, true, true, true, true, true, true, true, true, false, false, false] rfl rfl (one_of HT_.out (by kernel_rfl)) (by decide) (fun K hK => ?_)
   refine value_ (w1 := ?_) (v := ?_) (by rfl) rfl ?_ ?_
   rotate_left 2
   ·go_simp
    constructor
    ·rfl
    ·rfl
   refine hK.out _ _ ⟨(blk_cell (blk_alloc BK345.out _) 0).trans rfl, (blk_cell (blk_alloc BK345.out _) 1).trans rfl, (blk_cell (blk_alloc BK345.out _) 2).trans rfl, (blk_cell (blk_alloc BK334.out _) 0).trans rfl, (blk_cell (blk_alloc BK334.out _) 1).trans rfl, (blk_cell (blk_alloc BK334.out _) 2).trans rfl, (blk_cell (blk_alloc BK335.out _) 0).trans rfl, (blk_cell (blk_alloc BK335.out _) 1).trans rfl, (blk_cell (blk_alloc BK335.out _) 2).trans rfl⟩ (fun hHeld => ?_)
   clear hK K
   refine norm_ (a' := ?_) ?_ ?_
   rotate_left
   ·show Act.put _ (some 35) _ = _
    simp only [Act.put, sia_, scz_, scs_, i64_w, i32_w]
    rfl
   refine one_ (i := 10) (N := some 36) #[true, true, true, true, true, true, true, true, true, true, true, false, false] rfl rfl (one_of HT_.out (by kernel_rfl)) (by decide) (fun K hK => ?_)
   refine Kd.R_append_step k135 (w0 := w) w.heap.size (by rfl) (.tmp 33) (.tmp 35) 57 135 (.agg #[(.int .i64 0), (.int .i64 0), (.string ⟨#[]⟩)]) 32 rfl Try.underlying57 info135 rfl (by decide) (by omega) (.slice Ao58 y346.length co58) y346 (⟨a2_0, a2_1, a2_2⟩ : S135) [.int .i64 a2_0, .int .i64 a2_1, .string a2_2] (fun k_ => k_ ≠ gb335) (fun _ => False) rfl rfl ?aP (fun _ hk => hk.elim) ?aF ?aO ?aB ?aS ?aL ?_
   (case aP => exact k135_mkM _ _ _ (⟨a2_0, a2_1, a2_2⟩ : S135))
   (case aB => exact (bw_ HB))
   (case aF => exact (fun k_ hk => Kd.freshB (g := gb335) (o := .cells #[.int .i64 a2_0, .int .i64 a2_1, .string a2_2] 135 (0, 0)) (bp_ BK335) k_ hk))
   (case aO => exact (rp_ HO348))
   (case aS => exact (below_size (bw_ HB)))
   (case aL => have := LMc25.out; omega)
   intro v350 w62 ho hb hg hat
   rw [← Ny349.out] at ho
   have n0_ := mk_ (blk_grown (g := gb334) (o := .cells #[.int .i64 a0_0, .int .i64 a0_1, .slice A0_2 l0_2.length c0_2] 59 (0, 0)) (bp_ BK334) hg (Kd.R_ne HO348.out BK334.out (by decide)))
   have n1_ := mk_ (blk_grown (g := gb335) (o := .cells #[.int .i64 a2_0, .int .i64 a2_1, .string a2_2] 135 (0, 0)) (bp_ BK335) hg (Kd.R_away HO348.out (fun _ hk => hk)))
   have n2_ := mk_ (blk_grown (g := gb336) (o := .cells #[.int .i64 0, .int .i64 0, .slice none 0 0] 59 (0, 0)) (bp_ BK336) hg (Kd.R_ne HO348.out BK336.out (by decide)))
   have n3_ := mk_ (blk_grown (g := gb345) (o := .cells #[.int .i64 t340, .int .i64 t341, .slice Ao58 t342.length co58] 59 (0, 0)) (bp_ BK345) hg (Kd.R_ne HO348.out BK345.out (by decide)))
   have n4_ := mk_ (hb)
   have n5_ := mk_ (ho)
   clear BK334; clear BK335; clear BK336; clear BK345; clear HB; clear HO348; have BK334 := n0_; have BK335 := n1_; have BK336 := n2_; have BK345 := n3_; have HB := n4_; have HO351 := n5_; clear n0_ n1_ n2_ n3_ n4_ n5_; clear ho hb hg hat
   obtain ⟨Ao63, co63, eo63⟩ := Kd.R_slice HO351.out
   (first | subst eo63 | (injection eo63 with f1_ f2_ f3_; have f4_ := f1_.symm; have f5_ := f3_.symm; clear f1_ f2_ f3_; subst f4_; subst f5_))
   refine hK.out _ _ ⟨bc_ BK345 0, bc_ BK345 1, bc_ BK345 2, bc_ BK334 0, bc_ BK334 1, bc_ BK334 2, bc_ BK335 0, bc_ BK335 1, bc_ BK335 2⟩ (fun hHeld => ?_)
   clear hK K
   refine norm_ (a' := ?_) ?_ ?_
   rotate_left
   ·show Act.put _ (some 36) _ = _
    simp only [Act.put, sia_, scz_, scs_, i64_w, i32_w]
    rfl
   refine pv_ 11 37 ?_
   refine last_ (i := 12) (N := none) #[true, true, true, true, true, true, true, true, true, true, true, true, true] rfl rfl (one_of HT_.out (by kernel_rfl)) (by decide) (fun K hK => ?_)
   have hs64 : w62.cell? ⟨gb345, 2, none⟩ = some (.slice Ao58 t342.length co58) := bc_ BK345 2
   have hfs64 := blk_frozen BK345.out 2
   have hns64_0 := NB334_345.out
   have hns64_1 := NB335_345.out
   have hns64_2 := NB336_345.out
   have hms64_0 := NB345_334.out
   have hms64_1 := NB345_335.out
   have hms64_2 := NB345_336.out
   refine skip_ (w1 := ?_) (by rfl) rfl ?_ ?_
   rotate_left
   ·go_simp
    rfl
   refine hK.out _ _ ?_
   clear hK K
   refine done_ (done_of HT_.out (by kernel_rfl)) ?_
   have hcz65_0 : w62.cell? ⟨gb345, 0, none⟩ = some (.int .i64 t340) := bc_ BK345 0
   have hcz65_1 : w62.cell? ⟨gb345, 1, none⟩ = some (.int .i64 t341) := bc_ BK345 1
   have hcz65_2 : w62.cell? ⟨gb345, 2, none⟩ = some (.slice Ao58 t342.length co58) := bc_ BK345 2
   have hfz65_0 := blk_frozen BK345.out 0
   have hfz65_1 := blk_frozen BK345.out 1
   have hfz65_2 := blk_frozen BK345.out 2
   try go_wp2_with (first | ((with_reducible refine gate_callee (f := 105) rfl ?_); refine gl_ 39 Try.func105 #[.agg #[.int .i64 t340, .int .i64 t341, .slice Ao63 y349.length co63]] ?_; (with_reducible refine (impl_LogOk.calls kj3 t340 t341 _ _ y349 false _ ?side1 ?side2 A26.out).mono ?_); (case side1 => refine (Kd.R_reads' (e := 135) (base := w.heap.size) (ok := fun k_ => k_ ≠ gb335) (n := y349.length) (c := co63) ?_).2.2; exact (rq_ (rf_ HO351 BK345 2 (.slice Ao63 y349.length co63)))); (case side2 => exact (Kd.R_reads' HO351.out).2.1); rintro e w66 ⟨rfl, hb⟩; refine ⟨_, rfl, ?_⟩; replace HO351 := mk_ (Kd.R_below (rq_ (rf_ HO351 BK345 2 (.slice Ao63 y349.length co63))) hb); replace BK334 := mk_ (blk_below (g := gb334) (o := .cells #[.int .i64 a0_0, .int .i64 a0_1, .slice A0_2 l0_2.length c0_2] 59 (0, 0)) bf_ hb); replace BK335 := mk_ (blk_below (g := gb335) (o := .cells #[.int .i64 a2_0, .int .i64 a2_1, .string a2_2] 135 (0, 0)) bf_ hb); replace BK336 := mk_ (blk_below (g := gb336) (o := .cells #[.int .i64 0, .int .i64 0, .slice none 0 0] 59 (0, 0)) bf_ hb); replace BK345 := mk_ (blk_below (g := gb345) (o := .cells #[.int .i64 t340, .int .i64 t341, .slice Ao63 y349.length co63] 59 (0, 0)) bu_ hb); replace HB := bs_ HB hb; (try clear hb); (try clear hk); obtain ⟨hnb67, hnc67⟩ := ns_ NB336_335; obtain ⟨hcz68_0, hcz68_1, hcz68_2, hfz68_0, hfz68_1, hfz68_2⟩ := b3_ BK336))
   refine bodyPost_ret (results_ct rfl _ _ gb336 59 #[.int .i64 0, .int .i64 0, .slice none 0 0] (0, 0) _ rfl bu_ Try.underlying59 rfl (by kernel_rfl)) rfl ?_
   exact ⟨_, by first | rfl | (simp [errW_none, errW_some] <;> rfl) | (simp only [← hji22]; first | rfl | (simp [errW_none, errW_some] <;> rfl)) | (simp [*, errW_none, errW_some] <;> rfl), by first | exact Kd.R_nil _ _ _ _ _ | exact Kd.N_nil _ _ _ _ _ | exact Kd.V_nil _ _ _ _ _ | exact Kd.Q_nil _ _ _ _ _ | exact Kd.S_nil _ _ _ _ _, bw_ HB⟩

end Go.Proofs.Ythbaoefbccdioaa.QFnExactReadJournal
