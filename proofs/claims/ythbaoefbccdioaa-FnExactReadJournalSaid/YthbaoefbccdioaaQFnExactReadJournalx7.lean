/- Written by this session's own program (wip/tpl/pp.py): what the law's functions come to, and that the machine's calls do just that. -/
import Derived.Test.YthbaoefbccdioaaTMPack
import Derived.Test.YthbaoefbccdioaaQFnExactReadJournalx0
import Derived.Test.YthbaoefbccdioaaQFnExactReadJournalx1
import Derived.Test.YthbaoefbccdioaaQFnExactReadJournalx4
import Derived.Test.YthbaoefbccdioaaQFnExactReadJournalx6
namespace Go.Proofs.Ythbaoefbccdioaa.QFnExactReadJournal
open Go.RowKit Go.Proofs.YthbaoefbccdioaaW.PrintWords Go.Proofs.YthbaoefbccdioaaW.PrintLast Go.Proofs.YthbaoefbccdioaaW.PrintMore
attribute [local go_sem] Go.Proofs.Ythbaoefbccdioaa.Sem.string_geq Go.Proofs.Ythbaoefbccdioaa.Sem.string_leq Go.Proofs.Ythbaoefbccdioaa.Sem.string_gtr
attribute [local go_sem] max2_int min2_int max_two min_two max_three min_three max_four min_four   -- for this text's walks alone
set_option linter.unusedVariables false
set_option linter.unusedSimpArgs false

/-! ### spec_LogPut: function 98 -/
def spec_LogPut.j0 : Nat → Int → Bool → Int → Int → List (S135) → Int → Int → ByteArray → Option (Int × Int × (List (S135)) × Bool)
 | 0, _, _, _, _, _, _, _, _ => none
 | k + 1, x1, x22, x216000, x216001, x216002, x217000, x217001, x217002 => if x22 = true then (some (0, 0, ([] : List (S135)), false)) else ((some (([] : List (S135)) : List (S135))).bind fun y221 => (if 0 ≤ (wrap64 ((wrap64 (x1 - x216000)) - 1)) then (if (wrap64 ((wrap64 (x1 - x216000)) - 1)) ≤ (x216002.length : Int) then ((some (x216002.take ((wrap64 ((wrap64 (x1 - x216000)) - 1)) : Int).toNat : List (S135))).bind fun y224 => (if y221.length + y224.length < 4398046511104 then ((some (y221 ++ y224 : List (S135))).bind fun y228 => ((some (([(⟨x217000, x217001, x217002⟩ : S135)] : List (S135)) : List (S135))).bind fun y231 => (if y228.length + y231.length < 4398046511104 then ((some (y228 ++ y231 : List (S135))).bind fun y234 => ((spec_LogOk.f k x216000 x216001 y234).bind fun t238 => (if t238 = true then (some (x216000, x216001, y234, true)) else (some (0, 0, ([] : List (S135)), false))))) else (none)))) else (none))) else (none)) else (none)))
def spec_LogPut.f (k : Nat) (a0_0 : Int) (a0_1 : Int) (l0_2 : List (S135)) (a1 : Int) (a2_0 : Int) (a2_1 : Int) (a2_2 : ByteArray) : Option (Int × Int × (List (S135)) × Bool) := (spec_LogOk.f k a0_0 a0_1 l0_2).bind fun t218 => (if t218 = true then ((spec_l06Last.f a0_0 a0_1 l0_2).bind fun t219 => ((spec_l01In.f a1 (wrap64 (a0_0 + 1)) (wrap64 (t219 + 1))).bind fun t220 => (spec_LogPut.j0 k a1 (!t220) a0_0 a0_1 l0_2 a2_0 a2_1 a2_2))) else (spec_LogPut.j0 k a1 true a0_0 a0_1 l0_2 a2_0 a2_1 a2_2))
theorem spec_LogPut.mono_l : ∀ k, (∀ y0 y1 y2 y3 y4 y5 y6 y7, LeO (spec_LogPut.j0 k y0 y1 y2 y3 y4 y5 y6 y7) (spec_LogPut.j0 (k + 1) y0 y1 y2 y3 y4 y5 y6 y7))
 | 0 => fun _ _ _ _ _ _ _ _ r h => by simp [spec_LogPut.j0] at h
 | k + 1 => by
  have ih0 := spec_LogPut.mono_l k
  ·intro y0 y1 y2 y3 y4 y5 y6 y7
   unfold spec_LogPut.j0
   repeat' first
   | (with_reducible exact spec_LogOk.mono _ _ _ _)
   | (with_reducible exact LeO.refl _)
   | (with_reducible refine LeO.ite ?_ ?_)
   | (with_reducible refine LeO.bind ?_ (fun _ => ?_))
theorem spec_LogPut.mono : ∀ a0 a1 a2 a3 a4 a5 a6 k, LeO (spec_LogPut.f k a0 a1 a2 a3 a4 a5 a6) (spec_LogPut.f (k + 1) a0 a1 a2 a3 a4 a5 a6) := by
 intro a0 a1 a2 a3 a4 a5 a6 k
 have ih0 := spec_LogPut.mono_l k
 unfold spec_LogPut.f
 repeat' first
   | (with_reducible exact ih0 _ _ _ _ _ _ _ _)
   | (with_reducible exact spec_LogOk.mono _ _ _ _)
   | (with_reducible exact LeO.refl _)
   | (with_reducible refine LeO.ite ?_ ?_)
   | (with_reducible refine LeO.bind ?_ (fun _ => ?_))
def spec_LogPut.T1 : Bool × List (List Nat × List Nat) := (true, [([], []), ([0], [0]), ([1], [1]), ([2, 1], [2]), ([3], [3]), ([3], [3]), ([5, 3], [3, 5]), ([6, 3], [3, 6]), ([3], [3]), ([8, 3, 3], [3, 8]), ([9, 3], [3, 9]), ([4, 7, 10, 9, 3], [3, 4, 7, 10]), ([11, 3], [3, 11]), ([3, 12], [3, 12])])
def spec_LogPut.B1 : List Nat := [0, 1, 3, 7, 15, 15, 47, 111, 15, 271, 783, 2047, 4095, 8191]
theorem spec_LogPut.tab1 : rtab .any (opsOf Try.f98 1) = spec_LogPut.T1 := by kernel_rfl
theorem spec_LogPut.bits1 : waitsOk spec_LogPut.T1.2 spec_LogPut.B1 = true := by kernel_rfl
def spec_LogPut.T3 : Bool × List (List Nat × List Nat) := (true, [([], []), ([0], [0]), ([], []), ([2], [2]), ([], []), ([], []), ([5], [5]), ([], []), ([], []), ([8], [8]), ([7, 9], [7, 9]), ([10], [10]), ([6, 11], [6, 11]), ([4, 12], [4, 12]), ([], []), ([14], [14]), ([13, 15, 13], [13, 15]), ([1, 3, 16], [1, 3, 16]), ([], []), ([18, 17, 16, 0, 1, 2, 3, 4, 5, 6, 7, 8, 9, 10, 11, 12, 13, 14, 15, 16, 17, 18], [17, 18])])
def spec_LogPut.B3 : List Nat := [0, 1, 0, 4, 0, 0, 32, 0, 0, 256, 896, 1920, 4064, 8176, 0, 16384, 65520, 131071, 0, 524287]
theorem spec_LogPut.tab3 : rtab .any (opsOf Try.f98 3) = spec_LogPut.T3 := by kernel_rfl
theorem spec_LogPut.bits3 : waitsOk spec_LogPut.T3.2 spec_LogPut.B3 = true := by kernel_rfl
set_option maxHeartbeats 8000000 in
set_option maxRecDepth 100000 in
theorem spec_LogPut.calls (k : Nat) (a0_0 : Int) (a0_1 : Int) (A0_2 : Option Addr) (c0_2 : Nat) (l0_2 : List (S135)) (a1 : Int) (a2_0 : Int) (a2_1 : Int) (a2_2 : ByteArray) (r1 : Int) (r2 : Int) (r3 : List (S135)) (r4 : Bool) (w : World) (hr0_2 : Kd.C k135 w A0_2 l0_2.length l0_2) (hc0_2 : l0_2.length ≤ c0_2) (h : spec_LogPut.f k a0_0 a0_1 l0_2 a1 a2_0 a2_1 a2_2 = some (r1, r2, r3, r4)) :
  Calls Try.prog 98 #[.agg #[.int .i64 a0_0, .int .i64 a0_1, .slice A0_2 l0_2.length c0_2], .int .i64 a1, .agg #[.int .i64 a2_0, .int .i64 a2_1, .string a2_2]] w fun e w' => ∃ v2_ : Value, e = .returned (.tuple #[.agg #[.int .i64 r1, .int .i64 r2, v2_], .bool r4]) ∧ Kd.R k135 135 w' w.heap.size (fun _ => True) v2_ r3 ∧ Below w.heap.size w w' := by
 have hu59 := Try.underlying59
 have hu135 := Try.underlying135
 have HR0_2 := Aside0.mk hr0_2
 have HC0_2 := Aside0.mk hc0_2
 clear hr0_2 hc0_2
 have HB := mk_ (Below.refl w.heap.size w)
 have H : ((spec_LogOk.f k a0_0 a0_1 l0_2).bind fun t218 => (if t218 = true then ((spec_l06Last.f a0_0 a0_1 l0_2).bind fun t219 => ((spec_l01In.f a1 (wrap64 (a0_0 + 1)) (wrap64 (t219 + 1))).bind fun t220 => (spec_LogPut.j0 k a1 (!t220) a0_0 a0_1 l0_2 a2_0 a2_1 a2_2))) else (spec_LogPut.j0 k a1 true a0_0 a0_1 l0_2 a2_0 a2_1 a2_2))) = some (r1, r2, r3, r4) := h
 clear h
 have HC4 := Aside0.mk H
 clear H
 go_enter Try.func98, Try.ntmps98
 go_upto_region 1 with (first | ((with_reducible refine gate_dst (N := 3) rfl ?_); refine bx_ (N := 3) (cs := #[.int .i64 a0_0, .int .i64 a0_1, .slice A0_2 l0_2.length c0_2]) (t := 59) ?_; intro gb215 hg w5 hbox hb; have BK215 := mk_ (hbox); have GW215 : Aside0 (w.heap.size ≤ gb215) := bz_ hg; have GE215 := GW215; replace HB := bs_ HB hb; clear hb hbox hg) | ((with_reducible refine gate_dst (N := 5) rfl ?_); refine bx_ (N := 5) (cs := #[.int .i64 a2_0, .int .i64 a2_1, .string a2_2]) (t := 135) ?_; intro gb216 hg w6 hbox hb; have BK216 := mk_ (hbox); have GW216 : Aside0 (w.heap.size ≤ gb216) := bz_ hg; have GE216 := GW216; have NB215_216 := bl_ BK215 hg; have NB216_215 := bg_ BK215 hg; replace BK215 := bb_ BK215 hb; replace HB := bs_ HB hb; clear hb hbox hg) | ((with_reducible refine gate_dst (N := 6) rfl ?_); refine bx_ (N := 6) (cs := #[.int .i64 0, .int .i64 0, .slice none 0 0]) (t := 59) ?_; intro gb217 hg w7 hbox hb; have BK217 := mk_ (hbox); have GW217 : Aside0 (w.heap.size ≤ gb217) := bz_ hg; have GE217 := GW217; have NB215_217 := bl_ BK215 hg; have NB217_215 := bg_ BK215 hg; have NB216_217 := bl_ BK216 hg; have NB217_216 := bg_ BK216 hg; replace BK215 := bb_ BK215 hb; replace BK216 := bb_ BK216 hb; replace HB := bs_ HB hb; clear hb hbox hg))
 (try simp only [Act.put, sia_, scz_, scs_])
 go_cut [22] (fun v22 wc => ∃ (kq : Nat) (x22_3 : Bool), v22 = .bool x22_3 ∧ Aside0 (spec_LogPut.j0 kq a1 x22_3 a0_0 a0_1 l0_2 a2_0 a2_1 a2_2 = some (r1, r2, r3, r4)) ∧ Aside0 (kq ≤ k) ∧ Aside0 (wc.heap[gb215]? = some (.cells #[.int .i64 a0_0, .int .i64 a0_1, (.slice A0_2 l0_2.length c0_2)] 59 (0, 0))) ∧ Aside0 (wc.heap[gb216]? = some (.cells #[.int .i64 a2_0, .int .i64 a2_1, .string a2_2] 135 (0, 0))) ∧ Aside0 (wc.heap[gb217]? = some (.cells #[.int .i64 0, .int .i64 0, (.slice none 0 0)] 59 (0, 0))) ∧ Aside0 (Below w.heap.size w wc))
 case first =>
  have H := HC4.out
  clear HC4
  replace H := Option.bind_eq_some_iff.mp H
  obtain ⟨t218, A80, H⟩ := H
  try dsimp only at H
  have A8 := Aside0.mk A80
  clear A80
  by_cases c9 : t218 = true
  rotate_left
  ·replace c9 := Bool.eq_false_iff.mpr c9
   subst c9
   rw [if_neg (show ¬ (false = true) by decide)] at H
   have H' := Aside0.mk H
   clear H
   try go_wp2
   replace BK215 := kd_ BK215; replace BK216 := kd_ BK216; replace BK217 := kd_ BK217; replace HB := wd_ HB
   refine start_ (n := 14) (S := fun w' => w'.cell? ⟨gb215, 0, none⟩ = some (.int .i64 a0_0) ∧ w'.cell? ⟨gb215, 1, none⟩ = some (.int .i64 a0_1) ∧ w'.cell? ⟨gb215, 2, none⟩ = some (.slice A0_2 l0_2.length c0_2)) (ds := []) #[false, false, false, false, false, false, false, false, false, false, false, false, false, false] (by kernel_rfl) rfl rfl ⟨bc_ BK215 0, bc_ BK215 1, bc_ BK215 2⟩ (fun hHeld => ?_); refine with_tabW spec_LogPut.tab1 spec_LogPut.bits1 (fun HT_ HW_ => ?_)
   generalize w7.drew = w15 at BK215 BK216 BK217 HB hHeld ⊢
   refine tv_ 0 9 hHeld ?_
   refine one_ (i := 1) (N := some 10) #[true, true, false, false, false, false, false, false, false, false, false, false, false, false] rfl rfl (one_of HT_.out (by kernel_rfl)) (by decide) (fun K hK => ?_)
   refine goes_ Try.func65 (by kernel_rfl) rfl #[.agg #[.int .i64 a0_0, .int .i64 a0_1, .slice A0_2 l0_2.length c0_2]] (by rfl) rfl rfl ga_ ?_
   with_reducible refine (spec_LogOk.calls k a0_0 a0_1 _ _ l0_2 false _ ?side1 ?side2 A8.out).mono ?_
   (case side1 => exact cb_ HR0_2 HB)
   (case side2 => exact HC0_2.out)
   rintro e w16 ⟨rfl, hb⟩
   refine ⟨_, rfl, ?_⟩
   replace BK215 := bb_ BK215 hb; replace BK216 := bb_ BK216 hb; replace BK217 := bb_ BK217 hb; replace HB := bs_ HB hb; (try clear hb); (try clear hb2); (try clear hk); (try clear hi)
   refine hK.out _ _ ⟨bc_ BK215 0, bc_ BK215 1, bc_ BK215 2⟩ (fun hHeld => ?_)
   clear hK K
   refine norm_ (a' := ?_) ?_ ?_
   rotate_left
   ·show Act.put _ (some 10) _ = _
    simp only [Act.put, sia_, scz_, scs_, i64_w, i32_w]
    rfl
   refine pv_ 2 11 ?_
   refine pv_ 3 12 ?_
   refine pure_ (i := 4) (N := some 13) (v := undef) (a' := ?_) #[true, true, true, true, true, false, false, false, false, false, false, false, false, false] rfl rfl (any_of HT_.out (by kernel_rfl)) (fun _ _ _ h => h) (Or.inr ⟨by rfl, rfl⟩) ?_ ?_
   rotate_left
   ·simp only [Act.put, sia_, scz_, scs_, i64_w, i32_w]
    rfl
   refine pure_ (i := 5) (N := some 14) (v := undef) (a' := ?_) #[true, true, true, true, true, true, false, false, false, false, false, false, false, false] rfl rfl (any_of HT_.out (by kernel_rfl)) (fun _ _ _ h => h) (Or.inr ⟨by rfl, rfl⟩) ?_ ?_
   rotate_left
   ·simp only [Act.put, sia_, scz_, scs_, i64_w, i32_w]
    rfl
   refine pure_ (i := 6) (N := some 15) (v := undef) (a' := ?_) #[true, true, true, true, true, true, true, false, false, false, false, false, false, false] rfl rfl (any_of HT_.out (by kernel_rfl)) (fun _ _ _ h => h) (Or.inr ⟨by rfl, rfl⟩) ?_ ?_
   rotate_left
   ·simp only [Act.put, sia_, scz_, scs_, i64_w, i32_w]
    rfl
   refine pure_ (i := 7) (N := some 16) (v := undef) (a' := ?_) #[true, true, true, true, true, true, true, true, false, false, false, false, false, false] rfl rfl (any_of HT_.out (by kernel_rfl)) (fun _ _ _ h => h) (Or.inr ⟨by rfl, rfl⟩) ?_ ?_
   rotate_left
   ·simp only [Act.put, sia_, scz_, scs_, i64_w, i32_w]
    rfl
   refine pure_ (i := 8) (N := some 17) (v := undef) (a' := ?_) #[true, true, true, true, true, true, true, true, true, false, false, false, false, false] rfl rfl (any_of HT_.out (by kernel_rfl)) (fun _ _ _ h => h) (Or.inr ⟨by rfl, rfl⟩) ?_ ?_
   rotate_left
   ·simp only [Act.put, sia_, scz_, scs_, i64_w, i32_w]
    rfl
   refine pure_ (i := 9) (N := some 18) (v := undef) (a' := ?_) #[true, true, true, true, true, true, true, true, true, true, false, false, false, false] rfl rfl (any_of HT_.out (by kernel_rfl)) (fun _ _ _ h => h) (Or.inr ⟨by rfl, rfl⟩) ?_ ?_
   rotate_left
   ·simp only [Act.put, sia_, scz_, scs_, i64_w, i32_w]
    rfl
   refine pure_ (i := 10) (N := some 19) (v := undef) (a' := ?_) #[true, true, true, true, true, true, true, true, true, true, true, false, false, false] rfl rfl (any_of HT_.out (by kernel_rfl)) (fun _ _ _ h => h) (Or.inr ⟨by rfl, rfl⟩) ?_ ?_
   rotate_left
   ·simp only [Act.put, sia_, scz_, scs_, i64_w, i32_w]
    rfl
   refine pure_ (i := 11) (N := some 20) (v := undef) (a' := ?_) #[true, true, true, true, true, true, true, true, true, true, true, true, false, false] rfl rfl (any_of HT_.out (by kernel_rfl)) (fun _ _ _ h => h) (Or.inr ⟨by rfl, rfl⟩) ?_ ?_
   rotate_left
   ·simp only [Act.put, sia_, scz_, scs_, i64_w, i32_w]
    rfl
   refine pure_ (i := 12) (N := some 21) (v := undef) (a' := ?_) #[true, true, true, true, true, true, true, true, true, true, true, true, true, false] rfl rfl (any_of HT_.out (by kernel_rfl)) (fun _ _ _ h => h) (Or.inr ⟨by rfl, rfl⟩) ?_ ?_
   rotate_left
   ·simp only [Act.put, sia_, scz_, scs_, i64_w, i32_w]
    rfl
   refine pv_ 13 22 ?_
   refine done_ (done_of HT_.out (by kernel_rfl)) ?_
   try go_wp2
   go_meet
   case rel => exact ⟨_, (true), (by first | rfl | (simp; done) | (simp [*]; done) | (simp [bne]; done)), H', ⟨by first | omega | exact Nat.le_refl _⟩, ⟨bf_⟩, ⟨bf_⟩, ⟨bf_⟩, ⟨bw_ HB⟩⟩
  subst c9
  rw [if_pos rfl] at H
  replace H := Option.bind_eq_some_iff.mp H
  obtain ⟨t219, A100, H⟩ := H
  try dsimp only at H
  have A10 := Aside0.mk A100
  clear A100
  replace H := Option.bind_eq_some_iff.mp H
  obtain ⟨t220, A110, H⟩ := H
  try dsimp only at H
  have A11 := Aside0.mk A110
  clear A110
  have H' := Aside0.mk H
  clear H
  try go_wp2
  replace BK215 := kd_ BK215; replace BK216 := kd_ BK216; replace BK217 := kd_ BK217; replace HB := wd_ HB
  refine start_ (n := 14) (S := fun w' => w'.cell? ⟨gb215, 0, none⟩ = some (.int .i64 a0_0) ∧ w'.cell? ⟨gb215, 1, none⟩ = some (.int .i64 a0_1) ∧ w'.cell? ⟨gb215, 2, none⟩ = some (.slice A0_2 l0_2.length c0_2)) (ds := []) #[false, false, false, false, false, false, false, false, false, false, false, false, false, false] (by kernel_rfl) rfl rfl ⟨bc_ BK215 0, bc_ BK215 1, bc_ BK215 2⟩ (fun hHeld => ?_); refine with_tabW spec_LogPut.tab1 spec_LogPut.bits1 (fun HT_ HW_ => ?_)
  generalize w7.drew = w12 at BK215 BK216 BK217 HB hHeld ⊢
  refine tv_ 0 9 hHeld ?_
  refine one_ (i := 1) (N := some 10) #[true, true, false, false, false, false, false, false, false, false, false, false, false, false] rfl rfl (one_of HT_.out (by kernel_rfl)) (by decide) (fun K hK => ?_)
  refine goes_ Try.func65 (by kernel_rfl) rfl #[.agg #[.int .i64 a0_0, .int .i64 a0_1, .slice A0_2 l0_2.length c0_2]] (by rfl) rfl rfl ga_ ?_
  with_reducible refine (spec_LogOk.calls k a0_0 a0_1 _ _ l0_2 true _ ?side1 ?side2 A8.out).mono ?_
  (case side1 => exact cb_ HR0_2 HB)
  (case side2 => exact HC0_2.out)
  rintro e w13 ⟨rfl, hb⟩
  refine ⟨_, rfl, ?_⟩
  replace BK215 := bb_ BK215 hb; replace BK216 := bb_ BK216 hb; replace BK217 := bb_ BK217 hb; replace HB := bs_ HB hb; (try clear hb); (try clear hb2); (try clear hk); (try clear hi)
  refine hK.out _ _ ⟨bc_ BK215 0, bc_ BK215 1, bc_ BK215 2⟩ (fun hHeld => ?_)
  clear hK K
  refine norm_ (a' := ?_) ?_ ?_
  rotate_left
  ·show Act.put _ (some 10) _ = _
   simp only [Act.put, sia_, scz_, scs_, i64_w, i32_w]
   rfl
  refine pv_ 2 11 ?_
  refine pv_ 3 12 ?_
  refine pv_ 4 13 ?_
  refine pv_ 5 14 ?_
  refine tv_ 6 15 hHeld ?_
  refine pv_ 7 16 ?_
  refine tv_ 8 17 hHeld ?_
  refine one_ (i := 9) (N := some 18) #[true, true, true, true, true, true, true, true, true, true, false, false, false, false] rfl rfl (one_of HT_.out (by kernel_rfl)) (by decide) (fun K hK => ?_)
  refine goes_ Try.func119 (by kernel_rfl) rfl #[.agg #[.int .i64 a0_0, .int .i64 a0_1, .slice A0_2 l0_2.length c0_2]] (by rfl) rfl rfl ga_ ?_
  with_reducible refine (spec_l06Last.calls a0_0 a0_1 _ _ l0_2 t219 _ ?side1 ?side2 A10.out).mono ?_
  (case side1 => exact cb_ HR0_2 HB)
  (case side2 => exact HC0_2.out)
  rintro e w14 ⟨rfl, hb⟩
  refine ⟨_, rfl, ?_⟩
  replace BK215 := bb_ BK215 hb; replace BK216 := bb_ BK216 hb; replace BK217 := bb_ BK217 hb; replace HB := bs_ HB hb; (try clear hb); (try clear hb2); (try clear hk); (try clear hi)
  refine hK.out _ _ ⟨bc_ BK215 0, bc_ BK215 1, bc_ BK215 2⟩ (fun hHeld => ?_)
  clear hK K
  refine norm_ (a' := ?_) ?_ ?_
  rotate_left
  ·show Act.put _ (some 18) _ = _
   simp only [Act.put, sia_, scz_, scs_, i64_w, i32_w]
   rfl
  refine pv_ 10 19 ?_
  refine one_ (i := 11) (N := some 20) #[true, true, true, true, true, true, true, true, true, true, true, true, false, false] rfl rfl (one_of HT_.out (by kernel_rfl)) (by decide) (fun K hK => ?_)
  refine goes_ Try.func61 (by kernel_rfl) rfl #[.int .i64 a1, .int .i64 (wrap64 (a0_0 + 1)), .int .i64 (wrap64 (t219 + 1))] (by rfl) rfl rfl ga_ ?_
  with_reducible refine (spec_l01In.calls a1 (wrap64 (a0_0 + 1)) (wrap64 (t219 + 1)) t220 _ A11.out).mono ?_
  rintro e w' ⟨rfl, ⟨nd, rfl⟩⟩
  refine ⟨_, rfl, ?_⟩
  refine hK.out _ _ ⟨bc_ BK215 0, bc_ BK215 1, bc_ BK215 2⟩ (fun hHeld => ?_)
  clear hK K
  refine norm_ (a' := ?_) ?_ ?_
  rotate_left
  ·show Act.put _ (some 20) _ = _
   simp only [Act.put, sia_, scz_, scs_, i64_w, i32_w]
   rfl
  refine pv_ 12 21 ?_
  refine pv_ 13 22 ?_
  refine done_ (done_of HT_.out (by kernel_rfl)) ?_
  try go_wp2
  go_meet
  case rel => exact ⟨_, (!t220), (by first | rfl | (simp; done) | (simp [*]; done) | (simp [bne]; done)), H', ⟨by first | omega | exact Nat.le_refl _⟩, ⟨bf_⟩, ⟨bf_⟩, ⟨bf_⟩, ⟨bw_ HB⟩⟩
 case rest =>
  clear HC4
  (try clear c1); (try clear p2); (try clear c6); (try clear p6); (try clear c9); (try clear c11)
  obtain ⟨kq, x22_3, rfl, HA, HJ3, BK215, BK216, BK217, HB⟩ := hcut
  cases kq with
  | zero => exact absurd HA.out (by simp [spec_LogPut.j0])
  | succ kj3 =>
   have H := HA.out
   clear HA
   simp only [spec_LogPut.j0] at H
   by_cases c17 : x22_3 = true
   ·subst c17
    rw [if_pos rfl] at H
    simp only [Option.some.injEq, Prod.mk.injEq] at H
    obtain ⟨rfl, rfl, rfl, rfl⟩ := H
    obtain ⟨hnb18, hnc18⟩ := ns_ NB217_215
    obtain ⟨hnb19, hnc19⟩ := ns_ NB217_216
    have hcz20_0 : wc.cell? ⟨gb217, 0, none⟩ = some (.int .i64 0) := bc_ BK217 0
    have hcz20_1 : wc.cell? ⟨gb217, 1, none⟩ = some (.int .i64 0) := bc_ BK217 1
    have hcz20_2 : wc.cell? ⟨gb217, 2, none⟩ = some (.slice none 0 0) := bc_ BK217 2
    have hfz20_0 := blk_frozen BK217.out 0
    have hfz20_1 := blk_frozen BK217.out 1
    have hfz20_2 := blk_frozen BK217.out 2
    go_wp2
    refine bodyPost_ret (results_ct rfl _ _ gb217 59 #[.int .i64 0, .int .i64 0, .slice none 0 0] (0, 0) _ rfl bu_ Try.underlying59 rfl (by kernel_rfl)) rfl ?_
    exact ⟨_, er_, by first | exact Kd.R_nil _ _ _ _ _ | exact Kd.N_nil _ _ _ _ _ | exact Kd.V_nil _ _ _ _ _ | exact Kd.Q_nil _ _ _ _ _ | exact Kd.S_nil _ _ _ _ _, bw_ HB⟩
   replace c17 := Bool.eq_false_iff.mpr c17
   subst c17
   rw [if_neg (show ¬ (false = true) by decide)] at H
   obtain ⟨y221, hy221⟩ : ∃ y_ : List (S135), y_ = (([] : List (S135))) := ⟨_, rfl⟩
   replace H : (if 0 ≤ (wrap64 ((wrap64 (a1 - a0_0)) - 1)) then (if (wrap64 ((wrap64 (a1 - a0_0)) - 1)) ≤ (l0_2.length : Int) then ((some (l0_2.take ((wrap64 ((wrap64 (a1 - a0_0)) - 1)) : Int).toNat : List (S135))).bind fun y224 => (if y221.length + y224.length < 4398046511104 then ((some (y221 ++ y224 : List (S135))).bind fun y228 => ((some (([(⟨a2_0, a2_1, a2_2⟩ : S135)] : List (S135)) : List (S135))).bind fun y231 => (if y228.length + y231.length < 4398046511104 then ((some (y228 ++ y231 : List (S135))).bind fun y234 => ((spec_LogOk.f kj3 a0_0 a0_1 y234).bind fun t238 => (if t238 = true then (some (a0_0, a0_1, y234, true)) else (some (0, 0, ([] : List (S135)), false))))) else (none)))) else (none))) else (none)) else (none)) = some (r1, r2, r3, r4) := by first | (rw [hy221]; with_reducible exact H) | (have H2_ := (Option.bind_some _ _).symm.trans H; rw [hy221]; with_reducible exact H2_) | (have H2_ := (Option.bind_some _ _).symm.trans H; with_reducible exact H2_) | with_reducible exact H | (rw [hy221]; exact H) | exact H
   have Ny221 := Aside0.mk hy221
   clear hy221
   obtain ⟨ji21, hji21⟩ : ∃ j_ : Int, (wrap64 ((wrap64 (a1 - a0_0)) - 1)) = j_ := ⟨_, rfl⟩
   replace H : (if 0 ≤ (ji21) then (if (ji21) ≤ (l0_2.length : Int) then ((some (l0_2.take ((ji21) : Int).toNat : List (S135))).bind fun y224 => (if y221.length + y224.length < 4398046511104 then ((some (y221 ++ y224 : List (S135))).bind fun y228 => ((some (([(⟨a2_0, a2_1, a2_2⟩ : S135)] : List (S135)) : List (S135))).bind fun y231 => (if y228.length + y231.length < 4398046511104 then ((some (y228 ++ y231 : List (S135))).bind fun y234 => ((spec_LogOk.f kj3 a0_0 a0_1 y234).bind fun t238 => (if t238 = true then (some (a0_0, a0_1, y234, true)) else (some (0, 0, ([] : List (S135)), false))))) else (none)))) else (none))) else (none)) else (none)) = some (r1, r2, r3, r4) := by first | (rw [hji21] at H; exact H) | (simp only [hji21] at H ⊢; exact H)
   have hji21w : (IntKind.i64.wrap ((wrap64 (a1 - a0_0)) - 1)) = ji21 := (i64_w _).trans hji21
   by_cases c22 : 0 ≤ (ji21)
   rotate_left
   ·rw [if_neg c22] at H
    exact absurd H (by simp)
   rw [if_pos c22] at H
   have c22b0 := eq_true c22
   have c22b1 : decide (0 ≤ (ji21)) = true := decide_eq_true c22
   clear c22
   by_cases c23 : (ji21) ≤ (l0_2.length : Int)
   rotate_left
   ·rw [if_neg c23] at H
    exact absurd H (by simp)
   rw [if_pos c23] at H
   have c23b0 := eq_true c23
   have c23b1 : decide ((ji21) ≤ (l0_2.length : Int)) = true := decide_eq_true c23
   clear c23
   obtain ⟨y224, hy224⟩ : ∃ y_ : List (S135), y_ = (l0_2.take ((ji21) : Int).toNat) := ⟨_, rfl⟩
   replace H : (if y221.length + y224.length < 4398046511104 then ((some (y221 ++ y224 : List (S135))).bind fun y228 => ((some (([(⟨a2_0, a2_1, a2_2⟩ : S135)] : List (S135)) : List (S135))).bind fun y231 => (if y228.length + y231.length < 4398046511104 then ((some (y228 ++ y231 : List (S135))).bind fun y234 => ((spec_LogOk.f kj3 a0_0 a0_1 y234).bind fun t238 => (if t238 = true then (some (a0_0, a0_1, y234, true)) else (some (0, 0, ([] : List (S135)), false))))) else (none)))) else (none)) = some (r1, r2, r3, r4) := by first | (rw [hy224]; with_reducible exact H) | (have H2_ := (Option.bind_some _ _).symm.trans H; rw [hy224]; with_reducible exact H2_) | (have H2_ := (Option.bind_some _ _).symm.trans H; with_reducible exact H2_) | with_reducible exact H | (rw [hy224]; exact H) | exact H
   have Ny224 := Aside0.mk hy224
   clear hy224
   by_cases c24 : y221.length + y224.length < 4398046511104
   rotate_left
   ·rw [if_neg c24] at H
    exact absurd H (by simp)
   rw [if_pos c24] at H
   have LMc24 := Aside0.mk c24
   clear c24
   obtain ⟨y228, hy228⟩ : ∃ y_ : List (S135), y_ = (y221 ++ y224) := ⟨_, rfl⟩
   replace H : ((some (([(⟨a2_0, a2_1, a2_2⟩ : S135)] : List (S135)) : List (S135))).bind fun y231 => (if y228.length + y231.length < 4398046511104 then ((some (y228 ++ y231 : List (S135))).bind fun y234 => ((spec_LogOk.f kj3 a0_0 a0_1 y234).bind fun t238 => (if t238 = true then (some (a0_0, a0_1, y234, true)) else (some (0, 0, ([] : List (S135)), false))))) else (none))) = some (r1, r2, r3, r4) := by first | (rw [hy228]; with_reducible exact H) | (have H2_ := (Option.bind_some _ _).symm.trans H; rw [hy228]; with_reducible exact H2_) | (have H2_ := (Option.bind_some _ _).symm.trans H; with_reducible exact H2_) | with_reducible exact H | (rw [hy228]; exact H) | exact H
   have Ny228 := Aside0.mk hy228
   clear hy228
   obtain ⟨y231, hy231⟩ : ∃ y_ : List (S135), y_ = (([(⟨a2_0, a2_1, a2_2⟩ : S135)] : List (S135))) := ⟨_, rfl⟩
   replace H : (if y228.length + y231.length < 4398046511104 then ((some (y228 ++ y231 : List (S135))).bind fun y234 => ((spec_LogOk.f kj3 a0_0 a0_1 y234).bind fun t238 => (if t238 = true then (some (a0_0, a0_1, y234, true)) else (some (0, 0, ([] : List (S135)), false))))) else (none)) = some (r1, r2, r3, r4) := by first | (rw [hy231]; with_reducible exact H) | (have H2_ := (Option.bind_some _ _).symm.trans H; rw [hy231]; with_reducible exact H2_) | (have H2_ := (Option.bind_some _ _).symm.trans H; with_reducible exact H2_) | with_reducible exact H | (rw [hy231]; exact H) | exact H
   have Ny231 := Aside0.mk hy231
   clear hy231
   by_cases c25 : y228.length + y231.length < 4398046511104
   rotate_left
   ·rw [if_neg c25] at H
    exact absurd H (by simp)
   rw [if_pos c25] at H
   have LMc25 := Aside0.mk c25
   clear c25
   obtain ⟨y234, hy234⟩ : ∃ y_ : List (S135), y_ = (y228 ++ y231) := ⟨_, rfl⟩
   replace H : ((spec_LogOk.f kj3 a0_0 a0_1 y234).bind fun t238 => (if t238 = true then (some (a0_0, a0_1, y234, true)) else (some (0, 0, ([] : List (S135)), false)))) = some (r1, r2, r3, r4) := by first | (rw [hy234]; with_reducible exact H) | (have H2_ := (Option.bind_some _ _).symm.trans H; rw [hy234]; with_reducible exact H2_) | (have H2_ := (Option.bind_some _ _).symm.trans H; with_reducible exact H2_) | with_reducible exact H | (rw [hy234]; exact H) | exact H
   have Ny234 := Aside0.mk hy234
   clear hy234
   replace H := Option.bind_eq_some_iff.mp H
   obtain ⟨t238, A260, H⟩ := H
   try dsimp only at H
   have A26 := Aside0.mk A260
   clear A260
   by_cases c27 : t238 = true
   ·subst c27
    rw [if_pos rfl] at H
    simp only [Option.some.injEq, Prod.mk.injEq] at H
    obtain ⟨rfl, rfl, rfl, rfl⟩ := H
    try go_wp2
    replace BK215 := kd_ BK215; replace BK216 := kd_ BK216; replace BK217 := kd_ BK217; replace HB := wd_ HB
    have q29 : ((ji21) : Int) ≤ ((l0_2.length : Int) : Int) := od_
    obtain ⟨i029, hi029, _, hsz29, _⟩ := info_parts info135
    have hroom29 : l0_2.length ≤ c0_2 := HC0_2.out
    have hC29 : Kd.C k135 _ A0_2 l0_2.length l0_2 := HR0_2.out
    have hcut29 := cut_to (P := Try.prog) 57 135 .i64 Try.underlying57 hi029 A0_2 l0_2.length c0_2 (ji21) (od_) q29 hroom29
    have hr29 := Kd.C_take (m := ((ji21) : Int).toNat) hC29 (by omega)
    have hy29 : y224.length = ((ji21) : Int).toNat := (by rw [Ny224.out, List.length_take]; omega)
    rw [← Ny224.out] at hr29
    rw [← hy29] at hcut29
    have HR227 := Aside0.mk hr29
    have HC227 := mk_ (show y224.length ≤ c0_2 from by omega)
    clear hr29 hC29 hroom29 hi029 hsz29
    have KY29 := Aside0.mk hy29
    clear hy29
    replace q29 := eq_true q29
    refine start_ (n := 20) (S := fun w' => w'.cell? ⟨gb215, 0, none⟩ = some (.int .i64 a0_0) ∧ w'.cell? ⟨gb215, 1, none⟩ = some (.int .i64 a0_1) ∧ w'.cell? ⟨gb215, 2, none⟩ = some (.slice A0_2 l0_2.length c0_2) ∧ w'.cell? ⟨gb216, 0, none⟩ = some (.int .i64 a2_0) ∧ w'.cell? ⟨gb216, 1, none⟩ = some (.int .i64 a2_1) ∧ w'.cell? ⟨gb216, 2, none⟩ = some (.string a2_2)) (ds := []) #[false, false, false, false, false, false, false, false, false, false, false, false, false, false, false, false, false, false, false, false] (by kernel_rfl) rfl rfl ⟨bc_ BK215 0, bc_ BK215 1, bc_ BK215 2, bc_ BK216 0, bc_ BK216 1, bc_ BK216 2⟩ (fun hHeld => ?_); refine with_tabW spec_LogPut.tab3 spec_LogPut.bits3 (fun HT_ HW_ => ?_)
    generalize wc.drew = w28 at BK215 BK216 BK217 HB HR227 hHeld ⊢
    refine pv_ 0 24 ?_
    refine pv_ 2 26 ?_
    refine pv_ 5 29 ?_
    refine pv_ 7 31 ?_
    refine pv_ 8 32 ?_
    refine tv_ 1 25 hHeld ?_
    refine tv_ 3 27 hHeld ?_
    refine tv_ 6 30 hHeld ?_
    refine tv_ 9 33 hHeld ?_
    refine pv_ 10 34 ?_
    refine pv_ 11 35 ?_
    refine pv_ 12 36 ?_
    refine tv_ 14 38 hHeld ?_
    refine join_ (σ := Value × Value × Value × Value × Nat) 1 #[true, true, true, true, true, true, true, true, true, true, true, true, true, true, true, true, true, true, true, false] (fun s_ => [(28, s_.1), (37, s_.2.1), (39, s_.2.2.1), (40, s_.2.2.2.1), (8, .pointer (some ⟨s_.2.2.2.2, 0, none⟩)), (41, .agg #[.int .i64 a0_0, .int .i64 a0_1, s_.2.2.2.1])]) (fun s_ w' => (w'.cell? ⟨gb215, 0, none⟩ = some (.int .i64 a0_0) ∧ w'.cell? ⟨gb215, 1, none⟩ = some (.int .i64 a0_1) ∧ w'.cell? ⟨gb215, 2, none⟩ = some (.slice A0_2 l0_2.length c0_2) ∧ w'.cell? ⟨gb216, 0, none⟩ = some (.int .i64 a2_0) ∧ w'.cell? ⟨gb216, 1, none⟩ = some (.int .i64 a2_1) ∧ w'.cell? ⟨gb216, 2, none⟩ = some (.string a2_2)) ∧ (Kd.R k135 135 w' w.heap.size (fun k_ => some k_ ≠ (s_.2.2.2.1 : Value).ownBlock ∧ k_ ≠ gb216) s_.2.2.1 y231) ∧ (Kd.R k135 135 w' w.heap.size (fun k_ => some k_ ≠ (s_.2.2.1 : Value).ownBlock ∧ k_ ≠ gb216) s_.2.2.2.1 y234) ∧ (w'.heap[gb215]? = some (.cells #[.int .i64 a0_0, .int .i64 a0_1, .slice A0_2 l0_2.length c0_2] 59 (0, 0))) ∧ (w'.heap[gb216]? = some (.cells #[.int .i64 a2_0, .int .i64 a2_1, .string a2_2] 135 (0, 0))) ∧ (w'.heap[gb217]? = some (.cells #[.int .i64 0, .int .i64 0, .slice none 0 0] 59 (0, 0))) ∧ (w'.heap[s_.2.2.2.2]? = some (.cells #[.int .i64 0, .int .i64 0, .slice none 0 0] 59 (0, 0))) ∧ (w.heap.size ≤ s_.2.2.2.2) ∧ (w.heap.size ≤ s_.2.2.2.2) ∧ (gb215 ≠ s_.2.2.2.2) ∧ (s_.2.2.2.2 ≠ gb215) ∧ (gb216 ≠ s_.2.2.2.2) ∧ (s_.2.2.2.2 ≠ gb216) ∧ (gb217 ≠ s_.2.2.2.2) ∧ (s_.2.2.2.2 ≠ gb217) ∧ (Below w.heap.size w w')) ?_ ?_
    rotate_left
    ·intro hJ4_13_15_16_18
     refine join_ (σ := Value × Value × Value × Value) 2 #[true, true, true, true, true, true, true, true, true, true, true, true, true, true, true, true, true, true, false, false] (fun s_ => [(28, s_.1), (37, s_.2.1), (39, s_.2.2.1), (40, s_.2.2.2), (41, .agg #[.int .i64 a0_0, .int .i64 a0_1, s_.2.2.2])]) (fun s_ w' => (w'.cell? ⟨gb215, 0, none⟩ = some (.int .i64 a0_0) ∧ w'.cell? ⟨gb215, 1, none⟩ = some (.int .i64 a0_1) ∧ w'.cell? ⟨gb215, 2, none⟩ = some (.slice A0_2 l0_2.length c0_2) ∧ w'.cell? ⟨gb216, 0, none⟩ = some (.int .i64 a2_0) ∧ w'.cell? ⟨gb216, 1, none⟩ = some (.int .i64 a2_1) ∧ w'.cell? ⟨gb216, 2, none⟩ = some (.string a2_2)) ∧ (Kd.R k135 135 w' w.heap.size (fun k_ => some k_ ≠ (s_.2.2.2 : Value).ownBlock ∧ k_ ≠ gb216) s_.2.2.1 y231) ∧ (Kd.R k135 135 w' w.heap.size (fun k_ => some k_ ≠ (s_.2.2.1 : Value).ownBlock ∧ k_ ≠ gb216) s_.2.2.2 y234) ∧ (w'.heap[gb215]? = some (.cells #[.int .i64 a0_0, .int .i64 a0_1, .slice A0_2 l0_2.length c0_2] 59 (0, 0))) ∧ (w'.heap[gb216]? = some (.cells #[.int .i64 a2_0, .int .i64 a2_1, .string a2_2] 135 (0, 0))) ∧ (w'.heap[gb217]? = some (.cells #[.int .i64 0, .int .i64 0, .slice none 0 0] 59 (0, 0))) ∧ (Below w.heap.size w w')) ?_ ?_
     rotate_left
     rotate_left
     ·skip
      rintro ⟨v222, v229, v232, v235⟩ w38 ⟨hS_, h0_, h1_, h2_, h3_, h4_, h5_⟩
      have n0_ : Aside0 (Kd.R k135 135 w38 w.heap.size (fun k_ => some k_ ≠ (v235 : Value).ownBlock ∧ k_ ≠ gb216) v232 y231) := ⟨h0_⟩
      have n1_ : Aside0 (Kd.R k135 135 w38 w.heap.size (fun k_ => some k_ ≠ (v232 : Value).ownBlock ∧ k_ ≠ gb216) v235 y234) := ⟨h1_⟩
      have n2_ : Aside0 (w38.heap[gb215]? = some (.cells #[.int .i64 a0_0, .int .i64 a0_1, .slice A0_2 l0_2.length c0_2] 59 (0, 0))) := ⟨h2_⟩
      have n3_ : Aside0 (w38.heap[gb216]? = some (.cells #[.int .i64 a2_0, .int .i64 a2_1, .string a2_2] 135 (0, 0))) := ⟨h3_⟩
      have n4_ : Aside0 (w38.heap[gb217]? = some (.cells #[.int .i64 0, .int .i64 0, .slice none 0 0] 59 (0, 0))) := ⟨h4_⟩
      have n5_ : Aside0 (Below w.heap.size w w38) := ⟨h5_⟩
      clear BK215; clear BK216; clear BK217; clear HB; clear h0_ h1_ h2_ h3_ h4_ h5_; have HO233 := n0_; have HO236 := n1_; have BK215 := n2_; have BK216 := n3_; have BK217 := n4_; have HB := n5_; clear n0_ n1_ n2_ n3_ n4_ n5_
      have hHeld : w38.cell? ⟨gb215, 0, none⟩ = some (.int .i64 a0_0) ∧ w38.cell? ⟨gb215, 1, none⟩ = some (.int .i64 a0_1) ∧ w38.cell? ⟨gb215, 2, none⟩ = some (.slice A0_2 l0_2.length c0_2) ∧ w38.cell? ⟨gb216, 0, none⟩ = some (.int .i64 a2_0) ∧ w38.cell? ⟨gb216, 1, none⟩ = some (.int .i64 a2_1) ∧ w38.cell? ⟨gb216, 2, none⟩ = some (.string a2_2) := hS_
      obtain ⟨Ao39, co39, eo39⟩ := Kd.R_slice HO236.out
      (first | subst eo39 | (injection eo39 with f1_ f2_ f3_; have f4_ := f1_.symm; have f5_ := f3_.symm; clear f1_ f2_ f3_; subst f4_; subst f5_))
      refine norm_ (a' := ?_) ?_ ?_
      rotate_left
      ·simp only [putAll, Act.put, sia_, scz_, scs_]
       rfl
      refine one_ (i := 18) (N := some 8) #[true, true, true, true, true, true, true, true, true, true, true, true, true, true, true, true, true, true, true, false] rfl rfl (one_of HT_.out (by kernel_rfl)) (by decide) (fun K hK => ?_)
      refine box_step ?hg (N := 8) ?hd (cs := #[.int .i64 0, .int .i64 0, .slice none 0 0]) (t := 59) ?hr ?_; (case hd => rfl); (case hg => rfl); (case hr => first | (go_simp; done) | (go_simp; rfl))
      intro gb237 hg w40 hbox hb
      have n6_ := mk_ (hbox)
      have n7_ : Aside0 (w.heap.size ≤ gb237) := bz_ hg
      have n8_ : Aside0 (w.heap.size ≤ gb237) := bz_ hg
      have n9_ : Aside0 (gb215 ≠ gb237) := bl_ BK215 hg
      have n10_ : Aside0 (gb237 ≠ gb215) := bg_ BK215 hg
      have n11_ : Aside0 (gb216 ≠ gb237) := bl_ BK216 hg
      have n12_ : Aside0 (gb237 ≠ gb216) := bg_ BK216 hg
      have n13_ : Aside0 (gb217 ≠ gb237) := bl_ BK217 hg
      have n14_ : Aside0 (gb237 ≠ gb217) := bg_ BK217 hg
      have BK237 := n6_; have GW237 := n7_; have GE237 := n8_; have NB215_237 := n9_; have NB237_215 := n10_; have NB216_237 := n11_; have NB237_216 := n12_; have NB217_237 := n13_; have NB237_217 := n14_; clear n6_ n7_ n8_ n9_ n10_ n11_ n12_ n13_ n14_; replace HO233 := rb_ HO233 hb; replace HO236 := rb_ HO236 hb; replace BK215 := bb_ BK215 hb; replace BK216 := bb_ BK216 hb; replace BK217 := bb_ BK217 hb; replace HB := bs_ HB hb; clear hb hbox hg
      refine hK.out _ _ ⟨bc_ BK215 0, bc_ BK215 1, bc_ BK215 2, bc_ BK216 0, bc_ BK216 1, bc_ BK216 2⟩ (fun hHeld => ?_)
      clear hK K
      refine norm_ (a' := ?_) ?_ ?_
      rotate_left
      ·show Act.put _ (some 8) _ = _
       simp only [Act.put, sia_, scz_, scs_, i64_w, i32_w]
       rfl
      exact norm_ (by first | (simp only [putAll, Act.put, sia_, scz_, scs_]; done) | (simp only [putAll, Act.put, sia_, scz_, scs_]; rfl)) (hJ4_13_15_16_18 (v222, v229, v232, .slice Ao39 y234.length co39, gb237) _ ⟨hHeld, (rp_ HO233), (rp_ HO236), (bp_ BK215), (bp_ BK216), (bp_ BK217), (bp_ BK237), GW237.out, GE237.out, NB215_237.out, NB237_215.out, NB216_237.out, NB237_216.out, NB217_237.out, NB237_217.out, (bw_ HB)⟩)
     intro hJ4_13_15_16
     refine join_ (σ := Value × Value × Value × Nat) 3 #[true, true, true, true, true, true, true, true, true, true, true, true, true, true, true, true, false, false, true, false] (fun s_ => [(28, s_.1), (37, s_.2.1), (39, s_.2.2.1), (8, .pointer (some ⟨s_.2.2.2, 0, none⟩))]) (fun s_ w' => (w'.cell? ⟨gb215, 0, none⟩ = some (.int .i64 a0_0) ∧ w'.cell? ⟨gb215, 1, none⟩ = some (.int .i64 a0_1) ∧ w'.cell? ⟨gb215, 2, none⟩ = some (.slice A0_2 l0_2.length c0_2) ∧ w'.cell? ⟨gb216, 0, none⟩ = some (.int .i64 a2_0) ∧ w'.cell? ⟨gb216, 1, none⟩ = some (.int .i64 a2_1) ∧ w'.cell? ⟨gb216, 2, none⟩ = some (.string a2_2)) ∧ (Kd.R k135 135 w' w.heap.size (fun k_ => some k_ ≠ (s_.2.2.1 : Value).ownBlock ∧ k_ ≠ gb216) s_.2.1 y228) ∧ (Kd.R k135 135 w' w.heap.size (fun k_ => some k_ ≠ (s_.2.1 : Value).ownBlock ∧ k_ ≠ gb216) s_.2.2.1 y231) ∧ (w'.heap[gb215]? = some (.cells #[.int .i64 a0_0, .int .i64 a0_1, .slice A0_2 l0_2.length c0_2] 59 (0, 0))) ∧ (w'.heap[gb216]? = some (.cells #[.int .i64 a2_0, .int .i64 a2_1, .string a2_2] 135 (0, 0))) ∧ (w'.heap[gb217]? = some (.cells #[.int .i64 0, .int .i64 0, .slice none 0 0] 59 (0, 0))) ∧ (w'.heap[s_.2.2.2]? = some (.cells #[.int .i64 0, .int .i64 0, .slice none 0 0] 59 (0, 0))) ∧ (w.heap.size ≤ s_.2.2.2) ∧ (w.heap.size ≤ s_.2.2.2) ∧ (gb215 ≠ s_.2.2.2) ∧ (s_.2.2.2 ≠ gb215) ∧ (gb216 ≠ s_.2.2.2) ∧ (s_.2.2.2 ≠ gb216) ∧ (gb217 ≠ s_.2.2.2) ∧ (s_.2.2.2 ≠ gb217) ∧ (Below w.heap.size w w')) ?_ ?_
     rotate_left
     rotate_left
     ·skip
      rintro ⟨v222, v229, v232, gb237⟩ w36 ⟨hS_, h0_, h1_, h2_, h3_, h4_, h5_, h6_, h7_, h8_, h9_, h10_, h11_, h12_, h13_, h14_⟩
      have n0_ : Aside0 (Kd.R k135 135 w36 w.heap.size (fun k_ => some k_ ≠ (v232 : Value).ownBlock ∧ k_ ≠ gb216) v229 y228) := ⟨h0_⟩
      have n1_ : Aside0 (Kd.R k135 135 w36 w.heap.size (fun k_ => some k_ ≠ (v229 : Value).ownBlock ∧ k_ ≠ gb216) v232 y231) := ⟨h1_⟩
      have n2_ : Aside0 (w36.heap[gb215]? = some (.cells #[.int .i64 a0_0, .int .i64 a0_1, .slice A0_2 l0_2.length c0_2] 59 (0, 0))) := ⟨h2_⟩
      have n3_ : Aside0 (w36.heap[gb216]? = some (.cells #[.int .i64 a2_0, .int .i64 a2_1, .string a2_2] 135 (0, 0))) := ⟨h3_⟩
      have n4_ : Aside0 (w36.heap[gb217]? = some (.cells #[.int .i64 0, .int .i64 0, .slice none 0 0] 59 (0, 0))) := ⟨h4_⟩
      have n5_ : Aside0 (w36.heap[gb237]? = some (.cells #[.int .i64 0, .int .i64 0, .slice none 0 0] 59 (0, 0))) := ⟨h5_⟩
      have n6_ : Aside0 (w.heap.size ≤ gb237) := ⟨h6_⟩
      have n7_ : Aside0 (w.heap.size ≤ gb237) := ⟨h7_⟩
      have n8_ : Aside0 (gb215 ≠ gb237) := ⟨h8_⟩
      have n9_ : Aside0 (gb237 ≠ gb215) := ⟨h9_⟩
      have n10_ : Aside0 (gb216 ≠ gb237) := ⟨h10_⟩
      have n11_ : Aside0 (gb237 ≠ gb216) := ⟨h11_⟩
      have n12_ : Aside0 (gb217 ≠ gb237) := ⟨h12_⟩
      have n13_ : Aside0 (gb237 ≠ gb217) := ⟨h13_⟩
      have n14_ : Aside0 (Below w.heap.size w w36) := ⟨h14_⟩
      clear BK215; clear BK216; clear BK217; clear HB; clear h0_ h1_ h2_ h3_ h4_ h5_ h6_ h7_ h8_ h9_ h10_ h11_ h12_ h13_ h14_; have HO230 := n0_; have HO233 := n1_; have BK215 := n2_; have BK216 := n3_; have BK217 := n4_; have BK237 := n5_; have GW237 := n6_; have GE237 := n7_; have NB215_237 := n8_; have NB237_215 := n9_; have NB216_237 := n10_; have NB237_216 := n11_; have NB217_237 := n12_; have NB237_217 := n13_; have HB := n14_; clear n0_ n1_ n2_ n3_ n4_ n5_ n6_ n7_ n8_ n9_ n10_ n11_ n12_ n13_ n14_
      have hHeld : w36.cell? ⟨gb215, 0, none⟩ = some (.int .i64 a0_0) ∧ w36.cell? ⟨gb215, 1, none⟩ = some (.int .i64 a0_1) ∧ w36.cell? ⟨gb215, 2, none⟩ = some (.slice A0_2 l0_2.length c0_2) ∧ w36.cell? ⟨gb216, 0, none⟩ = some (.int .i64 a2_0) ∧ w36.cell? ⟨gb216, 1, none⟩ = some (.int .i64 a2_1) ∧ w36.cell? ⟨gb216, 2, none⟩ = some (.string a2_2) := hS_
      obtain ⟨Ao38, co38, eo38⟩ := Kd.R_slice HO233.out
      (first | subst eo38 | (injection eo38 with f1_ f2_ f3_; have f4_ := f1_.symm; have f5_ := f3_.symm; clear f1_ f2_ f3_; subst f4_; subst f5_))
      refine norm_ (a' := ?_) ?_ ?_
      rotate_left
      ·simp only [putAll, Act.put, sia_, scz_, scs_]
       rfl
      refine one_ (i := 16) (N := some 40) #[true, true, true, true, true, true, true, true, true, true, true, true, true, true, true, true, true, false, true, false] rfl rfl (one_of HT_.out (by kernel_rfl)) (by decide) (fun K hK => ?_)
      refine Kd.R_append_rows_step k135 (w0 := w) w.heap.size (by rfl) (.tmp 37) (.tmp 39) 57 135 (.agg #[(.int .i64 0), (.int .i64 0), (.string ⟨#[]⟩)]) 32 rfl Try.underlying57 info135 rfl (by decide) (by omega) v229 y228 y231 _ _ _ (fun k_ => some k_ ≠ (.slice Ao38 y231.length co38 : Value).ownBlock ∧ k_ ≠ gb216) (fun _ => False) rfl rfl ?aO ?aR (fun _ _ h => h) (fun _ h => h.elim) ?aF ?aB ?aS ?aL ?_
      (case aR => exact cr_ HO233)
      (case aB => exact (bw_ HB))
      (case aF => exact (fun k_ hk => ⟨Kd.fresh' (Kd.R_lt (rp_ HO233)) k_ hk, Kd.freshB (g := gb216) (o := .cells #[.int .i64 a2_0, .int .i64 a2_1, .string a2_2] 135 (0, 0)) (bp_ BK216) k_ hk⟩))
      (case aO => exact (rp_ HO230))
      (case aS => exact (below_size (bw_ HB)))
      (case aL => have := LMc25.out; omega)
      intro v235 w37 ho hb hg hat
      rw [← Ny234.out] at ho
      have n0_ := mk_ (blk_grown (g := gb215) (o := .cells #[.int .i64 a0_0, .int .i64 a0_1, .slice A0_2 l0_2.length c0_2] 59 (0, 0)) (bp_ BK215) hg (Kd.R_ne HO230.out BK215.out (by decide)))
      have n1_ := mk_ (blk_grown (g := gb216) (o := .cells #[.int .i64 a2_0, .int .i64 a2_1, .string a2_2] 135 (0, 0)) (bp_ BK216) hg (Kd.R_away HO230.out (fun _ hk => hk.2)))
      have n2_ := mk_ (blk_grown (g := gb217) (o := .cells #[.int .i64 0, .int .i64 0, .slice none 0 0] 59 (0, 0)) (bp_ BK217) hg (Kd.R_ne HO230.out BK217.out (by decide)))
      have n3_ := mk_ (Kd.R_after (ok := (fun k_ => k_ ≠ gb216)) (rq_ (Kd.R_mono HO233.out (fun _ hk => ⟨hk.2, hk.1⟩))) hg hat)
      have n4_ := mk_ (blk_grown (g := gb237) (o := .cells #[.int .i64 0, .int .i64 0, .slice none 0 0] 59 (0, 0)) (bp_ BK237) hg (Kd.R_ne HO230.out BK237.out (by decide)))
      have n5_ := mk_ (hb)
      have n6_ := mk_ (ho)
      clear BK215; clear BK216; clear BK217; clear HO233; clear BK237; clear HB; clear HO230; have BK215 := n0_; have BK216 := n1_; have BK217 := n2_; have HO233 := n3_; have BK237 := n4_; have HB := n5_; have HO236 := n6_; clear n0_ n1_ n2_ n3_ n4_ n5_ n6_; clear ho hb hg hat
      obtain ⟨Ao39, co39, eo39⟩ := Kd.R_slice HO236.out
      (first | subst eo39 | (injection eo39 with f1_ f2_ f3_; have f4_ := f1_.symm; have f5_ := f3_.symm; clear f1_ f2_ f3_; subst f4_; subst f5_))
      refine hK.out _ _ ⟨bc_ BK215 0, bc_ BK215 1, bc_ BK215 2, bc_ BK216 0, bc_ BK216 1, bc_ BK216 2⟩ (fun hHeld => ?_)
      clear hK K
      refine norm_ (a' := ?_) ?_ ?_
      rotate_left
      ·show Act.put _ (some 40) _ = _
       simp only [Act.put, sia_, scz_, scs_, i64_w, i32_w]
       rfl
      refine pv_ 17 41 ?_
      exact norm_ (by first | (simp only [putAll, Act.put, sia_, scz_, scs_]; done) | (simp only [putAll, Act.put, sia_, scz_, scs_]; rfl)) (hJ4_13_15_16_18 (v222, v229, .slice Ao38 y231.length co38, .slice Ao39 y234.length co39, gb237) _ ⟨hHeld, (rq_ (Kd.R_mono HO233.out (fun _ hk => ⟨hk.2, hk.1⟩))), (rp_ HO236), (bp_ BK215), (bp_ BK216), (bp_ BK217), (bp_ BK237), GW237.out, GE237.out, NB215_237.out, NB237_215.out, NB216_237.out, NB237_216.out, NB217_237.out, NB237_217.out, (bw_ HB)⟩)
     intro hJ4_13_15_18
     refine join_ (σ := Value × Value × Value) 4 #[true, true, true, true, true, true, true, true, true, true, true, true, true, true, true, true, false, false, false, false] (fun s_ => [(28, s_.1), (37, s_.2.1), (39, s_.2.2)]) (fun s_ w' => (w'.cell? ⟨gb215, 0, none⟩ = some (.int .i64 a0_0) ∧ w'.cell? ⟨gb215, 1, none⟩ = some (.int .i64 a0_1) ∧ w'.cell? ⟨gb215, 2, none⟩ = some (.slice A0_2 l0_2.length c0_2) ∧ w'.cell? ⟨gb216, 0, none⟩ = some (.int .i64 a2_0) ∧ w'.cell? ⟨gb216, 1, none⟩ = some (.int .i64 a2_1) ∧ w'.cell? ⟨gb216, 2, none⟩ = some (.string a2_2)) ∧ (Kd.R k135 135 w' w.heap.size (fun k_ => some k_ ≠ (s_.2.2 : Value).ownBlock ∧ k_ ≠ gb216) s_.2.1 y228) ∧ (Kd.R k135 135 w' w.heap.size (fun k_ => some k_ ≠ (s_.2.1 : Value).ownBlock ∧ k_ ≠ gb216) s_.2.2 y231) ∧ (w'.heap[gb215]? = some (.cells #[.int .i64 a0_0, .int .i64 a0_1, .slice A0_2 l0_2.length c0_2] 59 (0, 0))) ∧ (w'.heap[gb216]? = some (.cells #[.int .i64 a2_0, .int .i64 a2_1, .string a2_2] 135 (0, 0))) ∧ (w'.heap[gb217]? = some (.cells #[.int .i64 0, .int .i64 0, .slice none 0 0] 59 (0, 0))) ∧ (Below w.heap.size w w')) ?_ ?_
     rotate_left
     rotate_left
     ·skip
      rintro ⟨v222, v229, v232⟩ w35 ⟨hS_, h0_, h1_, h2_, h3_, h4_, h5_⟩
      have n0_ : Aside0 (Kd.R k135 135 w35 w.heap.size (fun k_ => some k_ ≠ (v232 : Value).ownBlock ∧ k_ ≠ gb216) v229 y228) := ⟨h0_⟩
      have n1_ : Aside0 (Kd.R k135 135 w35 w.heap.size (fun k_ => some k_ ≠ (v229 : Value).ownBlock ∧ k_ ≠ gb216) v232 y231) := ⟨h1_⟩
      have n2_ : Aside0 (w35.heap[gb215]? = some (.cells #[.int .i64 a0_0, .int .i64 a0_1, .slice A0_2 l0_2.length c0_2] 59 (0, 0))) := ⟨h2_⟩
      have n3_ : Aside0 (w35.heap[gb216]? = some (.cells #[.int .i64 a2_0, .int .i64 a2_1, .string a2_2] 135 (0, 0))) := ⟨h3_⟩
      have n4_ : Aside0 (w35.heap[gb217]? = some (.cells #[.int .i64 0, .int .i64 0, .slice none 0 0] 59 (0, 0))) := ⟨h4_⟩
      have n5_ : Aside0 (Below w.heap.size w w35) := ⟨h5_⟩
      clear BK215; clear BK216; clear BK217; clear HB; clear h0_ h1_ h2_ h3_ h4_ h5_; have HO230 := n0_; have HO233 := n1_; have BK215 := n2_; have BK216 := n3_; have BK217 := n4_; have HB := n5_; clear n0_ n1_ n2_ n3_ n4_ n5_
      have hHeld : w35.cell? ⟨gb215, 0, none⟩ = some (.int .i64 a0_0) ∧ w35.cell? ⟨gb215, 1, none⟩ = some (.int .i64 a0_1) ∧ w35.cell? ⟨gb215, 2, none⟩ = some (.slice A0_2 l0_2.length c0_2) ∧ w35.cell? ⟨gb216, 0, none⟩ = some (.int .i64 a2_0) ∧ w35.cell? ⟨gb216, 1, none⟩ = some (.int .i64 a2_1) ∧ w35.cell? ⟨gb216, 2, none⟩ = some (.string a2_2) := hS_
      obtain ⟨Ao37, co37, eo37⟩ := Kd.R_slice HO233.out
      (first | subst eo37 | (injection eo37 with f1_ f2_ f3_; have f4_ := f1_.symm; have f5_ := f3_.symm; clear f1_ f2_ f3_; subst f4_; subst f5_))
      refine norm_ (a' := ?_) ?_ ?_
      rotate_left
      ·simp only [putAll, Act.put, sia_, scz_, scs_]
       rfl
      refine two_ (i := 16) (j := 18) (Ni := some 40) (Nj := some 8) #[true, true, true, true, true, true, true, true, true, true, true, true, true, true, true, true, true, false, false, false] #[true, true, true, true, true, true, true, true, true, true, true, true, true, true, true, true, false, false, true, false] rfl rfl rfl rfl (two_of HT_.out (by kernel_rfl)) (by decide) (by decide) (fun K hK => ?_) (fun K hK => ?_)
      rotate_left
      ·skip
       refine box_step ?hg (N := 8) ?hd (cs := #[.int .i64 0, .int .i64 0, .slice none 0 0]) (t := 59) ?hr ?_; (case hd => rfl); (case hg => rfl); (case hr => first | (go_simp; done) | (go_simp; rfl))
       intro gb237 hg w36 hbox hb
       have n6_ := mk_ (hbox)
       have n7_ : Aside0 (w.heap.size ≤ gb237) := bz_ hg
       have n8_ : Aside0 (w.heap.size ≤ gb237) := bz_ hg
       have n9_ : Aside0 (gb215 ≠ gb237) := bl_ BK215 hg
       have n10_ : Aside0 (gb237 ≠ gb215) := bg_ BK215 hg
       have n11_ : Aside0 (gb216 ≠ gb237) := bl_ BK216 hg
       have n12_ : Aside0 (gb237 ≠ gb216) := bg_ BK216 hg
       have n13_ : Aside0 (gb217 ≠ gb237) := bl_ BK217 hg
       have n14_ : Aside0 (gb237 ≠ gb217) := bg_ BK217 hg
       have BK237 := n6_; have GW237 := n7_; have GE237 := n8_; have NB215_237 := n9_; have NB237_215 := n10_; have NB216_237 := n11_; have NB237_216 := n12_; have NB217_237 := n13_; have NB237_217 := n14_; clear n6_ n7_ n8_ n9_ n10_ n11_ n12_ n13_ n14_; replace HO230 := rb_ HO230 hb; replace HO233 := rb_ HO233 hb; replace BK215 := bb_ BK215 hb; replace BK216 := bb_ BK216 hb; replace BK217 := bb_ BK217 hb; replace HB := bs_ HB hb; clear hb hbox hg
       refine hK.out _ _ ⟨bc_ BK215 0, bc_ BK215 1, bc_ BK215 2, bc_ BK216 0, bc_ BK216 1, bc_ BK216 2⟩ (fun hHeld => ?_)
       clear hK K
       refine norm_ (a' := ?_) ?_ ?_
       rotate_left
       ·show Act.put _ (some 8) _ = _
        simp only [Act.put, sia_, scz_, scs_, i64_w, i32_w]
        rfl
       exact norm_ (by first | (simp only [putAll, Act.put, sia_, scz_, scs_]; done) | (simp only [putAll, Act.put, sia_, scz_, scs_]; rfl)) (hJ4_13_15_18 (v222, v229, .slice Ao37 y231.length co37, gb237) _ ⟨hHeld, (rp_ HO230), (rp_ HO233), (bp_ BK215), (bp_ BK216), (bp_ BK217), (bp_ BK237), GW237.out, GE237.out, NB215_237.out, NB237_215.out, NB216_237.out, NB237_216.out, NB217_237.out, NB237_217.out, (bw_ HB)⟩)
      skip
      refine Kd.R_append_rows_step k135 (w0 := w) w.heap.size (by rfl) (.tmp 37) (.tmp 39) 57 135 (.agg #[(.int .i64 0), (.int .i64 0), (.string ⟨#[]⟩)]) 32 rfl Try.underlying57 info135 rfl (by decide) (by omega) v229 y228 y231 _ _ _ (fun k_ => some k_ ≠ (.slice Ao37 y231.length co37 : Value).ownBlock ∧ k_ ≠ gb216) (fun _ => False) rfl rfl ?aO ?aR (fun _ _ h => h) (fun _ h => h.elim) ?aF ?aB ?aS ?aL ?_
      (case aR => exact cr_ HO233)
      (case aB => exact (bw_ HB))
      (case aF => exact (fun k_ hk => ⟨Kd.fresh' (Kd.R_lt (rp_ HO233)) k_ hk, Kd.freshB (g := gb216) (o := .cells #[.int .i64 a2_0, .int .i64 a2_1, .string a2_2] 135 (0, 0)) (bp_ BK216) k_ hk⟩))
      (case aO => exact (rp_ HO230))
      (case aS => exact (below_size (bw_ HB)))
      (case aL => have := LMc25.out; omega)
      intro v235 w36 ho hb hg hat
      rw [← Ny234.out] at ho
      have n0_ := mk_ (blk_grown (g := gb215) (o := .cells #[.int .i64 a0_0, .int .i64 a0_1, .slice A0_2 l0_2.length c0_2] 59 (0, 0)) (bp_ BK215) hg (Kd.R_ne HO230.out BK215.out (by decide)))
      have n1_ := mk_ (blk_grown (g := gb216) (o := .cells #[.int .i64 a2_0, .int .i64 a2_1, .string a2_2] 135 (0, 0)) (bp_ BK216) hg (Kd.R_away HO230.out (fun _ hk => hk.2)))
      have n2_ := mk_ (blk_grown (g := gb217) (o := .cells #[.int .i64 0, .int .i64 0, .slice none 0 0] 59 (0, 0)) (bp_ BK217) hg (Kd.R_ne HO230.out BK217.out (by decide)))
      have n3_ := mk_ (Kd.R_after (ok := (fun k_ => k_ ≠ gb216)) (rq_ (Kd.R_mono HO233.out (fun _ hk => ⟨hk.2, hk.1⟩))) hg hat)
      have n4_ := mk_ (hb)
      have n5_ := mk_ (ho)
      clear BK215; clear BK216; clear BK217; clear HO233; clear HB; clear HO230; have BK215 := n0_; have BK216 := n1_; have BK217 := n2_; have HO233 := n3_; have HB := n4_; have HO236 := n5_; clear n0_ n1_ n2_ n3_ n4_ n5_; clear ho hb hg hat
      obtain ⟨Ao38, co38, eo38⟩ := Kd.R_slice HO236.out
      (first | subst eo38 | (injection eo38 with f1_ f2_ f3_; have f4_ := f1_.symm; have f5_ := f3_.symm; clear f1_ f2_ f3_; subst f4_; subst f5_))
      refine hK.out _ _ ⟨bc_ BK215 0, bc_ BK215 1, bc_ BK215 2, bc_ BK216 0, bc_ BK216 1, bc_ BK216 2⟩ (fun hHeld => ?_)
      clear hK K
      refine norm_ (a' := ?_) ?_ ?_
      rotate_left
      ·show Act.put _ (some 40) _ = _
       simp only [Act.put, sia_, scz_, scs_, i64_w, i32_w]
       rfl
      refine pv_ 17 41 ?_
      exact norm_ (by first | (simp only [putAll, Act.put, sia_, scz_, scs_]; done) | (simp only [putAll, Act.put, sia_, scz_, scs_]; rfl)) (hJ4_13_15_16 (v222, v229, .slice Ao37 y231.length co37, .slice Ao38 y234.length co38) _ ⟨hHeld, (rq_ (Kd.R_mono HO233.out (fun _ hk => ⟨hk.2, hk.1⟩))), (rp_ HO236), (bp_ BK215), (bp_ BK216), (bp_ BK217), (bw_ HB)⟩)
     intro hJ4_13_15
     refine join_ (σ := Value × Value × Nat) 4 #[true, true, true, true, true, true, true, true, true, true, true, true, true, true, true, false, false, false, true, false] (fun s_ => [(28, s_.1), (37, s_.2.1), (8, .pointer (some ⟨s_.2.2, 0, none⟩))]) (fun s_ w' => (w'.cell? ⟨gb215, 0, none⟩ = some (.int .i64 a0_0) ∧ w'.cell? ⟨gb215, 1, none⟩ = some (.int .i64 a0_1) ∧ w'.cell? ⟨gb215, 2, none⟩ = some (.slice A0_2 l0_2.length c0_2) ∧ w'.cell? ⟨gb216, 0, none⟩ = some (.int .i64 a2_0) ∧ w'.cell? ⟨gb216, 1, none⟩ = some (.int .i64 a2_1) ∧ w'.cell? ⟨gb216, 2, none⟩ = some (.string a2_2)) ∧ (Kd.R k135 135 w' w.heap.size (fun k_ => k_ ≠ gb216) s_.2.1 y228) ∧ (w'.heap[gb215]? = some (.cells #[.int .i64 a0_0, .int .i64 a0_1, .slice A0_2 l0_2.length c0_2] 59 (0, 0))) ∧ (w'.heap[gb216]? = some (.cells #[.int .i64 a2_0, .int .i64 a2_1, .string a2_2] 135 (0, 0))) ∧ (w'.heap[gb217]? = some (.cells #[.int .i64 0, .int .i64 0, .slice none 0 0] 59 (0, 0))) ∧ (w'.heap[s_.2.2]? = some (.cells #[.int .i64 0, .int .i64 0, .slice none 0 0] 59 (0, 0))) ∧ (w.heap.size ≤ s_.2.2) ∧ (w.heap.size ≤ s_.2.2) ∧ (gb215 ≠ s_.2.2) ∧ (s_.2.2 ≠ gb215) ∧ (gb216 ≠ s_.2.2) ∧ (s_.2.2 ≠ gb216) ∧ (gb217 ≠ s_.2.2) ∧ (s_.2.2 ≠ gb217) ∧ (Below w.heap.size w w')) ?_ ?_
     rotate_left
     rotate_left
     ·skip
      rintro ⟨v222, v229, gb237⟩ w34 ⟨hS_, h0_, h1_, h2_, h3_, h4_, h5_, h6_, h7_, h8_, h9_, h10_, h11_, h12_, h13_⟩
      have n0_ : Aside0 (Kd.R k135 135 w34 w.heap.size (fun k_ => k_ ≠ gb216) v229 y228) := ⟨h0_⟩
      have n1_ : Aside0 (w34.heap[gb215]? = some (.cells #[.int .i64 a0_0, .int .i64 a0_1, .slice A0_2 l0_2.length c0_2] 59 (0, 0))) := ⟨h1_⟩
      have n2_ : Aside0 (w34.heap[gb216]? = some (.cells #[.int .i64 a2_0, .int .i64 a2_1, .string a2_2] 135 (0, 0))) := ⟨h2_⟩
      have n3_ : Aside0 (w34.heap[gb217]? = some (.cells #[.int .i64 0, .int .i64 0, .slice none 0 0] 59 (0, 0))) := ⟨h3_⟩
      have n4_ : Aside0 (w34.heap[gb237]? = some (.cells #[.int .i64 0, .int .i64 0, .slice none 0 0] 59 (0, 0))) := ⟨h4_⟩
      have n5_ : Aside0 (w.heap.size ≤ gb237) := ⟨h5_⟩
      have n6_ : Aside0 (w.heap.size ≤ gb237) := ⟨h6_⟩
      have n7_ : Aside0 (gb215 ≠ gb237) := ⟨h7_⟩
      have n8_ : Aside0 (gb237 ≠ gb215) := ⟨h8_⟩
      have n9_ : Aside0 (gb216 ≠ gb237) := ⟨h9_⟩
      have n10_ : Aside0 (gb237 ≠ gb216) := ⟨h10_⟩
      have n11_ : Aside0 (gb217 ≠ gb237) := ⟨h11_⟩
      have n12_ : Aside0 (gb237 ≠ gb217) := ⟨h12_⟩
      have n13_ : Aside0 (Below w.heap.size w w34) := ⟨h13_⟩
      clear BK215; clear BK216; clear BK217; clear HB; clear h0_ h1_ h2_ h3_ h4_ h5_ h6_ h7_ h8_ h9_ h10_ h11_ h12_ h13_; have HO230 := n0_; have BK215 := n1_; have BK216 := n2_; have BK217 := n3_; have BK237 := n4_; have GW237 := n5_; have GE237 := n6_; have NB215_237 := n7_; have NB237_215 := n8_; have NB216_237 := n9_; have NB237_216 := n10_; have NB217_237 := n11_; have NB237_217 := n12_; have HB := n13_; clear n0_ n1_ n2_ n3_ n4_ n5_ n6_ n7_ n8_ n9_ n10_ n11_ n12_ n13_
      have hHeld : w34.cell? ⟨gb215, 0, none⟩ = some (.int .i64 a0_0) ∧ w34.cell? ⟨gb215, 1, none⟩ = some (.int .i64 a0_1) ∧ w34.cell? ⟨gb215, 2, none⟩ = some (.slice A0_2 l0_2.length c0_2) ∧ w34.cell? ⟨gb216, 0, none⟩ = some (.int .i64 a2_0) ∧ w34.cell? ⟨gb216, 1, none⟩ = some (.int .i64 a2_1) ∧ w34.cell? ⟨gb216, 2, none⟩ = some (.string a2_2) := hS_
      refine norm_ (a' := ?_) ?_ ?_
      rotate_left
      ·simp only [putAll, Act.put, sia_, scz_, scs_]
       rfl
      refine one_ (i := 15) (N := some 39) #[true, true, true, true, true, true, true, true, true, true, true, true, true, true, true, true, false, false, true, false] rfl rfl (one_of HT_.out (by kernel_rfl)) (by decide) (fun K hK => ?_)
      refine Kd.R_lit_step k135 _ 135 ?hg (N := 39) ?hd (xs := ([(⟨a2_0, a2_1, a2_2⟩ : S135)] : List (S135))) (inner := [.int .i64 a2_0, .int .i64 a2_1, .string a2_2]) (ok := fun _ => True) (okp := fun _ => True) ?hr ?hp (fun _ hk => hk) trivial (Below.refl _ _) (Nat.le_refl _) (by simp) ?_; (case hd => rfl); (case hg => rfl); (case hr => first | (go_simp; done) | (go_simp; rfl)); (case hp => exact (Reps.c3 (show Kd.M k135 _ _ _ (⟨a2_0, a2_1, a2_2⟩ : S135) [.int .i64 a2_0, .int .i64 a2_1, .string a2_2] from (k135_mkM _ _ _ (⟨a2_0, a2_1, a2_2⟩ : S135) )) (Reps.none _ _)))
      intro v232 w35 ho36 hb hg_ hnew_
      clear hg_ hnew_
      (first | rw [← Ny231.out] at ho36 | (simp only [Int.reduceToNat] at ho36; rw [← Ny231.out] at ho36))
      have n0_ := mk_ (Kd.R_elder' (rp_ HO230) (Kd.R_base ho36) hb)
      have n1_ := mk_ (Kd.R_lower (Kd.R_newB (Kd.R_new' ho36 (Kd.R_lt (rp_ HO230))) (g := gb216) (o := .cells #[.int .i64 a2_0, .int .i64 a2_1, .string a2_2] 135 (0, 0)) (bp_ BK216)) (below_size (bw_ HB)))
      clear HO230; have HO230 := n0_; have HO233 := n1_; clear n0_ n1_; replace BK215 := bb_ BK215 hb; replace BK216 := bb_ BK216 hb; replace BK217 := bb_ BK217 hb; replace BK237 := bb_ BK237 hb; replace HB := bs_ HB hb; clear hb ho36
      refine hK.out _ _ ⟨bc_ BK215 0, bc_ BK215 1, bc_ BK215 2, bc_ BK216 0, bc_ BK216 1, bc_ BK216 2⟩ (fun hHeld => ?_)
      clear hK K
      refine norm_ (a' := ?_) ?_ ?_
      rotate_left
      ·show Act.put _ (some 39) _ = _
       simp only [Act.put, sia_, scz_, scs_, i64_w, i32_w]
       rfl
      exact norm_ (by first | (simp only [putAll, Act.put, sia_, scz_, scs_]; done) | (simp only [putAll, Act.put, sia_, scz_, scs_]; rfl)) (hJ4_13_15_18 (v222, v229, v232, gb237) _ ⟨hHeld, (rq_ (Kd.R_mono HO230.out (fun _ hk => ⟨hk.2, hk.1⟩))), (rq_ (Kd.R_mono HO233.out (fun _ hk => ⟨hk.1.2, hk.2⟩))), (bp_ BK215), (bp_ BK216), (bp_ BK217), (bp_ BK237), GW237.out, GE237.out, NB215_237.out, NB237_215.out, NB216_237.out, NB237_216.out, NB217_237.out, NB237_217.out, (bw_ HB)⟩)
     intro hJ4_13_18
     refine join_ (σ := Value × Value × Nat) 4 #[true, true, true, true, true, true, true, true, true, true, true, true, true, false, true, true, false, false, true, false] (fun s_ => [(28, s_.1), (39, s_.2.1), (8, .pointer (some ⟨s_.2.2, 0, none⟩))]) (fun s_ w' => (w'.cell? ⟨gb215, 0, none⟩ = some (.int .i64 a0_0) ∧ w'.cell? ⟨gb215, 1, none⟩ = some (.int .i64 a0_1) ∧ w'.cell? ⟨gb215, 2, none⟩ = some (.slice A0_2 l0_2.length c0_2) ∧ w'.cell? ⟨gb216, 0, none⟩ = some (.int .i64 a2_0) ∧ w'.cell? ⟨gb216, 1, none⟩ = some (.int .i64 a2_1) ∧ w'.cell? ⟨gb216, 2, none⟩ = some (.string a2_2)) ∧ (Kd.R k135 135 w' w.heap.size (fun k_ => some k_ ≠ (s_.2.1 : Value).ownBlock ∧ k_ ≠ gb216) s_.1 y221) ∧ (Kd.R k135 135 w' w.heap.size (fun k_ => some k_ ≠ (s_.1 : Value).ownBlock ∧ k_ ≠ gb216) s_.2.1 y231) ∧ (w'.heap[gb215]? = some (.cells #[.int .i64 a0_0, .int .i64 a0_1, .slice A0_2 l0_2.length c0_2] 59 (0, 0))) ∧ (w'.heap[gb216]? = some (.cells #[.int .i64 a2_0, .int .i64 a2_1, .string a2_2] 135 (0, 0))) ∧ (w'.heap[gb217]? = some (.cells #[.int .i64 0, .int .i64 0, .slice none 0 0] 59 (0, 0))) ∧ (w'.heap[s_.2.2]? = some (.cells #[.int .i64 0, .int .i64 0, .slice none 0 0] 59 (0, 0))) ∧ (w.heap.size ≤ s_.2.2) ∧ (w.heap.size ≤ s_.2.2) ∧ (gb215 ≠ s_.2.2) ∧ (s_.2.2 ≠ gb215) ∧ (gb216 ≠ s_.2.2) ∧ (s_.2.2 ≠ gb216) ∧ (gb217 ≠ s_.2.2) ∧ (s_.2.2 ≠ gb217) ∧ (Below w.heap.size w w')) ?_ ?_
     rotate_left
     rotate_left
     ·skip
      rintro ⟨v222, v232, gb237⟩ w35 ⟨hS_, h0_, h1_, h2_, h3_, h4_, h5_, h6_, h7_, h8_, h9_, h10_, h11_, h12_, h13_, h14_⟩
      have n0_ : Aside0 (Kd.R k135 135 w35 w.heap.size (fun k_ => some k_ ≠ (v232 : Value).ownBlock ∧ k_ ≠ gb216) v222 y221) := ⟨h0_⟩
      have n1_ : Aside0 (Kd.R k135 135 w35 w.heap.size (fun k_ => some k_ ≠ (v222 : Value).ownBlock ∧ k_ ≠ gb216) v232 y231) := ⟨h1_⟩
      have n2_ : Aside0 (w35.heap[gb215]? = some (.cells #[.int .i64 a0_0, .int .i64 a0_1, .slice A0_2 l0_2.length c0_2] 59 (0, 0))) := ⟨h2_⟩
      have n3_ : Aside0 (w35.heap[gb216]? = some (.cells #[.int .i64 a2_0, .int .i64 a2_1, .string a2_2] 135 (0, 0))) := ⟨h3_⟩
      have n4_ : Aside0 (w35.heap[gb217]? = some (.cells #[.int .i64 0, .int .i64 0, .slice none 0 0] 59 (0, 0))) := ⟨h4_⟩
      have n5_ : Aside0 (w35.heap[gb237]? = some (.cells #[.int .i64 0, .int .i64 0, .slice none 0 0] 59 (0, 0))) := ⟨h5_⟩
      have n6_ : Aside0 (w.heap.size ≤ gb237) := ⟨h6_⟩
      have n7_ : Aside0 (w.heap.size ≤ gb237) := ⟨h7_⟩
      have n8_ : Aside0 (gb215 ≠ gb237) := ⟨h8_⟩
      have n9_ : Aside0 (gb237 ≠ gb215) := ⟨h9_⟩
      have n10_ : Aside0 (gb216 ≠ gb237) := ⟨h10_⟩
      have n11_ : Aside0 (gb237 ≠ gb216) := ⟨h11_⟩
      have n12_ : Aside0 (gb217 ≠ gb237) := ⟨h12_⟩
      have n13_ : Aside0 (gb237 ≠ gb217) := ⟨h13_⟩
      have n14_ : Aside0 (Below w.heap.size w w35) := ⟨h14_⟩
      clear BK215; clear BK216; clear BK217; clear HB; clear h0_ h1_ h2_ h3_ h4_ h5_ h6_ h7_ h8_ h9_ h10_ h11_ h12_ h13_ h14_; have HO223 := n0_; have HO233 := n1_; have BK215 := n2_; have BK216 := n3_; have BK217 := n4_; have BK237 := n5_; have GW237 := n6_; have GE237 := n7_; have NB215_237 := n8_; have NB237_215 := n9_; have NB216_237 := n10_; have NB237_216 := n11_; have NB217_237 := n12_; have NB237_217 := n13_; have HB := n14_; clear n0_ n1_ n2_ n3_ n4_ n5_ n6_ n7_ n8_ n9_ n10_ n11_ n12_ n13_ n14_
      have hHeld : w35.cell? ⟨gb215, 0, none⟩ = some (.int .i64 a0_0) ∧ w35.cell? ⟨gb215, 1, none⟩ = some (.int .i64 a0_1) ∧ w35.cell? ⟨gb215, 2, none⟩ = some (.slice A0_2 l0_2.length c0_2) ∧ w35.cell? ⟨gb216, 0, none⟩ = some (.int .i64 a2_0) ∧ w35.cell? ⟨gb216, 1, none⟩ = some (.int .i64 a2_1) ∧ w35.cell? ⟨gb216, 2, none⟩ = some (.string a2_2) := hS_
      refine norm_ (a' := ?_) ?_ ?_
      rotate_left
      ·simp only [putAll, Act.put, sia_, scz_, scs_]
       rfl
      refine one_ (i := 13) (N := some 37) #[true, true, true, true, true, true, true, true, true, true, true, true, true, true, true, true, false, false, true, false] rfl rfl (one_of HT_.out (by kernel_rfl)) (by decide) (fun K hK => ?_)
      refine Kd.R_append_rows_step k135 (w0 := w) w.heap.size (by rfl) (.tmp 28) (.tmp 36) 57 135 (.agg #[(.int .i64 0), (.int .i64 0), (.string ⟨#[]⟩)]) 32 rfl Try.underlying57 info135 rfl (by decide) (by omega) v222 y221 y224 _ _ _ (fun k_ => some k_ ≠ (v232 : Value).ownBlock ∧ k_ ≠ gb216) (fun _ => False) rfl rfl ?aO ?aR (fun _ _ h => h) (fun _ h => h.elim) ?aF ?aB ?aS ?aL ?_
      (case aR => exact cb_ HR227 HB)
      (case aB => exact (bw_ HB))
      (case aF => exact (fun k_ hk => ⟨Kd.fresh' (Kd.R_lt (rp_ HO233)) k_ hk, Kd.freshB (g := gb216) (o := .cells #[.int .i64 a2_0, .int .i64 a2_1, .string a2_2] 135 (0, 0)) (bp_ BK216) k_ hk⟩))
      (case aO => exact (rp_ HO223))
      (case aS => exact (below_size (bw_ HB)))
      (case aL => have := LMc24.out; omega)
      intro v229 w36 ho hb hg hat
      rw [← Ny228.out] at ho
      have n0_ := mk_ (blk_grown (g := gb215) (o := .cells #[.int .i64 a0_0, .int .i64 a0_1, .slice A0_2 l0_2.length c0_2] 59 (0, 0)) (bp_ BK215) hg (Kd.R_ne HO223.out BK215.out (by decide)))
      have n1_ := mk_ (blk_grown (g := gb216) (o := .cells #[.int .i64 a2_0, .int .i64 a2_1, .string a2_2] 135 (0, 0)) (bp_ BK216) hg (Kd.R_away HO223.out (fun _ hk => hk.2)))
      have n2_ := mk_ (blk_grown (g := gb217) (o := .cells #[.int .i64 0, .int .i64 0, .slice none 0 0] 59 (0, 0)) (bp_ BK217) hg (Kd.R_ne HO223.out BK217.out (by decide)))
      have n3_ := mk_ (Kd.R_after (ok := (fun k_ => k_ ≠ gb216)) (rq_ (Kd.R_mono HO233.out (fun _ hk => ⟨hk.2, hk.1⟩))) hg hat)
      have n4_ := mk_ (blk_grown (g := gb237) (o := .cells #[.int .i64 0, .int .i64 0, .slice none 0 0] 59 (0, 0)) (bp_ BK237) hg (Kd.R_ne HO223.out BK237.out (by decide)))
      have n5_ := mk_ (hb)
      have n6_ := mk_ (ho)
      clear BK215; clear BK216; clear BK217; clear HO233; clear BK237; clear HB; clear HO223; have BK215 := n0_; have BK216 := n1_; have BK217 := n2_; have HO233 := n3_; have BK237 := n4_; have HB := n5_; have HO230 := n6_; clear n0_ n1_ n2_ n3_ n4_ n5_ n6_; clear ho hb hg hat
      refine hK.out _ _ ⟨bc_ BK215 0, bc_ BK215 1, bc_ BK215 2, bc_ BK216 0, bc_ BK216 1, bc_ BK216 2⟩ (fun hHeld => ?_)
      clear hK K
      refine norm_ (a' := ?_) ?_ ?_
      rotate_left
      ·show Act.put _ (some 37) _ = _
       simp only [Act.put, sia_, scz_, scs_, i64_w, i32_w]
       rfl
      exact norm_ (by first | (simp only [putAll, Act.put, sia_, scz_, scs_]; done) | (simp only [putAll, Act.put, sia_, scz_, scs_]; rfl)) (hJ4_13_15_18 (v222, v229, v232, gb237) _ ⟨hHeld, (rp_ HO230), (rq_ (Kd.R_mono HO233.out (fun _ hk => ⟨hk.2, hk.1⟩))), (bp_ BK215), (bp_ BK216), (bp_ BK217), (bp_ BK237), GW237.out, GE237.out, NB215_237.out, NB237_215.out, NB216_237.out, NB237_216.out, NB217_237.out, NB237_217.out, (bw_ HB)⟩)
     intro hJ4_15_18
     refine join_ (σ := Value × Value) 5 #[true, true, true, true, true, true, true, true, true, true, true, true, true, true, true, false, false, false, false, false] (fun s_ => [(28, s_.1), (37, s_.2)]) (fun s_ w' => (w'.cell? ⟨gb215, 0, none⟩ = some (.int .i64 a0_0) ∧ w'.cell? ⟨gb215, 1, none⟩ = some (.int .i64 a0_1) ∧ w'.cell? ⟨gb215, 2, none⟩ = some (.slice A0_2 l0_2.length c0_2) ∧ w'.cell? ⟨gb216, 0, none⟩ = some (.int .i64 a2_0) ∧ w'.cell? ⟨gb216, 1, none⟩ = some (.int .i64 a2_1) ∧ w'.cell? ⟨gb216, 2, none⟩ = some (.string a2_2)) ∧ (Kd.R k135 135 w' w.heap.size (fun k_ => k_ ≠ gb216) s_.2 y228) ∧ (w'.heap[gb215]? = some (.cells #[.int .i64 a0_0, .int .i64 a0_1, .slice A0_2 l0_2.length c0_2] 59 (0, 0))) ∧ (w'.heap[gb216]? = some (.cells #[.int .i64 a2_0, .int .i64 a2_1, .string a2_2] 135 (0, 0))) ∧ (w'.heap[gb217]? = some (.cells #[.int .i64 0, .int .i64 0, .slice none 0 0] 59 (0, 0))) ∧ (Below w.heap.size w w')) ?_ ?_
     rotate_left
     rotate_left
     ·skip
      rintro ⟨v222, v229⟩ w33 ⟨hS_, h0_, h1_, h2_, h3_, h4_⟩
      have n0_ : Aside0 (Kd.R k135 135 w33 w.heap.size (fun k_ => k_ ≠ gb216) v229 y228) := ⟨h0_⟩
      have n1_ : Aside0 (w33.heap[gb215]? = some (.cells #[.int .i64 a0_0, .int .i64 a0_1, .slice A0_2 l0_2.length c0_2] 59 (0, 0))) := ⟨h1_⟩
      have n2_ : Aside0 (w33.heap[gb216]? = some (.cells #[.int .i64 a2_0, .int .i64 a2_1, .string a2_2] 135 (0, 0))) := ⟨h2_⟩
      have n3_ : Aside0 (w33.heap[gb217]? = some (.cells #[.int .i64 0, .int .i64 0, .slice none 0 0] 59 (0, 0))) := ⟨h3_⟩
      have n4_ : Aside0 (Below w.heap.size w w33) := ⟨h4_⟩
      clear BK215; clear BK216; clear BK217; clear HB; clear h0_ h1_ h2_ h3_ h4_; have HO230 := n0_; have BK215 := n1_; have BK216 := n2_; have BK217 := n3_; have HB := n4_; clear n0_ n1_ n2_ n3_ n4_
      have hHeld : w33.cell? ⟨gb215, 0, none⟩ = some (.int .i64 a0_0) ∧ w33.cell? ⟨gb215, 1, none⟩ = some (.int .i64 a0_1) ∧ w33.cell? ⟨gb215, 2, none⟩ = some (.slice A0_2 l0_2.length c0_2) ∧ w33.cell? ⟨gb216, 0, none⟩ = some (.int .i64 a2_0) ∧ w33.cell? ⟨gb216, 1, none⟩ = some (.int .i64 a2_1) ∧ w33.cell? ⟨gb216, 2, none⟩ = some (.string a2_2) := hS_
      refine norm_ (a' := ?_) ?_ ?_
      rotate_left
      ·simp only [putAll, Act.put, sia_, scz_, scs_]
       rfl
      refine two_ (i := 15) (j := 18) (Ni := some 39) (Nj := some 8) #[true, true, true, true, true, true, true, true, true, true, true, true, true, true, true, true, false, false, false, false] #[true, true, true, true, true, true, true, true, true, true, true, true, true, true, true, false, false, false, true, false] rfl rfl rfl rfl (two_of HT_.out (by kernel_rfl)) (by decide) (by decide) (fun K hK => ?_) (fun K hK => ?_)
      ·skip
       refine Kd.R_lit_step k135 _ 135 ?hg (N := 39) ?hd (xs := ([(⟨a2_0, a2_1, a2_2⟩ : S135)] : List (S135))) (inner := [.int .i64 a2_0, .int .i64 a2_1, .string a2_2]) (ok := fun _ => True) (okp := fun _ => True) ?hr ?hp (fun _ hk => hk) trivial (Below.refl _ _) (Nat.le_refl _) (by simp) ?_; (case hd => rfl); (case hg => rfl); (case hr => first | (go_simp; done) | (go_simp; rfl)); (case hp => exact (Reps.c3 (show Kd.M k135 _ _ _ (⟨a2_0, a2_1, a2_2⟩ : S135) [.int .i64 a2_0, .int .i64 a2_1, .string a2_2] from (k135_mkM _ _ _ (⟨a2_0, a2_1, a2_2⟩ : S135) )) (Reps.none _ _)))
       intro v232 w34 ho35 hb hg_ hnew_
       clear hg_ hnew_
       (first | rw [← Ny231.out] at ho35 | (simp only [Int.reduceToNat] at ho35; rw [← Ny231.out] at ho35))
       have n0_ := mk_ (Kd.R_elder' (rp_ HO230) (Kd.R_base ho35) hb)
       have n1_ := mk_ (Kd.R_lower (Kd.R_newB (Kd.R_new' ho35 (Kd.R_lt (rp_ HO230))) (g := gb216) (o := .cells #[.int .i64 a2_0, .int .i64 a2_1, .string a2_2] 135 (0, 0)) (bp_ BK216)) (below_size (bw_ HB)))
       clear HO230; have HO230 := n0_; have HO233 := n1_; clear n0_ n1_; replace BK215 := bb_ BK215 hb; replace BK216 := bb_ BK216 hb; replace BK217 := bb_ BK217 hb; replace HB := bs_ HB hb; clear hb ho35
       refine hK.out _ _ ⟨bc_ BK215 0, bc_ BK215 1, bc_ BK215 2, bc_ BK216 0, bc_ BK216 1, bc_ BK216 2⟩ (fun hHeld => ?_)
       clear hK K
       refine norm_ (a' := ?_) ?_ ?_
       rotate_left
       ·show Act.put _ (some 39) _ = _
        simp only [Act.put, sia_, scz_, scs_, i64_w, i32_w]
        rfl
       exact norm_ (by first | (simp only [putAll, Act.put, sia_, scz_, scs_]; done) | (simp only [putAll, Act.put, sia_, scz_, scs_]; rfl)) (hJ4_13_15 (v222, v229, v232) _ ⟨hHeld, (rq_ (Kd.R_mono HO230.out (fun _ hk => ⟨hk.2, hk.1⟩))), (rq_ (Kd.R_mono HO233.out (fun _ hk => ⟨hk.1.2, hk.2⟩))), (bp_ BK215), (bp_ BK216), (bp_ BK217), (bw_ HB)⟩)
      skip
      refine box_step ?hg (N := 8) ?hd (cs := #[.int .i64 0, .int .i64 0, .slice none 0 0]) (t := 59) ?hr ?_; (case hd => rfl); (case hg => rfl); (case hr => first | (go_simp; done) | (go_simp; rfl))
      intro gb237 hg w34 hbox hb
      have n5_ := mk_ (hbox)
      have n6_ : Aside0 (w.heap.size ≤ gb237) := bz_ hg
      have n7_ : Aside0 (w.heap.size ≤ gb237) := bz_ hg
      have n8_ : Aside0 (gb215 ≠ gb237) := bl_ BK215 hg
      have n9_ : Aside0 (gb237 ≠ gb215) := bg_ BK215 hg
      have n10_ : Aside0 (gb216 ≠ gb237) := bl_ BK216 hg
      have n11_ : Aside0 (gb237 ≠ gb216) := bg_ BK216 hg
      have n12_ : Aside0 (gb217 ≠ gb237) := bl_ BK217 hg
      have n13_ : Aside0 (gb237 ≠ gb217) := bg_ BK217 hg
      have BK237 := n5_; have GW237 := n6_; have GE237 := n7_; have NB215_237 := n8_; have NB237_215 := n9_; have NB216_237 := n10_; have NB237_216 := n11_; have NB217_237 := n12_; have NB237_217 := n13_; clear n5_ n6_ n7_ n8_ n9_ n10_ n11_ n12_ n13_; replace HO230 := rb_ HO230 hb; replace BK215 := bb_ BK215 hb; replace BK216 := bb_ BK216 hb; replace BK217 := bb_ BK217 hb; replace HB := bs_ HB hb; clear hb hbox hg
      refine hK.out _ _ ⟨bc_ BK215 0, bc_ BK215 1, bc_ BK215 2, bc_ BK216 0, bc_ BK216 1, bc_ BK216 2⟩ (fun hHeld => ?_)
      clear hK K
      refine norm_ (a' := ?_) ?_ ?_
      rotate_left
      ·show Act.put _ (some 8) _ = _
       simp only [Act.put, sia_, scz_, scs_, i64_w, i32_w]
       rfl
      exact norm_ (by first | (simp only [putAll, Act.put, sia_, scz_, scs_]; done) | (simp only [putAll, Act.put, sia_, scz_, scs_]; rfl)) (hJ4_13_18 (v222, v229, gb237) _ ⟨hHeld, (rp_ HO230), (bp_ BK215), (bp_ BK216), (bp_ BK217), (bp_ BK237), GW237.out, GE237.out, NB215_237.out, NB237_215.out, NB216_237.out, NB237_216.out, NB217_237.out, NB237_217.out, (bw_ HB)⟩)
     intro hJ4_13
     refine join_ (σ := Value × Value) 5 #[true, true, true, true, true, true, true, true, true, true, true, true, true, false, true, true, false, false, false, false] (fun s_ => [(28, s_.1), (39, s_.2)]) (fun s_ w' => (w'.cell? ⟨gb215, 0, none⟩ = some (.int .i64 a0_0) ∧ w'.cell? ⟨gb215, 1, none⟩ = some (.int .i64 a0_1) ∧ w'.cell? ⟨gb215, 2, none⟩ = some (.slice A0_2 l0_2.length c0_2) ∧ w'.cell? ⟨gb216, 0, none⟩ = some (.int .i64 a2_0) ∧ w'.cell? ⟨gb216, 1, none⟩ = some (.int .i64 a2_1) ∧ w'.cell? ⟨gb216, 2, none⟩ = some (.string a2_2)) ∧ (Kd.R k135 135 w' w.heap.size (fun k_ => some k_ ≠ (s_.2 : Value).ownBlock ∧ k_ ≠ gb216) s_.1 y221) ∧ (Kd.R k135 135 w' w.heap.size (fun k_ => some k_ ≠ (s_.1 : Value).ownBlock ∧ k_ ≠ gb216) s_.2 y231) ∧ (w'.heap[gb215]? = some (.cells #[.int .i64 a0_0, .int .i64 a0_1, .slice A0_2 l0_2.length c0_2] 59 (0, 0))) ∧ (w'.heap[gb216]? = some (.cells #[.int .i64 a2_0, .int .i64 a2_1, .string a2_2] 135 (0, 0))) ∧ (w'.heap[gb217]? = some (.cells #[.int .i64 0, .int .i64 0, .slice none 0 0] 59 (0, 0))) ∧ (Below w.heap.size w w')) ?_ ?_
     rotate_left
     rotate_left
     ·skip
      rintro ⟨v222, v232⟩ w34 ⟨hS_, h0_, h1_, h2_, h3_, h4_, h5_⟩
      have n0_ : Aside0 (Kd.R k135 135 w34 w.heap.size (fun k_ => some k_ ≠ (v232 : Value).ownBlock ∧ k_ ≠ gb216) v222 y221) := ⟨h0_⟩
      have n1_ : Aside0 (Kd.R k135 135 w34 w.heap.size (fun k_ => some k_ ≠ (v222 : Value).ownBlock ∧ k_ ≠ gb216) v232 y231) := ⟨h1_⟩
      have n2_ : Aside0 (w34.heap[gb215]? = some (.cells #[.int .i64 a0_0, .int .i64 a0_1, .slice A0_2 l0_2.length c0_2] 59 (0, 0))) := ⟨h2_⟩
      have n3_ : Aside0 (w34.heap[gb216]? = some (.cells #[.int .i64 a2_0, .int .i64 a2_1, .string a2_2] 135 (0, 0))) := ⟨h3_⟩
      have n4_ : Aside0 (w34.heap[gb217]? = some (.cells #[.int .i64 0, .int .i64 0, .slice none 0 0] 59 (0, 0))) := ⟨h4_⟩
      have n5_ : Aside0 (Below w.heap.size w w34) := ⟨h5_⟩
      clear BK215; clear BK216; clear BK217; clear HB; clear h0_ h1_ h2_ h3_ h4_ h5_; have HO223 := n0_; have HO233 := n1_; have BK215 := n2_; have BK216 := n3_; have BK217 := n4_; have HB := n5_; clear n0_ n1_ n2_ n3_ n4_ n5_
      have hHeld : w34.cell? ⟨gb215, 0, none⟩ = some (.int .i64 a0_0) ∧ w34.cell? ⟨gb215, 1, none⟩ = some (.int .i64 a0_1) ∧ w34.cell? ⟨gb215, 2, none⟩ = some (.slice A0_2 l0_2.length c0_2) ∧ w34.cell? ⟨gb216, 0, none⟩ = some (.int .i64 a2_0) ∧ w34.cell? ⟨gb216, 1, none⟩ = some (.int .i64 a2_1) ∧ w34.cell? ⟨gb216, 2, none⟩ = some (.string a2_2) := hS_
      refine norm_ (a' := ?_) ?_ ?_
      rotate_left
      ·simp only [putAll, Act.put, sia_, scz_, scs_]
       rfl
      refine two_ (i := 13) (j := 18) (Ni := some 37) (Nj := some 8) #[true, true, true, true, true, true, true, true, true, true, true, true, true, true, true, true, false, false, false, false] #[true, true, true, true, true, true, true, true, true, true, true, true, true, false, true, true, false, false, true, false] rfl rfl rfl rfl (two_of HT_.out (by kernel_rfl)) (by decide) (by decide) (fun K hK => ?_) (fun K hK => ?_)
      rotate_left
      ·skip
       refine box_step ?hg (N := 8) ?hd (cs := #[.int .i64 0, .int .i64 0, .slice none 0 0]) (t := 59) ?hr ?_; (case hd => rfl); (case hg => rfl); (case hr => first | (go_simp; done) | (go_simp; rfl))
       intro gb237 hg w35 hbox hb
       have n6_ := mk_ (hbox)
       have n7_ : Aside0 (w.heap.size ≤ gb237) := bz_ hg
       have n8_ : Aside0 (w.heap.size ≤ gb237) := bz_ hg
       have n9_ : Aside0 (gb215 ≠ gb237) := bl_ BK215 hg
       have n10_ : Aside0 (gb237 ≠ gb215) := bg_ BK215 hg
       have n11_ : Aside0 (gb216 ≠ gb237) := bl_ BK216 hg
       have n12_ : Aside0 (gb237 ≠ gb216) := bg_ BK216 hg
       have n13_ : Aside0 (gb217 ≠ gb237) := bl_ BK217 hg
       have n14_ : Aside0 (gb237 ≠ gb217) := bg_ BK217 hg
       have BK237 := n6_; have GW237 := n7_; have GE237 := n8_; have NB215_237 := n9_; have NB237_215 := n10_; have NB216_237 := n11_; have NB237_216 := n12_; have NB217_237 := n13_; have NB237_217 := n14_; clear n6_ n7_ n8_ n9_ n10_ n11_ n12_ n13_ n14_; replace HO223 := rb_ HO223 hb; replace HO233 := rb_ HO233 hb; replace BK215 := bb_ BK215 hb; replace BK216 := bb_ BK216 hb; replace BK217 := bb_ BK217 hb; replace HB := bs_ HB hb; clear hb hbox hg
       refine hK.out _ _ ⟨bc_ BK215 0, bc_ BK215 1, bc_ BK215 2, bc_ BK216 0, bc_ BK216 1, bc_ BK216 2⟩ (fun hHeld => ?_)
       clear hK K
       refine norm_ (a' := ?_) ?_ ?_
       rotate_left
       ·show Act.put _ (some 8) _ = _
        simp only [Act.put, sia_, scz_, scs_, i64_w, i32_w]
        rfl
       exact norm_ (by first | (simp only [putAll, Act.put, sia_, scz_, scs_]; done) | (simp only [putAll, Act.put, sia_, scz_, scs_]; rfl)) (hJ4_15_18 (v222, v232, gb237) _ ⟨hHeld, (rp_ HO223), (rp_ HO233), (bp_ BK215), (bp_ BK216), (bp_ BK217), (bp_ BK237), GW237.out, GE237.out, NB215_237.out, NB237_215.out, NB216_237.out, NB237_216.out, NB217_237.out, NB237_217.out, (bw_ HB)⟩)
      skip
      refine Kd.R_append_rows_step k135 (w0 := w) w.heap.size (by rfl) (.tmp 28) (.tmp 36) 57 135 (.agg #[(.int .i64 0), (.int .i64 0), (.string ⟨#[]⟩)]) 32 rfl Try.underlying57 info135 rfl (by decide) (by omega) v222 y221 y224 _ _ _ (fun k_ => some k_ ≠ (v232 : Value).ownBlock ∧ k_ ≠ gb216) (fun _ => False) rfl rfl ?aO ?aR (fun _ _ h => h) (fun _ h => h.elim) ?aF ?aB ?aS ?aL ?_
      (case aR => exact cb_ HR227 HB)
      (case aB => exact (bw_ HB))
      (case aF => exact (fun k_ hk => ⟨Kd.fresh' (Kd.R_lt (rp_ HO233)) k_ hk, Kd.freshB (g := gb216) (o := .cells #[.int .i64 a2_0, .int .i64 a2_1, .string a2_2] 135 (0, 0)) (bp_ BK216) k_ hk⟩))
      (case aO => exact (rp_ HO223))
      (case aS => exact (below_size (bw_ HB)))
      (case aL => have := LMc24.out; omega)
      intro v229 w35 ho hb hg hat
      rw [← Ny228.out] at ho
      have n0_ := mk_ (blk_grown (g := gb215) (o := .cells #[.int .i64 a0_0, .int .i64 a0_1, .slice A0_2 l0_2.length c0_2] 59 (0, 0)) (bp_ BK215) hg (Kd.R_ne HO223.out BK215.out (by decide)))
      have n1_ := mk_ (blk_grown (g := gb216) (o := .cells #[.int .i64 a2_0, .int .i64 a2_1, .string a2_2] 135 (0, 0)) (bp_ BK216) hg (Kd.R_away HO223.out (fun _ hk => hk.2)))
      have n2_ := mk_ (blk_grown (g := gb217) (o := .cells #[.int .i64 0, .int .i64 0, .slice none 0 0] 59 (0, 0)) (bp_ BK217) hg (Kd.R_ne HO223.out BK217.out (by decide)))
      have n3_ := mk_ (Kd.R_after (ok := (fun k_ => k_ ≠ gb216)) (rq_ (Kd.R_mono HO233.out (fun _ hk => ⟨hk.2, hk.1⟩))) hg hat)
      have n4_ := mk_ (hb)
      have n5_ := mk_ (ho)
      clear BK215; clear BK216; clear BK217; clear HO233; clear HB; clear HO223; have BK215 := n0_; have BK216 := n1_; have BK217 := n2_; have HO233 := n3_; have HB := n4_; have HO230 := n5_; clear n0_ n1_ n2_ n3_ n4_ n5_; clear ho hb hg hat
      refine hK.out _ _ ⟨bc_ BK215 0, bc_ BK215 1, bc_ BK215 2, bc_ BK216 0, bc_ BK216 1, bc_ BK216 2⟩ (fun hHeld => ?_)
      clear hK K
      refine norm_ (a' := ?_) ?_ ?_
      rotate_left
      ·show Act.put _ (some 37) _ = _
       simp only [Act.put, sia_, scz_, scs_, i64_w, i32_w]
       rfl
      exact norm_ (by first | (simp only [putAll, Act.put, sia_, scz_, scs_]; done) | (simp only [putAll, Act.put, sia_, scz_, scs_]; rfl)) (hJ4_13_15 (v222, v229, v232) _ ⟨hHeld, (rp_ HO230), (rq_ (Kd.R_mono HO233.out (fun _ hk => ⟨hk.2, hk.1⟩))), (bp_ BK215), (bp_ BK216), (bp_ BK217), (bw_ HB)⟩)
     intro hJ4_15
     refine join_ (σ := Value × Nat) 5 #[true, true, true, true, true, true, true, true, true, true, true, true, true, false, true, false, false, false, true, false] (fun s_ => [(28, s_.1), (8, .pointer (some ⟨s_.2, 0, none⟩))]) (fun s_ w' => (w'.cell? ⟨gb215, 0, none⟩ = some (.int .i64 a0_0) ∧ w'.cell? ⟨gb215, 1, none⟩ = some (.int .i64 a0_1) ∧ w'.cell? ⟨gb215, 2, none⟩ = some (.slice A0_2 l0_2.length c0_2) ∧ w'.cell? ⟨gb216, 0, none⟩ = some (.int .i64 a2_0) ∧ w'.cell? ⟨gb216, 1, none⟩ = some (.int .i64 a2_1) ∧ w'.cell? ⟨gb216, 2, none⟩ = some (.string a2_2)) ∧ (Kd.R k135 135 w' w.heap.size (fun k_ => k_ ≠ gb216) s_.1 y221) ∧ (w'.heap[gb215]? = some (.cells #[.int .i64 a0_0, .int .i64 a0_1, .slice A0_2 l0_2.length c0_2] 59 (0, 0))) ∧ (w'.heap[gb216]? = some (.cells #[.int .i64 a2_0, .int .i64 a2_1, .string a2_2] 135 (0, 0))) ∧ (w'.heap[gb217]? = some (.cells #[.int .i64 0, .int .i64 0, .slice none 0 0] 59 (0, 0))) ∧ (w'.heap[s_.2]? = some (.cells #[.int .i64 0, .int .i64 0, .slice none 0 0] 59 (0, 0))) ∧ (w.heap.size ≤ s_.2) ∧ (w.heap.size ≤ s_.2) ∧ (gb215 ≠ s_.2) ∧ (s_.2 ≠ gb215) ∧ (gb216 ≠ s_.2) ∧ (s_.2 ≠ gb216) ∧ (gb217 ≠ s_.2) ∧ (s_.2 ≠ gb217) ∧ (Below w.heap.size w w')) ?_ ?_
     rotate_left
     rotate_left
     ·skip
      rintro ⟨v222, gb237⟩ w33 ⟨hS_, h0_, h1_, h2_, h3_, h4_, h5_, h6_, h7_, h8_, h9_, h10_, h11_, h12_, h13_⟩
      have n0_ : Aside0 (Kd.R k135 135 w33 w.heap.size (fun k_ => k_ ≠ gb216) v222 y221) := ⟨h0_⟩
      have n1_ : Aside0 (w33.heap[gb215]? = some (.cells #[.int .i64 a0_0, .int .i64 a0_1, .slice A0_2 l0_2.length c0_2] 59 (0, 0))) := ⟨h1_⟩
      have n2_ : Aside0 (w33.heap[gb216]? = some (.cells #[.int .i64 a2_0, .int .i64 a2_1, .string a2_2] 135 (0, 0))) := ⟨h2_⟩
      have n3_ : Aside0 (w33.heap[gb217]? = some (.cells #[.int .i64 0, .int .i64 0, .slice none 0 0] 59 (0, 0))) := ⟨h3_⟩
      have n4_ : Aside0 (w33.heap[gb237]? = some (.cells #[.int .i64 0, .int .i64 0, .slice none 0 0] 59 (0, 0))) := ⟨h4_⟩
      have n5_ : Aside0 (w.heap.size ≤ gb237) := ⟨h5_⟩
      have n6_ : Aside0 (w.heap.size ≤ gb237) := ⟨h6_⟩
      have n7_ : Aside0 (gb215 ≠ gb237) := ⟨h7_⟩
      have n8_ : Aside0 (gb237 ≠ gb215) := ⟨h8_⟩
      have n9_ : Aside0 (gb216 ≠ gb237) := ⟨h9_⟩
      have n10_ : Aside0 (gb237 ≠ gb216) := ⟨h10_⟩
      have n11_ : Aside0 (gb217 ≠ gb237) := ⟨h11_⟩
      have n12_ : Aside0 (gb237 ≠ gb217) := ⟨h12_⟩
      have n13_ : Aside0 (Below w.heap.size w w33) := ⟨h13_⟩
      clear BK215; clear BK216; clear BK217; clear HB; clear h0_ h1_ h2_ h3_ h4_ h5_ h6_ h7_ h8_ h9_ h10_ h11_ h12_ h13_; have HO223 := n0_; have BK215 := n1_; have BK216 := n2_; have BK217 := n3_; have BK237 := n4_; have GW237 := n5_; have GE237 := n6_; have NB215_237 := n7_; have NB237_215 := n8_; have NB216_237 := n9_; have NB237_216 := n10_; have NB217_237 := n11_; have NB237_217 := n12_; have HB := n13_; clear n0_ n1_ n2_ n3_ n4_ n5_ n6_ n7_ n8_ n9_ n10_ n11_ n12_ n13_
      have hHeld : w33.cell? ⟨gb215, 0, none⟩ = some (.int .i64 a0_0) ∧ w33.cell? ⟨gb215, 1, none⟩ = some (.int .i64 a0_1) ∧ w33.cell? ⟨gb215, 2, none⟩ = some (.slice A0_2 l0_2.length c0_2) ∧ w33.cell? ⟨gb216, 0, none⟩ = some (.int .i64 a2_0) ∧ w33.cell? ⟨gb216, 1, none⟩ = some (.int .i64 a2_1) ∧ w33.cell? ⟨gb216, 2, none⟩ = some (.string a2_2) := hS_
      refine norm_ (a' := ?_) ?_ ?_
      rotate_left
      ·simp only [putAll, Act.put, sia_, scz_, scs_]
       rfl
      refine two_ (i := 13) (j := 15) (Ni := some 37) (Nj := some 39) #[true, true, true, true, true, true, true, true, true, true, true, true, true, true, true, false, false, false, true, false] #[true, true, true, true, true, true, true, true, true, true, true, true, true, false, true, true, false, false, true, false] rfl rfl rfl rfl (two_of HT_.out (by kernel_rfl)) (by decide) (by decide) (fun K hK => ?_) (fun K hK => ?_)
      rotate_left
      ·skip
       refine Kd.R_lit_step k135 _ 135 ?hg (N := 39) ?hd (xs := ([(⟨a2_0, a2_1, a2_2⟩ : S135)] : List (S135))) (inner := [.int .i64 a2_0, .int .i64 a2_1, .string a2_2]) (ok := fun _ => True) (okp := fun _ => True) ?hr ?hp (fun _ hk => hk) trivial (Below.refl _ _) (Nat.le_refl _) (by simp) ?_; (case hd => rfl); (case hg => rfl); (case hr => first | (go_simp; done) | (go_simp; rfl)); (case hp => exact (Reps.c3 (show Kd.M k135 _ _ _ (⟨a2_0, a2_1, a2_2⟩ : S135) [.int .i64 a2_0, .int .i64 a2_1, .string a2_2] from (k135_mkM _ _ _ (⟨a2_0, a2_1, a2_2⟩ : S135) )) (Reps.none _ _)))
       intro v232 w34 ho35 hb hg_ hnew_
       clear hg_ hnew_
       (first | rw [← Ny231.out] at ho35 | (simp only [Int.reduceToNat] at ho35; rw [← Ny231.out] at ho35))
       have n0_ := mk_ (Kd.R_elder' (rp_ HO223) (Kd.R_base ho35) hb)
       have n1_ := mk_ (Kd.R_lower (Kd.R_newB (Kd.R_new' ho35 (Kd.R_lt (rp_ HO223))) (g := gb216) (o := .cells #[.int .i64 a2_0, .int .i64 a2_1, .string a2_2] 135 (0, 0)) (bp_ BK216)) (below_size (bw_ HB)))
       clear HO223; have HO223 := n0_; have HO233 := n1_; clear n0_ n1_; replace BK215 := bb_ BK215 hb; replace BK216 := bb_ BK216 hb; replace BK217 := bb_ BK217 hb; replace BK237 := bb_ BK237 hb; replace HB := bs_ HB hb; clear hb ho35
       refine hK.out _ _ ⟨bc_ BK215 0, bc_ BK215 1, bc_ BK215 2, bc_ BK216 0, bc_ BK216 1, bc_ BK216 2⟩ (fun hHeld => ?_)
       clear hK K
       refine norm_ (a' := ?_) ?_ ?_
       rotate_left
       ·show Act.put _ (some 39) _ = _
        simp only [Act.put, sia_, scz_, scs_, i64_w, i32_w]
        rfl
       exact norm_ (by first | (simp only [putAll, Act.put, sia_, scz_, scs_]; done) | (simp only [putAll, Act.put, sia_, scz_, scs_]; rfl)) (hJ4_15_18 (v222, v232, gb237) _ ⟨hHeld, (rq_ (Kd.R_mono HO223.out (fun _ hk => ⟨hk.2, hk.1⟩))), (rq_ (Kd.R_mono HO233.out (fun _ hk => ⟨hk.1.2, hk.2⟩))), (bp_ BK215), (bp_ BK216), (bp_ BK217), (bp_ BK237), GW237.out, GE237.out, NB215_237.out, NB237_215.out, NB216_237.out, NB237_216.out, NB217_237.out, NB237_217.out, (bw_ HB)⟩)
      skip
      refine Kd.R_append_rows_step k135 (w0 := w) w.heap.size (by rfl) (.tmp 28) (.tmp 36) 57 135 (.agg #[(.int .i64 0), (.int .i64 0), (.string ⟨#[]⟩)]) 32 rfl Try.underlying57 info135 rfl (by decide) (by omega) v222 y221 y224 _ _ _ (fun k_ => k_ ≠ gb216) (fun _ => False) rfl rfl ?aO ?aR (fun _ _ h => h) (fun _ h => h.elim) ?aF ?aB ?aS ?aL ?_
      (case aR => exact cb_ HR227 HB)
      (case aB => exact (bw_ HB))
      (case aF => exact (fun k_ hk => Kd.freshB (g := gb216) (o := .cells #[.int .i64 a2_0, .int .i64 a2_1, .string a2_2] 135 (0, 0)) (bp_ BK216) k_ hk))
      (case aO => exact (rp_ HO223))
      (case aS => exact (below_size (bw_ HB)))
      (case aL => have := LMc24.out; omega)
      intro v229 w34 ho hb hg hat
      rw [← Ny228.out] at ho
      have n0_ := mk_ (blk_grown (g := gb215) (o := .cells #[.int .i64 a0_0, .int .i64 a0_1, .slice A0_2 l0_2.length c0_2] 59 (0, 0)) (bp_ BK215) hg (Kd.R_ne HO223.out BK215.out (by decide)))
      have n1_ := mk_ (blk_grown (g := gb216) (o := .cells #[.int .i64 a2_0, .int .i64 a2_1, .string a2_2] 135 (0, 0)) (bp_ BK216) hg (Kd.R_away HO223.out (fun _ hk => hk)))
      have n2_ := mk_ (blk_grown (g := gb217) (o := .cells #[.int .i64 0, .int .i64 0, .slice none 0 0] 59 (0, 0)) (bp_ BK217) hg (Kd.R_ne HO223.out BK217.out (by decide)))
      have n3_ := mk_ (blk_grown (g := gb237) (o := .cells #[.int .i64 0, .int .i64 0, .slice none 0 0] 59 (0, 0)) (bp_ BK237) hg (Kd.R_ne HO223.out BK237.out (by decide)))
      have n4_ := mk_ (hb)
      have n5_ := mk_ (ho)
      clear BK215; clear BK216; clear BK217; clear BK237; clear HB; clear HO223; have BK215 := n0_; have BK216 := n1_; have BK217 := n2_; have BK237 := n3_; have HB := n4_; have HO230 := n5_; clear n0_ n1_ n2_ n3_ n4_ n5_; clear ho hb hg hat
      refine hK.out _ _ ⟨bc_ BK215 0, bc_ BK215 1, bc_ BK215 2, bc_ BK216 0, bc_ BK216 1, bc_ BK216 2⟩ (fun hHeld => ?_)
      clear hK K
      refine norm_ (a' := ?_) ?_ ?_
      rotate_left
      ·show Act.put _ (some 37) _ = _
       simp only [Act.put, sia_, scz_, scs_, i64_w, i32_w]
       rfl
      exact norm_ (by first | (simp only [putAll, Act.put, sia_, scz_, scs_]; done) | (simp only [putAll, Act.put, sia_, scz_, scs_]; rfl)) (hJ4_13_18 (v222, v229, gb237) _ ⟨hHeld, (rp_ HO230), (bp_ BK215), (bp_ BK216), (bp_ BK217), (bp_ BK237), GW237.out, GE237.out, NB215_237.out, NB237_215.out, NB216_237.out, NB237_216.out, NB217_237.out, NB237_217.out, (bw_ HB)⟩)
     intro hJ4_18
     refine join_ (σ := Value × Nat) 5 #[true, true, true, true, false, true, true, true, true, true, true, true, true, false, true, true, false, false, true, false] (fun s_ => [(39, s_.1), (8, .pointer (some ⟨s_.2, 0, none⟩))]) (fun s_ w' => (w'.cell? ⟨gb215, 0, none⟩ = some (.int .i64 a0_0) ∧ w'.cell? ⟨gb215, 1, none⟩ = some (.int .i64 a0_1) ∧ w'.cell? ⟨gb215, 2, none⟩ = some (.slice A0_2 l0_2.length c0_2) ∧ w'.cell? ⟨gb216, 0, none⟩ = some (.int .i64 a2_0) ∧ w'.cell? ⟨gb216, 1, none⟩ = some (.int .i64 a2_1) ∧ w'.cell? ⟨gb216, 2, none⟩ = some (.string a2_2)) ∧ (Kd.R k135 135 w' w.heap.size (fun k_ => k_ ≠ gb216) s_.1 y231) ∧ (w'.heap[gb215]? = some (.cells #[.int .i64 a0_0, .int .i64 a0_1, .slice A0_2 l0_2.length c0_2] 59 (0, 0))) ∧ (w'.heap[gb216]? = some (.cells #[.int .i64 a2_0, .int .i64 a2_1, .string a2_2] 135 (0, 0))) ∧ (w'.heap[gb217]? = some (.cells #[.int .i64 0, .int .i64 0, .slice none 0 0] 59 (0, 0))) ∧ (w'.heap[s_.2]? = some (.cells #[.int .i64 0, .int .i64 0, .slice none 0 0] 59 (0, 0))) ∧ (w.heap.size ≤ s_.2) ∧ (w.heap.size ≤ s_.2) ∧ (gb215 ≠ s_.2) ∧ (s_.2 ≠ gb215) ∧ (gb216 ≠ s_.2) ∧ (s_.2 ≠ gb216) ∧ (gb217 ≠ s_.2) ∧ (s_.2 ≠ gb217) ∧ (Below w.heap.size w w')) ?_ ?_
     rotate_left
     rotate_left
     ·skip
      rintro ⟨v232, gb237⟩ w33 ⟨hS_, h0_, h1_, h2_, h3_, h4_, h5_, h6_, h7_, h8_, h9_, h10_, h11_, h12_, h13_⟩
      have n0_ : Aside0 (Kd.R k135 135 w33 w.heap.size (fun k_ => k_ ≠ gb216) v232 y231) := ⟨h0_⟩
      have n1_ : Aside0 (w33.heap[gb215]? = some (.cells #[.int .i64 a0_0, .int .i64 a0_1, .slice A0_2 l0_2.length c0_2] 59 (0, 0))) := ⟨h1_⟩
      have n2_ : Aside0 (w33.heap[gb216]? = some (.cells #[.int .i64 a2_0, .int .i64 a2_1, .string a2_2] 135 (0, 0))) := ⟨h2_⟩
      have n3_ : Aside0 (w33.heap[gb217]? = some (.cells #[.int .i64 0, .int .i64 0, .slice none 0 0] 59 (0, 0))) := ⟨h3_⟩
      have n4_ : Aside0 (w33.heap[gb237]? = some (.cells #[.int .i64 0, .int .i64 0, .slice none 0 0] 59 (0, 0))) := ⟨h4_⟩
      have n5_ : Aside0 (w.heap.size ≤ gb237) := ⟨h5_⟩
      have n6_ : Aside0 (w.heap.size ≤ gb237) := ⟨h6_⟩
      have n7_ : Aside0 (gb215 ≠ gb237) := ⟨h7_⟩
      have n8_ : Aside0 (gb237 ≠ gb215) := ⟨h8_⟩
      have n9_ : Aside0 (gb216 ≠ gb237) := ⟨h9_⟩
      have n10_ : Aside0 (gb237 ≠ gb216) := ⟨h10_⟩
      have n11_ : Aside0 (gb217 ≠ gb237) := ⟨h11_⟩
      have n12_ : Aside0 (gb237 ≠ gb217) := ⟨h12_⟩
      have n13_ : Aside0 (Below w.heap.size w w33) := ⟨h13_⟩
      clear BK215; clear BK216; clear BK217; clear HB; clear h0_ h1_ h2_ h3_ h4_ h5_ h6_ h7_ h8_ h9_ h10_ h11_ h12_ h13_; have HO233 := n0_; have BK215 := n1_; have BK216 := n2_; have BK217 := n3_; have BK237 := n4_; have GW237 := n5_; have GE237 := n6_; have NB215_237 := n7_; have NB237_215 := n8_; have NB216_237 := n9_; have NB237_216 := n10_; have NB217_237 := n11_; have NB237_217 := n12_; have HB := n13_; clear n0_ n1_ n2_ n3_ n4_ n5_ n6_ n7_ n8_ n9_ n10_ n11_ n12_ n13_
      have hHeld : w33.cell? ⟨gb215, 0, none⟩ = some (.int .i64 a0_0) ∧ w33.cell? ⟨gb215, 1, none⟩ = some (.int .i64 a0_1) ∧ w33.cell? ⟨gb215, 2, none⟩ = some (.slice A0_2 l0_2.length c0_2) ∧ w33.cell? ⟨gb216, 0, none⟩ = some (.int .i64 a2_0) ∧ w33.cell? ⟨gb216, 1, none⟩ = some (.int .i64 a2_1) ∧ w33.cell? ⟨gb216, 2, none⟩ = some (.string a2_2) := hS_
      refine norm_ (a' := ?_) ?_ ?_
      rotate_left
      ·simp only [putAll, Act.put, sia_, scz_, scs_]
       rfl
      refine one_ (i := 4) (N := some 28) #[true, true, true, true, true, true, true, true, true, true, true, true, true, false, true, true, false, false, true, false] rfl rfl (one_of HT_.out (by kernel_rfl)) (by decide) (fun K hK => ?_)
      refine Kd.R_lit_step k135 _ 135 ?hg (N := 28) ?hd (xs := ([] : List (S135))) (inner := []) (ok := fun _ => True) (okp := fun _ => True) ?hr ?hp (fun _ hk => hk) trivial (Below.refl _ _) (Nat.le_refl _) (by simp) ?_; (case hd => rfl); (case hg => rfl); (case hr => first | (go_simp; done) | (go_simp; rfl)); (case hp => exact (Reps.none _ _))
      intro v222 w34 ho35 hb hg_ hnew_
      clear hg_ hnew_
      (first | rw [← Ny221.out] at ho35 | (simp only [Int.reduceToNat] at ho35; rw [← Ny221.out] at ho35))
      have n0_ := mk_ (Kd.R_elder' (rp_ HO233) (Kd.R_base ho35) hb)
      have n1_ := mk_ (Kd.R_lower (Kd.R_newB (Kd.R_new' ho35 (Kd.R_lt (rp_ HO233))) (g := gb216) (o := .cells #[.int .i64 a2_0, .int .i64 a2_1, .string a2_2] 135 (0, 0)) (bp_ BK216)) (below_size (bw_ HB)))
      clear HO233; have HO233 := n0_; have HO223 := n1_; clear n0_ n1_; replace BK215 := bb_ BK215 hb; replace BK216 := bb_ BK216 hb; replace BK217 := bb_ BK217 hb; replace BK237 := bb_ BK237 hb; replace HB := bs_ HB hb; clear hb ho35
      refine hK.out _ _ ⟨bc_ BK215 0, bc_ BK215 1, bc_ BK215 2, bc_ BK216 0, bc_ BK216 1, bc_ BK216 2⟩ (fun hHeld => ?_)
      clear hK K
      refine norm_ (a' := ?_) ?_ ?_
      rotate_left
      ·show Act.put _ (some 28) _ = _
       simp only [Act.put, sia_, scz_, scs_, i64_w, i32_w]
       rfl
      exact norm_ (by first | (simp only [putAll, Act.put, sia_, scz_, scs_]; done) | (simp only [putAll, Act.put, sia_, scz_, scs_]; rfl)) (hJ4_15_18 (v222, v232, gb237) _ ⟨hHeld, (rq_ (Kd.R_mono HO223.out (fun _ hk => ⟨hk.1.2, hk.2⟩))), (rq_ (Kd.R_mono HO233.out (fun _ hk => ⟨hk.2, hk.1⟩))), (bp_ BK215), (bp_ BK216), (bp_ BK217), (bp_ BK237), GW237.out, GE237.out, NB215_237.out, NB237_215.out, NB216_237.out, NB237_216.out, NB217_237.out, NB237_217.out, (bw_ HB)⟩)
     intro hJ15_18
     refine join_ (σ := Value) 6 #[true, true, true, true, true, true, true, true, true, true, true, true, true, false, true, false, false, false, false, false] (fun s_ => [(28, s_)]) (fun s_ w' => (w'.cell? ⟨gb215, 0, none⟩ = some (.int .i64 a0_0) ∧ w'.cell? ⟨gb215, 1, none⟩ = some (.int .i64 a0_1) ∧ w'.cell? ⟨gb215, 2, none⟩ = some (.slice A0_2 l0_2.length c0_2) ∧ w'.cell? ⟨gb216, 0, none⟩ = some (.int .i64 a2_0) ∧ w'.cell? ⟨gb216, 1, none⟩ = some (.int .i64 a2_1) ∧ w'.cell? ⟨gb216, 2, none⟩ = some (.string a2_2)) ∧ (Kd.R k135 135 w' w.heap.size (fun k_ => k_ ≠ gb216) s_ y221) ∧ (w'.heap[gb215]? = some (.cells #[.int .i64 a0_0, .int .i64 a0_1, .slice A0_2 l0_2.length c0_2] 59 (0, 0))) ∧ (w'.heap[gb216]? = some (.cells #[.int .i64 a2_0, .int .i64 a2_1, .string a2_2] 135 (0, 0))) ∧ (w'.heap[gb217]? = some (.cells #[.int .i64 0, .int .i64 0, .slice none 0 0] 59 (0, 0))) ∧ (Below w.heap.size w w')) ?_ ?_
     rotate_left
     rotate_left
     ·skip
      rintro v222 w32 ⟨hS_, h0_, h1_, h2_, h3_, h4_⟩
      have n0_ : Aside0 (Kd.R k135 135 w32 w.heap.size (fun k_ => k_ ≠ gb216) v222 y221) := ⟨h0_⟩
      have n1_ : Aside0 (w32.heap[gb215]? = some (.cells #[.int .i64 a0_0, .int .i64 a0_1, .slice A0_2 l0_2.length c0_2] 59 (0, 0))) := ⟨h1_⟩
      have n2_ : Aside0 (w32.heap[gb216]? = some (.cells #[.int .i64 a2_0, .int .i64 a2_1, .string a2_2] 135 (0, 0))) := ⟨h2_⟩
      have n3_ : Aside0 (w32.heap[gb217]? = some (.cells #[.int .i64 0, .int .i64 0, .slice none 0 0] 59 (0, 0))) := ⟨h3_⟩
      have n4_ : Aside0 (Below w.heap.size w w32) := ⟨h4_⟩
      clear BK215; clear BK216; clear BK217; clear HB; clear h0_ h1_ h2_ h3_ h4_; have HO223 := n0_; have BK215 := n1_; have BK216 := n2_; have BK217 := n3_; have HB := n4_; clear n0_ n1_ n2_ n3_ n4_
      have hHeld : w32.cell? ⟨gb215, 0, none⟩ = some (.int .i64 a0_0) ∧ w32.cell? ⟨gb215, 1, none⟩ = some (.int .i64 a0_1) ∧ w32.cell? ⟨gb215, 2, none⟩ = some (.slice A0_2 l0_2.length c0_2) ∧ w32.cell? ⟨gb216, 0, none⟩ = some (.int .i64 a2_0) ∧ w32.cell? ⟨gb216, 1, none⟩ = some (.int .i64 a2_1) ∧ w32.cell? ⟨gb216, 2, none⟩ = some (.string a2_2) := hS_
      refine norm_ (a' := ?_) ?_ ?_
      rotate_left
      ·simp only [putAll, Act.put, sia_, scz_, scs_]
       rfl
      refine three_ (i := 13) (j := 15) (k := 18) (Ni := some 37) (Nj := some 39) (Nk := some 8) #[true, true, true, true, true, true, true, true, true, true, true, true, true, true, true, false, false, false, false, false] #[true, true, true, true, true, true, true, true, true, true, true, true, true, false, true, true, false, false, false, false] #[true, true, true, true, true, true, true, true, true, true, true, true, true, false, true, false, false, false, true, false] rfl rfl rfl rfl rfl rfl (three_of HT_.out (by kernel_rfl)) (by decide) (by decide) (by decide) (fun K hK => ?_) (fun K hK => ?_) (fun K hK => ?_)
      rotate_left
      ·skip
       refine Kd.R_lit_step k135 _ 135 ?hg (N := 39) ?hd (xs := ([(⟨a2_0, a2_1, a2_2⟩ : S135)] : List (S135))) (inner := [.int .i64 a2_0, .int .i64 a2_1, .string a2_2]) (ok := fun _ => True) (okp := fun _ => True) ?hr ?hp (fun _ hk => hk) trivial (Below.refl _ _) (Nat.le_refl _) (by simp) ?_; (case hd => rfl); (case hg => rfl); (case hr => first | (go_simp; done) | (go_simp; rfl)); (case hp => exact (Reps.c3 (show Kd.M k135 _ _ _ (⟨a2_0, a2_1, a2_2⟩ : S135) [.int .i64 a2_0, .int .i64 a2_1, .string a2_2] from (k135_mkM _ _ _ (⟨a2_0, a2_1, a2_2⟩ : S135) )) (Reps.none _ _)))
       intro v232 w33 ho34 hb hg_ hnew_
       clear hg_ hnew_
       (first | rw [← Ny231.out] at ho34 | (simp only [Int.reduceToNat] at ho34; rw [← Ny231.out] at ho34))
       have n0_ := mk_ (Kd.R_elder' (rp_ HO223) (Kd.R_base ho34) hb)
       have n1_ := mk_ (Kd.R_lower (Kd.R_newB (Kd.R_new' ho34 (Kd.R_lt (rp_ HO223))) (g := gb216) (o := .cells #[.int .i64 a2_0, .int .i64 a2_1, .string a2_2] 135 (0, 0)) (bp_ BK216)) (below_size (bw_ HB)))
       clear HO223; have HO223 := n0_; have HO233 := n1_; clear n0_ n1_; replace BK215 := bb_ BK215 hb; replace BK216 := bb_ BK216 hb; replace BK217 := bb_ BK217 hb; replace HB := bs_ HB hb; clear hb ho34
       refine hK.out _ _ ⟨bc_ BK215 0, bc_ BK215 1, bc_ BK215 2, bc_ BK216 0, bc_ BK216 1, bc_ BK216 2⟩ (fun hHeld => ?_)
       clear hK K
       refine norm_ (a' := ?_) ?_ ?_
       rotate_left
       ·show Act.put _ (some 39) _ = _
        simp only [Act.put, sia_, scz_, scs_, i64_w, i32_w]
        rfl
       exact norm_ (by first | (simp only [putAll, Act.put, sia_, scz_, scs_]; done) | (simp only [putAll, Act.put, sia_, scz_, scs_]; rfl)) (hJ4_15 (v222, v232) _ ⟨hHeld, (rq_ (Kd.R_mono HO223.out (fun _ hk => ⟨hk.2, hk.1⟩))), (rq_ (Kd.R_mono HO233.out (fun _ hk => ⟨hk.1.2, hk.2⟩))), (bp_ BK215), (bp_ BK216), (bp_ BK217), (bw_ HB)⟩)
      ·skip
       refine box_step ?hg (N := 8) ?hd (cs := #[.int .i64 0, .int .i64 0, .slice none 0 0]) (t := 59) ?hr ?_; (case hd => rfl); (case hg => rfl); (case hr => first | (go_simp; done) | (go_simp; rfl))
       intro gb237 hg w33 hbox hb
       have n5_ := mk_ (hbox)
       have n6_ : Aside0 (w.heap.size ≤ gb237) := bz_ hg
       have n7_ : Aside0 (w.heap.size ≤ gb237) := bz_ hg
       have n8_ : Aside0 (gb215 ≠ gb237) := bl_ BK215 hg
       have n9_ : Aside0 (gb237 ≠ gb215) := bg_ BK215 hg
       have n10_ : Aside0 (gb216 ≠ gb237) := bl_ BK216 hg
       have n11_ : Aside0 (gb237 ≠ gb216) := bg_ BK216 hg
       have n12_ : Aside0 (gb217 ≠ gb237) := bl_ BK217 hg
       have n13_ : Aside0 (gb237 ≠ gb217) := bg_ BK217 hg
       have BK237 := n5_; have GW237 := n6_; have GE237 := n7_; have NB215_237 := n8_; have NB237_215 := n9_; have NB216_237 := n10_; have NB237_216 := n11_; have NB217_237 := n12_; have NB237_217 := n13_; clear n5_ n6_ n7_ n8_ n9_ n10_ n11_ n12_ n13_; replace HO223 := rb_ HO223 hb; replace BK215 := bb_ BK215 hb; replace BK216 := bb_ BK216 hb; replace BK217 := bb_ BK217 hb; replace HB := bs_ HB hb; clear hb hbox hg
       refine hK.out _ _ ⟨bc_ BK215 0, bc_ BK215 1, bc_ BK215 2, bc_ BK216 0, bc_ BK216 1, bc_ BK216 2⟩ (fun hHeld => ?_)
       clear hK K
       refine norm_ (a' := ?_) ?_ ?_
       rotate_left
       ·show Act.put _ (some 8) _ = _
        simp only [Act.put, sia_, scz_, scs_, i64_w, i32_w]
        rfl
       exact norm_ (by first | (simp only [putAll, Act.put, sia_, scz_, scs_]; done) | (simp only [putAll, Act.put, sia_, scz_, scs_]; rfl)) (hJ4_18 (v222, gb237) _ ⟨hHeld, (rp_ HO223), (bp_ BK215), (bp_ BK216), (bp_ BK217), (bp_ BK237), GW237.out, GE237.out, NB215_237.out, NB237_215.out, NB216_237.out, NB237_216.out, NB217_237.out, NB237_217.out, (bw_ HB)⟩)
      skip
      refine Kd.R_append_rows_step k135 (w0 := w) w.heap.size (by rfl) (.tmp 28) (.tmp 36) 57 135 (.agg #[(.int .i64 0), (.int .i64 0), (.string ⟨#[]⟩)]) 32 rfl Try.underlying57 info135 rfl (by decide) (by omega) v222 y221 y224 _ _ _ (fun k_ => k_ ≠ gb216) (fun _ => False) rfl rfl ?aO ?aR (fun _ _ h => h) (fun _ h => h.elim) ?aF ?aB ?aS ?aL ?_
      (case aR => exact cb_ HR227 HB)
      (case aB => exact (bw_ HB))
      (case aF => exact (fun k_ hk => Kd.freshB (g := gb216) (o := .cells #[.int .i64 a2_0, .int .i64 a2_1, .string a2_2] 135 (0, 0)) (bp_ BK216) k_ hk))
      (case aO => exact (rp_ HO223))
      (case aS => exact (below_size (bw_ HB)))
      (case aL => have := LMc24.out; omega)
      intro v229 w33 ho hb hg hat
      rw [← Ny228.out] at ho
      have n0_ := mk_ (blk_grown (g := gb215) (o := .cells #[.int .i64 a0_0, .int .i64 a0_1, .slice A0_2 l0_2.length c0_2] 59 (0, 0)) (bp_ BK215) hg (Kd.R_ne HO223.out BK215.out (by decide)))
      have n1_ := mk_ (blk_grown (g := gb216) (o := .cells #[.int .i64 a2_0, .int .i64 a2_1, .string a2_2] 135 (0, 0)) (bp_ BK216) hg (Kd.R_away HO223.out (fun _ hk => hk)))
      have n2_ := mk_ (blk_grown (g := gb217) (o := .cells #[.int .i64 0, .int .i64 0, .slice none 0 0] 59 (0, 0)) (bp_ BK217) hg (Kd.R_ne HO223.out BK217.out (by decide)))
      have n3_ := mk_ (hb)
      have n4_ := mk_ (ho)
      clear BK215; clear BK216; clear BK217; clear HB; clear HO223; have BK215 := n0_; have BK216 := n1_; have BK217 := n2_; have HB := n3_; have HO230 := n4_; clear n0_ n1_ n2_ n3_ n4_; clear ho hb hg hat
      refine hK.out _ _ ⟨bc_ BK215 0, bc_ BK215 1, bc_ BK215 2, bc_ BK216 0, bc_ BK216 1, bc_ BK216 2⟩ (fun hHeld => ?_)
      clear hK K
      refine norm_ (a' := ?_) ?_ ?_
      rotate_left
      ·show Act.put _ (some 37) _ = _
       simp only [Act.put, sia_, scz_, scs_, i64_w, i32_w]
       rfl
      exact norm_ (by first | (simp only [putAll, Act.put, sia_, scz_, scs_]; done) | (simp only [putAll, Act.put, sia_, scz_, scs_]; rfl)) (hJ4_13 (v222, v229) _ ⟨hHeld, (rp_ HO230), (bp_ BK215), (bp_ BK216), (bp_ BK217), (bw_ HB)⟩)
     intro hJ4
     refine join_ (σ := Value) 6 #[true, true, true, true, false, true, true, true, true, true, true, true, true, false, true, true, false, false, false, false] (fun s_ => [(39, s_)]) (fun s_ w' => (w'.cell? ⟨gb215, 0, none⟩ = some (.int .i64 a0_0) ∧ w'.cell? ⟨gb215, 1, none⟩ = some (.int .i64 a0_1) ∧ w'.cell? ⟨gb215, 2, none⟩ = some (.slice A0_2 l0_2.length c0_2) ∧ w'.cell? ⟨gb216, 0, none⟩ = some (.int .i64 a2_0) ∧ w'.cell? ⟨gb216, 1, none⟩ = some (.int .i64 a2_1) ∧ w'.cell? ⟨gb216, 2, none⟩ = some (.string a2_2)) ∧ (Kd.R k135 135 w' w.heap.size (fun k_ => k_ ≠ gb216) s_ y231) ∧ (w'.heap[gb215]? = some (.cells #[.int .i64 a0_0, .int .i64 a0_1, .slice A0_2 l0_2.length c0_2] 59 (0, 0))) ∧ (w'.heap[gb216]? = some (.cells #[.int .i64 a2_0, .int .i64 a2_1, .string a2_2] 135 (0, 0))) ∧ (w'.heap[gb217]? = some (.cells #[.int .i64 0, .int .i64 0, .slice none 0 0] 59 (0, 0))) ∧ (Below w.heap.size w w')) ?_ ?_
     rotate_left
     rotate_left
     ·skip
      rintro v232 w32 ⟨hS_, h0_, h1_, h2_, h3_, h4_⟩
      have n0_ : Aside0 (Kd.R k135 135 w32 w.heap.size (fun k_ => k_ ≠ gb216) v232 y231) := ⟨h0_⟩
      have n1_ : Aside0 (w32.heap[gb215]? = some (.cells #[.int .i64 a0_0, .int .i64 a0_1, .slice A0_2 l0_2.length c0_2] 59 (0, 0))) := ⟨h1_⟩
      have n2_ : Aside0 (w32.heap[gb216]? = some (.cells #[.int .i64 a2_0, .int .i64 a2_1, .string a2_2] 135 (0, 0))) := ⟨h2_⟩
      have n3_ : Aside0 (w32.heap[gb217]? = some (.cells #[.int .i64 0, .int .i64 0, .slice none 0 0] 59 (0, 0))) := ⟨h3_⟩
      have n4_ : Aside0 (Below w.heap.size w w32) := ⟨h4_⟩
      clear BK215; clear BK216; clear BK217; clear HB; clear h0_ h1_ h2_ h3_ h4_; have HO233 := n0_; have BK215 := n1_; have BK216 := n2_; have BK217 := n3_; have HB := n4_; clear n0_ n1_ n2_ n3_ n4_
      have hHeld : w32.cell? ⟨gb215, 0, none⟩ = some (.int .i64 a0_0) ∧ w32.cell? ⟨gb215, 1, none⟩ = some (.int .i64 a0_1) ∧ w32.cell? ⟨gb215, 2, none⟩ = some (.slice A0_2 l0_2.length c0_2) ∧ w32.cell? ⟨gb216, 0, none⟩ = some (.int .i64 a2_0) ∧ w32.cell? ⟨gb216, 1, none⟩ = some (.int .i64 a2_1) ∧ w32.cell? ⟨gb216, 2, none⟩ = some (.string a2_2) := hS_
      refine norm_ (a' := ?_) ?_ ?_
      rotate_left
      ·simp only [putAll, Act.put, sia_, scz_, scs_]
       rfl
      refine two_ (i := 4) (j := 18) (Ni := some 28) (Nj := some 8) #[true, true, true, true, true, true, true, true, true, true, true, true, true, false, true, true, false, false, false, false] #[true, true, true, true, false, true, true, true, true, true, true, true, true, false, true, true, false, false, true, false] rfl rfl rfl rfl (two_of HT_.out (by kernel_rfl)) (by decide) (by decide) (fun K hK => ?_) (fun K hK => ?_)
      ·skip
       refine Kd.R_lit_step k135 _ 135 ?hg (N := 28) ?hd (xs := ([] : List (S135))) (inner := []) (ok := fun _ => True) (okp := fun _ => True) ?hr ?hp (fun _ hk => hk) trivial (Below.refl _ _) (Nat.le_refl _) (by simp) ?_; (case hd => rfl); (case hg => rfl); (case hr => first | (go_simp; done) | (go_simp; rfl)); (case hp => exact (Reps.none _ _))
       intro v222 w33 ho34 hb hg_ hnew_
       clear hg_ hnew_
       (first | rw [← Ny221.out] at ho34 | (simp only [Int.reduceToNat] at ho34; rw [← Ny221.out] at ho34))
       have n0_ := mk_ (Kd.R_elder' (rp_ HO233) (Kd.R_base ho34) hb)
       have n1_ := mk_ (Kd.R_lower (Kd.R_newB (Kd.R_new' ho34 (Kd.R_lt (rp_ HO233))) (g := gb216) (o := .cells #[.int .i64 a2_0, .int .i64 a2_1, .string a2_2] 135 (0, 0)) (bp_ BK216)) (below_size (bw_ HB)))
       clear HO233; have HO233 := n0_; have HO223 := n1_; clear n0_ n1_; replace BK215 := bb_ BK215 hb; replace BK216 := bb_ BK216 hb; replace BK217 := bb_ BK217 hb; replace HB := bs_ HB hb; clear hb ho34
       refine hK.out _ _ ⟨bc_ BK215 0, bc_ BK215 1, bc_ BK215 2, bc_ BK216 0, bc_ BK216 1, bc_ BK216 2⟩ (fun hHeld => ?_)
       clear hK K
       refine norm_ (a' := ?_) ?_ ?_
       rotate_left
       ·show Act.put _ (some 28) _ = _
        simp only [Act.put, sia_, scz_, scs_, i64_w, i32_w]
        rfl
       exact norm_ (by first | (simp only [putAll, Act.put, sia_, scz_, scs_]; done) | (simp only [putAll, Act.put, sia_, scz_, scs_]; rfl)) (hJ4_15 (v222, v232) _ ⟨hHeld, (rq_ (Kd.R_mono HO223.out (fun _ hk => ⟨hk.1.2, hk.2⟩))), (rq_ (Kd.R_mono HO233.out (fun _ hk => ⟨hk.2, hk.1⟩))), (bp_ BK215), (bp_ BK216), (bp_ BK217), (bw_ HB)⟩)
      skip
      refine box_step ?hg (N := 8) ?hd (cs := #[.int .i64 0, .int .i64 0, .slice none 0 0]) (t := 59) ?hr ?_; (case hd => rfl); (case hg => rfl); (case hr => first | (go_simp; done) | (go_simp; rfl))
      intro gb237 hg w33 hbox hb
      have n5_ := mk_ (hbox)
      have n6_ : Aside0 (w.heap.size ≤ gb237) := bz_ hg
      have n7_ : Aside0 (w.heap.size ≤ gb237) := bz_ hg
      have n8_ : Aside0 (gb215 ≠ gb237) := bl_ BK215 hg
      have n9_ : Aside0 (gb237 ≠ gb215) := bg_ BK215 hg
      have n10_ : Aside0 (gb216 ≠ gb237) := bl_ BK216 hg
      have n11_ : Aside0 (gb237 ≠ gb216) := bg_ BK216 hg
      have n12_ : Aside0 (gb217 ≠ gb237) := bl_ BK217 hg
      have n13_ : Aside0 (gb237 ≠ gb217) := bg_ BK217 hg
      have BK237 := n5_; have GW237 := n6_; have GE237 := n7_; have NB215_237 := n8_; have NB237_215 := n9_; have NB216_237 := n10_; have NB237_216 := n11_; have NB217_237 := n12_; have NB237_217 := n13_; clear n5_ n6_ n7_ n8_ n9_ n10_ n11_ n12_ n13_; replace HO233 := rb_ HO233 hb; replace BK215 := bb_ BK215 hb; replace BK216 := bb_ BK216 hb; replace BK217 := bb_ BK217 hb; replace HB := bs_ HB hb; clear hb hbox hg
      refine hK.out _ _ ⟨bc_ BK215 0, bc_ BK215 1, bc_ BK215 2, bc_ BK216 0, bc_ BK216 1, bc_ BK216 2⟩ (fun hHeld => ?_)
      clear hK K
      refine norm_ (a' := ?_) ?_ ?_
      rotate_left
      ·show Act.put _ (some 8) _ = _
       simp only [Act.put, sia_, scz_, scs_, i64_w, i32_w]
       rfl
      exact norm_ (by first | (simp only [putAll, Act.put, sia_, scz_, scs_]; done) | (simp only [putAll, Act.put, sia_, scz_, scs_]; rfl)) (hJ15_18 (v232, gb237) _ ⟨hHeld, (rp_ HO233), (bp_ BK215), (bp_ BK216), (bp_ BK217), (bp_ BK237), GW237.out, GE237.out, NB215_237.out, NB237_215.out, NB216_237.out, NB237_216.out, NB217_237.out, NB237_217.out, (bw_ HB)⟩)
     intro hJ15
     refine join_ (σ := Nat) 6 #[true, true, true, true, false, true, true, true, true, true, true, true, true, false, true, false, false, false, true, false] (fun s_ => [(8, .pointer (some ⟨s_, 0, none⟩))]) (fun s_ w' => (w'.cell? ⟨gb215, 0, none⟩ = some (.int .i64 a0_0) ∧ w'.cell? ⟨gb215, 1, none⟩ = some (.int .i64 a0_1) ∧ w'.cell? ⟨gb215, 2, none⟩ = some (.slice A0_2 l0_2.length c0_2) ∧ w'.cell? ⟨gb216, 0, none⟩ = some (.int .i64 a2_0) ∧ w'.cell? ⟨gb216, 1, none⟩ = some (.int .i64 a2_1) ∧ w'.cell? ⟨gb216, 2, none⟩ = some (.string a2_2)) ∧ (w'.heap[gb215]? = some (.cells #[.int .i64 a0_0, .int .i64 a0_1, .slice A0_2 l0_2.length c0_2] 59 (0, 0))) ∧ (w'.heap[gb216]? = some (.cells #[.int .i64 a2_0, .int .i64 a2_1, .string a2_2] 135 (0, 0))) ∧ (w'.heap[gb217]? = some (.cells #[.int .i64 0, .int .i64 0, .slice none 0 0] 59 (0, 0))) ∧ (w'.heap[s_]? = some (.cells #[.int .i64 0, .int .i64 0, .slice none 0 0] 59 (0, 0))) ∧ (w.heap.size ≤ s_) ∧ (w.heap.size ≤ s_) ∧ (gb215 ≠ s_) ∧ (s_ ≠ gb215) ∧ (gb216 ≠ s_) ∧ (s_ ≠ gb216) ∧ (gb217 ≠ s_) ∧ (s_ ≠ gb217) ∧ (Below w.heap.size w w')) ?_ ?_
     rotate_left
     rotate_left
     ·skip
      rintro gb237 w31 ⟨hS_, h0_, h1_, h2_, h3_, h4_, h5_, h6_, h7_, h8_, h9_, h10_, h11_, h12_⟩
      have n0_ : Aside0 (w31.heap[gb215]? = some (.cells #[.int .i64 a0_0, .int .i64 a0_1, .slice A0_2 l0_2.length c0_2] 59 (0, 0))) := ⟨h0_⟩
      have n1_ : Aside0 (w31.heap[gb216]? = some (.cells #[.int .i64 a2_0, .int .i64 a2_1, .string a2_2] 135 (0, 0))) := ⟨h1_⟩
      have n2_ : Aside0 (w31.heap[gb217]? = some (.cells #[.int .i64 0, .int .i64 0, .slice none 0 0] 59 (0, 0))) := ⟨h2_⟩
      have n3_ : Aside0 (w31.heap[gb237]? = some (.cells #[.int .i64 0, .int .i64 0, .slice none 0 0] 59 (0, 0))) := ⟨h3_⟩
      have n4_ : Aside0 (w.heap.size ≤ gb237) := ⟨h4_⟩
      have n5_ : Aside0 (w.heap.size ≤ gb237) := ⟨h5_⟩
      have n6_ : Aside0 (gb215 ≠ gb237) := ⟨h6_⟩
      have n7_ : Aside0 (gb237 ≠ gb215) := ⟨h7_⟩
      have n8_ : Aside0 (gb216 ≠ gb237) := ⟨h8_⟩
      have n9_ : Aside0 (gb237 ≠ gb216) := ⟨h9_⟩
      have n10_ : Aside0 (gb217 ≠ gb237) := ⟨h10_⟩
      have n11_ : Aside0 (gb237 ≠ gb217) := ⟨h11_⟩
      have n12_ : Aside0 (Below w.heap.size w w31) := ⟨h12_⟩
      clear BK215; clear BK216; clear BK217; clear HB; clear h0_ h1_ h2_ h3_ h4_ h5_ h6_ h7_ h8_ h9_ h10_ h11_ h12_; have BK215 := n0_; have BK216 := n1_; have BK217 := n2_; have BK237 := n3_; have GW237 := n4_; have GE237 := n5_; have NB215_237 := n6_; have NB237_215 := n7_; have NB216_237 := n8_; have NB237_216 := n9_; have NB217_237 := n10_; have NB237_217 := n11_; have HB := n12_; clear n0_ n1_ n2_ n3_ n4_ n5_ n6_ n7_ n8_ n9_ n10_ n11_ n12_
      have hHeld : w31.cell? ⟨gb215, 0, none⟩ = some (.int .i64 a0_0) ∧ w31.cell? ⟨gb215, 1, none⟩ = some (.int .i64 a0_1) ∧ w31.cell? ⟨gb215, 2, none⟩ = some (.slice A0_2 l0_2.length c0_2) ∧ w31.cell? ⟨gb216, 0, none⟩ = some (.int .i64 a2_0) ∧ w31.cell? ⟨gb216, 1, none⟩ = some (.int .i64 a2_1) ∧ w31.cell? ⟨gb216, 2, none⟩ = some (.string a2_2) := hS_
      refine norm_ (a' := ?_) ?_ ?_
      rotate_left
      ·simp only [putAll, Act.put, sia_, scz_, scs_]
       rfl
      refine two_ (i := 4) (j := 15) (Ni := some 28) (Nj := some 39) #[true, true, true, true, true, true, true, true, true, true, true, true, true, false, true, false, false, false, true, false] #[true, true, true, true, false, true, true, true, true, true, true, true, true, false, true, true, false, false, true, false] rfl rfl rfl rfl (two_of HT_.out (by kernel_rfl)) (by decide) (by decide) (fun K hK => ?_) (fun K hK => ?_)
      rotate_left
      ·skip
       refine Kd.R_lit_step k135 _ 135 ?hg (N := 39) ?hd (xs := ([(⟨a2_0, a2_1, a2_2⟩ : S135)] : List (S135))) (inner := [.int .i64 a2_0, .int .i64 a2_1, .string a2_2]) (ok := fun _ => True) (okp := fun _ => True) ?hr ?hp (fun _ hk => hk) trivial (Below.refl _ _) (Nat.le_refl _) (by simp) ?_; (case hd => rfl); (case hg => rfl); (case hr => first | (go_simp; done) | (go_simp; rfl)); (case hp => exact (Reps.c3 (show Kd.M k135 _ _ _ (⟨a2_0, a2_1, a2_2⟩ : S135) [.int .i64 a2_0, .int .i64 a2_1, .string a2_2] from (k135_mkM _ _ _ (⟨a2_0, a2_1, a2_2⟩ : S135) )) (Reps.none _ _)))
       intro v232 w32 ho33 hb hg_ hnew_
       clear hg_ hnew_
       (first | rw [← Ny231.out] at ho33 | (simp only [Int.reduceToNat] at ho33; rw [← Ny231.out] at ho33))
       have n0_ := mk_ (Kd.R_lower (Kd.R_newB ho33 (g := gb216) (o := .cells #[.int .i64 a2_0, .int .i64 a2_1, .string a2_2] 135 (0, 0)) (bp_ BK216)) (below_size (bw_ HB)))
       have HO233 := n0_; clear n0_; replace BK215 := bb_ BK215 hb; replace BK216 := bb_ BK216 hb; replace BK217 := bb_ BK217 hb; replace BK237 := bb_ BK237 hb; replace HB := bs_ HB hb; clear hb ho33
       refine hK.out _ _ ⟨bc_ BK215 0, bc_ BK215 1, bc_ BK215 2, bc_ BK216 0, bc_ BK216 1, bc_ BK216 2⟩ (fun hHeld => ?_)
       clear hK K
       refine norm_ (a' := ?_) ?_ ?_
       rotate_left
       ·show Act.put _ (some 39) _ = _
        simp only [Act.put, sia_, scz_, scs_, i64_w, i32_w]
        rfl
       exact norm_ (by first | (simp only [putAll, Act.put, sia_, scz_, scs_]; done) | (simp only [putAll, Act.put, sia_, scz_, scs_]; rfl)) (hJ15_18 (v232, gb237) _ ⟨hHeld, (rq_ (Kd.R_mono HO233.out (fun _ hk => hk.2))), (bp_ BK215), (bp_ BK216), (bp_ BK217), (bp_ BK237), GW237.out, GE237.out, NB215_237.out, NB237_215.out, NB216_237.out, NB237_216.out, NB217_237.out, NB237_217.out, (bw_ HB)⟩)
      skip
      refine Kd.R_lit_step k135 _ 135 ?hg (N := 28) ?hd (xs := ([] : List (S135))) (inner := []) (ok := fun _ => True) (okp := fun _ => True) ?hr ?hp (fun _ hk => hk) trivial (Below.refl _ _) (Nat.le_refl _) (by simp) ?_; (case hd => rfl); (case hg => rfl); (case hr => first | (go_simp; done) | (go_simp; rfl)); (case hp => exact (Reps.none _ _))
      intro v222 w32 ho33 hb hg_ hnew_
      clear hg_ hnew_
      (first | rw [← Ny221.out] at ho33 | (simp only [Int.reduceToNat] at ho33; rw [← Ny221.out] at ho33))
      have n0_ := mk_ (Kd.R_lower (Kd.R_newB ho33 (g := gb216) (o := .cells #[.int .i64 a2_0, .int .i64 a2_1, .string a2_2] 135 (0, 0)) (bp_ BK216)) (below_size (bw_ HB)))
      have HO223 := n0_; clear n0_; replace BK215 := bb_ BK215 hb; replace BK216 := bb_ BK216 hb; replace BK217 := bb_ BK217 hb; replace BK237 := bb_ BK237 hb; replace HB := bs_ HB hb; clear hb ho33
      refine hK.out _ _ ⟨bc_ BK215 0, bc_ BK215 1, bc_ BK215 2, bc_ BK216 0, bc_ BK216 1, bc_ BK216 2⟩ (fun hHeld => ?_)
      clear hK K
      refine norm_ (a' := ?_) ?_ ?_
      rotate_left
      ·show Act.put _ (some 28) _ = _
       simp only [Act.put, sia_, scz_, scs_, i64_w, i32_w]
       rfl
      exact norm_ (by first | (simp only [putAll, Act.put, sia_, scz_, scs_]; done) | (simp only [putAll, Act.put, sia_, scz_, scs_]; rfl)) (hJ4_18 (v222, gb237) _ ⟨hHeld, (rq_ (Kd.R_mono HO223.out (fun _ hk => hk.2))), (bp_ BK215), (bp_ BK216), (bp_ BK217), (bp_ BK237), GW237.out, GE237.out, NB215_237.out, NB237_215.out, NB216_237.out, NB237_216.out, NB217_237.out, NB237_217.out, (bw_ HB)⟩)
     intro hJ18
     refine three_ (i := 4) (j := 15) (k := 18) (Ni := some 28) (Nj := some 39) (Nk := some 8) #[true, true, true, true, true, true, true, true, true, true, true, true, true, false, true, false, false, false, false, false] #[true, true, true, true, false, true, true, true, true, true, true, true, true, false, true, true, false, false, false, false] #[true, true, true, true, false, true, true, true, true, true, true, true, true, false, true, false, false, false, true, false] rfl rfl rfl rfl rfl rfl (three_of HT_.out (by kernel_rfl)) (by decide) (by decide) (by decide) (fun K hK => ?_) (fun K hK => ?_) (fun K hK => ?_)
     ·skip
      refine Kd.R_lit_step k135 _ 135 ?hg (N := 28) ?hd (xs := ([] : List (S135))) (inner := []) (ok := fun _ => True) (okp := fun _ => True) ?hr ?hp (fun _ hk => hk) trivial (Below.refl _ _) (Nat.le_refl _) (by simp) ?_; (case hd => rfl); (case hg => rfl); (case hr => first | (go_simp; done) | (go_simp; rfl)); (case hp => exact (Reps.none _ _))
      intro v222 w30 ho31 hb hg_ hnew_
      clear hg_ hnew_
      (first | rw [← Ny221.out] at ho31 | (simp only [Int.reduceToNat] at ho31; rw [← Ny221.out] at ho31))
      have n0_ := mk_ (Kd.R_lower (Kd.R_newB ho31 (g := gb216) (o := .cells #[.int .i64 a2_0, .int .i64 a2_1, .string a2_2] 135 (0, 0)) (bp_ BK216)) (below_size (bw_ HB)))
      have HO223 := n0_; clear n0_; replace BK215 := bb_ BK215 hb; replace BK216 := bb_ BK216 hb; replace BK217 := bb_ BK217 hb; replace HB := bs_ HB hb; clear hb ho31
      refine hK.out _ _ ⟨bc_ BK215 0, bc_ BK215 1, bc_ BK215 2, bc_ BK216 0, bc_ BK216 1, bc_ BK216 2⟩ (fun hHeld => ?_)
      clear hK K
      refine norm_ (a' := ?_) ?_ ?_
      rotate_left
      ·show Act.put _ (some 28) _ = _
       simp only [Act.put, sia_, scz_, scs_, i64_w, i32_w]
       rfl
      exact norm_ (by first | (simp only [putAll, Act.put, sia_, scz_, scs_]; done) | (simp only [putAll, Act.put, sia_, scz_, scs_]; rfl)) (hJ4 (v222) _ ⟨hHeld, (rq_ (Kd.R_mono HO223.out (fun _ hk => hk.2))), (bp_ BK215), (bp_ BK216), (bp_ BK217), (bw_ HB)⟩)
     ·skip
      refine Kd.R_lit_step k135 _ 135 ?hg (N := 39) ?hd (xs := ([(⟨a2_0, a2_1, a2_2⟩ : S135)] : List (S135))) (inner := [.int .i64 a2_0, .int .i64 a2_1, .string a2_2]) (ok := fun _ => True) (okp := fun _ => True) ?hr ?hp (fun _ hk => hk) trivial (Below.refl _ _) (Nat.le_refl _) (by simp) ?_; (case hd => rfl); (case hg => rfl); (case hr => first | (go_simp; done) | (go_simp; rfl)); (case hp => exact (Reps.c3 (show Kd.M k135 _ _ _ (⟨a2_0, a2_1, a2_2⟩ : S135) [.int .i64 a2_0, .int .i64 a2_1, .string a2_2] from (k135_mkM _ _ _ (⟨a2_0, a2_1, a2_2⟩ : S135) )) (Reps.none _ _)))
      intro v232 w30 ho31 hb hg_ hnew_
      clear hg_ hnew_
      (first | rw [← Ny231.out] at ho31 | (simp only [Int.reduceToNat] at ho31; rw [← Ny231.out] at ho31))
      have n0_ := mk_ (Kd.R_lower (Kd.R_newB ho31 (g := gb216) (o := .cells #[.int .i64 a2_0, .int .i64 a2_1, .string a2_2] 135 (0, 0)) (bp_ BK216)) (below_size (bw_ HB)))
      have HO233 := n0_; clear n0_; replace BK215 := bb_ BK215 hb; replace BK216 := bb_ BK216 hb; replace BK217 := bb_ BK217 hb; replace HB := bs_ HB hb; clear hb ho31
      refine hK.out _ _ ⟨bc_ BK215 0, bc_ BK215 1, bc_ BK215 2, bc_ BK216 0, bc_ BK216 1, bc_ BK216 2⟩ (fun hHeld => ?_)
      clear hK K
      refine norm_ (a' := ?_) ?_ ?_
      rotate_left
      ·show Act.put _ (some 39) _ = _
       simp only [Act.put, sia_, scz_, scs_, i64_w, i32_w]
       rfl
      exact norm_ (by first | (simp only [putAll, Act.put, sia_, scz_, scs_]; done) | (simp only [putAll, Act.put, sia_, scz_, scs_]; rfl)) (hJ15 (v232) _ ⟨hHeld, (rq_ (Kd.R_mono HO233.out (fun _ hk => hk.2))), (bp_ BK215), (bp_ BK216), (bp_ BK217), (bw_ HB)⟩)
     skip
     refine box_step ?hg (N := 8) ?hd (cs := #[.int .i64 0, .int .i64 0, .slice none 0 0]) (t := 59) ?hr ?_; (case hd => rfl); (case hg => rfl); (case hr => first | (go_simp; done) | (go_simp; rfl))
     intro gb237 hg w30 hbox hb
     have n4_ := mk_ (hbox)
     have n5_ : Aside0 (w.heap.size ≤ gb237) := bz_ hg
     have n6_ : Aside0 (w.heap.size ≤ gb237) := bz_ hg
     have n7_ : Aside0 (gb215 ≠ gb237) := bl_ BK215 hg
     have n8_ : Aside0 (gb237 ≠ gb215) := bg_ BK215 hg
     have n9_ : Aside0 (gb216 ≠ gb237) := bl_ BK216 hg
     have n10_ : Aside0 (gb237 ≠ gb216) := bg_ BK216 hg
     have n11_ : Aside0 (gb217 ≠ gb237) := bl_ BK217 hg
     have n12_ : Aside0 (gb237 ≠ gb217) := bg_ BK217 hg
     have BK237 := n4_; have GW237 := n5_; have GE237 := n6_; have NB215_237 := n7_; have NB237_215 := n8_; have NB216_237 := n9_; have NB237_216 := n10_; have NB217_237 := n11_; have NB237_217 := n12_; clear n4_ n5_ n6_ n7_ n8_ n9_ n10_ n11_ n12_; replace BK215 := bb_ BK215 hb; replace BK216 := bb_ BK216 hb; replace BK217 := bb_ BK217 hb; replace HB := bs_ HB hb; clear hb hbox hg
     refine hK.out _ _ ⟨bc_ BK215 0, bc_ BK215 1, bc_ BK215 2, bc_ BK216 0, bc_ BK216 1, bc_ BK216 2⟩ (fun hHeld => ?_)
     clear hK K
     refine norm_ (a' := ?_) ?_ ?_
     rotate_left
     ·show Act.put _ (some 8) _ = _
      simp only [Act.put, sia_, scz_, scs_, i64_w, i32_w]
      rfl
     exact norm_ (by first | (simp only [putAll, Act.put, sia_, scz_, scs_]; done) | (simp only [putAll, Act.put, sia_, scz_, scs_]; rfl)) (hJ18 (gb237) _ ⟨hHeld, (bp_ BK215), (bp_ BK216), (bp_ BK217), (bp_ BK237), GW237.out, GE237.out, NB215_237.out, NB237_215.out, NB216_237.out, NB237_216.out, NB217_237.out, NB237_217.out, (bw_ HB)⟩)
    rintro ⟨v222, v229, v232, v235, gb237⟩ w39 ⟨hS_, h0_, h1_, h2_, h3_, h4_, h5_, h6_, h7_, h8_, h9_, h10_, h11_, h12_, h13_, h14_⟩
    have n0_ : Aside0 (Kd.R k135 135 w39 w.heap.size (fun k_ => some k_ ≠ (v235 : Value).ownBlock ∧ k_ ≠ gb216) v232 y231) := ⟨h0_⟩
    have n1_ : Aside0 (Kd.R k135 135 w39 w.heap.size (fun k_ => some k_ ≠ (v232 : Value).ownBlock ∧ k_ ≠ gb216) v235 y234) := ⟨h1_⟩
    have n2_ : Aside0 (w39.heap[gb215]? = some (.cells #[.int .i64 a0_0, .int .i64 a0_1, .slice A0_2 l0_2.length c0_2] 59 (0, 0))) := ⟨h2_⟩
    have n3_ : Aside0 (w39.heap[gb216]? = some (.cells #[.int .i64 a2_0, .int .i64 a2_1, .string a2_2] 135 (0, 0))) := ⟨h3_⟩
    have n4_ : Aside0 (w39.heap[gb217]? = some (.cells #[.int .i64 0, .int .i64 0, .slice none 0 0] 59 (0, 0))) := ⟨h4_⟩
    have n5_ : Aside0 (w39.heap[gb237]? = some (.cells #[.int .i64 0, .int .i64 0, .slice none 0 0] 59 (0, 0))) := ⟨h5_⟩
    have n6_ : Aside0 (w.heap.size ≤ gb237) := ⟨h6_⟩
    have n7_ : Aside0 (w.heap.size ≤ gb237) := ⟨h7_⟩
    have n8_ : Aside0 (gb215 ≠ gb237) := ⟨h8_⟩
    have n9_ : Aside0 (gb237 ≠ gb215) := ⟨h9_⟩
    have n10_ : Aside0 (gb216 ≠ gb237) := ⟨h10_⟩
    have n11_ : Aside0 (gb237 ≠ gb216) := ⟨h11_⟩
    have n12_ : Aside0 (gb217 ≠ gb237) := ⟨h12_⟩
    have n13_ : Aside0 (gb237 ≠ gb217) := ⟨h13_⟩
    have n14_ : Aside0 (Below w.heap.size w w39) := ⟨h14_⟩
    clear BK215; clear BK216; clear BK217; clear HB; clear h0_ h1_ h2_ h3_ h4_ h5_ h6_ h7_ h8_ h9_ h10_ h11_ h12_ h13_ h14_; have HO233 := n0_; have HO236 := n1_; have BK215 := n2_; have BK216 := n3_; have BK217 := n4_; have BK237 := n5_; have GW237 := n6_; have GE237 := n7_; have NB215_237 := n8_; have NB237_215 := n9_; have NB216_237 := n10_; have NB237_216 := n11_; have NB217_237 := n12_; have NB237_217 := n13_; have HB := n14_; clear n0_ n1_ n2_ n3_ n4_ n5_ n6_ n7_ n8_ n9_ n10_ n11_ n12_ n13_ n14_
    have hHeld : w39.cell? ⟨gb215, 0, none⟩ = some (.int .i64 a0_0) ∧ w39.cell? ⟨gb215, 1, none⟩ = some (.int .i64 a0_1) ∧ w39.cell? ⟨gb215, 2, none⟩ = some (.slice A0_2 l0_2.length c0_2) ∧ w39.cell? ⟨gb216, 0, none⟩ = some (.int .i64 a2_0) ∧ w39.cell? ⟨gb216, 1, none⟩ = some (.int .i64 a2_1) ∧ w39.cell? ⟨gb216, 2, none⟩ = some (.string a2_2) := hS_
    obtain ⟨Ao40, co40, eo40⟩ := Kd.R_slice HO236.out
    (first | subst eo40 | (injection eo40 with f1_ f2_ f3_; have f4_ := f1_.symm; have f5_ := f3_.symm; clear f1_ f2_ f3_; subst f4_; subst f5_))
    refine norm_ (a' := ?_) ?_ ?_
    rotate_left
    ·simp only [putAll, Act.put, sia_, scz_, scs_]
     rfl
    refine one_ (i := 19) (N := none) #[true, true, true, true, true, true, true, true, true, true, true, true, true, true, true, true, true, true, true, true] rfl rfl (one_of HT_.out (by kernel_rfl)) (by decide) (fun K hK => ?_)
    have hs41 : w39.cell? ⟨gb237, 0, none⟩ = some (.int .i64 0) := bc_ BK237 0
    have hfs41 := blk_frozen BK237.out 0
    have hns41_0 := NB215_237.out
    have hns41_1 := NB216_237.out
    have hns41_2 := NB217_237.out
    have hms41_0 := NB237_215.out
    have hms41_1 := NB237_216.out
    have hms41_2 := NB237_217.out
    have hs42 : w39.cell? ⟨gb237, 1, none⟩ = some (.int .i64 0) := bc_ BK237 1
    have hfs42 := blk_frozen BK237.out 1
    have hns42_0 := NB215_237.out
    have hns42_1 := NB216_237.out
    have hns42_2 := NB217_237.out
    have hms42_0 := NB237_215.out
    have hms42_1 := NB237_216.out
    have hms42_2 := NB237_217.out
    have hs43 : w39.cell? ⟨gb237, 2, none⟩ = some (.slice none 0 0) := bc_ BK237 2
    have hfs43 := blk_frozen BK237.out 2
    have hns43_0 := NB215_237.out
    have hns43_1 := NB216_237.out
    have hns43_2 := NB217_237.out
    have hms43_0 := NB237_215.out
    have hms43_1 := NB237_216.out
    have hms43_2 := NB237_217.out
    refine skip_ (w1 := ?_) (by rfl) rfl ?_ ?_
    rotate_left
    ·go_simp
     rfl
    refine hK.out _ _ ⟨((cell_far (p := ⟨gb237, _, none⟩) NB215_237.out _).trans (((cell_far (p := ⟨gb237, _, none⟩) NB215_237.out _).trans (((cell_far (p := ⟨gb237, _, none⟩) NB215_237.out _).trans (hHeld.1)))))), ((cell_far (p := ⟨gb237, _, none⟩) NB215_237.out _).trans (((cell_far (p := ⟨gb237, _, none⟩) NB215_237.out _).trans (((cell_far (p := ⟨gb237, _, none⟩) NB215_237.out _).trans (hHeld.2.1)))))), ((cell_far (p := ⟨gb237, _, none⟩) NB215_237.out _).trans (((cell_far (p := ⟨gb237, _, none⟩) NB215_237.out _).trans (((cell_far (p := ⟨gb237, _, none⟩) NB215_237.out _).trans (hHeld.2.2.1)))))), ((cell_far (p := ⟨gb237, _, none⟩) NB216_237.out _).trans (((cell_far (p := ⟨gb237, _, none⟩) NB216_237.out _).trans (((cell_far (p := ⟨gb237, _, none⟩) NB216_237.out _).trans (hHeld.2.2.2.1)))))), ((cell_far (p := ⟨gb237, _, none⟩) NB216_237.out _).trans (((cell_far (p := ⟨gb237, _, none⟩) NB216_237.out _).trans (((cell_far (p := ⟨gb237, _, none⟩) NB216_237.out _).trans (hHeld.2.2.2.2.1)))))), ((cell_far (p := ⟨gb237, _, none⟩) NB216_237.out _).trans (((cell_far (p := ⟨gb237, _, none⟩) NB216_237.out _).trans (((cell_far (p := ⟨gb237, _, none⟩) NB216_237.out _).trans (hHeld.2.2.2.2.2))))))⟩ (fun hHeld => ?_)
    clear hK K
    refine done_ (done_of HT_.out (by kernel_rfl)) ?_
    obtain ⟨hnb44, hnc44⟩ := ns_ NB237_215
    obtain ⟨hnb45, hnc45⟩ := ns_ NB237_216
    obtain ⟨hnb46, hnc46⟩ := ns_ NB237_217
    have hcz47_0 : w39.cell? ⟨gb237, 0, none⟩ = some (.int .i64 0) := bc_ BK237 0
    have hcz47_1 : w39.cell? ⟨gb237, 1, none⟩ = some (.int .i64 0) := bc_ BK237 1
    have hcz47_2 : w39.cell? ⟨gb237, 2, none⟩ = some (.slice none 0 0) := bc_ BK237 2
    have hfz47_0 := blk_frozen BK237.out 0
    have hfz47_1 := blk_frozen BK237.out 1
    have hfz47_2 := blk_frozen BK237.out 2
    try go_wp2_with (first | ((with_reducible refine gate_callee (f := 65) rfl ?_); refine gl_ 43 Try.func65 #[.agg #[.int .i64 a0_0, .int .i64 a0_1, .slice Ao40 y234.length co40]] ?_; (with_reducible refine (spec_LogOk.calls kj3 a0_0 a0_1 _ _ y234 true _ ?side1 ?side2 A26.out).mono ?_); (case side1 => refine (Kd.R_reads' (e := 135) (base := w.heap.size) (ok := fun k_ => (some k_ ≠ (v232 : Value).ownBlock ∧ k_ ≠ gb216)) (n := y234.length) (c := co40) ?_).2.2; exact (rq_ (Kd.R_mono (Kd.R_far (p := ⟨gb237, 2, none⟩) (Kd.R_far (p := ⟨gb237, 1, none⟩) (Kd.R_far (p := ⟨gb237, 0, none⟩) (Kd.R_types HO236.out BK237.out (by decide)) (fun _ hk => hk.2) (.int .i64 a0_0)) (fun _ hk => hk.2) (.int .i64 a0_1)) (fun _ hk => hk.2) (.slice Ao40 y234.length co40)) (fun _ h_ => h_.1)))); (case side2 => exact (Kd.R_reads' HO236.out).2.1); rintro e w48 ⟨rfl, hb⟩; refine ⟨_, rfl, ?_⟩; replace HO233 := mk_ (Kd.R_below (rq_ (Kd.R_mono (Kd.R_far (p := ⟨gb237, 2, none⟩) (Kd.R_far (p := ⟨gb237, 1, none⟩) (Kd.R_far (p := ⟨gb237, 0, none⟩) (Kd.R_types HO233.out BK237.out (by decide)) (fun _ hk => hk.2) (.int .i64 a0_0)) (fun _ hk => hk.2) (.int .i64 a0_1)) (fun _ hk => hk.2) (.slice Ao40 y234.length co40)) (fun _ h_ => h_.1))) hb); replace HO236 := mk_ (Kd.R_below (rq_ (Kd.R_mono (Kd.R_far (p := ⟨gb237, 2, none⟩) (Kd.R_far (p := ⟨gb237, 1, none⟩) (Kd.R_far (p := ⟨gb237, 0, none⟩) (Kd.R_types HO236.out BK237.out (by decide)) (fun _ hk => hk.2) (.int .i64 a0_0)) (fun _ hk => hk.2) (.int .i64 a0_1)) (fun _ hk => hk.2) (.slice Ao40 y234.length co40)) (fun _ h_ => h_.1))) hb); replace BK215 := mk_ (blk_below (g := gb215) (o := .cells #[.int .i64 a0_0, .int .i64 a0_1, .slice A0_2 l0_2.length c0_2] 59 (0, 0)) bf_ hb); replace BK216 := mk_ (blk_below (g := gb216) (o := .cells #[.int .i64 a2_0, .int .i64 a2_1, .string a2_2] 135 (0, 0)) bf_ hb); replace BK217 := mk_ (blk_below (g := gb217) (o := .cells #[.int .i64 0, .int .i64 0, .slice none 0 0] 59 (0, 0)) bf_ hb); replace BK237 := mk_ (blk_below (g := gb237) (o := .cells #[.int .i64 a0_0, .int .i64 a0_1, .slice Ao40 y234.length co40] 59 (0, 0)) bu_ hb); replace HB := bs_ HB hb; (try clear hb); (try clear hk); obtain ⟨hcz49_0, hcz49_1, hcz49_2, hfz49_0, hfz49_1, hfz49_2⟩ := b3_ BK237; obtain ⟨hnb50, hnc50⟩ := ns_ NB217_215; obtain ⟨hnb51, hnc51⟩ := ns_ NB217_216; obtain ⟨hcz52_0, hcz52_1, hcz52_2, hfz52_0, hfz52_1, hfz52_2⟩ := b3_ BK217))
    refine bodyPost_ret (results_ct rfl _ _ gb217 59 #[.int .i64 a0_0, .int .i64 a0_1, .slice Ao40 y234.length co40] (0, 0) _ rfl bu_ Try.underlying59 rfl (by kernel_rfl)) rfl ?_
    exact ⟨_, by first | rfl | (simp [errW_none, errW_some] <;> rfl) | (simp only [← hji21]; first | rfl | (simp [errW_none, errW_some] <;> rfl)) | (simp [*, errW_none, errW_some] <;> rfl), rq_ (Kd.R_mono (Kd.R_far (p := ⟨gb217, 2, none⟩) (Kd.R_far (p := ⟨gb217, 1, none⟩) (Kd.R_far (p := ⟨gb217, 0, none⟩) (Kd.R_types HO236.out BK217.out (by decide)) (fun _ hk => hk.2) (.int .i64 a0_0)) (fun _ hk => hk.2) (.int .i64 a0_1)) (fun _ hk => hk.2) (.slice Ao40 y234.length co40)) (fun _ hk => trivial)), bw_ HB⟩
   replace c27 := Bool.eq_false_iff.mpr c27
   subst c27
   rw [if_neg (show ¬ (false = true) by decide)] at H
   simp only [Option.some.injEq, Prod.mk.injEq] at H
   obtain ⟨rfl, rfl, rfl, rfl⟩ := H
   try go_wp2
   replace BK215 := kd_ BK215; replace BK216 := kd_ BK216; replace BK217 := kd_ BK217; replace HB := wd_ HB
   have q54 : ((ji21) : Int) ≤ ((l0_2.length : Int) : Int) := od_
   obtain ⟨i054, hi054, _, hsz54, _⟩ := info_parts info135
   have hroom54 : l0_2.length ≤ c0_2 := HC0_2.out
   have hC54 : Kd.C k135 _ A0_2 l0_2.length l0_2 := HR0_2.out
   have hcut54 := cut_to (P := Try.prog) 57 135 .i64 Try.underlying57 hi054 A0_2 l0_2.length c0_2 (ji21) (od_) q54 hroom54
   have hr54 := Kd.C_take (m := ((ji21) : Int).toNat) hC54 (by omega)
   have hy54 : y224.length = ((ji21) : Int).toNat := (by rw [Ny224.out, List.length_take]; omega)
   rw [← Ny224.out] at hr54
   rw [← hy54] at hcut54
   have HR227 := Aside0.mk hr54
   have HC227 := mk_ (show y224.length ≤ c0_2 from by omega)
   clear hr54 hC54 hroom54 hi054 hsz54
   have KY54 := Aside0.mk hy54
   clear hy54
   replace q54 := eq_true q54
   refine start_ (n := 20) (S := fun w' => w'.cell? ⟨gb215, 0, none⟩ = some (.int .i64 a0_0) ∧ w'.cell? ⟨gb215, 1, none⟩ = some (.int .i64 a0_1) ∧ w'.cell? ⟨gb215, 2, none⟩ = some (.slice A0_2 l0_2.length c0_2) ∧ w'.cell? ⟨gb216, 0, none⟩ = some (.int .i64 a2_0) ∧ w'.cell? ⟨gb216, 1, none⟩ = some (.int .i64 a2_1) ∧ w'.cell? ⟨gb216, 2, none⟩ = some (.string a2_2)) (ds := []) #[false, false, false, false, false, false, false, false, false, false, false, false, false, false, false, false, false, false, false, false] (by kernel_rfl) rfl rfl ⟨bc_ BK215 0, bc_ BK215 1, bc_ BK215 2, bc_ BK216 0, bc_ BK216 1, bc_ BK216 2⟩ (fun hHeld => ?_); refine with_tabW spec_LogPut.tab3 spec_LogPut.bits3 (fun HT_ HW_ => ?_)
   generalize wc.drew = w53 at BK215 BK216 BK217 HB HR227 hHeld ⊢
   refine pv_ 0 24 ?_
   refine pv_ 2 26 ?_
   refine pv_ 5 29 ?_
   refine pv_ 7 31 ?_
   refine pv_ 8 32 ?_
   refine tv_ 1 25 hHeld ?_
   refine tv_ 3 27 hHeld ?_
   refine tv_ 6 30 hHeld ?_
   refine tv_ 9 33 hHeld ?_
   refine pv_ 10 34 ?_
   refine pv_ 11 35 ?_
   refine pv_ 12 36 ?_
   refine tv_ 14 38 hHeld ?_
   refine join_ (σ := Value × Value × Value × Value × Nat) 1 #[true, true, true, true, true, true, true, true, true, true, true, true, true, true, true, true, true, true, true, false] (fun s_ => [(28, s_.1), (37, s_.2.1), (39, s_.2.2.1), (40, s_.2.2.2.1), (8, .pointer (some ⟨s_.2.2.2.2, 0, none⟩)), (41, .agg #[.int .i64 a0_0, .int .i64 a0_1, s_.2.2.2.1])]) (fun s_ w' => (w'.cell? ⟨gb215, 0, none⟩ = some (.int .i64 a0_0) ∧ w'.cell? ⟨gb215, 1, none⟩ = some (.int .i64 a0_1) ∧ w'.cell? ⟨gb215, 2, none⟩ = some (.slice A0_2 l0_2.length c0_2) ∧ w'.cell? ⟨gb216, 0, none⟩ = some (.int .i64 a2_0) ∧ w'.cell? ⟨gb216, 1, none⟩ = some (.int .i64 a2_1) ∧ w'.cell? ⟨gb216, 2, none⟩ = some (.string a2_2)) ∧ (Kd.R k135 135 w' w.heap.size (fun k_ => some k_ ≠ (s_.2.2.2.1 : Value).ownBlock ∧ k_ ≠ gb216) s_.2.2.1 y231) ∧ (Kd.R k135 135 w' w.heap.size (fun k_ => some k_ ≠ (s_.2.2.1 : Value).ownBlock ∧ k_ ≠ gb216) s_.2.2.2.1 y234) ∧ (w'.heap[gb215]? = some (.cells #[.int .i64 a0_0, .int .i64 a0_1, .slice A0_2 l0_2.length c0_2] 59 (0, 0))) ∧ (w'.heap[gb216]? = some (.cells #[.int .i64 a2_0, .int .i64 a2_1, .string a2_2] 135 (0, 0))) ∧ (w'.heap[gb217]? = some (.cells #[.int .i64 0, .int .i64 0, .slice none 0 0] 59 (0, 0))) ∧ (w'.heap[s_.2.2.2.2]? = some (.cells #[.int .i64 0, .int .i64 0, .slice none 0 0] 59 (0, 0))) ∧ (w.heap.size ≤ s_.2.2.2.2) ∧ (w.heap.size ≤ s_.2.2.2.2) ∧ (gb215 ≠ s_.2.2.2.2) ∧ (s_.2.2.2.2 ≠ gb215) ∧ (gb216 ≠ s_.2.2.2.2) ∧ (s_.2.2.2.2 ≠ gb216) ∧ (gb217 ≠ s_.2.2.2.2) ∧ (s_.2.2.2.2 ≠ gb217) ∧ (Below w.heap.size w w')) ?_ ?_
   rotate_left
   ·intro hJ4_13_15_16_18
    refine join_ (σ := Value × Value × Value × Value) 2 #[true, true, true, true, true, true, true, true, true, true, true, true, true, true, true, true, true, true, false, false] (fun s_ => [(28, s_.1), (37, s_.2.1), (39, s_.2.2.1), (40, s_.2.2.2), (41, .agg #[.int .i64 a0_0, .int .i64 a0_1, s_.2.2.2])]) (fun s_ w' => (w'.cell? ⟨gb215, 0, none⟩ = some (.int .i64 a0_0) ∧ w'.cell? ⟨gb215, 1, none⟩ = some (.int .i64 a0_1) ∧ w'.cell? ⟨gb215, 2, none⟩ = some (.slice A0_2 l0_2.length c0_2) ∧ w'.cell? ⟨gb216, 0, none⟩ = some (.int .i64 a2_0) ∧ w'.cell? ⟨gb216, 1, none⟩ = some (.int .i64 a2_1) ∧ w'.cell? ⟨gb216, 2, none⟩ = some (.string a2_2)) ∧ (Kd.R k135 135 w' w.heap.size (fun k_ => some k_ ≠ (s_.2.2.2 : Value).ownBlock ∧ k_ ≠ gb216) s_.2.2.1 y231) ∧ (Kd.R k135 135 w' w.heap.size (fun k_ => some k_ ≠ (s_.2.2.1 : Value).ownBlock ∧ k_ ≠ gb216) s_.2.2.2 y234) ∧ (w'.heap[gb215]? = some (.cells #[.int .i64 a0_0, .int .i64 a0_1, .slice A0_2 l0_2.length c0_2] 59 (0, 0))) ∧ (w'.heap[gb216]? = some (.cells #[.int .i64 a2_0, .int .i64 a2_1, .string a2_2] 135 (0, 0))) ∧ (w'.heap[gb217]? = some (.cells #[.int .i64 0, .int .i64 0, .slice none 0 0] 59 (0, 0))) ∧ (Below w.heap.size w w')) ?_ ?_
    rotate_left
    rotate_left
    ·skip
     rintro ⟨v222, v229, v232, v235⟩ w63 ⟨hS_, h0_, h1_, h2_, h3_, h4_, h5_⟩
     have n0_ : Aside0 (Kd.R k135 135 w63 w.heap.size (fun k_ => some k_ ≠ (v235 : Value).ownBlock ∧ k_ ≠ gb216) v232 y231) := ⟨h0_⟩
     have n1_ : Aside0 (Kd.R k135 135 w63 w.heap.size (fun k_ => some k_ ≠ (v232 : Value).ownBlock ∧ k_ ≠ gb216) v235 y234) := ⟨h1_⟩
     have n2_ : Aside0 (w63.heap[gb215]? = some (.cells #[.int .i64 a0_0, .int .i64 a0_1, .slice A0_2 l0_2.length c0_2] 59 (0, 0))) := ⟨h2_⟩
     have n3_ : Aside0 (w63.heap[gb216]? = some (.cells #[.int .i64 a2_0, .int .i64 a2_1, .string a2_2] 135 (0, 0))) := ⟨h3_⟩
     have n4_ : Aside0 (w63.heap[gb217]? = some (.cells #[.int .i64 0, .int .i64 0, .slice none 0 0] 59 (0, 0))) := ⟨h4_⟩
     have n5_ : Aside0 (Below w.heap.size w w63) := ⟨h5_⟩
     clear BK215; clear BK216; clear BK217; clear HB; clear h0_ h1_ h2_ h3_ h4_ h5_; have HO233 := n0_; have HO236 := n1_; have BK215 := n2_; have BK216 := n3_; have BK217 := n4_; have HB := n5_; clear n0_ n1_ n2_ n3_ n4_ n5_
     have hHeld : w63.cell? ⟨gb215, 0, none⟩ = some (.int .i64 a0_0) ∧ w63.cell? ⟨gb215, 1, none⟩ = some (.int .i64 a0_1) ∧ w63.cell? ⟨gb215, 2, none⟩ = some (.slice A0_2 l0_2.length c0_2) ∧ w63.cell? ⟨gb216, 0, none⟩ = some (.int .i64 a2_0) ∧ w63.cell? ⟨gb216, 1, none⟩ = some (.int .i64 a2_1) ∧ w63.cell? ⟨gb216, 2, none⟩ = some (.string a2_2) := hS_
     obtain ⟨Ao64, co64, eo64⟩ := Kd.R_slice HO236.out
     (first | subst eo64 | (injection eo64 with f1_ f2_ f3_; have f4_ := f1_.symm; have f5_ := f3_.symm; clear f1_ f2_ f3_; subst f4_; subst f5_))
     refine norm_ (a' := ?_) ?_ ?_
     rotate_left
     ·simp only [putAll, Act.put, sia_, scz_, scs_]
      rfl
     refine one_ (i := 18) (N := some 8) #[true, true, true, true, true, true, true, true, true, true, true, true, true, true, true, true, true, true, true, false] rfl rfl (one_of HT_.out (by kernel_rfl)) (by decide) (fun K hK => ?_)
     refine box_step ?hg (N := 8) ?hd (cs := #[.int .i64 0, .int .i64 0, .slice none 0 0]) (t := 59) ?hr ?_; (case hd => rfl); (case hg => rfl); (case hr => first | (go_simp; done) | (go_simp; rfl))
     intro gb237 hg w65 hbox hb
     have n6_ := mk_ (hbox)
     have n7_ : Aside0 (w.heap.size ≤ gb237) := bz_ hg
     have n8_ : Aside0 (w.heap.size ≤ gb237) := bz_ hg
     have n9_ : Aside0 (gb215 ≠ gb237) := bl_ BK215 hg
     have n10_ : Aside0 (gb237 ≠ gb215) := bg_ BK215 hg
     have n11_ : Aside0 (gb216 ≠ gb237) := bl_ BK216 hg
     have n12_ : Aside0 (gb237 ≠ gb216) := bg_ BK216 hg
     have n13_ : Aside0 (gb217 ≠ gb237) := bl_ BK217 hg
     have n14_ : Aside0 (gb237 ≠ gb217) := bg_ BK217 hg
     have BK237 := n6_; have GW237 := n7_; have GE237 := n8_; have NB215_237 := n9_; have NB237_215 := n10_; have NB216_237 := n11_; have NB237_216 := n12_; have NB217_237 := n13_; have NB237_217 := n14_; clear n6_ n7_ n8_ n9_ n10_ n11_ n12_ n13_ n14_; replace HO233 := rb_ HO233 hb; replace HO236 := rb_ HO236 hb; replace BK215 := bb_ BK215 hb; replace BK216 := bb_ BK216 hb; replace BK217 := bb_ BK217 hb; replace HB := bs_ HB hb; clear hb hbox hg
     refine hK.out _ _ ⟨bc_ BK215 0, bc_ BK215 1, bc_ BK215 2, bc_ BK216 0, bc_ BK216 1, bc_ BK216 2⟩ (fun hHeld => ?_)
     clear hK K
     refine norm_ (a' := ?_) ?_ ?_
     rotate_left
     ·show Act.put _ (some 8) _ = _
      simp only [Act.put, sia_, scz_, scs_, i64_w, i32_w]
      rfl
     exact norm_ (by first | (simp only [putAll, Act.put, sia_, scz_, scs_]; done) | (simp only [putAll, Act.put, sia_, scz_, scs_]; rfl)) (hJ4_13_15_16_18 (v222, v229, v232, .slice Ao64 y234.length co64, gb237) _ ⟨hHeld, (rp_ HO233), (rp_ HO236), (bp_ BK215), (bp_ BK216), (bp_ BK217), (bp_ BK237), GW237.out, GE237.out, NB215_237.out, NB237_215.out, NB216_237.out, NB237_216.out, NB217_237.out, NB237_217.out, (bw_ HB)⟩)
    intro hJ4_13_15_16
    refine join_ (σ := Value × Value × Value × Nat) 3 #[true, true, true, true, true, true, true, true, true, true, true, true, true, true, true, true, false, false, true, false] (fun s_ => [(28, s_.1), (37, s_.2.1), (39, s_.2.2.1), (8, .pointer (some ⟨s_.2.2.2, 0, none⟩))]) (fun s_ w' => (w'.cell? ⟨gb215, 0, none⟩ = some (.int .i64 a0_0) ∧ w'.cell? ⟨gb215, 1, none⟩ = some (.int .i64 a0_1) ∧ w'.cell? ⟨gb215, 2, none⟩ = some (.slice A0_2 l0_2.length c0_2) ∧ w'.cell? ⟨gb216, 0, none⟩ = some (.int .i64 a2_0) ∧ w'.cell? ⟨gb216, 1, none⟩ = some (.int .i64 a2_1) ∧ w'.cell? ⟨gb216, 2, none⟩ = some (.string a2_2)) ∧ (Kd.R k135 135 w' w.heap.size (fun k_ => some k_ ≠ (s_.2.2.1 : Value).ownBlock ∧ k_ ≠ gb216) s_.2.1 y228) ∧ (Kd.R k135 135 w' w.heap.size (fun k_ => some k_ ≠ (s_.2.1 : Value).ownBlock ∧ k_ ≠ gb216) s_.2.2.1 y231) ∧ (w'.heap[gb215]? = some (.cells #[.int .i64 a0_0, .int .i64 a0_1, .slice A0_2 l0_2.length c0_2] 59 (0, 0))) ∧ (w'.heap[gb216]? = some (.cells #[.int .i64 a2_0, .int .i64 a2_1, .string a2_2] 135 (0, 0))) ∧ (w'.heap[gb217]? = some (.cells #[.int .i64 0, .int .i64 0, .slice none 0 0] 59 (0, 0))) ∧ (w'.heap[s_.2.2.2]? = some (.cells #[.int .i64 0, .int .i64 0, .slice none 0 0] 59 (0, 0))) ∧ (w.heap.size ≤ s_.2.2.2) ∧ (w.heap.size ≤ s_.2.2.2) ∧ (gb215 ≠ s_.2.2.2) ∧ (s_.2.2.2 ≠ gb215) ∧ (gb216 ≠ s_.2.2.2) ∧ (s_.2.2.2 ≠ gb216) ∧ (gb217 ≠ s_.2.2.2) ∧ (s_.2.2.2 ≠ gb217) ∧ (Below w.heap.size w w')) ?_ ?_
    rotate_left
    rotate_left
    ·skip
     rintro ⟨v222, v229, v232, gb237⟩ w61 ⟨hS_, h0_, h1_, h2_, h3_, h4_, h5_, h6_, h7_, h8_, h9_, h10_, h11_, h12_, h13_, h14_⟩
     have n0_ : Aside0 (Kd.R k135 135 w61 w.heap.size (fun k_ => some k_ ≠ (v232 : Value).ownBlock ∧ k_ ≠ gb216) v229 y228) := ⟨h0_⟩
     have n1_ : Aside0 (Kd.R k135 135 w61 w.heap.size (fun k_ => some k_ ≠ (v229 : Value).ownBlock ∧ k_ ≠ gb216) v232 y231) := ⟨h1_⟩
     have n2_ : Aside0 (w61.heap[gb215]? = some (.cells #[.int .i64 a0_0, .int .i64 a0_1, .slice A0_2 l0_2.length c0_2] 59 (0, 0))) := ⟨h2_⟩
     have n3_ : Aside0 (w61.heap[gb216]? = some (.cells #[.int .i64 a2_0, .int .i64 a2_1, .string a2_2] 135 (0, 0))) := ⟨h3_⟩
     have n4_ : Aside0 (w61.heap[gb217]? = some (.cells #[.int .i64 0, .int .i64 0, .slice none 0 0] 59 (0, 0))) := ⟨h4_⟩
     have n5_ : Aside0 (w61.heap[gb237]? = some (.cells #[.int .i64 0, .int .i64 0, .slice none 0 0] 59 (0, 0))) := ⟨h5_⟩
     have n6_ : Aside0 (w.heap.size ≤ gb237) := ⟨h6_⟩
     have n7_ : Aside0 (w.heap.size ≤ gb237) := ⟨h7_⟩
     have n8_ : Aside0 (gb215 ≠ gb237) := ⟨h8_⟩
     have n9_ : Aside0 (gb237 ≠ gb215) := ⟨h9_⟩
     have n10_ : Aside0 (gb216 ≠ gb237) := ⟨h10_⟩
     have n11_ : Aside0 (gb237 ≠ gb216) := ⟨h11_⟩
     have n12_ : Aside0 (gb217 ≠ gb237) := ⟨h12_⟩
     have n13_ : Aside0 (gb237 ≠ gb217) := ⟨h13_⟩
     have n14_ : Aside0 (Below w.heap.size w w61) := ⟨h14_⟩
     clear BK215; clear BK216; clear BK217; clear HB; clear h0_ h1_ h2_ h3_ h4_ h5_ h6_ h7_ h8_ h9_ h10_ h11_ h12_ h13_ h14_; have HO230 := n0_; have HO233 := n1_; have BK215 := n2_; have BK216 := n3_; have BK217 := n4_; have BK237 := n5_; have GW237 := n6_; have GE237 := n7_; have NB215_237 := n8_; have NB237_215 := n9_; have NB216_237 := n10_; have NB237_216 := n11_; have NB217_237 := n12_; have NB237_217 := n13_; have HB := n14_; clear n0_ n1_ n2_ n3_ n4_ n5_ n6_ n7_ n8_ n9_ n10_ n11_ n12_ n13_ n14_
     have hHeld : w61.cell? ⟨gb215, 0, none⟩ = some (.int .i64 a0_0) ∧ w61.cell? ⟨gb215, 1, none⟩ = some (.int .i64 a0_1) ∧ w61.cell? ⟨gb215, 2, none⟩ = some (.slice A0_2 l0_2.length c0_2) ∧ w61.cell? ⟨gb216, 0, none⟩ = some (.int .i64 a2_0) ∧ w61.cell? ⟨gb216, 1, none⟩ = some (.int .i64 a2_1) ∧ w61.cell? ⟨gb216, 2, none⟩ = some (.string a2_2) := hS_
     obtain ⟨Ao63, co63, eo63⟩ := Kd.R_slice HO233.out
     (first | subst eo63 | (injection eo63 with f1_ f2_ f3_; have f4_ := f1_.symm; have f5_ := f3_.symm; clear f1_ f2_ f3_; subst f4_; subst f5_))
     refine norm_ (a' := ?_) ?_ ?_
     rotate_left
     ·simp only [putAll, Act.put, sia_, scz_, scs_]
      rfl
     refine one_ (i := 16) (N := some 40) #[true, true, true, true, true, true, true, true, true, true, true, true, true, true, true, true, true, false, true, false] rfl rfl (one_of HT_.out (by kernel_rfl)) (by decide) (fun K hK => ?_)
     refine Kd.R_append_rows_step k135 (w0 := w) w.heap.size (by rfl) (.tmp 37) (.tmp 39) 57 135 (.agg #[(.int .i64 0), (.int .i64 0), (.string ⟨#[]⟩)]) 32 rfl Try.underlying57 info135 rfl (by decide) (by omega) v229 y228 y231 _ _ _ (fun k_ => some k_ ≠ (.slice Ao63 y231.length co63 : Value).ownBlock ∧ k_ ≠ gb216) (fun _ => False) rfl rfl ?aO ?aR (fun _ _ h => h) (fun _ h => h.elim) ?aF ?aB ?aS ?aL ?_
     (case aR => exact cr_ HO233)
     (case aB => exact (bw_ HB))
     (case aF => exact (fun k_ hk => ⟨Kd.fresh' (Kd.R_lt (rp_ HO233)) k_ hk, Kd.freshB (g := gb216) (o := .cells #[.int .i64 a2_0, .int .i64 a2_1, .string a2_2] 135 (0, 0)) (bp_ BK216) k_ hk⟩))
     (case aO => exact (rp_ HO230))
     (case aS => exact (below_size (bw_ HB)))
     (case aL => have := LMc25.out; omega)
     intro v235 w62 ho hb hg hat
     rw [← Ny234.out] at ho
     have n0_ := mk_ (blk_grown (g := gb215) (o := .cells #[.int .i64 a0_0, .int .i64 a0_1, .slice A0_2 l0_2.length c0_2] 59 (0, 0)) (bp_ BK215) hg (Kd.R_ne HO230.out BK215.out (by decide)))
     have n1_ := mk_ (blk_grown (g := gb216) (o := .cells #[.int .i64 a2_0, .int .i64 a2_1, .string a2_2] 135 (0, 0)) (bp_ BK216) hg (Kd.R_away HO230.out (fun _ hk => hk.2)))
     have n2_ := mk_ (blk_grown (g := gb217) (o := .cells #[.int .i64 0, .int .i64 0, .slice none 0 0] 59 (0, 0)) (bp_ BK217) hg (Kd.R_ne HO230.out BK217.out (by decide)))
     have n3_ := mk_ (Kd.R_after (ok := (fun k_ => k_ ≠ gb216)) (rq_ (Kd.R_mono HO233.out (fun _ hk => ⟨hk.2, hk.1⟩))) hg hat)
     have n4_ := mk_ (blk_grown (g := gb237) (o := .cells #[.int .i64 0, .int .i64 0, .slice none 0 0] 59 (0, 0)) (bp_ BK237) hg (Kd.R_ne HO230.out BK237.out (by decide)))
     have n5_ := mk_ (hb)
     have n6_ := mk_ (ho)
     clear BK215; clear BK216; clear BK217; clear HO233; clear BK237; clear HB; clear HO230; have BK215 := n0_; have BK216 := n1_; have BK217 := n2_; have HO233 := n3_; have BK237 := n4_; have HB := n5_; have HO236 := n6_; clear n0_ n1_ n2_ n3_ n4_ n5_ n6_; clear ho hb hg hat
     obtain ⟨Ao64, co64, eo64⟩ := Kd.R_slice HO236.out
     (first | subst eo64 | (injection eo64 with f1_ f2_ f3_; have f4_ := f1_.symm; have f5_ := f3_.symm; clear f1_ f2_ f3_; subst f4_; subst f5_))
     refine hK.out _ _ ⟨bc_ BK215 0, bc_ BK215 1, bc_ BK215 2, bc_ BK216 0, bc_ BK216 1, bc_ BK216 2⟩ (fun hHeld => ?_)
     clear hK K
     refine norm_ (a' := ?_) ?_ ?_
     rotate_left
     ·show Act.put _ (some 40) _ = _
      simp only [Act.put, sia_, scz_, scs_, i64_w, i32_w]
      rfl
     refine pv_ 17 41 ?_
     exact norm_ (by first | (simp only [putAll, Act.put, sia_, scz_, scs_]; done) | (simp only [putAll, Act.put, sia_, scz_, scs_]; rfl)) (hJ4_13_15_16_18 (v222, v229, .slice Ao63 y231.length co63, .slice Ao64 y234.length co64, gb237) _ ⟨hHeld, (rq_ (Kd.R_mono HO233.out (fun _ hk => ⟨hk.2, hk.1⟩))), (rp_ HO236), (bp_ BK215), (bp_ BK216), (bp_ BK217), (bp_ BK237), GW237.out, GE237.out, NB215_237.out, NB237_215.out, NB216_237.out, NB237_216.out, NB217_237.out, NB237_217.out, (bw_ HB)⟩)
    intro hJ4_13_15_18
    refine join_ (σ := Value × Value × Value) 4 #[true, true, true, true, true, true, true, true, true, true, true, true, true, true, true, true, false, false, false, false] (fun s_ => [(28, s_.1), (37, s_.2.1), (39, s_.2.2)]) (fun s_ w' => (w'.cell? ⟨gb215, 0, none⟩ = some (.int .i64 a0_0) ∧ w'.cell? ⟨gb215, 1, none⟩ = some (.int .i64 a0_1) ∧ w'.cell? ⟨gb215, 2, none⟩ = some (.slice A0_2 l0_2.length c0_2) ∧ w'.cell? ⟨gb216, 0, none⟩ = some (.int .i64 a2_0) ∧ w'.cell? ⟨gb216, 1, none⟩ = some (.int .i64 a2_1) ∧ w'.cell? ⟨gb216, 2, none⟩ = some (.string a2_2)) ∧ (Kd.R k135 135 w' w.heap.size (fun k_ => some k_ ≠ (s_.2.2 : Value).ownBlock ∧ k_ ≠ gb216) s_.2.1 y228) ∧ (Kd.R k135 135 w' w.heap.size (fun k_ => some k_ ≠ (s_.2.1 : Value).ownBlock ∧ k_ ≠ gb216) s_.2.2 y231) ∧ (w'.heap[gb215]? = some (.cells #[.int .i64 a0_0, .int .i64 a0_1, .slice A0_2 l0_2.length c0_2] 59 (0, 0))) ∧ (w'.heap[gb216]? = some (.cells #[.int .i64 a2_0, .int .i64 a2_1, .string a2_2] 135 (0, 0))) ∧ (w'.heap[gb217]? = some (.cells #[.int .i64 0, .int .i64 0, .slice none 0 0] 59 (0, 0))) ∧ (Below w.heap.size w w')) ?_ ?_
    rotate_left
    rotate_left
    ·skip
     rintro ⟨v222, v229, v232⟩ w60 ⟨hS_, h0_, h1_, h2_, h3_, h4_, h5_⟩
     have n0_ : Aside0 (Kd.R k135 135 w60 w.heap.size (fun k_ => some k_ ≠ (v232 : Value).ownBlock ∧ k_ ≠ gb216) v229 y228) := ⟨h0_⟩
     have n1_ : Aside0 (Kd.R k135 135 w60 w.heap.size (fun k_ => some k_ ≠ (v229 : Value).ownBlock ∧ k_ ≠ gb216) v232 y231) := ⟨h1_⟩
     have n2_ : Aside0 (w60.heap[gb215]? = some (.cells #[.int .i64 a0_0, .int .i64 a0_1, .slice A0_2 l0_2.length c0_2] 59 (0, 0))) := ⟨h2_⟩
     have n3_ : Aside0 (w60.heap[gb216]? = some (.cells #[.int .i64 a2_0, .int .i64 a2_1, .string a2_2] 135 (0, 0))) := ⟨h3_⟩
     have n4_ : Aside0 (w60.heap[gb217]? = some (.cells #[.int .i64 0, .int .i64 0, .slice none 0 0] 59 (0, 0))) := ⟨h4_⟩
     have n5_ : Aside0 (Below w.heap.size w w60) := ⟨h5_⟩
     clear BK215; clear BK216; clear BK217; clear HB; clear h0_ h1_ h2_ h3_ h4_ h5_; have HO230 := n0_; have HO233 := n1_; have BK215 := n2_; have BK216 := n3_; have BK217 := n4_; have HB := n5_; clear n0_ n1_ n2_ n3_ n4_ n5_
     have hHeld : w60.cell? ⟨gb215, 0, none⟩ = some (.int .i64 a0_0) ∧ w60.cell? ⟨gb215, 1, none⟩ = some (.int .i64 a0_1) ∧ w60.cell? ⟨gb215, 2, none⟩ = some (.slice A0_2 l0_2.length c0_2) ∧ w60.cell? ⟨gb216, 0, none⟩ = some (.int .i64 a2_0) ∧ w60.cell? ⟨gb216, 1, none⟩ = some (.int .i64 a2_1) ∧ w60.cell? ⟨gb216, 2, none⟩ = some (.string a2_2) := hS_
     obtain ⟨Ao62, co62, eo62⟩ := Kd.R_slice HO233.out
     (first | subst eo62 | (injection eo62 with f1_ f2_ f3_; have f4_ := f1_.symm; have f5_ := f3_.symm; clear f1_ f2_ f3_; subst f4_; subst f5_))
     refine norm_ (a' := ?_) ?_ ?_
     rotate_left
     ·simp only [putAll, Act.put, sia_, scz_, scs_]
      rfl
     refine two_ (i := 16) (j := 18) (Ni := some 40) (Nj := some 8) #[true, true, true, true, true, true, true, true, true, true, true, true, true, true, true, true, true, false, false, false] #[true, true, true, true, true, true, true, true, true, true, true, true, true, true, true, true, false, false, true, false] rfl rfl rfl rfl (two_of HT_.out (by kernel_rfl)) (by decide) (by decide) (fun K hK => ?_) (fun K hK => ?_)
     rotate_left
     ·skip
      refine box_step ?hg (N := 8) ?hd (cs := #[.int .i64 0, .int .i64 0, .slice none 0 0]) (t := 59) ?hr ?_; (case hd => rfl); (case hg => rfl); (case hr => first | (go_simp; done) | (go_simp; rfl))
      intro gb237 hg w61 hbox hb
      have n6_ := mk_ (hbox)
      have n7_ : Aside0 (w.heap.size ≤ gb237) := bz_ hg
      have n8_ : Aside0 (w.heap.size ≤ gb237) := bz_ hg
      have n9_ : Aside0 (gb215 ≠ gb237) := bl_ BK215 hg
      have n10_ : Aside0 (gb237 ≠ gb215) := bg_ BK215 hg
      have n11_ : Aside0 (gb216 ≠ gb237) := bl_ BK216 hg
      have n12_ : Aside0 (gb237 ≠ gb216) := bg_ BK216 hg
      have n13_ : Aside0 (gb217 ≠ gb237) := bl_ BK217 hg
      have n14_ : Aside0 (gb237 ≠ gb217) := bg_ BK217 hg
      have BK237 := n6_; have GW237 := n7_; have GE237 := n8_; have NB215_237 := n9_; have NB237_215 := n10_; have NB216_237 := n11_; have NB237_216 := n12_; have NB217_237 := n13_; have NB237_217 := n14_; clear n6_ n7_ n8_ n9_ n10_ n11_ n12_ n13_ n14_; replace HO230 := rb_ HO230 hb; replace HO233 := rb_ HO233 hb; replace BK215 := bb_ BK215 hb; replace BK216 := bb_ BK216 hb; replace BK217 := bb_ BK217 hb; replace HB := bs_ HB hb; clear hb hbox hg
      refine hK.out _ _ ⟨bc_ BK215 0, bc_ BK215 1, bc_ BK215 2, bc_ BK216 0, bc_ BK216 1, bc_ BK216 2⟩ (fun hHeld => ?_)
      clear hK K
      refine norm_ (a' := ?_) ?_ ?_
      rotate_left
      ·show Act.put _ (some 8) _ = _
       simp only [Act.put, sia_, scz_, scs_, i64_w, i32_w]
       rfl
      exact norm_ (by first | (simp only [putAll, Act.put, sia_, scz_, scs_]; done) | (simp only [putAll, Act.put, sia_, scz_, scs_]; rfl)) (hJ4_13_15_18 (v222, v229, .slice Ao62 y231.length co62, gb237) _ ⟨hHeld, (rp_ HO230), (rp_ HO233), (bp_ BK215), (bp_ BK216), (bp_ BK217), (bp_ BK237), GW237.out, GE237.out, NB215_237.out, NB237_215.out, NB216_237.out, NB237_216.out, NB217_237.out, NB237_217.out, (bw_ HB)⟩)
     skip
     refine Kd.R_append_rows_step k135 (w0 := w) w.heap.size (by rfl) (.tmp 37) (.tmp 39) 57 135 (.agg #[(.int .i64 0), (.int .i64 0), (.string ⟨#[]⟩)]) 32 rfl Try.underlying57 info135 rfl (by decide) (by omega) v229 y228 y231 _ _ _ (fun k_ => some k_ ≠ (.slice Ao62 y231.length co62 : Value).ownBlock ∧ k_ ≠ gb216) (fun _ => False) rfl rfl ?aO ?aR (fun _ _ h => h) (fun _ h => h.elim) ?aF ?aB ?aS ?aL ?_
     (case aR => exact cr_ HO233)
     (case aB => exact (bw_ HB))
     (case aF => exact (fun k_ hk => ⟨Kd.fresh' (Kd.R_lt (rp_ HO233)) k_ hk, Kd.freshB (g := gb216) (o := .cells #[.int .i64 a2_0, .int .i64 a2_1, .string a2_2] 135 (0, 0)) (bp_ BK216) k_ hk⟩))
     (case aO => exact (rp_ HO230))
     (case aS => exact (below_size (bw_ HB)))
     (case aL => have := LMc25.out; omega)
     intro v235 w61 ho hb hg hat
     rw [← Ny234.out] at ho
     have n0_ := mk_ (blk_grown (g := gb215) (o := .cells #[.int .i64 a0_0, .int .i64 a0_1, .slice A0_2 l0_2.length c0_2] 59 (0, 0)) (bp_ BK215) hg (Kd.R_ne HO230.out BK215.out (by decide)))
     have n1_ := mk_ (blk_grown (g := gb216) (o := .cells #[.int .i64 a2_0, .int .i64 a2_1, .string a2_2] 135 (0, 0)) (bp_ BK216) hg (Kd.R_away HO230.out (fun _ hk => hk.2)))
     have n2_ := mk_ (blk_grown (g := gb217) (o := .cells #[.int .i64 0, .int .i64 0, .slice none 0 0] 59 (0, 0)) (bp_ BK217) hg (Kd.R_ne HO230.out BK217.out (by decide)))
     have n3_ := mk_ (Kd.R_after (ok := (fun k_ => k_ ≠ gb216)) (rq_ (Kd.R_mono HO233.out (fun _ hk => ⟨hk.2, hk.1⟩))) hg hat)
     have n4_ := mk_ (hb)
     have n5_ := mk_ (ho)
     clear BK215; clear BK216; clear BK217; clear HO233; clear HB; clear HO230; have BK215 := n0_; have BK216 := n1_; have BK217 := n2_; have HO233 := n3_; have HB := n4_; have HO236 := n5_; clear n0_ n1_ n2_ n3_ n4_ n5_; clear ho hb hg hat
     obtain ⟨Ao63, co63, eo63⟩ := Kd.R_slice HO236.out
     (first | subst eo63 | (injection eo63 with f1_ f2_ f3_; have f4_ := f1_.symm; have f5_ := f3_.symm; clear f1_ f2_ f3_; subst f4_; subst f5_))
     refine hK.out _ _ ⟨bc_ BK215 0, bc_ BK215 1, bc_ BK215 2, bc_ BK216 0, bc_ BK216 1, bc_ BK216 2⟩ (fun hHeld => ?_)
     clear hK K
     refine norm_ (a' := ?_) ?_ ?_
     rotate_left
     ·show Act.put _ (some 40) _ = _
      simp only [Act.put, sia_, scz_, scs_, i64_w, i32_w]
      rfl
     refine pv_ 17 41 ?_
     exact norm_ (by first | (simp only [putAll, Act.put, sia_, scz_, scs_]; done) | (simp only [putAll, Act.put, sia_, scz_, scs_]; rfl)) (hJ4_13_15_16 (v222, v229, .slice Ao62 y231.length co62, .slice Ao63 y234.length co63) _ ⟨hHeld, (rq_ (Kd.R_mono HO233.out (fun _ hk => ⟨hk.2, hk.1⟩))), (rp_ HO236), (bp_ BK215), (bp_ BK216), (bp_ BK217), (bw_ HB)⟩)
    intro hJ4_13_15
    refine join_ (σ := Value × Value × Nat) 4 #[true, true, true, true, true, true, true, true, true, true, true, true, true, true, true, false, false, false, true, false] (fun s_ => [(28, s_.1), (37, s_.2.1), (8, .pointer (some ⟨s_.2.2, 0, none⟩))]) (fun s_ w' => (w'.cell? ⟨gb215, 0, none⟩ = some (.int .i64 a0_0) ∧ w'.cell? ⟨gb215, 1, none⟩ = some (.int .i64 a0_1) ∧ w'.cell? ⟨gb215, 2, none⟩ = some (.slice A0_2 l0_2.length c0_2) ∧ w'.cell? ⟨gb216, 0, none⟩ = some (.int .i64 a2_0) ∧ w'.cell? ⟨gb216, 1, none⟩ = some (.int .i64 a2_1) ∧ w'.cell? ⟨gb216, 2, none⟩ = some (.string a2_2)) ∧ (Kd.R k135 135 w' w.heap.size (fun k_ => k_ ≠ gb216) s_.2.1 y228) ∧ (w'.heap[gb215]? = some (.cells #[.int .i64 a0_0, .int .i64 a0_1, .slice A0_2 l0_2.length c0_2] 59 (0, 0))) ∧ (w'.heap[gb216]? = some (.cells #[.int .i64 a2_0, .int .i64 a2_1, .string a2_2] 135 (0, 0))) ∧ (w'.heap[gb217]? = some (.cells #[.int .i64 0, .int .i64 0, .slice none 0 0] 59 (0, 0))) ∧ (w'.heap[s_.2.2]? = some (.cells #[.int .i64 0, .int .i64 0, .slice none 0 0] 59 (0, 0))) ∧ (w.heap.size ≤ s_.2.2) ∧ (w.heap.size ≤ s_.2.2) ∧ (gb215 ≠ s_.2.2) ∧ (s_.2.2 ≠ gb215) ∧ (gb216 ≠ s_.2.2) ∧ (s_.2.2 ≠ gb216) ∧ (gb217 ≠ s_.2.2) ∧ (s_.2.2 ≠ gb217) ∧ (Below w.heap.size w w')) ?_ ?_
    rotate_left
    rotate_left
    ·skip
     rintro ⟨v222, v229, gb237⟩ w59 ⟨hS_, h0_, h1_, h2_, h3_, h4_, h5_, h6_, h7_, h8_, h9_, h10_, h11_, h12_, h13_⟩
     have n0_ : Aside0 (Kd.R k135 135 w59 w.heap.size (fun k_ => k_ ≠ gb216) v229 y228) := ⟨h0_⟩
     have n1_ : Aside0 (w59.heap[gb215]? = some (.cells #[.int .i64 a0_0, .int .i64 a0_1, .slice A0_2 l0_2.length c0_2] 59 (0, 0))) := ⟨h1_⟩
     have n2_ : Aside0 (w59.heap[gb216]? = some (.cells #[.int .i64 a2_0, .int .i64 a2_1, .string a2_2] 135 (0, 0))) := ⟨h2_⟩
     have n3_ : Aside0 (w59.heap[gb217]? = some (.cells #[.int .i64 0, .int .i64 0, .slice none 0 0] 59 (0, 0))) := ⟨h3_⟩
     have n4_ : Aside0 (w59.heap[gb237]? = some (.cells #[.int .i64 0, .int .i64 0, .slice none 0 0] 59 (0, 0))) := ⟨h4_⟩
     have n5_ : Aside0 (w.heap.size ≤ gb237) := ⟨h5_⟩
     have n6_ : Aside0 (w.heap.size ≤ gb237) := ⟨h6_⟩
     have n7_ : Aside0 (gb215 ≠ gb237) := ⟨h7_⟩
     have n8_ : Aside0 (gb237 ≠ gb215) := ⟨h8_⟩
     have n9_ : Aside0 (gb216 ≠ gb237) := ⟨h9_⟩
     have n10_ : Aside0 (gb237 ≠ gb216) := ⟨h10_⟩
     have n11_ : Aside0 (gb217 ≠ gb237) := ⟨h11_⟩
     have n12_ : Aside0 (gb237 ≠ gb217) := ⟨h12_⟩
     have n13_ : Aside0 (Below w.heap.size w w59) := ⟨h13_⟩
     clear BK215; clear BK216; clear BK217; clear HB; clear h0_ h1_ h2_ h3_ h4_ h5_ h6_ h7_ h8_ h9_ h10_ h11_ h12_ h13_; have HO230 := n0_; have BK215 := n1_; have BK216 := n2_; have BK217 := n3_; have BK237 := n4_; have GW237 := n5_; have GE237 := n6_; have NB215_237 := n7_; have NB237_215 := n8_; have NB216_237 := n9_; have NB237_216 := n10_; have NB217_237 := n11_; have NB237_217 := n12_; have HB := n13_; clear n0_ n1_ n2_ n3_ n4_ n5_ n6_ n7_ n8_ n9_ n10_ n11_ n12_ n13_
     have hHeld : w59.cell? ⟨gb215, 0, none⟩ = some (.int .i64 a0_0) ∧ w59.cell? ⟨gb215, 1, none⟩ = some (.int .i64 a0_1) ∧ w59.cell? ⟨gb215, 2, none⟩ = some (.slice A0_2 l0_2.length c0_2) ∧ w59.cell? ⟨gb216, 0, none⟩ = some (.int .i64 a2_0) ∧ w59.cell? ⟨gb216, 1, none⟩ = some (.int .i64 a2_1) ∧ w59.cell? ⟨gb216, 2, none⟩ = some (.string a2_2) := hS_
     refine norm_ (a' := ?_) ?_ ?_
     rotate_left
     ·simp only [putAll, Act.put, sia_, scz_, scs_]
      rfl
     refine one_ (i := 15) (N := some 39) #[true, true, true, true, true, true, true, true, true, true, true, true, true, true, true, true, false, false, true, false] rfl rfl (one_of HT_.out (by kernel_rfl)) (by decide) (fun K hK => ?_)
     refine Kd.R_lit_step k135 _ 135 ?hg (N := 39) ?hd (xs := ([(⟨a2_0, a2_1, a2_2⟩ : S135)] : List (S135))) (inner := [.int .i64 a2_0, .int .i64 a2_1, .string a2_2]) (ok := fun _ => True) (okp := fun _ => True) ?hr ?hp (fun _ hk => hk) trivial (Below.refl _ _) (Nat.le_refl _) (by simp) ?_; (case hd => rfl); (case hg => rfl); (case hr => first | (go_simp; done) | (go_simp; rfl)); (case hp => exact (Reps.c3 (show Kd.M k135 _ _ _ (⟨a2_0, a2_1, a2_2⟩ : S135) [.int .i64 a2_0, .int .i64 a2_1, .string a2_2] from (k135_mkM _ _ _ (⟨a2_0, a2_1, a2_2⟩ : S135) )) (Reps.none _ _)))
     intro v232 w60 ho61 hb hg_ hnew_
     clear hg_ hnew_
     (first | rw [← Ny231.out] at ho61 | (simp only [Int.reduceToNat] at ho61; rw [← Ny231.out] at ho61))
     have n0_ := mk_ (Kd.R_elder' (rp_ HO230) (Kd.R_base ho61) hb)
     have n1_ := mk_ (Kd.R_lower (Kd.R_newB (Kd.R_new' ho61 (Kd.R_lt (rp_ HO230))) (g := gb216) (o := .cells #[.int .i64 a2_0, .int .i64 a2_1, .string a2_2] 135 (0, 0)) (bp_ BK216)) (below_size (bw_ HB)))
     clear HO230; have HO230 := n0_; have HO233 := n1_; clear n0_ n1_; replace BK215 := bb_ BK215 hb; replace BK216 := bb_ BK216 hb; replace BK217 := bb_ BK217 hb; replace BK237 := bb_ BK237 hb; replace HB := bs_ HB hb; clear hb ho61
     refine hK.out _ _ ⟨bc_ BK215 0, bc_ BK215 1, bc_ BK215 2, bc_ BK216 0, bc_ BK216 1, bc_ BK216 2⟩ (fun hHeld => ?_)
     clear hK K
     refine norm_ (a' := ?_) ?_ ?_
     rotate_left
     ·show Act.put _ (some 39) _ = _
      simp only [Act.put, sia_, scz_, scs_, i64_w, i32_w]
      rfl
     exact norm_ (by first | (simp only [putAll, Act.put, sia_, scz_, scs_]; done) | (simp only [putAll, Act.put, sia_, scz_, scs_]; rfl)) (hJ4_13_15_18 (v222, v229, v232, gb237) _ ⟨hHeld, (rq_ (Kd.R_mono HO230.out (fun _ hk => ⟨hk.2, hk.1⟩))), (rq_ (Kd.R_mono HO233.out (fun _ hk => ⟨hk.1.2, hk.2⟩))), (bp_ BK215), (bp_ BK216), (bp_ BK217), (bp_ BK237), GW237.out, GE237.out, NB215_237.out, NB237_215.out, NB216_237.out, NB237_216.out, NB217_237.out, NB237_217.out, (bw_ HB)⟩)
    intro hJ4_13_18
    refine join_ (σ := Value × Value × Nat) 4 #[true, true, true, true, true, true, true, true, true, true, true, true, true, false, true, true, false, false, true, false] (fun s_ => [(28, s_.1), (39, s_.2.1), (8, .pointer (some ⟨s_.2.2, 0, none⟩))]) (fun s_ w' => (w'.cell? ⟨gb215, 0, none⟩ = some (.int .i64 a0_0) ∧ w'.cell? ⟨gb215, 1, none⟩ = some (.int .i64 a0_1) ∧ w'.cell? ⟨gb215, 2, none⟩ = some (.slice A0_2 l0_2.length c0_2) ∧ w'.cell? ⟨gb216, 0, none⟩ = some (.int .i64 a2_0) ∧ w'.cell? ⟨gb216, 1, none⟩ = some (.int .i64 a2_1) ∧ w'.cell? ⟨gb216, 2, none⟩ = some (.string a2_2)) ∧ (Kd.R k135 135 w' w.heap.size (fun k_ => some k_ ≠ (s_.2.1 : Value).ownBlock ∧ k_ ≠ gb216) s_.1 y221) ∧ (Kd.R k135 135 w' w.heap.size (fun k_ => some k_ ≠ (s_.1 : Value).ownBlock ∧ k_ ≠ gb216) s_.2.1 y231) ∧ (w'.heap[gb215]? = some (.cells #[.int .i64 a0_0, .int .i64 a0_1, .slice A0_2 l0_2.length c0_2] 59 (0, 0))) ∧ (w'.heap[gb216]? = some (.cells #[.int .i64 a2_0, .int .i64 a2_1, .string a2_2] 135 (0, 0))) ∧ (w'.heap[gb217]? = some (.cells #[.int .i64 0, .int .i64 0, .slice none 0 0] 59 (0, 0))) ∧ (w'.heap[s_.2.2]? = some (.cells #[.int .i64 0, .int .i64 0, .slice none 0 0] 59 (0, 0))) ∧ (w.heap.size ≤ s_.2.2) ∧ (w.heap.size ≤ s_.2.2) ∧ (gb215 ≠ s_.2.2) ∧ (s_.2.2 ≠ gb215) ∧ (gb216 ≠ s_.2.2) ∧ (s_.2.2 ≠ gb216) ∧ (gb217 ≠ s_.2.2) ∧ (s_.2.2 ≠ gb217) ∧ (Below w.heap.size w w')) ?_ ?_
    rotate_left
    rotate_left
    ·skip
     rintro ⟨v222, v232, gb237⟩ w60 ⟨hS_, h0_, h1_, h2_, h3_, h4_, h5_, h6_, h7_, h8_, h9_, h10_, h11_, h12_, h13_, h14_⟩
     have n0_ : Aside0 (Kd.R k135 135 w60 w.heap.size (fun k_ => some k_ ≠ (v232 : Value).ownBlock ∧ k_ ≠ gb216) v222 y221) := ⟨h0_⟩
     have n1_ : Aside0 (Kd.R k135 135 w60 w.heap.size (fun k_ => some k_ ≠ (v222 : Value).ownBlock ∧ k_ ≠ gb216) v232 y231) := ⟨h1_⟩
     have n2_ : Aside0 (w60.heap[gb215]? = some (.cells #[.int .i64 a0_0, .int .i64 a0_1, .slice A0_2 l0_2.length c0_2] 59 (0, 0))) := ⟨h2_⟩
     have n3_ : Aside0 (w60.heap[gb216]? = some (.cells #[.int .i64 a2_0, .int .i64 a2_1, .string a2_2] 135 (0, 0))) := ⟨h3_⟩
     have n4_ : Aside0 (w60.heap[gb217]? = some (.cells #[.int .i64 0, .int .i64 0, .slice none 0 0] 59 (0, 0))) := ⟨h4_⟩
     have n5_ : Aside0 (w60.heap[gb237]? = some (.cells #[.int .i64 0, .int .i64 0, .slice none 0 0] 59 (0, 0))) := ⟨h5_⟩
     have n6_ : Aside0 (w.heap.size ≤ gb237) := ⟨h6_⟩
     have n7_ : Aside0 (w.heap.size ≤ gb237) := ⟨h7_⟩
     have n8_ : Aside0 (gb215 ≠ gb237) := ⟨h8_⟩
     have n9_ : Aside0 (gb237 ≠ gb215) := ⟨h9_⟩
     have n10_ : Aside0 (gb216 ≠ gb237) := ⟨h10_⟩
     have n11_ : Aside0 (gb237 ≠ gb216) := ⟨h11_⟩
     have n12_ : Aside0 (gb217 ≠ gb237) := ⟨h12_⟩
     have n13_ : Aside0 (gb237 ≠ gb217) := ⟨h13_⟩
     have n14_ : Aside0 (Below w.heap.size w w60) := ⟨h14_⟩
     clear BK215; clear BK216; clear BK217; clear HB; clear h0_ h1_ h2_ h3_ h4_ h5_ h6_ h7_ h8_ h9_ h10_ h11_ h12_ h13_ h14_; have HO223 := n0_; have HO233 := n1_; have BK215 := n2_; have BK216 := n3_; have BK217 := n4_; have BK237 := n5_; have GW237 := n6_; have GE237 := n7_; have NB215_237 := n8_; have NB237_215 := n9_; have NB216_237 := n10_; have NB237_216 := n11_; have NB217_237 := n12_; have NB237_217 := n13_; have HB := n14_; clear n0_ n1_ n2_ n3_ n4_ n5_ n6_ n7_ n8_ n9_ n10_ n11_ n12_ n13_ n14_
     have hHeld : w60.cell? ⟨gb215, 0, none⟩ = some (.int .i64 a0_0) ∧ w60.cell? ⟨gb215, 1, none⟩ = some (.int .i64 a0_1) ∧ w60.cell? ⟨gb215, 2, none⟩ = some (.slice A0_2 l0_2.length c0_2) ∧ w60.cell? ⟨gb216, 0, none⟩ = some (.int .i64 a2_0) ∧ w60.cell? ⟨gb216, 1, none⟩ = some (.int .i64 a2_1) ∧ w60.cell? ⟨gb216, 2, none⟩ = some (.string a2_2) := hS_
     refine norm_ (a' := ?_) ?_ ?_
     rotate_left
     ·simp only [putAll, Act.put, sia_, scz_, scs_]
      rfl
     refine one_ (i := 13) (N := some 37) #[true, true, true, true, true, true, true, true, true, true, true, true, true, true, true, true, false, false, true, false] rfl rfl (one_of HT_.out (by kernel_rfl)) (by decide) (fun K hK => ?_)
     refine Kd.R_append_rows_step k135 (w0 := w) w.heap.size (by rfl) (.tmp 28) (.tmp 36) 57 135 (.agg #[(.int .i64 0), (.int .i64 0), (.string ⟨#[]⟩)]) 32 rfl Try.underlying57 info135 rfl (by decide) (by omega) v222 y221 y224 _ _ _ (fun k_ => some k_ ≠ (v232 : Value).ownBlock ∧ k_ ≠ gb216) (fun _ => False) rfl rfl ?aO ?aR (fun _ _ h => h) (fun _ h => h.elim) ?aF ?aB ?aS ?aL ?_
     (case aR => exact cb_ HR227 HB)
     (case aB => exact (bw_ HB))
     (case aF => exact (fun k_ hk => ⟨Kd.fresh' (Kd.R_lt (rp_ HO233)) k_ hk, Kd.freshB (g := gb216) (o := .cells #[.int .i64 a2_0, .int .i64 a2_1, .string a2_2] 135 (0, 0)) (bp_ BK216) k_ hk⟩))
     (case aO => exact (rp_ HO223))
     (case aS => exact (below_size (bw_ HB)))
     (case aL => have := LMc24.out; omega)
     intro v229 w61 ho hb hg hat
     rw [← Ny228.out] at ho
     have n0_ := mk_ (blk_grown (g := gb215) (o := .cells #[.int .i64 a0_0, .int .i64 a0_1, .slice A0_2 l0_2.length c0_2] 59 (0, 0)) (bp_ BK215) hg (Kd.R_ne HO223.out BK215.out (by decide)))
     have n1_ := mk_ (blk_grown (g := gb216) (o := .cells #[.int .i64 a2_0, .int .i64 a2_1, .string a2_2] 135 (0, 0)) (bp_ BK216) hg (Kd.R_away HO223.out (fun _ hk => hk.2)))
     have n2_ := mk_ (blk_grown (g := gb217) (o := .cells #[.int .i64 0, .int .i64 0, .slice none 0 0] 59 (0, 0)) (bp_ BK217) hg (Kd.R_ne HO223.out BK217.out (by decide)))
     have n3_ := mk_ (Kd.R_after (ok := (fun k_ => k_ ≠ gb216)) (rq_ (Kd.R_mono HO233.out (fun _ hk => ⟨hk.2, hk.1⟩))) hg hat)
     have n4_ := mk_ (blk_grown (g := gb237) (o := .cells #[.int .i64 0, .int .i64 0, .slice none 0 0] 59 (0, 0)) (bp_ BK237) hg (Kd.R_ne HO223.out BK237.out (by decide)))
     have n5_ := mk_ (hb)
     have n6_ := mk_ (ho)
     clear BK215; clear BK216; clear BK217; clear HO233; clear BK237; clear HB; clear HO223; have BK215 := n0_; have BK216 := n1_; have BK217 := n2_; have HO233 := n3_; have BK237 := n4_; have HB := n5_; have HO230 := n6_; clear n0_ n1_ n2_ n3_ n4_ n5_ n6_; clear ho hb hg hat
     refine hK.out _ _ ⟨bc_ BK215 0, bc_ BK215 1, bc_ BK215 2, bc_ BK216 0, bc_ BK216 1, bc_ BK216 2⟩ (fun hHeld => ?_)
     clear hK K
     refine norm_ (a' := ?_) ?_ ?_
     rotate_left
     ·show Act.put _ (some 37) _ = _
      simp only [Act.put, sia_, scz_, scs_, i64_w, i32_w]
      rfl
     exact norm_ (by first | (simp only [putAll, Act.put, sia_, scz_, scs_]; done) | (simp only [putAll, Act.put, sia_, scz_, scs_]; rfl)) (hJ4_13_15_18 (v222, v229, v232, gb237) _ ⟨hHeld, (rp_ HO230), (rq_ (Kd.R_mono HO233.out (fun _ hk => ⟨hk.2, hk.1⟩))), (bp_ BK215), (bp_ BK216), (bp_ BK217), (bp_ BK237), GW237.out, GE237.out, NB215_237.out, NB237_215.out, NB216_237.out, NB237_216.out, NB217_237.out, NB237_217.out, (bw_ HB)⟩)
    intro hJ4_15_18
    refine join_ (σ := Value × Value) 5 #[true, true, true, true, true, true, true, true, true, true, true, true, true, true, true, false, false, false, false, false] (fun s_ => [(28, s_.1), (37, s_.2)]) (fun s_ w' => (w'.cell? ⟨gb215, 0, none⟩ = some (.int .i64 a0_0) ∧ w'.cell? ⟨gb215, 1, none⟩ = some (.int .i64 a0_1) ∧ w'.cell? ⟨gb215, 2, none⟩ = some (.slice A0_2 l0_2.length c0_2) ∧ w'.cell? ⟨gb216, 0, none⟩ = some (.int .i64 a2_0) ∧ w'.cell? ⟨gb216, 1, none⟩ = some (.int .i64 a2_1) ∧ w'.cell? ⟨gb216, 2, none⟩ = some (.string a2_2)) ∧ (Kd.R k135 135 w' w.heap.size (fun k_ => k_ ≠ gb216) s_.2 y228) ∧ (w'.heap[gb215]? = some (.cells #[.int .i64 a0_0, .int .i64 a0_1, .slice A0_2 l0_2.length c0_2] 59 (0, 0))) ∧ (w'.heap[gb216]? = some (.cells #[.int .i64 a2_0, .int .i64 a2_1, .string a2_2] 135 (0, 0))) ∧ (w'.heap[gb217]? = some (.cells #[.int .i64 0, .int .i64 0, .slice none 0 0] 59 (0, 0))) ∧ (Below w.heap.size w w')) ?_ ?_
    rotate_left
    rotate_left
    ·skip
     rintro ⟨v222, v229⟩ w58 ⟨hS_, h0_, h1_, h2_, h3_, h4_⟩
     have n0_ : Aside0 (Kd.R k135 135 w58 w.heap.size (fun k_ => k_ ≠ gb216) v229 y228) := ⟨h0_⟩
     have n1_ : Aside0 (w58.heap[gb215]? = some (.cells #[.int .i64 a0_0, .int .i64 a0_1, .slice A0_2 l0_2.length c0_2] 59 (0, 0))) := ⟨h1_⟩
     have n2_ : Aside0 (w58.heap[gb216]? = some (.cells #[.int .i64 a2_0, .int .i64 a2_1, .string a2_2] 135 (0, 0))) := ⟨h2_⟩
     have n3_ : Aside0 (w58.heap[gb217]? = some (.cells #[.int .i64 0, .int .i64 0, .slice none 0 0] 59 (0, 0))) := ⟨h3_⟩
     have n4_ : Aside0 (Below w.heap.size w w58) := ⟨h4_⟩
     clear BK215; clear BK216; clear BK217; clear HB; clear h0_ h1_ h2_ h3_ h4_; have HO230 := n0_; have BK215 := n1_; have BK216 := n2_; have BK217 := n3_; have HB := n4_; clear n0_ n1_ n2_ n3_ n4_
     have hHeld : w58.cell? ⟨gb215, 0, none⟩ = some (.int .i64 a0_0) ∧ w58.cell? ⟨gb215, 1, none⟩ = some (.int .i64 a0_1) ∧ w58.cell? ⟨gb215, 2, none⟩ = some (.slice A0_2 l0_2.length c0_2) ∧ w58.cell? ⟨gb216, 0, none⟩ = some (.int .i64 a2_0) ∧ w58.cell? ⟨gb216, 1, none⟩ = some (.int .i64 a2_1) ∧ w58.cell? ⟨gb216, 2, none⟩ = some (.string a2_2) := hS_
     refine norm_ (a' := ?_) ?_ ?_
     rotate_left
     ·simp only [putAll, Act.put, sia_, scz_, scs_]
      rfl
     refine two_ (i := 15) (j := 18) (Ni := some 39) (Nj := some 8) #[true, true, true, true, true, true, true, true, true, true, true, true, true, true, true, true, false, false, false, false] #[true, true, true, true, true, true, true, true, true, true, true, true, true, true, true, false, false, false, true, false] rfl rfl rfl rfl (two_of HT_.out (by kernel_rfl)) (by decide) (by decide) (fun K hK => ?_) (fun K hK => ?_)
     ·skip
      refine Kd.R_lit_step k135 _ 135 ?hg (N := 39) ?hd (xs := ([(⟨a2_0, a2_1, a2_2⟩ : S135)] : List (S135))) (inner := [.int .i64 a2_0, .int .i64 a2_1, .string a2_2]) (ok := fun _ => True) (okp := fun _ => True) ?hr ?hp (fun _ hk => hk) trivial (Below.refl _ _) (Nat.le_refl _) (by simp) ?_; (case hd => rfl); (case hg => rfl); (case hr => first | (go_simp; done) | (go_simp; rfl)); (case hp => exact (Reps.c3 (show Kd.M k135 _ _ _ (⟨a2_0, a2_1, a2_2⟩ : S135) [.int .i64 a2_0, .int .i64 a2_1, .string a2_2] from (k135_mkM _ _ _ (⟨a2_0, a2_1, a2_2⟩ : S135) )) (Reps.none _ _)))
      intro v232 w59 ho60 hb hg_ hnew_
      clear hg_ hnew_
      (first | rw [← Ny231.out] at ho60 | (simp only [Int.reduceToNat] at ho60; rw [← Ny231.out] at ho60))
      have n0_ := mk_ (Kd.R_elder' (rp_ HO230) (Kd.R_base ho60) hb)
      have n1_ := mk_ (Kd.R_lower (Kd.R_newB (Kd.R_new' ho60 (Kd.R_lt (rp_ HO230))) (g := gb216) (o := .cells #[.int .i64 a2_0, .int .i64 a2_1, .string a2_2] 135 (0, 0)) (bp_ BK216)) (below_size (bw_ HB)))
      clear HO230; have HO230 := n0_; have HO233 := n1_; clear n0_ n1_; replace BK215 := bb_ BK215 hb; replace BK216 := bb_ BK216 hb; replace BK217 := bb_ BK217 hb; replace HB := bs_ HB hb; clear hb ho60
      refine hK.out _ _ ⟨bc_ BK215 0, bc_ BK215 1, bc_ BK215 2, bc_ BK216 0, bc_ BK216 1, bc_ BK216 2⟩ (fun hHeld => ?_)
      clear hK K
      refine norm_ (a' := ?_) ?_ ?_
      rotate_left
      ·show Act.put _ (some 39) _ = _
       simp only [Act.put, sia_, scz_, scs_, i64_w, i32_w]
       rfl
      exact norm_ (by first | (simp only [putAll, Act.put, sia_, scz_, scs_]; done) | (simp only [putAll, Act.put, sia_, scz_, scs_]; rfl)) (hJ4_13_15 (v222, v229, v232) _ ⟨hHeld, (rq_ (Kd.R_mono HO230.out (fun _ hk => ⟨hk.2, hk.1⟩))), (rq_ (Kd.R_mono HO233.out (fun _ hk => ⟨hk.1.2, hk.2⟩))), (bp_ BK215), (bp_ BK216), (bp_ BK217), (bw_ HB)⟩)
     skip
     refine box_step ?hg (N := 8) ?hd (cs := #[.int .i64 0, .int .i64 0, .slice none 0 0]) (t := 59) ?hr ?_; (case hd => rfl); (case hg => rfl); (case hr => first | (go_simp; done) | (go_simp; rfl))
     intro gb237 hg w59 hbox hb
     have n5_ := mk_ (hbox)
     have n6_ : Aside0 (w.heap.size ≤ gb237) := bz_ hg
     have n7_ : Aside0 (w.heap.size ≤ gb237) := bz_ hg
     have n8_ : Aside0 (gb215 ≠ gb237) := bl_ BK215 hg
     have n9_ : Aside0 (gb237 ≠ gb215) := bg_ BK215 hg
     have n10_ : Aside0 (gb216 ≠ gb237) := bl_ BK216 hg
     have n11_ : Aside0 (gb237 ≠ gb216) := bg_ BK216 hg
     have n12_ : Aside0 (gb217 ≠ gb237) := bl_ BK217 hg
     have n13_ : Aside0 (gb237 ≠ gb217) := bg_ BK217 hg
     have BK237 := n5_; have GW237 := n6_; have GE237 := n7_; have NB215_237 := n8_; have NB237_215 := n9_; have NB216_237 := n10_; have NB237_216 := n11_; have NB217_237 := n12_; have NB237_217 := n13_; clear n5_ n6_ n7_ n8_ n9_ n10_ n11_ n12_ n13_; replace HO230 := rb_ HO230 hb; replace BK215 := bb_ BK215 hb; replace BK216 := bb_ BK216 hb; replace BK217 := bb_ BK217 hb; replace HB := bs_ HB hb; clear hb hbox hg
     refine hK.out _ _ ⟨bc_ BK215 0, bc_ BK215 1, bc_ BK215 2, bc_ BK216 0, bc_ BK216 1, bc_ BK216 2⟩ (fun hHeld => ?_)
     clear hK K
     refine norm_ (a' := ?_) ?_ ?_
     rotate_left
     ·show Act.put _ (some 8) _ = _
      simp only [Act.put, sia_, scz_, scs_, i64_w, i32_w]
      rfl
     exact norm_ (by first | (simp only [putAll, Act.put, sia_, scz_, scs_]; done) | (simp only [putAll, Act.put, sia_, scz_, scs_]; rfl)) (hJ4_13_18 (v222, v229, gb237) _ ⟨hHeld, (rp_ HO230), (bp_ BK215), (bp_ BK216), (bp_ BK217), (bp_ BK237), GW237.out, GE237.out, NB215_237.out, NB237_215.out, NB216_237.out, NB237_216.out, NB217_237.out, NB237_217.out, (bw_ HB)⟩)
    intro hJ4_13
    refine join_ (σ := Value × Value) 5 #[true, true, true, true, true, true, true, true, true, true, true, true, true, false, true, true, false, false, false, false] (fun s_ => [(28, s_.1), (39, s_.2)]) (fun s_ w' => (w'.cell? ⟨gb215, 0, none⟩ = some (.int .i64 a0_0) ∧ w'.cell? ⟨gb215, 1, none⟩ = some (.int .i64 a0_1) ∧ w'.cell? ⟨gb215, 2, none⟩ = some (.slice A0_2 l0_2.length c0_2) ∧ w'.cell? ⟨gb216, 0, none⟩ = some (.int .i64 a2_0) ∧ w'.cell? ⟨gb216, 1, none⟩ = some (.int .i64 a2_1) ∧ w'.cell? ⟨gb216, 2, none⟩ = some (.string a2_2)) ∧ (Kd.R k135 135 w' w.heap.size (fun k_ => some k_ ≠ (s_.2 : Value).ownBlock ∧ k_ ≠ gb216) s_.1 y221) ∧ (Kd.R k135 135 w' w.heap.size (fun k_ => some k_ ≠ (s_.1 : Value).ownBlock ∧ k_ ≠ gb216) s_.2 y231) ∧ (w'.heap[gb215]? = some (.cells #[.int .i64 a0_0, .int .i64 a0_1, .slice A0_2 l0_2.length c0_2] 59 (0, 0))) ∧ (w'.heap[gb216]? = some (.cells #[.int .i64 a2_0, .int .i64 a2_1, .string a2_2] 135 (0, 0))) ∧ (w'.heap[gb217]? = some (.cells #[.int .i64 0, .int .i64 0, .slice none 0 0] 59 (0, 0))) ∧ (Below w.heap.size w w')) ?_ ?_
    rotate_left
    rotate_left
    ·skip
     rintro ⟨v222, v232⟩ w59 ⟨hS_, h0_, h1_, h2_, h3_, h4_, h5_⟩
     have n0_ : Aside0 (Kd.R k135 135 w59 w.heap.size (fun k_ => some k_ ≠ (v232 : Value).ownBlock ∧ k_ ≠ gb216) v222 y221) := ⟨h0_⟩
     have n1_ : Aside0 (Kd.R k135 135 w59 w.heap.size (fun k_ => some k_ ≠ (v222 : Value).ownBlock ∧ k_ ≠ gb216) v232 y231) := ⟨h1_⟩
     have n2_ : Aside0 (w59.heap[gb215]? = some (.cells #[.int .i64 a0_0, .int .i64 a0_1, .slice A0_2 l0_2.length c0_2] 59 (0, 0))) := ⟨h2_⟩
     have n3_ : Aside0 (w59.heap[gb216]? = some (.cells #[.int .i64 a2_0, .int .i64 a2_1, .string a2_2] 135 (0, 0))) := ⟨h3_⟩
     have n4_ : Aside0 (w59.heap[gb217]? = some (.cells #[.int .i64 0, .int .i64 0, .slice none 0 0] 59 (0, 0))) := ⟨h4_⟩
     have n5_ : Aside0 (Below w.heap.size w w59) := ⟨h5_⟩
     clear BK215; clear BK216; clear BK217; clear HB; clear h0_ h1_ h2_ h3_ h4_ h5_; have HO223 := n0_; have HO233 := n1_; have BK215 := n2_; have BK216 := n3_; have BK217 := n4_; have HB := n5_; clear n0_ n1_ n2_ n3_ n4_ n5_
     have hHeld : w59.cell? ⟨gb215, 0, none⟩ = some (.int .i64 a0_0) ∧ w59.cell? ⟨gb215, 1, none⟩ = some (.int .i64 a0_1) ∧ w59.cell? ⟨gb215, 2, none⟩ = some (.slice A0_2 l0_2.length c0_2) ∧ w59.cell? ⟨gb216, 0, none⟩ = some (.int .i64 a2_0) ∧ w59.cell? ⟨gb216, 1, none⟩ = some (.int .i64 a2_1) ∧ w59.cell? ⟨gb216, 2, none⟩ = some (.string a2_2) := hS_
     refine norm_ (a' := ?_) ?_ ?_
     rotate_left
     ·simp only [putAll, Act.put, sia_, scz_, scs_]
      rfl
     refine two_ (i := 13) (j := 18) (Ni := some 37) (Nj := some 8) #[true, true, true, true, true, true, true, true, true, true, true, true, true, true, true, true, false, false, false, false] #[true, true, true, true, true, true, true, true, true, true, true, true, true, false, true, true, false, false, true, false] rfl rfl rfl rfl (two_of HT_.out (by kernel_rfl)) (by decide) (by decide) (fun K hK => ?_) (fun K hK => ?_)
     rotate_left
     ·skip
      refine box_step ?hg (N := 8) ?hd (cs := #[.int .i64 0, .int .i64 0, .slice none 0 0]) (t := 59) ?hr ?_; (case hd => rfl); (case hg => rfl); (case hr => first | (go_simp; done) | (go_simp; rfl))
      intro gb237 hg w60 hbox hb
      have n6_ := mk_ (hbox)
      have n7_ : Aside0 (w.heap.size ≤ gb237) := bz_ hg
      have n8_ : Aside0 (w.heap.size ≤ gb237) := bz_ hg
      have n9_ : Aside0 (gb215 ≠ gb237) := bl_ BK215 hg
      have n10_ : Aside0 (gb237 ≠ gb215) := bg_ BK215 hg
      have n11_ : Aside0 (gb216 ≠ gb237) := bl_ BK216 hg
      have n12_ : Aside0 (gb237 ≠ gb216) := bg_ BK216 hg
      have n13_ : Aside0 (gb217 ≠ gb237) := bl_ BK217 hg
      have n14_ : Aside0 (gb237 ≠ gb217) := bg_ BK217 hg
      have BK237 := n6_; have GW237 := n7_; have GE237 := n8_; have NB215_237 := n9_; have NB237_215 := n10_; have NB216_237 := n11_; have NB237_216 := n12_; have NB217_237 := n13_; have NB237_217 := n14_; clear n6_ n7_ n8_ n9_ n10_ n11_ n12_ n13_ n14_; replace HO223 := rb_ HO223 hb; replace HO233 := rb_ HO233 hb; replace BK215 := bb_ BK215 hb; replace BK216 := bb_ BK216 hb; replace BK217 := bb_ BK217 hb; replace HB := bs_ HB hb; clear hb hbox hg
      refine hK.out _ _ ⟨bc_ BK215 0, bc_ BK215 1, bc_ BK215 2, bc_ BK216 0, bc_ BK216 1, bc_ BK216 2⟩ (fun hHeld => ?_)
      clear hK K
      refine norm_ (a' := ?_) ?_ ?_
      rotate_left
      ·show Act.put _ (some 8) _ = _
       simp only [Act.put, sia_, scz_, scs_, i64_w, i32_w]
       rfl
      exact norm_ (by first | (simp only [putAll, Act.put, sia_, scz_, scs_]; done) | (simp only [putAll, Act.put, sia_, scz_, scs_]; rfl)) (hJ4_15_18 (v222, v232, gb237) _ ⟨hHeld, (rp_ HO223), (rp_ HO233), (bp_ BK215), (bp_ BK216), (bp_ BK217), (bp_ BK237), GW237.out, GE237.out, NB215_237.out, NB237_215.out, NB216_237.out, NB237_216.out, NB217_237.out, NB237_217.out, (bw_ HB)⟩)
     skip
     refine Kd.R_append_rows_step k135 (w0 := w) w.heap.size (by rfl) (.tmp 28) (.tmp 36) 57 135 (.agg #[(.int .i64 0), (.int .i64 0), (.string ⟨#[]⟩)]) 32 rfl Try.underlying57 info135 rfl (by decide) (by omega) v222 y221 y224 _ _ _ (fun k_ => some k_ ≠ (v232 : Value).ownBlock ∧ k_ ≠ gb216) (fun _ => False) rfl rfl ?aO ?aR (fun _ _ h => h) (fun _ h => h.elim) ?aF ?aB ?aS ?aL ?_
     (case aR => exact cb_ HR227 HB)
     (case aB => exact (bw_ HB))
     (case aF => exact (fun k_ hk => ⟨Kd.fresh' (Kd.R_lt (rp_ HO233)) k_ hk, Kd.freshB (g := gb216) (o := .cells #[.int .i64 a2_0, .int .i64 a2_1, .string a2_2] 135 (0, 0)) (bp_ BK216) k_ hk⟩))
     (case aO => exact (rp_ HO223))
     (case aS => exact (below_size (bw_ HB)))
     (case aL => have := LMc24.out; omega)
     intro v229 w60 ho hb hg hat
     rw [← Ny228.out] at ho
     have n0_ := mk_ (blk_grown (g := gb215) (o := .cells #[.int .i64 a0_0, .int .i64 a0_1, .slice A0_2 l0_2.length c0_2] 59 (0, 0)) (bp_ BK215) hg (Kd.R_ne HO223.out BK215.out (by decide)))
     have n1_ := mk_ (blk_grown (g := gb216) (o := .cells #[.int .i64 a2_0, .int .i64 a2_1, .string a2_2] 135 (0, 0)) (bp_ BK216) hg (Kd.R_away HO223.out (fun _ hk => hk.2)))
     have n2_ := mk_ (blk_grown (g := gb217) (o := .cells #[.int .i64 0, .int .i64 0, .slice none 0 0] 59 (0, 0)) (bp_ BK217) hg (Kd.R_ne HO223.out BK217.out (by decide)))
     have n3_ := mk_ (Kd.R_after (ok := (fun k_ => k_ ≠ gb216)) (rq_ (Kd.R_mono HO233.out (fun _ hk => ⟨hk.2, hk.1⟩))) hg hat)
     have n4_ := mk_ (hb)
     have n5_ := mk_ (ho)
     clear BK215; clear BK216; clear BK217; clear HO233; clear HB; clear HO223; have BK215 := n0_; have BK216 := n1_; have BK217 := n2_; have HO233 := n3_; have HB := n4_; have HO230 := n5_; clear n0_ n1_ n2_ n3_ n4_ n5_; clear ho hb hg hat
     refine hK.out _ _ ⟨bc_ BK215 0, bc_ BK215 1, bc_ BK215 2, bc_ BK216 0, bc_ BK216 1, bc_ BK216 2⟩ (fun hHeld => ?_)
     clear hK K
     refine norm_ (a' := ?_) ?_ ?_
     rotate_left
     ·show Act.put _ (some 37) _ = _
      simp only [Act.put, sia_, scz_, scs_, i64_w, i32_w]
      rfl
     exact norm_ (by first | (simp only [putAll, Act.put, sia_, scz_, scs_]; done) | (simp only [putAll, Act.put, sia_, scz_, scs_]; rfl)) (hJ4_13_15 (v222, v229, v232) _ ⟨hHeld, (rp_ HO230), (rq_ (Kd.R_mono HO233.out (fun _ hk => ⟨hk.2, hk.1⟩))), (bp_ BK215), (bp_ BK216), (bp_ BK217), (bw_ HB)⟩)
    intro hJ4_15
    refine join_ (σ := Value × Nat) 5 #[true, true, true, true, true, true, true, true, true, true, true, true, true, false, true, false, false, false, true, false] (fun s_ => [(28, s_.1), (8, .pointer (some ⟨s_.2, 0, none⟩))]) (fun s_ w' => (w'.cell? ⟨gb215, 0, none⟩ = some (.int .i64 a0_0) ∧ w'.cell? ⟨gb215, 1, none⟩ = some (.int .i64 a0_1) ∧ w'.cell? ⟨gb215, 2, none⟩ = some (.slice A0_2 l0_2.length c0_2) ∧ w'.cell? ⟨gb216, 0, none⟩ = some (.int .i64 a2_0) ∧ w'.cell? ⟨gb216, 1, none⟩ = some (.int .i64 a2_1) ∧ w'.cell? ⟨gb216, 2, none⟩ = some (.string a2_2)) ∧ (Kd.R k135 135 w' w.heap.size (fun k_ => k_ ≠ gb216) s_.1 y221) ∧ (w'.heap[gb215]? = some (.cells #[.int .i64 a0_0, .int .i64 a0_1, .slice A0_2 l0_2.length c0_2] 59 (0, 0))) ∧ (w'.heap[gb216]? = some (.cells #[.int .i64 a2_0, .int .i64 a2_1, .string a2_2] 135 (0, 0))) ∧ (w'.heap[gb217]? = some (.cells #[.int .i64 0, .int .i64 0, .slice none 0 0] 59 (0, 0))) ∧ (w'.heap[s_.2]? = some (.cells #[.int .i64 0, .int .i64 0, .slice none 0 0] 59 (0, 0))) ∧ (w.heap.size ≤ s_.2) ∧ (w.heap.size ≤ s_.2) ∧ (gb215 ≠ s_.2) ∧ (s_.2 ≠ gb215) ∧ (gb216 ≠ s_.2) ∧ (s_.2 ≠ gb216) ∧ (gb217 ≠ s_.2) ∧ (s_.2 ≠ gb217) ∧ (Below w.heap.size w w')) ?_ ?_
    rotate_left
    rotate_left
    ·skip
     rintro ⟨v222, gb237⟩ w58 ⟨hS_, h0_, h1_, h2_, h3_, h4_, h5_, h6_, h7_, h8_, h9_, h10_, h11_, h12_, h13_⟩
     have n0_ : Aside0 (Kd.R k135 135 w58 w.heap.size (fun k_ => k_ ≠ gb216) v222 y221) := ⟨h0_⟩
     have n1_ : Aside0 (w58.heap[gb215]? = some (.cells #[.int .i64 a0_0, .int .i64 a0_1, .slice A0_2 l0_2.length c0_2] 59 (0, 0))) := ⟨h1_⟩
     have n2_ : Aside0 (w58.heap[gb216]? = some (.cells #[.int .i64 a2_0, .int .i64 a2_1, .string a2_2] 135 (0, 0))) := ⟨h2_⟩
     have n3_ : Aside0 (w58.heap[gb217]? = some (.cells #[.int .i64 0, .int .i64 0, .slice none 0 0] 59 (0, 0))) := ⟨h3_⟩
     have n4_ : Aside0 (w58.heap[gb237]? = some (.cells #[.int .i64 0, .int .i64 0, .slice none 0 0] 59 (0, 0))) := ⟨h4_⟩
     have n5_ : Aside0 (w.heap.size ≤ gb237) := ⟨h5_⟩
     have n6_ : Aside0 (w.heap.size ≤ gb237) := ⟨h6_⟩
     have n7_ : Aside0 (gb215 ≠ gb237) := ⟨h7_⟩
     have n8_ : Aside0 (gb237 ≠ gb215) := ⟨h8_⟩
     have n9_ : Aside0 (gb216 ≠ gb237) := ⟨h9_⟩
     have n10_ : Aside0 (gb237 ≠ gb216) := ⟨h10_⟩
     have n11_ : Aside0 (gb217 ≠ gb237) := ⟨h11_⟩
     have n12_ : Aside0 (gb237 ≠ gb217) := ⟨h12_⟩
     have n13_ : Aside0 (Below w.heap.size w w58) := ⟨h13_⟩
     clear BK215; clear BK216; clear BK217; clear HB; clear h0_ h1_ h2_ h3_ h4_ h5_ h6_ h7_ h8_ h9_ h10_ h11_ h12_ h13_; have HO223 := n0_; have BK215 := n1_; have BK216 := n2_; have BK217 := n3_; have BK237 := n4_; have GW237 := n5_; have GE237 := n6_; have NB215_237 := n7_; have NB237_215 := n8_; have NB216_237 := n9_; have NB237_216 := n10_; have NB217_237 := n11_; have NB237_217 := n12_; have HB := n13_; clear n0_ n1_ n2_ n3_ n4_ n5_ n6_ n7_ n8_ n9_ n10_ n11_ n12_ n13_
     have hHeld : w58.cell? ⟨gb215, 0, none⟩ = some (.int .i64 a0_0) ∧ w58.cell? ⟨gb215, 1, none⟩ = some (.int .i64 a0_1) ∧ w58.cell? ⟨gb215, 2, none⟩ = some (.slice A0_2 l0_2.length c0_2) ∧ w58.cell? ⟨gb216, 0, none⟩ = some (.int .i64 a2_0) ∧ w58.cell? ⟨gb216, 1, none⟩ = some (.int .i64 a2_1) ∧ w58.cell? ⟨gb216, 2, none⟩ = some (.string a2_2) := hS_
     refine norm_ (a' := ?_) ?_ ?_
     rotate_left
     ·simp only [putAll, Act.put, sia_, scz_, scs_]
      rfl
     refine two_ (i := 13) (j := 15) (Ni := some 37) (Nj := some 39) #[true, true, true, true, true, true, true, true, true, true, true, true, true, true, true, false, false, false, true, false] #[true, true, true, true, true, true, true, true, true, true, true, true, true, false, true, true, false, false, true, false] rfl rfl rfl rfl (two_of HT_.out (by kernel_rfl)) (by decide) (by decide) (fun K hK => ?_) (fun K hK => ?_)
     rotate_left
     ·skip
      refine Kd.R_lit_step k135 _ 135 ?hg (N := 39) ?hd (xs := ([(⟨a2_0, a2_1, a2_2⟩ : S135)] : List (S135))) (inner := [.int .i64 a2_0, .int .i64 a2_1, .string a2_2]) (ok := fun _ => True) (okp := fun _ => True) ?hr ?hp (fun _ hk => hk) trivial (Below.refl _ _) (Nat.le_refl _) (by simp) ?_; (case hd => rfl); (case hg => rfl); (case hr => first | (go_simp; done) | (go_simp; rfl)); (case hp => exact (Reps.c3 (show Kd.M k135 _ _ _ (⟨a2_0, a2_1, a2_2⟩ : S135) [.int .i64 a2_0, .int .i64 a2_1, .string a2_2] from (k135_mkM _ _ _ (⟨a2_0, a2_1, a2_2⟩ : S135) )) (Reps.none _ _)))
      intro v232 w59 ho60 hb hg_ hnew_
      clear hg_ hnew_
      (first | rw [← Ny231.out] at ho60 | (simp only [Int.reduceToNat] at ho60; rw [← Ny231.out] at ho60))
      have n0_ := mk_ (Kd.R_elder' (rp_ HO223) (Kd.R_base ho60) hb)
      have n1_ := mk_ (Kd.R_lower (Kd.R_newB (Kd.R_new' ho60 (Kd.R_lt (rp_ HO223))) (g := gb216) (o := .cells #[.int .i64 a2_0, .int .i64 a2_1, .string a2_2] 135 (0, 0)) (bp_ BK216)) (below_size (bw_ HB)))
      clear HO223; have HO223 := n0_; have HO233 := n1_; clear n0_ n1_; replace BK215 := bb_ BK215 hb; replace BK216 := bb_ BK216 hb; replace BK217 := bb_ BK217 hb; replace BK237 := bb_ BK237 hb; replace HB := bs_ HB hb; clear hb ho60
      refine hK.out _ _ ⟨bc_ BK215 0, bc_ BK215 1, bc_ BK215 2, bc_ BK216 0, bc_ BK216 1, bc_ BK216 2⟩ (fun hHeld => ?_)
      clear hK K
      refine norm_ (a' := ?_) ?_ ?_
      rotate_left
      ·show Act.put _ (some 39) _ = _
       simp only [Act.put, sia_, scz_, scs_, i64_w, i32_w]
       rfl
      exact norm_ (by first | (simp only [putAll, Act.put, sia_, scz_, scs_]; done) | (simp only [putAll, Act.put, sia_, scz_, scs_]; rfl)) (hJ4_15_18 (v222, v232, gb237) _ ⟨hHeld, (rq_ (Kd.R_mono HO223.out (fun _ hk => ⟨hk.2, hk.1⟩))), (rq_ (Kd.R_mono HO233.out (fun _ hk => ⟨hk.1.2, hk.2⟩))), (bp_ BK215), (bp_ BK216), (bp_ BK217), (bp_ BK237), GW237.out, GE237.out, NB215_237.out, NB237_215.out, NB216_237.out, NB237_216.out, NB217_237.out, NB237_217.out, (bw_ HB)⟩)
     skip
     refine Kd.R_append_rows_step k135 (w0 := w) w.heap.size (by rfl) (.tmp 28) (.tmp 36) 57 135 (.agg #[(.int .i64 0), (.int .i64 0), (.string ⟨#[]⟩)]) 32 rfl Try.underlying57 info135 rfl (by decide) (by omega) v222 y221 y224 _ _ _ (fun k_ => k_ ≠ gb216) (fun _ => False) rfl rfl ?aO ?aR (fun _ _ h => h) (fun _ h => h.elim) ?aF ?aB ?aS ?aL ?_
     (case aR => exact cb_ HR227 HB)
     (case aB => exact (bw_ HB))
     (case aF => exact (fun k_ hk => Kd.freshB (g := gb216) (o := .cells #[.int .i64 a2_0, .int .i64 a2_1, .string a2_2] 135 (0, 0)) (bp_ BK216) k_ hk))
     (case aO => exact (rp_ HO223))
     (case aS => exact (below_size (bw_ HB)))
     (case aL => have := LMc24.out; omega)
     intro v229 w59 ho hb hg hat
     rw [← Ny228.out] at ho
     have n0_ := mk_ (blk_grown (g := gb215) (o := .cells #[.int .i64 a0_0, .int .i64 a0_1, .slice A0_2 l0_2.length c0_2] 59 (0, 0)) (bp_ BK215) hg (Kd.R_ne HO223.out BK215.out (by decide)))
     have n1_ := mk_ (blk_grown (g := gb216) (o := .cells #[.int .i64 a2_0, .int .i64 a2_1, .string a2_2] 135 (0, 0)) (bp_ BK216) hg (Kd.R_away HO223.out (fun _ hk => hk)))
     have n2_ := mk_ (blk_grown (g := gb217) (o := .cells #[.int .i64 0, .int .i64 0, .slice none 0 0] 59 (0, 0)) (bp_ BK217) hg (Kd.R_ne HO223.out BK217.out (by decide)))
     have n3_ := mk_ (blk_grown (g := gb237) (o := .cells #[.int .i64 0, .int .i64 0, .slice none 0 0] 59 (0, 0)) (bp_ BK237) hg (Kd.R_ne HO223.out BK237.out (by decide)))
     have n4_ := mk_ (hb)
     have n5_ := mk_ (ho)
     clear BK215; clear BK216; clear BK217; clear BK237; clear HB; clear HO223; have BK215 := n0_; have BK216 := n1_; have BK217 := n2_; have BK237 := n3_; have HB := n4_; have HO230 := n5_; clear n0_ n1_ n2_ n3_ n4_ n5_; clear ho hb hg hat
     refine hK.out _ _ ⟨bc_ BK215 0, bc_ BK215 1, bc_ BK215 2, bc_ BK216 0, bc_ BK216 1, bc_ BK216 2⟩ (fun hHeld => ?_)
     clear hK K
     refine norm_ (a' := ?_) ?_ ?_
     rotate_left
     ·show Act.put _ (some 37) _ = _
      simp only [Act.put, sia_, scz_, scs_, i64_w, i32_w]
      rfl
     exact norm_ (by first | (simp only [putAll, Act.put, sia_, scz_, scs_]; done) | (simp only [putAll, Act.put, sia_, scz_, scs_]; rfl)) (hJ4_13_18 (v222, v229, gb237) _ ⟨hHeld, (rp_ HO230), (bp_ BK215), (bp_ BK216), (bp_ BK217), (bp_ BK237), GW237.out, GE237.out, NB215_237.out, NB237_215.out, NB216_237.out, NB237_216.out, NB217_237.out, NB237_217.out, (bw_ HB)⟩)
    intro hJ4_18
    refine join_ (σ := Value × Nat) 5 #[true, true, true, true, false, true, true, true, true, true, true, true, true, false, true, true, false, false, true, false] (fun s_ => [(39, s_.1), (8, .pointer (some ⟨s_.2, 0, none⟩))]) (fun s_ w' => (w'.cell? ⟨gb215, 0, none⟩ = some (.int .i64 a0_0) ∧ w'.cell? ⟨gb215, 1, none⟩ = some (.int .i64 a0_1) ∧ w'.cell? ⟨gb215, 2, none⟩ = some (.slice A0_2 l0_2.length c0_2) ∧ w'.cell? ⟨gb216, 0, none⟩ = some (.int .i64 a2_0) ∧ w'.cell? ⟨gb216, 1, none⟩ = some (.int .i64 a2_1) ∧ w'.cell? ⟨gb216, 2, none⟩ = some (.string a2_2)) ∧ (Kd.R k135 135 w' w.heap.size (fun k_ => k_ ≠ gb216) s_.1 y231) ∧ (w'.heap[gb215]? = some (.cells #[.int .i64 a0_0, .int .i64 a0_1, .slice A0_2 l0_2.length c0_2] 59 (0, 0))) ∧ (w'.heap[gb216]? = some (.cells #[.int .i64 a2_0, .int .i64 a2_1, .string a2_2] 135 (0, 0))) ∧ (w'.heap[gb217]? = some (.cells #[.int .i64 0, .int .i64 0, .slice none 0 0] 59 (0, 0))) ∧ (w'.heap[s_.2]? = some (.cells #[.int .i64 0, .int .i64 0, .slice none 0 0] 59 (0, 0))) ∧ (w.heap.size ≤ s_.2) ∧ (w.heap.size ≤ s_.2) ∧ (gb215 ≠ s_.2) ∧ (s_.2 ≠ gb215) ∧ (gb216 ≠ s_.2) ∧ (s_.2 ≠ gb216) ∧ (gb217 ≠ s_.2) ∧ (s_.2 ≠ gb217) ∧ (Below w.heap.size w w')) ?_ ?_
    rotate_left
    rotate_left
    ·skip
     rintro ⟨v232, gb237⟩ w58 ⟨hS_, h0_, h1_, h2_, h3_, h4_, h5_, h6_, h7_, h8_, h9_, h10_, h11_, h12_, h13_⟩
     have n0_ : Aside0 (Kd.R k135 135 w58 w.heap.size (fun k_ => k_ ≠ gb216) v232 y231) := ⟨h0_⟩
     have n1_ : Aside0 (w58.heap[gb215]? = some (.cells #[.int .i64 a0_0, .int .i64 a0_1, .slice A0_2 l0_2.length c0_2] 59 (0, 0))) := ⟨h1_⟩
     have n2_ : Aside0 (w58.heap[gb216]? = some (.cells #[.int .i64 a2_0, .int .i64 a2_1, .string a2_2] 135 (0, 0))) := ⟨h2_⟩
     have n3_ : Aside0 (w58.heap[gb217]? = some (.cells #[.int .i64 0, .int .i64 0, .slice none 0 0] 59 (0, 0))) := ⟨h3_⟩
     have n4_ : Aside0 (w58.heap[gb237]? = some (.cells #[.int .i64 0, .int .i64 0, .slice none 0 0] 59 (0, 0))) := ⟨h4_⟩
     have n5_ : Aside0 (w.heap.size ≤ gb237) := ⟨h5_⟩
     have n6_ : Aside0 (w.heap.size ≤ gb237) := ⟨h6_⟩
     have n7_ : Aside0 (gb215 ≠ gb237) := ⟨h7_⟩
     have n8_ : Aside0 (gb237 ≠ gb215) := ⟨h8_⟩
     have n9_ : Aside0 (gb216 ≠ gb237) := ⟨h9_⟩
     have n10_ : Aside0 (gb237 ≠ gb216) := ⟨h10_⟩
     have n11_ : Aside0 (gb217 ≠ gb237) := ⟨h11_⟩
     have n12_ : Aside0 (gb237 ≠ gb217) := ⟨h12_⟩
     have n13_ : Aside0 (Below w.heap.size w w58) := ⟨h13_⟩
     clear BK215; clear BK216; clear BK217; clear HB; clear h0_ h1_ h2_ h3_ h4_ h5_ h6_ h7_ h8_ h9_ h10_ h11_ h12_ h13_; have HO233 := n0_; have BK215 := n1_; have BK216 := n2_; have BK217 := n3_; have BK237 := n4_; have GW237 := n5_; have GE237 := n6_; have NB215_237 := n7_; have NB237_215 := n8_; have NB216_237 := n9_; have NB237_216 := n10_; have NB217_237 := n11_; have NB237_217 := n12_; have HB := n13_; clear n0_ n1_ n2_ n3_ n4_ n5_ n6_ n7_ n8_ n9_ n10_ n11_ n12_ n13_
     have hHeld : w58.cell? ⟨gb215, 0, none⟩ = some (.int .i64 a0_0) ∧ w58.cell? ⟨gb215, 1, none⟩ = some (.int .i64 a0_1) ∧ w58.cell? ⟨gb215, 2, none⟩ = some (.slice A0_2 l0_2.length c0_2) ∧ w58.cell? ⟨gb216, 0, none⟩ = some (.int .i64 a2_0) ∧ w58.cell? ⟨gb216, 1, none⟩ = some (.int .i64 a2_1) ∧ w58.cell? ⟨gb216, 2, none⟩ = some (.string a2_2) := hS_
     refine norm_ (a' := ?_) ?_ ?_
     rotate_left
     ·simp only [putAll, Act.put, sia_, scz_, scs_]
      rfl
     refine one_ (i := 4) (N := some 28) #[true, true, true, true, true, true, true, true, true, true, true, true, true, false, true, true, false, false, true, false] rfl rfl (one_of HT_.out (by kernel_rfl)) (by decide) (fun K hK => ?_)
     refine Kd.R_lit_step k135 _ 135 ?hg (N := 28) ?hd (xs := ([] : List (S135))) (inner := []) (ok := fun _ => True) (okp := fun _ => True) ?hr ?hp (fun _ hk => hk) trivial (Below.refl _ _) (Nat.le_refl _) (by simp) ?_; (case hd => rfl); (case hg => rfl); (case hr => first | (go_simp; done) | (go_simp; rfl)); (case hp => exact (Reps.none _ _))
     intro v222 w59 ho60 hb hg_ hnew_
     clear hg_ hnew_
     (first | rw [← Ny221.out] at ho60 | (simp only [Int.reduceToNat] at ho60; rw [← Ny221.out] at ho60))
     have n0_ := mk_ (Kd.R_elder' (rp_ HO233) (Kd.R_base ho60) hb)
     have n1_ := mk_ (Kd.R_lower (Kd.R_newB (Kd.R_new' ho60 (Kd.R_lt (rp_ HO233))) (g := gb216) (o := .cells #[.int .i64 a2_0, .int .i64 a2_1, .string a2_2] 135 (0, 0)) (bp_ BK216)) (below_size (bw_ HB)))
     clear HO233; have HO233 := n0_; have HO223 := n1_; clear n0_ n1_; replace BK215 := bb_ BK215 hb; replace BK216 := bb_ BK216 hb; replace BK217 := bb_ BK217 hb; replace BK237 := bb_ BK237 hb; replace HB := bs_ HB hb; clear hb ho60
     refine hK.out _ _ ⟨bc_ BK215 0, bc_ BK215 1, bc_ BK215 2, bc_ BK216 0, bc_ BK216 1, bc_ BK216 2⟩ (fun hHeld => ?_)
     clear hK K
     refine norm_ (a' := ?_) ?_ ?_
     rotate_left
     ·show Act.put _ (some 28) _ = _
      simp only [Act.put, sia_, scz_, scs_, i64_w, i32_w]
      rfl
     exact norm_ (by first | (simp only [putAll, Act.put, sia_, scz_, scs_]; done) | (simp only [putAll, Act.put, sia_, scz_, scs_]; rfl)) (hJ4_15_18 (v222, v232, gb237) _ ⟨hHeld, (rq_ (Kd.R_mono HO223.out (fun _ hk => ⟨hk.1.2, hk.2⟩))), (rq_ (Kd.R_mono HO233.out (fun _ hk => ⟨hk.2, hk.1⟩))), (bp_ BK215), (bp_ BK216), (bp_ BK217), (bp_ BK237), GW237.out, GE237.out, NB215_237.out, NB237_215.out, NB216_237.out, NB237_216.out, NB217_237.out, NB237_217.out, (bw_ HB)⟩)
    intro hJ15_18
    refine join_ (σ := Value) 6 #[true, true, true, true, true, true, true, true, true, true, true, true, true, false, true, false, false, false, false, false] (fun s_ => [(28, s_)]) (fun s_ w' => (w'.cell? ⟨gb215, 0, none⟩ = some (.int .i64 a0_0) ∧ w'.cell? ⟨gb215, 1, none⟩ = some (.int .i64 a0_1) ∧ w'.cell? ⟨gb215, 2, none⟩ = some (.slice A0_2 l0_2.length c0_2) ∧ w'.cell? ⟨gb216, 0, none⟩ = some (.int .i64 a2_0) ∧ w'.cell? ⟨gb216, 1, none⟩ = some (.int .i64 a2_1) ∧ w'.cell? ⟨gb216, 2, none⟩ = some (.string a2_2)) ∧ (Kd.R k135 135 w' w.heap.size (fun k_ => k_ ≠ gb216) s_ y221) ∧ (w'.heap[gb215]? = some (.cells #[.int .i64 a0_0, .int .i64 a0_1, .slice A0_2 l0_2.length c0_2] 59 (0, 0))) ∧ (w'.heap[gb216]? = some (.cells #[.int .i64 a2_0, .int .i64 a2_1, .string a2_2] 135 (0, 0))) ∧ (w'.heap[gb217]? = some (.cells #[.int .i64 0, .int .i64 0, .slice none 0 0] 59 (0, 0))) ∧ (Below w.heap.size w w')) ?_ ?_
    rotate_left
    rotate_left
    ·skip
     rintro v222 w57 ⟨hS_, h0_, h1_, h2_, h3_, h4_⟩
     have n0_ : Aside0 (Kd.R k135 135 w57 w.heap.size (fun k_ => k_ ≠ gb216) v222 y221) := ⟨h0_⟩
     have n1_ : Aside0 (w57.heap[gb215]? = some (.cells #[.int .i64 a0_0, .int .i64 a0_1, .slice A0_2 l0_2.length c0_2] 59 (0, 0))) := ⟨h1_⟩
     have n2_ : Aside0 (w57.heap[gb216]? = some (.cells #[.int .i64 a2_0, .int .i64 a2_1, .string a2_2] 135 (0, 0))) := ⟨h2_⟩
     have n3_ : Aside0 (w57.heap[gb217]? = some (.cells #[.int .i64 0, .int .i64 0, .slice none 0 0] 59 (0, 0))) := ⟨h3_⟩
     have n4_ : Aside0 (Below w.heap.size w w57) := ⟨h4_⟩
     clear BK215; clear BK216; clear BK217; clear HB; clear h0_ h1_ h2_ h3_ h4_; have HO223 := n0_; have BK215 := n1_; have BK216 := n2_; have BK217 := n3_; have HB := n4_; clear n0_ n1_ n2_ n3_ n4_
     have hHeld : w57.cell? ⟨gb215, 0, none⟩ = some (.int .i64 a0_0) ∧ w57.cell? ⟨gb215, 1, none⟩ = some (.int .i64 a0_1) ∧ w57.cell? ⟨gb215, 2, none⟩ = some (.slice A0_2 l0_2.length c0_2) ∧ w57.cell? ⟨gb216, 0, none⟩ = some (.int .i64 a2_0) ∧ w57.cell? ⟨gb216, 1, none⟩ = some (.int .i64 a2_1) ∧ w57.cell? ⟨gb216, 2, none⟩ = some (.string a2_2) := hS_
     refine norm_ (a' := ?_) ?_ ?_
     rotate_left
     ·simp only [putAll, Act.put, sia_, scz_, scs_]
      rfl
     refine three_ (i := 13) (j := 15) (k := 18) (Ni := some 37) (Nj := some 39) (Nk := some 8) #[true, true, true, true, true, true, true, true, true, true, true, true, true, true, true, false, false, false, false, false] #[true, true, true, true, true, true, true, true, true, true, true, true, true, false, true, true, false, false, false, false] #[true, true, true, true, true, true, true, true, true, true, true, true, true, false, true, false, false, false, true, false] rfl rfl rfl rfl rfl rfl (three_of HT_.out (by kernel_rfl)) (by decide) (by decide) (by decide) (fun K hK => ?_) (fun K hK => ?_) (fun K hK => ?_)
     rotate_left
     ·skip
      refine Kd.R_lit_step k135 _ 135 ?hg (N := 39) ?hd (xs := ([(⟨a2_0, a2_1, a2_2⟩ : S135)] : List (S135))) (inner := [.int .i64 a2_0, .int .i64 a2_1, .string a2_2]) (ok := fun _ => True) (okp := fun _ => True) ?hr ?hp (fun _ hk => hk) trivial (Below.refl _ _) (Nat.le_refl _) (by simp) ?_; (case hd => rfl); (case hg => rfl); (case hr => first | (go_simp; done) | (go_simp; rfl)); (case hp => exact (Reps.c3 (show Kd.M k135 _ _ _ (⟨a2_0, a2_1, a2_2⟩ : S135) [.int .i64 a2_0, .int .i64 a2_1, .string a2_2] from (k135_mkM _ _ _ (⟨a2_0, a2_1, a2_2⟩ : S135) )) (Reps.none _ _)))
      intro v232 w58 ho59 hb hg_ hnew_
      clear hg_ hnew_
      (first | rw [← Ny231.out] at ho59 | (simp only [Int.reduceToNat] at ho59; rw [← Ny231.out] at ho59))
      have n0_ := mk_ (Kd.R_elder' (rp_ HO223) (Kd.R_base ho59) hb)
      have n1_ := mk_ (Kd.R_lower (Kd.R_newB (Kd.R_new' ho59 (Kd.R_lt (rp_ HO223))) (g := gb216) (o := .cells #[.int .i64 a2_0, .int .i64 a2_1, .string a2_2] 135 (0, 0)) (bp_ BK216)) (below_size (bw_ HB)))
      clear HO223; have HO223 := n0_; have HO233 := n1_; clear n0_ n1_; replace BK215 := bb_ BK215 hb; replace BK216 := bb_ BK216 hb; replace BK217 := bb_ BK217 hb; replace HB := bs_ HB hb; clear hb ho59
      refine hK.out _ _ ⟨bc_ BK215 0, bc_ BK215 1, bc_ BK215 2, bc_ BK216 0, bc_ BK216 1, bc_ BK216 2⟩ (fun hHeld => ?_)
      clear hK K
      refine norm_ (a' := ?_) ?_ ?_
      rotate_left
      ·show Act.put _ (some 39) _ = _
       simp only [Act.put, sia_, scz_, scs_, i64_w, i32_w]
       rfl
      exact norm_ (by first | (simp only [putAll, Act.put, sia_, scz_, scs_]; done) | (simp only [putAll, Act.put, sia_, scz_, scs_]; rfl)) (hJ4_15 (v222, v232) _ ⟨hHeld, (rq_ (Kd.R_mono HO223.out (fun _ hk => ⟨hk.2, hk.1⟩))), (rq_ (Kd.R_mono HO233.out (fun _ hk => ⟨hk.1.2, hk.2⟩))), (bp_ BK215), (bp_ BK216), (bp_ BK217), (bw_ HB)⟩)
     ·skip
      refine box_step ?hg (N := 8) ?hd (cs := #[.int .i64 0, .int .i64 0, .slice none 0 0]) (t := 59) ?hr ?_; (case hd => rfl); (case hg => rfl); (case hr => first | (go_simp; done) | (go_simp; rfl))
      intro gb237 hg w58 hbox hb
      have n5_ := mk_ (hbox)
      have n6_ : Aside0 (w.heap.size ≤ gb237) := bz_ hg
      have n7_ : Aside0 (w.heap.size ≤ gb237) := bz_ hg
      have n8_ : Aside0 (gb215 ≠ gb237) := bl_ BK215 hg
      have n9_ : Aside0 (gb237 ≠ gb215) := bg_ BK215 hg
      have n10_ : Aside0 (gb216 ≠ gb237) := bl_ BK216 hg
      have n11_ : Aside0 (gb237 ≠ gb216) := bg_ BK216 hg
      have n12_ : Aside0 (gb217 ≠ gb237) := bl_ BK217 hg
      have n13_ : Aside0 (gb237 ≠ gb217) := bg_ BK217 hg
      have BK237 := n5_; have GW237 := n6_; have GE237 := n7_; have NB215_237 := n8_; have NB237_215 := n9_; have NB216_237 := n10_; have NB237_216 := n11_; have NB217_237 := n12_; have NB237_217 := n13_; clear n5_ n6_ n7_ n8_ n9_ n10_ n11_ n12_ n13_; replace HO223 := rb_ HO223 hb; replace BK215 := bb_ BK215 hb; replace BK216 := bb_ BK216 hb; replace BK217 := bb_ BK217 hb; replace HB := bs_ HB hb; clear hb hbox hg
      refine hK.out _ _ ⟨bc_ BK215 0, bc_ BK215 1, bc_ BK215 2, bc_ BK216 0, bc_ BK216 1, bc_ BK216 2⟩ (fun hHeld => ?_)
      clear hK K
      refine norm_ (a' := ?_) ?_ ?_
      rotate_left
      ·show Act.put _ (some 8) _ = _
       simp only [Act.put, sia_, scz_, scs_, i64_w, i32_w]
       rfl
      exact norm_ (by first | (simp only [putAll, Act.put, sia_, scz_, scs_]; done) | (simp only [putAll, Act.put, sia_, scz_, scs_]; rfl)) (hJ4_18 (v222, gb237) _ ⟨hHeld, (rp_ HO223), (bp_ BK215), (bp_ BK216), (bp_ BK217), (bp_ BK237), GW237.out, GE237.out, NB215_237.out, NB237_215.out, NB216_237.out, NB237_216.out, NB217_237.out, NB237_217.out, (bw_ HB)⟩)
     skip
     refine Kd.R_append_rows_step k135 (w0 := w) w.heap.size (by rfl) (.tmp 28) (.tmp 36) 57 135 (.agg #[(.int .i64 0), (.int .i64 0), (.string ⟨#[]⟩)]) 32 rfl Try.underlying57 info135 rfl (by decide) (by omega) v222 y221 y224 _ _ _ (fun k_ => k_ ≠ gb216) (fun _ => False) rfl rfl ?aO ?aR (fun _ _ h => h) (fun _ h => h.elim) ?aF ?aB ?aS ?aL ?_
     (case aR => exact cb_ HR227 HB)
     (case aB => exact (bw_ HB))
     (case aF => exact (fun k_ hk => Kd.freshB (g := gb216) (o := .cells #[.int .i64 a2_0, .int .i64 a2_1, .string a2_2] 135 (0, 0)) (bp_ BK216) k_ hk))
     (case aO => exact (rp_ HO223))
     (case aS => exact (below_size (bw_ HB)))
     (case aL => have := LMc24.out; omega)
     intro v229 w58 ho hb hg hat
     rw [← Ny228.out] at ho
     have n0_ := mk_ (blk_grown (g := gb215) (o := .cells #[.int .i64 a0_0, .int .i64 a0_1, .slice A0_2 l0_2.length c0_2] 59 (0, 0)) (bp_ BK215) hg (Kd.R_ne HO223.out BK215.out (by decide)))
     have n1_ := mk_ (blk_grown (g := gb216) (o := .cells #[.int .i64 a2_0, .int .i64 a2_1, .string a2_2] 135 (0, 0)) (bp_ BK216) hg (Kd.R_away HO223.out (fun _ hk => hk)))
     have n2_ := mk_ (blk_grown (g := gb217) (o := .cells #[.int .i64 0, .int .i64 0, .slice none 0 0] 59 (0, 0)) (bp_ BK217) hg (Kd.R_ne HO223.out BK217.out (by decide)))
     have n3_ := mk_ (hb)
     have n4_ := mk_ (ho)
     clear BK215; clear BK216; clear BK217; clear HB; clear HO223; have BK215 := n0_; have BK216 := n1_; have BK217 := n2_; have HB := n3_; have HO230 := n4_; clear n0_ n1_ n2_ n3_ n4_; clear ho hb hg hat
     refine hK.out _ _ ⟨bc_ BK215 0, bc_ BK215 1, bc_ BK215 2, bc_ BK216 0, bc_ BK216 1, bc_ BK216 2⟩ (fun hHeld => ?_)
     clear hK K
     refine norm_ (a' := ?_) ?_ ?_
     rotate_left
     ·show Act.put _ (some 37) _ = _
      simp only [Act.put, sia_, scz_, scs_, i64_w, i32_w]
      rfl
     exact norm_ (by first | (simp only [putAll, Act.put, sia_, scz_, scs_]; done) | (simp only [putAll, Act.put, sia_, scz_, scs_]; rfl)) (hJ4_13 (v222, v229) _ ⟨hHeld, (rp_ HO230), (bp_ BK215), (bp_ BK216), (bp_ BK217), (bw_ HB)⟩)
    intro hJ4
    refine join_ (σ := Value) 6 #[true, true, true, true, false, true, true, true, true, true, true, true, true, false, true, true, false, false, false, false] (fun s_ => [(39, s_)]) (fun s_ w' => (w'.cell? ⟨gb215, 0, none⟩ = some (.int .i64 a0_0) ∧ w'.cell? ⟨gb215, 1, none⟩ = some (.int .i64 a0_1) ∧ w'.cell? ⟨gb215, 2, none⟩ = some (.slice A0_2 l0_2.length c0_2) ∧ w'.cell? ⟨gb216, 0, none⟩ = some (.int .i64 a2_0) ∧ w'.cell? ⟨gb216, 1, none⟩ = some (.int .i64 a2_1) ∧ w'.cell? ⟨gb216, 2, none⟩ = some (.string a2_2)) ∧ (Kd.R k135 135 w' w.heap.size (fun k_ => k_ ≠ gb216) s_ y231) ∧ (w'.heap[gb215]? = some (.cells #[.int .i64 a0_0, .int .i64 a0_1, .slice A0_2 l0_2.length c0_2] 59 (0, 0))) ∧ (w'.heap[gb216]? = some (.cells #[.int .i64 a2_0, .int .i64 a2_1, .string a2_2] 135 (0, 0))) ∧ (w'.heap[gb217]? = some (.cells #[.int .i64 0, .int .i64 0, .slice none 0 0] 59 (0, 0))) ∧ (Below w.heap.size w w')) ?_ ?_
    rotate_left
    rotate_left
    ·skip
     rintro v232 w57 ⟨hS_, h0_, h1_, h2_, h3_, h4_⟩
     have n0_ : Aside0 (Kd.R k135 135 w57 w.heap.size (fun k_ => k_ ≠ gb216) v232 y231) := ⟨h0_⟩
     have n1_ : Aside0 (w57.heap[gb215]? = some (.cells #[.int .i64 a0_0, .int .i64 a0_1, .slice A0_2 l0_2.length c0_2] 59 (0, 0))) := ⟨h1_⟩
     have n2_ : Aside0 (w57.heap[gb216]? = some (.cells #[.int .i64 a2_0, .int .i64 a2_1, .string a2_2] 135 (0, 0))) := ⟨h2_⟩
     have n3_ : Aside0 (w57.heap[gb217]? = some (.cells #[.int .i64 0, .int .i64 0, .slice none 0 0] 59 (0, 0))) := ⟨h3_⟩
     have n4_ : Aside0 (Below w.heap.size w w57) := ⟨h4_⟩
     clear BK215; clear BK216; clear BK217; clear HB; clear h0_ h1_ h2_ h3_ h4_; have HO233 := n0_; have BK215 := n1_; have BK216 := n2_; have BK217 := n3_; have HB := n4_; clear n0_ n1_ n2_ n3_ n4_
     have hHeld : w57.cell? ⟨gb215, 0, none⟩ = some (.int .i64 a0_0) ∧ w57.cell? ⟨gb215, 1, none⟩ = some (.int .i64 a0_1) ∧ w57.cell? ⟨gb215, 2, none⟩ = some (.slice A0_2 l0_2.length c0_2) ∧ w57.cell? ⟨gb216, 0, none⟩ = some (.int .i64 a2_0) ∧ w57.cell? ⟨gb216, 1, none⟩ = some (.int .i64 a2_1) ∧ w57.cell? ⟨gb216, 2, none⟩ = some (.string a2_2) := hS_
     refine norm_ (a' := ?_) ?_ ?_
     rotate_left
     ·simp only [putAll, Act.put, sia_, scz_, scs_]
      rfl
     refine two_ (i := 4) (j := 18) (Ni := some 28) (Nj := some 8) #[true, true, true, true, true, true, true, true, true, true, true, true, true, false, true, true, false, false, false, false] #[true, true, true, true, false, true, true, true, true, true, true, true, true, false, true, true, false, false, true, false] rfl rfl rfl rfl (two_of HT_.out (by kernel_rfl)) (by decide) (by decide) (fun K hK => ?_) (fun K hK => ?_)
     ·skip
      refine Kd.R_lit_step k135 _ 135 ?hg (N := 28) ?hd (xs := ([] : List (S135))) (inner := []) (ok := fun _ => True) (okp := fun _ => True) ?hr ?hp (fun _ hk => hk) trivial (Below.refl _ _) (Nat.le_refl _) (by simp) ?_; (case hd => rfl); (case hg => rfl); (case hr => first | (go_simp; done) | (go_simp; rfl)); (case hp => exact (Reps.none _ _))
      intro v222 w58 ho59 hb hg_ hnew_
      clear hg_ hnew_
      (first | rw [← Ny221.out] at ho59 | (simp only [Int.reduceToNat] at ho59; rw [← Ny221.out] at ho59))
      have n0_ := mk_ (Kd.R_elder' (rp_ HO233) (Kd.R_base ho59) hb)
      have n1_ := mk_ (Kd.R_lower (Kd.R_newB (Kd.R_new' ho59 (Kd.R_lt (rp_ HO233))) (g := gb216) (o := .cells #[.int .i64 a2_0, .int .i64 a2_1, .string a2_2] 135 (0, 0)) (bp_ BK216)) (below_size (bw_ HB)))
      clear HO233; have HO233 := n0_; have HO223 := n1_; clear n0_ n1_; replace BK215 := bb_ BK215 hb; replace BK216 := bb_ BK216 hb; replace BK217 := bb_ BK217 hb; replace HB := bs_ HB hb; clear hb ho59
      refine hK.out _ _ ⟨bc_ BK215 0, bc_ BK215 1, bc_ BK215 2, bc_ BK216 0, bc_ BK216 1, bc_ BK216 2⟩ (fun hHeld => ?_)
      clear hK K
      refine norm_ (a' := ?_) ?_ ?_
      rotate_left
      ·show Act.put _ (some 28) _ = _
       simp only [Act.put, sia_, scz_, scs_, i64_w, i32_w]
       rfl
      exact norm_ (by first | (simp only [putAll, Act.put, sia_, scz_, scs_]; done) | (simp only [putAll, Act.put, sia_, scz_, scs_]; rfl)) (hJ4_15 (v222, v232) _ ⟨hHeld, (rq_ (Kd.R_mono HO223.out (fun _ hk => ⟨hk.1.2, hk.2⟩))), (rq_ (Kd.R_mono HO233.out (fun _ hk => ⟨hk.2, hk.1⟩))), (bp_ BK215), (bp_ BK216), (bp_ BK217), (bw_ HB)⟩)
     skip
     refine box_step ?hg (N := 8) ?hd (cs := #[.int .i64 0, .int .i64 0, .slice none 0 0]) (t := 59) ?hr ?_; (case hd => rfl); (case hg => rfl); (case hr => first | (go_simp; done) | (go_simp; rfl))
     intro gb237 hg w58 hbox hb
     have n5_ := mk_ (hbox)
     have n6_ : Aside0 (w.heap.size ≤ gb237) := bz_ hg
     have n7_ : Aside0 (w.heap.size ≤ gb237) := bz_ hg
     have n8_ : Aside0 (gb215 ≠ gb237) := bl_ BK215 hg
     have n9_ : Aside0 (gb237 ≠ gb215) := bg_ BK215 hg
     have n10_ : Aside0 (gb216 ≠ gb237) := bl_ BK216 hg
     have n11_ : Aside0 (gb237 ≠ gb216) := bg_ BK216 hg
     have n12_ : Aside0 (gb217 ≠ gb237) := bl_ BK217 hg
     have n13_ : Aside0 (gb237 ≠ gb217) := bg_ BK217 hg
     have BK237 := n5_; have GW237 := n6_; have GE237 := n7_; have NB215_237 := n8_; have NB237_215 := n9_; have NB216_237 := n10_; have NB237_216 := n11_; have NB217_237 := n12_; have NB237_217 := n13_; clear n5_ n6_ n7_ n8_ n9_ n10_ n11_ n12_ n13_; replace HO233 := rb_ HO233 hb; replace BK215 := bb_ BK215 hb; replace BK216 := bb_ BK216 hb; replace BK217 := bb_ BK217 hb; replace HB := bs_ HB hb; clear hb hbox hg
     refine hK.out _ _ ⟨bc_ BK215 0, bc_ BK215 1, bc_ BK215 2, bc_ BK216 0, bc_ BK216 1, bc_ BK216 2⟩ (fun hHeld => ?_)
     clear hK K
     refine norm_ (a' := ?_) ?_ ?_
     rotate_left
     ·show Act.put _ (some 8) _ = _
      simp only [Act.put, sia_, scz_, scs_, i64_w, i32_w]
      rfl
     exact norm_ (by first | (simp only [putAll, Act.put, sia_, scz_, scs_]; done) | (simp only [putAll, Act.put, sia_, scz_, scs_]; rfl)) (hJ15_18 (v232, gb237) _ ⟨hHeld, (rp_ HO233), (bp_ BK215), (bp_ BK216), (bp_ BK217), (bp_ BK237), GW237.out, GE237.out, NB215_237.out, NB237_215.out, NB216_237.out, NB237_216.out, NB217_237.out, NB237_217.out, (bw_ HB)⟩)
    intro hJ15
    refine join_ (σ := Nat) 6 #[true, true, true, true, false, true, true, true, true, true, true, true, true, false, true, false, false, false, true, false] (fun s_ => [(8, .pointer (some ⟨s_, 0, none⟩))]) (fun s_ w' => (w'.cell? ⟨gb215, 0, none⟩ = some (.int .i64 a0_0) ∧ w'.cell? ⟨gb215, 1, none⟩ = some (.int .i64 a0_1) ∧ w'.cell? ⟨gb215, 2, none⟩ = some (.slice A0_2 l0_2.length c0_2) ∧ w'.cell? ⟨gb216, 0, none⟩ = some (.int .i64 a2_0) ∧ w'.cell? ⟨gb216, 1, none⟩ = some (.int .i64 a2_1) ∧ w'.cell? ⟨gb216, 2, none⟩ = some (.string a2_2)) ∧ (w'.heap[gb215]? = some (.cells #[.int .i64 a0_0, .int .i64 a0_1, .slice A0_2 l0_2.length c0_2] 59 (0, 0))) ∧ (w'.heap[gb216]? = some (.cells #[.int .i64 a2_0, .int .i64 a2_1, .string a2_2] 135 (0, 0))) ∧ (w'.heap[gb217]? = some (.cells #[.int .i64 0, .int .i64 0, .slice none 0 0] 59 (0, 0))) ∧ (w'.heap[s_]? = some (.cells #[.int .i64 0, .int .i64 0, .slice none 0 0] 59 (0, 0))) ∧ (w.heap.size ≤ s_) ∧ (w.heap.size ≤ s_) ∧ (gb215 ≠ s_) ∧ (s_ ≠ gb215) ∧ (gb216 ≠ s_) ∧ (s_ ≠ gb216) ∧ (gb217 ≠ s_) ∧ (s_ ≠ gb217) ∧ (Below w.heap.size w w')) ?_ ?_
    rotate_left
    rotate_left
    ·skip
     rintro gb237 w56 ⟨hS_, h0_, h1_, h2_, h3_, h4_, h5_, h6_, h7_, h8_, h9_, h10_, h11_, h12_⟩
     have n0_ : Aside0 (w56.heap[gb215]? = some (.cells #[.int .i64 a0_0, .int .i64 a0_1, .slice A0_2 l0_2.length c0_2] 59 (0, 0))) := ⟨h0_⟩
     have n1_ : Aside0 (w56.heap[gb216]? = some (.cells #[.int .i64 a2_0, .int .i64 a2_1, .string a2_2] 135 (0, 0))) := ⟨h1_⟩
     have n2_ : Aside0 (w56.heap[gb217]? = some (.cells #[.int .i64 0, .int .i64 0, .slice none 0 0] 59 (0, 0))) := ⟨h2_⟩
     have n3_ : Aside0 (w56.heap[gb237]? = some (.cells #[.int .i64 0, .int .i64 0, .slice none 0 0] 59 (0, 0))) := ⟨h3_⟩
     have n4_ : Aside0 (w.heap.size ≤ gb237) := ⟨h4_⟩
     have n5_ : Aside0 (w.heap.size ≤ gb237) := ⟨h5_⟩
     have n6_ : Aside0 (gb215 ≠ gb237) := ⟨h6_⟩
     have n7_ : Aside0 (gb237 ≠ gb215) := ⟨h7_⟩
     have n8_ : Aside0 (gb216 ≠ gb237) := ⟨h8_⟩
     have n9_ : Aside0 (gb237 ≠ gb216) := ⟨h9_⟩
     have n10_ : Aside0 (gb217 ≠ gb237) := ⟨h10_⟩
     have n11_ : Aside0 (gb237 ≠ gb217) := ⟨h11_⟩
     have n12_ : Aside0 (Below w.heap.size w w56) := ⟨h12_⟩
     clear BK215; clear BK216; clear BK217; clear HB; clear h0_ h1_ h2_ h3_ h4_ h5_ h6_ h7_ h8_ h9_ h10_ h11_ h12_; have BK215 := n0_; have BK216 := n1_; have BK217 := n2_; have BK237 := n3_; have GW237 := n4_; have GE237 := n5_; have NB215_237 := n6_; have NB237_215 := n7_; have NB216_237 := n8_; have NB237_216 := n9_; have NB217_237 := n10_; have NB237_217 := n11_; have HB := n12_; clear n0_ n1_ n2_ n3_ n4_ n5_ n6_ n7_ n8_ n9_ n10_ n11_ n12_
     have hHeld : w56.cell? ⟨gb215, 0, none⟩ = some (.int .i64 a0_0) ∧ w56.cell? ⟨gb215, 1, none⟩ = some (.int .i64 a0_1) ∧ w56.cell? ⟨gb215, 2, none⟩ = some (.slice A0_2 l0_2.length c0_2) ∧ w56.cell? ⟨gb216, 0, none⟩ = some (.int .i64 a2_0) ∧ w56.cell? ⟨gb216, 1, none⟩ = some (.int .i64 a2_1) ∧ w56.cell? ⟨gb216, 2, none⟩ = some (.string a2_2) := hS_
     refine norm_ (a' := ?_) ?_ ?_
     rotate_left
     ·simp only [putAll, Act.put, sia_, scz_, scs_]
      rfl
     refine two_ (i := 4) (j := 15) (Ni := some 28) (Nj := some 39) #[true, true, true, true, true, true, true, true, true, true, true, true, true, false, true, false, false, false, true, false] #[true, true, true, true, false, true, true, true, true, true, true, true, true, false, true, true, false, false, true, false] rfl rfl rfl rfl (two_of HT_.out (by kernel_rfl)) (by decide) (by decide) (fun K hK => ?_) (fun K hK => ?_)
     rotate_left
     ·skip
      refine Kd.R_lit_step k135 _ 135 ?hg (N := 39) ?hd (xs := ([(⟨a2_0, a2_1, a2_2⟩ : S135)] : List (S135))) (inner := [.int .i64 a2_0, .int .i64 a2_1, .string a2_2]) (ok := fun _ => True) (okp := fun _ => True) ?hr ?hp (fun _ hk => hk) trivial (Below.refl _ _) (Nat.le_refl _) (by simp) ?_; (case hd => rfl); (case hg => rfl); (case hr => first | (go_simp; done) | (go_simp; rfl)); (case hp => exact (Reps.c3 (show Kd.M k135 _ _ _ (⟨a2_0, a2_1, a2_2⟩ : S135) [.int .i64 a2_0, .int .i64 a2_1, .string a2_2] from (k135_mkM _ _ _ (⟨a2_0, a2_1, a2_2⟩ : S135) )) (Reps.none _ _)))
      intro v232 w57 ho58 hb hg_ hnew_
      clear hg_ hnew_
      (first | rw [← Ny231.out] at ho58 | (simp only [Int.reduceToNat] at ho58; rw [← Ny231.out] at ho58))
      have n0_ := mk_ (Kd.R_lower (Kd.R_newB ho58 (g := gb216) (o := .cells #[.int .i64 a2_0, .int .i64 a2_1, .string a2_2] 135 (0, 0)) (bp_ BK216)) (below_size (bw_ HB)))
      have HO233 := n0_; clear n0_; replace BK215 := bb_ BK215 hb; replace BK216 := bb_ BK216 hb; replace BK217 := bb_ BK217 hb; replace BK237 := bb_ BK237 hb; replace HB := bs_ HB hb; clear hb ho58
      refine hK.out _ _ ⟨bc_ BK215 0, bc_ BK215 1, bc_ BK215 2, bc_ BK216 0, bc_ BK216 1, bc_ BK216 2⟩ (fun hHeld => ?_)
      clear hK K
      refine norm_ (a' := ?_) ?_ ?_
      rotate_left
      ·show Act.put _ (some 39) _ = _
       simp only [Act.put, sia_, scz_, scs_, i64_w, i32_w]
       rfl
      exact norm_ (by first | (simp only [putAll, Act.put, sia_, scz_, scs_]; done) | (simp only [putAll, Act.put, sia_, scz_, scs_]; rfl)) (hJ15_18 (v232, gb237) _ ⟨hHeld, (rq_ (Kd.R_mono HO233.out (fun _ hk => hk.2))), (bp_ BK215), (bp_ BK216), (bp_ BK217), (bp_ BK237), GW237.out, GE237.out, NB215_237.out, NB237_215.out, NB216_237.out, NB237_216.out, NB217_237.out, NB237_217.out, (bw_ HB)⟩)
     skip
     refine Kd.R_lit_step k135 _ 135 ?hg (N := 28) ?hd (xs := ([] : List (S135))) (inner := []) (ok := fun _ => True) (okp := fun _ => True) ?hr ?hp (fun _ hk => hk) trivial (Below.refl _ _) (Nat.le_refl _) (by simp) ?_; (case hd => rfl); (case hg => rfl); (case hr => first | (go_simp; done) | (go_simp; rfl)); (case hp => exact (Reps.none _ _))
     intro v222 w57 ho58 hb hg_ hnew_
     clear hg_ hnew_
     (first | rw [← Ny221.out] at ho58 | (simp only [Int.reduceToNat] at ho58; rw [← Ny221.out] at ho58))
     have n0_ := mk_ (Kd.R_lower (Kd.R_newB ho58 (g := gb216) (o := .cells #[.int .i64 a2_0, .int .i64 a2_1, .string a2_2] 135 (0, 0)) (bp_ BK216)) (below_size (bw_ HB)))
     have HO223 := n0_; clear n0_; replace BK215 := bb_ BK215 hb; replace BK216 := bb_ BK216 hb; replace BK217 := bb_ BK217 hb; replace BK237 := bb_ BK237 hb; replace HB := bs_ HB hb; clear hb ho58
     refine hK.out _ _ ⟨bc_ BK215 0, bc_ BK215 1, bc_ BK215 2, bc_ BK216 0, bc_ BK216 1, bc_ BK216 2⟩ (fun hHeld => ?_)
     clear hK K
     refine norm_ (a' := ?_) ?_ ?_
     rotate_left
     ·show Act.put _ (some 28) _ = _
      simp only [Act.put, sia_, scz_, scs_, i64_w, i32_w]
      rfl
     exact norm_ (by first | (simp only [putAll, Act.put, sia_, scz_, scs_]; done) | (simp only [putAll, Act.put, sia_, scz_, scs_]; rfl)) (hJ4_18 (v222, gb237) _ ⟨hHeld, (rq_ (Kd.R_mono HO223.out (fun _ hk => hk.2))), (bp_ BK215), (bp_ BK216), (bp_ BK217), (bp_ BK237), GW237.out, GE237.out, NB215_237.out, NB237_215.out, NB216_237.out, NB237_216.out, NB217_237.out, NB237_217.out, (bw_ HB)⟩)
    intro hJ18
    refine three_ (i := 4) (j := 15) (k := 18) (Ni := some 28) (Nj := some 39) (Nk := some 8) #[true, true, true, true, true, true, true, true, true, true, true, true, true, false, true, false, false, false, false, false] #[true, true, true, true, false, true, true, true, true, true, true, true, true, false, true, true, false, false, false, false] #[true, true, true, true, false, true, true, true, true, true, true, true, true, false, true, false, false, false, true, false] rfl rfl rfl rfl rfl rfl (three_of HT_.out (by kernel_rfl)) (by decide) (by decide) (by decide) (fun K hK => ?_) (fun K hK => ?_) (fun K hK => ?_)
    ·skip
     refine Kd.R_lit_step k135 _ 135 ?hg (N := 28) ?hd (xs := ([] : List (S135))) (inner := []) (ok := fun _ => True) (okp := fun _ => True) ?hr ?hp (fun _ hk => hk) trivial (Below.refl _ _) (Nat.le_refl _) (by simp) ?_; (case hd => rfl); (case hg => rfl); (case hr => first | (go_simp; done) | (go_simp; rfl)); (case hp => exact (Reps.none _ _))
     intro v222 w55 ho56 hb hg_ hnew_
     clear hg_ hnew_
     (first | rw [← Ny221.out] at ho56 | (simp only [Int.reduceToNat] at ho56; rw [← Ny221.out] at ho56))
     have n0_ := mk_ (Kd.R_lower (Kd.R_newB ho56 (g := gb216) (o := .cells #[.int .i64 a2_0, .int .i64 a2_1, .string a2_2] 135 (0, 0)) (bp_ BK216)) (below_size (bw_ HB)))
     have HO223 := n0_; clear n0_; replace BK215 := bb_ BK215 hb; replace BK216 := bb_ BK216 hb; replace BK217 := bb_ BK217 hb; replace HB := bs_ HB hb; clear hb ho56
     refine hK.out _ _ ⟨bc_ BK215 0, bc_ BK215 1, bc_ BK215 2, bc_ BK216 0, bc_ BK216 1, bc_ BK216 2⟩ (fun hHeld => ?_)
     clear hK K
     refine norm_ (a' := ?_) ?_ ?_
     rotate_left
     ·show Act.put _ (some 28) _ = _
      simp only [Act.put, sia_, scz_, scs_, i64_w, i32_w]
      rfl
     exact norm_ (by first | (simp only [putAll, Act.put, sia_, scz_, scs_]; done) | (simp only [putAll, Act.put, sia_, scz_, scs_]; rfl)) (hJ4 (v222) _ ⟨hHeld, (rq_ (Kd.R_mono HO223.out (fun _ hk => hk.2))), (bp_ BK215), (bp_ BK216), (bp_ BK217), (bw_ HB)⟩)
    ·skip
     refine Kd.R_lit_step k135 _ 135 ?hg (N := 39) ?hd (xs := ([(⟨a2_0, a2_1, a2_2⟩ : S135)] : List (S135))) (inner := [.int .i64 a2_0, .int .i64 a2_1, .string a2_2]) (ok := fun _ => True) (okp := fun _ => True) ?hr ?hp (fun _ hk => hk) trivial (Below.refl _ _) (Nat.le_refl _) (by simp) ?_; (case hd => rfl); (case hg => rfl); (case hr => first | (go_simp; done) | (go_simp; rfl)); (case hp => exact (Reps.c3 (show Kd.M k135 _ _ _ (⟨a2_0, a2_1, a2_2⟩ : S135) [.int .i64 a2_0, .int .i64 a2_1, .string a2_2] from (k135_mkM _ _ _ (⟨a2_0, a2_1, a2_2⟩ : S135) )) (Reps.none _ _)))
     intro v232 w55 ho56 hb hg_ hnew_
     clear hg_ hnew_
     (first | rw [← Ny231.out] at ho56 | (simp only [Int.reduceToNat] at ho56; rw [← Ny231.out] at ho56))
     have n0_ := mk_ (Kd.R_lower (Kd.R_newB ho56 (g := gb216) (o := .cells #[.int .i64 a2_0, .int .i64 a2_1, .string a2_2] 135 (0, 0)) (bp_ BK216)) (below_size (bw_ HB)))
     have HO233 := n0_; clear n0_; replace BK215 := bb_ BK215 hb; replace BK216 := bb_ BK216 hb; replace BK217 := bb_ BK217 hb; replace HB := bs_ HB hb; clear hb ho56
     refine hK.out _ _ ⟨bc_ BK215 0, bc_ BK215 1, bc_ BK215 2, bc_ BK216 0, bc_ BK216 1, bc_ BK216 2⟩ (fun hHeld => ?_)
     clear hK K
     refine norm_ (a' := ?_) ?_ ?_
     rotate_left
     ·show Act.put _ (some 39) _ = _
      simp only [Act.put, sia_, scz_, scs_, i64_w, i32_w]
      rfl
     exact norm_ (by first | (simp only [putAll, Act.put, sia_, scz_, scs_]; done) | (simp only [putAll, Act.put, sia_, scz_, scs_]; rfl)) (hJ15 (v232) _ ⟨hHeld, (rq_ (Kd.R_mono HO233.out (fun _ hk => hk.2))), (bp_ BK215), (bp_ BK216), (bp_ BK217), (bw_ HB)⟩)
    skip
    refine box_step ?hg (N := 8) ?hd (cs := #[.int .i64 0, .int .i64 0, .slice none 0 0]) (t := 59) ?hr ?_; (case hd => rfl); (case hg => rfl); (case hr => first | (go_simp; done) | (go_simp; rfl))
    intro gb237 hg w55 hbox hb
    have n4_ := mk_ (hbox)
    have n5_ : Aside0 (w.heap.size ≤ gb237) := bz_ hg
    have n6_ : Aside0 (w.heap.size ≤ gb237) := bz_ hg
    have n7_ : Aside0 (gb215 ≠ gb237) := bl_ BK215 hg
    have n8_ : Aside0 (gb237 ≠ gb215) := bg_ BK215 hg
    have n9_ : Aside0 (gb216 ≠ gb237) := bl_ BK216 hg
    have n10_ : Aside0 (gb237 ≠ gb216) := bg_ BK216 hg
    have n11_ : Aside0 (gb217 ≠ gb237) := bl_ BK217 hg
    have n12_ : Aside0 (gb237 ≠ gb217) := bg_ BK217 hg
    have BK237 := n4_; have GW237 := n5_; have GE237 := n6_; have NB215_237 := n7_; have NB237_215 := n8_; have NB216_237 := n9_; have NB237_216 := n10_; have NB217_237 := n11_; have NB237_217 := n12_; clear n4_ n5_ n6_ n7_ n8_ n9_ n10_ n11_ n12_; replace BK215 := bb_ BK215 hb; replace BK216 := bb_ BK216 hb; replace BK217 := bb_ BK217 hb; replace HB := bs_ HB hb; clear hb hbox hg
    refine hK.out _ _ ⟨bc_ BK215 0, bc_ BK215 1, bc_ BK215 2, bc_ BK216 0, bc_ BK216 1, bc_ BK216 2⟩ (fun hHeld => ?_)
    clear hK K
    refine norm_ (a' := ?_) ?_ ?_
    rotate_left
    ·show Act.put _ (some 8) _ = _
     simp only [Act.put, sia_, scz_, scs_, i64_w, i32_w]
     rfl
    exact norm_ (by first | (simp only [putAll, Act.put, sia_, scz_, scs_]; done) | (simp only [putAll, Act.put, sia_, scz_, scs_]; rfl)) (hJ18 (gb237) _ ⟨hHeld, (bp_ BK215), (bp_ BK216), (bp_ BK217), (bp_ BK237), GW237.out, GE237.out, NB215_237.out, NB237_215.out, NB216_237.out, NB237_216.out, NB217_237.out, NB237_217.out, (bw_ HB)⟩)
   rintro ⟨v222, v229, v232, v235, gb237⟩ w64 ⟨hS_, h0_, h1_, h2_, h3_, h4_, h5_, h6_, h7_, h8_, h9_, h10_, h11_, h12_, h13_, h14_⟩
   have n0_ : Aside0 (Kd.R k135 135 w64 w.heap.size (fun k_ => some k_ ≠ (v235 : Value).ownBlock ∧ k_ ≠ gb216) v232 y231) := ⟨h0_⟩
   have n1_ : Aside0 (Kd.R k135 135 w64 w.heap.size (fun k_ => some k_ ≠ (v232 : Value).ownBlock ∧ k_ ≠ gb216) v235 y234) := ⟨h1_⟩
   have n2_ : Aside0 (w64.heap[gb215]? = some (.cells #[.int .i64 a0_0, .int .i64 a0_1, .slice A0_2 l0_2.length c0_2] 59 (0, 0))) := ⟨h2_⟩
   have n3_ : Aside0 (w64.heap[gb216]? = some (.cells #[.int .i64 a2_0, .int .i64 a2_1, .string a2_2] 135 (0, 0))) := ⟨h3_⟩
   have n4_ : Aside0 (w64.heap[gb217]? = some (.cells #[.int .i64 0, .int .i64 0, .slice none 0 0] 59 (0, 0))) := ⟨h4_⟩
   have n5_ : Aside0 (w64.heap[gb237]? = some (.cells #[.int .i64 0, .int .i64 0, .slice none 0 0] 59 (0, 0))) := ⟨h5_⟩
   have n6_ : Aside0 (w.heap.size ≤ gb237) := ⟨h6_⟩
   have n7_ : Aside0 (w.heap.size ≤ gb237) := ⟨h7_⟩
   have n8_ : Aside0 (gb215 ≠ gb237) := ⟨h8_⟩
   have n9_ : Aside0 (gb237 ≠ gb215) := ⟨h9_⟩
   have n10_ : Aside0 (gb216 ≠ gb237) := ⟨h10_⟩
   have n11_ : Aside0 (gb237 ≠ gb216) := ⟨h11_⟩
   have n12_ : Aside0 (gb217 ≠ gb237) := ⟨h12_⟩
   have n13_ : Aside0 (gb237 ≠ gb217) := ⟨h13_⟩
   have n14_ : Aside0 (Below w.heap.size w w64) := ⟨h14_⟩
   clear BK215; clear BK216; clear BK217; clear HB; clear h0_ h1_ h2_ h3_ h4_ h5_ h6_ h7_ h8_ h9_ h10_ h11_ h12_ h13_ h14_; have HO233 := n0_; have HO236 := n1_; have BK215 := n2_; have BK216 := n3_; have BK217 := n4_; have BK237 := n5_; have GW237 := n6_; have GE237 := n7_; have NB215_237 := n8_; have NB237_215 := n9_; have NB216_237 := n10_; have NB237_216 := n11_; have NB217_237 := n12_; have NB237_217 := n13_; have HB := n14_; clear n0_ n1_ n2_ n3_ n4_ n5_ n6_ n7_ n8_ n9_ n10_ n11_ n12_ n13_ n14_
   have hHeld : w64.cell? ⟨gb215, 0, none⟩ = some (.int .i64 a0_0) ∧ w64.cell? ⟨gb215, 1, none⟩ = some (.int .i64 a0_1) ∧ w64.cell? ⟨gb215, 2, none⟩ = some (.slice A0_2 l0_2.length c0_2) ∧ w64.cell? ⟨gb216, 0, none⟩ = some (.int .i64 a2_0) ∧ w64.cell? ⟨gb216, 1, none⟩ = some (.int .i64 a2_1) ∧ w64.cell? ⟨gb216, 2, none⟩ = some (.string a2_2) := hS_
   obtain ⟨Ao65, co65, eo65⟩ := Kd.R_slice HO236.out
   (first | subst eo65 | (injection eo65 with f1_ f2_ f3_; have f4_ := f1_.symm; have f5_ := f3_.symm; clear f1_ f2_ f3_; subst f4_; subst f5_))
   refine norm_ (a' := ?_) ?_ ?_
   rotate_left
   ·simp only [putAll, Act.put, sia_, scz_, scs_]
    rfl
   refine one_ (i := 19) (N := none) #[true, true, true, true, true, true, true, true, true, true, true, true, true, true, true, true, true, true, true, true] rfl rfl (one_of HT_.out (by kernel_rfl)) (by decide) (fun K hK => ?_)
   have hs66 : w64.cell? ⟨gb237, 0, none⟩ = some (.int .i64 0) := bc_ BK237 0
   have hfs66 := blk_frozen BK237.out 0
   have hns66_0 := NB215_237.out
   have hns66_1 := NB216_237.out
   have hns66_2 := NB217_237.out
   have hms66_0 := NB237_215.out
   have hms66_1 := NB237_216.out
   have hms66_2 := NB237_217.out
   have hs67 : w64.cell? ⟨gb237, 1, none⟩ = some (.int .i64 0) := bc_ BK237 1
   have hfs67 := blk_frozen BK237.out 1
   have hns67_0 := NB215_237.out
   have hns67_1 := NB216_237.out
   have hns67_2 := NB217_237.out
   have hms67_0 := NB237_215.out
   have hms67_1 := NB237_216.out
   have hms67_2 := NB237_217.out
   have hs68 : w64.cell? ⟨gb237, 2, none⟩ = some (.slice none 0 0) := bc_ BK237 2
   have hfs68 := blk_frozen BK237.out 2
   have hns68_0 := NB215_237.out
   have hns68_1 := NB216_237.out
   have hns68_2 := NB217_237.out
   have hms68_0 := NB237_215.out
   have hms68_1 := NB237_216.out
   have hms68_2 := NB237_217.out
   refine skip_ (w1 := ?_) (by rfl) rfl ?_ ?_
   rotate_left
   ·go_simp
    rfl
   refine hK.out _ _ ⟨((cell_far (p := ⟨gb237, _, none⟩) NB215_237.out _).trans (((cell_far (p := ⟨gb237, _, none⟩) NB215_237.out _).trans (((cell_far (p := ⟨gb237, _, none⟩) NB215_237.out _).trans (hHeld.1)))))), ((cell_far (p := ⟨gb237, _, none⟩) NB215_237.out _).trans (((cell_far (p := ⟨gb237, _, none⟩) NB215_237.out _).trans (((cell_far (p := ⟨gb237, _, none⟩) NB215_237.out _).trans (hHeld.2.1)))))), ((cell_far (p := ⟨gb237, _, none⟩) NB215_237.out _).trans (((cell_far (p := ⟨gb237, _, none⟩) NB215_237.out _).trans (((cell_far (p := ⟨gb237, _, none⟩) NB215_237.out _).trans (hHeld.2.2.1)))))), ((cell_far (p := ⟨gb237, _, none⟩) NB216_237.out _).trans (((cell_far (p := ⟨gb237, _, none⟩) NB216_237.out _).trans (((cell_far (p := ⟨gb237, _, none⟩) NB216_237.out _).trans (hHeld.2.2.2.1)))))), ((cell_far (p := ⟨gb237, _, none⟩) NB216_237.out _).trans (((cell_far (p := ⟨gb237, _, none⟩) NB216_237.out _).trans (((cell_far (p := ⟨gb237, _, none⟩) NB216_237.out _).trans (hHeld.2.2.2.2.1)))))), ((cell_far (p := ⟨gb237, _, none⟩) NB216_237.out _).trans (((cell_far (p := ⟨gb237, _, none⟩) NB216_237.out _).trans (((cell_far (p := ⟨gb237, _, none⟩) NB216_237.out _).trans (hHeld.2.2.2.2.2))))))⟩ (fun hHeld => ?_)
   clear hK K
   refine done_ (done_of HT_.out (by kernel_rfl)) ?_
   obtain ⟨hnb69, hnc69⟩ := ns_ NB237_215
   obtain ⟨hnb70, hnc70⟩ := ns_ NB237_216
   obtain ⟨hnb71, hnc71⟩ := ns_ NB237_217
   have hcz72_0 : w64.cell? ⟨gb237, 0, none⟩ = some (.int .i64 0) := bc_ BK237 0
   have hcz72_1 : w64.cell? ⟨gb237, 1, none⟩ = some (.int .i64 0) := bc_ BK237 1
   have hcz72_2 : w64.cell? ⟨gb237, 2, none⟩ = some (.slice none 0 0) := bc_ BK237 2
   have hfz72_0 := blk_frozen BK237.out 0
   have hfz72_1 := blk_frozen BK237.out 1
   have hfz72_2 := blk_frozen BK237.out 2
   try go_wp2_with (first | ((with_reducible refine gate_callee (f := 65) rfl ?_); refine gl_ 43 Try.func65 #[.agg #[.int .i64 a0_0, .int .i64 a0_1, .slice Ao65 y234.length co65]] ?_; (with_reducible refine (spec_LogOk.calls kj3 a0_0 a0_1 _ _ y234 false _ ?side1 ?side2 A26.out).mono ?_); (case side1 => refine (Kd.R_reads' (e := 135) (base := w.heap.size) (ok := fun k_ => (some k_ ≠ (v232 : Value).ownBlock ∧ k_ ≠ gb216)) (n := y234.length) (c := co65) ?_).2.2; exact (rq_ (Kd.R_mono (Kd.R_far (p := ⟨gb237, 2, none⟩) (Kd.R_far (p := ⟨gb237, 1, none⟩) (Kd.R_far (p := ⟨gb237, 0, none⟩) (Kd.R_types HO236.out BK237.out (by decide)) (fun _ hk => hk.2) (.int .i64 a0_0)) (fun _ hk => hk.2) (.int .i64 a0_1)) (fun _ hk => hk.2) (.slice Ao65 y234.length co65)) (fun _ h_ => h_.1)))); (case side2 => exact (Kd.R_reads' HO236.out).2.1); rintro e w73 ⟨rfl, hb⟩; refine ⟨_, rfl, ?_⟩; replace HO233 := mk_ (Kd.R_below (rq_ (Kd.R_mono (Kd.R_far (p := ⟨gb237, 2, none⟩) (Kd.R_far (p := ⟨gb237, 1, none⟩) (Kd.R_far (p := ⟨gb237, 0, none⟩) (Kd.R_types HO233.out BK237.out (by decide)) (fun _ hk => hk.2) (.int .i64 a0_0)) (fun _ hk => hk.2) (.int .i64 a0_1)) (fun _ hk => hk.2) (.slice Ao65 y234.length co65)) (fun _ h_ => h_.1))) hb); replace HO236 := mk_ (Kd.R_below (rq_ (Kd.R_mono (Kd.R_far (p := ⟨gb237, 2, none⟩) (Kd.R_far (p := ⟨gb237, 1, none⟩) (Kd.R_far (p := ⟨gb237, 0, none⟩) (Kd.R_types HO236.out BK237.out (by decide)) (fun _ hk => hk.2) (.int .i64 a0_0)) (fun _ hk => hk.2) (.int .i64 a0_1)) (fun _ hk => hk.2) (.slice Ao65 y234.length co65)) (fun _ h_ => h_.1))) hb); replace BK215 := mk_ (blk_below (g := gb215) (o := .cells #[.int .i64 a0_0, .int .i64 a0_1, .slice A0_2 l0_2.length c0_2] 59 (0, 0)) bf_ hb); replace BK216 := mk_ (blk_below (g := gb216) (o := .cells #[.int .i64 a2_0, .int .i64 a2_1, .string a2_2] 135 (0, 0)) bf_ hb); replace BK217 := mk_ (blk_below (g := gb217) (o := .cells #[.int .i64 0, .int .i64 0, .slice none 0 0] 59 (0, 0)) bf_ hb); replace BK237 := mk_ (blk_below (g := gb237) (o := .cells #[.int .i64 a0_0, .int .i64 a0_1, .slice Ao65 y234.length co65] 59 (0, 0)) bu_ hb); replace HB := bs_ HB hb; (try clear hb); (try clear hk); obtain ⟨hnb74, hnc74⟩ := ns_ NB217_215; obtain ⟨hnb75, hnc75⟩ := ns_ NB217_216; obtain ⟨hcz76_0, hcz76_1, hcz76_2, hfz76_0, hfz76_1, hfz76_2⟩ := b3_ BK217))
   refine bodyPost_ret (results_ct rfl _ _ gb217 59 #[.int .i64 0, .int .i64 0, .slice none 0 0] (0, 0) _ rfl bu_ Try.underlying59 rfl (by kernel_rfl)) rfl ?_
   exact ⟨_, by first | rfl | (simp [errW_none, errW_some] <;> rfl) | (simp only [← hji21]; first | rfl | (simp [errW_none, errW_some] <;> rfl)) | (simp [*, errW_none, errW_some] <;> rfl), by first | exact Kd.R_nil _ _ _ _ _ | exact Kd.N_nil _ _ _ _ _ | exact Kd.V_nil _ _ _ _ _ | exact Kd.Q_nil _ _ _ _ _ | exact Kd.S_nil _ _ _ _ _, bw_ HB⟩

end Go.Proofs.Ythbaoefbccdioaa.QFnExactReadJournal
