/- Written by this session's own program (wip/tpl/pp.py): what the law's functions come to, and that the machine's calls do just that. -/
import Derived.Test.YtknbkjajfiediaaQFnExactLogPutx0
import Derived.Test.YtknbkjajfiediaaQFnExactLogPutx4
import Derived.Test.YtknbkjajfiediaaQFnExactLogPutx5
namespace Go.Proofs.Ytknbkjajfiediaa.QFnExactLogPut
open Go.RowKit Go.Proofs.YtknbkjajfiediaaW.PrintWords Go.Proofs.YtknbkjajfiediaaW.PrintLast Go.Proofs.YtknbkjajfiediaaW.PrintMore
attribute [local go_sem] Go.Proofs.Ytknbkjajfiediaa.Sem.string_geq Go.Proofs.Ytknbkjajfiediaa.Sem.string_leq Go.Proofs.Ytknbkjajfiediaa.Sem.string_gtr
attribute [local go_sem] max2_int min2_int max_two min_two max_three min_three max_four min_four   -- for this text's walks alone
set_option linter.unusedVariables false
set_option linter.unusedSimpArgs false

/-! ### impl_LogPut: function 18 -/
def impl_LogPut.j0 : Nat → Int → Bool → Int → Int → List (S35) → Int → Int → ByteArray → Option (Int × Int × (List (S35)) × Bool)
 | 0, _, _, _, _, _, _, _, _ => none
 | k + 1, x1, x22, x214000, x214001, x214002, x215000, x215001, x215002 => if x22 = true then (some (0, 0, ([] : List (S35)), false)) else ((impl_copyLog.f x214000 x214001 x214002).bind fun bt219 => (if 0 ≤ (wrap64 ((wrap64 (x1 - x214000)) - 1)) then (if (wrap64 ((wrap64 (x1 - x214000)) - 1)) ≤ (bt219.2.2.length : Int) then ((some (bt219.2.2.take ((wrap64 ((wrap64 (x1 - x214000)) - 1)) : Int).toNat : List (S35))).bind fun y225 => (if y225.length < 4398046511104 then ((some (y225 ++ [(⟨x215000, x215001, x215002⟩ : S35)] : List (S35))).bind fun y228 => ((impl_LogOk.f k bt219.1 bt219.2.1 y228).bind fun t231 => (if t231 = true then (some (bt219.1, bt219.2.1, y228, true)) else (some (0, 0, ([] : List (S35)), false))))) else (none))) else (none)) else (none)))
def impl_LogPut.f (k : Nat) (a0_0 : Int) (a0_1 : Int) (l0_2 : List (S35)) (a1 : Int) (a2_0 : Int) (a2_1 : Int) (a2_2 : ByteArray) : Option (Int × Int × (List (S35)) × Bool) := (impl_LogOk.f k a0_0 a0_1 l0_2).bind fun t216 => (if t216 = true then ((impl_last.f a0_0 a0_1 l0_2).bind fun t217 => ((impl_within.f a1 (wrap64 (a0_0 + 1)) (wrap64 (t217 + 1))).bind fun t218 => (impl_LogPut.j0 k a1 (!t218) a0_0 a0_1 l0_2 a2_0 a2_1 a2_2))) else (impl_LogPut.j0 k a1 true a0_0 a0_1 l0_2 a2_0 a2_1 a2_2))
theorem impl_LogPut.mono_l : ∀ k, (∀ y0 y1 y2 y3 y4 y5 y6 y7, LeO (impl_LogPut.j0 k y0 y1 y2 y3 y4 y5 y6 y7) (impl_LogPut.j0 (k + 1) y0 y1 y2 y3 y4 y5 y6 y7))
 | 0 => fun _ _ _ _ _ _ _ _ r h => by simp [impl_LogPut.j0] at h
 | k + 1 => by
  have ih0 := impl_LogPut.mono_l k
  ·intro y0 y1 y2 y3 y4 y5 y6 y7
   unfold impl_LogPut.j0
   repeat' first
   | (with_reducible exact ih0 _ _ _ _ _ _ _ _)
   | (with_reducible exact impl_LogOk.mono _ _ _ _)
   | (with_reducible exact LeO.refl _)
   | (with_reducible exact LeO.none _)
   | (with_reducible refine LeO.ite ?_ ?_)
   | (with_reducible refine LeO.bind ?_ (fun _ => ?_))
   | exact ih0 _ _ _ _ _ _ _ _
   | exact impl_LogOk.mono _ _ _ _
   | exact LeO.none _
   | refine LeO.ite ?_ ?_
   | refine LeO.bind ?_ (fun _ => ?_)
theorem impl_LogPut.mono : ∀ a0 a1 a2 a3 a4 a5 a6 k, LeO (impl_LogPut.f k a0 a1 a2 a3 a4 a5 a6) (impl_LogPut.f (k + 1) a0 a1 a2 a3 a4 a5 a6) := by
 intro a0 a1 a2 a3 a4 a5 a6 k
 have ih0 := impl_LogPut.mono_l k
 unfold impl_LogPut.f
 repeat' first
   | (with_reducible exact ih0 _ _ _ _ _ _ _ _)
   | (with_reducible exact impl_LogOk.mono _ _ _ _)
   | (with_reducible exact LeO.refl _)
   | (with_reducible exact LeO.none _)
   | (with_reducible refine LeO.ite ?_ ?_)
   | (with_reducible refine LeO.bind ?_ (fun _ => ?_))
   | exact ih0 _ _ _ _ _ _ _ _
   | exact impl_LogOk.mono _ _ _ _
   | exact LeO.none _
   | refine LeO.ite ?_ ?_
   | refine LeO.bind ?_ (fun _ => ?_)
def impl_LogPut.T1 : Bool × List (List Nat × List Nat) := (true, [([], []), ([0], [0]), ([1], [1]), ([2, 1], [2]), ([3], [3]), ([3], [3]), ([5, 3], [3, 5]), ([6, 3], [3, 6]), ([3], [3]), ([8, 3, 3], [3, 8]), ([9, 3], [3, 9]), ([4, 7, 10, 9, 3], [3, 4, 7, 10]), ([11, 3], [3, 11]), ([3, 12], [3, 12])])
def impl_LogPut.B1 : List Nat := [0, 1, 3, 7, 15, 15, 47, 111, 15, 271, 783, 2047, 4095, 8191]
theorem impl_LogPut.tab1 : rtab .any (opsOf Try.f18 1) = impl_LogPut.T1 := by kernel_rfl
theorem impl_LogPut.bits1 : waitsOk impl_LogPut.T1.2 impl_LogPut.B1 = true := by kernel_rfl
def impl_LogPut.T4 : Bool × List (List Nat × List Nat) := (true, [([], []), ([0], [0]), ([], []), ([], []), ([3], [3]), ([2, 4], [2, 4]), ([5], [5]), ([1, 6], [1, 6]), ([], []), ([8], [8]), ([7, 9], [7, 9]), ([0, 1, 2, 3, 4, 5, 6, 7, 8, 9, 10], []), ([11, 10, 10, 0, 1, 2, 3, 4, 5, 6, 7, 8, 9, 10], [10, 11])])
def impl_LogPut.B4 : List Nat := [0, 1, 0, 0, 8, 28, 60, 127, 0, 256, 1023, 2047, 4095]
theorem impl_LogPut.tab4 : rtab .any (opsOf Try.f18 4) = impl_LogPut.T4 := by kernel_rfl
theorem impl_LogPut.bits4 : waitsOk impl_LogPut.T4.2 impl_LogPut.B4 = true := by kernel_rfl
set_option maxHeartbeats 8000000 in
set_option maxRecDepth 100000 in
theorem impl_LogPut.calls (k : Nat) (a0_0 : Int) (a0_1 : Int) (A0_2 : Option Addr) (c0_2 : Nat) (l0_2 : List (S35)) (a1 : Int) (a2_0 : Int) (a2_1 : Int) (a2_2 : ByteArray) (r1 : Int) (r2 : Int) (r3 : List (S35)) (r4 : Bool) (w : World) (hr0_2 : Kd.C k35 w A0_2 l0_2.length l0_2) (hc0_2 : l0_2.length ≤ c0_2) (h : impl_LogPut.f k a0_0 a0_1 l0_2 a1 a2_0 a2_1 a2_2 = some (r1, r2, r3, r4)) :
  Calls Try.prog 18 #[.agg #[.int .i64 a0_0, .int .i64 a0_1, .slice A0_2 l0_2.length c0_2], .int .i64 a1, .agg #[.int .i64 a2_0, .int .i64 a2_1, .string a2_2]] w fun e w' => ∃ v2_ : Value, e = .returned (.tuple #[.agg #[.int .i64 r1, .int .i64 r2, v2_], .bool r4]) ∧ Kd.R k35 35 w' w.heap.size (fun _ => True) v2_ r3 ∧ Below w.heap.size w w' := by
 have hu31 := Try.underlying31
 have hu35 := Try.underlying35
 have HR0_2 := Aside0.mk hr0_2
 have HC0_2 := Aside0.mk hc0_2
 clear hr0_2 hc0_2
 have HB := mk_ (Below.refl w.heap.size w)
 have H : ((impl_LogOk.f k a0_0 a0_1 l0_2).bind fun t216 => (if t216 = true then ((impl_last.f a0_0 a0_1 l0_2).bind fun t217 => ((impl_within.f a1 (wrap64 (a0_0 + 1)) (wrap64 (t217 + 1))).bind fun t218 => (impl_LogPut.j0 k a1 (!t218) a0_0 a0_1 l0_2 a2_0 a2_1 a2_2))) else (impl_LogPut.j0 k a1 true a0_0 a0_1 l0_2 a2_0 a2_1 a2_2))) = some (r1, r2, r3, r4) := h
 clear h
 have HC4 := Aside0.mk H
 clear H
 go_enter Try.func18, Try.ntmps18
 go_upto_region 1 with (first | ((with_reducible refine gate_dst (N := 3) rfl ?_); refine box_event ?hg (N := 3) ?hd (cs := #[.int .i64 a0_0, .int .i64 a0_1, .slice A0_2 l0_2.length c0_2]) (t := 31) ?hr ?_; (case hd => rfl); (case hg => rfl); (case hr => first | (go_simp; done) | (go_simp; rfl)); intro gb213 hg w5 hbox hb; have BK213 := mk_ (hbox); have GW213 : Aside0 (w.heap.size ≤ gb213) := bz_ hg; have GE213 : Aside0 (w.heap.size ≤ gb213) := bz_ hg; replace HB := bs_ HB hb; clear hb hbox hg) | ((with_reducible refine gate_dst (N := 5) rfl ?_); refine box_event ?hg (N := 5) ?hd (cs := #[.int .i64 a2_0, .int .i64 a2_1, .string a2_2]) (t := 35) ?hr ?_; (case hd => rfl); (case hg => rfl); (case hr => first | (go_simp; done) | (go_simp; rfl)); intro gb214 hg w6 hbox hb; have BK214 := mk_ (hbox); have GW214 : Aside0 (w.heap.size ≤ gb214) := bz_ hg; have GE214 : Aside0 (w.heap.size ≤ gb214) := bz_ hg; have NB213_214 : Aside0 (gb213 ≠ gb214) := bl_ BK213 hg; have NB214_213 : Aside0 (gb214 ≠ gb213) := bg_ BK213 hg; replace BK213 := bb_ BK213 hb; replace HB := bs_ HB hb; clear hb hbox hg) | ((with_reducible refine gate_dst (N := 6) rfl ?_); refine box_event ?hg (N := 6) ?hd (cs := #[.int .i64 0, .int .i64 0, .slice none 0 0]) (t := 31) ?hr ?_; (case hd => rfl); (case hg => rfl); (case hr => first | (go_simp; done) | (go_simp; rfl)); intro gb215 hg w7 hbox hb; have BK215 := mk_ (hbox); have GW215 : Aside0 (w.heap.size ≤ gb215) := bz_ hg; have GE215 : Aside0 (w.heap.size ≤ gb215) := bz_ hg; have NB213_215 : Aside0 (gb213 ≠ gb215) := bl_ BK213 hg; have NB215_213 : Aside0 (gb215 ≠ gb213) := bg_ BK213 hg; have NB214_215 : Aside0 (gb214 ≠ gb215) := bl_ BK214 hg; have NB215_214 : Aside0 (gb215 ≠ gb214) := bg_ BK214 hg; replace BK213 := bb_ BK213 hb; replace BK214 := bb_ BK214 hb; replace HB := bs_ HB hb; clear hb hbox hg))
 (try simp only [Act.put, sia_, scz_, scs_])
 go_cut [22] (fun v22 wc => ∃ (kq : Nat) (x22_3 : Bool), v22 = .bool x22_3 ∧ Aside0 (impl_LogPut.j0 kq a1 x22_3 a0_0 a0_1 l0_2 a2_0 a2_1 a2_2 = some (r1, r2, r3, r4)) ∧ Aside0 (kq ≤ k) ∧ Aside0 (wc.heap[gb213]? = some (.cells #[.int .i64 a0_0, .int .i64 a0_1, (.slice A0_2 l0_2.length c0_2)] 31 (0, 0))) ∧ Aside0 (wc.heap[gb214]? = some (.cells #[.int .i64 a2_0, .int .i64 a2_1, .string a2_2] 35 (0, 0))) ∧ Aside0 (wc.heap[gb215]? = some (.cells #[.int .i64 0, .int .i64 0, (.slice none 0 0)] 31 (0, 0))) ∧ Aside0 (Below w.heap.size w wc))
 case first =>
  have H := HC4.out
  clear HC4
  replace H := Option.bind_eq_some_iff.mp H
  obtain ⟨t216, A80, H⟩ := H
  replace H : (if t216 = true then ((impl_last.f a0_0 a0_1 l0_2).bind fun t217 => ((impl_within.f a1 (wrap64 (a0_0 + 1)) (wrap64 (t217 + 1))).bind fun t218 => (impl_LogPut.j0 k a1 (!t218) a0_0 a0_1 l0_2 a2_0 a2_1 a2_2))) else (impl_LogPut.j0 k a1 true a0_0 a0_1 l0_2 a2_0 a2_1 a2_2)) = some (r1, r2, r3, r4) := H
  have A8 := Aside0.mk A80
  clear A80
  by_cases c9 : t216 = true
  ·subst c9
   have H1 : ((impl_last.f a0_0 a0_1 l0_2).bind fun t217 => ((impl_within.f a1 (wrap64 (a0_0 + 1)) (wrap64 (t217 + 1))).bind fun t218 => (impl_LogPut.j0 k a1 (!t218) a0_0 a0_1 l0_2 a2_0 a2_1 a2_2))) = some (r1, r2, r3, r4) := by rw [if_pos rfl] at H; exact H
   clear H
   have H := H1
   clear H1
   replace H := Option.bind_eq_some_iff.mp H
   obtain ⟨t217, A100, H⟩ := H
   replace H : ((impl_within.f a1 (wrap64 (a0_0 + 1)) (wrap64 (t217 + 1))).bind fun t218 => (impl_LogPut.j0 k a1 (!t218) a0_0 a0_1 l0_2 a2_0 a2_1 a2_2)) = some (r1, r2, r3, r4) := H
   have A10 := Aside0.mk A100
   clear A100
   replace H := Option.bind_eq_some_iff.mp H
   obtain ⟨t218, A110, H⟩ := H
   replace H : (impl_LogPut.j0 k a1 (!t218) a0_0 a0_1 l0_2 a2_0 a2_1 a2_2) = some (r1, r2, r3, r4) := H
   have A11 := Aside0.mk A110
   clear A110
   have H' := Aside0.mk H
   clear H
   try go_wp2
   have n0_ := mk_ (blk_drew BK213.out)
   have n1_ := mk_ (blk_drew BK214.out)
   have n2_ := mk_ (blk_drew BK215.out)
   have n3_ := mk_ (below_drew1 HB.out)
   clear BK213; clear BK214; clear BK215; clear HB; have BK213 := n0_; have BK214 := n1_; have BK215 := n2_; have HB := n3_; clear n0_ n1_ n2_ n3_
   refine start_ (n := 14) (S := fun w' => w'.cell? ⟨gb213, 0, none⟩ = some (.int .i64 a0_0) ∧ w'.cell? ⟨gb213, 1, none⟩ = some (.int .i64 a0_1) ∧ w'.cell? ⟨gb213, 2, none⟩ = some (.slice A0_2 l0_2.length c0_2)) (ds := []) #[false, false, false, false, false, false, false, false, false, false, false, false, false, false] (by kernel_rfl) rfl rfl ⟨bc_ BK213 0, bc_ BK213 1, bc_ BK213 2⟩ (fun hHeld => ?_); refine with_tabW impl_LogPut.tab1 impl_LogPut.bits1 (fun HT_ HW_ => ?_)
   generalize w7.drew = w12 at BK213 BK214 BK215 HB hHeld ⊢
   refine take_ (i := 0) (N := some 9) (v := ?_) (a' := ?_) #[true, false, false, false, false, false, false, false, false, false, false, false, false, false] rfl rfl (take_ofW HT_.out HW_.out (by kernel_rfl)) (fun _ _ _ h => h) (Or.inl ⟨by rfl, ?_⟩) hHeld ?_ ?_
   rotate_left
   ·rintro w' ⟨s0, s1, s2⟩
    go_simp
    with_reducible rfl
   rotate_left
   ·simp only [Act.put, sia_, scz_, scs_, i64_w, i32_w]
    rfl
   refine one_ (i := 1) (N := some 10) #[true, true, false, false, false, false, false, false, false, false, false, false, false, false] rfl rfl (one_of HT_.out (by kernel_rfl)) (by decide) (fun K hK => ?_)
   refine goes_ Try.func73 (by kernel_rfl) rfl #[.agg #[.int .i64 a0_0, .int .i64 a0_1, .slice A0_2 l0_2.length c0_2]] (by rfl) rfl rfl (by (try simp only [List.map_toArray, List.map_cons, List.map_nil]); first | done | rfl | (simp only [List.length_drop, List.length_take]; rfl)) ?_
   with_reducible refine (impl_LogOk.calls k a0_0 a0_1 _ _ l0_2 true _ ?side1 ?side2 A8.out).mono ?_
   (case side1 => repeat (first | exact (Kd.C_below HR0_2.out HB.out) | (with_reducible refine Kd.C_alloc ?_ _) | (with_reducible refine Kd.C_drewN ?_ _) | (with_reducible refine Kd.C_drew ?_)))
   (case side2 => exact HC0_2.out)
   rintro e w13 ⟨rfl, hb⟩
   refine ⟨_, rfl, ?_⟩
   have n0_ := bb_ BK213 hb; have n1_ := bb_ BK214 hb; have n2_ := bb_ BK215 hb
   have n3_ := bs_ HB hb
   clear BK213; clear BK214; clear BK215; clear HB; have BK213 := n0_; have BK214 := n1_; have BK215 := n2_; have HB := n3_; clear n0_ n1_ n2_ n3_; (try clear hb); (try clear hb2); (try clear hk); (try clear hi)
   refine hK.out _ _ ⟨bc_ BK213 0, bc_ BK213 1, bc_ BK213 2⟩ (fun hHeld => ?_)
   clear hK K
   refine norm_ (a' := ?_) ?_ ?_
   rotate_left
   ·show Act.put _ (some 10) _ = _
    simp only [Act.put, sia_, scz_, scs_, i64_w, i32_w]
    rfl
   refine pure_ (i := 2) (N := some 11) (v := ?_) (a' := ?_) #[true, true, true, false, false, false, false, false, false, false, false, false, false, false] rfl rfl (any_of HT_.out (by kernel_rfl)) (fun _ _ _ h => h) (Or.inl ⟨by rfl, ?_⟩) ?_ ?_
   rotate_left
   ·intro w'
    go_simp
    with_reducible rfl
   rotate_left
   ·simp only [Act.put, sia_, scz_, scs_, i64_w, i32_w]
    rfl
   refine pure_ (i := 3) (N := some 12) (v := ?_) (a' := ?_) #[true, true, true, true, false, false, false, false, false, false, false, false, false, false] rfl rfl (any_of HT_.out (by kernel_rfl)) (fun _ _ _ h => h) (Or.inl ⟨by rfl, ?_⟩) ?_ ?_
   rotate_left
   ·intro w'
    go_simp
    with_reducible rfl
   rotate_left
   ·simp only [Act.put, sia_, scz_, scs_, i64_w, i32_w]
    rfl
   refine pure_ (i := 4) (N := some 13) (v := ?_) (a' := ?_) #[true, true, true, true, true, false, false, false, false, false, false, false, false, false] rfl rfl (any_of HT_.out (by kernel_rfl)) (fun _ _ _ h => h) (Or.inl ⟨by rfl, ?_⟩) ?_ ?_
   rotate_left
   ·intro w'
    go_simp
    with_reducible rfl
   rotate_left
   ·simp only [Act.put, sia_, scz_, scs_, i64_w, i32_w]
    rfl
   refine pure_ (i := 5) (N := some 14) (v := ?_) (a' := ?_) #[true, true, true, true, true, true, false, false, false, false, false, false, false, false] rfl rfl (any_of HT_.out (by kernel_rfl)) (fun _ _ _ h => h) (Or.inl ⟨by rfl, ?_⟩) ?_ ?_
   rotate_left
   ·intro w'
    go_simp
    with_reducible rfl
   rotate_left
   ·simp only [Act.put, sia_, scz_, scs_, i64_w, i32_w]
    rfl
   refine take_ (i := 6) (N := some 15) (v := ?_) (a' := ?_) #[true, true, true, true, true, true, true, false, false, false, false, false, false, false] rfl rfl (take_ofW HT_.out HW_.out (by kernel_rfl)) (fun _ _ _ h => h) (Or.inl ⟨by rfl, ?_⟩) hHeld ?_ ?_
   rotate_left
   ·rintro w' ⟨s0, s1, s2⟩
    go_simp
    with_reducible rfl
   rotate_left
   ·simp only [Act.put, sia_, scz_, scs_, i64_w, i32_w]
    rfl
   refine pure_ (i := 7) (N := some 16) (v := ?_) (a' := ?_) #[true, true, true, true, true, true, true, true, false, false, false, false, false, false] rfl rfl (any_of HT_.out (by kernel_rfl)) (fun _ _ _ h => h) (Or.inl ⟨by rfl, ?_⟩) ?_ ?_
   rotate_left
   ·intro w'
    go_simp
    with_reducible rfl
   rotate_left
   ·simp only [Act.put, sia_, scz_, scs_, i64_w, i32_w]
    rfl
   refine take_ (i := 8) (N := some 17) (v := ?_) (a' := ?_) #[true, true, true, true, true, true, true, true, true, false, false, false, false, false] rfl rfl (take_ofW HT_.out HW_.out (by kernel_rfl)) (fun _ _ _ h => h) (Or.inl ⟨by rfl, ?_⟩) hHeld ?_ ?_
   rotate_left
   ·rintro w' ⟨s0, s1, s2⟩
    go_simp
    with_reducible rfl
   rotate_left
   ·simp only [Act.put, sia_, scz_, scs_, i64_w, i32_w]
    rfl
   refine one_ (i := 9) (N := some 18) #[true, true, true, true, true, true, true, true, true, true, false, false, false, false] rfl rfl (one_of HT_.out (by kernel_rfl)) (by decide) (fun K hK => ?_)
   refine goes_ Try.func75 (by kernel_rfl) rfl #[.agg #[.int .i64 a0_0, .int .i64 a0_1, .slice A0_2 l0_2.length c0_2]] (by rfl) rfl rfl (by (try simp only [List.map_toArray, List.map_cons, List.map_nil]); first | done | rfl | (simp only [List.length_drop, List.length_take]; rfl)) ?_
   with_reducible refine (impl_last.calls a0_0 a0_1 _ _ l0_2 t217 _ ?side1 ?side2 A10.out).mono ?_
   (case side1 => repeat (first | exact (Kd.C_below HR0_2.out HB.out) | (with_reducible refine Kd.C_alloc ?_ _) | (with_reducible refine Kd.C_drewN ?_ _) | (with_reducible refine Kd.C_drew ?_)))
   (case side2 => exact HC0_2.out)
   rintro e w14 ⟨rfl, hb⟩
   refine ⟨_, rfl, ?_⟩
   have n0_ := bb_ BK213 hb; have n1_ := bb_ BK214 hb; have n2_ := bb_ BK215 hb
   have n3_ := bs_ HB hb
   clear BK213; clear BK214; clear BK215; clear HB; have BK213 := n0_; have BK214 := n1_; have BK215 := n2_; have HB := n3_; clear n0_ n1_ n2_ n3_; (try clear hb); (try clear hb2); (try clear hk); (try clear hi)
   refine hK.out _ _ ⟨bc_ BK213 0, bc_ BK213 1, bc_ BK213 2⟩ (fun hHeld => ?_)
   clear hK K
   refine norm_ (a' := ?_) ?_ ?_
   rotate_left
   ·show Act.put _ (some 18) _ = _
    simp only [Act.put, sia_, scz_, scs_, i64_w, i32_w]
    rfl
   refine pure_ (i := 10) (N := some 19) (v := ?_) (a' := ?_) #[true, true, true, true, true, true, true, true, true, true, true, false, false, false] rfl rfl (any_of HT_.out (by kernel_rfl)) (fun _ _ _ h => h) (Or.inl ⟨by rfl, ?_⟩) ?_ ?_
   rotate_left
   ·intro w'
    go_simp
    with_reducible rfl
   rotate_left
   ·simp only [Act.put, sia_, scz_, scs_, i64_w, i32_w]
    rfl
   refine one_ (i := 11) (N := some 20) #[true, true, true, true, true, true, true, true, true, true, true, true, false, false] rfl rfl (one_of HT_.out (by kernel_rfl)) (by decide) (fun K hK => ?_)
   refine goes_ Try.func74 (by kernel_rfl) rfl #[.int .i64 a1, .int .i64 (wrap64 (a0_0 + 1)), .int .i64 (wrap64 (t217 + 1))] (by rfl) rfl rfl (by (try simp only [List.map_toArray, List.map_cons, List.map_nil]); first | done | rfl | (simp only [List.length_drop, List.length_take]; rfl)) ?_
   with_reducible refine (impl_within.calls a1 (wrap64 (a0_0 + 1)) (wrap64 (t217 + 1)) t218 _ A11.out).mono ?_
   rintro e w' ⟨rfl, ⟨nd, rfl⟩⟩
   refine ⟨_, rfl, ?_⟩
   refine hK.out _ _ ⟨bc_ BK213 0, bc_ BK213 1, bc_ BK213 2⟩ (fun hHeld => ?_)
   clear hK K
   refine norm_ (a' := ?_) ?_ ?_
   rotate_left
   ·show Act.put _ (some 20) _ = _
    simp only [Act.put, sia_, scz_, scs_, i64_w, i32_w]
    rfl
   refine pure_ (i := 12) (N := some 21) (v := ?_) (a' := ?_) #[true, true, true, true, true, true, true, true, true, true, true, true, true, false] rfl rfl (any_of HT_.out (by kernel_rfl)) (fun _ _ _ h => h) (Or.inl ⟨by rfl, ?_⟩) ?_ ?_
   rotate_left
   ·intro w'
    go_simp
    with_reducible rfl
   rotate_left
   ·simp only [Act.put, sia_, scz_, scs_, i64_w, i32_w]
    rfl
   refine pure_ (i := 13) (N := some 22) (v := ?_) (a' := ?_) #[true, true, true, true, true, true, true, true, true, true, true, true, true, true] rfl rfl (any_of HT_.out (by kernel_rfl)) (fun _ _ _ h => h) (Or.inl ⟨by rfl, ?_⟩) ?_ ?_
   rotate_left
   ·intro w'
    go_simp
    with_reducible rfl
   rotate_left
   ·simp only [Act.put, sia_, scz_, scs_, i64_w, i32_w]
    rfl
   refine done_ (done_of HT_.out (by kernel_rfl)) ?_
   try go_wp2
   go_meet
   case rel => exact ⟨_, (!t218), (by first | rfl | (simp; done) | (simp [*]; done)), H', ⟨by first | omega | exact Nat.le_refl _⟩, ⟨by (with_reducible repeat (first | refine blk_drewN ?_ _ | refine blk_drew ?_ | refine blk_alloc ?_ _)); exact BK213.out⟩, ⟨by (with_reducible repeat (first | refine blk_drewN ?_ _ | refine blk_drew ?_ | refine blk_alloc ?_ _)); exact BK214.out⟩, ⟨by (with_reducible repeat (first | refine blk_drewN ?_ _ | refine blk_drew ?_ | refine blk_alloc ?_ _)); exact BK215.out⟩, ⟨by repeat (first | (with_reducible first | exact HB.out | apply below_alloc | apply pw_below_drewN | apply below_drew1 | refine below_set ?_ GE213.out | refine below_set ?_ GE214.out | refine below_set ?_ GE215.out) | exact HB.out)⟩⟩
  ·replace c9 := Bool.eq_false_iff.mpr c9
   subst c9
   have H1 : (impl_LogPut.j0 k a1 true a0_0 a0_1 l0_2 a2_0 a2_1 a2_2) = some (r1, r2, r3, r4) := by rw [if_neg (show ¬ (false = true) by decide)] at H; exact H
   clear H
   have H := H1
   clear H1
   have H' := Aside0.mk H
   clear H
   try go_wp2
   have n0_ := mk_ (blk_drew BK213.out)
   have n1_ := mk_ (blk_drew BK214.out)
   have n2_ := mk_ (blk_drew BK215.out)
   have n3_ := mk_ (below_drew1 HB.out)
   clear BK213; clear BK214; clear BK215; clear HB; have BK213 := n0_; have BK214 := n1_; have BK215 := n2_; have HB := n3_; clear n0_ n1_ n2_ n3_
   refine start_ (n := 14) (S := fun w' => w'.cell? ⟨gb213, 0, none⟩ = some (.int .i64 a0_0) ∧ w'.cell? ⟨gb213, 1, none⟩ = some (.int .i64 a0_1) ∧ w'.cell? ⟨gb213, 2, none⟩ = some (.slice A0_2 l0_2.length c0_2)) (ds := []) #[false, false, false, false, false, false, false, false, false, false, false, false, false, false] (by kernel_rfl) rfl rfl ⟨bc_ BK213 0, bc_ BK213 1, bc_ BK213 2⟩ (fun hHeld => ?_); refine with_tabW impl_LogPut.tab1 impl_LogPut.bits1 (fun HT_ HW_ => ?_)
   generalize w7.drew = w15 at BK213 BK214 BK215 HB hHeld ⊢
   refine take_ (i := 0) (N := some 9) (v := ?_) (a' := ?_) #[true, false, false, false, false, false, false, false, false, false, false, false, false, false] rfl rfl (take_ofW HT_.out HW_.out (by kernel_rfl)) (fun _ _ _ h => h) (Or.inl ⟨by rfl, ?_⟩) hHeld ?_ ?_
   rotate_left
   ·rintro w' ⟨s0, s1, s2⟩
    go_simp
    with_reducible rfl
   rotate_left
   ·simp only [Act.put, sia_, scz_, scs_, i64_w, i32_w]
    rfl
   refine one_ (i := 1) (N := some 10) #[true, true, false, false, false, false, false, false, false, false, false, false, false, false] rfl rfl (one_of HT_.out (by kernel_rfl)) (by decide) (fun K hK => ?_)
   refine goes_ Try.func73 (by kernel_rfl) rfl #[.agg #[.int .i64 a0_0, .int .i64 a0_1, .slice A0_2 l0_2.length c0_2]] (by rfl) rfl rfl (by (try simp only [List.map_toArray, List.map_cons, List.map_nil]); first | done | rfl | (simp only [List.length_drop, List.length_take]; rfl)) ?_
   with_reducible refine (impl_LogOk.calls k a0_0 a0_1 _ _ l0_2 false _ ?side1 ?side2 A8.out).mono ?_
   (case side1 => repeat (first | exact (Kd.C_below HR0_2.out HB.out) | (with_reducible refine Kd.C_alloc ?_ _) | (with_reducible refine Kd.C_drewN ?_ _) | (with_reducible refine Kd.C_drew ?_)))
   (case side2 => exact HC0_2.out)
   rintro e w16 ⟨rfl, hb⟩
   refine ⟨_, rfl, ?_⟩
   have n0_ := bb_ BK213 hb; have n1_ := bb_ BK214 hb; have n2_ := bb_ BK215 hb
   have n3_ := bs_ HB hb
   clear BK213; clear BK214; clear BK215; clear HB; have BK213 := n0_; have BK214 := n1_; have BK215 := n2_; have HB := n3_; clear n0_ n1_ n2_ n3_; (try clear hb); (try clear hb2); (try clear hk); (try clear hi)
   refine hK.out _ _ ⟨bc_ BK213 0, bc_ BK213 1, bc_ BK213 2⟩ (fun hHeld => ?_)
   clear hK K
   refine norm_ (a' := ?_) ?_ ?_
   rotate_left
   ·show Act.put _ (some 10) _ = _
    simp only [Act.put, sia_, scz_, scs_, i64_w, i32_w]
    rfl
   refine pure_ (i := 2) (N := some 11) (v := ?_) (a' := ?_) #[true, true, true, false, false, false, false, false, false, false, false, false, false, false] rfl rfl (any_of HT_.out (by kernel_rfl)) (fun _ _ _ h => h) (Or.inl ⟨by rfl, ?_⟩) ?_ ?_
   rotate_left
   ·intro w'
    go_simp
    with_reducible rfl
   rotate_left
   ·simp only [Act.put, sia_, scz_, scs_, i64_w, i32_w]
    rfl
   refine pure_ (i := 3) (N := some 12) (v := ?_) (a' := ?_) #[true, true, true, true, false, false, false, false, false, false, false, false, false, false] rfl rfl (any_of HT_.out (by kernel_rfl)) (fun _ _ _ h => h) (Or.inl ⟨by rfl, ?_⟩) ?_ ?_
   rotate_left
   ·intro w'
    go_simp
    with_reducible rfl
   rotate_left
   ·simp only [Act.put, sia_, scz_, scs_, i64_w, i32_w]
    rfl
   refine pure_ (i := 4) (N := some 13) (v := undef) (a' := ?_) #[true, true, true, true, true, false, false, false, false, false, false, false, false, false] rfl rfl (any_of HT_.out (by kernel_rfl)) (fun _ _ _ h => h) (Or.inr ⟨by rfl, rfl⟩) ?_ ?_
   rotate_left
   ·simp only [Act.put, sia_, scz_, scs_, i64_w, i32_w]
    rfl
   refine pure_ (i := 5) (N := some 14) (v := undef) (a' := ?_) #[true, true, true, true, true, true, false, false, false, false, false, false, false, false] rfl rfl (any_of HT_.out (by kernel_rfl)) (fun _ _ _ h => h) (Or.inr ⟨by rfl, rfl⟩) ?_ ?_
   rotate_left
   ·simp only [Act.put, sia_, scz_, scs_, i64_w, i32_w]
    rfl
   refine pure_ (i := 6) (N := some 15) (v := undef) (a' := ?_) #[true, true, true, true, true, true, true, false, false, false, false, false, false, false] rfl rfl (any_of HT_.out (by kernel_rfl)) (fun _ _ _ h => h) (Or.inr ⟨by rfl, rfl⟩) ?_ ?_
   rotate_left
   ·simp only [Act.put, sia_, scz_, scs_, i64_w, i32_w]
    rfl
   refine pure_ (i := 7) (N := some 16) (v := undef) (a' := ?_) #[true, true, true, true, true, true, true, true, false, false, false, false, false, false] rfl rfl (any_of HT_.out (by kernel_rfl)) (fun _ _ _ h => h) (Or.inr ⟨by rfl, rfl⟩) ?_ ?_
   rotate_left
   ·simp only [Act.put, sia_, scz_, scs_, i64_w, i32_w]
    rfl
   refine pure_ (i := 8) (N := some 17) (v := undef) (a' := ?_) #[true, true, true, true, true, true, true, true, true, false, false, false, false, false] rfl rfl (any_of HT_.out (by kernel_rfl)) (fun _ _ _ h => h) (Or.inr ⟨by rfl, rfl⟩) ?_ ?_
   rotate_left
   ·simp only [Act.put, sia_, scz_, scs_, i64_w, i32_w]
    rfl
   refine pure_ (i := 9) (N := some 18) (v := undef) (a' := ?_) #[true, true, true, true, true, true, true, true, true, true, false, false, false, false] rfl rfl (any_of HT_.out (by kernel_rfl)) (fun _ _ _ h => h) (Or.inr ⟨by rfl, rfl⟩) ?_ ?_
   rotate_left
   ·simp only [Act.put, sia_, scz_, scs_, i64_w, i32_w]
    rfl
   refine pure_ (i := 10) (N := some 19) (v := undef) (a' := ?_) #[true, true, true, true, true, true, true, true, true, true, true, false, false, false] rfl rfl (any_of HT_.out (by kernel_rfl)) (fun _ _ _ h => h) (Or.inr ⟨by rfl, rfl⟩) ?_ ?_
   rotate_left
   ·simp only [Act.put, sia_, scz_, scs_, i64_w, i32_w]
    rfl
   refine pure_ (i := 11) (N := some 20) (v := undef) (a' := ?_) #[true, true, true, true, true, true, true, true, true, true, true, true, false, false] rfl rfl (any_of HT_.out (by kernel_rfl)) (fun _ _ _ h => h) (Or.inr ⟨by rfl, rfl⟩) ?_ ?_
   rotate_left
   ·simp only [Act.put, sia_, scz_, scs_, i64_w, i32_w]
    rfl
   refine pure_ (i := 12) (N := some 21) (v := undef) (a' := ?_) #[true, true, true, true, true, true, true, true, true, true, true, true, true, false] rfl rfl (any_of HT_.out (by kernel_rfl)) (fun _ _ _ h => h) (Or.inr ⟨by rfl, rfl⟩) ?_ ?_
   rotate_left
   ·simp only [Act.put, sia_, scz_, scs_, i64_w, i32_w]
    rfl
   refine pure_ (i := 13) (N := some 22) (v := ?_) (a' := ?_) #[true, true, true, true, true, true, true, true, true, true, true, true, true, true] rfl rfl (any_of HT_.out (by kernel_rfl)) (fun _ _ _ h => h) (Or.inl ⟨by rfl, ?_⟩) ?_ ?_
   rotate_left
   ·intro w'
    go_simp
    with_reducible rfl
   rotate_left
   ·simp only [Act.put, sia_, scz_, scs_, i64_w, i32_w]
    rfl
   refine done_ (done_of HT_.out (by kernel_rfl)) ?_
   try go_wp2
   go_meet
   case rel => exact ⟨_, (true), (by first | rfl | (simp; done) | (simp [*]; done)), H', ⟨by first | omega | exact Nat.le_refl _⟩, ⟨by (with_reducible repeat (first | refine blk_drewN ?_ _ | refine blk_drew ?_ | refine blk_alloc ?_ _)); exact BK213.out⟩, ⟨by (with_reducible repeat (first | refine blk_drewN ?_ _ | refine blk_drew ?_ | refine blk_alloc ?_ _)); exact BK214.out⟩, ⟨by (with_reducible repeat (first | refine blk_drewN ?_ _ | refine blk_drew ?_ | refine blk_alloc ?_ _)); exact BK215.out⟩, ⟨by repeat (first | (with_reducible first | exact HB.out | apply below_alloc | apply pw_below_drewN | apply below_drew1 | refine below_set ?_ GE213.out | refine below_set ?_ GE214.out | refine below_set ?_ GE215.out) | exact HB.out)⟩⟩
 case rest =>
  clear HC4
  try clear c1
  try clear p2
  try clear p6
  try clear c7
  try clear c9
  obtain ⟨kq, x22_3, rfl, HA, HJ3, BK213, BK214, BK215, HB⟩ := hcut
  cases kq with
  | zero => exact absurd HA.out (by simp [impl_LogPut.j0])
  | succ kj3 =>
   have H := HA.out
   clear HA
   simp only [impl_LogPut.j0] at H
   by_cases c17 : x22_3 = true
   ·subst c17
    have H1 : (some (0, 0, ([] : List (S35)), false)) = some (r1, r2, r3, r4) := by rw [if_pos rfl] at H; exact H
    clear H
    have H := H1
    clear H1
    simp only [Option.some.injEq, Prod.mk.injEq] at H
    obtain ⟨rfl, rfl, rfl, rfl⟩ := H
    have hnb18 := NB215_213.out
    have hnc18 := NB213_215.out
    have hnb19 := NB215_214.out
    have hnc19 := NB214_215.out
    have hcz20_0 : wc.cell? ⟨gb215, 0, none⟩ = some (.int .i64 0) := bc_ BK215 0
    have hcz20_1 : wc.cell? ⟨gb215, 1, none⟩ = some (.int .i64 0) := bc_ BK215 1
    have hcz20_2 : wc.cell? ⟨gb215, 2, none⟩ = some (.slice none 0 0) := bc_ BK215 2
    have hfz20_0 := blk_frozen BK215.out 0
    have hfz20_1 := blk_frozen BK215.out 1
    have hfz20_2 := blk_frozen BK215.out 2
    go_wp2
    refine bodyPost_ret (results_ct rfl _ _ gb215 31 #[.int .i64 0, .int .i64 0, .slice none 0 0] (0, 0) _ rfl (by (with_reducible repeat (first | refine blk_drewN ?_ _ | refine blk_drew ?_ | refine blk_alloc ?_ _)); refine blk_put (cs := #[.int .i64 0, .int .i64 0, .slice none 0 0]) ?_ 2 _ rfl; (with_reducible repeat (first | refine blk_drewN ?_ _ | refine blk_drew ?_ | refine blk_alloc ?_ _)); refine blk_put (cs := #[.int .i64 0, .int .i64 0, .slice none 0 0]) ?_ 1 _ rfl; (with_reducible repeat (first | refine blk_drewN ?_ _ | refine blk_drew ?_ | refine blk_alloc ?_ _)); refine blk_put (cs := #[.int .i64 0, .int .i64 0, .slice none 0 0]) ?_ 0 _ rfl; (with_reducible repeat (first | refine blk_drewN ?_ _ | refine blk_drew ?_ | refine blk_alloc ?_ _)); exact BK215.out) Try.underlying31 rfl (by kernel_rfl)) rfl ?_
    exact ⟨_, by first | rfl | (simp [errW_none, errW_some] <;> rfl) | (simp [*, errW_none, errW_some] <;> rfl), by first | exact Kd.R_nil _ _ _ _ _ | exact Kd.N_nil _ _ _ _ _ | exact Kd.V_nil _ _ _ _ _ | exact Kd.Q_nil _ _ _ _ _ | exact Kd.S_nil _ _ _ _ _, by repeat (first | (with_reducible first | exact HB.out | apply below_alloc | apply pw_below_drewN | apply below_drew1 | refine below_set ?_ GE213.out | refine below_set ?_ GE214.out | refine below_set ?_ GE215.out) | exact HB.out)⟩
   ·replace c17 := Bool.eq_false_iff.mpr c17
    subst c17
    have H1 : ((impl_copyLog.f a0_0 a0_1 l0_2).bind fun bt219 => (if 0 ≤ (wrap64 ((wrap64 (a1 - a0_0)) - 1)) then (if (wrap64 ((wrap64 (a1 - a0_0)) - 1)) ≤ (bt219.2.2.length : Int) then ((some (bt219.2.2.take ((wrap64 ((wrap64 (a1 - a0_0)) - 1)) : Int).toNat : List (S35))).bind fun y225 => (if y225.length < 4398046511104 then ((some (y225 ++ [(⟨a2_0, a2_1, a2_2⟩ : S35)] : List (S35))).bind fun y228 => ((impl_LogOk.f kj3 bt219.1 bt219.2.1 y228).bind fun t231 => (if t231 = true then (some (bt219.1, bt219.2.1, y228, true)) else (some (0, 0, ([] : List (S35)), false))))) else (none))) else (none)) else (none))) = some (r1, r2, r3, r4) := by rw [if_neg (show ¬ (false = true) by decide)] at H; exact H
    clear H
    have H := H1
    clear H1
    replace H := Option.bind_eq_some_iff.mp H
    obtain ⟨⟨t219, t220, t221⟩, A210, H⟩ := H
    replace H : (if 0 ≤ (wrap64 ((wrap64 (a1 - a0_0)) - 1)) then (if (wrap64 ((wrap64 (a1 - a0_0)) - 1)) ≤ (t221.length : Int) then ((some (t221.take ((wrap64 ((wrap64 (a1 - a0_0)) - 1)) : Int).toNat : List (S35))).bind fun y225 => (if y225.length < 4398046511104 then ((some (y225 ++ [(⟨a2_0, a2_1, a2_2⟩ : S35)] : List (S35))).bind fun y228 => ((impl_LogOk.f kj3 t219 t220 y228).bind fun t231 => (if t231 = true then (some (t219, t220, y228, true)) else (some (0, 0, ([] : List (S35)), false))))) else (none))) else (none)) else (none)) = some (r1, r2, r3, r4) := H
    have A21 := Aside0.mk A210
    clear A210
    obtain ⟨ji22, hji22⟩ : ∃ j_ : Int, (wrap64 ((wrap64 (a1 - a0_0)) - 1)) = j_ := ⟨_, rfl⟩
    replace H : (if 0 ≤ (ji22) then (if (ji22) ≤ (t221.length : Int) then ((some (t221.take ((ji22) : Int).toNat : List (S35))).bind fun y225 => (if y225.length < 4398046511104 then ((some (y225 ++ [(⟨a2_0, a2_1, a2_2⟩ : S35)] : List (S35))).bind fun y228 => ((impl_LogOk.f kj3 t219 t220 y228).bind fun t231 => (if t231 = true then (some (t219, t220, y228, true)) else (some (0, 0, ([] : List (S35)), false))))) else (none))) else (none)) else (none)) = some (r1, r2, r3, r4) := by first | (rw [hji22] at H; exact H) | (simp only [hji22] at H ⊢; exact H)
    (try rw [hji22] at A21)
    have hji22w : (IntKind.i64.wrap ((wrap64 (a1 - a0_0)) - 1)) = ji22 := (i64_w _).trans hji22
    by_cases c23 : 0 ≤ (ji22)
    ·rw [if_pos c23] at H
     have c23b0 := eq_true c23
     have c23b1 : decide (0 ≤ (ji22)) = true := decide_eq_true c23
     clear c23
     by_cases c24 : (ji22) ≤ (t221.length : Int)
     ·rw [if_pos c24] at H
      have c24b0 := eq_true c24
      have c24b1 : decide ((ji22) ≤ (t221.length : Int)) = true := decide_eq_true c24
      clear c24
      obtain ⟨y225, hy225⟩ : ∃ y_ : List (S35), y_ = (t221.take ((ji22) : Int).toNat) := ⟨_, rfl⟩
      replace H : (if y225.length < 4398046511104 then ((some (y225 ++ [(⟨a2_0, a2_1, a2_2⟩ : S35)] : List (S35))).bind fun y228 => ((impl_LogOk.f kj3 t219 t220 y228).bind fun t231 => (if t231 = true then (some (t219, t220, y228, true)) else (some (0, 0, ([] : List (S35)), false))))) else (none)) = some (r1, r2, r3, r4) := by first | (rw [hy225]; with_reducible exact H) | (have H2_ := (Option.bind_some _ _).symm.trans H; rw [hy225]; with_reducible exact H2_) | (have H2_ := (Option.bind_some _ _).symm.trans H; with_reducible exact H2_) | with_reducible exact H | (rw [hy225]; exact H) | exact H
      have Ny225 := Aside0.mk hy225
      clear hy225
      by_cases c25 : y225.length < 4398046511104
      ·rw [if_pos c25] at H
       have LMc25 := Aside0.mk c25
       clear c25
       obtain ⟨y228, hy228⟩ : ∃ y_ : List (S35), y_ = (y225 ++ [(⟨a2_0, a2_1, a2_2⟩ : S35)]) := ⟨_, rfl⟩
       replace H : ((impl_LogOk.f kj3 t219 t220 y228).bind fun t231 => (if t231 = true then (some (t219, t220, y228, true)) else (some (0, 0, ([] : List (S35)), false)))) = some (r1, r2, r3, r4) := by first | (rw [hy228]; with_reducible exact H) | (have H2_ := (Option.bind_some _ _).symm.trans H; rw [hy228]; with_reducible exact H2_) | (have H2_ := (Option.bind_some _ _).symm.trans H; with_reducible exact H2_) | with_reducible exact H | (rw [hy228]; exact H) | exact H
       have Ny228 := Aside0.mk hy228
       clear hy228
       replace H := Option.bind_eq_some_iff.mp H
       obtain ⟨t231, A260, H⟩ := H
       replace H : (if t231 = true then (some (t219, t220, y228, true)) else (some (0, 0, ([] : List (S35)), false))) = some (r1, r2, r3, r4) := H
       have A26 := Aside0.mk A260
       clear A260
       by_cases c27 : t231 = true
       ·subst c27
        have H1 : (some (t219, t220, y228, true)) = some (r1, r2, r3, r4) := by rw [if_pos rfl] at H; exact H
        clear H
        have H := H1
        clear H1
        simp only [Option.some.injEq, Prod.mk.injEq] at H
        obtain ⟨rfl, rfl, rfl, rfl⟩ := H
        have hnb28 := NB213_214.out
        have hnc28 := NB214_213.out
        have hnb29 := NB213_215.out
        have hnc29 := NB215_213.out
        have hcz30_0 : wc.cell? ⟨gb213, 0, none⟩ = some (.int .i64 a0_0) := bc_ BK213 0
        have hcz30_1 : wc.cell? ⟨gb213, 1, none⟩ = some (.int .i64 a0_1) := bc_ BK213 1
        have hcz30_2 : wc.cell? ⟨gb213, 2, none⟩ = some (.slice A0_2 l0_2.length c0_2) := bc_ BK213 2
        have hfz30_0 := blk_frozen BK213.out 0
        have hfz30_1 := blk_frozen BK213.out 1
        have hfz30_2 := blk_frozen BK213.out 2
        try go_wp2_with (first | ((with_reducible refine gate_callee (f := 76) rfl ?_); refine goesL_ (some 25) rfl rfl Try.func76 (by kernel_rfl) rfl #[.agg #[.int .i64 a0_0, .int .i64 a0_1, .slice A0_2 l0_2.length c0_2]] rfl (by (try simp only [List.map_toArray, List.map_cons, List.map_nil]); first | done | rfl | (simp only [List.length_drop, List.length_take]; rfl)) ?_; (with_reducible refine (impl_copyLog.calls a0_0 a0_1 _ _ l0_2 t219 t220 t221 _ ?side1 ?side2 A21.out).mono ?_); (case side1 => repeat (first | exact (Kd.C_below HR0_2.out HB.out) | (with_reducible refine Kd.C_alloc ?_ _) | (with_reducible refine Kd.C_drewN ?_ _) | (with_reducible refine Kd.C_drew ?_))); (case side2 => exact HC0_2.out); rintro e w31 ⟨v222, rfl, ho0, hb⟩; refine ⟨_, rfl, ?_⟩; have HO223 := mk_ (Kd.R_lower (Kd.R_newB ho0 (g := gb214) (o := .cells #[.int .i64 a2_0, .int .i64 a2_1, .string a2_2] 35 (0, 0)) (bp_ BK214)) (below_size (bw_ HB))); replace BK213 := bb_ BK213 hb; replace BK214 := bb_ BK214 hb; replace BK215 := bb_ BK215 hb; replace HB := bs_ HB hb; (try clear hb); (try clear ho0)) | ((with_reducible refine gate_dst (N := 8) rfl ?_); refine box_event ?hg (N := 8) ?hd (cs := #[.int .i64 0, .int .i64 0, .slice none 0 0]) (t := 31) ?hr ?_; (case hd => rfl); (case hg => rfl); (case hr => first | (go_simp; done) | (go_simp; rfl)); intro gb224 hg w32 hbox hb; have BK224 := mk_ (hbox); have GW224 : Aside0 (w.heap.size ≤ gb224) := bz_ hg; have GE224 : Aside0 (w.heap.size ≤ gb224) := bz_ hg; have NB213_224 : Aside0 (gb213 ≠ gb224) := bl_ BK213 hg; have NB224_213 : Aside0 (gb224 ≠ gb213) := bg_ BK213 hg; have NB214_224 : Aside0 (gb214 ≠ gb224) := bl_ BK214 hg; have NB224_214 : Aside0 (gb224 ≠ gb214) := bg_ BK214 hg; have NB215_224 : Aside0 (gb215 ≠ gb224) := bl_ BK215 hg; have NB224_215 : Aside0 (gb224 ≠ gb215) := bg_ BK215 hg; replace HO223 := rb_ HO223 hb; replace BK213 := bb_ BK213 hb; replace BK214 := bb_ BK214 hb; replace BK215 := bb_ BK215 hb; replace HB := bs_ HB hb; clear hb hbox hg; have hnb33 := NB224_213.out; have hnc33 := NB213_224.out; have hnb34 := NB224_214.out; have hnc34 := NB214_224.out; have hnb35 := NB224_215.out; have hnc35 := NB215_224.out; have hcz36_0 : w32.cell? ⟨gb224, 0, none⟩ = some (.int .i64 0) := bc_ BK224 0; have hcz36_1 : w32.cell? ⟨gb224, 1, none⟩ = some (.int .i64 0) := bc_ BK224 1; have hcz36_2 : w32.cell? ⟨gb224, 2, none⟩ = some (.slice none 0 0) := bc_ BK224 2; have hfz36_0 := blk_frozen BK224.out 0; have hfz36_1 := blk_frozen BK224.out 1; have hfz36_2 := blk_frozen BK224.out 2; obtain ⟨Ao37, co37, eo37⟩ := Kd.R_slice HO223.out; subst eo37))
        have n0_ : Aside0 (Kd.R k35 35 (((w32.setCell ⟨gb224, 0, none⟩ (.int .i64 t219)).setCell ⟨gb224, 1, none⟩ (.int .i64 t220)).setCell ⟨gb224, 2, none⟩ (.slice Ao37 t221.length co37)) w.heap.size (fun k_ => k_ ≠ gb214) (.slice Ao37 t221.length co37) t221) := ⟨by (with_reducible repeat (first | apply Kd.R_alloc | apply Kd.R_drewN | apply Kd.R_drew)); exact Kd.R_mono (Kd.R_far (p := ⟨gb224, 2, none⟩) (Kd.R_far (p := ⟨gb224, 1, none⟩) (Kd.R_far (p := ⟨gb224, 0, none⟩) (Kd.R_types HO223.out BK224.out (by decide)) (fun _ hk => hk.2) (.int .i64 t219)) (fun _ hk => hk.2) (.int .i64 t220)) (fun _ hk => hk.2) (.slice Ao37 t221.length co37)) (fun _ hk => hk.1.2)⟩
        have n1_ : Aside0 ((((w32.setCell ⟨gb224, 0, none⟩ (.int .i64 t219)).setCell ⟨gb224, 1, none⟩ (.int .i64 t220)).setCell ⟨gb224, 2, none⟩ (.slice Ao37 t221.length co37)).heap[gb213]? = some (.cells #[.int .i64 a0_0, .int .i64 a0_1, .slice A0_2 l0_2.length c0_2] 31 (0, 0))) := ⟨by (with_reducible repeat (first | refine blk_drewN ?_ _ | refine blk_drew ?_ | refine blk_alloc ?_ _)); refine blk_far ?_ NB213_224.out _; (with_reducible repeat (first | refine blk_drewN ?_ _ | refine blk_drew ?_ | refine blk_alloc ?_ _)); refine blk_far ?_ NB213_224.out _; (with_reducible repeat (first | refine blk_drewN ?_ _ | refine blk_drew ?_ | refine blk_alloc ?_ _)); refine blk_far ?_ NB213_224.out _; (with_reducible repeat (first | refine blk_drewN ?_ _ | refine blk_drew ?_ | refine blk_alloc ?_ _)); exact BK213.out⟩
        have n2_ : Aside0 ((((w32.setCell ⟨gb224, 0, none⟩ (.int .i64 t219)).setCell ⟨gb224, 1, none⟩ (.int .i64 t220)).setCell ⟨gb224, 2, none⟩ (.slice Ao37 t221.length co37)).heap[gb214]? = some (.cells #[.int .i64 a2_0, .int .i64 a2_1, .string a2_2] 35 (0, 0))) := ⟨by (with_reducible repeat (first | refine blk_drewN ?_ _ | refine blk_drew ?_ | refine blk_alloc ?_ _)); refine blk_far ?_ NB214_224.out _; (with_reducible repeat (first | refine blk_drewN ?_ _ | refine blk_drew ?_ | refine blk_alloc ?_ _)); refine blk_far ?_ NB214_224.out _; (with_reducible repeat (first | refine blk_drewN ?_ _ | refine blk_drew ?_ | refine blk_alloc ?_ _)); refine blk_far ?_ NB214_224.out _; (with_reducible repeat (first | refine blk_drewN ?_ _ | refine blk_drew ?_ | refine blk_alloc ?_ _)); exact BK214.out⟩
        have n3_ : Aside0 ((((w32.setCell ⟨gb224, 0, none⟩ (.int .i64 t219)).setCell ⟨gb224, 1, none⟩ (.int .i64 t220)).setCell ⟨gb224, 2, none⟩ (.slice Ao37 t221.length co37)).heap[gb215]? = some (.cells #[.int .i64 0, .int .i64 0, .slice none 0 0] 31 (0, 0))) := ⟨by (with_reducible repeat (first | refine blk_drewN ?_ _ | refine blk_drew ?_ | refine blk_alloc ?_ _)); refine blk_far ?_ NB215_224.out _; (with_reducible repeat (first | refine blk_drewN ?_ _ | refine blk_drew ?_ | refine blk_alloc ?_ _)); refine blk_far ?_ NB215_224.out _; (with_reducible repeat (first | refine blk_drewN ?_ _ | refine blk_drew ?_ | refine blk_alloc ?_ _)); refine blk_far ?_ NB215_224.out _; (with_reducible repeat (first | refine blk_drewN ?_ _ | refine blk_drew ?_ | refine blk_alloc ?_ _)); exact BK215.out⟩
        have n4_ : Aside0 ((((w32.setCell ⟨gb224, 0, none⟩ (.int .i64 t219)).setCell ⟨gb224, 1, none⟩ (.int .i64 t220)).setCell ⟨gb224, 2, none⟩ (.slice Ao37 t221.length co37)).heap[gb224]? = some (.cells #[.int .i64 t219, .int .i64 t220, .slice Ao37 t221.length co37] 31 (0, 0))) := ⟨by (with_reducible repeat (first | refine blk_drewN ?_ _ | refine blk_drew ?_ | refine blk_alloc ?_ _)); refine blk_put (cs := #[.int .i64 t219, .int .i64 t220, .slice none 0 0]) ?_ 2 _ rfl; (with_reducible repeat (first | refine blk_drewN ?_ _ | refine blk_drew ?_ | refine blk_alloc ?_ _)); refine blk_put (cs := #[.int .i64 t219, .int .i64 0, .slice none 0 0]) ?_ 1 _ rfl; (with_reducible repeat (first | refine blk_drewN ?_ _ | refine blk_drew ?_ | refine blk_alloc ?_ _)); refine blk_put (cs := #[.int .i64 0, .int .i64 0, .slice none 0 0]) ?_ 0 _ rfl; (with_reducible repeat (first | refine blk_drewN ?_ _ | refine blk_drew ?_ | refine blk_alloc ?_ _)); exact BK224.out⟩
        have n5_ : Aside0 (Below w.heap.size w (((w32.setCell ⟨gb224, 0, none⟩ (.int .i64 t219)).setCell ⟨gb224, 1, none⟩ (.int .i64 t220)).setCell ⟨gb224, 2, none⟩ (.slice Ao37 t221.length co37))) := ⟨by repeat (first | (with_reducible first | exact HB.out | apply below_alloc | apply pw_below_drewN | apply below_drew1 | refine below_set ?_ GE213.out | refine below_set ?_ GE214.out | refine below_set ?_ GE215.out | refine below_set ?_ GE224.out) | exact HB.out)⟩
        (try clear HO223); (try clear BK213); (try clear BK214); (try clear BK215); (try clear BK224); (try clear HB)
        generalize (((w32.setCell ⟨gb224, 0, none⟩ (.int .i64 t219)).setCell ⟨gb224, 1, none⟩ (.int .i64 t220)).setCell ⟨gb224, 2, none⟩ (.slice Ao37 t221.length co37)) = w38 at n0_ n1_ n2_ n3_ n4_ n5_ ⊢
        have HO223 := n0_; have BK213 := n1_; have BK214 := n2_; have BK215 := n3_; have BK224 := n4_; have HB := n5_; clear n0_ n1_ n2_ n3_ n4_ n5_
        have n0_ := mk_ (Kd.R_drew HO223.out)
        have n1_ := mk_ (blk_drew BK213.out)
        have n2_ := mk_ (blk_drew BK214.out)
        have n3_ := mk_ (blk_drew BK215.out)
        have n4_ := mk_ (blk_drew BK224.out)
        have n5_ := mk_ (below_drew1 HB.out)
        clear HO223; clear BK213; clear BK214; clear BK215; clear BK224; clear HB; have HO223 := n0_; have BK213 := n1_; have BK214 := n2_; have BK215 := n3_; have BK224 := n4_; have HB := n5_; clear n0_ n1_ n2_ n3_ n4_ n5_
        have q40 : ((ji22) : Int) ≤ ((t221.length : Int) : Int) := of_decide_eq_true (by first | (with_reducible assumption) | assumption)
        obtain ⟨i040, hi040, _, hsz40, _⟩ := info_parts info35
        have hcut40 := cut_to (P := Try.prog) 29 35 .i64 Try.underlying29 hi040 Ao37 t221.length co37 (ji22) (of_decide_eq_true (by first | (with_reducible assumption) | assumption)) q40 (Kd.R_reads' HO223.out).2.1
        have hr40 := Kd.R_take (m := ((ji22) : Int).toNat) HO223.out (by omega)
        have hy40 : y225.length = ((ji22) : Int).toNat := (by rw [Ny225.out, List.length_take]; omega)
        rw [← Ny225.out] at hr40
        rw [← hy40] at hr40 hcut40
        clear hy40 hi040 hsz40 HO223
        have HO227 := Aside0.mk hr40
        clear hr40
        replace q40 := eq_true q40
        refine start_ (n := 13) (S := fun w' => w'.cell? ⟨gb224, 0, none⟩ = some (.int .i64 t219) ∧ w'.cell? ⟨gb224, 1, none⟩ = some (.int .i64 t220) ∧ w'.cell? ⟨gb224, 2, none⟩ = some (.slice Ao37 t221.length co37) ∧ w'.cell? ⟨gb213, 0, none⟩ = some (.int .i64 a0_0) ∧ w'.cell? ⟨gb213, 1, none⟩ = some (.int .i64 a0_1) ∧ w'.cell? ⟨gb213, 2, none⟩ = some (.slice A0_2 l0_2.length c0_2) ∧ w'.cell? ⟨gb214, 0, none⟩ = some (.int .i64 a2_0) ∧ w'.cell? ⟨gb214, 1, none⟩ = some (.int .i64 a2_1) ∧ w'.cell? ⟨gb214, 2, none⟩ = some (.string a2_2)) (ds := [12]) #[false, false, false, false, false, false, false, false, false, false, false, false, false] (by kernel_rfl) rfl rfl ⟨bc_ BK224 0, bc_ BK224 1, bc_ BK224 2, bc_ BK213 0, bc_ BK213 1, bc_ BK213 2, bc_ BK214 0, bc_ BK214 1, bc_ BK214 2⟩ (fun hHeld => ?_); refine with_tabW impl_LogPut.tab4 impl_LogPut.bits4 (fun HT_ HW_ => ?_)
        generalize w38.drew = w39 at BK213 BK214 BK215 BK224 HB HO227 hHeld ⊢
        refine pure_ (i := 0) (N := some 26) (v := ?_) (a' := ?_) #[true, false, false, false, false, false, false, false, false, false, false, false, false] rfl rfl (any_of HT_.out (by kernel_rfl)) (fun _ _ _ h => h) (Or.inl ⟨by rfl, ?_⟩) ?_ ?_
        rotate_left
        ·intro w'
         go_simp
         with_reducible rfl
        rotate_left
        ·simp only [Act.put, sia_, scz_, scs_, i64_w, i32_w]
         rfl
        refine pure_ (i := 2) (N := some 28) (v := ?_) (a' := ?_) #[true, false, true, false, false, false, false, false, false, false, false, false, false] rfl rfl (any_of HT_.out (by kernel_rfl)) (fun _ _ _ h => h) (Or.inl ⟨by rfl, ?_⟩) ?_ ?_
        rotate_left
        ·intro w'
         go_simp
         with_reducible rfl
        rotate_left
        ·simp only [Act.put, sia_, scz_, scs_, i64_w, i32_w]
         rfl
        refine pure_ (i := 3) (N := some 29) (v := ?_) (a' := ?_) #[true, false, true, true, false, false, false, false, false, false, false, false, false] rfl rfl (any_of HT_.out (by kernel_rfl)) (fun _ _ _ h => h) (Or.inl ⟨by rfl, ?_⟩) ?_ ?_
        rotate_left
        ·intro w'
         go_simp
         with_reducible rfl
        rotate_left
        ·simp only [Act.put, sia_, scz_, scs_, i64_w, i32_w]
         rfl
        refine take_ (i := 1) (N := some 27) (v := ?_) (a' := ?_) #[true, true, true, true, false, false, false, false, false, false, false, false, false] rfl rfl (take_ofW HT_.out HW_.out (by kernel_rfl)) (fun _ _ _ h => h) (Or.inl ⟨by rfl, ?_⟩) hHeld ?_ ?_
        rotate_left
        ·rintro w' ⟨s0, s1, s2, s3, s4, s5, s6, s7, s8⟩
         go_simp
         with_reducible rfl
        rotate_left
        ·simp only [Act.put, sia_, scz_, scs_, i64_w, i32_w]
         rfl
        refine take_ (i := 4) (N := some 30) (v := ?_) (a' := ?_) #[true, true, true, true, true, false, false, false, false, false, false, false, false] rfl rfl (take_ofW HT_.out HW_.out (by kernel_rfl)) (fun _ _ _ h => h) (Or.inl ⟨by rfl, ?_⟩) hHeld ?_ ?_
        rotate_left
        ·rintro w' ⟨s0, s1, s2, s3, s4, s5, s6, s7, s8⟩
         go_simp
         with_reducible rfl
        rotate_left
        ·simp only [Act.put, sia_, scz_, scs_, i64_w, i32_w]
         rfl
        refine pure_ (i := 5) (N := some 31) (v := ?_) (a' := ?_) #[true, true, true, true, true, true, false, false, false, false, false, false, false] rfl rfl (any_of HT_.out (by kernel_rfl)) (fun _ _ _ h => h) (Or.inl ⟨by rfl, ?_⟩) ?_ ?_
        rotate_left
        ·intro w'
         go_simp
         with_reducible rfl
        rotate_left
        ·simp only [Act.put, sia_, scz_, scs_, i64_w, i32_w]
         rfl
        refine pure_ (i := 6) (N := some 32) (v := ?_) (a' := ?_) #[true, true, true, true, true, true, true, false, false, false, false, false, false] rfl rfl (any_of HT_.out (by kernel_rfl)) (fun _ _ _ h => h) (Or.inl ⟨by rfl, ?_⟩) ?_ ?_
        rotate_left
        ·intro w'
         go_simp
         with_reducible rfl
        rotate_left
        ·simp only [Act.put, sia_, scz_, scs_, i64_w, i32_w]
         rfl
        refine pure_ (i := 7) (N := some 33) (v := ?_) (a' := ?_) #[true, true, true, true, true, true, true, true, false, false, false, false, false] rfl rfl (any_of HT_.out (by kernel_rfl)) (fun _ _ _ h => h) (Or.inl ⟨by rfl, ?_⟩) ?_ ?_
        rotate_left
        ·intro w'
         go_simp
         with_reducible rfl
        rotate_left
        ·simp only [Act.put, sia_, scz_, scs_, i64_w, i32_w]
         rfl
        refine take_ (i := 8) (N := some 34) (v := ?_) (a' := ?_) #[true, true, true, true, true, true, true, true, true, false, false, false, false] rfl rfl (take_ofW HT_.out HW_.out (by kernel_rfl)) (fun _ _ _ h => h) (Or.inl ⟨by rfl, ?_⟩) hHeld ?_ ?_
        rotate_left
        ·rintro w' ⟨s0, s1, s2, s3, s4, s5, s6, s7, s8⟩
         go_simp
         with_reducible rfl
        rotate_left
        ·simp only [Act.put, sia_, scz_, scs_, i64_w, i32_w]
         rfl
        refine one_ (i := 9) (N := some 35) #[true, true, true, true, true, true, true, true, true, true, false, false, false] rfl rfl (one_of HT_.out (by kernel_rfl)) (by decide) (fun K hK => ?_)
        refine value_ (w1 := ?_) (v := ?_) (by rfl) rfl ?_ ?_
        rotate_left 2
        ·go_simp
         constructor
         ·rfl
         ·rfl
        refine hK.out _ _ ⟨(blk_cell (blk_alloc BK224.out _) 0).trans rfl, (blk_cell (blk_alloc BK224.out _) 1).trans rfl, (blk_cell (blk_alloc BK224.out _) 2).trans rfl, (blk_cell (blk_alloc BK213.out _) 0).trans rfl, (blk_cell (blk_alloc BK213.out _) 1).trans rfl, (blk_cell (blk_alloc BK213.out _) 2).trans rfl, (blk_cell (blk_alloc BK214.out _) 0).trans rfl, (blk_cell (blk_alloc BK214.out _) 1).trans rfl, (blk_cell (blk_alloc BK214.out _) 2).trans rfl⟩ (fun hHeld => ?_)
        clear hK K
        refine norm_ (a' := ?_) ?_ ?_
        rotate_left
        ·show Act.put _ (some 35) _ = _
         simp only [Act.put, sia_, scz_, scs_, i64_w, i32_w]
         rfl
        refine one_ (i := 10) (N := some 36) #[true, true, true, true, true, true, true, true, true, true, true, false, false] rfl rfl (one_of HT_.out (by kernel_rfl)) (by decide) (fun K hK => ?_)
        refine Kd.R_append_step k35 (w0 := w) w.heap.size (by rfl) (.tmp 33) (.tmp 35) 29 35 (.agg #[(.int .i64 0), (.int .i64 0), (.string ⟨#[]⟩)]) 32 rfl Try.underlying29 info35 rfl (by decide) (by omega) (.slice Ao37 y225.length co37) y225 (⟨a2_0, a2_1, a2_2⟩ : S35) [.int .i64 a2_0, .int .i64 a2_1, .string a2_2] (fun k_ => k_ ≠ gb214) (fun _ => False) rfl rfl ?aP (fun _ hk => hk.elim) ?aF ?aO ?aB ?aS ?aL ?_
        (case aP => exact k35_mkM _ _ _ (⟨a2_0, a2_1, a2_2⟩ : S35))
        (case aB => exact (bw_ HB))
        (case aF => exact (fun k_ hk => Kd.freshB (g := gb214) (o := .cells #[.int .i64 a2_0, .int .i64 a2_1, .string a2_2] 35 (0, 0)) (bp_ BK214) k_ hk))
        (case aO => exact (rp_ HO227))
        (case aS => exact (below_size (bw_ HB)))
        (case aL => have := LMc25.out; omega)
        intro v229 w41 ho hb hg hat
        rw [← Ny228.out] at ho
        have n0_ := mk_ (blk_grown (g := gb213) (o := .cells #[.int .i64 a0_0, .int .i64 a0_1, .slice A0_2 l0_2.length c0_2] 31 (0, 0)) (bp_ BK213) hg (Kd.R_ne HO227.out BK213.out (by decide)))
        have n1_ := mk_ (blk_grown (g := gb214) (o := .cells #[.int .i64 a2_0, .int .i64 a2_1, .string a2_2] 35 (0, 0)) (bp_ BK214) hg (Kd.R_away HO227.out (fun _ hk => hk)))
        have n2_ := mk_ (blk_grown (g := gb215) (o := .cells #[.int .i64 0, .int .i64 0, .slice none 0 0] 31 (0, 0)) (bp_ BK215) hg (Kd.R_ne HO227.out BK215.out (by decide)))
        have n3_ := mk_ (blk_grown (g := gb224) (o := .cells #[.int .i64 t219, .int .i64 t220, .slice Ao37 t221.length co37] 31 (0, 0)) (bp_ BK224) hg (Kd.R_ne HO227.out BK224.out (by decide)))
        have n4_ := mk_ (hb)
        have n5_ := mk_ (ho)
        clear BK213; clear BK214; clear BK215; clear BK224; clear HB; clear HO227; have BK213 := n0_; have BK214 := n1_; have BK215 := n2_; have BK224 := n3_; have HB := n4_; have HO230 := n5_; clear n0_ n1_ n2_ n3_ n4_ n5_; clear ho hb hg hat
        obtain ⟨Ao42, co42, eo42⟩ := Kd.R_slice HO230.out
        (first | subst eo42 | (injection eo42 with f1_ f2_ f3_; have f4_ := f1_.symm; have f5_ := f3_.symm; clear f1_ f2_ f3_; subst f4_; subst f5_))
        refine hK.out _ _ ⟨bc_ BK224 0, bc_ BK224 1, bc_ BK224 2, bc_ BK213 0, bc_ BK213 1, bc_ BK213 2, bc_ BK214 0, bc_ BK214 1, bc_ BK214 2⟩ (fun hHeld => ?_)
        clear hK K
        refine norm_ (a' := ?_) ?_ ?_
        rotate_left
        ·show Act.put _ (some 36) _ = _
         simp only [Act.put, sia_, scz_, scs_, i64_w, i32_w]
         rfl
        refine pure_ (i := 11) (N := some 37) (v := ?_) (a' := ?_) #[true, true, true, true, true, true, true, true, true, true, true, true, false] rfl rfl (any_of HT_.out (by kernel_rfl)) (fun _ _ _ h => h) (Or.inl ⟨by rfl, ?_⟩) ?_ ?_
        rotate_left
        ·intro w'
         go_simp
         with_reducible rfl
        rotate_left
        ·simp only [Act.put, sia_, scz_, scs_, i64_w, i32_w]
         rfl
        refine last_ (i := 12) (N := none) #[true, true, true, true, true, true, true, true, true, true, true, true, true] rfl rfl (one_of HT_.out (by kernel_rfl)) (by decide) (fun K hK => ?_)
        have hs43 : w41.cell? ⟨gb224, 2, none⟩ = some (.slice Ao37 t221.length co37) := bc_ BK224 2
        have hfs43 := blk_frozen BK224.out 2
        have hns43_0 := NB213_224.out
        have hns43_1 := NB214_224.out
        have hns43_2 := NB215_224.out
        have hms43_0 := NB224_213.out
        have hms43_1 := NB224_214.out
        have hms43_2 := NB224_215.out
        refine skip_ (w1 := ?_) (by rfl) rfl ?_ ?_
        rotate_left
        ·go_simp
         rfl
        refine hK.out _ _ ?_
        clear hK K
        refine done_ (done_of HT_.out (by kernel_rfl)) ?_
        have hcz44_0 : w41.cell? ⟨gb224, 0, none⟩ = some (.int .i64 t219) := bc_ BK224 0
        have hcz44_1 : w41.cell? ⟨gb224, 1, none⟩ = some (.int .i64 t220) := bc_ BK224 1
        have hcz44_2 : w41.cell? ⟨gb224, 2, none⟩ = some (.slice Ao37 t221.length co37) := bc_ BK224 2
        have hfz44_0 := blk_frozen BK224.out 0
        have hfz44_1 := blk_frozen BK224.out 1
        have hfz44_2 := blk_frozen BK224.out 2
        try go_wp2_with (first | ((with_reducible refine gate_callee (f := 73) rfl ?_); refine goesL_ (some 39) rfl rfl Try.func73 (by kernel_rfl) rfl #[.agg #[.int .i64 t219, .int .i64 t220, .slice Ao42 y228.length co42]] rfl (by (try simp only [List.map_toArray, List.map_cons, List.map_nil]); first | done | rfl | (simp only [List.length_drop, List.length_take]; rfl)) ?_; (with_reducible refine (impl_LogOk.calls kj3 t219 t220 _ _ y228 true _ ?side1 ?side2 A26.out).mono ?_); (case side1 => refine (Kd.R_reads' (e := 35) (base := w.heap.size) (ok := fun k_ => k_ ≠ gb214) (n := y228.length) (c := co42) ?_).2.2; exact (by (with_reducible repeat (first | apply Kd.R_alloc | apply Kd.R_drewN | apply Kd.R_drew)); exact (Kd.R_mono (Kd.R_far (p := ⟨gb224, 2, none⟩) (Kd.R_types HO230.out BK224.out (by decide)) (fun _ hk => hk.2) (.slice Ao42 y228.length co42)) (fun _ h_ => h_.1)))); (case side2 => exact (Kd.R_reads' HO230.out).2.1); rintro e w45 ⟨rfl, hb⟩; refine ⟨_, rfl, ?_⟩; replace HO230 := mk_ (Kd.R_below (by (with_reducible repeat (first | apply Kd.R_alloc | apply Kd.R_drewN | apply Kd.R_drew)); exact (Kd.R_mono (Kd.R_far (p := ⟨gb224, 2, none⟩) (Kd.R_types HO230.out BK224.out (by decide)) (fun _ hk => hk.2) (.slice Ao42 y228.length co42)) (fun _ h_ => h_.1))) hb); replace BK213 := mk_ (blk_below (g := gb213) (o := .cells #[.int .i64 a0_0, .int .i64 a0_1, .slice A0_2 l0_2.length c0_2] 31 (0, 0)) (by (with_reducible repeat (first | refine blk_drewN ?_ _ | refine blk_drew ?_ | refine blk_alloc ?_ _)); refine blk_far ?_ NB213_224.out _; (with_reducible repeat (first | refine blk_drewN ?_ _ | refine blk_drew ?_ | refine blk_alloc ?_ _)); exact BK213.out) hb); replace BK214 := mk_ (blk_below (g := gb214) (o := .cells #[.int .i64 a2_0, .int .i64 a2_1, .string a2_2] 35 (0, 0)) (by (with_reducible repeat (first | refine blk_drewN ?_ _ | refine blk_drew ?_ | refine blk_alloc ?_ _)); refine blk_far ?_ NB214_224.out _; (with_reducible repeat (first | refine blk_drewN ?_ _ | refine blk_drew ?_ | refine blk_alloc ?_ _)); exact BK214.out) hb); replace BK215 := mk_ (blk_below (g := gb215) (o := .cells #[.int .i64 0, .int .i64 0, .slice none 0 0] 31 (0, 0)) (by (with_reducible repeat (first | refine blk_drewN ?_ _ | refine blk_drew ?_ | refine blk_alloc ?_ _)); refine blk_far ?_ NB215_224.out _; (with_reducible repeat (first | refine blk_drewN ?_ _ | refine blk_drew ?_ | refine blk_alloc ?_ _)); exact BK215.out) hb); replace BK224 := mk_ (blk_below (g := gb224) (o := .cells #[.int .i64 t219, .int .i64 t220, .slice Ao42 y228.length co42] 31 (0, 0)) (by (with_reducible repeat (first | refine blk_drewN ?_ _ | refine blk_drew ?_ | refine blk_alloc ?_ _)); refine blk_put (cs := #[.int .i64 t219, .int .i64 t220, .slice Ao37 t221.length co37]) ?_ 2 _ rfl; (with_reducible repeat (first | refine blk_drewN ?_ _ | refine blk_drew ?_ | refine blk_alloc ?_ _)); exact BK224.out) hb); replace HB := bs_ HB hb; (try clear hb); (try clear hk); have hcz46_0 : w45.cell? ⟨gb224, 0, none⟩ = some (.int .i64 t219) := bc_ BK224 0; have hcz46_1 : w45.cell? ⟨gb224, 1, none⟩ = some (.int .i64 t220) := bc_ BK224 1; have hcz46_2 : w45.cell? ⟨gb224, 2, none⟩ = some (.slice Ao42 y228.length co42) := bc_ BK224 2; have hfz46_0 := blk_frozen BK224.out 0; have hfz46_1 := blk_frozen BK224.out 1; have hfz46_2 := blk_frozen BK224.out 2; have hnb47 := NB215_214.out; have hnc47 := NB214_215.out; have hcz48_0 : w45.cell? ⟨gb215, 0, none⟩ = some (.int .i64 0) := bc_ BK215 0; have hcz48_1 : w45.cell? ⟨gb215, 1, none⟩ = some (.int .i64 0) := bc_ BK215 1; have hcz48_2 : w45.cell? ⟨gb215, 2, none⟩ = some (.slice none 0 0) := bc_ BK215 2; have hfz48_0 := blk_frozen BK215.out 0; have hfz48_1 := blk_frozen BK215.out 1; have hfz48_2 := blk_frozen BK215.out 2))
        refine bodyPost_ret (results_ct rfl _ _ gb215 31 #[.int .i64 t219, .int .i64 t220, .slice Ao42 y228.length co42] (0, 0) _ rfl (by (with_reducible repeat (first | refine blk_drewN ?_ _ | refine blk_drew ?_ | refine blk_alloc ?_ _)); refine blk_put (cs := #[.int .i64 t219, .int .i64 t220, .slice none 0 0]) ?_ 2 _ rfl; (with_reducible repeat (first | refine blk_drewN ?_ _ | refine blk_drew ?_ | refine blk_alloc ?_ _)); refine blk_put (cs := #[.int .i64 t219, .int .i64 0, .slice none 0 0]) ?_ 1 _ rfl; (with_reducible repeat (first | refine blk_drewN ?_ _ | refine blk_drew ?_ | refine blk_alloc ?_ _)); refine blk_put (cs := #[.int .i64 0, .int .i64 0, .slice none 0 0]) ?_ 0 _ rfl; (with_reducible repeat (first | refine blk_drewN ?_ _ | refine blk_drew ?_ | refine blk_alloc ?_ _)); exact BK215.out) Try.underlying31 rfl (by kernel_rfl)) rfl ?_
        exact ⟨_, by first | rfl | (simp [errW_none, errW_some] <;> rfl) | (simp only [← hji22]; first | rfl | (simp [errW_none, errW_some] <;> rfl)) | (simp [*, errW_none, errW_some] <;> rfl), by (with_reducible repeat (first | apply Kd.R_alloc | apply Kd.R_drewN | apply Kd.R_drew)); exact Kd.R_mono (Kd.R_far (p := ⟨gb215, 2, none⟩) (Kd.R_far (p := ⟨gb215, 1, none⟩) (Kd.R_far (p := ⟨gb215, 0, none⟩) (Kd.R_types HO230.out BK215.out (by decide)) (fun _ hk => hk.2) (.int .i64 t219)) (fun _ hk => hk.2) (.int .i64 t220)) (fun _ hk => hk.2) (.slice Ao42 y228.length co42)) (fun _ hk => trivial), by repeat (first | (with_reducible first | exact HB.out | apply below_alloc | apply pw_below_drewN | apply below_drew1 | refine below_set ?_ GE213.out | refine below_set ?_ GE214.out | refine below_set ?_ GE215.out | refine below_set ?_ GE224.out) | exact HB.out)⟩
       ·replace c27 := Bool.eq_false_iff.mpr c27
        subst c27
        have H1 : (some (0, 0, ([] : List (S35)), false)) = some (r1, r2, r3, r4) := by rw [if_neg (show ¬ (false = true) by decide)] at H; exact H
        clear H
        have H := H1
        clear H1
        simp only [Option.some.injEq, Prod.mk.injEq] at H
        obtain ⟨rfl, rfl, rfl, rfl⟩ := H
        have hnb49 := NB213_214.out
        have hnc49 := NB214_213.out
        have hnb50 := NB213_215.out
        have hnc50 := NB215_213.out
        have hcz51_0 : wc.cell? ⟨gb213, 0, none⟩ = some (.int .i64 a0_0) := bc_ BK213 0
        have hcz51_1 : wc.cell? ⟨gb213, 1, none⟩ = some (.int .i64 a0_1) := bc_ BK213 1
        have hcz51_2 : wc.cell? ⟨gb213, 2, none⟩ = some (.slice A0_2 l0_2.length c0_2) := bc_ BK213 2
        have hfz51_0 := blk_frozen BK213.out 0
        have hfz51_1 := blk_frozen BK213.out 1
        have hfz51_2 := blk_frozen BK213.out 2
        try go_wp2_with (first | ((with_reducible refine gate_callee (f := 76) rfl ?_); refine goesL_ (some 25) rfl rfl Try.func76 (by kernel_rfl) rfl #[.agg #[.int .i64 a0_0, .int .i64 a0_1, .slice A0_2 l0_2.length c0_2]] rfl (by (try simp only [List.map_toArray, List.map_cons, List.map_nil]); first | done | rfl | (simp only [List.length_drop, List.length_take]; rfl)) ?_; (with_reducible refine (impl_copyLog.calls a0_0 a0_1 _ _ l0_2 t219 t220 t221 _ ?side1 ?side2 A21.out).mono ?_); (case side1 => repeat (first | exact (Kd.C_below HR0_2.out HB.out) | (with_reducible refine Kd.C_alloc ?_ _) | (with_reducible refine Kd.C_drewN ?_ _) | (with_reducible refine Kd.C_drew ?_))); (case side2 => exact HC0_2.out); rintro e w52 ⟨v222, rfl, ho0, hb⟩; refine ⟨_, rfl, ?_⟩; have HO223 := mk_ (Kd.R_lower (Kd.R_newB ho0 (g := gb214) (o := .cells #[.int .i64 a2_0, .int .i64 a2_1, .string a2_2] 35 (0, 0)) (bp_ BK214)) (below_size (bw_ HB))); replace BK213 := bb_ BK213 hb; replace BK214 := bb_ BK214 hb; replace BK215 := bb_ BK215 hb; replace HB := bs_ HB hb; (try clear hb); (try clear ho0)) | ((with_reducible refine gate_dst (N := 8) rfl ?_); refine box_event ?hg (N := 8) ?hd (cs := #[.int .i64 0, .int .i64 0, .slice none 0 0]) (t := 31) ?hr ?_; (case hd => rfl); (case hg => rfl); (case hr => first | (go_simp; done) | (go_simp; rfl)); intro gb224 hg w53 hbox hb; have BK224 := mk_ (hbox); have GW224 : Aside0 (w.heap.size ≤ gb224) := bz_ hg; have GE224 : Aside0 (w.heap.size ≤ gb224) := bz_ hg; have NB213_224 : Aside0 (gb213 ≠ gb224) := bl_ BK213 hg; have NB224_213 : Aside0 (gb224 ≠ gb213) := bg_ BK213 hg; have NB214_224 : Aside0 (gb214 ≠ gb224) := bl_ BK214 hg; have NB224_214 : Aside0 (gb224 ≠ gb214) := bg_ BK214 hg; have NB215_224 : Aside0 (gb215 ≠ gb224) := bl_ BK215 hg; have NB224_215 : Aside0 (gb224 ≠ gb215) := bg_ BK215 hg; replace HO223 := rb_ HO223 hb; replace BK213 := bb_ BK213 hb; replace BK214 := bb_ BK214 hb; replace BK215 := bb_ BK215 hb; replace HB := bs_ HB hb; clear hb hbox hg; have hnb54 := NB224_213.out; have hnc54 := NB213_224.out; have hnb55 := NB224_214.out; have hnc55 := NB214_224.out; have hnb56 := NB224_215.out; have hnc56 := NB215_224.out; have hcz57_0 : w53.cell? ⟨gb224, 0, none⟩ = some (.int .i64 0) := bc_ BK224 0; have hcz57_1 : w53.cell? ⟨gb224, 1, none⟩ = some (.int .i64 0) := bc_ BK224 1; have hcz57_2 : w53.cell? ⟨gb224, 2, none⟩ = some (.slice none 0 0) := bc_ BK224 2; have hfz57_0 := blk_frozen BK224.out 0; have hfz57_1 := blk_frozen BK224.out 1; have hfz57_2 := blk_frozen BK224.out 2; obtain ⟨Ao58, co58, eo58⟩ := Kd.R_slice HO223.out; subst eo58))
        have n0_ : Aside0 (Kd.R k35 35 (((w53.setCell ⟨gb224, 0, none⟩ (.int .i64 t219)).setCell ⟨gb224, 1, none⟩ (.int .i64 t220)).setCell ⟨gb224, 2, none⟩ (.slice Ao58 t221.length co58)) w.heap.size (fun k_ => k_ ≠ gb214) (.slice Ao58 t221.length co58) t221) := ⟨by (with_reducible repeat (first | apply Kd.R_alloc | apply Kd.R_drewN | apply Kd.R_drew)); exact Kd.R_mono (Kd.R_far (p := ⟨gb224, 2, none⟩) (Kd.R_far (p := ⟨gb224, 1, none⟩) (Kd.R_far (p := ⟨gb224, 0, none⟩) (Kd.R_types HO223.out BK224.out (by decide)) (fun _ hk => hk.2) (.int .i64 t219)) (fun _ hk => hk.2) (.int .i64 t220)) (fun _ hk => hk.2) (.slice Ao58 t221.length co58)) (fun _ hk => hk.1.2)⟩
        have n1_ : Aside0 ((((w53.setCell ⟨gb224, 0, none⟩ (.int .i64 t219)).setCell ⟨gb224, 1, none⟩ (.int .i64 t220)).setCell ⟨gb224, 2, none⟩ (.slice Ao58 t221.length co58)).heap[gb213]? = some (.cells #[.int .i64 a0_0, .int .i64 a0_1, .slice A0_2 l0_2.length c0_2] 31 (0, 0))) := ⟨by (with_reducible repeat (first | refine blk_drewN ?_ _ | refine blk_drew ?_ | refine blk_alloc ?_ _)); refine blk_far ?_ NB213_224.out _; (with_reducible repeat (first | refine blk_drewN ?_ _ | refine blk_drew ?_ | refine blk_alloc ?_ _)); refine blk_far ?_ NB213_224.out _; (with_reducible repeat (first | refine blk_drewN ?_ _ | refine blk_drew ?_ | refine blk_alloc ?_ _)); refine blk_far ?_ NB213_224.out _; (with_reducible repeat (first | refine blk_drewN ?_ _ | refine blk_drew ?_ | refine blk_alloc ?_ _)); exact BK213.out⟩
        have n2_ : Aside0 ((((w53.setCell ⟨gb224, 0, none⟩ (.int .i64 t219)).setCell ⟨gb224, 1, none⟩ (.int .i64 t220)).setCell ⟨gb224, 2, none⟩ (.slice Ao58 t221.length co58)).heap[gb214]? = some (.cells #[.int .i64 a2_0, .int .i64 a2_1, .string a2_2] 35 (0, 0))) := ⟨by (with_reducible repeat (first | refine blk_drewN ?_ _ | refine blk_drew ?_ | refine blk_alloc ?_ _)); refine blk_far ?_ NB214_224.out _; (with_reducible repeat (first | refine blk_drewN ?_ _ | refine blk_drew ?_ | refine blk_alloc ?_ _)); refine blk_far ?_ NB214_224.out _; (with_reducible repeat (first | refine blk_drewN ?_ _ | refine blk_drew ?_ | refine blk_alloc ?_ _)); refine blk_far ?_ NB214_224.out _; (with_reducible repeat (first | refine blk_drewN ?_ _ | refine blk_drew ?_ | refine blk_alloc ?_ _)); exact BK214.out⟩
        have n3_ : Aside0 ((((w53.setCell ⟨gb224, 0, none⟩ (.int .i64 t219)).setCell ⟨gb224, 1, none⟩ (.int .i64 t220)).setCell ⟨gb224, 2, none⟩ (.slice Ao58 t221.length co58)).heap[gb215]? = some (.cells #[.int .i64 0, .int .i64 0, .slice none 0 0] 31 (0, 0))) := ⟨by (with_reducible repeat (first | refine blk_drewN ?_ _ | refine blk_drew ?_ | refine blk_alloc ?_ _)); refine blk_far ?_ NB215_224.out _; (with_reducible repeat (first | refine blk_drewN ?_ _ | refine blk_drew ?_ | refine blk_alloc ?_ _)); refine blk_far ?_ NB215_224.out _; (with_reducible repeat (first | refine blk_drewN ?_ _ | refine blk_drew ?_ | refine blk_alloc ?_ _)); refine blk_far ?_ NB215_224.out _; (with_reducible repeat (first | refine blk_drewN ?_ _ | refine blk_drew ?_ | refine blk_alloc ?_ _)); exact BK215.out⟩
        have n4_ : Aside0 ((((w53.setCell ⟨gb224, 0, none⟩ (.int .i64 t219)).setCell ⟨gb224, 1, none⟩ (.int .i64 t220)).setCell ⟨gb224, 2, none⟩ (.slice Ao58 t221.length co58)).heap[gb224]? = some (.cells #[.int .i64 t219, .int .i64 t220, .slice Ao58 t221.length co58] 31 (0, 0))) := ⟨by (with_reducible repeat (first | refine blk_drewN ?_ _ | refine blk_drew ?_ | refine blk_alloc ?_ _)); refine blk_put (cs := #[.int .i64 t219, .int .i64 t220, .slice none 0 0]) ?_ 2 _ rfl; (with_reducible repeat (first | refine blk_drewN ?_ _ | refine blk_drew ?_ | refine blk_alloc ?_ _)); refine blk_put (cs := #[.int .i64 t219, .int .i64 0, .slice none 0 0]) ?_ 1 _ rfl; (with_reducible repeat (first | refine blk_drewN ?_ _ | refine blk_drew ?_ | refine blk_alloc ?_ _)); refine blk_put (cs := #[.int .i64 0, .int .i64 0, .slice none 0 0]) ?_ 0 _ rfl; (with_reducible repeat (first | refine blk_drewN ?_ _ | refine blk_drew ?_ | refine blk_alloc ?_ _)); exact BK224.out⟩
        have n5_ : Aside0 (Below w.heap.size w (((w53.setCell ⟨gb224, 0, none⟩ (.int .i64 t219)).setCell ⟨gb224, 1, none⟩ (.int .i64 t220)).setCell ⟨gb224, 2, none⟩ (.slice Ao58 t221.length co58))) := ⟨by repeat (first | (with_reducible first | exact HB.out | apply below_alloc | apply pw_below_drewN | apply below_drew1 | refine below_set ?_ GE213.out | refine below_set ?_ GE214.out | refine below_set ?_ GE215.out | refine below_set ?_ GE224.out) | exact HB.out)⟩
        (try clear HO223); (try clear BK213); (try clear BK214); (try clear BK215); (try clear BK224); (try clear HB)
        generalize (((w53.setCell ⟨gb224, 0, none⟩ (.int .i64 t219)).setCell ⟨gb224, 1, none⟩ (.int .i64 t220)).setCell ⟨gb224, 2, none⟩ (.slice Ao58 t221.length co58)) = w59 at n0_ n1_ n2_ n3_ n4_ n5_ ⊢
        have HO223 := n0_; have BK213 := n1_; have BK214 := n2_; have BK215 := n3_; have BK224 := n4_; have HB := n5_; clear n0_ n1_ n2_ n3_ n4_ n5_
        have n0_ := mk_ (Kd.R_drew HO223.out)
        have n1_ := mk_ (blk_drew BK213.out)
        have n2_ := mk_ (blk_drew BK214.out)
        have n3_ := mk_ (blk_drew BK215.out)
        have n4_ := mk_ (blk_drew BK224.out)
        have n5_ := mk_ (below_drew1 HB.out)
        clear HO223; clear BK213; clear BK214; clear BK215; clear BK224; clear HB; have HO223 := n0_; have BK213 := n1_; have BK214 := n2_; have BK215 := n3_; have BK224 := n4_; have HB := n5_; clear n0_ n1_ n2_ n3_ n4_ n5_
        have q61 : ((ji22) : Int) ≤ ((t221.length : Int) : Int) := of_decide_eq_true (by first | (with_reducible assumption) | assumption)
        obtain ⟨i061, hi061, _, hsz61, _⟩ := info_parts info35
        have hcut61 := cut_to (P := Try.prog) 29 35 .i64 Try.underlying29 hi061 Ao58 t221.length co58 (ji22) (of_decide_eq_true (by first | (with_reducible assumption) | assumption)) q61 (Kd.R_reads' HO223.out).2.1
        have hr61 := Kd.R_take (m := ((ji22) : Int).toNat) HO223.out (by omega)
        have hy61 : y225.length = ((ji22) : Int).toNat := (by rw [Ny225.out, List.length_take]; omega)
        rw [← Ny225.out] at hr61
        rw [← hy61] at hr61 hcut61
        clear hy61 hi061 hsz61 HO223
        have HO227 := Aside0.mk hr61
        clear hr61
        replace q61 := eq_true q61
        refine start_ (n := 13) (S := fun w' => w'.cell? ⟨gb224, 0, none⟩ = some (.int .i64 t219) ∧ w'.cell? ⟨gb224, 1, none⟩ = some (.int .i64 t220) ∧ w'.cell? ⟨gb224, 2, none⟩ = some (.slice Ao58 t221.length co58) ∧ w'.cell? ⟨gb213, 0, none⟩ = some (.int .i64 a0_0) ∧ w'.cell? ⟨gb213, 1, none⟩ = some (.int .i64 a0_1) ∧ w'.cell? ⟨gb213, 2, none⟩ = some (.slice A0_2 l0_2.length c0_2) ∧ w'.cell? ⟨gb214, 0, none⟩ = some (.int .i64 a2_0) ∧ w'.cell? ⟨gb214, 1, none⟩ = some (.int .i64 a2_1) ∧ w'.cell? ⟨gb214, 2, none⟩ = some (.string a2_2)) (ds := [12]) #[false, false, false, false, false, false, false, false, false, false, false, false, false] (by kernel_rfl) rfl rfl ⟨bc_ BK224 0, bc_ BK224 1, bc_ BK224 2, bc_ BK213 0, bc_ BK213 1, bc_ BK213 2, bc_ BK214 0, bc_ BK214 1, bc_ BK214 2⟩ (fun hHeld => ?_); refine with_tabW impl_LogPut.tab4 impl_LogPut.bits4 (fun HT_ HW_ => ?_)
        generalize w59.drew = w60 at BK213 BK214 BK215 BK224 HB HO227 hHeld ⊢
        refine pure_ (i := 0) (N := some 26) (v := ?_) (a' := ?_) #[true, false, false, false, false, false, false, false, false, false, false, false, false] rfl rfl (any_of HT_.out (by kernel_rfl)) (fun _ _ _ h => h) (Or.inl ⟨by rfl, ?_⟩) ?_ ?_
        rotate_left
        ·intro w'
         go_simp
         with_reducible rfl
        rotate_left
        ·simp only [Act.put, sia_, scz_, scs_, i64_w, i32_w]
         rfl
        refine pure_ (i := 2) (N := some 28) (v := ?_) (a' := ?_) #[true, false, true, false, false, false, false, false, false, false, false, false, false] rfl rfl (any_of HT_.out (by kernel_rfl)) (fun _ _ _ h => h) (Or.inl ⟨by rfl, ?_⟩) ?_ ?_
        rotate_left
        ·intro w'
         go_simp
         with_reducible rfl
        rotate_left
        ·simp only [Act.put, sia_, scz_, scs_, i64_w, i32_w]
         rfl
        refine pure_ (i := 3) (N := some 29) (v := ?_) (a' := ?_) #[true, false, true, true, false, false, false, false, false, false, false, false, false] rfl rfl (any_of HT_.out (by kernel_rfl)) (fun _ _ _ h => h) (Or.inl ⟨by rfl, ?_⟩) ?_ ?_
        rotate_left
        ·intro w'
         go_simp
         with_reducible rfl
        rotate_left
        ·simp only [Act.put, sia_, scz_, scs_, i64_w, i32_w]
         rfl
        refine take_ (i := 1) (N := some 27) (v := ?_) (a' := ?_) #[true, true, true, true, false, false, false, false, false, false, false, false, false] rfl rfl (take_ofW HT_.out HW_.out (by kernel_rfl)) (fun _ _ _ h => h) (Or.inl ⟨by rfl, ?_⟩) hHeld ?_ ?_
        rotate_left
        ·rintro w' ⟨s0, s1, s2, s3, s4, s5, s6, s7, s8⟩
         go_simp
         with_reducible rfl
        rotate_left
        ·simp only [Act.put, sia_, scz_, scs_, i64_w, i32_w]
         rfl
        refine take_ (i := 4) (N := some 30) (v := ?_) (a' := ?_) #[true, true, true, true, true, false, false, false, false, false, false, false, false] rfl rfl (take_ofW HT_.out HW_.out (by kernel_rfl)) (fun _ _ _ h => h) (Or.inl ⟨by rfl, ?_⟩) hHeld ?_ ?_
        rotate_left
        ·rintro w' ⟨s0, s1, s2, s3, s4, s5, s6, s7, s8⟩
         go_simp
         with_reducible rfl
        rotate_left
        ·simp only [Act.put, sia_, scz_, scs_, i64_w, i32_w]
         rfl
        refine pure_ (i := 5) (N := some 31) (v := ?_) (a' := ?_) #[true, true, true, true, true, true, false, false, false, false, false, false, false] rfl rfl (any_of HT_.out (by kernel_rfl)) (fun _ _ _ h => h) (Or.inl ⟨by rfl, ?_⟩) ?_ ?_
        rotate_left
        ·intro w'
         go_simp
         with_reducible rfl
        rotate_left
        ·simp only [Act.put, sia_, scz_, scs_, i64_w, i32_w]
         rfl
        refine pure_ (i := 6) (N := some 32) (v := ?_) (a' := ?_) #[true, true, true, true, true, true, true, false, false, false, false, false, false] rfl rfl (any_of HT_.out (by kernel_rfl)) (fun _ _ _ h => h) (Or.inl ⟨by rfl, ?_⟩) ?_ ?_
        rotate_left
        ·intro w'
         go_simp
         with_reducible rfl
        rotate_left
        ·simp only [Act.put, sia_, scz_, scs_, i64_w, i32_w]
         rfl
        refine pure_ (i := 7) (N := some 33) (v := ?_) (a' := ?_) #[true, true, true, true, true, true, true, true, false, false, false, false, false] rfl rfl (any_of HT_.out (by kernel_rfl)) (fun _ _ _ h => h) (Or.inl ⟨by rfl, ?_⟩) ?_ ?_
        rotate_left
        ·intro w'
         go_simp
         with_reducible rfl
        rotate_left
        ·simp only [Act.put, sia_, scz_, scs_, i64_w, i32_w]
         rfl
        refine take_ (i := 8) (N := some 34) (v := ?_) (a' := ?_) #[true, true, true, true, true, true, true, true, true, false, false, false, false] rfl rfl (take_ofW HT_.out HW_.out (by kernel_rfl)) (fun _ _ _ h => h) (Or.inl ⟨by rfl, ?_⟩) hHeld ?_ ?_
        rotate_left
        ·rintro w' ⟨s0, s1, s2, s3, s4, s5, s6, s7, s8⟩
         go_simp
         with_reducible rfl
        rotate_left
        ·simp only [Act.put, sia_, scz_, scs_, i64_w, i32_w]
         rfl
        refine one_ (i := 9) (N := some 35) #[true, true, true, true, true, true, true, true, true, true, false, false, false] rfl rfl (one_of HT_.out (by kernel_rfl)) (by decide) (fun K hK => ?_)
        refine value_ (w1 := ?_) (v := ?_) (by rfl) rfl ?_ ?_
        rotate_left 2
        ·go_simp
         constructor
         ·rfl
         ·rfl
        refine hK.out _ _ ⟨(blk_cell (blk_alloc BK224.out _) 0).trans rfl, (blk_cell (blk_alloc BK224.out _) 1).trans rfl, (blk_cell (blk_alloc BK224.out _) 2).trans rfl, (blk_cell (blk_alloc BK213.out _) 0).trans rfl, (blk_cell (blk_alloc BK213.out _) 1).trans rfl, (blk_cell (blk_alloc BK213.out _) 2).trans rfl, (blk_cell (blk_alloc BK214.out _) 0).trans rfl, (blk_cell (blk_alloc BK214.out _) 1).trans rfl, (blk_cell (blk_alloc BK214.out _) 2).trans rfl⟩ (fun hHeld => ?_)
        clear hK K
        refine norm_ (a' := ?_) ?_ ?_
        rotate_left
        ·show Act.put _ (some 35) _ = _
         simp only [Act.put, sia_, scz_, scs_, i64_w, i32_w]
         rfl
        refine one_ (i := 10) (N := some 36) #[true, true, true, true, true, true, true, true, true, true, true, false, false] rfl rfl (one_of HT_.out (by kernel_rfl)) (by decide) (fun K hK => ?_)
        refine Kd.R_append_step k35 (w0 := w) w.heap.size (by rfl) (.tmp 33) (.tmp 35) 29 35 (.agg #[(.int .i64 0), (.int .i64 0), (.string ⟨#[]⟩)]) 32 rfl Try.underlying29 info35 rfl (by decide) (by omega) (.slice Ao58 y225.length co58) y225 (⟨a2_0, a2_1, a2_2⟩ : S35) [.int .i64 a2_0, .int .i64 a2_1, .string a2_2] (fun k_ => k_ ≠ gb214) (fun _ => False) rfl rfl ?aP (fun _ hk => hk.elim) ?aF ?aO ?aB ?aS ?aL ?_
        (case aP => exact k35_mkM _ _ _ (⟨a2_0, a2_1, a2_2⟩ : S35))
        (case aB => exact (bw_ HB))
        (case aF => exact (fun k_ hk => Kd.freshB (g := gb214) (o := .cells #[.int .i64 a2_0, .int .i64 a2_1, .string a2_2] 35 (0, 0)) (bp_ BK214) k_ hk))
        (case aO => exact (rp_ HO227))
        (case aS => exact (below_size (bw_ HB)))
        (case aL => have := LMc25.out; omega)
        intro v229 w62 ho hb hg hat
        rw [← Ny228.out] at ho
        have n0_ := mk_ (blk_grown (g := gb213) (o := .cells #[.int .i64 a0_0, .int .i64 a0_1, .slice A0_2 l0_2.length c0_2] 31 (0, 0)) (bp_ BK213) hg (Kd.R_ne HO227.out BK213.out (by decide)))
        have n1_ := mk_ (blk_grown (g := gb214) (o := .cells #[.int .i64 a2_0, .int .i64 a2_1, .string a2_2] 35 (0, 0)) (bp_ BK214) hg (Kd.R_away HO227.out (fun _ hk => hk)))
        have n2_ := mk_ (blk_grown (g := gb215) (o := .cells #[.int .i64 0, .int .i64 0, .slice none 0 0] 31 (0, 0)) (bp_ BK215) hg (Kd.R_ne HO227.out BK215.out (by decide)))
        have n3_ := mk_ (blk_grown (g := gb224) (o := .cells #[.int .i64 t219, .int .i64 t220, .slice Ao58 t221.length co58] 31 (0, 0)) (bp_ BK224) hg (Kd.R_ne HO227.out BK224.out (by decide)))
        have n4_ := mk_ (hb)
        have n5_ := mk_ (ho)
        clear BK213; clear BK214; clear BK215; clear BK224; clear HB; clear HO227; have BK213 := n0_; have BK214 := n1_; have BK215 := n2_; have BK224 := n3_; have HB := n4_; have HO230 := n5_; clear n0_ n1_ n2_ n3_ n4_ n5_; clear ho hb hg hat
        obtain ⟨Ao63, co63, eo63⟩ := Kd.R_slice HO230.out
        (first | subst eo63 | (injection eo63 with f1_ f2_ f3_; have f4_ := f1_.symm; have f5_ := f3_.symm; clear f1_ f2_ f3_; subst f4_; subst f5_))
        refine hK.out _ _ ⟨bc_ BK224 0, bc_ BK224 1, bc_ BK224 2, bc_ BK213 0, bc_ BK213 1, bc_ BK213 2, bc_ BK214 0, bc_ BK214 1, bc_ BK214 2⟩ (fun hHeld => ?_)
        clear hK K
        refine norm_ (a' := ?_) ?_ ?_
        rotate_left
        ·show Act.put _ (some 36) _ = _
         simp only [Act.put, sia_, scz_, scs_, i64_w, i32_w]
         rfl
        refine pure_ (i := 11) (N := some 37) (v := ?_) (a' := ?_) #[true, true, true, true, true, true, true, true, true, true, true, true, false] rfl rfl (any_of HT_.out (by kernel_rfl)) (fun _ _ _ h => h) (Or.inl ⟨by rfl, ?_⟩) ?_ ?_
        rotate_left
        ·intro w'
         go_simp
         with_reducible rfl
        rotate_left
        ·simp only [Act.put, sia_, scz_, scs_, i64_w, i32_w]
         rfl
        refine last_ (i := 12) (N := none) #[true, true, true, true, true, true, true, true, true, true, true, true, true] rfl rfl (one_of HT_.out (by kernel_rfl)) (by decide) (fun K hK => ?_)
        have hs64 : w62.cell? ⟨gb224, 2, none⟩ = some (.slice Ao58 t221.length co58) := bc_ BK224 2
        have hfs64 := blk_frozen BK224.out 2
        have hns64_0 := NB213_224.out
        have hns64_1 := NB214_224.out
        have hns64_2 := NB215_224.out
        have hms64_0 := NB224_213.out
        have hms64_1 := NB224_214.out
        have hms64_2 := NB224_215.out
        refine skip_ (w1 := ?_) (by rfl) rfl ?_ ?_
        rotate_left
        ·go_simp
         rfl
        refine hK.out _ _ ?_
        clear hK K
        refine done_ (done_of HT_.out (by kernel_rfl)) ?_
        have hcz65_0 : w62.cell? ⟨gb224, 0, none⟩ = some (.int .i64 t219) := bc_ BK224 0
        have hcz65_1 : w62.cell? ⟨gb224, 1, none⟩ = some (.int .i64 t220) := bc_ BK224 1
        have hcz65_2 : w62.cell? ⟨gb224, 2, none⟩ = some (.slice Ao58 t221.length co58) := bc_ BK224 2
        have hfz65_0 := blk_frozen BK224.out 0
        have hfz65_1 := blk_frozen BK224.out 1
        have hfz65_2 := blk_frozen BK224.out 2
        try go_wp2_with (first | ((with_reducible refine gate_callee (f := 73) rfl ?_); refine goesL_ (some 39) rfl rfl Try.func73 (by kernel_rfl) rfl #[.agg #[.int .i64 t219, .int .i64 t220, .slice Ao63 y228.length co63]] rfl (by (try simp only [List.map_toArray, List.map_cons, List.map_nil]); first | done | rfl | (simp only [List.length_drop, List.length_take]; rfl)) ?_; (with_reducible refine (impl_LogOk.calls kj3 t219 t220 _ _ y228 false _ ?side1 ?side2 A26.out).mono ?_); (case side1 => refine (Kd.R_reads' (e := 35) (base := w.heap.size) (ok := fun k_ => k_ ≠ gb214) (n := y228.length) (c := co63) ?_).2.2; exact (by (with_reducible repeat (first | apply Kd.R_alloc | apply Kd.R_drewN | apply Kd.R_drew)); exact (Kd.R_mono (Kd.R_far (p := ⟨gb224, 2, none⟩) (Kd.R_types HO230.out BK224.out (by decide)) (fun _ hk => hk.2) (.slice Ao63 y228.length co63)) (fun _ h_ => h_.1)))); (case side2 => exact (Kd.R_reads' HO230.out).2.1); rintro e w66 ⟨rfl, hb⟩; refine ⟨_, rfl, ?_⟩; replace HO230 := mk_ (Kd.R_below (by (with_reducible repeat (first | apply Kd.R_alloc | apply Kd.R_drewN | apply Kd.R_drew)); exact (Kd.R_mono (Kd.R_far (p := ⟨gb224, 2, none⟩) (Kd.R_types HO230.out BK224.out (by decide)) (fun _ hk => hk.2) (.slice Ao63 y228.length co63)) (fun _ h_ => h_.1))) hb); replace BK213 := mk_ (blk_below (g := gb213) (o := .cells #[.int .i64 a0_0, .int .i64 a0_1, .slice A0_2 l0_2.length c0_2] 31 (0, 0)) (by (with_reducible repeat (first | refine blk_drewN ?_ _ | refine blk_drew ?_ | refine blk_alloc ?_ _)); refine blk_far ?_ NB213_224.out _; (with_reducible repeat (first | refine blk_drewN ?_ _ | refine blk_drew ?_ | refine blk_alloc ?_ _)); exact BK213.out) hb); replace BK214 := mk_ (blk_below (g := gb214) (o := .cells #[.int .i64 a2_0, .int .i64 a2_1, .string a2_2] 35 (0, 0)) (by (with_reducible repeat (first | refine blk_drewN ?_ _ | refine blk_drew ?_ | refine blk_alloc ?_ _)); refine blk_far ?_ NB214_224.out _; (with_reducible repeat (first | refine blk_drewN ?_ _ | refine blk_drew ?_ | refine blk_alloc ?_ _)); exact BK214.out) hb); replace BK215 := mk_ (blk_below (g := gb215) (o := .cells #[.int .i64 0, .int .i64 0, .slice none 0 0] 31 (0, 0)) (by (with_reducible repeat (first | refine blk_drewN ?_ _ | refine blk_drew ?_ | refine blk_alloc ?_ _)); refine blk_far ?_ NB215_224.out _; (with_reducible repeat (first | refine blk_drewN ?_ _ | refine blk_drew ?_ | refine blk_alloc ?_ _)); exact BK215.out) hb); replace BK224 := mk_ (blk_below (g := gb224) (o := .cells #[.int .i64 t219, .int .i64 t220, .slice Ao63 y228.length co63] 31 (0, 0)) (by (with_reducible repeat (first | refine blk_drewN ?_ _ | refine blk_drew ?_ | refine blk_alloc ?_ _)); refine blk_put (cs := #[.int .i64 t219, .int .i64 t220, .slice Ao58 t221.length co58]) ?_ 2 _ rfl; (with_reducible repeat (first | refine blk_drewN ?_ _ | refine blk_drew ?_ | refine blk_alloc ?_ _)); exact BK224.out) hb); replace HB := bs_ HB hb; (try clear hb); (try clear hk); have hnb67 := NB215_214.out; have hnc67 := NB214_215.out; have hcz68_0 : w66.cell? ⟨gb215, 0, none⟩ = some (.int .i64 0) := bc_ BK215 0; have hcz68_1 : w66.cell? ⟨gb215, 1, none⟩ = some (.int .i64 0) := bc_ BK215 1; have hcz68_2 : w66.cell? ⟨gb215, 2, none⟩ = some (.slice none 0 0) := bc_ BK215 2; have hfz68_0 := blk_frozen BK215.out 0; have hfz68_1 := blk_frozen BK215.out 1; have hfz68_2 := blk_frozen BK215.out 2))
        refine bodyPost_ret (results_ct rfl _ _ gb215 31 #[.int .i64 0, .int .i64 0, .slice none 0 0] (0, 0) _ rfl (by (with_reducible repeat (first | refine blk_drewN ?_ _ | refine blk_drew ?_ | refine blk_alloc ?_ _)); refine blk_put (cs := #[.int .i64 0, .int .i64 0, .slice none 0 0]) ?_ 2 _ rfl; (with_reducible repeat (first | refine blk_drewN ?_ _ | refine blk_drew ?_ | refine blk_alloc ?_ _)); refine blk_put (cs := #[.int .i64 0, .int .i64 0, .slice none 0 0]) ?_ 1 _ rfl; (with_reducible repeat (first | refine blk_drewN ?_ _ | refine blk_drew ?_ | refine blk_alloc ?_ _)); refine blk_put (cs := #[.int .i64 0, .int .i64 0, .slice none 0 0]) ?_ 0 _ rfl; (with_reducible repeat (first | refine blk_drewN ?_ _ | refine blk_drew ?_ | refine blk_alloc ?_ _)); exact BK215.out) Try.underlying31 rfl (by kernel_rfl)) rfl ?_
        exact ⟨_, by first | rfl | (simp [errW_none, errW_some] <;> rfl) | (simp only [← hji22]; first | rfl | (simp [errW_none, errW_some] <;> rfl)) | (simp [*, errW_none, errW_some] <;> rfl), by first | exact Kd.R_nil _ _ _ _ _ | exact Kd.N_nil _ _ _ _ _ | exact Kd.V_nil _ _ _ _ _ | exact Kd.Q_nil _ _ _ _ _ | exact Kd.S_nil _ _ _ _ _, by repeat (first | (with_reducible first | exact HB.out | apply below_alloc | apply pw_below_drewN | apply below_drew1 | refine below_set ?_ GE213.out | refine below_set ?_ GE214.out | refine below_set ?_ GE215.out | refine below_set ?_ GE224.out) | exact HB.out)⟩
      ·rw [if_neg c25] at H
       exact absurd H (by simp)
     ·rw [if_neg c24] at H
      exact absurd H (by simp)
    ·rw [if_neg c23] at H
     exact absurd H (by simp)

end Go.Proofs.Ytknbkjajfiediaa.QFnExactLogPut
