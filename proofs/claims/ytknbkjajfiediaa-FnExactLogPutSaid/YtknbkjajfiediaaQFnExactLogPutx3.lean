/- Written by this session's own program (wip/tpl/pp.py): what the law's functions come to, and that the machine's calls do just that. -/
import Derived.Test.YtknbkjajfiediaaQFnExactLogPutx0
import Derived.Test.YtknbkjajfiediaaQFnExactLogPutx1
import Derived.Test.YtknbkjajfiediaaQFnExactLogPutx2
namespace Go.Proofs.Ytknbkjajfiediaa.QFnExactLogPut
open Go.RowKit Go.Proofs.YtknbkjajfiediaaW.PrintWords Go.Proofs.YtknbkjajfiediaaW.PrintLast Go.Proofs.YtknbkjajfiediaaW.PrintMore
attribute [local go_sem] Go.Proofs.Ytknbkjajfiediaa.Sem.string_geq Go.Proofs.Ytknbkjajfiediaa.Sem.string_leq Go.Proofs.Ytknbkjajfiediaa.Sem.string_gtr
attribute [local go_sem] max2_int min2_int max_two min_two max_three min_three max_four min_four   -- for this text's walks alone
set_option linter.unusedVariables false
set_option linter.unusedSimpArgs false

/-! ### spec_LogPut: function 15 -/
def spec_LogPut.j0 : Nat → Int → Bool → Int → Int → List (S35) → Int → Int → ByteArray → Option (Int × Int × (List (S35)) × Bool)
 | 0, _, _, _, _, _, _, _, _ => none
 | k + 1, x1, x22, x147000, x147001, x147002, x148000, x148001, x148002 => if x22 = true then (some (0, 0, ([] : List (S35)), false)) else ((some (([] : List (S35)) : List (S35))).bind fun y152 => (if 0 ≤ (wrap64 ((wrap64 (x1 - x147000)) - 1)) then (if (wrap64 ((wrap64 (x1 - x147000)) - 1)) ≤ (x147002.length : Int) then ((some (x147002.take ((wrap64 ((wrap64 (x1 - x147000)) - 1)) : Int).toNat : List (S35))).bind fun y155 => (if y152.length + y155.length < 4398046511104 then ((some (y152 ++ y155 : List (S35))).bind fun y159 => ((some (([(⟨x148000, x148001, x148002⟩ : S35)] : List (S35)) : List (S35))).bind fun y162 => (if y159.length + y162.length < 4398046511104 then ((some (y159 ++ y162 : List (S35))).bind fun y165 => ((spec_LogOk.f k x147000 x147001 y165).bind fun t169 => (if t169 = true then (some (x147000, x147001, y165, true)) else (some (0, 0, ([] : List (S35)), false))))) else (none)))) else (none))) else (none)) else (none)))
def spec_LogPut.f (k : Nat) (a0_0 : Int) (a0_1 : Int) (l0_2 : List (S35)) (a1 : Int) (a2_0 : Int) (a2_1 : Int) (a2_2 : ByteArray) : Option (Int × Int × (List (S35)) × Bool) := (spec_LogOk.f k a0_0 a0_1 l0_2).bind fun t149 => (if t149 = true then ((spec_l06Last.f a0_0 a0_1 l0_2).bind fun t150 => ((spec_l01In.f a1 (wrap64 (a0_0 + 1)) (wrap64 (t150 + 1))).bind fun t151 => (spec_LogPut.j0 k a1 (!t151) a0_0 a0_1 l0_2 a2_0 a2_1 a2_2))) else (spec_LogPut.j0 k a1 true a0_0 a0_1 l0_2 a2_0 a2_1 a2_2))
theorem spec_LogPut.mono_l : ∀ k, (∀ y0 y1 y2 y3 y4 y5 y6 y7, LeO (spec_LogPut.j0 k y0 y1 y2 y3 y4 y5 y6 y7) (spec_LogPut.j0 (k + 1) y0 y1 y2 y3 y4 y5 y6 y7))
 | 0 => fun _ _ _ _ _ _ _ _ r h => by simp [spec_LogPut.j0] at h
 | k + 1 => by
  have ih0 := spec_LogPut.mono_l k
  ·intro y0 y1 y2 y3 y4 y5 y6 y7
   unfold spec_LogPut.j0
   repeat' first
   | (with_reducible exact ih0 _ _ _ _ _ _ _ _)
   | (with_reducible exact spec_LogOk.mono _ _ _ _)
   | (with_reducible exact LeO.refl _)
   | (with_reducible exact LeO.none _)
   | (with_reducible refine LeO.ite ?_ ?_)
   | (with_reducible refine LeO.bind ?_ (fun _ => ?_))
   | exact ih0 _ _ _ _ _ _ _ _
   | exact spec_LogOk.mono _ _ _ _
   | exact LeO.none _
   | refine LeO.ite ?_ ?_
   | refine LeO.bind ?_ (fun _ => ?_)
theorem spec_LogPut.mono : ∀ a0 a1 a2 a3 a4 a5 a6 k, LeO (spec_LogPut.f k a0 a1 a2 a3 a4 a5 a6) (spec_LogPut.f (k + 1) a0 a1 a2 a3 a4 a5 a6) := by
 intro a0 a1 a2 a3 a4 a5 a6 k
 have ih0 := spec_LogPut.mono_l k
 unfold spec_LogPut.f
 repeat' first
   | (with_reducible exact ih0 _ _ _ _ _ _ _ _)
   | (with_reducible exact spec_LogOk.mono _ _ _ _)
   | (with_reducible exact LeO.refl _)
   | (with_reducible exact LeO.none _)
   | (with_reducible refine LeO.ite ?_ ?_)
   | (with_reducible refine LeO.bind ?_ (fun _ => ?_))
   | exact ih0 _ _ _ _ _ _ _ _
   | exact spec_LogOk.mono _ _ _ _
   | exact LeO.none _
   | refine LeO.ite ?_ ?_
   | refine LeO.bind ?_ (fun _ => ?_)
def spec_LogPut.T1 : Bool × List (List Nat × List Nat) := (true, [([], []), ([0], [0]), ([1], [1]), ([2, 1], [2]), ([3], [3]), ([3], [3]), ([5, 3], [3, 5]), ([6, 3], [3, 6]), ([3], [3]), ([8, 3, 3], [3, 8]), ([9, 3], [3, 9]), ([4, 7, 10, 9, 3], [3, 4, 7, 10]), ([11, 3], [3, 11]), ([3, 12], [3, 12])])
def spec_LogPut.B1 : List Nat := [0, 1, 3, 7, 15, 15, 47, 111, 15, 271, 783, 2047, 4095, 8191]
theorem spec_LogPut.tab1 : rtab .any (opsOf Try.f15 1) = spec_LogPut.T1 := by kernel_rfl
theorem spec_LogPut.bits1 : waitsOk spec_LogPut.T1.2 spec_LogPut.B1 = true := by kernel_rfl
def spec_LogPut.T3 : Bool × List (List Nat × List Nat) := (true, [([], []), ([0], [0]), ([], []), ([2], [2]), ([], []), ([], []), ([5], [5]), ([], []), ([], []), ([8], [8]), ([7, 9], [7, 9]), ([10], [10]), ([6, 11], [6, 11]), ([4, 12], [4, 12]), ([], []), ([14], [14]), ([13, 15, 13], [13, 15]), ([1, 3, 16], [1, 3, 16]), ([], []), ([18, 17, 16, 0, 1, 2, 3, 4, 5, 6, 7, 8, 9, 10, 11, 12, 13, 14, 15, 16, 17, 18], [17, 18])])
def spec_LogPut.B3 : List Nat := [0, 1, 0, 4, 0, 0, 32, 0, 0, 256, 896, 1920, 4064, 8176, 0, 16384, 65520, 131071, 0, 524287]
theorem spec_LogPut.tab3 : rtab .any (opsOf Try.f15 3) = spec_LogPut.T3 := by kernel_rfl
theorem spec_LogPut.bits3 : waitsOk spec_LogPut.T3.2 spec_LogPut.B3 = true := by kernel_rfl
set_option maxHeartbeats 8000000 in
set_option maxRecDepth 100000 in
theorem spec_LogPut.calls (k : Nat) (a0_0 : Int) (a0_1 : Int) (A0_2 : Option Addr) (c0_2 : Nat) (l0_2 : List (S35)) (a1 : Int) (a2_0 : Int) (a2_1 : Int) (a2_2 : ByteArray) (r1 : Int) (r2 : Int) (r3 : List (S35)) (r4 : Bool) (w : World) (hr0_2 : Kd.C k35 w A0_2 l0_2.length l0_2) (hc0_2 : l0_2.length ≤ c0_2) (h : spec_LogPut.f k a0_0 a0_1 l0_2 a1 a2_0 a2_1 a2_2 = some (r1, r2, r3, r4)) :
  Calls Try.prog 15 #[.agg #[.int .i64 a0_0, .int .i64 a0_1, .slice A0_2 l0_2.length c0_2], .int .i64 a1, .agg #[.int .i64 a2_0, .int .i64 a2_1, .string a2_2]] w fun e w' => ∃ v2_ : Value, e = .returned (.tuple #[.agg #[.int .i64 r1, .int .i64 r2, v2_], .bool r4]) ∧ Kd.R k35 35 w' w.heap.size (fun _ => True) v2_ r3 ∧ Below w.heap.size w w' := by
 have hu31 := Try.underlying31
 have hu35 := Try.underlying35
 have HR0_2 := Aside0.mk hr0_2
 have HC0_2 := Aside0.mk hc0_2
 clear hr0_2 hc0_2
 have HB := mk_ (Below.refl w.heap.size w)
 have H : ((spec_LogOk.f k a0_0 a0_1 l0_2).bind fun t149 => (if t149 = true then ((spec_l06Last.f a0_0 a0_1 l0_2).bind fun t150 => ((spec_l01In.f a1 (wrap64 (a0_0 + 1)) (wrap64 (t150 + 1))).bind fun t151 => (spec_LogPut.j0 k a1 (!t151) a0_0 a0_1 l0_2 a2_0 a2_1 a2_2))) else (spec_LogPut.j0 k a1 true a0_0 a0_1 l0_2 a2_0 a2_1 a2_2))) = some (r1, r2, r3, r4) := h
 clear h
 have HC4 := Aside0.mk H
 clear H
 go_enter Try.func15, Try.ntmps15
 go_upto_region 1 with (first | ((with_reducible refine gate_dst (N := 3) rfl ?_); refine box_event ?hg (N := 3) ?hd (cs := #[.int .i64 a0_0, .int .i64 a0_1, .slice A0_2 l0_2.length c0_2]) (t := 31) ?hr ?_; (case hd => rfl); (case hg => rfl); (case hr => first | (go_simp; done) | (go_simp; rfl)); intro gb146 hg w5 hbox hb; have BK146 := mk_ (hbox); have GW146 : Aside0 (w.heap.size ≤ gb146) := bz_ hg; have GE146 : Aside0 (w.heap.size ≤ gb146) := bz_ hg; replace HB := bs_ HB hb; clear hb hbox hg) | ((with_reducible refine gate_dst (N := 5) rfl ?_); refine box_event ?hg (N := 5) ?hd (cs := #[.int .i64 a2_0, .int .i64 a2_1, .string a2_2]) (t := 35) ?hr ?_; (case hd => rfl); (case hg => rfl); (case hr => first | (go_simp; done) | (go_simp; rfl)); intro gb147 hg w6 hbox hb; have BK147 := mk_ (hbox); have GW147 : Aside0 (w.heap.size ≤ gb147) := bz_ hg; have GE147 : Aside0 (w.heap.size ≤ gb147) := bz_ hg; have NB146_147 : Aside0 (gb146 ≠ gb147) := bl_ BK146 hg; have NB147_146 : Aside0 (gb147 ≠ gb146) := bg_ BK146 hg; replace BK146 := bb_ BK146 hb; replace HB := bs_ HB hb; clear hb hbox hg) | ((with_reducible refine gate_dst (N := 6) rfl ?_); refine box_event ?hg (N := 6) ?hd (cs := #[.int .i64 0, .int .i64 0, .slice none 0 0]) (t := 31) ?hr ?_; (case hd => rfl); (case hg => rfl); (case hr => first | (go_simp; done) | (go_simp; rfl)); intro gb148 hg w7 hbox hb; have BK148 := mk_ (hbox); have GW148 : Aside0 (w.heap.size ≤ gb148) := bz_ hg; have GE148 : Aside0 (w.heap.size ≤ gb148) := bz_ hg; have NB146_148 : Aside0 (gb146 ≠ gb148) := bl_ BK146 hg; have NB148_146 : Aside0 (gb148 ≠ gb146) := bg_ BK146 hg; have NB147_148 : Aside0 (gb147 ≠ gb148) := bl_ BK147 hg; have NB148_147 : Aside0 (gb148 ≠ gb147) := bg_ BK147 hg; replace BK146 := bb_ BK146 hb; replace BK147 := bb_ BK147 hb; replace HB := bs_ HB hb; clear hb hbox hg))
 (try simp only [Act.put, sia_, scz_, scs_])
 go_cut [22] (fun v22 wc => ∃ (kq : Nat) (x22_3 : Bool), v22 = .bool x22_3 ∧ Aside0 (spec_LogPut.j0 kq a1 x22_3 a0_0 a0_1 l0_2 a2_0 a2_1 a2_2 = some (r1, r2, r3, r4)) ∧ Aside0 (kq ≤ k) ∧ Aside0 (wc.heap[gb146]? = some (.cells #[.int .i64 a0_0, .int .i64 a0_1, (.slice A0_2 l0_2.length c0_2)] 31 (0, 0))) ∧ Aside0 (wc.heap[gb147]? = some (.cells #[.int .i64 a2_0, .int .i64 a2_1, .string a2_2] 35 (0, 0))) ∧ Aside0 (wc.heap[gb148]? = some (.cells #[.int .i64 0, .int .i64 0, (.slice none 0 0)] 31 (0, 0))) ∧ Aside0 (Below w.heap.size w wc))
 case first =>
  have H := HC4.out
  clear HC4
  replace H := Option.bind_eq_some_iff.mp H
  obtain ⟨t149, A80, H⟩ := H
  replace H : (if t149 = true then ((spec_l06Last.f a0_0 a0_1 l0_2).bind fun t150 => ((spec_l01In.f a1 (wrap64 (a0_0 + 1)) (wrap64 (t150 + 1))).bind fun t151 => (spec_LogPut.j0 k a1 (!t151) a0_0 a0_1 l0_2 a2_0 a2_1 a2_2))) else (spec_LogPut.j0 k a1 true a0_0 a0_1 l0_2 a2_0 a2_1 a2_2)) = some (r1, r2, r3, r4) := H
  have A8 := Aside0.mk A80
  clear A80
  by_cases c9 : t149 = true
  ·subst c9
   have H1 : ((spec_l06Last.f a0_0 a0_1 l0_2).bind fun t150 => ((spec_l01In.f a1 (wrap64 (a0_0 + 1)) (wrap64 (t150 + 1))).bind fun t151 => (spec_LogPut.j0 k a1 (!t151) a0_0 a0_1 l0_2 a2_0 a2_1 a2_2))) = some (r1, r2, r3, r4) := by rw [if_pos rfl] at H; exact H
   clear H
   have H := H1
   clear H1
   replace H := Option.bind_eq_some_iff.mp H
   obtain ⟨t150, A100, H⟩ := H
   replace H : ((spec_l01In.f a1 (wrap64 (a0_0 + 1)) (wrap64 (t150 + 1))).bind fun t151 => (spec_LogPut.j0 k a1 (!t151) a0_0 a0_1 l0_2 a2_0 a2_1 a2_2)) = some (r1, r2, r3, r4) := H
   have A10 := Aside0.mk A100
   clear A100
   replace H := Option.bind_eq_some_iff.mp H
   obtain ⟨t151, A110, H⟩ := H
   replace H : (spec_LogPut.j0 k a1 (!t151) a0_0 a0_1 l0_2 a2_0 a2_1 a2_2) = some (r1, r2, r3, r4) := H
   have A11 := Aside0.mk A110
   clear A110
   have H' := Aside0.mk H
   clear H
   try go_wp2
   have n0_ := mk_ (blk_drew BK146.out)
   have n1_ := mk_ (blk_drew BK147.out)
   have n2_ := mk_ (blk_drew BK148.out)
   have n3_ := mk_ (below_drew1 HB.out)
   clear BK146; clear BK147; clear BK148; clear HB; have BK146 := n0_; have BK147 := n1_; have BK148 := n2_; have HB := n3_; clear n0_ n1_ n2_ n3_
   refine start_ (n := 14) (S := fun w' => w'.cell? ⟨gb146, 0, none⟩ = some (.int .i64 a0_0) ∧ w'.cell? ⟨gb146, 1, none⟩ = some (.int .i64 a0_1) ∧ w'.cell? ⟨gb146, 2, none⟩ = some (.slice A0_2 l0_2.length c0_2)) (ds := []) #[false, false, false, false, false, false, false, false, false, false, false, false, false, false] (by kernel_rfl) rfl rfl ⟨bc_ BK146 0, bc_ BK146 1, bc_ BK146 2⟩ (fun hHeld => ?_); refine with_tabW spec_LogPut.tab1 spec_LogPut.bits1 (fun HT_ HW_ => ?_)
   generalize w7.drew = w12 at BK146 BK147 BK148 HB hHeld ⊢
   refine take_ (i := 0) (N := some 9) (v := ?_) (a' := ?_) #[true, false, false, false, false, false, false, false, false, false, false, false, false, false] rfl rfl (take_ofW HT_.out HW_.out (by kernel_rfl)) (fun _ _ _ h => h) (Or.inl ⟨by rfl, ?_⟩) hHeld ?_ ?_
   rotate_left
   ·rintro w' ⟨s0, s1, s2⟩
    go_simp
    with_reducible rfl
   rotate_left
   ·simp only [Act.put, sia_, scz_, scs_, i64_w, i32_w]
    rfl
   refine one_ (i := 1) (N := some 10) #[true, true, false, false, false, false, false, false, false, false, false, false, false, false] rfl rfl (one_of HT_.out (by kernel_rfl)) (by decide) (fun K hK => ?_)
   refine goes_ Try.func69 (by kernel_rfl) rfl #[.agg #[.int .i64 a0_0, .int .i64 a0_1, .slice A0_2 l0_2.length c0_2]] (by rfl) rfl rfl (by (try simp only [List.map_toArray, List.map_cons, List.map_nil]); first | done | rfl | (simp only [List.length_drop, List.length_take]; rfl)) ?_
   with_reducible refine (spec_LogOk.calls k a0_0 a0_1 _ _ l0_2 true _ ?side1 ?side2 A8.out).mono ?_
   (case side1 => repeat (first | exact (Kd.C_below HR0_2.out HB.out) | (with_reducible refine Kd.C_alloc ?_ _) | (with_reducible refine Kd.C_drewN ?_ _) | (with_reducible refine Kd.C_drew ?_)))
   (case side2 => exact HC0_2.out)
   rintro e w13 ⟨rfl, hb⟩
   refine ⟨_, rfl, ?_⟩
   have n0_ := bb_ BK146 hb; have n1_ := bb_ BK147 hb; have n2_ := bb_ BK148 hb
   have n3_ := bs_ HB hb
   clear BK146; clear BK147; clear BK148; clear HB; have BK146 := n0_; have BK147 := n1_; have BK148 := n2_; have HB := n3_; clear n0_ n1_ n2_ n3_; (try clear hb); (try clear hb2); (try clear hk); (try clear hi)
   refine hK.out _ _ ⟨bc_ BK146 0, bc_ BK146 1, bc_ BK146 2⟩ (fun hHeld => ?_)
   clear hK K
   refine norm_ (a' := ?_) ?_ ?_
   rotate_left
   ·show Act.put _ (some 10) _ = _
    simp only [Act.put, sia_, scz_, scs_, i64_w, i32_w]
    rfl
   refine pure_ (i := 2) (N := some 11) (v := ?_) (a' := ?_) #[true, true, true, false, false, false, false, false, false, false, false, false, false, false] rfl rfl (any_of HT_.out (by kernel_rfl)) (fun _ _ _ h => h) (Or.inl ⟨by rfl, ?_⟩) ?_ ?_
   rotate_left
   ·intro w'
    go_simp
    with_reducible rfl
   rotate_left
   ·simp only [Act.put, sia_, scz_, scs_, i64_w, i32_w]
    rfl
   refine pure_ (i := 3) (N := some 12) (v := ?_) (a' := ?_) #[true, true, true, true, false, false, false, false, false, false, false, false, false, false] rfl rfl (any_of HT_.out (by kernel_rfl)) (fun _ _ _ h => h) (Or.inl ⟨by rfl, ?_⟩) ?_ ?_
   rotate_left
   ·intro w'
    go_simp
    with_reducible rfl
   rotate_left
   ·simp only [Act.put, sia_, scz_, scs_, i64_w, i32_w]
    rfl
   refine pure_ (i := 4) (N := some 13) (v := ?_) (a' := ?_) #[true, true, true, true, true, false, false, false, false, false, false, false, false, false] rfl rfl (any_of HT_.out (by kernel_rfl)) (fun _ _ _ h => h) (Or.inl ⟨by rfl, ?_⟩) ?_ ?_
   rotate_left
   ·intro w'
    go_simp
    with_reducible rfl
   rotate_left
   ·simp only [Act.put, sia_, scz_, scs_, i64_w, i32_w]
    rfl
   refine pure_ (i := 5) (N := some 14) (v := ?_) (a' := ?_) #[true, true, true, true, true, true, false, false, false, false, false, false, false, false] rfl rfl (any_of HT_.out (by kernel_rfl)) (fun _ _ _ h => h) (Or.inl ⟨by rfl, ?_⟩) ?_ ?_
   rotate_left
   ·intro w'
    go_simp
    with_reducible rfl
   rotate_left
   ·simp only [Act.put, sia_, scz_, scs_, i64_w, i32_w]
    rfl
   refine take_ (i := 6) (N := some 15) (v := ?_) (a' := ?_) #[true, true, true, true, true, true, true, false, false, false, false, false, false, false] rfl rfl (take_ofW HT_.out HW_.out (by kernel_rfl)) (fun _ _ _ h => h) (Or.inl ⟨by rfl, ?_⟩) hHeld ?_ ?_
   rotate_left
   ·rintro w' ⟨s0, s1, s2⟩
    go_simp
    with_reducible rfl
   rotate_left
   ·simp only [Act.put, sia_, scz_, scs_, i64_w, i32_w]
    rfl
   refine pure_ (i := 7) (N := some 16) (v := ?_) (a' := ?_) #[true, true, true, true, true, true, true, true, false, false, false, false, false, false] rfl rfl (any_of HT_.out (by kernel_rfl)) (fun _ _ _ h => h) (Or.inl ⟨by rfl, ?_⟩) ?_ ?_
   rotate_left
   ·intro w'
    go_simp
    with_reducible rfl
   rotate_left
   ·simp only [Act.put, sia_, scz_, scs_, i64_w, i32_w]
    rfl
   refine take_ (i := 8) (N := some 17) (v := ?_) (a' := ?_) #[true, true, true, true, true, true, true, true, true, false, false, false, false, false] rfl rfl (take_ofW HT_.out HW_.out (by kernel_rfl)) (fun _ _ _ h => h) (Or.inl ⟨by rfl, ?_⟩) hHeld ?_ ?_
   rotate_left
   ·rintro w' ⟨s0, s1, s2⟩
    go_simp
    with_reducible rfl
   rotate_left
   ·simp only [Act.put, sia_, scz_, scs_, i64_w, i32_w]
    rfl
   refine one_ (i := 9) (N := some 18) #[true, true, true, true, true, true, true, true, true, true, false, false, false, false] rfl rfl (one_of HT_.out (by kernel_rfl)) (by decide) (fun K hK => ?_)
   refine goes_ Try.func71 (by kernel_rfl) rfl #[.agg #[.int .i64 a0_0, .int .i64 a0_1, .slice A0_2 l0_2.length c0_2]] (by rfl) rfl rfl (by (try simp only [List.map_toArray, List.map_cons, List.map_nil]); first | done | rfl | (simp only [List.length_drop, List.length_take]; rfl)) ?_
   with_reducible refine (spec_l06Last.calls a0_0 a0_1 _ _ l0_2 t150 _ ?side1 ?side2 A10.out).mono ?_
   (case side1 => repeat (first | exact (Kd.C_below HR0_2.out HB.out) | (with_reducible refine Kd.C_alloc ?_ _) | (with_reducible refine Kd.C_drewN ?_ _) | (with_reducible refine Kd.C_drew ?_)))
   (case side2 => exact HC0_2.out)
   rintro e w14 ⟨rfl, hb⟩
   refine ⟨_, rfl, ?_⟩
   have n0_ := bb_ BK146 hb; have n1_ := bb_ BK147 hb; have n2_ := bb_ BK148 hb
   have n3_ := bs_ HB hb
   clear BK146; clear BK147; clear BK148; clear HB; have BK146 := n0_; have BK147 := n1_; have BK148 := n2_; have HB := n3_; clear n0_ n1_ n2_ n3_; (try clear hb); (try clear hb2); (try clear hk); (try clear hi)
   refine hK.out _ _ ⟨bc_ BK146 0, bc_ BK146 1, bc_ BK146 2⟩ (fun hHeld => ?_)
   clear hK K
   refine norm_ (a' := ?_) ?_ ?_
   rotate_left
   ·show Act.put _ (some 18) _ = _
    simp only [Act.put, sia_, scz_, scs_, i64_w, i32_w]
    rfl
   refine pure_ (i := 10) (N := some 19) (v := ?_) (a' := ?_) #[true, true, true, true, true, true, true, true, true, true, true, false, false, false] rfl rfl (any_of HT_.out (by kernel_rfl)) (fun _ _ _ h => h) (Or.inl ⟨by rfl, ?_⟩) ?_ ?_
   rotate_left
   ·intro w'
    go_simp
    with_reducible rfl
   rotate_left
   ·simp only [Act.put, sia_, scz_, scs_, i64_w, i32_w]
    rfl
   refine one_ (i := 11) (N := some 20) #[true, true, true, true, true, true, true, true, true, true, true, true, false, false] rfl rfl (one_of HT_.out (by kernel_rfl)) (by decide) (fun K hK => ?_)
   refine goes_ Try.func70 (by kernel_rfl) rfl #[.int .i64 a1, .int .i64 (wrap64 (a0_0 + 1)), .int .i64 (wrap64 (t150 + 1))] (by rfl) rfl rfl (by (try simp only [List.map_toArray, List.map_cons, List.map_nil]); first | done | rfl | (simp only [List.length_drop, List.length_take]; rfl)) ?_
   with_reducible refine (spec_l01In.calls a1 (wrap64 (a0_0 + 1)) (wrap64 (t150 + 1)) t151 _ A11.out).mono ?_
   rintro e w' ⟨rfl, ⟨nd, rfl⟩⟩
   refine ⟨_, rfl, ?_⟩
   refine hK.out _ _ ⟨bc_ BK146 0, bc_ BK146 1, bc_ BK146 2⟩ (fun hHeld => ?_)
   clear hK K
   refine norm_ (a' := ?_) ?_ ?_
   rotate_left
   ·show Act.put _ (some 20) _ = _
    simp only [Act.put, sia_, scz_, scs_, i64_w, i32_w]
    rfl
   refine pure_ (i := 12) (N := some 21) (v := ?_) (a' := ?_) #[true, true, true, true, true, true, true, true, true, true, true, true, true, false] rfl rfl (any_of HT_.out (by kernel_rfl)) (fun _ _ _ h => h) (Or.inl ⟨by rfl, ?_⟩) ?_ ?_
   rotate_left
   ·intro w'
    go_simp
    with_reducible rfl
   rotate_left
   ·simp only [Act.put, sia_, scz_, scs_, i64_w, i32_w]
    rfl
   refine pure_ (i := 13) (N := some 22) (v := ?_) (a' := ?_) #[true, true, true, true, true, true, true, true, true, true, true, true, true, true] rfl rfl (any_of HT_.out (by kernel_rfl)) (fun _ _ _ h => h) (Or.inl ⟨by rfl, ?_⟩) ?_ ?_
   rotate_left
   ·intro w'
    go_simp
    with_reducible rfl
   rotate_left
   ·simp only [Act.put, sia_, scz_, scs_, i64_w, i32_w]
    rfl
   refine done_ (done_of HT_.out (by kernel_rfl)) ?_
   try go_wp2
   go_meet
   case rel => exact ⟨_, (!t151), (by first | rfl | (simp; done) | (simp [*]; done)), H', ⟨by first | omega | exact Nat.le_refl _⟩, ⟨by (with_reducible repeat (first | refine blk_drewN ?_ _ | refine blk_drew ?_ | refine blk_alloc ?_ _)); exact BK146.out⟩, ⟨by (with_reducible repeat (first | refine blk_drewN ?_ _ | refine blk_drew ?_ | refine blk_alloc ?_ _)); exact BK147.out⟩, ⟨by (with_reducible repeat (first | refine blk_drewN ?_ _ | refine blk_drew ?_ | refine blk_alloc ?_ _)); exact BK148.out⟩, ⟨by repeat (first | (with_reducible first | exact HB.out | apply below_alloc | apply pw_below_drewN | apply below_drew1 | refine below_set ?_ GE146.out | refine below_set ?_ GE147.out | refine below_set ?_ GE148.out) | exact HB.out)⟩⟩
  ·replace c9 := Bool.eq_false_iff.mpr c9
   subst c9
   have H1 : (spec_LogPut.j0 k a1 true a0_0 a0_1 l0_2 a2_0 a2_1 a2_2) = some (r1, r2, r3, r4) := by rw [if_neg (show ¬ (false = true) by decide)] at H; exact H
   clear H
   have H := H1
   clear H1
   have H' := Aside0.mk H
   clear H
   try go_wp2
   have n0_ := mk_ (blk_drew BK146.out)
   have n1_ := mk_ (blk_drew BK147.out)
   have n2_ := mk_ (blk_drew BK148.out)
   have n3_ := mk_ (below_drew1 HB.out)
   clear BK146; clear BK147; clear BK148; clear HB; have BK146 := n0_; have BK147 := n1_; have BK148 := n2_; have HB := n3_; clear n0_ n1_ n2_ n3_
   refine start_ (n := 14) (S := fun w' => w'.cell? ⟨gb146, 0, none⟩ = some (.int .i64 a0_0) ∧ w'.cell? ⟨gb146, 1, none⟩ = some (.int .i64 a0_1) ∧ w'.cell? ⟨gb146, 2, none⟩ = some (.slice A0_2 l0_2.length c0_2)) (ds := []) #[false, false, false, false, false, false, false, false, false, false, false, false, false, false] (by kernel_rfl) rfl rfl ⟨bc_ BK146 0, bc_ BK146 1, bc_ BK146 2⟩ (fun hHeld => ?_); refine with_tabW spec_LogPut.tab1 spec_LogPut.bits1 (fun HT_ HW_ => ?_)
   generalize w7.drew = w15 at BK146 BK147 BK148 HB hHeld ⊢
   refine take_ (i := 0) (N := some 9) (v := ?_) (a' := ?_) #[true, false, false, false, false, false, false, false, false, false, false, false, false, false] rfl rfl (take_ofW HT_.out HW_.out (by kernel_rfl)) (fun _ _ _ h => h) (Or.inl ⟨by rfl, ?_⟩) hHeld ?_ ?_
   rotate_left
   ·rintro w' ⟨s0, s1, s2⟩
    go_simp
    with_reducible rfl
   rotate_left
   ·simp only [Act.put, sia_, scz_, scs_, i64_w, i32_w]
    rfl
   refine one_ (i := 1) (N := some 10) #[true, true, false, false, false, false, false, false, false, false, false, false, false, false] rfl rfl (one_of HT_.out (by kernel_rfl)) (by decide) (fun K hK => ?_)
   refine goes_ Try.func69 (by kernel_rfl) rfl #[.agg #[.int .i64 a0_0, .int .i64 a0_1, .slice A0_2 l0_2.length c0_2]] (by rfl) rfl rfl (by (try simp only [List.map_toArray, List.map_cons, List.map_nil]); first | done | rfl | (simp only [List.length_drop, List.length_take]; rfl)) ?_
   with_reducible refine (spec_LogOk.calls k a0_0 a0_1 _ _ l0_2 false _ ?side1 ?side2 A8.out).mono ?_
   (case side1 => repeat (first | exact (Kd.C_below HR0_2.out HB.out) | (with_reducible refine Kd.C_alloc ?_ _) | (with_reducible refine Kd.C_drewN ?_ _) | (with_reducible refine Kd.C_drew ?_)))
   (case side2 => exact HC0_2.out)
   rintro e w16 ⟨rfl, hb⟩
   refine ⟨_, rfl, ?_⟩
   have n0_ := bb_ BK146 hb; have n1_ := bb_ BK147 hb; have n2_ := bb_ BK148 hb
   have n3_ := bs_ HB hb
   clear BK146; clear BK147; clear BK148; clear HB; have BK146 := n0_; have BK147 := n1_; have BK148 := n2_; have HB := n3_; clear n0_ n1_ n2_ n3_; (try clear hb); (try clear hb2); (try clear hk); (try clear hi)
   refine hK.out _ _ ⟨bc_ BK146 0, bc_ BK146 1, bc_ BK146 2⟩ (fun hHeld => ?_)
   clear hK K
   refine norm_ (a' := ?_) ?_ ?_
   rotate_left
   ·show Act.put _ (some 10) _ = _
    simp only [Act.put, sia_, scz_, scs_, i64_w, i32_w]
    rfl
   refine pure_ (i := 2) (N := some 11) (v := ?_) (a' := ?_) #[true, true, true, false, false, false, false, false, false, false, false, false, false, false] rfl rfl (any_of HT_.out (by kernel_rfl)) (fun _ _ _ h => h) (Or.inl ⟨by rfl, ?_⟩) ?_ ?_
   rotate_left
   ·intro w'
    go_simp
    with_reducible rfl
   rotate_left
   ·simp only [Act.put, sia_, scz_, scs_, i64_w, i32_w]
    rfl
   refine pure_ (i := 3) (N := some 12) (v := ?_) (a' := ?_) #[true, true, true, true, false, false, false, false, false, false, false, false, false, false] rfl rfl (any_of HT_.out (by kernel_rfl)) (fun _ _ _ h => h) (Or.inl ⟨by rfl, ?_⟩) ?_ ?_
   rotate_left
   ·intro w'
    go_simp
    with_reducible rfl
   rotate_left
   ·simp only [Act.put, sia_, scz_, scs_, i64_w, i32_w]
    rfl
   refine pure_ (i := 4) (N := some 13) (v := undef) (a' := ?_) #[true, true, true, true, true, false, false, false, false, false, false, false, false, false] rfl rfl (any_of HT_.out (by kernel_rfl)) (fun _ _ _ h => h) (Or.inr ⟨by rfl, rfl⟩) ?_ ?_
   rotate_left
   ·simp only [Act.put, sia_, scz_, scs_, i64_w, i32_w]
    rfl
   refine pure_ (i := 5) (N := some 14) (v := undef) (a' := ?_) #[true, true, true, true, true, true, false, false, false, false, false, false, false, false] rfl rfl (any_of HT_.out (by kernel_rfl)) (fun _ _ _ h => h) (Or.inr ⟨by rfl, rfl⟩) ?_ ?_
   rotate_left
   ·simp only [Act.put, sia_, scz_, scs_, i64_w, i32_w]
    rfl
   refine pure_ (i := 6) (N := some 15) (v := undef) (a' := ?_) #[true, true, true, true, true, true, true, false, false, false, false, false, false, false] rfl rfl (any_of HT_.out (by kernel_rfl)) (fun _ _ _ h => h) (Or.inr ⟨by rfl, rfl⟩) ?_ ?_
   rotate_left
   ·simp only [Act.put, sia_, scz_, scs_, i64_w, i32_w]
    rfl
   refine pure_ (i := 7) (N := some 16) (v := undef) (a' := ?_) #[true, true, true, true, true, true, true, true, false, false, false, false, false, false] rfl rfl (any_of HT_.out (by kernel_rfl)) (fun _ _ _ h => h) (Or.inr ⟨by rfl, rfl⟩) ?_ ?_
   rotate_left
   ·simp only [Act.put, sia_, scz_, scs_, i64_w, i32_w]
    rfl
   refine pure_ (i := 8) (N := some 17) (v := undef) (a' := ?_) #[true, true, true, true, true, true, true, true, true, false, false, false, false, false] rfl rfl (any_of HT_.out (by kernel_rfl)) (fun _ _ _ h => h) (Or.inr ⟨by rfl, rfl⟩) ?_ ?_
   rotate_left
   ·simp only [Act.put, sia_, scz_, scs_, i64_w, i32_w]
    rfl
   refine pure_ (i := 9) (N := some 18) (v := undef) (a' := ?_) #[true, true, true, true, true, true, true, true, true, true, false, false, false, false] rfl rfl (any_of HT_.out (by kernel_rfl)) (fun _ _ _ h => h) (Or.inr ⟨by rfl, rfl⟩) ?_ ?_
   rotate_left
   ·simp only [Act.put, sia_, scz_, scs_, i64_w, i32_w]
    rfl
   refine pure_ (i := 10) (N := some 19) (v := undef) (a' := ?_) #[true, true, true, true, true, true, true, true, true, true, true, false, false, false] rfl rfl (any_of HT_.out (by kernel_rfl)) (fun _ _ _ h => h) (Or.inr ⟨by rfl, rfl⟩) ?_ ?_
   rotate_left
   ·simp only [Act.put, sia_, scz_, scs_, i64_w, i32_w]
    rfl
   refine pure_ (i := 11) (N := some 20) (v := undef) (a' := ?_) #[true, true, true, true, true, true, true, true, true, true, true, true, false, false] rfl rfl (any_of HT_.out (by kernel_rfl)) (fun _ _ _ h => h) (Or.inr ⟨by rfl, rfl⟩) ?_ ?_
   rotate_left
   ·simp only [Act.put, sia_, scz_, scs_, i64_w, i32_w]
    rfl
   refine pure_ (i := 12) (N := some 21) (v := undef) (a' := ?_) #[true, true, true, true, true, true, true, true, true, true, true, true, true, false] rfl rfl (any_of HT_.out (by kernel_rfl)) (fun _ _ _ h => h) (Or.inr ⟨by rfl, rfl⟩) ?_ ?_
   rotate_left
   ·simp only [Act.put, sia_, scz_, scs_, i64_w, i32_w]
    rfl
   refine pure_ (i := 13) (N := some 22) (v := ?_) (a' := ?_) #[true, true, true, true, true, true, true, true, true, true, true, true, true, true] rfl rfl (any_of HT_.out (by kernel_rfl)) (fun _ _ _ h => h) (Or.inl ⟨by rfl, ?_⟩) ?_ ?_
   rotate_left
   ·intro w'
    go_simp
    with_reducible rfl
   rotate_left
   ·simp only [Act.put, sia_, scz_, scs_, i64_w, i32_w]
    rfl
   refine done_ (done_of HT_.out (by kernel_rfl)) ?_
   try go_wp2
   go_meet
   case rel => exact ⟨_, (true), (by first | rfl | (simp; done) | (simp [*]; done)), H', ⟨by first | omega | exact Nat.le_refl _⟩, ⟨by (with_reducible repeat (first | refine blk_drewN ?_ _ | refine blk_drew ?_ | refine blk_alloc ?_ _)); exact BK146.out⟩, ⟨by (with_reducible repeat (first | refine blk_drewN ?_ _ | refine blk_drew ?_ | refine blk_alloc ?_ _)); exact BK147.out⟩, ⟨by (with_reducible repeat (first | refine blk_drewN ?_ _ | refine blk_drew ?_ | refine blk_alloc ?_ _)); exact BK148.out⟩, ⟨by repeat (first | (with_reducible first | exact HB.out | apply below_alloc | apply pw_below_drewN | apply below_drew1 | refine below_set ?_ GE146.out | refine below_set ?_ GE147.out | refine below_set ?_ GE148.out) | exact HB.out)⟩⟩
 case rest =>
  clear HC4
  try clear c1
  try clear p2
  try clear c6
  try clear p6
  try clear c7
  try clear c9
  try clear c15
  obtain ⟨kq, x22_3, rfl, HA, HJ3, BK146, BK147, BK148, HB⟩ := hcut
  cases kq with
  | zero => exact absurd HA.out (by simp [spec_LogPut.j0])
  | succ kj3 =>
   have H := HA.out
   clear HA
   simp only [spec_LogPut.j0] at H
   by_cases c17 : x22_3 = true
   ·subst c17
    have H1 : (some (0, 0, ([] : List (S35)), false)) = some (r1, r2, r3, r4) := by rw [if_pos rfl] at H; exact H
    clear H
    have H := H1
    clear H1
    simp only [Option.some.injEq, Prod.mk.injEq] at H
    obtain ⟨rfl, rfl, rfl, rfl⟩ := H
    have hnb18 := NB148_146.out
    have hnc18 := NB146_148.out
    have hnb19 := NB148_147.out
    have hnc19 := NB147_148.out
    have hcz20_0 : wc.cell? ⟨gb148, 0, none⟩ = some (.int .i64 0) := bc_ BK148 0
    have hcz20_1 : wc.cell? ⟨gb148, 1, none⟩ = some (.int .i64 0) := bc_ BK148 1
    have hcz20_2 : wc.cell? ⟨gb148, 2, none⟩ = some (.slice none 0 0) := bc_ BK148 2
    have hfz20_0 := blk_frozen BK148.out 0
    have hfz20_1 := blk_frozen BK148.out 1
    have hfz20_2 := blk_frozen BK148.out 2
    go_wp2
    refine bodyPost_ret (results_ct rfl _ _ gb148 31 #[.int .i64 0, .int .i64 0, .slice none 0 0] (0, 0) _ rfl (by (with_reducible repeat (first | refine blk_drewN ?_ _ | refine blk_drew ?_ | refine blk_alloc ?_ _)); refine blk_put (cs := #[.int .i64 0, .int .i64 0, .slice none 0 0]) ?_ 2 _ rfl; (with_reducible repeat (first | refine blk_drewN ?_ _ | refine blk_drew ?_ | refine blk_alloc ?_ _)); refine blk_put (cs := #[.int .i64 0, .int .i64 0, .slice none 0 0]) ?_ 1 _ rfl; (with_reducible repeat (first | refine blk_drewN ?_ _ | refine blk_drew ?_ | refine blk_alloc ?_ _)); refine blk_put (cs := #[.int .i64 0, .int .i64 0, .slice none 0 0]) ?_ 0 _ rfl; (with_reducible repeat (first | refine blk_drewN ?_ _ | refine blk_drew ?_ | refine blk_alloc ?_ _)); exact BK148.out) Try.underlying31 rfl (by kernel_rfl)) rfl ?_
    exact ⟨_, by first | rfl | (simp [errW_none, errW_some] <;> rfl) | (simp [*, errW_none, errW_some] <;> rfl), by first | exact Kd.R_nil _ _ _ _ _ | exact Kd.N_nil _ _ _ _ _ | exact Kd.V_nil _ _ _ _ _ | exact Kd.Q_nil _ _ _ _ _ | exact Kd.S_nil _ _ _ _ _, by repeat (first | (with_reducible first | exact HB.out | apply below_alloc | apply pw_below_drewN | apply below_drew1 | refine below_set ?_ GE146.out | refine below_set ?_ GE147.out | refine below_set ?_ GE148.out) | exact HB.out)⟩
   ·replace c17 := Bool.eq_false_iff.mpr c17
    subst c17
    have H1 : ((some (([] : List (S35)) : List (S35))).bind fun y152 => (if 0 ≤ (wrap64 ((wrap64 (a1 - a0_0)) - 1)) then (if (wrap64 ((wrap64 (a1 - a0_0)) - 1)) ≤ (l0_2.length : Int) then ((some (l0_2.take ((wrap64 ((wrap64 (a1 - a0_0)) - 1)) : Int).toNat : List (S35))).bind fun y155 => (if y152.length + y155.length < 4398046511104 then ((some (y152 ++ y155 : List (S35))).bind fun y159 => ((some (([(⟨a2_0, a2_1, a2_2⟩ : S35)] : List (S35)) : List (S35))).bind fun y162 => (if y159.length + y162.length < 4398046511104 then ((some (y159 ++ y162 : List (S35))).bind fun y165 => ((spec_LogOk.f kj3 a0_0 a0_1 y165).bind fun t169 => (if t169 = true then (some (a0_0, a0_1, y165, true)) else (some (0, 0, ([] : List (S35)), false))))) else (none)))) else (none))) else (none)) else (none))) = some (r1, r2, r3, r4) := by rw [if_neg (show ¬ (false = true) by decide)] at H; exact H
    clear H
    have H := H1
    clear H1
    obtain ⟨y152, hy152⟩ : ∃ y_ : List (S35), y_ = (([] : List (S35))) := ⟨_, rfl⟩
    replace H : (if 0 ≤ (wrap64 ((wrap64 (a1 - a0_0)) - 1)) then (if (wrap64 ((wrap64 (a1 - a0_0)) - 1)) ≤ (l0_2.length : Int) then ((some (l0_2.take ((wrap64 ((wrap64 (a1 - a0_0)) - 1)) : Int).toNat : List (S35))).bind fun y155 => (if y152.length + y155.length < 4398046511104 then ((some (y152 ++ y155 : List (S35))).bind fun y159 => ((some (([(⟨a2_0, a2_1, a2_2⟩ : S35)] : List (S35)) : List (S35))).bind fun y162 => (if y159.length + y162.length < 4398046511104 then ((some (y159 ++ y162 : List (S35))).bind fun y165 => ((spec_LogOk.f kj3 a0_0 a0_1 y165).bind fun t169 => (if t169 = true then (some (a0_0, a0_1, y165, true)) else (some (0, 0, ([] : List (S35)), false))))) else (none)))) else (none))) else (none)) else (none)) = some (r1, r2, r3, r4) := by first | (rw [hy152]; with_reducible exact H) | (have H2_ := (Option.bind_some _ _).symm.trans H; rw [hy152]; with_reducible exact H2_) | (have H2_ := (Option.bind_some _ _).symm.trans H; with_reducible exact H2_) | with_reducible exact H | (rw [hy152]; exact H) | exact H
    have Ny152 := Aside0.mk hy152
    clear hy152
    obtain ⟨ji21, hji21⟩ : ∃ j_ : Int, (wrap64 ((wrap64 (a1 - a0_0)) - 1)) = j_ := ⟨_, rfl⟩
    replace H : (if 0 ≤ (ji21) then (if (ji21) ≤ (l0_2.length : Int) then ((some (l0_2.take ((ji21) : Int).toNat : List (S35))).bind fun y155 => (if y152.length + y155.length < 4398046511104 then ((some (y152 ++ y155 : List (S35))).bind fun y159 => ((some (([(⟨a2_0, a2_1, a2_2⟩ : S35)] : List (S35)) : List (S35))).bind fun y162 => (if y159.length + y162.length < 4398046511104 then ((some (y159 ++ y162 : List (S35))).bind fun y165 => ((spec_LogOk.f kj3 a0_0 a0_1 y165).bind fun t169 => (if t169 = true then (some (a0_0, a0_1, y165, true)) else (some (0, 0, ([] : List (S35)), false))))) else (none)))) else (none))) else (none)) else (none)) = some (r1, r2, r3, r4) := by first | (rw [hji21] at H; exact H) | (simp only [hji21] at H ⊢; exact H)
    have hji21w : (IntKind.i64.wrap ((wrap64 (a1 - a0_0)) - 1)) = ji21 := (i64_w _).trans hji21
    by_cases c22 : 0 ≤ (ji21)
    ·rw [if_pos c22] at H
     have c22b0 := eq_true c22
     have c22b1 : decide (0 ≤ (ji21)) = true := decide_eq_true c22
     clear c22
     by_cases c23 : (ji21) ≤ (l0_2.length : Int)
     ·rw [if_pos c23] at H
      have c23b0 := eq_true c23
      have c23b1 : decide ((ji21) ≤ (l0_2.length : Int)) = true := decide_eq_true c23
      clear c23
      obtain ⟨y155, hy155⟩ : ∃ y_ : List (S35), y_ = (l0_2.take ((ji21) : Int).toNat) := ⟨_, rfl⟩
      replace H : (if y152.length + y155.length < 4398046511104 then ((some (y152 ++ y155 : List (S35))).bind fun y159 => ((some (([(⟨a2_0, a2_1, a2_2⟩ : S35)] : List (S35)) : List (S35))).bind fun y162 => (if y159.length + y162.length < 4398046511104 then ((some (y159 ++ y162 : List (S35))).bind fun y165 => ((spec_LogOk.f kj3 a0_0 a0_1 y165).bind fun t169 => (if t169 = true then (some (a0_0, a0_1, y165, true)) else (some (0, 0, ([] : List (S35)), false))))) else (none)))) else (none)) = some (r1, r2, r3, r4) := by first | (rw [hy155]; with_reducible exact H) | (have H2_ := (Option.bind_some _ _).symm.trans H; rw [hy155]; with_reducible exact H2_) | (have H2_ := (Option.bind_some _ _).symm.trans H; with_reducible exact H2_) | with_reducible exact H | (rw [hy155]; exact H) | exact H
      have Ny155 := Aside0.mk hy155
      clear hy155
      by_cases c24 : y152.length + y155.length < 4398046511104
      ·rw [if_pos c24] at H
       have LMc24 := Aside0.mk c24
       clear c24
       obtain ⟨y159, hy159⟩ : ∃ y_ : List (S35), y_ = (y152 ++ y155) := ⟨_, rfl⟩
       replace H : ((some (([(⟨a2_0, a2_1, a2_2⟩ : S35)] : List (S35)) : List (S35))).bind fun y162 => (if y159.length + y162.length < 4398046511104 then ((some (y159 ++ y162 : List (S35))).bind fun y165 => ((spec_LogOk.f kj3 a0_0 a0_1 y165).bind fun t169 => (if t169 = true then (some (a0_0, a0_1, y165, true)) else (some (0, 0, ([] : List (S35)), false))))) else (none))) = some (r1, r2, r3, r4) := by first | (rw [hy159]; with_reducible exact H) | (have H2_ := (Option.bind_some _ _).symm.trans H; rw [hy159]; with_reducible exact H2_) | (have H2_ := (Option.bind_some _ _).symm.trans H; with_reducible exact H2_) | with_reducible exact H | (rw [hy159]; exact H) | exact H
       have Ny159 := Aside0.mk hy159
       clear hy159
       obtain ⟨y162, hy162⟩ : ∃ y_ : List (S35), y_ = (([(⟨a2_0, a2_1, a2_2⟩ : S35)] : List (S35))) := ⟨_, rfl⟩
       replace H : (if y159.length + y162.length < 4398046511104 then ((some (y159 ++ y162 : List (S35))).bind fun y165 => ((spec_LogOk.f kj3 a0_0 a0_1 y165).bind fun t169 => (if t169 = true then (some (a0_0, a0_1, y165, true)) else (some (0, 0, ([] : List (S35)), false))))) else (none)) = some (r1, r2, r3, r4) := by first | (rw [hy162]; with_reducible exact H) | (have H2_ := (Option.bind_some _ _).symm.trans H; rw [hy162]; with_reducible exact H2_) | (have H2_ := (Option.bind_some _ _).symm.trans H; with_reducible exact H2_) | with_reducible exact H | (rw [hy162]; exact H) | exact H
       have Ny162 := Aside0.mk hy162
       clear hy162
       by_cases c25 : y159.length + y162.length < 4398046511104
       ·rw [if_pos c25] at H
        have LMc25 := Aside0.mk c25
        clear c25
        obtain ⟨y165, hy165⟩ : ∃ y_ : List (S35), y_ = (y159 ++ y162) := ⟨_, rfl⟩
        replace H : ((spec_LogOk.f kj3 a0_0 a0_1 y165).bind fun t169 => (if t169 = true then (some (a0_0, a0_1, y165, true)) else (some (0, 0, ([] : List (S35)), false)))) = some (r1, r2, r3, r4) := by first | (rw [hy165]; with_reducible exact H) | (have H2_ := (Option.bind_some _ _).symm.trans H; rw [hy165]; with_reducible exact H2_) | (have H2_ := (Option.bind_some _ _).symm.trans H; with_reducible exact H2_) | with_reducible exact H | (rw [hy165]; exact H) | exact H
        have Ny165 := Aside0.mk hy165
        clear hy165
        replace H := Option.bind_eq_some_iff.mp H
        obtain ⟨t169, A260, H⟩ := H
        replace H : (if t169 = true then (some (a0_0, a0_1, y165, true)) else (some (0, 0, ([] : List (S35)), false))) = some (r1, r2, r3, r4) := H
        have A26 := Aside0.mk A260
        clear A260
        by_cases c27 : t169 = true
        ·subst c27
         have H1 : (some (a0_0, a0_1, y165, true)) = some (r1, r2, r3, r4) := by rw [if_pos rfl] at H; exact H
         clear H
         have H := H1
         clear H1
         simp only [Option.some.injEq, Prod.mk.injEq] at H
         obtain ⟨rfl, rfl, rfl, rfl⟩ := H
         try go_wp2
         have n0_ := mk_ (blk_drew BK146.out)
         have n1_ := mk_ (blk_drew BK147.out)
         have n2_ := mk_ (blk_drew BK148.out)
         have n3_ := mk_ (below_drew1 HB.out)
         clear BK146; clear BK147; clear BK148; clear HB; have BK146 := n0_; have BK147 := n1_; have BK148 := n2_; have HB := n3_; clear n0_ n1_ n2_ n3_
         have q29 : ((ji21) : Int) ≤ ((l0_2.length : Int) : Int) := of_decide_eq_true (by first | (with_reducible assumption) | assumption)
         obtain ⟨i029, hi029, _, hsz29, _⟩ := info_parts info35
         have hroom29 : l0_2.length ≤ c0_2 := HC0_2.out
         have hC29 : Kd.C k35 _ A0_2 l0_2.length l0_2 := HR0_2.out
         have hcut29 := cut_to (P := Try.prog) 29 35 .i64 Try.underlying29 hi029 A0_2 l0_2.length c0_2 (ji21) (of_decide_eq_true (by first | (with_reducible assumption) | assumption)) q29 hroom29
         have hr29 := Kd.C_take (m := ((ji21) : Int).toNat) hC29 (by omega)
         have hy29 : y155.length = ((ji21) : Int).toNat := (by rw [Ny155.out, List.length_take]; omega)
         rw [← Ny155.out] at hr29
         rw [← hy29] at hcut29
         have HR158 := Aside0.mk hr29
         have HC158 := mk_ (show y155.length ≤ c0_2 from by omega)
         clear hr29 hC29 hroom29 hi029 hsz29
         have KY29 := Aside0.mk hy29
         clear hy29
         replace q29 := eq_true q29
         refine start_ (n := 20) (S := fun w' => w'.cell? ⟨gb146, 0, none⟩ = some (.int .i64 a0_0) ∧ w'.cell? ⟨gb146, 1, none⟩ = some (.int .i64 a0_1) ∧ w'.cell? ⟨gb146, 2, none⟩ = some (.slice A0_2 l0_2.length c0_2) ∧ w'.cell? ⟨gb147, 0, none⟩ = some (.int .i64 a2_0) ∧ w'.cell? ⟨gb147, 1, none⟩ = some (.int .i64 a2_1) ∧ w'.cell? ⟨gb147, 2, none⟩ = some (.string a2_2)) (ds := []) #[false, false, false, false, false, false, false, false, false, false, false, false, false, false, false, false, false, false, false, false] (by kernel_rfl) rfl rfl ⟨bc_ BK146 0, bc_ BK146 1, bc_ BK146 2, bc_ BK147 0, bc_ BK147 1, bc_ BK147 2⟩ (fun hHeld => ?_); refine with_tabW spec_LogPut.tab3 spec_LogPut.bits3 (fun HT_ HW_ => ?_)
         generalize wc.drew = w28 at BK146 BK147 BK148 HB HR158 hHeld ⊢
         refine pure_ (i := 0) (N := some 24) (v := ?_) (a' := ?_) #[true, false, false, false, false, false, false, false, false, false, false, false, false, false, false, false, false, false, false, false] rfl rfl (any_of HT_.out (by kernel_rfl)) (fun _ _ _ h => h) (Or.inl ⟨by rfl, ?_⟩) ?_ ?_
         rotate_left
         ·intro w'
          go_simp
          with_reducible rfl
         rotate_left
         ·simp only [Act.put, sia_, scz_, scs_, i64_w, i32_w]
          rfl
         refine pure_ (i := 2) (N := some 26) (v := ?_) (a' := ?_) #[true, false, true, false, false, false, false, false, false, false, false, false, false, false, false, false, false, false, false, false] rfl rfl (any_of HT_.out (by kernel_rfl)) (fun _ _ _ h => h) (Or.inl ⟨by rfl, ?_⟩) ?_ ?_
         rotate_left
         ·intro w'
          go_simp
          with_reducible rfl
         rotate_left
         ·simp only [Act.put, sia_, scz_, scs_, i64_w, i32_w]
          rfl
         refine pure_ (i := 5) (N := some 29) (v := ?_) (a' := ?_) #[true, false, true, false, false, true, false, false, false, false, false, false, false, false, false, false, false, false, false, false] rfl rfl (any_of HT_.out (by kernel_rfl)) (fun _ _ _ h => h) (Or.inl ⟨by rfl, ?_⟩) ?_ ?_
         rotate_left
         ·intro w'
          go_simp
          with_reducible rfl
         rotate_left
         ·simp only [Act.put, sia_, scz_, scs_, i64_w, i32_w]
          rfl
         refine pure_ (i := 7) (N := some 31) (v := ?_) (a' := ?_) #[true, false, true, false, false, true, false, true, false, false, false, false, false, false, false, false, false, false, false, false] rfl rfl (any_of HT_.out (by kernel_rfl)) (fun _ _ _ h => h) (Or.inl ⟨by rfl, ?_⟩) ?_ ?_
         rotate_left
         ·intro w'
          go_simp
          with_reducible rfl
         rotate_left
         ·simp only [Act.put, sia_, scz_, scs_, i64_w, i32_w]
          rfl
         refine pure_ (i := 8) (N := some 32) (v := ?_) (a' := ?_) #[true, false, true, false, false, true, false, true, true, false, false, false, false, false, false, false, false, false, false, false] rfl rfl (any_of HT_.out (by kernel_rfl)) (fun _ _ _ h => h) (Or.inl ⟨by rfl, ?_⟩) ?_ ?_
         rotate_left
         ·intro w'
          go_simp
          with_reducible rfl
         rotate_left
         ·simp only [Act.put, sia_, scz_, scs_, i64_w, i32_w]
          rfl
         refine take_ (i := 1) (N := some 25) (v := ?_) (a' := ?_) #[true, true, true, false, false, true, false, true, true, false, false, false, false, false, false, false, false, false, false, false] rfl rfl (take_ofW HT_.out HW_.out (by kernel_rfl)) (fun _ _ _ h => h) (Or.inl ⟨by rfl, ?_⟩) hHeld ?_ ?_
         rotate_left
         ·rintro w' ⟨s0, s1, s2, s3, s4, s5⟩
          go_simp
          with_reducible rfl
         rotate_left
         ·simp only [Act.put, sia_, scz_, scs_, i64_w, i32_w]
          rfl
         refine take_ (i := 3) (N := some 27) (v := ?_) (a' := ?_) #[true, true, true, true, false, true, false, true, true, false, false, false, false, false, false, false, false, false, false, false] rfl rfl (take_ofW HT_.out HW_.out (by kernel_rfl)) (fun _ _ _ h => h) (Or.inl ⟨by rfl, ?_⟩) hHeld ?_ ?_
         rotate_left
         ·rintro w' ⟨s0, s1, s2, s3, s4, s5⟩
          go_simp
          with_reducible rfl
         rotate_left
         ·simp only [Act.put, sia_, scz_, scs_, i64_w, i32_w]
          rfl
         refine take_ (i := 6) (N := some 30) (v := ?_) (a' := ?_) #[true, true, true, true, false, true, true, true, true, false, false, false, false, false, false, false, false, false, false, false] rfl rfl (take_ofW HT_.out HW_.out (by kernel_rfl)) (fun _ _ _ h => h) (Or.inl ⟨by rfl, ?_⟩) hHeld ?_ ?_
         rotate_left
         ·rintro w' ⟨s0, s1, s2, s3, s4, s5⟩
          go_simp
          with_reducible rfl
         rotate_left
         ·simp only [Act.put, sia_, scz_, scs_, i64_w, i32_w]
          rfl
         refine take_ (i := 9) (N := some 33) (v := ?_) (a' := ?_) #[true, true, true, true, false, true, true, true, true, true, false, false, false, false, false, false, false, false, false, false] rfl rfl (take_ofW HT_.out HW_.out (by kernel_rfl)) (fun _ _ _ h => h) (Or.inl ⟨by rfl, ?_⟩) hHeld ?_ ?_
         rotate_left
         ·rintro w' ⟨s0, s1, s2, s3, s4, s5⟩
          go_simp
          with_reducible rfl
         rotate_left
         ·simp only [Act.put, sia_, scz_, scs_, i64_w, i32_w]
          rfl
         refine pure_ (i := 10) (N := some 34) (v := ?_) (a' := ?_) #[true, true, true, true, false, true, true, true, true, true, true, false, false, false, false, false, false, false, false, false] rfl rfl (any_of HT_.out (by kernel_rfl)) (fun _ _ _ h => h) (Or.inl ⟨by rfl, ?_⟩) ?_ ?_
         rotate_left
         ·intro w'
          go_simp
          with_reducible rfl
         rotate_left
         ·simp only [Act.put, sia_, scz_, scs_, i64_w, i32_w]
          rfl
         refine pure_ (i := 11) (N := some 35) (v := ?_) (a' := ?_) #[true, true, true, true, false, true, true, true, true, true, true, true, false, false, false, false, false, false, false, false] rfl rfl (any_of HT_.out (by kernel_rfl)) (fun _ _ _ h => h) (Or.inl ⟨by rfl, ?_⟩) ?_ ?_
         rotate_left
         ·intro w'
          go_simp
          with_reducible rfl
         rotate_left
         ·simp only [Act.put, sia_, scz_, scs_, i64_w, i32_w]
          rfl
         refine pure_ (i := 12) (N := some 36) (v := ?_) (a' := ?_) #[true, true, true, true, false, true, true, true, true, true, true, true, true, false, false, false, false, false, false, false] rfl rfl (any_of HT_.out (by kernel_rfl)) (fun _ _ _ h => h) (Or.inl ⟨by rfl, ?_⟩) ?_ ?_
         rotate_left
         ·intro w'
          go_simp
          with_reducible rfl
         rotate_left
         ·simp only [Act.put, sia_, scz_, scs_, i64_w, i32_w]
          rfl
         refine take_ (i := 14) (N := some 38) (v := ?_) (a' := ?_) #[true, true, true, true, false, true, true, true, true, true, true, true, true, false, true, false, false, false, false, false] rfl rfl (take_ofW HT_.out HW_.out (by kernel_rfl)) (fun _ _ _ h => h) (Or.inl ⟨by rfl, ?_⟩) hHeld ?_ ?_
         rotate_left
         ·rintro w' ⟨s0, s1, s2, s3, s4, s5⟩
          go_simp
          with_reducible rfl
         rotate_left
         ·simp only [Act.put, sia_, scz_, scs_, i64_w, i32_w]
          rfl
         refine join_ (σ := Value × Value × Value × Value × Nat) 1 #[true, true, true, true, true, true, true, true, true, true, true, true, true, true, true, true, true, true, true, false] (fun s_ => [(28, s_.1), (37, s_.2.1), (39, s_.2.2.1), (40, s_.2.2.2.1), (8, .pointer (some ⟨s_.2.2.2.2, 0, none⟩)), (41, .agg #[.int .i64 a0_0, .int .i64 a0_1, s_.2.2.2.1])]) (fun s_ w' => (w'.cell? ⟨gb146, 0, none⟩ = some (.int .i64 a0_0) ∧ w'.cell? ⟨gb146, 1, none⟩ = some (.int .i64 a0_1) ∧ w'.cell? ⟨gb146, 2, none⟩ = some (.slice A0_2 l0_2.length c0_2) ∧ w'.cell? ⟨gb147, 0, none⟩ = some (.int .i64 a2_0) ∧ w'.cell? ⟨gb147, 1, none⟩ = some (.int .i64 a2_1) ∧ w'.cell? ⟨gb147, 2, none⟩ = some (.string a2_2)) ∧ (Kd.R k35 35 w' w.heap.size (fun k_ => some k_ ≠ (s_.2.2.2.1 : Value).ownBlock ∧ k_ ≠ gb147) s_.2.2.1 y162) ∧ (Kd.R k35 35 w' w.heap.size (fun k_ => some k_ ≠ (s_.2.2.1 : Value).ownBlock ∧ k_ ≠ gb147) s_.2.2.2.1 y165) ∧ (w'.heap[gb146]? = some (.cells #[.int .i64 a0_0, .int .i64 a0_1, .slice A0_2 l0_2.length c0_2] 31 (0, 0))) ∧ (w'.heap[gb147]? = some (.cells #[.int .i64 a2_0, .int .i64 a2_1, .string a2_2] 35 (0, 0))) ∧ (w'.heap[gb148]? = some (.cells #[.int .i64 0, .int .i64 0, .slice none 0 0] 31 (0, 0))) ∧ (w'.heap[s_.2.2.2.2]? = some (.cells #[.int .i64 0, .int .i64 0, .slice none 0 0] 31 (0, 0))) ∧ (w.heap.size ≤ s_.2.2.2.2) ∧ (w.heap.size ≤ s_.2.2.2.2) ∧ (gb146 ≠ s_.2.2.2.2) ∧ (s_.2.2.2.2 ≠ gb146) ∧ (gb147 ≠ s_.2.2.2.2) ∧ (s_.2.2.2.2 ≠ gb147) ∧ (gb148 ≠ s_.2.2.2.2) ∧ (s_.2.2.2.2 ≠ gb148) ∧ (Below w.heap.size w w')) ?_ ?_
         rotate_left
         ·intro hJ4_13_15_16_18
          refine join_ (σ := Value × Value × Value × Value) 2 #[true, true, true, true, true, true, true, true, true, true, true, true, true, true, true, true, true, true, false, false] (fun s_ => [(28, s_.1), (37, s_.2.1), (39, s_.2.2.1), (40, s_.2.2.2), (41, .agg #[.int .i64 a0_0, .int .i64 a0_1, s_.2.2.2])]) (fun s_ w' => (w'.cell? ⟨gb146, 0, none⟩ = some (.int .i64 a0_0) ∧ w'.cell? ⟨gb146, 1, none⟩ = some (.int .i64 a0_1) ∧ w'.cell? ⟨gb146, 2, none⟩ = some (.slice A0_2 l0_2.length c0_2) ∧ w'.cell? ⟨gb147, 0, none⟩ = some (.int .i64 a2_0) ∧ w'.cell? ⟨gb147, 1, none⟩ = some (.int .i64 a2_1) ∧ w'.cell? ⟨gb147, 2, none⟩ = some (.string a2_2)) ∧ (Kd.R k35 35 w' w.heap.size (fun k_ => some k_ ≠ (s_.2.2.2 : Value).ownBlock ∧ k_ ≠ gb147) s_.2.2.1 y162) ∧ (Kd.R k35 35 w' w.heap.size (fun k_ => some k_ ≠ (s_.2.2.1 : Value).ownBlock ∧ k_ ≠ gb147) s_.2.2.2 y165) ∧ (w'.heap[gb146]? = some (.cells #[.int .i64 a0_0, .int .i64 a0_1, .slice A0_2 l0_2.length c0_2] 31 (0, 0))) ∧ (w'.heap[gb147]? = some (.cells #[.int .i64 a2_0, .int .i64 a2_1, .string a2_2] 35 (0, 0))) ∧ (w'.heap[gb148]? = some (.cells #[.int .i64 0, .int .i64 0, .slice none 0 0] 31 (0, 0))) ∧ (Below w.heap.size w w')) ?_ ?_
          rotate_left
          ·intro hJ4_13_15_16
           refine join_ (σ := Value × Value × Value × Nat) 3 #[true, true, true, true, true, true, true, true, true, true, true, true, true, true, true, true, false, false, true, false] (fun s_ => [(28, s_.1), (37, s_.2.1), (39, s_.2.2.1), (8, .pointer (some ⟨s_.2.2.2, 0, none⟩))]) (fun s_ w' => (w'.cell? ⟨gb146, 0, none⟩ = some (.int .i64 a0_0) ∧ w'.cell? ⟨gb146, 1, none⟩ = some (.int .i64 a0_1) ∧ w'.cell? ⟨gb146, 2, none⟩ = some (.slice A0_2 l0_2.length c0_2) ∧ w'.cell? ⟨gb147, 0, none⟩ = some (.int .i64 a2_0) ∧ w'.cell? ⟨gb147, 1, none⟩ = some (.int .i64 a2_1) ∧ w'.cell? ⟨gb147, 2, none⟩ = some (.string a2_2)) ∧ (Kd.R k35 35 w' w.heap.size (fun k_ => some k_ ≠ (s_.2.2.1 : Value).ownBlock ∧ k_ ≠ gb147) s_.2.1 y159) ∧ (Kd.R k35 35 w' w.heap.size (fun k_ => some k_ ≠ (s_.2.1 : Value).ownBlock ∧ k_ ≠ gb147) s_.2.2.1 y162) ∧ (w'.heap[gb146]? = some (.cells #[.int .i64 a0_0, .int .i64 a0_1, .slice A0_2 l0_2.length c0_2] 31 (0, 0))) ∧ (w'.heap[gb147]? = some (.cells #[.int .i64 a2_0, .int .i64 a2_1, .string a2_2] 35 (0, 0))) ∧ (w'.heap[gb148]? = some (.cells #[.int .i64 0, .int .i64 0, .slice none 0 0] 31 (0, 0))) ∧ (w'.heap[s_.2.2.2]? = some (.cells #[.int .i64 0, .int .i64 0, .slice none 0 0] 31 (0, 0))) ∧ (w.heap.size ≤ s_.2.2.2) ∧ (w.heap.size ≤ s_.2.2.2) ∧ (gb146 ≠ s_.2.2.2) ∧ (s_.2.2.2 ≠ gb146) ∧ (gb147 ≠ s_.2.2.2) ∧ (s_.2.2.2 ≠ gb147) ∧ (gb148 ≠ s_.2.2.2) ∧ (s_.2.2.2 ≠ gb148) ∧ (Below w.heap.size w w')) ?_ ?_
           rotate_left
           ·intro hJ4_13_15_18
            refine join_ (σ := Value × Value × Value) 4 #[true, true, true, true, true, true, true, true, true, true, true, true, true, true, true, true, false, false, false, false] (fun s_ => [(28, s_.1), (37, s_.2.1), (39, s_.2.2)]) (fun s_ w' => (w'.cell? ⟨gb146, 0, none⟩ = some (.int .i64 a0_0) ∧ w'.cell? ⟨gb146, 1, none⟩ = some (.int .i64 a0_1) ∧ w'.cell? ⟨gb146, 2, none⟩ = some (.slice A0_2 l0_2.length c0_2) ∧ w'.cell? ⟨gb147, 0, none⟩ = some (.int .i64 a2_0) ∧ w'.cell? ⟨gb147, 1, none⟩ = some (.int .i64 a2_1) ∧ w'.cell? ⟨gb147, 2, none⟩ = some (.string a2_2)) ∧ (Kd.R k35 35 w' w.heap.size (fun k_ => some k_ ≠ (s_.2.2 : Value).ownBlock ∧ k_ ≠ gb147) s_.2.1 y159) ∧ (Kd.R k35 35 w' w.heap.size (fun k_ => some k_ ≠ (s_.2.1 : Value).ownBlock ∧ k_ ≠ gb147) s_.2.2 y162) ∧ (w'.heap[gb146]? = some (.cells #[.int .i64 a0_0, .int .i64 a0_1, .slice A0_2 l0_2.length c0_2] 31 (0, 0))) ∧ (w'.heap[gb147]? = some (.cells #[.int .i64 a2_0, .int .i64 a2_1, .string a2_2] 35 (0, 0))) ∧ (w'.heap[gb148]? = some (.cells #[.int .i64 0, .int .i64 0, .slice none 0 0] 31 (0, 0))) ∧ (Below w.heap.size w w')) ?_ ?_
            rotate_left
            ·intro hJ4_13_15
             refine join_ (σ := Value × Value × Nat) 4 #[true, true, true, true, true, true, true, true, true, true, true, true, true, true, true, false, false, false, true, false] (fun s_ => [(28, s_.1), (37, s_.2.1), (8, .pointer (some ⟨s_.2.2, 0, none⟩))]) (fun s_ w' => (w'.cell? ⟨gb146, 0, none⟩ = some (.int .i64 a0_0) ∧ w'.cell? ⟨gb146, 1, none⟩ = some (.int .i64 a0_1) ∧ w'.cell? ⟨gb146, 2, none⟩ = some (.slice A0_2 l0_2.length c0_2) ∧ w'.cell? ⟨gb147, 0, none⟩ = some (.int .i64 a2_0) ∧ w'.cell? ⟨gb147, 1, none⟩ = some (.int .i64 a2_1) ∧ w'.cell? ⟨gb147, 2, none⟩ = some (.string a2_2)) ∧ (Kd.R k35 35 w' w.heap.size (fun k_ => k_ ≠ gb147) s_.2.1 y159) ∧ (w'.heap[gb146]? = some (.cells #[.int .i64 a0_0, .int .i64 a0_1, .slice A0_2 l0_2.length c0_2] 31 (0, 0))) ∧ (w'.heap[gb147]? = some (.cells #[.int .i64 a2_0, .int .i64 a2_1, .string a2_2] 35 (0, 0))) ∧ (w'.heap[gb148]? = some (.cells #[.int .i64 0, .int .i64 0, .slice none 0 0] 31 (0, 0))) ∧ (w'.heap[s_.2.2]? = some (.cells #[.int .i64 0, .int .i64 0, .slice none 0 0] 31 (0, 0))) ∧ (w.heap.size ≤ s_.2.2) ∧ (w.heap.size ≤ s_.2.2) ∧ (gb146 ≠ s_.2.2) ∧ (s_.2.2 ≠ gb146) ∧ (gb147 ≠ s_.2.2) ∧ (s_.2.2 ≠ gb147) ∧ (gb148 ≠ s_.2.2) ∧ (s_.2.2 ≠ gb148) ∧ (Below w.heap.size w w')) ?_ ?_
             rotate_left
             ·intro hJ4_13_18
              refine join_ (σ := Value × Value × Nat) 4 #[true, true, true, true, true, true, true, true, true, true, true, true, true, false, true, true, false, false, true, false] (fun s_ => [(28, s_.1), (39, s_.2.1), (8, .pointer (some ⟨s_.2.2, 0, none⟩))]) (fun s_ w' => (w'.cell? ⟨gb146, 0, none⟩ = some (.int .i64 a0_0) ∧ w'.cell? ⟨gb146, 1, none⟩ = some (.int .i64 a0_1) ∧ w'.cell? ⟨gb146, 2, none⟩ = some (.slice A0_2 l0_2.length c0_2) ∧ w'.cell? ⟨gb147, 0, none⟩ = some (.int .i64 a2_0) ∧ w'.cell? ⟨gb147, 1, none⟩ = some (.int .i64 a2_1) ∧ w'.cell? ⟨gb147, 2, none⟩ = some (.string a2_2)) ∧ (Kd.R k35 35 w' w.heap.size (fun k_ => some k_ ≠ (s_.2.1 : Value).ownBlock ∧ k_ ≠ gb147) s_.1 y152) ∧ (Kd.R k35 35 w' w.heap.size (fun k_ => some k_ ≠ (s_.1 : Value).ownBlock ∧ k_ ≠ gb147) s_.2.1 y162) ∧ (w'.heap[gb146]? = some (.cells #[.int .i64 a0_0, .int .i64 a0_1, .slice A0_2 l0_2.length c0_2] 31 (0, 0))) ∧ (w'.heap[gb147]? = some (.cells #[.int .i64 a2_0, .int .i64 a2_1, .string a2_2] 35 (0, 0))) ∧ (w'.heap[gb148]? = some (.cells #[.int .i64 0, .int .i64 0, .slice none 0 0] 31 (0, 0))) ∧ (w'.heap[s_.2.2]? = some (.cells #[.int .i64 0, .int .i64 0, .slice none 0 0] 31 (0, 0))) ∧ (w.heap.size ≤ s_.2.2) ∧ (w.heap.size ≤ s_.2.2) ∧ (gb146 ≠ s_.2.2) ∧ (s_.2.2 ≠ gb146) ∧ (gb147 ≠ s_.2.2) ∧ (s_.2.2 ≠ gb147) ∧ (gb148 ≠ s_.2.2) ∧ (s_.2.2 ≠ gb148) ∧ (Below w.heap.size w w')) ?_ ?_
              rotate_left
              ·intro hJ4_15_18
               refine join_ (σ := Value × Value) 5 #[true, true, true, true, true, true, true, true, true, true, true, true, true, true, true, false, false, false, false, false] (fun s_ => [(28, s_.1), (37, s_.2)]) (fun s_ w' => (w'.cell? ⟨gb146, 0, none⟩ = some (.int .i64 a0_0) ∧ w'.cell? ⟨gb146, 1, none⟩ = some (.int .i64 a0_1) ∧ w'.cell? ⟨gb146, 2, none⟩ = some (.slice A0_2 l0_2.length c0_2) ∧ w'.cell? ⟨gb147, 0, none⟩ = some (.int .i64 a2_0) ∧ w'.cell? ⟨gb147, 1, none⟩ = some (.int .i64 a2_1) ∧ w'.cell? ⟨gb147, 2, none⟩ = some (.string a2_2)) ∧ (Kd.R k35 35 w' w.heap.size (fun k_ => k_ ≠ gb147) s_.2 y159) ∧ (w'.heap[gb146]? = some (.cells #[.int .i64 a0_0, .int .i64 a0_1, .slice A0_2 l0_2.length c0_2] 31 (0, 0))) ∧ (w'.heap[gb147]? = some (.cells #[.int .i64 a2_0, .int .i64 a2_1, .string a2_2] 35 (0, 0))) ∧ (w'.heap[gb148]? = some (.cells #[.int .i64 0, .int .i64 0, .slice none 0 0] 31 (0, 0))) ∧ (Below w.heap.size w w')) ?_ ?_
               rotate_left
               ·intro hJ4_13
                refine join_ (σ := Value × Value) 5 #[true, true, true, true, true, true, true, true, true, true, true, true, true, false, true, true, false, false, false, false] (fun s_ => [(28, s_.1), (39, s_.2)]) (fun s_ w' => (w'.cell? ⟨gb146, 0, none⟩ = some (.int .i64 a0_0) ∧ w'.cell? ⟨gb146, 1, none⟩ = some (.int .i64 a0_1) ∧ w'.cell? ⟨gb146, 2, none⟩ = some (.slice A0_2 l0_2.length c0_2) ∧ w'.cell? ⟨gb147, 0, none⟩ = some (.int .i64 a2_0) ∧ w'.cell? ⟨gb147, 1, none⟩ = some (.int .i64 a2_1) ∧ w'.cell? ⟨gb147, 2, none⟩ = some (.string a2_2)) ∧ (Kd.R k35 35 w' w.heap.size (fun k_ => some k_ ≠ (s_.2 : Value).ownBlock ∧ k_ ≠ gb147) s_.1 y152) ∧ (Kd.R k35 35 w' w.heap.size (fun k_ => some k_ ≠ (s_.1 : Value).ownBlock ∧ k_ ≠ gb147) s_.2 y162) ∧ (w'.heap[gb146]? = some (.cells #[.int .i64 a0_0, .int .i64 a0_1, .slice A0_2 l0_2.length c0_2] 31 (0, 0))) ∧ (w'.heap[gb147]? = some (.cells #[.int .i64 a2_0, .int .i64 a2_1, .string a2_2] 35 (0, 0))) ∧ (w'.heap[gb148]? = some (.cells #[.int .i64 0, .int .i64 0, .slice none 0 0] 31 (0, 0))) ∧ (Below w.heap.size w w')) ?_ ?_
                rotate_left
                ·intro hJ4_15
                 refine join_ (σ := Value × Nat) 5 #[true, true, true, true, true, true, true, true, true, true, true, true, true, false, true, false, false, false, true, false] (fun s_ => [(28, s_.1), (8, .pointer (some ⟨s_.2, 0, none⟩))]) (fun s_ w' => (w'.cell? ⟨gb146, 0, none⟩ = some (.int .i64 a0_0) ∧ w'.cell? ⟨gb146, 1, none⟩ = some (.int .i64 a0_1) ∧ w'.cell? ⟨gb146, 2, none⟩ = some (.slice A0_2 l0_2.length c0_2) ∧ w'.cell? ⟨gb147, 0, none⟩ = some (.int .i64 a2_0) ∧ w'.cell? ⟨gb147, 1, none⟩ = some (.int .i64 a2_1) ∧ w'.cell? ⟨gb147, 2, none⟩ = some (.string a2_2)) ∧ (Kd.R k35 35 w' w.heap.size (fun k_ => k_ ≠ gb147) s_.1 y152) ∧ (w'.heap[gb146]? = some (.cells #[.int .i64 a0_0, .int .i64 a0_1, .slice A0_2 l0_2.length c0_2] 31 (0, 0))) ∧ (w'.heap[gb147]? = some (.cells #[.int .i64 a2_0, .int .i64 a2_1, .string a2_2] 35 (0, 0))) ∧ (w'.heap[gb148]? = some (.cells #[.int .i64 0, .int .i64 0, .slice none 0 0] 31 (0, 0))) ∧ (w'.heap[s_.2]? = some (.cells #[.int .i64 0, .int .i64 0, .slice none 0 0] 31 (0, 0))) ∧ (w.heap.size ≤ s_.2) ∧ (w.heap.size ≤ s_.2) ∧ (gb146 ≠ s_.2) ∧ (s_.2 ≠ gb146) ∧ (gb147 ≠ s_.2) ∧ (s_.2 ≠ gb147) ∧ (gb148 ≠ s_.2) ∧ (s_.2 ≠ gb148) ∧ (Below w.heap.size w w')) ?_ ?_
                 rotate_left
                 ·intro hJ4_18
                  refine join_ (σ := Value × Nat) 5 #[true, true, true, true, false, true, true, true, true, true, true, true, true, false, true, true, false, false, true, false] (fun s_ => [(39, s_.1), (8, .pointer (some ⟨s_.2, 0, none⟩))]) (fun s_ w' => (w'.cell? ⟨gb146, 0, none⟩ = some (.int .i64 a0_0) ∧ w'.cell? ⟨gb146, 1, none⟩ = some (.int .i64 a0_1) ∧ w'.cell? ⟨gb146, 2, none⟩ = some (.slice A0_2 l0_2.length c0_2) ∧ w'.cell? ⟨gb147, 0, none⟩ = some (.int .i64 a2_0) ∧ w'.cell? ⟨gb147, 1, none⟩ = some (.int .i64 a2_1) ∧ w'.cell? ⟨gb147, 2, none⟩ = some (.string a2_2)) ∧ (Kd.R k35 35 w' w.heap.size (fun k_ => k_ ≠ gb147) s_.1 y162) ∧ (w'.heap[gb146]? = some (.cells #[.int .i64 a0_0, .int .i64 a0_1, .slice A0_2 l0_2.length c0_2] 31 (0, 0))) ∧ (w'.heap[gb147]? = some (.cells #[.int .i64 a2_0, .int .i64 a2_1, .string a2_2] 35 (0, 0))) ∧ (w'.heap[gb148]? = some (.cells #[.int .i64 0, .int .i64 0, .slice none 0 0] 31 (0, 0))) ∧ (w'.heap[s_.2]? = some (.cells #[.int .i64 0, .int .i64 0, .slice none 0 0] 31 (0, 0))) ∧ (w.heap.size ≤ s_.2) ∧ (w.heap.size ≤ s_.2) ∧ (gb146 ≠ s_.2) ∧ (s_.2 ≠ gb146) ∧ (gb147 ≠ s_.2) ∧ (s_.2 ≠ gb147) ∧ (gb148 ≠ s_.2) ∧ (s_.2 ≠ gb148) ∧ (Below w.heap.size w w')) ?_ ?_
                  rotate_left
                  ·intro hJ15_18
                   refine join_ (σ := Value) 6 #[true, true, true, true, true, true, true, true, true, true, true, true, true, false, true, false, false, false, false, false] (fun s_ => [(28, s_)]) (fun s_ w' => (w'.cell? ⟨gb146, 0, none⟩ = some (.int .i64 a0_0) ∧ w'.cell? ⟨gb146, 1, none⟩ = some (.int .i64 a0_1) ∧ w'.cell? ⟨gb146, 2, none⟩ = some (.slice A0_2 l0_2.length c0_2) ∧ w'.cell? ⟨gb147, 0, none⟩ = some (.int .i64 a2_0) ∧ w'.cell? ⟨gb147, 1, none⟩ = some (.int .i64 a2_1) ∧ w'.cell? ⟨gb147, 2, none⟩ = some (.string a2_2)) ∧ (Kd.R k35 35 w' w.heap.size (fun k_ => k_ ≠ gb147) s_ y152) ∧ (w'.heap[gb146]? = some (.cells #[.int .i64 a0_0, .int .i64 a0_1, .slice A0_2 l0_2.length c0_2] 31 (0, 0))) ∧ (w'.heap[gb147]? = some (.cells #[.int .i64 a2_0, .int .i64 a2_1, .string a2_2] 35 (0, 0))) ∧ (w'.heap[gb148]? = some (.cells #[.int .i64 0, .int .i64 0, .slice none 0 0] 31 (0, 0))) ∧ (Below w.heap.size w w')) ?_ ?_
                   rotate_left
                   ·intro hJ4
                    refine join_ (σ := Value) 6 #[true, true, true, true, false, true, true, true, true, true, true, true, true, false, true, true, false, false, false, false] (fun s_ => [(39, s_)]) (fun s_ w' => (w'.cell? ⟨gb146, 0, none⟩ = some (.int .i64 a0_0) ∧ w'.cell? ⟨gb146, 1, none⟩ = some (.int .i64 a0_1) ∧ w'.cell? ⟨gb146, 2, none⟩ = some (.slice A0_2 l0_2.length c0_2) ∧ w'.cell? ⟨gb147, 0, none⟩ = some (.int .i64 a2_0) ∧ w'.cell? ⟨gb147, 1, none⟩ = some (.int .i64 a2_1) ∧ w'.cell? ⟨gb147, 2, none⟩ = some (.string a2_2)) ∧ (Kd.R k35 35 w' w.heap.size (fun k_ => k_ ≠ gb147) s_ y162) ∧ (w'.heap[gb146]? = some (.cells #[.int .i64 a0_0, .int .i64 a0_1, .slice A0_2 l0_2.length c0_2] 31 (0, 0))) ∧ (w'.heap[gb147]? = some (.cells #[.int .i64 a2_0, .int .i64 a2_1, .string a2_2] 35 (0, 0))) ∧ (w'.heap[gb148]? = some (.cells #[.int .i64 0, .int .i64 0, .slice none 0 0] 31 (0, 0))) ∧ (Below w.heap.size w w')) ?_ ?_
                    rotate_left
                    ·intro hJ15
                     refine join_ (σ := Nat) 6 #[true, true, true, true, false, true, true, true, true, true, true, true, true, false, true, false, false, false, true, false] (fun s_ => [(8, .pointer (some ⟨s_, 0, none⟩))]) (fun s_ w' => (w'.cell? ⟨gb146, 0, none⟩ = some (.int .i64 a0_0) ∧ w'.cell? ⟨gb146, 1, none⟩ = some (.int .i64 a0_1) ∧ w'.cell? ⟨gb146, 2, none⟩ = some (.slice A0_2 l0_2.length c0_2) ∧ w'.cell? ⟨gb147, 0, none⟩ = some (.int .i64 a2_0) ∧ w'.cell? ⟨gb147, 1, none⟩ = some (.int .i64 a2_1) ∧ w'.cell? ⟨gb147, 2, none⟩ = some (.string a2_2)) ∧ (w'.heap[gb146]? = some (.cells #[.int .i64 a0_0, .int .i64 a0_1, .slice A0_2 l0_2.length c0_2] 31 (0, 0))) ∧ (w'.heap[gb147]? = some (.cells #[.int .i64 a2_0, .int .i64 a2_1, .string a2_2] 35 (0, 0))) ∧ (w'.heap[gb148]? = some (.cells #[.int .i64 0, .int .i64 0, .slice none 0 0] 31 (0, 0))) ∧ (w'.heap[s_]? = some (.cells #[.int .i64 0, .int .i64 0, .slice none 0 0] 31 (0, 0))) ∧ (w.heap.size ≤ s_) ∧ (w.heap.size ≤ s_) ∧ (gb146 ≠ s_) ∧ (s_ ≠ gb146) ∧ (gb147 ≠ s_) ∧ (s_ ≠ gb147) ∧ (gb148 ≠ s_) ∧ (s_ ≠ gb148) ∧ (Below w.heap.size w w')) ?_ ?_
                     rotate_left
                     ·intro hJ18
                      refine three_ (i := 4) (j := 15) (k := 18) (Ni := some 28) (Nj := some 39) (Nk := some 8) #[true, true, true, true, true, true, true, true, true, true, true, true, true, false, true, false, false, false, false, false] #[true, true, true, true, false, true, true, true, true, true, true, true, true, false, true, true, false, false, false, false] #[true, true, true, true, false, true, true, true, true, true, true, true, true, false, true, false, false, false, true, false] rfl rfl rfl rfl rfl rfl (three_of HT_.out (by kernel_rfl)) (by decide) (by decide) (by decide) (fun K hK => ?_) (fun K hK => ?_) (fun K hK => ?_)
                      ·skip
                       refine Kd.R_lit_step k35 _ 35 ?hg (N := 28) ?hd (xs := ([] : List (S35))) (inner := []) (ok := fun _ => True) (okp := fun _ => True) ?hr ?hp (fun _ hk => hk) trivial (Below.refl _ _) (Nat.le_refl _) (by simp) ?_; (case hd => rfl); (case hg => rfl); (case hr => first | (go_simp; done) | (go_simp; rfl)); (case hp => exact (Reps.none _ _))
                       intro v153 w30 ho31 hb hg_ hnew_
                       clear hg_ hnew_
                       (first | rw [← Ny152.out] at ho31 | (simp only [Int.reduceToNat] at ho31; rw [← Ny152.out] at ho31))
                       have n0_ := mk_ (Kd.R_lower (Kd.R_newB ho31 (g := gb147) (o := .cells #[.int .i64 a2_0, .int .i64 a2_1, .string a2_2] 35 (0, 0)) (bp_ BK147)) (below_size (bw_ HB)))
                       have n1_ := bb_ BK146 hb; have n2_ := bb_ BK147 hb; have n3_ := bb_ BK148 hb
                       have n4_ := bs_ HB hb
                       clear BK146; clear BK147; clear BK148; clear HB; have HO154 := n0_; have BK146 := n1_; have BK147 := n2_; have BK148 := n3_; have HB := n4_; clear n0_ n1_ n2_ n3_ n4_; clear hb ho31
                       refine hK.out _ _ ⟨bc_ BK146 0, bc_ BK146 1, bc_ BK146 2, bc_ BK147 0, bc_ BK147 1, bc_ BK147 2⟩ (fun hHeld => ?_)
                       clear hK K
                       refine norm_ (a' := ?_) ?_ ?_
                       rotate_left
                       ·show Act.put _ (some 28) _ = _
                        simp only [Act.put, sia_, scz_, scs_, i64_w, i32_w]
                        rfl
                       exact norm_ (by first | (simp only [putAll, Act.put, sia_, scz_, scs_]; done) | (simp only [putAll, Act.put, sia_, scz_, scs_]; rfl)) (hJ4 (v153) _ ⟨hHeld, (by (with_reducible repeat (first | apply Kd.R_alloc | apply Kd.R_drewN | apply Kd.R_drew)); exact Kd.R_mono HO154.out (fun _ hk => hk.2)), (bp_ BK146), (bp_ BK147), (bp_ BK148), (bw_ HB)⟩)
                      ·skip
                       refine Kd.R_lit_step k35 _ 35 ?hg (N := 39) ?hd (xs := ([(⟨a2_0, a2_1, a2_2⟩ : S35)] : List (S35))) (inner := [.int .i64 a2_0, .int .i64 a2_1, .string a2_2]) (ok := fun _ => True) (okp := fun _ => True) ?hr ?hp (fun _ hk => hk) trivial (Below.refl _ _) (Nat.le_refl _) (by simp) ?_; (case hd => rfl); (case hg => rfl); (case hr => first | (go_simp; done) | (go_simp; rfl)); (case hp => exact (Reps.c3 (show Kd.M k35 _ _ _ (⟨a2_0, a2_1, a2_2⟩ : S35) [.int .i64 a2_0, .int .i64 a2_1, .string a2_2] from (k35_mkM _ _ _ (⟨a2_0, a2_1, a2_2⟩ : S35) )) (Reps.none _ _)))
                       intro v163 w30 ho31 hb hg_ hnew_
                       clear hg_ hnew_
                       (first | rw [← Ny162.out] at ho31 | (simp only [Int.reduceToNat] at ho31; rw [← Ny162.out] at ho31))
                       have n0_ := mk_ (Kd.R_lower (Kd.R_newB ho31 (g := gb147) (o := .cells #[.int .i64 a2_0, .int .i64 a2_1, .string a2_2] 35 (0, 0)) (bp_ BK147)) (below_size (bw_ HB)))
                       have n1_ := bb_ BK146 hb; have n2_ := bb_ BK147 hb; have n3_ := bb_ BK148 hb
                       have n4_ := bs_ HB hb
                       clear BK146; clear BK147; clear BK148; clear HB; have HO164 := n0_; have BK146 := n1_; have BK147 := n2_; have BK148 := n3_; have HB := n4_; clear n0_ n1_ n2_ n3_ n4_; clear hb ho31
                       refine hK.out _ _ ⟨bc_ BK146 0, bc_ BK146 1, bc_ BK146 2, bc_ BK147 0, bc_ BK147 1, bc_ BK147 2⟩ (fun hHeld => ?_)
                       clear hK K
                       refine norm_ (a' := ?_) ?_ ?_
                       rotate_left
                       ·show Act.put _ (some 39) _ = _
                        simp only [Act.put, sia_, scz_, scs_, i64_w, i32_w]
                        rfl
                       exact norm_ (by first | (simp only [putAll, Act.put, sia_, scz_, scs_]; done) | (simp only [putAll, Act.put, sia_, scz_, scs_]; rfl)) (hJ15 (v163) _ ⟨hHeld, (by (with_reducible repeat (first | apply Kd.R_alloc | apply Kd.R_drewN | apply Kd.R_drew)); exact Kd.R_mono HO164.out (fun _ hk => hk.2)), (bp_ BK146), (bp_ BK147), (bp_ BK148), (bw_ HB)⟩)
                      ·skip
                       refine box_step ?hg (N := 8) ?hd (cs := #[.int .i64 0, .int .i64 0, .slice none 0 0]) (t := 31) ?hr ?_; (case hd => rfl); (case hg => rfl); (case hr => first | (go_simp; done) | (go_simp; rfl))
                       intro gb168 hg w30 hbox hb
                       have n0_ := bb_ BK146 hb; have n1_ := bb_ BK147 hb; have n2_ := bb_ BK148 hb
                       have n3_ := bs_ HB hb
                       have n4_ := mk_ (hbox)
                       have n5_ : Aside0 (w.heap.size ≤ gb168) := bz_ hg
                       have n6_ : Aside0 (w.heap.size ≤ gb168) := bz_ hg
                       have n7_ : Aside0 (gb146 ≠ gb168) := bl_ BK146 hg
                       have n8_ : Aside0 (gb168 ≠ gb146) := bg_ BK146 hg
                       have n9_ : Aside0 (gb147 ≠ gb168) := bl_ BK147 hg
                       have n10_ : Aside0 (gb168 ≠ gb147) := bg_ BK147 hg
                       have n11_ : Aside0 (gb148 ≠ gb168) := bl_ BK148 hg
                       have n12_ : Aside0 (gb168 ≠ gb148) := bg_ BK148 hg
                       clear BK146; clear BK147; clear BK148; clear HB; have BK146 := n0_; have BK147 := n1_; have BK148 := n2_; have HB := n3_; have BK168 := n4_; have GW168 := n5_; have GE168 := n6_; have NB146_168 := n7_; have NB168_146 := n8_; have NB147_168 := n9_; have NB168_147 := n10_; have NB148_168 := n11_; have NB168_148 := n12_; clear n0_ n1_ n2_ n3_ n4_ n5_ n6_ n7_ n8_ n9_ n10_ n11_ n12_; clear hb hbox hg
                       refine hK.out _ _ ⟨bc_ BK146 0, bc_ BK146 1, bc_ BK146 2, bc_ BK147 0, bc_ BK147 1, bc_ BK147 2⟩ (fun hHeld => ?_)
                       clear hK K
                       refine norm_ (a' := ?_) ?_ ?_
                       rotate_left
                       ·show Act.put _ (some 8) _ = _
                        simp only [Act.put, sia_, scz_, scs_, i64_w, i32_w]
                        rfl
                       exact norm_ (by first | (simp only [putAll, Act.put, sia_, scz_, scs_]; done) | (simp only [putAll, Act.put, sia_, scz_, scs_]; rfl)) (hJ18 (gb168) _ ⟨hHeld, (bp_ BK146), (bp_ BK147), (bp_ BK148), (bp_ BK168), GW168.out, GE168.out, NB146_168.out, NB168_146.out, NB147_168.out, NB168_147.out, NB148_168.out, NB168_148.out, (bw_ HB)⟩)
                     ·skip
                      rintro gb168 w31 ⟨hS_, h0_, h1_, h2_, h3_, h4_, h5_, h6_, h7_, h8_, h9_, h10_, h11_, h12_⟩
                      have n0_ : Aside0 (w31.heap[gb146]? = some (.cells #[.int .i64 a0_0, .int .i64 a0_1, .slice A0_2 l0_2.length c0_2] 31 (0, 0))) := ⟨h0_⟩
                      have n1_ : Aside0 (w31.heap[gb147]? = some (.cells #[.int .i64 a2_0, .int .i64 a2_1, .string a2_2] 35 (0, 0))) := ⟨h1_⟩
                      have n2_ : Aside0 (w31.heap[gb148]? = some (.cells #[.int .i64 0, .int .i64 0, .slice none 0 0] 31 (0, 0))) := ⟨h2_⟩
                      have n3_ : Aside0 (w31.heap[gb168]? = some (.cells #[.int .i64 0, .int .i64 0, .slice none 0 0] 31 (0, 0))) := ⟨h3_⟩
                      have n4_ : Aside0 (w.heap.size ≤ gb168) := ⟨h4_⟩
                      have n5_ : Aside0 (w.heap.size ≤ gb168) := ⟨h5_⟩
                      have n6_ : Aside0 (gb146 ≠ gb168) := ⟨h6_⟩
                      have n7_ : Aside0 (gb168 ≠ gb146) := ⟨h7_⟩
                      have n8_ : Aside0 (gb147 ≠ gb168) := ⟨h8_⟩
                      have n9_ : Aside0 (gb168 ≠ gb147) := ⟨h9_⟩
                      have n10_ : Aside0 (gb148 ≠ gb168) := ⟨h10_⟩
                      have n11_ : Aside0 (gb168 ≠ gb148) := ⟨h11_⟩
                      have n12_ : Aside0 (Below w.heap.size w w31) := ⟨h12_⟩
                      clear BK146; clear BK147; clear BK148; clear HB; clear h0_ h1_ h2_ h3_ h4_ h5_ h6_ h7_ h8_ h9_ h10_ h11_ h12_; have BK146 := n0_; have BK147 := n1_; have BK148 := n2_; have BK168 := n3_; have GW168 := n4_; have GE168 := n5_; have NB146_168 := n6_; have NB168_146 := n7_; have NB147_168 := n8_; have NB168_147 := n9_; have NB148_168 := n10_; have NB168_148 := n11_; have HB := n12_; clear n0_ n1_ n2_ n3_ n4_ n5_ n6_ n7_ n8_ n9_ n10_ n11_ n12_
                      have hHeld : w31.cell? ⟨gb146, 0, none⟩ = some (.int .i64 a0_0) ∧ w31.cell? ⟨gb146, 1, none⟩ = some (.int .i64 a0_1) ∧ w31.cell? ⟨gb146, 2, none⟩ = some (.slice A0_2 l0_2.length c0_2) ∧ w31.cell? ⟨gb147, 0, none⟩ = some (.int .i64 a2_0) ∧ w31.cell? ⟨gb147, 1, none⟩ = some (.int .i64 a2_1) ∧ w31.cell? ⟨gb147, 2, none⟩ = some (.string a2_2) := hS_
                      refine norm_ (a' := ?_) ?_ ?_
                      rotate_left
                      ·simp only [putAll, Act.put, sia_, scz_, scs_]
                       rfl
                      refine two_ (i := 4) (j := 15) (Ni := some 28) (Nj := some 39) #[true, true, true, true, true, true, true, true, true, true, true, true, true, false, true, false, false, false, true, false] #[true, true, true, true, false, true, true, true, true, true, true, true, true, false, true, true, false, false, true, false] rfl rfl rfl rfl (two_of HT_.out (by kernel_rfl)) (by decide) (by decide) (fun K hK => ?_) (fun K hK => ?_)
                      ·skip
                       refine Kd.R_lit_step k35 _ 35 ?hg (N := 28) ?hd (xs := ([] : List (S35))) (inner := []) (ok := fun _ => True) (okp := fun _ => True) ?hr ?hp (fun _ hk => hk) trivial (Below.refl _ _) (Nat.le_refl _) (by simp) ?_; (case hd => rfl); (case hg => rfl); (case hr => first | (go_simp; done) | (go_simp; rfl)); (case hp => exact (Reps.none _ _))
                       intro v153 w32 ho33 hb hg_ hnew_
                       clear hg_ hnew_
                       (first | rw [← Ny152.out] at ho33 | (simp only [Int.reduceToNat] at ho33; rw [← Ny152.out] at ho33))
                       have n0_ := mk_ (Kd.R_lower (Kd.R_newB ho33 (g := gb147) (o := .cells #[.int .i64 a2_0, .int .i64 a2_1, .string a2_2] 35 (0, 0)) (bp_ BK147)) (below_size (bw_ HB)))
                       have n1_ := bb_ BK146 hb; have n2_ := bb_ BK147 hb; have n3_ := bb_ BK148 hb; have n4_ := bb_ BK168 hb
                       have n5_ := bs_ HB hb
                       clear BK146; clear BK147; clear BK148; clear BK168; clear HB; have HO154 := n0_; have BK146 := n1_; have BK147 := n2_; have BK148 := n3_; have BK168 := n4_; have HB := n5_; clear n0_ n1_ n2_ n3_ n4_ n5_; clear hb ho33
                       refine hK.out _ _ ⟨bc_ BK146 0, bc_ BK146 1, bc_ BK146 2, bc_ BK147 0, bc_ BK147 1, bc_ BK147 2⟩ (fun hHeld => ?_)
                       clear hK K
                       refine norm_ (a' := ?_) ?_ ?_
                       rotate_left
                       ·show Act.put _ (some 28) _ = _
                        simp only [Act.put, sia_, scz_, scs_, i64_w, i32_w]
                        rfl
                       exact norm_ (by first | (simp only [putAll, Act.put, sia_, scz_, scs_]; done) | (simp only [putAll, Act.put, sia_, scz_, scs_]; rfl)) (hJ4_18 (v153, gb168) _ ⟨hHeld, (by (with_reducible repeat (first | apply Kd.R_alloc | apply Kd.R_drewN | apply Kd.R_drew)); exact Kd.R_mono HO154.out (fun _ hk => hk.2)), (bp_ BK146), (bp_ BK147), (bp_ BK148), (bp_ BK168), GW168.out, GE168.out, NB146_168.out, NB168_146.out, NB147_168.out, NB168_147.out, NB148_168.out, NB168_148.out, (bw_ HB)⟩)
                      ·skip
                       refine Kd.R_lit_step k35 _ 35 ?hg (N := 39) ?hd (xs := ([(⟨a2_0, a2_1, a2_2⟩ : S35)] : List (S35))) (inner := [.int .i64 a2_0, .int .i64 a2_1, .string a2_2]) (ok := fun _ => True) (okp := fun _ => True) ?hr ?hp (fun _ hk => hk) trivial (Below.refl _ _) (Nat.le_refl _) (by simp) ?_; (case hd => rfl); (case hg => rfl); (case hr => first | (go_simp; done) | (go_simp; rfl)); (case hp => exact (Reps.c3 (show Kd.M k35 _ _ _ (⟨a2_0, a2_1, a2_2⟩ : S35) [.int .i64 a2_0, .int .i64 a2_1, .string a2_2] from (k35_mkM _ _ _ (⟨a2_0, a2_1, a2_2⟩ : S35) )) (Reps.none _ _)))
                       intro v163 w32 ho33 hb hg_ hnew_
                       clear hg_ hnew_
                       (first | rw [← Ny162.out] at ho33 | (simp only [Int.reduceToNat] at ho33; rw [← Ny162.out] at ho33))
                       have n0_ := mk_ (Kd.R_lower (Kd.R_newB ho33 (g := gb147) (o := .cells #[.int .i64 a2_0, .int .i64 a2_1, .string a2_2] 35 (0, 0)) (bp_ BK147)) (below_size (bw_ HB)))
                       have n1_ := bb_ BK146 hb; have n2_ := bb_ BK147 hb; have n3_ := bb_ BK148 hb; have n4_ := bb_ BK168 hb
                       have n5_ := bs_ HB hb
                       clear BK146; clear BK147; clear BK148; clear BK168; clear HB; have HO164 := n0_; have BK146 := n1_; have BK147 := n2_; have BK148 := n3_; have BK168 := n4_; have HB := n5_; clear n0_ n1_ n2_ n3_ n4_ n5_; clear hb ho33
                       refine hK.out _ _ ⟨bc_ BK146 0, bc_ BK146 1, bc_ BK146 2, bc_ BK147 0, bc_ BK147 1, bc_ BK147 2⟩ (fun hHeld => ?_)
                       clear hK K
                       refine norm_ (a' := ?_) ?_ ?_
                       rotate_left
                       ·show Act.put _ (some 39) _ = _
                        simp only [Act.put, sia_, scz_, scs_, i64_w, i32_w]
                        rfl
                       exact norm_ (by first | (simp only [putAll, Act.put, sia_, scz_, scs_]; done) | (simp only [putAll, Act.put, sia_, scz_, scs_]; rfl)) (hJ15_18 (v163, gb168) _ ⟨hHeld, (by (with_reducible repeat (first | apply Kd.R_alloc | apply Kd.R_drewN | apply Kd.R_drew)); exact Kd.R_mono HO164.out (fun _ hk => hk.2)), (bp_ BK146), (bp_ BK147), (bp_ BK148), (bp_ BK168), GW168.out, GE168.out, NB146_168.out, NB168_146.out, NB147_168.out, NB168_147.out, NB148_168.out, NB168_148.out, (bw_ HB)⟩)
                    ·skip
                     rintro v163 w32 ⟨hS_, h0_, h1_, h2_, h3_, h4_⟩
                     have n0_ : Aside0 (Kd.R k35 35 w32 w.heap.size (fun k_ => k_ ≠ gb147) v163 y162) := ⟨h0_⟩
                     have n1_ : Aside0 (w32.heap[gb146]? = some (.cells #[.int .i64 a0_0, .int .i64 a0_1, .slice A0_2 l0_2.length c0_2] 31 (0, 0))) := ⟨h1_⟩
                     have n2_ : Aside0 (w32.heap[gb147]? = some (.cells #[.int .i64 a2_0, .int .i64 a2_1, .string a2_2] 35 (0, 0))) := ⟨h2_⟩
                     have n3_ : Aside0 (w32.heap[gb148]? = some (.cells #[.int .i64 0, .int .i64 0, .slice none 0 0] 31 (0, 0))) := ⟨h3_⟩
                     have n4_ : Aside0 (Below w.heap.size w w32) := ⟨h4_⟩
                     clear BK146; clear BK147; clear BK148; clear HB; clear h0_ h1_ h2_ h3_ h4_; have HO164 := n0_; have BK146 := n1_; have BK147 := n2_; have BK148 := n3_; have HB := n4_; clear n0_ n1_ n2_ n3_ n4_
                     have hHeld : w32.cell? ⟨gb146, 0, none⟩ = some (.int .i64 a0_0) ∧ w32.cell? ⟨gb146, 1, none⟩ = some (.int .i64 a0_1) ∧ w32.cell? ⟨gb146, 2, none⟩ = some (.slice A0_2 l0_2.length c0_2) ∧ w32.cell? ⟨gb147, 0, none⟩ = some (.int .i64 a2_0) ∧ w32.cell? ⟨gb147, 1, none⟩ = some (.int .i64 a2_1) ∧ w32.cell? ⟨gb147, 2, none⟩ = some (.string a2_2) := hS_
                     refine norm_ (a' := ?_) ?_ ?_
                     rotate_left
                     ·simp only [putAll, Act.put, sia_, scz_, scs_]
                      rfl
                     refine two_ (i := 4) (j := 18) (Ni := some 28) (Nj := some 8) #[true, true, true, true, true, true, true, true, true, true, true, true, true, false, true, true, false, false, false, false] #[true, true, true, true, false, true, true, true, true, true, true, true, true, false, true, true, false, false, true, false] rfl rfl rfl rfl (two_of HT_.out (by kernel_rfl)) (by decide) (by decide) (fun K hK => ?_) (fun K hK => ?_)
                     ·skip
                      refine Kd.R_lit_step k35 _ 35 ?hg (N := 28) ?hd (xs := ([] : List (S35))) (inner := []) (ok := fun _ => True) (okp := fun _ => True) ?hr ?hp (fun _ hk => hk) trivial (Below.refl _ _) (Nat.le_refl _) (by simp) ?_; (case hd => rfl); (case hg => rfl); (case hr => first | (go_simp; done) | (go_simp; rfl)); (case hp => exact (Reps.none _ _))
                      intro v153 w33 ho34 hb hg_ hnew_
                      clear hg_ hnew_
                      (first | rw [← Ny152.out] at ho34 | (simp only [Int.reduceToNat] at ho34; rw [← Ny152.out] at ho34))
                      have n0_ := mk_ (Kd.R_elder' (rp_ HO164) (Kd.R_base ho34) hb)
                      have n1_ := mk_ (Kd.R_lower (Kd.R_newB (Kd.R_new' ho34 (Kd.R_lt (rp_ HO164))) (g := gb147) (o := .cells #[.int .i64 a2_0, .int .i64 a2_1, .string a2_2] 35 (0, 0)) (bp_ BK147)) (below_size (bw_ HB)))
                      have n2_ := bb_ BK146 hb; have n3_ := bb_ BK147 hb; have n4_ := bb_ BK148 hb
                      have n5_ := bs_ HB hb
                      clear HO164; clear BK146; clear BK147; clear BK148; clear HB; have HO164 := n0_; have HO154 := n1_; have BK146 := n2_; have BK147 := n3_; have BK148 := n4_; have HB := n5_; clear n0_ n1_ n2_ n3_ n4_ n5_; clear hb ho34
                      refine hK.out _ _ ⟨bc_ BK146 0, bc_ BK146 1, bc_ BK146 2, bc_ BK147 0, bc_ BK147 1, bc_ BK147 2⟩ (fun hHeld => ?_)
                      clear hK K
                      refine norm_ (a' := ?_) ?_ ?_
                      rotate_left
                      ·show Act.put _ (some 28) _ = _
                       simp only [Act.put, sia_, scz_, scs_, i64_w, i32_w]
                       rfl
                      exact norm_ (by first | (simp only [putAll, Act.put, sia_, scz_, scs_]; done) | (simp only [putAll, Act.put, sia_, scz_, scs_]; rfl)) (hJ4_15 (v153, v163) _ ⟨hHeld, (by (with_reducible repeat (first | apply Kd.R_alloc | apply Kd.R_drewN | apply Kd.R_drew)); exact Kd.R_mono HO154.out (fun _ hk => ⟨hk.1.2, hk.2⟩)), (by (with_reducible repeat (first | apply Kd.R_alloc | apply Kd.R_drewN | apply Kd.R_drew)); exact Kd.R_mono HO164.out (fun _ hk => ⟨hk.2, hk.1⟩)), (bp_ BK146), (bp_ BK147), (bp_ BK148), (bw_ HB)⟩)
                     ·skip
                      refine box_step ?hg (N := 8) ?hd (cs := #[.int .i64 0, .int .i64 0, .slice none 0 0]) (t := 31) ?hr ?_; (case hd => rfl); (case hg => rfl); (case hr => first | (go_simp; done) | (go_simp; rfl))
                      intro gb168 hg w33 hbox hb
                      have n0_ := rb_ HO164 hb
                      have n1_ := bb_ BK146 hb; have n2_ := bb_ BK147 hb; have n3_ := bb_ BK148 hb
                      have n4_ := bs_ HB hb
                      have n5_ := mk_ (hbox)
                      have n6_ : Aside0 (w.heap.size ≤ gb168) := bz_ hg
                      have n7_ : Aside0 (w.heap.size ≤ gb168) := bz_ hg
                      have n8_ : Aside0 (gb146 ≠ gb168) := bl_ BK146 hg
                      have n9_ : Aside0 (gb168 ≠ gb146) := bg_ BK146 hg
                      have n10_ : Aside0 (gb147 ≠ gb168) := bl_ BK147 hg
                      have n11_ : Aside0 (gb168 ≠ gb147) := bg_ BK147 hg
                      have n12_ : Aside0 (gb148 ≠ gb168) := bl_ BK148 hg
                      have n13_ : Aside0 (gb168 ≠ gb148) := bg_ BK148 hg
                      clear HO164; clear BK146; clear BK147; clear BK148; clear HB; have HO164 := n0_; have BK146 := n1_; have BK147 := n2_; have BK148 := n3_; have HB := n4_; have BK168 := n5_; have GW168 := n6_; have GE168 := n7_; have NB146_168 := n8_; have NB168_146 := n9_; have NB147_168 := n10_; have NB168_147 := n11_; have NB148_168 := n12_; have NB168_148 := n13_; clear n0_ n1_ n2_ n3_ n4_ n5_ n6_ n7_ n8_ n9_ n10_ n11_ n12_ n13_; clear hb hbox hg
                      refine hK.out _ _ ⟨bc_ BK146 0, bc_ BK146 1, bc_ BK146 2, bc_ BK147 0, bc_ BK147 1, bc_ BK147 2⟩ (fun hHeld => ?_)
                      clear hK K
                      refine norm_ (a' := ?_) ?_ ?_
                      rotate_left
                      ·show Act.put _ (some 8) _ = _
                       simp only [Act.put, sia_, scz_, scs_, i64_w, i32_w]
                       rfl
                      exact norm_ (by first | (simp only [putAll, Act.put, sia_, scz_, scs_]; done) | (simp only [putAll, Act.put, sia_, scz_, scs_]; rfl)) (hJ15_18 (v163, gb168) _ ⟨hHeld, (rp_ HO164), (bp_ BK146), (bp_ BK147), (bp_ BK148), (bp_ BK168), GW168.out, GE168.out, NB146_168.out, NB168_146.out, NB147_168.out, NB168_147.out, NB148_168.out, NB168_148.out, (bw_ HB)⟩)
                   ·skip
                    rintro v153 w32 ⟨hS_, h0_, h1_, h2_, h3_, h4_⟩
                    have n0_ : Aside0 (Kd.R k35 35 w32 w.heap.size (fun k_ => k_ ≠ gb147) v153 y152) := ⟨h0_⟩
                    have n1_ : Aside0 (w32.heap[gb146]? = some (.cells #[.int .i64 a0_0, .int .i64 a0_1, .slice A0_2 l0_2.length c0_2] 31 (0, 0))) := ⟨h1_⟩
                    have n2_ : Aside0 (w32.heap[gb147]? = some (.cells #[.int .i64 a2_0, .int .i64 a2_1, .string a2_2] 35 (0, 0))) := ⟨h2_⟩
                    have n3_ : Aside0 (w32.heap[gb148]? = some (.cells #[.int .i64 0, .int .i64 0, .slice none 0 0] 31 (0, 0))) := ⟨h3_⟩
                    have n4_ : Aside0 (Below w.heap.size w w32) := ⟨h4_⟩
                    clear BK146; clear BK147; clear BK148; clear HB; clear h0_ h1_ h2_ h3_ h4_; have HO154 := n0_; have BK146 := n1_; have BK147 := n2_; have BK148 := n3_; have HB := n4_; clear n0_ n1_ n2_ n3_ n4_
                    have hHeld : w32.cell? ⟨gb146, 0, none⟩ = some (.int .i64 a0_0) ∧ w32.cell? ⟨gb146, 1, none⟩ = some (.int .i64 a0_1) ∧ w32.cell? ⟨gb146, 2, none⟩ = some (.slice A0_2 l0_2.length c0_2) ∧ w32.cell? ⟨gb147, 0, none⟩ = some (.int .i64 a2_0) ∧ w32.cell? ⟨gb147, 1, none⟩ = some (.int .i64 a2_1) ∧ w32.cell? ⟨gb147, 2, none⟩ = some (.string a2_2) := hS_
                    refine norm_ (a' := ?_) ?_ ?_
                    rotate_left
                    ·simp only [putAll, Act.put, sia_, scz_, scs_]
                     rfl
                    refine three_ (i := 13) (j := 15) (k := 18) (Ni := some 37) (Nj := some 39) (Nk := some 8) #[true, true, true, true, true, true, true, true, true, true, true, true, true, true, true, false, false, false, false, false] #[true, true, true, true, true, true, true, true, true, true, true, true, true, false, true, true, false, false, false, false] #[true, true, true, true, true, true, true, true, true, true, true, true, true, false, true, false, false, false, true, false] rfl rfl rfl rfl rfl rfl (three_of HT_.out (by kernel_rfl)) (by decide) (by decide) (by decide) (fun K hK => ?_) (fun K hK => ?_) (fun K hK => ?_)
                    ·skip
                     refine Kd.R_append_rows_step k35 (w0 := w) w.heap.size (by rfl) (.tmp 28) (.tmp 36) 29 35 (.agg #[(.int .i64 0), (.int .i64 0), (.string ⟨#[]⟩)]) 32 rfl Try.underlying29 info35 rfl (by decide) (by omega) v153 y152 y155 _ _ _ (fun k_ => k_ ≠ gb147) (fun _ => False) rfl rfl ?aO ?aR (fun _ _ h => h) (fun _ h => h.elim) ?aF ?aB ?aS ?aL ?_
                     (case aR => repeat (first | exact (Kd.C_below HR158.out HB.out) | (with_reducible refine Kd.C_alloc ?_ _) | (with_reducible refine Kd.C_drewN ?_ _) | (with_reducible refine Kd.C_drew ?_)))
                     (case aB => exact (bw_ HB))
                     (case aF => exact (fun k_ hk => Kd.freshB (g := gb147) (o := .cells #[.int .i64 a2_0, .int .i64 a2_1, .string a2_2] 35 (0, 0)) (bp_ BK147) k_ hk))
                     (case aO => exact (rp_ HO154))
                     (case aS => exact (below_size (bw_ HB)))
                     (case aL => have := LMc24.out; omega)
                     intro v160 w33 ho hb hg hat
                     rw [← Ny159.out] at ho
                     have n0_ := mk_ (blk_grown (g := gb146) (o := .cells #[.int .i64 a0_0, .int .i64 a0_1, .slice A0_2 l0_2.length c0_2] 31 (0, 0)) (bp_ BK146) hg (Kd.R_ne HO154.out BK146.out (by decide)))
                     have n1_ := mk_ (blk_grown (g := gb147) (o := .cells #[.int .i64 a2_0, .int .i64 a2_1, .string a2_2] 35 (0, 0)) (bp_ BK147) hg (Kd.R_away HO154.out (fun _ hk => hk)))
                     have n2_ := mk_ (blk_grown (g := gb148) (o := .cells #[.int .i64 0, .int .i64 0, .slice none 0 0] 31 (0, 0)) (bp_ BK148) hg (Kd.R_ne HO154.out BK148.out (by decide)))
                     have n3_ := mk_ (hb)
                     have n4_ := mk_ (ho)
                     clear BK146; clear BK147; clear BK148; clear HB; clear HO154; have BK146 := n0_; have BK147 := n1_; have BK148 := n2_; have HB := n3_; have HO161 := n4_; clear n0_ n1_ n2_ n3_ n4_; clear ho hb hg hat
                     refine hK.out _ _ ⟨bc_ BK146 0, bc_ BK146 1, bc_ BK146 2, bc_ BK147 0, bc_ BK147 1, bc_ BK147 2⟩ (fun hHeld => ?_)
                     clear hK K
                     refine norm_ (a' := ?_) ?_ ?_
                     rotate_left
                     ·show Act.put _ (some 37) _ = _
                      simp only [Act.put, sia_, scz_, scs_, i64_w, i32_w]
                      rfl
                     exact norm_ (by first | (simp only [putAll, Act.put, sia_, scz_, scs_]; done) | (simp only [putAll, Act.put, sia_, scz_, scs_]; rfl)) (hJ4_13 (v153, v160) _ ⟨hHeld, (rp_ HO161), (bp_ BK146), (bp_ BK147), (bp_ BK148), (bw_ HB)⟩)
                    ·skip
                     refine Kd.R_lit_step k35 _ 35 ?hg (N := 39) ?hd (xs := ([(⟨a2_0, a2_1, a2_2⟩ : S35)] : List (S35))) (inner := [.int .i64 a2_0, .int .i64 a2_1, .string a2_2]) (ok := fun _ => True) (okp := fun _ => True) ?hr ?hp (fun _ hk => hk) trivial (Below.refl _ _) (Nat.le_refl _) (by simp) ?_; (case hd => rfl); (case hg => rfl); (case hr => first | (go_simp; done) | (go_simp; rfl)); (case hp => exact (Reps.c3 (show Kd.M k35 _ _ _ (⟨a2_0, a2_1, a2_2⟩ : S35) [.int .i64 a2_0, .int .i64 a2_1, .string a2_2] from (k35_mkM _ _ _ (⟨a2_0, a2_1, a2_2⟩ : S35) )) (Reps.none _ _)))
                     intro v163 w33 ho34 hb hg_ hnew_
                     clear hg_ hnew_
                     (first | rw [← Ny162.out] at ho34 | (simp only [Int.reduceToNat] at ho34; rw [← Ny162.out] at ho34))
                     have n0_ := mk_ (Kd.R_elder' (rp_ HO154) (Kd.R_base ho34) hb)
                     have n1_ := mk_ (Kd.R_lower (Kd.R_newB (Kd.R_new' ho34 (Kd.R_lt (rp_ HO154))) (g := gb147) (o := .cells #[.int .i64 a2_0, .int .i64 a2_1, .string a2_2] 35 (0, 0)) (bp_ BK147)) (below_size (bw_ HB)))
                     have n2_ := bb_ BK146 hb; have n3_ := bb_ BK147 hb; have n4_ := bb_ BK148 hb
                     have n5_ := bs_ HB hb
                     clear HO154; clear BK146; clear BK147; clear BK148; clear HB; have HO154 := n0_; have HO164 := n1_; have BK146 := n2_; have BK147 := n3_; have BK148 := n4_; have HB := n5_; clear n0_ n1_ n2_ n3_ n4_ n5_; clear hb ho34
                     refine hK.out _ _ ⟨bc_ BK146 0, bc_ BK146 1, bc_ BK146 2, bc_ BK147 0, bc_ BK147 1, bc_ BK147 2⟩ (fun hHeld => ?_)
                     clear hK K
                     refine norm_ (a' := ?_) ?_ ?_
                     rotate_left
                     ·show Act.put _ (some 39) _ = _
                      simp only [Act.put, sia_, scz_, scs_, i64_w, i32_w]
                      rfl
                     exact norm_ (by first | (simp only [putAll, Act.put, sia_, scz_, scs_]; done) | (simp only [putAll, Act.put, sia_, scz_, scs_]; rfl)) (hJ4_15 (v153, v163) _ ⟨hHeld, (by (with_reducible repeat (first | apply Kd.R_alloc | apply Kd.R_drewN | apply Kd.R_drew)); exact Kd.R_mono HO154.out (fun _ hk => ⟨hk.2, hk.1⟩)), (by (with_reducible repeat (first | apply Kd.R_alloc | apply Kd.R_drewN | apply Kd.R_drew)); exact Kd.R_mono HO164.out (fun _ hk => ⟨hk.1.2, hk.2⟩)), (bp_ BK146), (bp_ BK147), (bp_ BK148), (bw_ HB)⟩)
                    ·skip
                     refine box_step ?hg (N := 8) ?hd (cs := #[.int .i64 0, .int .i64 0, .slice none 0 0]) (t := 31) ?hr ?_; (case hd => rfl); (case hg => rfl); (case hr => first | (go_simp; done) | (go_simp; rfl))
                     intro gb168 hg w33 hbox hb
                     have n0_ := rb_ HO154 hb
                     have n1_ := bb_ BK146 hb; have n2_ := bb_ BK147 hb; have n3_ := bb_ BK148 hb
                     have n4_ := bs_ HB hb
                     have n5_ := mk_ (hbox)
                     have n6_ : Aside0 (w.heap.size ≤ gb168) := bz_ hg
                     have n7_ : Aside0 (w.heap.size ≤ gb168) := bz_ hg
                     have n8_ : Aside0 (gb146 ≠ gb168) := bl_ BK146 hg
                     have n9_ : Aside0 (gb168 ≠ gb146) := bg_ BK146 hg
                     have n10_ : Aside0 (gb147 ≠ gb168) := bl_ BK147 hg
                     have n11_ : Aside0 (gb168 ≠ gb147) := bg_ BK147 hg
                     have n12_ : Aside0 (gb148 ≠ gb168) := bl_ BK148 hg
                     have n13_ : Aside0 (gb168 ≠ gb148) := bg_ BK148 hg
                     clear HO154; clear BK146; clear BK147; clear BK148; clear HB; have HO154 := n0_; have BK146 := n1_; have BK147 := n2_; have BK148 := n3_; have HB := n4_; have BK168 := n5_; have GW168 := n6_; have GE168 := n7_; have NB146_168 := n8_; have NB168_146 := n9_; have NB147_168 := n10_; have NB168_147 := n11_; have NB148_168 := n12_; have NB168_148 := n13_; clear n0_ n1_ n2_ n3_ n4_ n5_ n6_ n7_ n8_ n9_ n10_ n11_ n12_ n13_; clear hb hbox hg
                     refine hK.out _ _ ⟨bc_ BK146 0, bc_ BK146 1, bc_ BK146 2, bc_ BK147 0, bc_ BK147 1, bc_ BK147 2⟩ (fun hHeld => ?_)
                     clear hK K
                     refine norm_ (a' := ?_) ?_ ?_
                     rotate_left
                     ·show Act.put _ (some 8) _ = _
                      simp only [Act.put, sia_, scz_, scs_, i64_w, i32_w]
                      rfl
                     exact norm_ (by first | (simp only [putAll, Act.put, sia_, scz_, scs_]; done) | (simp only [putAll, Act.put, sia_, scz_, scs_]; rfl)) (hJ4_18 (v153, gb168) _ ⟨hHeld, (rp_ HO154), (bp_ BK146), (bp_ BK147), (bp_ BK148), (bp_ BK168), GW168.out, GE168.out, NB146_168.out, NB168_146.out, NB147_168.out, NB168_147.out, NB148_168.out, NB168_148.out, (bw_ HB)⟩)
                  ·skip
                   rintro ⟨v163, gb168⟩ w33 ⟨hS_, h0_, h1_, h2_, h3_, h4_, h5_, h6_, h7_, h8_, h9_, h10_, h11_, h12_, h13_⟩
                   have n0_ : Aside0 (Kd.R k35 35 w33 w.heap.size (fun k_ => k_ ≠ gb147) v163 y162) := ⟨h0_⟩
                   have n1_ : Aside0 (w33.heap[gb146]? = some (.cells #[.int .i64 a0_0, .int .i64 a0_1, .slice A0_2 l0_2.length c0_2] 31 (0, 0))) := ⟨h1_⟩
                   have n2_ : Aside0 (w33.heap[gb147]? = some (.cells #[.int .i64 a2_0, .int .i64 a2_1, .string a2_2] 35 (0, 0))) := ⟨h2_⟩
                   have n3_ : Aside0 (w33.heap[gb148]? = some (.cells #[.int .i64 0, .int .i64 0, .slice none 0 0] 31 (0, 0))) := ⟨h3_⟩
                   have n4_ : Aside0 (w33.heap[gb168]? = some (.cells #[.int .i64 0, .int .i64 0, .slice none 0 0] 31 (0, 0))) := ⟨h4_⟩
                   have n5_ : Aside0 (w.heap.size ≤ gb168) := ⟨h5_⟩
                   have n6_ : Aside0 (w.heap.size ≤ gb168) := ⟨h6_⟩
                   have n7_ : Aside0 (gb146 ≠ gb168) := ⟨h7_⟩
                   have n8_ : Aside0 (gb168 ≠ gb146) := ⟨h8_⟩
                   have n9_ : Aside0 (gb147 ≠ gb168) := ⟨h9_⟩
                   have n10_ : Aside0 (gb168 ≠ gb147) := ⟨h10_⟩
                   have n11_ : Aside0 (gb148 ≠ gb168) := ⟨h11_⟩
                   have n12_ : Aside0 (gb168 ≠ gb148) := ⟨h12_⟩
                   have n13_ : Aside0 (Below w.heap.size w w33) := ⟨h13_⟩
                   clear BK146; clear BK147; clear BK148; clear HB; clear h0_ h1_ h2_ h3_ h4_ h5_ h6_ h7_ h8_ h9_ h10_ h11_ h12_ h13_; have HO164 := n0_; have BK146 := n1_; have BK147 := n2_; have BK148 := n3_; have BK168 := n4_; have GW168 := n5_; have GE168 := n6_; have NB146_168 := n7_; have NB168_146 := n8_; have NB147_168 := n9_; have NB168_147 := n10_; have NB148_168 := n11_; have NB168_148 := n12_; have HB := n13_; clear n0_ n1_ n2_ n3_ n4_ n5_ n6_ n7_ n8_ n9_ n10_ n11_ n12_ n13_
                   have hHeld : w33.cell? ⟨gb146, 0, none⟩ = some (.int .i64 a0_0) ∧ w33.cell? ⟨gb146, 1, none⟩ = some (.int .i64 a0_1) ∧ w33.cell? ⟨gb146, 2, none⟩ = some (.slice A0_2 l0_2.length c0_2) ∧ w33.cell? ⟨gb147, 0, none⟩ = some (.int .i64 a2_0) ∧ w33.cell? ⟨gb147, 1, none⟩ = some (.int .i64 a2_1) ∧ w33.cell? ⟨gb147, 2, none⟩ = some (.string a2_2) := hS_
                   refine norm_ (a' := ?_) ?_ ?_
                   rotate_left
                   ·simp only [putAll, Act.put, sia_, scz_, scs_]
                    rfl
                   refine one_ (i := 4) (N := some 28) #[true, true, true, true, true, true, true, true, true, true, true, true, true, false, true, true, false, false, true, false] rfl rfl (one_of HT_.out (by kernel_rfl)) (by decide) (fun K hK => ?_)
                   refine Kd.R_lit_step k35 _ 35 ?hg (N := 28) ?hd (xs := ([] : List (S35))) (inner := []) (ok := fun _ => True) (okp := fun _ => True) ?hr ?hp (fun _ hk => hk) trivial (Below.refl _ _) (Nat.le_refl _) (by simp) ?_; (case hd => rfl); (case hg => rfl); (case hr => first | (go_simp; done) | (go_simp; rfl)); (case hp => exact (Reps.none _ _))
                   intro v153 w34 ho35 hb hg_ hnew_
                   clear hg_ hnew_
                   (first | rw [← Ny152.out] at ho35 | (simp only [Int.reduceToNat] at ho35; rw [← Ny152.out] at ho35))
                   have n0_ := mk_ (Kd.R_elder' (rp_ HO164) (Kd.R_base ho35) hb)
                   have n1_ := mk_ (Kd.R_lower (Kd.R_newB (Kd.R_new' ho35 (Kd.R_lt (rp_ HO164))) (g := gb147) (o := .cells #[.int .i64 a2_0, .int .i64 a2_1, .string a2_2] 35 (0, 0)) (bp_ BK147)) (below_size (bw_ HB)))
                   have n2_ := bb_ BK146 hb; have n3_ := bb_ BK147 hb; have n4_ := bb_ BK148 hb; have n5_ := bb_ BK168 hb
                   have n6_ := bs_ HB hb
                   clear HO164; clear BK146; clear BK147; clear BK148; clear BK168; clear HB; have HO164 := n0_; have HO154 := n1_; have BK146 := n2_; have BK147 := n3_; have BK148 := n4_; have BK168 := n5_; have HB := n6_; clear n0_ n1_ n2_ n3_ n4_ n5_ n6_; clear hb ho35
                   refine hK.out _ _ ⟨bc_ BK146 0, bc_ BK146 1, bc_ BK146 2, bc_ BK147 0, bc_ BK147 1, bc_ BK147 2⟩ (fun hHeld => ?_)
                   clear hK K
                   refine norm_ (a' := ?_) ?_ ?_
                   rotate_left
                   ·show Act.put _ (some 28) _ = _
                    simp only [Act.put, sia_, scz_, scs_, i64_w, i32_w]
                    rfl
                   exact norm_ (by first | (simp only [putAll, Act.put, sia_, scz_, scs_]; done) | (simp only [putAll, Act.put, sia_, scz_, scs_]; rfl)) (hJ4_15_18 (v153, v163, gb168) _ ⟨hHeld, (by (with_reducible repeat (first | apply Kd.R_alloc | apply Kd.R_drewN | apply Kd.R_drew)); exact Kd.R_mono HO154.out (fun _ hk => ⟨hk.1.2, hk.2⟩)), (by (with_reducible repeat (first | apply Kd.R_alloc | apply Kd.R_drewN | apply Kd.R_drew)); exact Kd.R_mono HO164.out (fun _ hk => ⟨hk.2, hk.1⟩)), (bp_ BK146), (bp_ BK147), (bp_ BK148), (bp_ BK168), GW168.out, GE168.out, NB146_168.out, NB168_146.out, NB147_168.out, NB168_147.out, NB148_168.out, NB168_148.out, (bw_ HB)⟩)
                 ·skip
                  rintro ⟨v153, gb168⟩ w33 ⟨hS_, h0_, h1_, h2_, h3_, h4_, h5_, h6_, h7_, h8_, h9_, h10_, h11_, h12_, h13_⟩
                  have n0_ : Aside0 (Kd.R k35 35 w33 w.heap.size (fun k_ => k_ ≠ gb147) v153 y152) := ⟨h0_⟩
                  have n1_ : Aside0 (w33.heap[gb146]? = some (.cells #[.int .i64 a0_0, .int .i64 a0_1, .slice A0_2 l0_2.length c0_2] 31 (0, 0))) := ⟨h1_⟩
                  have n2_ : Aside0 (w33.heap[gb147]? = some (.cells #[.int .i64 a2_0, .int .i64 a2_1, .string a2_2] 35 (0, 0))) := ⟨h2_⟩
                  have n3_ : Aside0 (w33.heap[gb148]? = some (.cells #[.int .i64 0, .int .i64 0, .slice none 0 0] 31 (0, 0))) := ⟨h3_⟩
                  have n4_ : Aside0 (w33.heap[gb168]? = some (.cells #[.int .i64 0, .int .i64 0, .slice none 0 0] 31 (0, 0))) := ⟨h4_⟩
                  have n5_ : Aside0 (w.heap.size ≤ gb168) := ⟨h5_⟩
                  have n6_ : Aside0 (w.heap.size ≤ gb168) := ⟨h6_⟩
                  have n7_ : Aside0 (gb146 ≠ gb168) := ⟨h7_⟩
                  have n8_ : Aside0 (gb168 ≠ gb146) := ⟨h8_⟩
                  have n9_ : Aside0 (gb147 ≠ gb168) := ⟨h9_⟩
                  have n10_ : Aside0 (gb168 ≠ gb147) := ⟨h10_⟩
                  have n11_ : Aside0 (gb148 ≠ gb168) := ⟨h11_⟩
                  have n12_ : Aside0 (gb168 ≠ gb148) := ⟨h12_⟩
                  have n13_ : Aside0 (Below w.heap.size w w33) := ⟨h13_⟩
                  clear BK146; clear BK147; clear BK148; clear HB; clear h0_ h1_ h2_ h3_ h4_ h5_ h6_ h7_ h8_ h9_ h10_ h11_ h12_ h13_; have HO154 := n0_; have BK146 := n1_; have BK147 := n2_; have BK148 := n3_; have BK168 := n4_; have GW168 := n5_; have GE168 := n6_; have NB146_168 := n7_; have NB168_146 := n8_; have NB147_168 := n9_; have NB168_147 := n10_; have NB148_168 := n11_; have NB168_148 := n12_; have HB := n13_; clear n0_ n1_ n2_ n3_ n4_ n5_ n6_ n7_ n8_ n9_ n10_ n11_ n12_ n13_
                  have hHeld : w33.cell? ⟨gb146, 0, none⟩ = some (.int .i64 a0_0) ∧ w33.cell? ⟨gb146, 1, none⟩ = some (.int .i64 a0_1) ∧ w33.cell? ⟨gb146, 2, none⟩ = some (.slice A0_2 l0_2.length c0_2) ∧ w33.cell? ⟨gb147, 0, none⟩ = some (.int .i64 a2_0) ∧ w33.cell? ⟨gb147, 1, none⟩ = some (.int .i64 a2_1) ∧ w33.cell? ⟨gb147, 2, none⟩ = some (.string a2_2) := hS_
                  refine norm_ (a' := ?_) ?_ ?_
                  rotate_left
                  ·simp only [putAll, Act.put, sia_, scz_, scs_]
                   rfl
                  refine two_ (i := 13) (j := 15) (Ni := some 37) (Nj := some 39) #[true, true, true, true, true, true, true, true, true, true, true, true, true, true, true, false, false, false, true, false] #[true, true, true, true, true, true, true, true, true, true, true, true, true, false, true, true, false, false, true, false] rfl rfl rfl rfl (two_of HT_.out (by kernel_rfl)) (by decide) (by decide) (fun K hK => ?_) (fun K hK => ?_)
                  ·skip
                   refine Kd.R_append_rows_step k35 (w0 := w) w.heap.size (by rfl) (.tmp 28) (.tmp 36) 29 35 (.agg #[(.int .i64 0), (.int .i64 0), (.string ⟨#[]⟩)]) 32 rfl Try.underlying29 info35 rfl (by decide) (by omega) v153 y152 y155 _ _ _ (fun k_ => k_ ≠ gb147) (fun _ => False) rfl rfl ?aO ?aR (fun _ _ h => h) (fun _ h => h.elim) ?aF ?aB ?aS ?aL ?_
                   (case aR => repeat (first | exact (Kd.C_below HR158.out HB.out) | (with_reducible refine Kd.C_alloc ?_ _) | (with_reducible refine Kd.C_drewN ?_ _) | (with_reducible refine Kd.C_drew ?_)))
                   (case aB => exact (bw_ HB))
                   (case aF => exact (fun k_ hk => Kd.freshB (g := gb147) (o := .cells #[.int .i64 a2_0, .int .i64 a2_1, .string a2_2] 35 (0, 0)) (bp_ BK147) k_ hk))
                   (case aO => exact (rp_ HO154))
                   (case aS => exact (below_size (bw_ HB)))
                   (case aL => have := LMc24.out; omega)
                   intro v160 w34 ho hb hg hat
                   rw [← Ny159.out] at ho
                   have n0_ := mk_ (blk_grown (g := gb146) (o := .cells #[.int .i64 a0_0, .int .i64 a0_1, .slice A0_2 l0_2.length c0_2] 31 (0, 0)) (bp_ BK146) hg (Kd.R_ne HO154.out BK146.out (by decide)))
                   have n1_ := mk_ (blk_grown (g := gb147) (o := .cells #[.int .i64 a2_0, .int .i64 a2_1, .string a2_2] 35 (0, 0)) (bp_ BK147) hg (Kd.R_away HO154.out (fun _ hk => hk)))
                   have n2_ := mk_ (blk_grown (g := gb148) (o := .cells #[.int .i64 0, .int .i64 0, .slice none 0 0] 31 (0, 0)) (bp_ BK148) hg (Kd.R_ne HO154.out BK148.out (by decide)))
                   have n3_ := mk_ (blk_grown (g := gb168) (o := .cells #[.int .i64 0, .int .i64 0, .slice none 0 0] 31 (0, 0)) (bp_ BK168) hg (Kd.R_ne HO154.out BK168.out (by decide)))
                   have n4_ := mk_ (hb)
                   have n5_ := mk_ (ho)
                   clear BK146; clear BK147; clear BK148; clear BK168; clear HB; clear HO154; have BK146 := n0_; have BK147 := n1_; have BK148 := n2_; have BK168 := n3_; have HB := n4_; have HO161 := n5_; clear n0_ n1_ n2_ n3_ n4_ n5_; clear ho hb hg hat
                   refine hK.out _ _ ⟨bc_ BK146 0, bc_ BK146 1, bc_ BK146 2, bc_ BK147 0, bc_ BK147 1, bc_ BK147 2⟩ (fun hHeld => ?_)
                   clear hK K
                   refine norm_ (a' := ?_) ?_ ?_
                   rotate_left
                   ·show Act.put _ (some 37) _ = _
                    simp only [Act.put, sia_, scz_, scs_, i64_w, i32_w]
                    rfl
                   exact norm_ (by first | (simp only [putAll, Act.put, sia_, scz_, scs_]; done) | (simp only [putAll, Act.put, sia_, scz_, scs_]; rfl)) (hJ4_13_18 (v153, v160, gb168) _ ⟨hHeld, (rp_ HO161), (bp_ BK146), (bp_ BK147), (bp_ BK148), (bp_ BK168), GW168.out, GE168.out, NB146_168.out, NB168_146.out, NB147_168.out, NB168_147.out, NB148_168.out, NB168_148.out, (bw_ HB)⟩)
                  ·skip
                   refine Kd.R_lit_step k35 _ 35 ?hg (N := 39) ?hd (xs := ([(⟨a2_0, a2_1, a2_2⟩ : S35)] : List (S35))) (inner := [.int .i64 a2_0, .int .i64 a2_1, .string a2_2]) (ok := fun _ => True) (okp := fun _ => True) ?hr ?hp (fun _ hk => hk) trivial (Below.refl _ _) (Nat.le_refl _) (by simp) ?_; (case hd => rfl); (case hg => rfl); (case hr => first | (go_simp; done) | (go_simp; rfl)); (case hp => exact (Reps.c3 (show Kd.M k35 _ _ _ (⟨a2_0, a2_1, a2_2⟩ : S35) [.int .i64 a2_0, .int .i64 a2_1, .string a2_2] from (k35_mkM _ _ _ (⟨a2_0, a2_1, a2_2⟩ : S35) )) (Reps.none _ _)))
                   intro v163 w34 ho35 hb hg_ hnew_
                   clear hg_ hnew_
                   (first | rw [← Ny162.out] at ho35 | (simp only [Int.reduceToNat] at ho35; rw [← Ny162.out] at ho35))
                   have n0_ := mk_ (Kd.R_elder' (rp_ HO154) (Kd.R_base ho35) hb)
                   have n1_ := mk_ (Kd.R_lower (Kd.R_newB (Kd.R_new' ho35 (Kd.R_lt (rp_ HO154))) (g := gb147) (o := .cells #[.int .i64 a2_0, .int .i64 a2_1, .string a2_2] 35 (0, 0)) (bp_ BK147)) (below_size (bw_ HB)))
                   have n2_ := bb_ BK146 hb; have n3_ := bb_ BK147 hb; have n4_ := bb_ BK148 hb; have n5_ := bb_ BK168 hb
                   have n6_ := bs_ HB hb
                   clear HO154; clear BK146; clear BK147; clear BK148; clear BK168; clear HB; have HO154 := n0_; have HO164 := n1_; have BK146 := n2_; have BK147 := n3_; have BK148 := n4_; have BK168 := n5_; have HB := n6_; clear n0_ n1_ n2_ n3_ n4_ n5_ n6_; clear hb ho35
                   refine hK.out _ _ ⟨bc_ BK146 0, bc_ BK146 1, bc_ BK146 2, bc_ BK147 0, bc_ BK147 1, bc_ BK147 2⟩ (fun hHeld => ?_)
                   clear hK K
                   refine norm_ (a' := ?_) ?_ ?_
                   rotate_left
                   ·show Act.put _ (some 39) _ = _
                    simp only [Act.put, sia_, scz_, scs_, i64_w, i32_w]
                    rfl
                   exact norm_ (by first | (simp only [putAll, Act.put, sia_, scz_, scs_]; done) | (simp only [putAll, Act.put, sia_, scz_, scs_]; rfl)) (hJ4_15_18 (v153, v163, gb168) _ ⟨hHeld, (by (with_reducible repeat (first | apply Kd.R_alloc | apply Kd.R_drewN | apply Kd.R_drew)); exact Kd.R_mono HO154.out (fun _ hk => ⟨hk.2, hk.1⟩)), (by (with_reducible repeat (first | apply Kd.R_alloc | apply Kd.R_drewN | apply Kd.R_drew)); exact Kd.R_mono HO164.out (fun _ hk => ⟨hk.1.2, hk.2⟩)), (bp_ BK146), (bp_ BK147), (bp_ BK148), (bp_ BK168), GW168.out, GE168.out, NB146_168.out, NB168_146.out, NB147_168.out, NB168_147.out, NB148_168.out, NB168_148.out, (bw_ HB)⟩)
                ·skip
                 rintro ⟨v153, v163⟩ w34 ⟨hS_, h0_, h1_, h2_, h3_, h4_, h5_⟩
                 have n0_ : Aside0 (Kd.R k35 35 w34 w.heap.size (fun k_ => some k_ ≠ (v163 : Value).ownBlock ∧ k_ ≠ gb147) v153 y152) := ⟨h0_⟩
                 have n1_ : Aside0 (Kd.R k35 35 w34 w.heap.size (fun k_ => some k_ ≠ (v153 : Value).ownBlock ∧ k_ ≠ gb147) v163 y162) := ⟨h1_⟩
                 have n2_ : Aside0 (w34.heap[gb146]? = some (.cells #[.int .i64 a0_0, .int .i64 a0_1, .slice A0_2 l0_2.length c0_2] 31 (0, 0))) := ⟨h2_⟩
                 have n3_ : Aside0 (w34.heap[gb147]? = some (.cells #[.int .i64 a2_0, .int .i64 a2_1, .string a2_2] 35 (0, 0))) := ⟨h3_⟩
                 have n4_ : Aside0 (w34.heap[gb148]? = some (.cells #[.int .i64 0, .int .i64 0, .slice none 0 0] 31 (0, 0))) := ⟨h4_⟩
                 have n5_ : Aside0 (Below w.heap.size w w34) := ⟨h5_⟩
                 clear BK146; clear BK147; clear BK148; clear HB; clear h0_ h1_ h2_ h3_ h4_ h5_; have HO154 := n0_; have HO164 := n1_; have BK146 := n2_; have BK147 := n3_; have BK148 := n4_; have HB := n5_; clear n0_ n1_ n2_ n3_ n4_ n5_
                 have hHeld : w34.cell? ⟨gb146, 0, none⟩ = some (.int .i64 a0_0) ∧ w34.cell? ⟨gb146, 1, none⟩ = some (.int .i64 a0_1) ∧ w34.cell? ⟨gb146, 2, none⟩ = some (.slice A0_2 l0_2.length c0_2) ∧ w34.cell? ⟨gb147, 0, none⟩ = some (.int .i64 a2_0) ∧ w34.cell? ⟨gb147, 1, none⟩ = some (.int .i64 a2_1) ∧ w34.cell? ⟨gb147, 2, none⟩ = some (.string a2_2) := hS_
                 refine norm_ (a' := ?_) ?_ ?_
                 rotate_left
                 ·simp only [putAll, Act.put, sia_, scz_, scs_]
                  rfl
                 refine two_ (i := 13) (j := 18) (Ni := some 37) (Nj := some 8) #[true, true, true, true, true, true, true, true, true, true, true, true, true, true, true, true, false, false, false, false] #[true, true, true, true, true, true, true, true, true, true, true, true, true, false, true, true, false, false, true, false] rfl rfl rfl rfl (two_of HT_.out (by kernel_rfl)) (by decide) (by decide) (fun K hK => ?_) (fun K hK => ?_)
                 ·skip
                  refine Kd.R_append_rows_step k35 (w0 := w) w.heap.size (by rfl) (.tmp 28) (.tmp 36) 29 35 (.agg #[(.int .i64 0), (.int .i64 0), (.string ⟨#[]⟩)]) 32 rfl Try.underlying29 info35 rfl (by decide) (by omega) v153 y152 y155 _ _ _ (fun k_ => some k_ ≠ (v163 : Value).ownBlock ∧ k_ ≠ gb147) (fun _ => False) rfl rfl ?aO ?aR (fun _ _ h => h) (fun _ h => h.elim) ?aF ?aB ?aS ?aL ?_
                  (case aR => repeat (first | exact (Kd.C_below HR158.out HB.out) | (with_reducible refine Kd.C_alloc ?_ _) | (with_reducible refine Kd.C_drewN ?_ _) | (with_reducible refine Kd.C_drew ?_)))
                  (case aB => exact (bw_ HB))
                  (case aF => exact (fun k_ hk => ⟨Kd.fresh' (Kd.R_lt (rp_ HO164)) k_ hk, Kd.freshB (g := gb147) (o := .cells #[.int .i64 a2_0, .int .i64 a2_1, .string a2_2] 35 (0, 0)) (bp_ BK147) k_ hk⟩))
                  (case aO => exact (rp_ HO154))
                  (case aS => exact (below_size (bw_ HB)))
                  (case aL => have := LMc24.out; omega)
                  intro v160 w35 ho hb hg hat
                  rw [← Ny159.out] at ho
                  have n0_ := mk_ (blk_grown (g := gb146) (o := .cells #[.int .i64 a0_0, .int .i64 a0_1, .slice A0_2 l0_2.length c0_2] 31 (0, 0)) (bp_ BK146) hg (Kd.R_ne HO154.out BK146.out (by decide)))
                  have n1_ := mk_ (blk_grown (g := gb147) (o := .cells #[.int .i64 a2_0, .int .i64 a2_1, .string a2_2] 35 (0, 0)) (bp_ BK147) hg (Kd.R_away HO154.out (fun _ hk => hk.2)))
                  have n2_ := mk_ (blk_grown (g := gb148) (o := .cells #[.int .i64 0, .int .i64 0, .slice none 0 0] 31 (0, 0)) (bp_ BK148) hg (Kd.R_ne HO154.out BK148.out (by decide)))
                  have n3_ := mk_ (Kd.R_after (ok := (fun k_ => k_ ≠ gb147)) (by (with_reducible repeat (first | apply Kd.R_alloc | apply Kd.R_drewN | apply Kd.R_drew)); exact Kd.R_mono HO164.out (fun _ hk => ⟨hk.2, hk.1⟩)) hg hat)
                  have n4_ := mk_ (hb)
                  have n5_ := mk_ (ho)
                  clear BK146; clear BK147; clear BK148; clear HO164; clear HB; clear HO154; have BK146 := n0_; have BK147 := n1_; have BK148 := n2_; have HO164 := n3_; have HB := n4_; have HO161 := n5_; clear n0_ n1_ n2_ n3_ n4_ n5_; clear ho hb hg hat
                  refine hK.out _ _ ⟨bc_ BK146 0, bc_ BK146 1, bc_ BK146 2, bc_ BK147 0, bc_ BK147 1, bc_ BK147 2⟩ (fun hHeld => ?_)
                  clear hK K
                  refine norm_ (a' := ?_) ?_ ?_
                  rotate_left
                  ·show Act.put _ (some 37) _ = _
                   simp only [Act.put, sia_, scz_, scs_, i64_w, i32_w]
                   rfl
                  exact norm_ (by first | (simp only [putAll, Act.put, sia_, scz_, scs_]; done) | (simp only [putAll, Act.put, sia_, scz_, scs_]; rfl)) (hJ4_13_15 (v153, v160, v163) _ ⟨hHeld, (rp_ HO161), (by (with_reducible repeat (first | apply Kd.R_alloc | apply Kd.R_drewN | apply Kd.R_drew)); exact Kd.R_mono HO164.out (fun _ hk => ⟨hk.2, hk.1⟩)), (bp_ BK146), (bp_ BK147), (bp_ BK148), (bw_ HB)⟩)
                 ·skip
                  refine box_step ?hg (N := 8) ?hd (cs := #[.int .i64 0, .int .i64 0, .slice none 0 0]) (t := 31) ?hr ?_; (case hd => rfl); (case hg => rfl); (case hr => first | (go_simp; done) | (go_simp; rfl))
                  intro gb168 hg w35 hbox hb
                  have n0_ := rb_ HO154 hb
                  have n1_ := rb_ HO164 hb
                  have n2_ := bb_ BK146 hb; have n3_ := bb_ BK147 hb; have n4_ := bb_ BK148 hb
                  have n5_ := bs_ HB hb
                  have n6_ := mk_ (hbox)
                  have n7_ : Aside0 (w.heap.size ≤ gb168) := bz_ hg
                  have n8_ : Aside0 (w.heap.size ≤ gb168) := bz_ hg
                  have n9_ : Aside0 (gb146 ≠ gb168) := bl_ BK146 hg
                  have n10_ : Aside0 (gb168 ≠ gb146) := bg_ BK146 hg
                  have n11_ : Aside0 (gb147 ≠ gb168) := bl_ BK147 hg
                  have n12_ : Aside0 (gb168 ≠ gb147) := bg_ BK147 hg
                  have n13_ : Aside0 (gb148 ≠ gb168) := bl_ BK148 hg
                  have n14_ : Aside0 (gb168 ≠ gb148) := bg_ BK148 hg
                  clear HO154; clear HO164; clear BK146; clear BK147; clear BK148; clear HB; have HO154 := n0_; have HO164 := n1_; have BK146 := n2_; have BK147 := n3_; have BK148 := n4_; have HB := n5_; have BK168 := n6_; have GW168 := n7_; have GE168 := n8_; have NB146_168 := n9_; have NB168_146 := n10_; have NB147_168 := n11_; have NB168_147 := n12_; have NB148_168 := n13_; have NB168_148 := n14_; clear n0_ n1_ n2_ n3_ n4_ n5_ n6_ n7_ n8_ n9_ n10_ n11_ n12_ n13_ n14_; clear hb hbox hg
                  refine hK.out _ _ ⟨bc_ BK146 0, bc_ BK146 1, bc_ BK146 2, bc_ BK147 0, bc_ BK147 1, bc_ BK147 2⟩ (fun hHeld => ?_)
                  clear hK K
                  refine norm_ (a' := ?_) ?_ ?_
                  rotate_left
                  ·show Act.put _ (some 8) _ = _
                   simp only [Act.put, sia_, scz_, scs_, i64_w, i32_w]
                   rfl
                  exact norm_ (by first | (simp only [putAll, Act.put, sia_, scz_, scs_]; done) | (simp only [putAll, Act.put, sia_, scz_, scs_]; rfl)) (hJ4_15_18 (v153, v163, gb168) _ ⟨hHeld, (rp_ HO154), (rp_ HO164), (bp_ BK146), (bp_ BK147), (bp_ BK148), (bp_ BK168), GW168.out, GE168.out, NB146_168.out, NB168_146.out, NB147_168.out, NB168_147.out, NB148_168.out, NB168_148.out, (bw_ HB)⟩)
               ·skip
                rintro ⟨v153, v160⟩ w33 ⟨hS_, h0_, h1_, h2_, h3_, h4_⟩
                have n0_ : Aside0 (Kd.R k35 35 w33 w.heap.size (fun k_ => k_ ≠ gb147) v160 y159) := ⟨h0_⟩
                have n1_ : Aside0 (w33.heap[gb146]? = some (.cells #[.int .i64 a0_0, .int .i64 a0_1, .slice A0_2 l0_2.length c0_2] 31 (0, 0))) := ⟨h1_⟩
                have n2_ : Aside0 (w33.heap[gb147]? = some (.cells #[.int .i64 a2_0, .int .i64 a2_1, .string a2_2] 35 (0, 0))) := ⟨h2_⟩
                have n3_ : Aside0 (w33.heap[gb148]? = some (.cells #[.int .i64 0, .int .i64 0, .slice none 0 0] 31 (0, 0))) := ⟨h3_⟩
                have n4_ : Aside0 (Below w.heap.size w w33) := ⟨h4_⟩
                clear BK146; clear BK147; clear BK148; clear HB; clear h0_ h1_ h2_ h3_ h4_; have HO161 := n0_; have BK146 := n1_; have BK147 := n2_; have BK148 := n3_; have HB := n4_; clear n0_ n1_ n2_ n3_ n4_
                have hHeld : w33.cell? ⟨gb146, 0, none⟩ = some (.int .i64 a0_0) ∧ w33.cell? ⟨gb146, 1, none⟩ = some (.int .i64 a0_1) ∧ w33.cell? ⟨gb146, 2, none⟩ = some (.slice A0_2 l0_2.length c0_2) ∧ w33.cell? ⟨gb147, 0, none⟩ = some (.int .i64 a2_0) ∧ w33.cell? ⟨gb147, 1, none⟩ = some (.int .i64 a2_1) ∧ w33.cell? ⟨gb147, 2, none⟩ = some (.string a2_2) := hS_
                refine norm_ (a' := ?_) ?_ ?_
                rotate_left
                ·simp only [putAll, Act.put, sia_, scz_, scs_]
                 rfl
                refine two_ (i := 15) (j := 18) (Ni := some 39) (Nj := some 8) #[true, true, true, true, true, true, true, true, true, true, true, true, true, true, true, true, false, false, false, false] #[true, true, true, true, true, true, true, true, true, true, true, true, true, true, true, false, false, false, true, false] rfl rfl rfl rfl (two_of HT_.out (by kernel_rfl)) (by decide) (by decide) (fun K hK => ?_) (fun K hK => ?_)
                ·skip
                 refine Kd.R_lit_step k35 _ 35 ?hg (N := 39) ?hd (xs := ([(⟨a2_0, a2_1, a2_2⟩ : S35)] : List (S35))) (inner := [.int .i64 a2_0, .int .i64 a2_1, .string a2_2]) (ok := fun _ => True) (okp := fun _ => True) ?hr ?hp (fun _ hk => hk) trivial (Below.refl _ _) (Nat.le_refl _) (by simp) ?_; (case hd => rfl); (case hg => rfl); (case hr => first | (go_simp; done) | (go_simp; rfl)); (case hp => exact (Reps.c3 (show Kd.M k35 _ _ _ (⟨a2_0, a2_1, a2_2⟩ : S35) [.int .i64 a2_0, .int .i64 a2_1, .string a2_2] from (k35_mkM _ _ _ (⟨a2_0, a2_1, a2_2⟩ : S35) )) (Reps.none _ _)))
                 intro v163 w34 ho35 hb hg_ hnew_
                 clear hg_ hnew_
                 (first | rw [← Ny162.out] at ho35 | (simp only [Int.reduceToNat] at ho35; rw [← Ny162.out] at ho35))
                 have n0_ := mk_ (Kd.R_elder' (rp_ HO161) (Kd.R_base ho35) hb)
                 have n1_ := mk_ (Kd.R_lower (Kd.R_newB (Kd.R_new' ho35 (Kd.R_lt (rp_ HO161))) (g := gb147) (o := .cells #[.int .i64 a2_0, .int .i64 a2_1, .string a2_2] 35 (0, 0)) (bp_ BK147)) (below_size (bw_ HB)))
                 have n2_ := bb_ BK146 hb; have n3_ := bb_ BK147 hb; have n4_ := bb_ BK148 hb
                 have n5_ := bs_ HB hb
                 clear HO161; clear BK146; clear BK147; clear BK148; clear HB; have HO161 := n0_; have HO164 := n1_; have BK146 := n2_; have BK147 := n3_; have BK148 := n4_; have HB := n5_; clear n0_ n1_ n2_ n3_ n4_ n5_; clear hb ho35
                 refine hK.out _ _ ⟨bc_ BK146 0, bc_ BK146 1, bc_ BK146 2, bc_ BK147 0, bc_ BK147 1, bc_ BK147 2⟩ (fun hHeld => ?_)
                 clear hK K
                 refine norm_ (a' := ?_) ?_ ?_
                 rotate_left
                 ·show Act.put _ (some 39) _ = _
                  simp only [Act.put, sia_, scz_, scs_, i64_w, i32_w]
                  rfl
                 exact norm_ (by first | (simp only [putAll, Act.put, sia_, scz_, scs_]; done) | (simp only [putAll, Act.put, sia_, scz_, scs_]; rfl)) (hJ4_13_15 (v153, v160, v163) _ ⟨hHeld, (by (with_reducible repeat (first | apply Kd.R_alloc | apply Kd.R_drewN | apply Kd.R_drew)); exact Kd.R_mono HO161.out (fun _ hk => ⟨hk.2, hk.1⟩)), (by (with_reducible repeat (first | apply Kd.R_alloc | apply Kd.R_drewN | apply Kd.R_drew)); exact Kd.R_mono HO164.out (fun _ hk => ⟨hk.1.2, hk.2⟩)), (bp_ BK146), (bp_ BK147), (bp_ BK148), (bw_ HB)⟩)
                ·skip
                 refine box_step ?hg (N := 8) ?hd (cs := #[.int .i64 0, .int .i64 0, .slice none 0 0]) (t := 31) ?hr ?_; (case hd => rfl); (case hg => rfl); (case hr => first | (go_simp; done) | (go_simp; rfl))
                 intro gb168 hg w34 hbox hb
                 have n0_ := rb_ HO161 hb
                 have n1_ := bb_ BK146 hb; have n2_ := bb_ BK147 hb; have n3_ := bb_ BK148 hb
                 have n4_ := bs_ HB hb
                 have n5_ := mk_ (hbox)
                 have n6_ : Aside0 (w.heap.size ≤ gb168) := bz_ hg
                 have n7_ : Aside0 (w.heap.size ≤ gb168) := bz_ hg
                 have n8_ : Aside0 (gb146 ≠ gb168) := bl_ BK146 hg
                 have n9_ : Aside0 (gb168 ≠ gb146) := bg_ BK146 hg
                 have n10_ : Aside0 (gb147 ≠ gb168) := bl_ BK147 hg
                 have n11_ : Aside0 (gb168 ≠ gb147) := bg_ BK147 hg
                 have n12_ : Aside0 (gb148 ≠ gb168) := bl_ BK148 hg
                 have n13_ : Aside0 (gb168 ≠ gb148) := bg_ BK148 hg
                 clear HO161; clear BK146; clear BK147; clear BK148; clear HB; have HO161 := n0_; have BK146 := n1_; have BK147 := n2_; have BK148 := n3_; have HB := n4_; have BK168 := n5_; have GW168 := n6_; have GE168 := n7_; have NB146_168 := n8_; have NB168_146 := n9_; have NB147_168 := n10_; have NB168_147 := n11_; have NB148_168 := n12_; have NB168_148 := n13_; clear n0_ n1_ n2_ n3_ n4_ n5_ n6_ n7_ n8_ n9_ n10_ n11_ n12_ n13_; clear hb hbox hg
                 refine hK.out _ _ ⟨bc_ BK146 0, bc_ BK146 1, bc_ BK146 2, bc_ BK147 0, bc_ BK147 1, bc_ BK147 2⟩ (fun hHeld => ?_)
                 clear hK K
                 refine norm_ (a' := ?_) ?_ ?_
                 rotate_left
                 ·show Act.put _ (some 8) _ = _
                  simp only [Act.put, sia_, scz_, scs_, i64_w, i32_w]
                  rfl
                 exact norm_ (by first | (simp only [putAll, Act.put, sia_, scz_, scs_]; done) | (simp only [putAll, Act.put, sia_, scz_, scs_]; rfl)) (hJ4_13_18 (v153, v160, gb168) _ ⟨hHeld, (rp_ HO161), (bp_ BK146), (bp_ BK147), (bp_ BK148), (bp_ BK168), GW168.out, GE168.out, NB146_168.out, NB168_146.out, NB147_168.out, NB168_147.out, NB148_168.out, NB168_148.out, (bw_ HB)⟩)
              ·skip
               rintro ⟨v153, v163, gb168⟩ w35 ⟨hS_, h0_, h1_, h2_, h3_, h4_, h5_, h6_, h7_, h8_, h9_, h10_, h11_, h12_, h13_, h14_⟩
               have n0_ : Aside0 (Kd.R k35 35 w35 w.heap.size (fun k_ => some k_ ≠ (v163 : Value).ownBlock ∧ k_ ≠ gb147) v153 y152) := ⟨h0_⟩
               have n1_ : Aside0 (Kd.R k35 35 w35 w.heap.size (fun k_ => some k_ ≠ (v153 : Value).ownBlock ∧ k_ ≠ gb147) v163 y162) := ⟨h1_⟩
               have n2_ : Aside0 (w35.heap[gb146]? = some (.cells #[.int .i64 a0_0, .int .i64 a0_1, .slice A0_2 l0_2.length c0_2] 31 (0, 0))) := ⟨h2_⟩
               have n3_ : Aside0 (w35.heap[gb147]? = some (.cells #[.int .i64 a2_0, .int .i64 a2_1, .string a2_2] 35 (0, 0))) := ⟨h3_⟩
               have n4_ : Aside0 (w35.heap[gb148]? = some (.cells #[.int .i64 0, .int .i64 0, .slice none 0 0] 31 (0, 0))) := ⟨h4_⟩
               have n5_ : Aside0 (w35.heap[gb168]? = some (.cells #[.int .i64 0, .int .i64 0, .slice none 0 0] 31 (0, 0))) := ⟨h5_⟩
               have n6_ : Aside0 (w.heap.size ≤ gb168) := ⟨h6_⟩
               have n7_ : Aside0 (w.heap.size ≤ gb168) := ⟨h7_⟩
               have n8_ : Aside0 (gb146 ≠ gb168) := ⟨h8_⟩
               have n9_ : Aside0 (gb168 ≠ gb146) := ⟨h9_⟩
               have n10_ : Aside0 (gb147 ≠ gb168) := ⟨h10_⟩
               have n11_ : Aside0 (gb168 ≠ gb147) := ⟨h11_⟩
               have n12_ : Aside0 (gb148 ≠ gb168) := ⟨h12_⟩
               have n13_ : Aside0 (gb168 ≠ gb148) := ⟨h13_⟩
               have n14_ : Aside0 (Below w.heap.size w w35) := ⟨h14_⟩
               clear BK146; clear BK147; clear BK148; clear HB; clear h0_ h1_ h2_ h3_ h4_ h5_ h6_ h7_ h8_ h9_ h10_ h11_ h12_ h13_ h14_; have HO154 := n0_; have HO164 := n1_; have BK146 := n2_; have BK147 := n3_; have BK148 := n4_; have BK168 := n5_; have GW168 := n6_; have GE168 := n7_; have NB146_168 := n8_; have NB168_146 := n9_; have NB147_168 := n10_; have NB168_147 := n11_; have NB148_168 := n12_; have NB168_148 := n13_; have HB := n14_; clear n0_ n1_ n2_ n3_ n4_ n5_ n6_ n7_ n8_ n9_ n10_ n11_ n12_ n13_ n14_
               have hHeld : w35.cell? ⟨gb146, 0, none⟩ = some (.int .i64 a0_0) ∧ w35.cell? ⟨gb146, 1, none⟩ = some (.int .i64 a0_1) ∧ w35.cell? ⟨gb146, 2, none⟩ = some (.slice A0_2 l0_2.length c0_2) ∧ w35.cell? ⟨gb147, 0, none⟩ = some (.int .i64 a2_0) ∧ w35.cell? ⟨gb147, 1, none⟩ = some (.int .i64 a2_1) ∧ w35.cell? ⟨gb147, 2, none⟩ = some (.string a2_2) := hS_
               refine norm_ (a' := ?_) ?_ ?_
               rotate_left
               ·simp only [putAll, Act.put, sia_, scz_, scs_]
                rfl
               refine one_ (i := 13) (N := some 37) #[true, true, true, true, true, true, true, true, true, true, true, true, true, true, true, true, false, false, true, false] rfl rfl (one_of HT_.out (by kernel_rfl)) (by decide) (fun K hK => ?_)
               refine Kd.R_append_rows_step k35 (w0 := w) w.heap.size (by rfl) (.tmp 28) (.tmp 36) 29 35 (.agg #[(.int .i64 0), (.int .i64 0), (.string ⟨#[]⟩)]) 32 rfl Try.underlying29 info35 rfl (by decide) (by omega) v153 y152 y155 _ _ _ (fun k_ => some k_ ≠ (v163 : Value).ownBlock ∧ k_ ≠ gb147) (fun _ => False) rfl rfl ?aO ?aR (fun _ _ h => h) (fun _ h => h.elim) ?aF ?aB ?aS ?aL ?_
               (case aR => repeat (first | exact (Kd.C_below HR158.out HB.out) | (with_reducible refine Kd.C_alloc ?_ _) | (with_reducible refine Kd.C_drewN ?_ _) | (with_reducible refine Kd.C_drew ?_)))
               (case aB => exact (bw_ HB))
               (case aF => exact (fun k_ hk => ⟨Kd.fresh' (Kd.R_lt (rp_ HO164)) k_ hk, Kd.freshB (g := gb147) (o := .cells #[.int .i64 a2_0, .int .i64 a2_1, .string a2_2] 35 (0, 0)) (bp_ BK147) k_ hk⟩))
               (case aO => exact (rp_ HO154))
               (case aS => exact (below_size (bw_ HB)))
               (case aL => have := LMc24.out; omega)
               intro v160 w36 ho hb hg hat
               rw [← Ny159.out] at ho
               have n0_ := mk_ (blk_grown (g := gb146) (o := .cells #[.int .i64 a0_0, .int .i64 a0_1, .slice A0_2 l0_2.length c0_2] 31 (0, 0)) (bp_ BK146) hg (Kd.R_ne HO154.out BK146.out (by decide)))
               have n1_ := mk_ (blk_grown (g := gb147) (o := .cells #[.int .i64 a2_0, .int .i64 a2_1, .string a2_2] 35 (0, 0)) (bp_ BK147) hg (Kd.R_away HO154.out (fun _ hk => hk.2)))
               have n2_ := mk_ (blk_grown (g := gb148) (o := .cells #[.int .i64 0, .int .i64 0, .slice none 0 0] 31 (0, 0)) (bp_ BK148) hg (Kd.R_ne HO154.out BK148.out (by decide)))
               have n3_ := mk_ (Kd.R_after (ok := (fun k_ => k_ ≠ gb147)) (by (with_reducible repeat (first | apply Kd.R_alloc | apply Kd.R_drewN | apply Kd.R_drew)); exact Kd.R_mono HO164.out (fun _ hk => ⟨hk.2, hk.1⟩)) hg hat)
               have n4_ := mk_ (blk_grown (g := gb168) (o := .cells #[.int .i64 0, .int .i64 0, .slice none 0 0] 31 (0, 0)) (bp_ BK168) hg (Kd.R_ne HO154.out BK168.out (by decide)))
               have n5_ := mk_ (hb)
               have n6_ := mk_ (ho)
               clear BK146; clear BK147; clear BK148; clear HO164; clear BK168; clear HB; clear HO154; have BK146 := n0_; have BK147 := n1_; have BK148 := n2_; have HO164 := n3_; have BK168 := n4_; have HB := n5_; have HO161 := n6_; clear n0_ n1_ n2_ n3_ n4_ n5_ n6_; clear ho hb hg hat
               refine hK.out _ _ ⟨bc_ BK146 0, bc_ BK146 1, bc_ BK146 2, bc_ BK147 0, bc_ BK147 1, bc_ BK147 2⟩ (fun hHeld => ?_)
               clear hK K
               refine norm_ (a' := ?_) ?_ ?_
               rotate_left
               ·show Act.put _ (some 37) _ = _
                simp only [Act.put, sia_, scz_, scs_, i64_w, i32_w]
                rfl
               exact norm_ (by first | (simp only [putAll, Act.put, sia_, scz_, scs_]; done) | (simp only [putAll, Act.put, sia_, scz_, scs_]; rfl)) (hJ4_13_15_18 (v153, v160, v163, gb168) _ ⟨hHeld, (rp_ HO161), (by (with_reducible repeat (first | apply Kd.R_alloc | apply Kd.R_drewN | apply Kd.R_drew)); exact Kd.R_mono HO164.out (fun _ hk => ⟨hk.2, hk.1⟩)), (bp_ BK146), (bp_ BK147), (bp_ BK148), (bp_ BK168), GW168.out, GE168.out, NB146_168.out, NB168_146.out, NB147_168.out, NB168_147.out, NB148_168.out, NB168_148.out, (bw_ HB)⟩)
             ·skip
              rintro ⟨v153, v160, gb168⟩ w34 ⟨hS_, h0_, h1_, h2_, h3_, h4_, h5_, h6_, h7_, h8_, h9_, h10_, h11_, h12_, h13_⟩
              have n0_ : Aside0 (Kd.R k35 35 w34 w.heap.size (fun k_ => k_ ≠ gb147) v160 y159) := ⟨h0_⟩
              have n1_ : Aside0 (w34.heap[gb146]? = some (.cells #[.int .i64 a0_0, .int .i64 a0_1, .slice A0_2 l0_2.length c0_2] 31 (0, 0))) := ⟨h1_⟩
              have n2_ : Aside0 (w34.heap[gb147]? = some (.cells #[.int .i64 a2_0, .int .i64 a2_1, .string a2_2] 35 (0, 0))) := ⟨h2_⟩
              have n3_ : Aside0 (w34.heap[gb148]? = some (.cells #[.int .i64 0, .int .i64 0, .slice none 0 0] 31 (0, 0))) := ⟨h3_⟩
              have n4_ : Aside0 (w34.heap[gb168]? = some (.cells #[.int .i64 0, .int .i64 0, .slice none 0 0] 31 (0, 0))) := ⟨h4_⟩
              have n5_ : Aside0 (w.heap.size ≤ gb168) := ⟨h5_⟩
              have n6_ : Aside0 (w.heap.size ≤ gb168) := ⟨h6_⟩
              have n7_ : Aside0 (gb146 ≠ gb168) := ⟨h7_⟩
              have n8_ : Aside0 (gb168 ≠ gb146) := ⟨h8_⟩
              have n9_ : Aside0 (gb147 ≠ gb168) := ⟨h9_⟩
              have n10_ : Aside0 (gb168 ≠ gb147) := ⟨h10_⟩
              have n11_ : Aside0 (gb148 ≠ gb168) := ⟨h11_⟩
              have n12_ : Aside0 (gb168 ≠ gb148) := ⟨h12_⟩
              have n13_ : Aside0 (Below w.heap.size w w34) := ⟨h13_⟩
              clear BK146; clear BK147; clear BK148; clear HB; clear h0_ h1_ h2_ h3_ h4_ h5_ h6_ h7_ h8_ h9_ h10_ h11_ h12_ h13_; have HO161 := n0_; have BK146 := n1_; have BK147 := n2_; have BK148 := n3_; have BK168 := n4_; have GW168 := n5_; have GE168 := n6_; have NB146_168 := n7_; have NB168_146 := n8_; have NB147_168 := n9_; have NB168_147 := n10_; have NB148_168 := n11_; have NB168_148 := n12_; have HB := n13_; clear n0_ n1_ n2_ n3_ n4_ n5_ n6_ n7_ n8_ n9_ n10_ n11_ n12_ n13_
              have hHeld : w34.cell? ⟨gb146, 0, none⟩ = some (.int .i64 a0_0) ∧ w34.cell? ⟨gb146, 1, none⟩ = some (.int .i64 a0_1) ∧ w34.cell? ⟨gb146, 2, none⟩ = some (.slice A0_2 l0_2.length c0_2) ∧ w34.cell? ⟨gb147, 0, none⟩ = some (.int .i64 a2_0) ∧ w34.cell? ⟨gb147, 1, none⟩ = some (.int .i64 a2_1) ∧ w34.cell? ⟨gb147, 2, none⟩ = some (.string a2_2) := hS_
              refine norm_ (a' := ?_) ?_ ?_
              rotate_left
              ·simp only [putAll, Act.put, sia_, scz_, scs_]
               rfl
              refine one_ (i := 15) (N := some 39) #[true, true, true, true, true, true, true, true, true, true, true, true, true, true, true, true, false, false, true, false] rfl rfl (one_of HT_.out (by kernel_rfl)) (by decide) (fun K hK => ?_)
              refine Kd.R_lit_step k35 _ 35 ?hg (N := 39) ?hd (xs := ([(⟨a2_0, a2_1, a2_2⟩ : S35)] : List (S35))) (inner := [.int .i64 a2_0, .int .i64 a2_1, .string a2_2]) (ok := fun _ => True) (okp := fun _ => True) ?hr ?hp (fun _ hk => hk) trivial (Below.refl _ _) (Nat.le_refl _) (by simp) ?_; (case hd => rfl); (case hg => rfl); (case hr => first | (go_simp; done) | (go_simp; rfl)); (case hp => exact (Reps.c3 (show Kd.M k35 _ _ _ (⟨a2_0, a2_1, a2_2⟩ : S35) [.int .i64 a2_0, .int .i64 a2_1, .string a2_2] from (k35_mkM _ _ _ (⟨a2_0, a2_1, a2_2⟩ : S35) )) (Reps.none _ _)))
              intro v163 w35 ho36 hb hg_ hnew_
              clear hg_ hnew_
              (first | rw [← Ny162.out] at ho36 | (simp only [Int.reduceToNat] at ho36; rw [← Ny162.out] at ho36))
              have n0_ := mk_ (Kd.R_elder' (rp_ HO161) (Kd.R_base ho36) hb)
              have n1_ := mk_ (Kd.R_lower (Kd.R_newB (Kd.R_new' ho36 (Kd.R_lt (rp_ HO161))) (g := gb147) (o := .cells #[.int .i64 a2_0, .int .i64 a2_1, .string a2_2] 35 (0, 0)) (bp_ BK147)) (below_size (bw_ HB)))
              have n2_ := bb_ BK146 hb; have n3_ := bb_ BK147 hb; have n4_ := bb_ BK148 hb; have n5_ := bb_ BK168 hb
              have n6_ := bs_ HB hb
              clear HO161; clear BK146; clear BK147; clear BK148; clear BK168; clear HB; have HO161 := n0_; have HO164 := n1_; have BK146 := n2_; have BK147 := n3_; have BK148 := n4_; have BK168 := n5_; have HB := n6_; clear n0_ n1_ n2_ n3_ n4_ n5_ n6_; clear hb ho36
              refine hK.out _ _ ⟨bc_ BK146 0, bc_ BK146 1, bc_ BK146 2, bc_ BK147 0, bc_ BK147 1, bc_ BK147 2⟩ (fun hHeld => ?_)
              clear hK K
              refine norm_ (a' := ?_) ?_ ?_
              rotate_left
              ·show Act.put _ (some 39) _ = _
               simp only [Act.put, sia_, scz_, scs_, i64_w, i32_w]
               rfl
              exact norm_ (by first | (simp only [putAll, Act.put, sia_, scz_, scs_]; done) | (simp only [putAll, Act.put, sia_, scz_, scs_]; rfl)) (hJ4_13_15_18 (v153, v160, v163, gb168) _ ⟨hHeld, (by (with_reducible repeat (first | apply Kd.R_alloc | apply Kd.R_drewN | apply Kd.R_drew)); exact Kd.R_mono HO161.out (fun _ hk => ⟨hk.2, hk.1⟩)), (by (with_reducible repeat (first | apply Kd.R_alloc | apply Kd.R_drewN | apply Kd.R_drew)); exact Kd.R_mono HO164.out (fun _ hk => ⟨hk.1.2, hk.2⟩)), (bp_ BK146), (bp_ BK147), (bp_ BK148), (bp_ BK168), GW168.out, GE168.out, NB146_168.out, NB168_146.out, NB147_168.out, NB168_147.out, NB148_168.out, NB168_148.out, (bw_ HB)⟩)
            ·skip
             rintro ⟨v153, v160, v163⟩ w35 ⟨hS_, h0_, h1_, h2_, h3_, h4_, h5_⟩
             have n0_ : Aside0 (Kd.R k35 35 w35 w.heap.size (fun k_ => some k_ ≠ (v163 : Value).ownBlock ∧ k_ ≠ gb147) v160 y159) := ⟨h0_⟩
             have n1_ : Aside0 (Kd.R k35 35 w35 w.heap.size (fun k_ => some k_ ≠ (v160 : Value).ownBlock ∧ k_ ≠ gb147) v163 y162) := ⟨h1_⟩
             have n2_ : Aside0 (w35.heap[gb146]? = some (.cells #[.int .i64 a0_0, .int .i64 a0_1, .slice A0_2 l0_2.length c0_2] 31 (0, 0))) := ⟨h2_⟩
             have n3_ : Aside0 (w35.heap[gb147]? = some (.cells #[.int .i64 a2_0, .int .i64 a2_1, .string a2_2] 35 (0, 0))) := ⟨h3_⟩
             have n4_ : Aside0 (w35.heap[gb148]? = some (.cells #[.int .i64 0, .int .i64 0, .slice none 0 0] 31 (0, 0))) := ⟨h4_⟩
             have n5_ : Aside0 (Below w.heap.size w w35) := ⟨h5_⟩
             clear BK146; clear BK147; clear BK148; clear HB; clear h0_ h1_ h2_ h3_ h4_ h5_; have HO161 := n0_; have HO164 := n1_; have BK146 := n2_; have BK147 := n3_; have BK148 := n4_; have HB := n5_; clear n0_ n1_ n2_ n3_ n4_ n5_
             have hHeld : w35.cell? ⟨gb146, 0, none⟩ = some (.int .i64 a0_0) ∧ w35.cell? ⟨gb146, 1, none⟩ = some (.int .i64 a0_1) ∧ w35.cell? ⟨gb146, 2, none⟩ = some (.slice A0_2 l0_2.length c0_2) ∧ w35.cell? ⟨gb147, 0, none⟩ = some (.int .i64 a2_0) ∧ w35.cell? ⟨gb147, 1, none⟩ = some (.int .i64 a2_1) ∧ w35.cell? ⟨gb147, 2, none⟩ = some (.string a2_2) := hS_
             obtain ⟨Ao37, co37, eo37⟩ := Kd.R_slice HO164.out
             (first | subst eo37 | (injection eo37 with f1_ f2_ f3_; have f4_ := f1_.symm; have f5_ := f3_.symm; clear f1_ f2_ f3_; subst f4_; subst f5_))
             refine norm_ (a' := ?_) ?_ ?_
             rotate_left
             ·simp only [putAll, Act.put, sia_, scz_, scs_]
              rfl
             refine two_ (i := 16) (j := 18) (Ni := some 40) (Nj := some 8) #[true, true, true, true, true, true, true, true, true, true, true, true, true, true, true, true, true, false, false, false] #[true, true, true, true, true, true, true, true, true, true, true, true, true, true, true, true, false, false, true, false] rfl rfl rfl rfl (two_of HT_.out (by kernel_rfl)) (by decide) (by decide) (fun K hK => ?_) (fun K hK => ?_)
             ·skip
              refine Kd.R_append_rows_step k35 (w0 := w) w.heap.size (by rfl) (.tmp 37) (.tmp 39) 29 35 (.agg #[(.int .i64 0), (.int .i64 0), (.string ⟨#[]⟩)]) 32 rfl Try.underlying29 info35 rfl (by decide) (by omega) v160 y159 y162 _ _ _ (fun k_ => some k_ ≠ (.slice Ao37 y162.length co37 : Value).ownBlock ∧ k_ ≠ gb147) (fun _ => False) rfl rfl ?aO ?aR (fun _ _ h => h) (fun _ h => h.elim) ?aF ?aB ?aS ?aL ?_
              (case aR => repeat (first | exact (Kd.R_reads' HO164.out).2.2 | (with_reducible refine Kd.C_alloc ?_ _) | (with_reducible refine Kd.C_drewN ?_ _) | (with_reducible refine Kd.C_drew ?_)))
              (case aB => exact (bw_ HB))
              (case aF => exact (fun k_ hk => ⟨Kd.fresh' (Kd.R_lt (rp_ HO164)) k_ hk, Kd.freshB (g := gb147) (o := .cells #[.int .i64 a2_0, .int .i64 a2_1, .string a2_2] 35 (0, 0)) (bp_ BK147) k_ hk⟩))
              (case aO => exact (rp_ HO161))
              (case aS => exact (below_size (bw_ HB)))
              (case aL => have := LMc25.out; omega)
              intro v166 w36 ho hb hg hat
              rw [← Ny165.out] at ho
              have n0_ := mk_ (blk_grown (g := gb146) (o := .cells #[.int .i64 a0_0, .int .i64 a0_1, .slice A0_2 l0_2.length c0_2] 31 (0, 0)) (bp_ BK146) hg (Kd.R_ne HO161.out BK146.out (by decide)))
              have n1_ := mk_ (blk_grown (g := gb147) (o := .cells #[.int .i64 a2_0, .int .i64 a2_1, .string a2_2] 35 (0, 0)) (bp_ BK147) hg (Kd.R_away HO161.out (fun _ hk => hk.2)))
              have n2_ := mk_ (blk_grown (g := gb148) (o := .cells #[.int .i64 0, .int .i64 0, .slice none 0 0] 31 (0, 0)) (bp_ BK148) hg (Kd.R_ne HO161.out BK148.out (by decide)))
              have n3_ := mk_ (Kd.R_after (ok := (fun k_ => k_ ≠ gb147)) (by (with_reducible repeat (first | apply Kd.R_alloc | apply Kd.R_drewN | apply Kd.R_drew)); exact Kd.R_mono HO164.out (fun _ hk => ⟨hk.2, hk.1⟩)) hg hat)
              have n4_ := mk_ (hb)
              have n5_ := mk_ (ho)
              clear BK146; clear BK147; clear BK148; clear HO164; clear HB; clear HO161; have BK146 := n0_; have BK147 := n1_; have BK148 := n2_; have HO164 := n3_; have HB := n4_; have HO167 := n5_; clear n0_ n1_ n2_ n3_ n4_ n5_; clear ho hb hg hat
              obtain ⟨Ao38, co38, eo38⟩ := Kd.R_slice HO167.out
              (first | subst eo38 | (injection eo38 with f1_ f2_ f3_; have f4_ := f1_.symm; have f5_ := f3_.symm; clear f1_ f2_ f3_; subst f4_; subst f5_))
              refine hK.out _ _ ⟨bc_ BK146 0, bc_ BK146 1, bc_ BK146 2, bc_ BK147 0, bc_ BK147 1, bc_ BK147 2⟩ (fun hHeld => ?_)
              clear hK K
              refine norm_ (a' := ?_) ?_ ?_
              rotate_left
              ·show Act.put _ (some 40) _ = _
               simp only [Act.put, sia_, scz_, scs_, i64_w, i32_w]
               rfl
              refine pure_ (i := 17) (N := some 41) (v := ?_) (a' := ?_) #[true, true, true, true, true, true, true, true, true, true, true, true, true, true, true, true, true, true, false, false] rfl rfl (any_of HT_.out (by kernel_rfl)) (fun _ _ _ h => h) (Or.inl ⟨by rfl, ?_⟩) ?_ ?_
              rotate_left
              ·intro w'
               go_simp
               with_reducible rfl
              rotate_left
              ·simp only [Act.put, sia_, scz_, scs_, i64_w, i32_w]
               rfl
              exact norm_ (by first | (simp only [putAll, Act.put, sia_, scz_, scs_]; done) | (simp only [putAll, Act.put, sia_, scz_, scs_]; rfl)) (hJ4_13_15_16 (v153, v160, .slice Ao37 y162.length co37, .slice Ao38 y165.length co38) _ ⟨hHeld, (by (with_reducible repeat (first | apply Kd.R_alloc | apply Kd.R_drewN | apply Kd.R_drew)); exact Kd.R_mono HO164.out (fun _ hk => ⟨hk.2, hk.1⟩)), (rp_ HO167), (bp_ BK146), (bp_ BK147), (bp_ BK148), (bw_ HB)⟩)
             ·skip
              refine box_step ?hg (N := 8) ?hd (cs := #[.int .i64 0, .int .i64 0, .slice none 0 0]) (t := 31) ?hr ?_; (case hd => rfl); (case hg => rfl); (case hr => first | (go_simp; done) | (go_simp; rfl))
              intro gb168 hg w36 hbox hb
              have n0_ := rb_ HO161 hb
              have n1_ := rb_ HO164 hb
              have n2_ := bb_ BK146 hb; have n3_ := bb_ BK147 hb; have n4_ := bb_ BK148 hb
              have n5_ := bs_ HB hb
              have n6_ := mk_ (hbox)
              have n7_ : Aside0 (w.heap.size ≤ gb168) := bz_ hg
              have n8_ : Aside0 (w.heap.size ≤ gb168) := bz_ hg
              have n9_ : Aside0 (gb146 ≠ gb168) := bl_ BK146 hg
              have n10_ : Aside0 (gb168 ≠ gb146) := bg_ BK146 hg
              have n11_ : Aside0 (gb147 ≠ gb168) := bl_ BK147 hg
              have n12_ : Aside0 (gb168 ≠ gb147) := bg_ BK147 hg
              have n13_ : Aside0 (gb148 ≠ gb168) := bl_ BK148 hg
              have n14_ : Aside0 (gb168 ≠ gb148) := bg_ BK148 hg
              clear HO161; clear HO164; clear BK146; clear BK147; clear BK148; clear HB; have HO161 := n0_; have HO164 := n1_; have BK146 := n2_; have BK147 := n3_; have BK148 := n4_; have HB := n5_; have BK168 := n6_; have GW168 := n7_; have GE168 := n8_; have NB146_168 := n9_; have NB168_146 := n10_; have NB147_168 := n11_; have NB168_147 := n12_; have NB148_168 := n13_; have NB168_148 := n14_; clear n0_ n1_ n2_ n3_ n4_ n5_ n6_ n7_ n8_ n9_ n10_ n11_ n12_ n13_ n14_; clear hb hbox hg
              refine hK.out _ _ ⟨bc_ BK146 0, bc_ BK146 1, bc_ BK146 2, bc_ BK147 0, bc_ BK147 1, bc_ BK147 2⟩ (fun hHeld => ?_)
              clear hK K
              refine norm_ (a' := ?_) ?_ ?_
              rotate_left
              ·show Act.put _ (some 8) _ = _
               simp only [Act.put, sia_, scz_, scs_, i64_w, i32_w]
               rfl
              exact norm_ (by first | (simp only [putAll, Act.put, sia_, scz_, scs_]; done) | (simp only [putAll, Act.put, sia_, scz_, scs_]; rfl)) (hJ4_13_15_18 (v153, v160, .slice Ao37 y162.length co37, gb168) _ ⟨hHeld, (rp_ HO161), (rp_ HO164), (bp_ BK146), (bp_ BK147), (bp_ BK148), (bp_ BK168), GW168.out, GE168.out, NB146_168.out, NB168_146.out, NB147_168.out, NB168_147.out, NB148_168.out, NB168_148.out, (bw_ HB)⟩)
           ·skip
            rintro ⟨v153, v160, v163, gb168⟩ w36 ⟨hS_, h0_, h1_, h2_, h3_, h4_, h5_, h6_, h7_, h8_, h9_, h10_, h11_, h12_, h13_, h14_⟩
            have n0_ : Aside0 (Kd.R k35 35 w36 w.heap.size (fun k_ => some k_ ≠ (v163 : Value).ownBlock ∧ k_ ≠ gb147) v160 y159) := ⟨h0_⟩
            have n1_ : Aside0 (Kd.R k35 35 w36 w.heap.size (fun k_ => some k_ ≠ (v160 : Value).ownBlock ∧ k_ ≠ gb147) v163 y162) := ⟨h1_⟩
            have n2_ : Aside0 (w36.heap[gb146]? = some (.cells #[.int .i64 a0_0, .int .i64 a0_1, .slice A0_2 l0_2.length c0_2] 31 (0, 0))) := ⟨h2_⟩
            have n3_ : Aside0 (w36.heap[gb147]? = some (.cells #[.int .i64 a2_0, .int .i64 a2_1, .string a2_2] 35 (0, 0))) := ⟨h3_⟩
            have n4_ : Aside0 (w36.heap[gb148]? = some (.cells #[.int .i64 0, .int .i64 0, .slice none 0 0] 31 (0, 0))) := ⟨h4_⟩
            have n5_ : Aside0 (w36.heap[gb168]? = some (.cells #[.int .i64 0, .int .i64 0, .slice none 0 0] 31 (0, 0))) := ⟨h5_⟩
            have n6_ : Aside0 (w.heap.size ≤ gb168) := ⟨h6_⟩
            have n7_ : Aside0 (w.heap.size ≤ gb168) := ⟨h7_⟩
            have n8_ : Aside0 (gb146 ≠ gb168) := ⟨h8_⟩
            have n9_ : Aside0 (gb168 ≠ gb146) := ⟨h9_⟩
            have n10_ : Aside0 (gb147 ≠ gb168) := ⟨h10_⟩
            have n11_ : Aside0 (gb168 ≠ gb147) := ⟨h11_⟩
            have n12_ : Aside0 (gb148 ≠ gb168) := ⟨h12_⟩
            have n13_ : Aside0 (gb168 ≠ gb148) := ⟨h13_⟩
            have n14_ : Aside0 (Below w.heap.size w w36) := ⟨h14_⟩
            clear BK146; clear BK147; clear BK148; clear HB; clear h0_ h1_ h2_ h3_ h4_ h5_ h6_ h7_ h8_ h9_ h10_ h11_ h12_ h13_ h14_; have HO161 := n0_; have HO164 := n1_; have BK146 := n2_; have BK147 := n3_; have BK148 := n4_; have BK168 := n5_; have GW168 := n6_; have GE168 := n7_; have NB146_168 := n8_; have NB168_146 := n9_; have NB147_168 := n10_; have NB168_147 := n11_; have NB148_168 := n12_; have NB168_148 := n13_; have HB := n14_; clear n0_ n1_ n2_ n3_ n4_ n5_ n6_ n7_ n8_ n9_ n10_ n11_ n12_ n13_ n14_
            have hHeld : w36.cell? ⟨gb146, 0, none⟩ = some (.int .i64 a0_0) ∧ w36.cell? ⟨gb146, 1, none⟩ = some (.int .i64 a0_1) ∧ w36.cell? ⟨gb146, 2, none⟩ = some (.slice A0_2 l0_2.length c0_2) ∧ w36.cell? ⟨gb147, 0, none⟩ = some (.int .i64 a2_0) ∧ w36.cell? ⟨gb147, 1, none⟩ = some (.int .i64 a2_1) ∧ w36.cell? ⟨gb147, 2, none⟩ = some (.string a2_2) := hS_
            obtain ⟨Ao38, co38, eo38⟩ := Kd.R_slice HO164.out
            (first | subst eo38 | (injection eo38 with f1_ f2_ f3_; have f4_ := f1_.symm; have f5_ := f3_.symm; clear f1_ f2_ f3_; subst f4_; subst f5_))
            refine norm_ (a' := ?_) ?_ ?_
            rotate_left
            ·simp only [putAll, Act.put, sia_, scz_, scs_]
             rfl
            refine one_ (i := 16) (N := some 40) #[true, true, true, true, true, true, true, true, true, true, true, true, true, true, true, true, true, false, true, false] rfl rfl (one_of HT_.out (by kernel_rfl)) (by decide) (fun K hK => ?_)
            refine Kd.R_append_rows_step k35 (w0 := w) w.heap.size (by rfl) (.tmp 37) (.tmp 39) 29 35 (.agg #[(.int .i64 0), (.int .i64 0), (.string ⟨#[]⟩)]) 32 rfl Try.underlying29 info35 rfl (by decide) (by omega) v160 y159 y162 _ _ _ (fun k_ => some k_ ≠ (.slice Ao38 y162.length co38 : Value).ownBlock ∧ k_ ≠ gb147) (fun _ => False) rfl rfl ?aO ?aR (fun _ _ h => h) (fun _ h => h.elim) ?aF ?aB ?aS ?aL ?_
            (case aR => repeat (first | exact (Kd.R_reads' HO164.out).2.2 | (with_reducible refine Kd.C_alloc ?_ _) | (with_reducible refine Kd.C_drewN ?_ _) | (with_reducible refine Kd.C_drew ?_)))
            (case aB => exact (bw_ HB))
            (case aF => exact (fun k_ hk => ⟨Kd.fresh' (Kd.R_lt (rp_ HO164)) k_ hk, Kd.freshB (g := gb147) (o := .cells #[.int .i64 a2_0, .int .i64 a2_1, .string a2_2] 35 (0, 0)) (bp_ BK147) k_ hk⟩))
            (case aO => exact (rp_ HO161))
            (case aS => exact (below_size (bw_ HB)))
            (case aL => have := LMc25.out; omega)
            intro v166 w37 ho hb hg hat
            rw [← Ny165.out] at ho
            have n0_ := mk_ (blk_grown (g := gb146) (o := .cells #[.int .i64 a0_0, .int .i64 a0_1, .slice A0_2 l0_2.length c0_2] 31 (0, 0)) (bp_ BK146) hg (Kd.R_ne HO161.out BK146.out (by decide)))
            have n1_ := mk_ (blk_grown (g := gb147) (o := .cells #[.int .i64 a2_0, .int .i64 a2_1, .string a2_2] 35 (0, 0)) (bp_ BK147) hg (Kd.R_away HO161.out (fun _ hk => hk.2)))
            have n2_ := mk_ (blk_grown (g := gb148) (o := .cells #[.int .i64 0, .int .i64 0, .slice none 0 0] 31 (0, 0)) (bp_ BK148) hg (Kd.R_ne HO161.out BK148.out (by decide)))
            have n3_ := mk_ (Kd.R_after (ok := (fun k_ => k_ ≠ gb147)) (by (with_reducible repeat (first | apply Kd.R_alloc | apply Kd.R_drewN | apply Kd.R_drew)); exact Kd.R_mono HO164.out (fun _ hk => ⟨hk.2, hk.1⟩)) hg hat)
            have n4_ := mk_ (blk_grown (g := gb168) (o := .cells #[.int .i64 0, .int .i64 0, .slice none 0 0] 31 (0, 0)) (bp_ BK168) hg (Kd.R_ne HO161.out BK168.out (by decide)))
            have n5_ := mk_ (hb)
            have n6_ := mk_ (ho)
            clear BK146; clear BK147; clear BK148; clear HO164; clear BK168; clear HB; clear HO161; have BK146 := n0_; have BK147 := n1_; have BK148 := n2_; have HO164 := n3_; have BK168 := n4_; have HB := n5_; have HO167 := n6_; clear n0_ n1_ n2_ n3_ n4_ n5_ n6_; clear ho hb hg hat
            obtain ⟨Ao39, co39, eo39⟩ := Kd.R_slice HO167.out
            (first | subst eo39 | (injection eo39 with f1_ f2_ f3_; have f4_ := f1_.symm; have f5_ := f3_.symm; clear f1_ f2_ f3_; subst f4_; subst f5_))
            refine hK.out _ _ ⟨bc_ BK146 0, bc_ BK146 1, bc_ BK146 2, bc_ BK147 0, bc_ BK147 1, bc_ BK147 2⟩ (fun hHeld => ?_)
            clear hK K
            refine norm_ (a' := ?_) ?_ ?_
            rotate_left
            ·show Act.put _ (some 40) _ = _
             simp only [Act.put, sia_, scz_, scs_, i64_w, i32_w]
             rfl
            refine pure_ (i := 17) (N := some 41) (v := ?_) (a' := ?_) #[true, true, true, true, true, true, true, true, true, true, true, true, true, true, true, true, true, true, true, false] rfl rfl (any_of HT_.out (by kernel_rfl)) (fun _ _ _ h => h) (Or.inl ⟨by rfl, ?_⟩) ?_ ?_
            rotate_left
            ·intro w'
             go_simp
             with_reducible rfl
            rotate_left
            ·simp only [Act.put, sia_, scz_, scs_, i64_w, i32_w]
             rfl
            exact norm_ (by first | (simp only [putAll, Act.put, sia_, scz_, scs_]; done) | (simp only [putAll, Act.put, sia_, scz_, scs_]; rfl)) (hJ4_13_15_16_18 (v153, v160, .slice Ao38 y162.length co38, .slice Ao39 y165.length co39, gb168) _ ⟨hHeld, (by (with_reducible repeat (first | apply Kd.R_alloc | apply Kd.R_drewN | apply Kd.R_drew)); exact Kd.R_mono HO164.out (fun _ hk => ⟨hk.2, hk.1⟩)), (rp_ HO167), (bp_ BK146), (bp_ BK147), (bp_ BK148), (bp_ BK168), GW168.out, GE168.out, NB146_168.out, NB168_146.out, NB147_168.out, NB168_147.out, NB148_168.out, NB168_148.out, (bw_ HB)⟩)
          ·skip
           rintro ⟨v153, v160, v163, v166⟩ w38 ⟨hS_, h0_, h1_, h2_, h3_, h4_, h5_⟩
           have n0_ : Aside0 (Kd.R k35 35 w38 w.heap.size (fun k_ => some k_ ≠ (v166 : Value).ownBlock ∧ k_ ≠ gb147) v163 y162) := ⟨h0_⟩
           have n1_ : Aside0 (Kd.R k35 35 w38 w.heap.size (fun k_ => some k_ ≠ (v163 : Value).ownBlock ∧ k_ ≠ gb147) v166 y165) := ⟨h1_⟩
           have n2_ : Aside0 (w38.heap[gb146]? = some (.cells #[.int .i64 a0_0, .int .i64 a0_1, .slice A0_2 l0_2.length c0_2] 31 (0, 0))) := ⟨h2_⟩
           have n3_ : Aside0 (w38.heap[gb147]? = some (.cells #[.int .i64 a2_0, .int .i64 a2_1, .string a2_2] 35 (0, 0))) := ⟨h3_⟩
           have n4_ : Aside0 (w38.heap[gb148]? = some (.cells #[.int .i64 0, .int .i64 0, .slice none 0 0] 31 (0, 0))) := ⟨h4_⟩
           have n5_ : Aside0 (Below w.heap.size w w38) := ⟨h5_⟩
           clear BK146; clear BK147; clear BK148; clear HB; clear h0_ h1_ h2_ h3_ h4_ h5_; have HO164 := n0_; have HO167 := n1_; have BK146 := n2_; have BK147 := n3_; have BK148 := n4_; have HB := n5_; clear n0_ n1_ n2_ n3_ n4_ n5_
           have hHeld : w38.cell? ⟨gb146, 0, none⟩ = some (.int .i64 a0_0) ∧ w38.cell? ⟨gb146, 1, none⟩ = some (.int .i64 a0_1) ∧ w38.cell? ⟨gb146, 2, none⟩ = some (.slice A0_2 l0_2.length c0_2) ∧ w38.cell? ⟨gb147, 0, none⟩ = some (.int .i64 a2_0) ∧ w38.cell? ⟨gb147, 1, none⟩ = some (.int .i64 a2_1) ∧ w38.cell? ⟨gb147, 2, none⟩ = some (.string a2_2) := hS_
           obtain ⟨Ao39, co39, eo39⟩ := Kd.R_slice HO167.out
           (first | subst eo39 | (injection eo39 with f1_ f2_ f3_; have f4_ := f1_.symm; have f5_ := f3_.symm; clear f1_ f2_ f3_; subst f4_; subst f5_))
           refine norm_ (a' := ?_) ?_ ?_
           rotate_left
           ·simp only [putAll, Act.put, sia_, scz_, scs_]
            rfl
           refine one_ (i := 18) (N := some 8) #[true, true, true, true, true, true, true, true, true, true, true, true, true, true, true, true, true, true, true, false] rfl rfl (one_of HT_.out (by kernel_rfl)) (by decide) (fun K hK => ?_)
           refine box_step ?hg (N := 8) ?hd (cs := #[.int .i64 0, .int .i64 0, .slice none 0 0]) (t := 31) ?hr ?_; (case hd => rfl); (case hg => rfl); (case hr => first | (go_simp; done) | (go_simp; rfl))
           intro gb168 hg w40 hbox hb
           have n0_ := rb_ HO164 hb
           have n1_ := rb_ HO167 hb
           have n2_ := bb_ BK146 hb; have n3_ := bb_ BK147 hb; have n4_ := bb_ BK148 hb
           have n5_ := bs_ HB hb
           have n6_ := mk_ (hbox)
           have n7_ : Aside0 (w.heap.size ≤ gb168) := bz_ hg
           have n8_ : Aside0 (w.heap.size ≤ gb168) := bz_ hg
           have n9_ : Aside0 (gb146 ≠ gb168) := bl_ BK146 hg
           have n10_ : Aside0 (gb168 ≠ gb146) := bg_ BK146 hg
           have n11_ : Aside0 (gb147 ≠ gb168) := bl_ BK147 hg
           have n12_ : Aside0 (gb168 ≠ gb147) := bg_ BK147 hg
           have n13_ : Aside0 (gb148 ≠ gb168) := bl_ BK148 hg
           have n14_ : Aside0 (gb168 ≠ gb148) := bg_ BK148 hg
           clear HO164; clear HO167; clear BK146; clear BK147; clear BK148; clear HB; have HO164 := n0_; have HO167 := n1_; have BK146 := n2_; have BK147 := n3_; have BK148 := n4_; have HB := n5_; have BK168 := n6_; have GW168 := n7_; have GE168 := n8_; have NB146_168 := n9_; have NB168_146 := n10_; have NB147_168 := n11_; have NB168_147 := n12_; have NB148_168 := n13_; have NB168_148 := n14_; clear n0_ n1_ n2_ n3_ n4_ n5_ n6_ n7_ n8_ n9_ n10_ n11_ n12_ n13_ n14_; clear hb hbox hg
           refine hK.out _ _ ⟨bc_ BK146 0, bc_ BK146 1, bc_ BK146 2, bc_ BK147 0, bc_ BK147 1, bc_ BK147 2⟩ (fun hHeld => ?_)
           clear hK K
           refine norm_ (a' := ?_) ?_ ?_
           rotate_left
           ·show Act.put _ (some 8) _ = _
            simp only [Act.put, sia_, scz_, scs_, i64_w, i32_w]
            rfl
           exact norm_ (by first | (simp only [putAll, Act.put, sia_, scz_, scs_]; done) | (simp only [putAll, Act.put, sia_, scz_, scs_]; rfl)) (hJ4_13_15_16_18 (v153, v160, v163, .slice Ao39 y165.length co39, gb168) _ ⟨hHeld, (rp_ HO164), (rp_ HO167), (bp_ BK146), (bp_ BK147), (bp_ BK148), (bp_ BK168), GW168.out, GE168.out, NB146_168.out, NB168_146.out, NB147_168.out, NB168_147.out, NB148_168.out, NB168_148.out, (bw_ HB)⟩)
         rintro ⟨v153, v160, v163, v166, gb168⟩ w39 ⟨hS_, h0_, h1_, h2_, h3_, h4_, h5_, h6_, h7_, h8_, h9_, h10_, h11_, h12_, h13_, h14_⟩
         have n0_ : Aside0 (Kd.R k35 35 w39 w.heap.size (fun k_ => some k_ ≠ (v166 : Value).ownBlock ∧ k_ ≠ gb147) v163 y162) := ⟨h0_⟩
         have n1_ : Aside0 (Kd.R k35 35 w39 w.heap.size (fun k_ => some k_ ≠ (v163 : Value).ownBlock ∧ k_ ≠ gb147) v166 y165) := ⟨h1_⟩
         have n2_ : Aside0 (w39.heap[gb146]? = some (.cells #[.int .i64 a0_0, .int .i64 a0_1, .slice A0_2 l0_2.length c0_2] 31 (0, 0))) := ⟨h2_⟩
         have n3_ : Aside0 (w39.heap[gb147]? = some (.cells #[.int .i64 a2_0, .int .i64 a2_1, .string a2_2] 35 (0, 0))) := ⟨h3_⟩
         have n4_ : Aside0 (w39.heap[gb148]? = some (.cells #[.int .i64 0, .int .i64 0, .slice none 0 0] 31 (0, 0))) := ⟨h4_⟩
         have n5_ : Aside0 (w39.heap[gb168]? = some (.cells #[.int .i64 0, .int .i64 0, .slice none 0 0] 31 (0, 0))) := ⟨h5_⟩
         have n6_ : Aside0 (w.heap.size ≤ gb168) := ⟨h6_⟩
         have n7_ : Aside0 (w.heap.size ≤ gb168) := ⟨h7_⟩
         have n8_ : Aside0 (gb146 ≠ gb168) := ⟨h8_⟩
         have n9_ : Aside0 (gb168 ≠ gb146) := ⟨h9_⟩
         have n10_ : Aside0 (gb147 ≠ gb168) := ⟨h10_⟩
         have n11_ : Aside0 (gb168 ≠ gb147) := ⟨h11_⟩
         have n12_ : Aside0 (gb148 ≠ gb168) := ⟨h12_⟩
         have n13_ : Aside0 (gb168 ≠ gb148) := ⟨h13_⟩
         have n14_ : Aside0 (Below w.heap.size w w39) := ⟨h14_⟩
         clear BK146; clear BK147; clear BK148; clear HB; clear h0_ h1_ h2_ h3_ h4_ h5_ h6_ h7_ h8_ h9_ h10_ h11_ h12_ h13_ h14_; have HO164 := n0_; have HO167 := n1_; have BK146 := n2_; have BK147 := n3_; have BK148 := n4_; have BK168 := n5_; have GW168 := n6_; have GE168 := n7_; have NB146_168 := n8_; have NB168_146 := n9_; have NB147_168 := n10_; have NB168_147 := n11_; have NB148_168 := n12_; have NB168_148 := n13_; have HB := n14_; clear n0_ n1_ n2_ n3_ n4_ n5_ n6_ n7_ n8_ n9_ n10_ n11_ n12_ n13_ n14_
         have hHeld : w39.cell? ⟨gb146, 0, none⟩ = some (.int .i64 a0_0) ∧ w39.cell? ⟨gb146, 1, none⟩ = some (.int .i64 a0_1) ∧ w39.cell? ⟨gb146, 2, none⟩ = some (.slice A0_2 l0_2.length c0_2) ∧ w39.cell? ⟨gb147, 0, none⟩ = some (.int .i64 a2_0) ∧ w39.cell? ⟨gb147, 1, none⟩ = some (.int .i64 a2_1) ∧ w39.cell? ⟨gb147, 2, none⟩ = some (.string a2_2) := hS_
         obtain ⟨Ao40, co40, eo40⟩ := Kd.R_slice HO167.out
         (first | subst eo40 | (injection eo40 with f1_ f2_ f3_; have f4_ := f1_.symm; have f5_ := f3_.symm; clear f1_ f2_ f3_; subst f4_; subst f5_))
         refine norm_ (a' := ?_) ?_ ?_
         rotate_left
         ·simp only [putAll, Act.put, sia_, scz_, scs_]
          rfl
         refine one_ (i := 19) (N := none) #[true, true, true, true, true, true, true, true, true, true, true, true, true, true, true, true, true, true, true, true] rfl rfl (one_of HT_.out (by kernel_rfl)) (by decide) (fun K hK => ?_)
         have hs41 : w39.cell? ⟨gb168, 0, none⟩ = some (.int .i64 0) := bc_ BK168 0
         have hfs41 := blk_frozen BK168.out 0
         have hns41_0 := NB146_168.out
         have hns41_1 := NB147_168.out
         have hns41_2 := NB148_168.out
         have hms41_0 := NB168_146.out
         have hms41_1 := NB168_147.out
         have hms41_2 := NB168_148.out
         have hs42 : w39.cell? ⟨gb168, 1, none⟩ = some (.int .i64 0) := bc_ BK168 1
         have hfs42 := blk_frozen BK168.out 1
         have hns42_0 := NB146_168.out
         have hns42_1 := NB147_168.out
         have hns42_2 := NB148_168.out
         have hms42_0 := NB168_146.out
         have hms42_1 := NB168_147.out
         have hms42_2 := NB168_148.out
         have hs43 : w39.cell? ⟨gb168, 2, none⟩ = some (.slice none 0 0) := bc_ BK168 2
         have hfs43 := blk_frozen BK168.out 2
         have hns43_0 := NB146_168.out
         have hns43_1 := NB147_168.out
         have hns43_2 := NB148_168.out
         have hms43_0 := NB168_146.out
         have hms43_1 := NB168_147.out
         have hms43_2 := NB168_148.out
         refine skip_ (w1 := ?_) (by rfl) rfl ?_ ?_
         rotate_left
         ·go_simp
          rfl
         refine hK.out _ _ ⟨((cell_far (p := ⟨gb168, _, none⟩) NB146_168.out _).trans (((cell_far (p := ⟨gb168, _, none⟩) NB146_168.out _).trans (((cell_far (p := ⟨gb168, _, none⟩) NB146_168.out _).trans (hHeld.1)))))), ((cell_far (p := ⟨gb168, _, none⟩) NB146_168.out _).trans (((cell_far (p := ⟨gb168, _, none⟩) NB146_168.out _).trans (((cell_far (p := ⟨gb168, _, none⟩) NB146_168.out _).trans (hHeld.2.1)))))), ((cell_far (p := ⟨gb168, _, none⟩) NB146_168.out _).trans (((cell_far (p := ⟨gb168, _, none⟩) NB146_168.out _).trans (((cell_far (p := ⟨gb168, _, none⟩) NB146_168.out _).trans (hHeld.2.2.1)))))), ((cell_far (p := ⟨gb168, _, none⟩) NB147_168.out _).trans (((cell_far (p := ⟨gb168, _, none⟩) NB147_168.out _).trans (((cell_far (p := ⟨gb168, _, none⟩) NB147_168.out _).trans (hHeld.2.2.2.1)))))), ((cell_far (p := ⟨gb168, _, none⟩) NB147_168.out _).trans (((cell_far (p := ⟨gb168, _, none⟩) NB147_168.out _).trans (((cell_far (p := ⟨gb168, _, none⟩) NB147_168.out _).trans (hHeld.2.2.2.2.1)))))), ((cell_far (p := ⟨gb168, _, none⟩) NB147_168.out _).trans (((cell_far (p := ⟨gb168, _, none⟩) NB147_168.out _).trans (((cell_far (p := ⟨gb168, _, none⟩) NB147_168.out _).trans (hHeld.2.2.2.2.2))))))⟩ (fun hHeld => ?_)
         clear hK K
         refine done_ (done_of HT_.out (by kernel_rfl)) ?_
         have hnb44 := NB168_146.out
         have hnc44 := NB146_168.out
         have hnb45 := NB168_147.out
         have hnc45 := NB147_168.out
         have hnb46 := NB168_148.out
         have hnc46 := NB148_168.out
         have hcz47_0 : w39.cell? ⟨gb168, 0, none⟩ = some (.int .i64 0) := bc_ BK168 0
         have hcz47_1 : w39.cell? ⟨gb168, 1, none⟩ = some (.int .i64 0) := bc_ BK168 1
         have hcz47_2 : w39.cell? ⟨gb168, 2, none⟩ = some (.slice none 0 0) := bc_ BK168 2
         have hfz47_0 := blk_frozen BK168.out 0
         have hfz47_1 := blk_frozen BK168.out 1
         have hfz47_2 := blk_frozen BK168.out 2
         try go_wp2_with (first | ((with_reducible refine gate_callee (f := 69) rfl ?_); refine goesL_ (some 43) rfl rfl Try.func69 (by kernel_rfl) rfl #[.agg #[.int .i64 a0_0, .int .i64 a0_1, .slice Ao40 y165.length co40]] rfl (by (try simp only [List.map_toArray, List.map_cons, List.map_nil]); first | done | rfl | (simp only [List.length_drop, List.length_take]; rfl)) ?_; (with_reducible refine (spec_LogOk.calls kj3 a0_0 a0_1 _ _ y165 true _ ?side1 ?side2 A26.out).mono ?_); (case side1 => refine (Kd.R_reads' (e := 35) (base := w.heap.size) (ok := fun k_ => (some k_ ≠ (v163 : Value).ownBlock ∧ k_ ≠ gb147)) (n := y165.length) (c := co40) ?_).2.2; exact (by (with_reducible repeat (first | apply Kd.R_alloc | apply Kd.R_drewN | apply Kd.R_drew)); exact (Kd.R_mono (Kd.R_far (p := ⟨gb168, 2, none⟩) (Kd.R_far (p := ⟨gb168, 1, none⟩) (Kd.R_far (p := ⟨gb168, 0, none⟩) (Kd.R_types HO167.out BK168.out (by decide)) (fun _ hk => hk.2) (.int .i64 a0_0)) (fun _ hk => hk.2) (.int .i64 a0_1)) (fun _ hk => hk.2) (.slice Ao40 y165.length co40)) (fun _ h_ => h_.1)))); (case side2 => exact (Kd.R_reads' HO167.out).2.1); rintro e w48 ⟨rfl, hb⟩; refine ⟨_, rfl, ?_⟩; replace HO164 := mk_ (Kd.R_below (by (with_reducible repeat (first | apply Kd.R_alloc | apply Kd.R_drewN | apply Kd.R_drew)); exact (Kd.R_mono (Kd.R_far (p := ⟨gb168, 2, none⟩) (Kd.R_far (p := ⟨gb168, 1, none⟩) (Kd.R_far (p := ⟨gb168, 0, none⟩) (Kd.R_types HO164.out BK168.out (by decide)) (fun _ hk => hk.2) (.int .i64 a0_0)) (fun _ hk => hk.2) (.int .i64 a0_1)) (fun _ hk => hk.2) (.slice Ao40 y165.length co40)) (fun _ h_ => h_.1))) hb); replace HO167 := mk_ (Kd.R_below (by (with_reducible repeat (first | apply Kd.R_alloc | apply Kd.R_drewN | apply Kd.R_drew)); exact (Kd.R_mono (Kd.R_far (p := ⟨gb168, 2, none⟩) (Kd.R_far (p := ⟨gb168, 1, none⟩) (Kd.R_far (p := ⟨gb168, 0, none⟩) (Kd.R_types HO167.out BK168.out (by decide)) (fun _ hk => hk.2) (.int .i64 a0_0)) (fun _ hk => hk.2) (.int .i64 a0_1)) (fun _ hk => hk.2) (.slice Ao40 y165.length co40)) (fun _ h_ => h_.1))) hb); replace BK146 := mk_ (blk_below (g := gb146) (o := .cells #[.int .i64 a0_0, .int .i64 a0_1, .slice A0_2 l0_2.length c0_2] 31 (0, 0)) (by (with_reducible repeat (first | refine blk_drewN ?_ _ | refine blk_drew ?_ | refine blk_alloc ?_ _)); refine blk_far ?_ NB146_168.out _; (with_reducible repeat (first | refine blk_drewN ?_ _ | refine blk_drew ?_ | refine blk_alloc ?_ _)); refine blk_far ?_ NB146_168.out _; (with_reducible repeat (first | refine blk_drewN ?_ _ | refine blk_drew ?_ | refine blk_alloc ?_ _)); refine blk_far ?_ NB146_168.out _; (with_reducible repeat (first | refine blk_drewN ?_ _ | refine blk_drew ?_ | refine blk_alloc ?_ _)); exact BK146.out) hb); replace BK147 := mk_ (blk_below (g := gb147) (o := .cells #[.int .i64 a2_0, .int .i64 a2_1, .string a2_2] 35 (0, 0)) (by (with_reducible repeat (first | refine blk_drewN ?_ _ | refine blk_drew ?_ | refine blk_alloc ?_ _)); refine blk_far ?_ NB147_168.out _; (with_reducible repeat (first | refine blk_drewN ?_ _ | refine blk_drew ?_ | refine blk_alloc ?_ _)); refine blk_far ?_ NB147_168.out _; (with_reducible repeat (first | refine blk_drewN ?_ _ | refine blk_drew ?_ | refine blk_alloc ?_ _)); refine blk_far ?_ NB147_168.out _; (with_reducible repeat (first | refine blk_drewN ?_ _ | refine blk_drew ?_ | refine blk_alloc ?_ _)); exact BK147.out) hb); replace BK148 := mk_ (blk_below (g := gb148) (o := .cells #[.int .i64 0, .int .i64 0, .slice none 0 0] 31 (0, 0)) (by (with_reducible repeat (first | refine blk_drewN ?_ _ | refine blk_drew ?_ | refine blk_alloc ?_ _)); refine blk_far ?_ NB148_168.out _; (with_reducible repeat (first | refine blk_drewN ?_ _ | refine blk_drew ?_ | refine blk_alloc ?_ _)); refine blk_far ?_ NB148_168.out _; (with_reducible repeat (first | refine blk_drewN ?_ _ | refine blk_drew ?_ | refine blk_alloc ?_ _)); refine blk_far ?_ NB148_168.out _; (with_reducible repeat (first | refine blk_drewN ?_ _ | refine blk_drew ?_ | refine blk_alloc ?_ _)); exact BK148.out) hb); replace BK168 := mk_ (blk_below (g := gb168) (o := .cells #[.int .i64 a0_0, .int .i64 a0_1, .slice Ao40 y165.length co40] 31 (0, 0)) (by (with_reducible repeat (first | refine blk_drewN ?_ _ | refine blk_drew ?_ | refine blk_alloc ?_ _)); refine blk_put (cs := #[.int .i64 a0_0, .int .i64 a0_1, .slice none 0 0]) ?_ 2 _ rfl; (with_reducible repeat (first | refine blk_drewN ?_ _ | refine blk_drew ?_ | refine blk_alloc ?_ _)); refine blk_put (cs := #[.int .i64 a0_0, .int .i64 0, .slice none 0 0]) ?_ 1 _ rfl; (with_reducible repeat (first | refine blk_drewN ?_ _ | refine blk_drew ?_ | refine blk_alloc ?_ _)); refine blk_put (cs := #[.int .i64 0, .int .i64 0, .slice none 0 0]) ?_ 0 _ rfl; (with_reducible repeat (first | refine blk_drewN ?_ _ | refine blk_drew ?_ | refine blk_alloc ?_ _)); exact BK168.out) hb); replace HB := bs_ HB hb; (try clear hb); (try clear hk); have hcz49_0 : w48.cell? ⟨gb168, 0, none⟩ = some (.int .i64 a0_0) := bc_ BK168 0; have hcz49_1 : w48.cell? ⟨gb168, 1, none⟩ = some (.int .i64 a0_1) := bc_ BK168 1; have hcz49_2 : w48.cell? ⟨gb168, 2, none⟩ = some (.slice Ao40 y165.length co40) := bc_ BK168 2; have hfz49_0 := blk_frozen BK168.out 0; have hfz49_1 := blk_frozen BK168.out 1; have hfz49_2 := blk_frozen BK168.out 2; have hnb50 := NB148_146.out; have hnc50 := NB146_148.out; have hnb51 := NB148_147.out; have hnc51 := NB147_148.out; have hcz52_0 : w48.cell? ⟨gb148, 0, none⟩ = some (.int .i64 0) := bc_ BK148 0; have hcz52_1 : w48.cell? ⟨gb148, 1, none⟩ = some (.int .i64 0) := bc_ BK148 1; have hcz52_2 : w48.cell? ⟨gb148, 2, none⟩ = some (.slice none 0 0) := bc_ BK148 2; have hfz52_0 := blk_frozen BK148.out 0; have hfz52_1 := blk_frozen BK148.out 1; have hfz52_2 := blk_frozen BK148.out 2))
         refine bodyPost_ret (results_ct rfl _ _ gb148 31 #[.int .i64 a0_0, .int .i64 a0_1, .slice Ao40 y165.length co40] (0, 0) _ rfl (by (with_reducible repeat (first | refine blk_drewN ?_ _ | refine blk_drew ?_ | refine blk_alloc ?_ _)); refine blk_put (cs := #[.int .i64 a0_0, .int .i64 a0_1, .slice none 0 0]) ?_ 2 _ rfl; (with_reducible repeat (first | refine blk_drewN ?_ _ | refine blk_drew ?_ | refine blk_alloc ?_ _)); refine blk_put (cs := #[.int .i64 a0_0, .int .i64 0, .slice none 0 0]) ?_ 1 _ rfl; (with_reducible repeat (first | refine blk_drewN ?_ _ | refine blk_drew ?_ | refine blk_alloc ?_ _)); refine blk_put (cs := #[.int .i64 0, .int .i64 0, .slice none 0 0]) ?_ 0 _ rfl; (with_reducible repeat (first | refine blk_drewN ?_ _ | refine blk_drew ?_ | refine blk_alloc ?_ _)); exact BK148.out) Try.underlying31 rfl (by kernel_rfl)) rfl ?_
         exact ⟨_, by first | rfl | (simp [errW_none, errW_some] <;> rfl) | (simp only [← hji21]; first | rfl | (simp [errW_none, errW_some] <;> rfl)) | (simp [*, errW_none, errW_some] <;> rfl), by (with_reducible repeat (first | apply Kd.R_alloc | apply Kd.R_drewN | apply Kd.R_drew)); exact Kd.R_mono (Kd.R_far (p := ⟨gb148, 2, none⟩) (Kd.R_far (p := ⟨gb148, 1, none⟩) (Kd.R_far (p := ⟨gb148, 0, none⟩) (Kd.R_types HO167.out BK148.out (by decide)) (fun _ hk => hk.2) (.int .i64 a0_0)) (fun _ hk => hk.2) (.int .i64 a0_1)) (fun _ hk => hk.2) (.slice Ao40 y165.length co40)) (fun _ hk => trivial), by repeat (first | (with_reducible first | exact HB.out | apply below_alloc | apply pw_below_drewN | apply below_drew1 | refine below_set ?_ GE146.out | refine below_set ?_ GE147.out | refine below_set ?_ GE148.out | refine below_set ?_ GE168.out) | exact HB.out)⟩
        ·replace c27 := Bool.eq_false_iff.mpr c27
         subst c27
         have H1 : (some (0, 0, ([] : List (S35)), false)) = some (r1, r2, r3, r4) := by rw [if_neg (show ¬ (false = true) by decide)] at H; exact H
         clear H
         have H := H1
         clear H1
         simp only [Option.some.injEq, Prod.mk.injEq] at H
         obtain ⟨rfl, rfl, rfl, rfl⟩ := H
         try go_wp2
         have n0_ := mk_ (blk_drew BK146.out)
         have n1_ := mk_ (blk_drew BK147.out)
         have n2_ := mk_ (blk_drew BK148.out)
         have n3_ := mk_ (below_drew1 HB.out)
         clear BK146; clear BK147; clear BK148; clear HB; have BK146 := n0_; have BK147 := n1_; have BK148 := n2_; have HB := n3_; clear n0_ n1_ n2_ n3_
         have q54 : ((ji21) : Int) ≤ ((l0_2.length : Int) : Int) := of_decide_eq_true (by first | (with_reducible assumption) | assumption)
         obtain ⟨i054, hi054, _, hsz54, _⟩ := info_parts info35
         have hroom54 : l0_2.length ≤ c0_2 := HC0_2.out
         have hC54 : Kd.C k35 _ A0_2 l0_2.length l0_2 := HR0_2.out
         have hcut54 := cut_to (P := Try.prog) 29 35 .i64 Try.underlying29 hi054 A0_2 l0_2.length c0_2 (ji21) (of_decide_eq_true (by first | (with_reducible assumption) | assumption)) q54 hroom54
         have hr54 := Kd.C_take (m := ((ji21) : Int).toNat) hC54 (by omega)
         have hy54 : y155.length = ((ji21) : Int).toNat := (by rw [Ny155.out, List.length_take]; omega)
         rw [← Ny155.out] at hr54
         rw [← hy54] at hcut54
         have HR158 := Aside0.mk hr54
         have HC158 := mk_ (show y155.length ≤ c0_2 from by omega)
         clear hr54 hC54 hroom54 hi054 hsz54
         have KY54 := Aside0.mk hy54
         clear hy54
         replace q54 := eq_true q54
         refine start_ (n := 20) (S := fun w' => w'.cell? ⟨gb146, 0, none⟩ = some (.int .i64 a0_0) ∧ w'.cell? ⟨gb146, 1, none⟩ = some (.int .i64 a0_1) ∧ w'.cell? ⟨gb146, 2, none⟩ = some (.slice A0_2 l0_2.length c0_2) ∧ w'.cell? ⟨gb147, 0, none⟩ = some (.int .i64 a2_0) ∧ w'.cell? ⟨gb147, 1, none⟩ = some (.int .i64 a2_1) ∧ w'.cell? ⟨gb147, 2, none⟩ = some (.string a2_2)) (ds := []) #[false, false, false, false, false, false, false, false, false, false, false, false, false, false, false, false, false, false, false, false] (by kernel_rfl) rfl rfl ⟨bc_ BK146 0, bc_ BK146 1, bc_ BK146 2, bc_ BK147 0, bc_ BK147 1, bc_ BK147 2⟩ (fun hHeld => ?_); refine with_tabW spec_LogPut.tab3 spec_LogPut.bits3 (fun HT_ HW_ => ?_)
         generalize wc.drew = w53 at BK146 BK147 BK148 HB HR158 hHeld ⊢
         refine pure_ (i := 0) (N := some 24) (v := ?_) (a' := ?_) #[true, false, false, false, false, false, false, false, false, false, false, false, false, false, false, false, false, false, false, false] rfl rfl (any_of HT_.out (by kernel_rfl)) (fun _ _ _ h => h) (Or.inl ⟨by rfl, ?_⟩) ?_ ?_
         rotate_left
         ·intro w'
          go_simp
          with_reducible rfl
         rotate_left
         ·simp only [Act.put, sia_, scz_, scs_, i64_w, i32_w]
          rfl
         refine pure_ (i := 2) (N := some 26) (v := ?_) (a' := ?_) #[true, false, true, false, false, false, false, false, false, false, false, false, false, false, false, false, false, false, false, false] rfl rfl (any_of HT_.out (by kernel_rfl)) (fun _ _ _ h => h) (Or.inl ⟨by rfl, ?_⟩) ?_ ?_
         rotate_left
         ·intro w'
          go_simp
          with_reducible rfl
         rotate_left
         ·simp only [Act.put, sia_, scz_, scs_, i64_w, i32_w]
          rfl
         refine pure_ (i := 5) (N := some 29) (v := ?_) (a' := ?_) #[true, false, true, false, false, true, false, false, false, false, false, false, false, false, false, false, false, false, false, false] rfl rfl (any_of HT_.out (by kernel_rfl)) (fun _ _ _ h => h) (Or.inl ⟨by rfl, ?_⟩) ?_ ?_
         rotate_left
         ·intro w'
          go_simp
          with_reducible rfl
         rotate_left
         ·simp only [Act.put, sia_, scz_, scs_, i64_w, i32_w]
          rfl
         refine pure_ (i := 7) (N := some 31) (v := ?_) (a' := ?_) #[true, false, true, false, false, true, false, true, false, false, false, false, false, false, false, false, false, false, false, false] rfl rfl (any_of HT_.out (by kernel_rfl)) (fun _ _ _ h => h) (Or.inl ⟨by rfl, ?_⟩) ?_ ?_
         rotate_left
         ·intro w'
          go_simp
          with_reducible rfl
         rotate_left
         ·simp only [Act.put, sia_, scz_, scs_, i64_w, i32_w]
          rfl
         refine pure_ (i := 8) (N := some 32) (v := ?_) (a' := ?_) #[true, false, true, false, false, true, false, true, true, false, false, false, false, false, false, false, false, false, false, false] rfl rfl (any_of HT_.out (by kernel_rfl)) (fun _ _ _ h => h) (Or.inl ⟨by rfl, ?_⟩) ?_ ?_
         rotate_left
         ·intro w'
          go_simp
          with_reducible rfl
         rotate_left
         ·simp only [Act.put, sia_, scz_, scs_, i64_w, i32_w]
          rfl
         refine take_ (i := 1) (N := some 25) (v := ?_) (a' := ?_) #[true, true, true, false, false, true, false, true, true, false, false, false, false, false, false, false, false, false, false, false] rfl rfl (take_ofW HT_.out HW_.out (by kernel_rfl)) (fun _ _ _ h => h) (Or.inl ⟨by rfl, ?_⟩) hHeld ?_ ?_
         rotate_left
         ·rintro w' ⟨s0, s1, s2, s3, s4, s5⟩
          go_simp
          with_reducible rfl
         rotate_left
         ·simp only [Act.put, sia_, scz_, scs_, i64_w, i32_w]
          rfl
         refine take_ (i := 3) (N := some 27) (v := ?_) (a' := ?_) #[true, true, true, true, false, true, false, true, true, false, false, false, false, false, false, false, false, false, false, false] rfl rfl (take_ofW HT_.out HW_.out (by kernel_rfl)) (fun _ _ _ h => h) (Or.inl ⟨by rfl, ?_⟩) hHeld ?_ ?_
         rotate_left
         ·rintro w' ⟨s0, s1, s2, s3, s4, s5⟩
          go_simp
          with_reducible rfl
         rotate_left
         ·simp only [Act.put, sia_, scz_, scs_, i64_w, i32_w]
          rfl
         refine take_ (i := 6) (N := some 30) (v := ?_) (a' := ?_) #[true, true, true, true, false, true, true, true, true, false, false, false, false, false, false, false, false, false, false, false] rfl rfl (take_ofW HT_.out HW_.out (by kernel_rfl)) (fun _ _ _ h => h) (Or.inl ⟨by rfl, ?_⟩) hHeld ?_ ?_
         rotate_left
         ·rintro w' ⟨s0, s1, s2, s3, s4, s5⟩
          go_simp
          with_reducible rfl
         rotate_left
         ·simp only [Act.put, sia_, scz_, scs_, i64_w, i32_w]
          rfl
         refine take_ (i := 9) (N := some 33) (v := ?_) (a' := ?_) #[true, true, true, true, false, true, true, true, true, true, false, false, false, false, false, false, false, false, false, false] rfl rfl (take_ofW HT_.out HW_.out (by kernel_rfl)) (fun _ _ _ h => h) (Or.inl ⟨by rfl, ?_⟩) hHeld ?_ ?_
         rotate_left
         ·rintro w' ⟨s0, s1, s2, s3, s4, s5⟩
          go_simp
          with_reducible rfl
         rotate_left
         ·simp only [Act.put, sia_, scz_, scs_, i64_w, i32_w]
          rfl
         refine pure_ (i := 10) (N := some 34) (v := ?_) (a' := ?_) #[true, true, true, true, false, true, true, true, true, true, true, false, false, false, false, false, false, false, false, false] rfl rfl (any_of HT_.out (by kernel_rfl)) (fun _ _ _ h => h) (Or.inl ⟨by rfl, ?_⟩) ?_ ?_
         rotate_left
         ·intro w'
          go_simp
          with_reducible rfl
         rotate_left
         ·simp only [Act.put, sia_, scz_, scs_, i64_w, i32_w]
          rfl
         refine pure_ (i := 11) (N := some 35) (v := ?_) (a' := ?_) #[true, true, true, true, false, true, true, true, true, true, true, true, false, false, false, false, false, false, false, false] rfl rfl (any_of HT_.out (by kernel_rfl)) (fun _ _ _ h => h) (Or.inl ⟨by rfl, ?_⟩) ?_ ?_
         rotate_left
         ·intro w'
          go_simp
          with_reducible rfl
         rotate_left
         ·simp only [Act.put, sia_, scz_, scs_, i64_w, i32_w]
          rfl
         refine pure_ (i := 12) (N := some 36) (v := ?_) (a' := ?_) #[true, true, true, true, false, true, true, true, true, true, true, true, true, false, false, false, false, false, false, false] rfl rfl (any_of HT_.out (by kernel_rfl)) (fun _ _ _ h => h) (Or.inl ⟨by rfl, ?_⟩) ?_ ?_
         rotate_left
         ·intro w'
          go_simp
          with_reducible rfl
         rotate_left
         ·simp only [Act.put, sia_, scz_, scs_, i64_w, i32_w]
          rfl
         refine take_ (i := 14) (N := some 38) (v := ?_) (a' := ?_) #[true, true, true, true, false, true, true, true, true, true, true, true, true, false, true, false, false, false, false, false] rfl rfl (take_ofW HT_.out HW_.out (by kernel_rfl)) (fun _ _ _ h => h) (Or.inl ⟨by rfl, ?_⟩) hHeld ?_ ?_
         rotate_left
         ·rintro w' ⟨s0, s1, s2, s3, s4, s5⟩
          go_simp
          with_reducible rfl
         rotate_left
         ·simp only [Act.put, sia_, scz_, scs_, i64_w, i32_w]
          rfl
         refine join_ (σ := Value × Value × Value × Value × Nat) 1 #[true, true, true, true, true, true, true, true, true, true, true, true, true, true, true, true, true, true, true, false] (fun s_ => [(28, s_.1), (37, s_.2.1), (39, s_.2.2.1), (40, s_.2.2.2.1), (8, .pointer (some ⟨s_.2.2.2.2, 0, none⟩)), (41, .agg #[.int .i64 a0_0, .int .i64 a0_1, s_.2.2.2.1])]) (fun s_ w' => (w'.cell? ⟨gb146, 0, none⟩ = some (.int .i64 a0_0) ∧ w'.cell? ⟨gb146, 1, none⟩ = some (.int .i64 a0_1) ∧ w'.cell? ⟨gb146, 2, none⟩ = some (.slice A0_2 l0_2.length c0_2) ∧ w'.cell? ⟨gb147, 0, none⟩ = some (.int .i64 a2_0) ∧ w'.cell? ⟨gb147, 1, none⟩ = some (.int .i64 a2_1) ∧ w'.cell? ⟨gb147, 2, none⟩ = some (.string a2_2)) ∧ (Kd.R k35 35 w' w.heap.size (fun k_ => some k_ ≠ (s_.2.2.2.1 : Value).ownBlock ∧ k_ ≠ gb147) s_.2.2.1 y162) ∧ (Kd.R k35 35 w' w.heap.size (fun k_ => some k_ ≠ (s_.2.2.1 : Value).ownBlock ∧ k_ ≠ gb147) s_.2.2.2.1 y165) ∧ (w'.heap[gb146]? = some (.cells #[.int .i64 a0_0, .int .i64 a0_1, .slice A0_2 l0_2.length c0_2] 31 (0, 0))) ∧ (w'.heap[gb147]? = some (.cells #[.int .i64 a2_0, .int .i64 a2_1, .string a2_2] 35 (0, 0))) ∧ (w'.heap[gb148]? = some (.cells #[.int .i64 0, .int .i64 0, .slice none 0 0] 31 (0, 0))) ∧ (w'.heap[s_.2.2.2.2]? = some (.cells #[.int .i64 0, .int .i64 0, .slice none 0 0] 31 (0, 0))) ∧ (w.heap.size ≤ s_.2.2.2.2) ∧ (w.heap.size ≤ s_.2.2.2.2) ∧ (gb146 ≠ s_.2.2.2.2) ∧ (s_.2.2.2.2 ≠ gb146) ∧ (gb147 ≠ s_.2.2.2.2) ∧ (s_.2.2.2.2 ≠ gb147) ∧ (gb148 ≠ s_.2.2.2.2) ∧ (s_.2.2.2.2 ≠ gb148) ∧ (Below w.heap.size w w')) ?_ ?_
         rotate_left
         ·intro hJ4_13_15_16_18
          refine join_ (σ := Value × Value × Value × Value) 2 #[true, true, true, true, true, true, true, true, true, true, true, true, true, true, true, true, true, true, false, false] (fun s_ => [(28, s_.1), (37, s_.2.1), (39, s_.2.2.1), (40, s_.2.2.2), (41, .agg #[.int .i64 a0_0, .int .i64 a0_1, s_.2.2.2])]) (fun s_ w' => (w'.cell? ⟨gb146, 0, none⟩ = some (.int .i64 a0_0) ∧ w'.cell? ⟨gb146, 1, none⟩ = some (.int .i64 a0_1) ∧ w'.cell? ⟨gb146, 2, none⟩ = some (.slice A0_2 l0_2.length c0_2) ∧ w'.cell? ⟨gb147, 0, none⟩ = some (.int .i64 a2_0) ∧ w'.cell? ⟨gb147, 1, none⟩ = some (.int .i64 a2_1) ∧ w'.cell? ⟨gb147, 2, none⟩ = some (.string a2_2)) ∧ (Kd.R k35 35 w' w.heap.size (fun k_ => some k_ ≠ (s_.2.2.2 : Value).ownBlock ∧ k_ ≠ gb147) s_.2.2.1 y162) ∧ (Kd.R k35 35 w' w.heap.size (fun k_ => some k_ ≠ (s_.2.2.1 : Value).ownBlock ∧ k_ ≠ gb147) s_.2.2.2 y165) ∧ (w'.heap[gb146]? = some (.cells #[.int .i64 a0_0, .int .i64 a0_1, .slice A0_2 l0_2.length c0_2] 31 (0, 0))) ∧ (w'.heap[gb147]? = some (.cells #[.int .i64 a2_0, .int .i64 a2_1, .string a2_2] 35 (0, 0))) ∧ (w'.heap[gb148]? = some (.cells #[.int .i64 0, .int .i64 0, .slice none 0 0] 31 (0, 0))) ∧ (Below w.heap.size w w')) ?_ ?_
          rotate_left
          ·intro hJ4_13_15_16
           refine join_ (σ := Value × Value × Value × Nat) 3 #[true, true, true, true, true, true, true, true, true, true, true, true, true, true, true, true, false, false, true, false] (fun s_ => [(28, s_.1), (37, s_.2.1), (39, s_.2.2.1), (8, .pointer (some ⟨s_.2.2.2, 0, none⟩))]) (fun s_ w' => (w'.cell? ⟨gb146, 0, none⟩ = some (.int .i64 a0_0) ∧ w'.cell? ⟨gb146, 1, none⟩ = some (.int .i64 a0_1) ∧ w'.cell? ⟨gb146, 2, none⟩ = some (.slice A0_2 l0_2.length c0_2) ∧ w'.cell? ⟨gb147, 0, none⟩ = some (.int .i64 a2_0) ∧ w'.cell? ⟨gb147, 1, none⟩ = some (.int .i64 a2_1) ∧ w'.cell? ⟨gb147, 2, none⟩ = some (.string a2_2)) ∧ (Kd.R k35 35 w' w.heap.size (fun k_ => some k_ ≠ (s_.2.2.1 : Value).ownBlock ∧ k_ ≠ gb147) s_.2.1 y159) ∧ (Kd.R k35 35 w' w.heap.size (fun k_ => some k_ ≠ (s_.2.1 : Value).ownBlock ∧ k_ ≠ gb147) s_.2.2.1 y162) ∧ (w'.heap[gb146]? = some (.cells #[.int .i64 a0_0, .int .i64 a0_1, .slice A0_2 l0_2.length c0_2] 31 (0, 0))) ∧ (w'.heap[gb147]? = some (.cells #[.int .i64 a2_0, .int .i64 a2_1, .string a2_2] 35 (0, 0))) ∧ (w'.heap[gb148]? = some (.cells #[.int .i64 0, .int .i64 0, .slice none 0 0] 31 (0, 0))) ∧ (w'.heap[s_.2.2.2]? = some (.cells #[.int .i64 0, .int .i64 0, .slice none 0 0] 31 (0, 0))) ∧ (w.heap.size ≤ s_.2.2.2) ∧ (w.heap.size ≤ s_.2.2.2) ∧ (gb146 ≠ s_.2.2.2) ∧ (s_.2.2.2 ≠ gb146) ∧ (gb147 ≠ s_.2.2.2) ∧ (s_.2.2.2 ≠ gb147) ∧ (gb148 ≠ s_.2.2.2) ∧ (s_.2.2.2 ≠ gb148) ∧ (Below w.heap.size w w')) ?_ ?_
           rotate_left
           ·intro hJ4_13_15_18
            refine join_ (σ := Value × Value × Value) 4 #[true, true, true, true, true, true, true, true, true, true, true, true, true, true, true, true, false, false, false, false] (fun s_ => [(28, s_.1), (37, s_.2.1), (39, s_.2.2)]) (fun s_ w' => (w'.cell? ⟨gb146, 0, none⟩ = some (.int .i64 a0_0) ∧ w'.cell? ⟨gb146, 1, none⟩ = some (.int .i64 a0_1) ∧ w'.cell? ⟨gb146, 2, none⟩ = some (.slice A0_2 l0_2.length c0_2) ∧ w'.cell? ⟨gb147, 0, none⟩ = some (.int .i64 a2_0) ∧ w'.cell? ⟨gb147, 1, none⟩ = some (.int .i64 a2_1) ∧ w'.cell? ⟨gb147, 2, none⟩ = some (.string a2_2)) ∧ (Kd.R k35 35 w' w.heap.size (fun k_ => some k_ ≠ (s_.2.2 : Value).ownBlock ∧ k_ ≠ gb147) s_.2.1 y159) ∧ (Kd.R k35 35 w' w.heap.size (fun k_ => some k_ ≠ (s_.2.1 : Value).ownBlock ∧ k_ ≠ gb147) s_.2.2 y162) ∧ (w'.heap[gb146]? = some (.cells #[.int .i64 a0_0, .int .i64 a0_1, .slice A0_2 l0_2.length c0_2] 31 (0, 0))) ∧ (w'.heap[gb147]? = some (.cells #[.int .i64 a2_0, .int .i64 a2_1, .string a2_2] 35 (0, 0))) ∧ (w'.heap[gb148]? = some (.cells #[.int .i64 0, .int .i64 0, .slice none 0 0] 31 (0, 0))) ∧ (Below w.heap.size w w')) ?_ ?_
            rotate_left
            ·intro hJ4_13_15
             refine join_ (σ := Value × Value × Nat) 4 #[true, true, true, true, true, true, true, true, true, true, true, true, true, true, true, false, false, false, true, false] (fun s_ => [(28, s_.1), (37, s_.2.1), (8, .pointer (some ⟨s_.2.2, 0, none⟩))]) (fun s_ w' => (w'.cell? ⟨gb146, 0, none⟩ = some (.int .i64 a0_0) ∧ w'.cell? ⟨gb146, 1, none⟩ = some (.int .i64 a0_1) ∧ w'.cell? ⟨gb146, 2, none⟩ = some (.slice A0_2 l0_2.length c0_2) ∧ w'.cell? ⟨gb147, 0, none⟩ = some (.int .i64 a2_0) ∧ w'.cell? ⟨gb147, 1, none⟩ = some (.int .i64 a2_1) ∧ w'.cell? ⟨gb147, 2, none⟩ = some (.string a2_2)) ∧ (Kd.R k35 35 w' w.heap.size (fun k_ => k_ ≠ gb147) s_.2.1 y159) ∧ (w'.heap[gb146]? = some (.cells #[.int .i64 a0_0, .int .i64 a0_1, .slice A0_2 l0_2.length c0_2] 31 (0, 0))) ∧ (w'.heap[gb147]? = some (.cells #[.int .i64 a2_0, .int .i64 a2_1, .string a2_2] 35 (0, 0))) ∧ (w'.heap[gb148]? = some (.cells #[.int .i64 0, .int .i64 0, .slice none 0 0] 31 (0, 0))) ∧ (w'.heap[s_.2.2]? = some (.cells #[.int .i64 0, .int .i64 0, .slice none 0 0] 31 (0, 0))) ∧ (w.heap.size ≤ s_.2.2) ∧ (w.heap.size ≤ s_.2.2) ∧ (gb146 ≠ s_.2.2) ∧ (s_.2.2 ≠ gb146) ∧ (gb147 ≠ s_.2.2) ∧ (s_.2.2 ≠ gb147) ∧ (gb148 ≠ s_.2.2) ∧ (s_.2.2 ≠ gb148) ∧ (Below w.heap.size w w')) ?_ ?_
             rotate_left
             ·intro hJ4_13_18
              refine join_ (σ := Value × Value × Nat) 4 #[true, true, true, true, true, true, true, true, true, true, true, true, true, false, true, true, false, false, true, false] (fun s_ => [(28, s_.1), (39, s_.2.1), (8, .pointer (some ⟨s_.2.2, 0, none⟩))]) (fun s_ w' => (w'.cell? ⟨gb146, 0, none⟩ = some (.int .i64 a0_0) ∧ w'.cell? ⟨gb146, 1, none⟩ = some (.int .i64 a0_1) ∧ w'.cell? ⟨gb146, 2, none⟩ = some (.slice A0_2 l0_2.length c0_2) ∧ w'.cell? ⟨gb147, 0, none⟩ = some (.int .i64 a2_0) ∧ w'.cell? ⟨gb147, 1, none⟩ = some (.int .i64 a2_1) ∧ w'.cell? ⟨gb147, 2, none⟩ = some (.string a2_2)) ∧ (Kd.R k35 35 w' w.heap.size (fun k_ => some k_ ≠ (s_.2.1 : Value).ownBlock ∧ k_ ≠ gb147) s_.1 y152) ∧ (Kd.R k35 35 w' w.heap.size (fun k_ => some k_ ≠ (s_.1 : Value).ownBlock ∧ k_ ≠ gb147) s_.2.1 y162) ∧ (w'.heap[gb146]? = some (.cells #[.int .i64 a0_0, .int .i64 a0_1, .slice A0_2 l0_2.length c0_2] 31 (0, 0))) ∧ (w'.heap[gb147]? = some (.cells #[.int .i64 a2_0, .int .i64 a2_1, .string a2_2] 35 (0, 0))) ∧ (w'.heap[gb148]? = some (.cells #[.int .i64 0, .int .i64 0, .slice none 0 0] 31 (0, 0))) ∧ (w'.heap[s_.2.2]? = some (.cells #[.int .i64 0, .int .i64 0, .slice none 0 0] 31 (0, 0))) ∧ (w.heap.size ≤ s_.2.2) ∧ (w.heap.size ≤ s_.2.2) ∧ (gb146 ≠ s_.2.2) ∧ (s_.2.2 ≠ gb146) ∧ (gb147 ≠ s_.2.2) ∧ (s_.2.2 ≠ gb147) ∧ (gb148 ≠ s_.2.2) ∧ (s_.2.2 ≠ gb148) ∧ (Below w.heap.size w w')) ?_ ?_
              rotate_left
              ·intro hJ4_15_18
               refine join_ (σ := Value × Value) 5 #[true, true, true, true, true, true, true, true, true, true, true, true, true, true, true, false, false, false, false, false] (fun s_ => [(28, s_.1), (37, s_.2)]) (fun s_ w' => (w'.cell? ⟨gb146, 0, none⟩ = some (.int .i64 a0_0) ∧ w'.cell? ⟨gb146, 1, none⟩ = some (.int .i64 a0_1) ∧ w'.cell? ⟨gb146, 2, none⟩ = some (.slice A0_2 l0_2.length c0_2) ∧ w'.cell? ⟨gb147, 0, none⟩ = some (.int .i64 a2_0) ∧ w'.cell? ⟨gb147, 1, none⟩ = some (.int .i64 a2_1) ∧ w'.cell? ⟨gb147, 2, none⟩ = some (.string a2_2)) ∧ (Kd.R k35 35 w' w.heap.size (fun k_ => k_ ≠ gb147) s_.2 y159) ∧ (w'.heap[gb146]? = some (.cells #[.int .i64 a0_0, .int .i64 a0_1, .slice A0_2 l0_2.length c0_2] 31 (0, 0))) ∧ (w'.heap[gb147]? = some (.cells #[.int .i64 a2_0, .int .i64 a2_1, .string a2_2] 35 (0, 0))) ∧ (w'.heap[gb148]? = some (.cells #[.int .i64 0, .int .i64 0, .slice none 0 0] 31 (0, 0))) ∧ (Below w.heap.size w w')) ?_ ?_
               rotate_left
               ·intro hJ4_13
                refine join_ (σ := Value × Value) 5 #[true, true, true, true, true, true, true, true, true, true, true, true, true, false, true, true, false, false, false, false] (fun s_ => [(28, s_.1), (39, s_.2)]) (fun s_ w' => (w'.cell? ⟨gb146, 0, none⟩ = some (.int .i64 a0_0) ∧ w'.cell? ⟨gb146, 1, none⟩ = some (.int .i64 a0_1) ∧ w'.cell? ⟨gb146, 2, none⟩ = some (.slice A0_2 l0_2.length c0_2) ∧ w'.cell? ⟨gb147, 0, none⟩ = some (.int .i64 a2_0) ∧ w'.cell? ⟨gb147, 1, none⟩ = some (.int .i64 a2_1) ∧ w'.cell? ⟨gb147, 2, none⟩ = some (.string a2_2)) ∧ (Kd.R k35 35 w' w.heap.size (fun k_ => some k_ ≠ (s_.2 : Value).ownBlock ∧ k_ ≠ gb147) s_.1 y152) ∧ (Kd.R k35 35 w' w.heap.size (fun k_ => some k_ ≠ (s_.1 : Value).ownBlock ∧ k_ ≠ gb147) s_.2 y162) ∧ (w'.heap[gb146]? = some (.cells #[.int .i64 a0_0, .int .i64 a0_1, .slice A0_2 l0_2.length c0_2] 31 (0, 0))) ∧ (w'.heap[gb147]? = some (.cells #[.int .i64 a2_0, .int .i64 a2_1, .string a2_2] 35 (0, 0))) ∧ (w'.heap[gb148]? = some (.cells #[.int .i64 0, .int .i64 0, .slice none 0 0] 31 (0, 0))) ∧ (Below w.heap.size w w')) ?_ ?_
                rotate_left
                ·intro hJ4_15
                 refine join_ (σ := Value × Nat) 5 #[true, true, true, true, true, true, true, true, true, true, true, true, true, false, true, false, false, false, true, false] (fun s_ => [(28, s_.1), (8, .pointer (some ⟨s_.2, 0, none⟩))]) (fun s_ w' => (w'.cell? ⟨gb146, 0, none⟩ = some (.int .i64 a0_0) ∧ w'.cell? ⟨gb146, 1, none⟩ = some (.int .i64 a0_1) ∧ w'.cell? ⟨gb146, 2, none⟩ = some (.slice A0_2 l0_2.length c0_2) ∧ w'.cell? ⟨gb147, 0, none⟩ = some (.int .i64 a2_0) ∧ w'.cell? ⟨gb147, 1, none⟩ = some (.int .i64 a2_1) ∧ w'.cell? ⟨gb147, 2, none⟩ = some (.string a2_2)) ∧ (Kd.R k35 35 w' w.heap.size (fun k_ => k_ ≠ gb147) s_.1 y152) ∧ (w'.heap[gb146]? = some (.cells #[.int .i64 a0_0, .int .i64 a0_1, .slice A0_2 l0_2.length c0_2] 31 (0, 0))) ∧ (w'.heap[gb147]? = some (.cells #[.int .i64 a2_0, .int .i64 a2_1, .string a2_2] 35 (0, 0))) ∧ (w'.heap[gb148]? = some (.cells #[.int .i64 0, .int .i64 0, .slice none 0 0] 31 (0, 0))) ∧ (w'.heap[s_.2]? = some (.cells #[.int .i64 0, .int .i64 0, .slice none 0 0] 31 (0, 0))) ∧ (w.heap.size ≤ s_.2) ∧ (w.heap.size ≤ s_.2) ∧ (gb146 ≠ s_.2) ∧ (s_.2 ≠ gb146) ∧ (gb147 ≠ s_.2) ∧ (s_.2 ≠ gb147) ∧ (gb148 ≠ s_.2) ∧ (s_.2 ≠ gb148) ∧ (Below w.heap.size w w')) ?_ ?_
                 rotate_left
                 ·intro hJ4_18
                  refine join_ (σ := Value × Nat) 5 #[true, true, true, true, false, true, true, true, true, true, true, true, true, false, true, true, false, false, true, false] (fun s_ => [(39, s_.1), (8, .pointer (some ⟨s_.2, 0, none⟩))]) (fun s_ w' => (w'.cell? ⟨gb146, 0, none⟩ = some (.int .i64 a0_0) ∧ w'.cell? ⟨gb146, 1, none⟩ = some (.int .i64 a0_1) ∧ w'.cell? ⟨gb146, 2, none⟩ = some (.slice A0_2 l0_2.length c0_2) ∧ w'.cell? ⟨gb147, 0, none⟩ = some (.int .i64 a2_0) ∧ w'.cell? ⟨gb147, 1, none⟩ = some (.int .i64 a2_1) ∧ w'.cell? ⟨gb147, 2, none⟩ = some (.string a2_2)) ∧ (Kd.R k35 35 w' w.heap.size (fun k_ => k_ ≠ gb147) s_.1 y162) ∧ (w'.heap[gb146]? = some (.cells #[.int .i64 a0_0, .int .i64 a0_1, .slice A0_2 l0_2.length c0_2] 31 (0, 0))) ∧ (w'.heap[gb147]? = some (.cells #[.int .i64 a2_0, .int .i64 a2_1, .string a2_2] 35 (0, 0))) ∧ (w'.heap[gb148]? = some (.cells #[.int .i64 0, .int .i64 0, .slice none 0 0] 31 (0, 0))) ∧ (w'.heap[s_.2]? = some (.cells #[.int .i64 0, .int .i64 0, .slice none 0 0] 31 (0, 0))) ∧ (w.heap.size ≤ s_.2) ∧ (w.heap.size ≤ s_.2) ∧ (gb146 ≠ s_.2) ∧ (s_.2 ≠ gb146) ∧ (gb147 ≠ s_.2) ∧ (s_.2 ≠ gb147) ∧ (gb148 ≠ s_.2) ∧ (s_.2 ≠ gb148) ∧ (Below w.heap.size w w')) ?_ ?_
                  rotate_left
                  ·intro hJ15_18
                   refine join_ (σ := Value) 6 #[true, true, true, true, true, true, true, true, true, true, true, true, true, false, true, false, false, false, false, false] (fun s_ => [(28, s_)]) (fun s_ w' => (w'.cell? ⟨gb146, 0, none⟩ = some (.int .i64 a0_0) ∧ w'.cell? ⟨gb146, 1, none⟩ = some (.int .i64 a0_1) ∧ w'.cell? ⟨gb146, 2, none⟩ = some (.slice A0_2 l0_2.length c0_2) ∧ w'.cell? ⟨gb147, 0, none⟩ = some (.int .i64 a2_0) ∧ w'.cell? ⟨gb147, 1, none⟩ = some (.int .i64 a2_1) ∧ w'.cell? ⟨gb147, 2, none⟩ = some (.string a2_2)) ∧ (Kd.R k35 35 w' w.heap.size (fun k_ => k_ ≠ gb147) s_ y152) ∧ (w'.heap[gb146]? = some (.cells #[.int .i64 a0_0, .int .i64 a0_1, .slice A0_2 l0_2.length c0_2] 31 (0, 0))) ∧ (w'.heap[gb147]? = some (.cells #[.int .i64 a2_0, .int .i64 a2_1, .string a2_2] 35 (0, 0))) ∧ (w'.heap[gb148]? = some (.cells #[.int .i64 0, .int .i64 0, .slice none 0 0] 31 (0, 0))) ∧ (Below w.heap.size w w')) ?_ ?_
                   rotate_left
                   ·intro hJ4
                    refine join_ (σ := Value) 6 #[true, true, true, true, false, true, true, true, true, true, true, true, true, false, true, true, false, false, false, false] (fun s_ => [(39, s_)]) (fun s_ w' => (w'.cell? ⟨gb146, 0, none⟩ = some (.int .i64 a0_0) ∧ w'.cell? ⟨gb146, 1, none⟩ = some (.int .i64 a0_1) ∧ w'.cell? ⟨gb146, 2, none⟩ = some (.slice A0_2 l0_2.length c0_2) ∧ w'.cell? ⟨gb147, 0, none⟩ = some (.int .i64 a2_0) ∧ w'.cell? ⟨gb147, 1, none⟩ = some (.int .i64 a2_1) ∧ w'.cell? ⟨gb147, 2, none⟩ = some (.string a2_2)) ∧ (Kd.R k35 35 w' w.heap.size (fun k_ => k_ ≠ gb147) s_ y162) ∧ (w'.heap[gb146]? = some (.cells #[.int .i64 a0_0, .int .i64 a0_1, .slice A0_2 l0_2.length c0_2] 31 (0, 0))) ∧ (w'.heap[gb147]? = some (.cells #[.int .i64 a2_0, .int .i64 a2_1, .string a2_2] 35 (0, 0))) ∧ (w'.heap[gb148]? = some (.cells #[.int .i64 0, .int .i64 0, .slice none 0 0] 31 (0, 0))) ∧ (Below w.heap.size w w')) ?_ ?_
                    rotate_left
                    ·intro hJ15
                     refine join_ (σ := Nat) 6 #[true, true, true, true, false, true, true, true, true, true, true, true, true, false, true, false, false, false, true, false] (fun s_ => [(8, .pointer (some ⟨s_, 0, none⟩))]) (fun s_ w' => (w'.cell? ⟨gb146, 0, none⟩ = some (.int .i64 a0_0) ∧ w'.cell? ⟨gb146, 1, none⟩ = some (.int .i64 a0_1) ∧ w'.cell? ⟨gb146, 2, none⟩ = some (.slice A0_2 l0_2.length c0_2) ∧ w'.cell? ⟨gb147, 0, none⟩ = some (.int .i64 a2_0) ∧ w'.cell? ⟨gb147, 1, none⟩ = some (.int .i64 a2_1) ∧ w'.cell? ⟨gb147, 2, none⟩ = some (.string a2_2)) ∧ (w'.heap[gb146]? = some (.cells #[.int .i64 a0_0, .int .i64 a0_1, .slice A0_2 l0_2.length c0_2] 31 (0, 0))) ∧ (w'.heap[gb147]? = some (.cells #[.int .i64 a2_0, .int .i64 a2_1, .string a2_2] 35 (0, 0))) ∧ (w'.heap[gb148]? = some (.cells #[.int .i64 0, .int .i64 0, .slice none 0 0] 31 (0, 0))) ∧ (w'.heap[s_]? = some (.cells #[.int .i64 0, .int .i64 0, .slice none 0 0] 31 (0, 0))) ∧ (w.heap.size ≤ s_) ∧ (w.heap.size ≤ s_) ∧ (gb146 ≠ s_) ∧ (s_ ≠ gb146) ∧ (gb147 ≠ s_) ∧ (s_ ≠ gb147) ∧ (gb148 ≠ s_) ∧ (s_ ≠ gb148) ∧ (Below w.heap.size w w')) ?_ ?_
                     rotate_left
                     ·intro hJ18
                      refine three_ (i := 4) (j := 15) (k := 18) (Ni := some 28) (Nj := some 39) (Nk := some 8) #[true, true, true, true, true, true, true, true, true, true, true, true, true, false, true, false, false, false, false, false] #[true, true, true, true, false, true, true, true, true, true, true, true, true, false, true, true, false, false, false, false] #[true, true, true, true, false, true, true, true, true, true, true, true, true, false, true, false, false, false, true, false] rfl rfl rfl rfl rfl rfl (three_of HT_.out (by kernel_rfl)) (by decide) (by decide) (by decide) (fun K hK => ?_) (fun K hK => ?_) (fun K hK => ?_)
                      ·skip
                       refine Kd.R_lit_step k35 _ 35 ?hg (N := 28) ?hd (xs := ([] : List (S35))) (inner := []) (ok := fun _ => True) (okp := fun _ => True) ?hr ?hp (fun _ hk => hk) trivial (Below.refl _ _) (Nat.le_refl _) (by simp) ?_; (case hd => rfl); (case hg => rfl); (case hr => first | (go_simp; done) | (go_simp; rfl)); (case hp => exact (Reps.none _ _))
                       intro v153 w55 ho56 hb hg_ hnew_
                       clear hg_ hnew_
                       (first | rw [← Ny152.out] at ho56 | (simp only [Int.reduceToNat] at ho56; rw [← Ny152.out] at ho56))
                       have n0_ := mk_ (Kd.R_lower (Kd.R_newB ho56 (g := gb147) (o := .cells #[.int .i64 a2_0, .int .i64 a2_1, .string a2_2] 35 (0, 0)) (bp_ BK147)) (below_size (bw_ HB)))
                       have n1_ := bb_ BK146 hb; have n2_ := bb_ BK147 hb; have n3_ := bb_ BK148 hb
                       have n4_ := bs_ HB hb
                       clear BK146; clear BK147; clear BK148; clear HB; have HO154 := n0_; have BK146 := n1_; have BK147 := n2_; have BK148 := n3_; have HB := n4_; clear n0_ n1_ n2_ n3_ n4_; clear hb ho56
                       refine hK.out _ _ ⟨bc_ BK146 0, bc_ BK146 1, bc_ BK146 2, bc_ BK147 0, bc_ BK147 1, bc_ BK147 2⟩ (fun hHeld => ?_)
                       clear hK K
                       refine norm_ (a' := ?_) ?_ ?_
                       rotate_left
                       ·show Act.put _ (some 28) _ = _
                        simp only [Act.put, sia_, scz_, scs_, i64_w, i32_w]
                        rfl
                       exact norm_ (by first | (simp only [putAll, Act.put, sia_, scz_, scs_]; done) | (simp only [putAll, Act.put, sia_, scz_, scs_]; rfl)) (hJ4 (v153) _ ⟨hHeld, (by (with_reducible repeat (first | apply Kd.R_alloc | apply Kd.R_drewN | apply Kd.R_drew)); exact Kd.R_mono HO154.out (fun _ hk => hk.2)), (bp_ BK146), (bp_ BK147), (bp_ BK148), (bw_ HB)⟩)
                      ·skip
                       refine Kd.R_lit_step k35 _ 35 ?hg (N := 39) ?hd (xs := ([(⟨a2_0, a2_1, a2_2⟩ : S35)] : List (S35))) (inner := [.int .i64 a2_0, .int .i64 a2_1, .string a2_2]) (ok := fun _ => True) (okp := fun _ => True) ?hr ?hp (fun _ hk => hk) trivial (Below.refl _ _) (Nat.le_refl _) (by simp) ?_; (case hd => rfl); (case hg => rfl); (case hr => first | (go_simp; done) | (go_simp; rfl)); (case hp => exact (Reps.c3 (show Kd.M k35 _ _ _ (⟨a2_0, a2_1, a2_2⟩ : S35) [.int .i64 a2_0, .int .i64 a2_1, .string a2_2] from (k35_mkM _ _ _ (⟨a2_0, a2_1, a2_2⟩ : S35) )) (Reps.none _ _)))
                       intro v163 w55 ho56 hb hg_ hnew_
                       clear hg_ hnew_
                       (first | rw [← Ny162.out] at ho56 | (simp only [Int.reduceToNat] at ho56; rw [← Ny162.out] at ho56))
                       have n0_ := mk_ (Kd.R_lower (Kd.R_newB ho56 (g := gb147) (o := .cells #[.int .i64 a2_0, .int .i64 a2_1, .string a2_2] 35 (0, 0)) (bp_ BK147)) (below_size (bw_ HB)))
                       have n1_ := bb_ BK146 hb; have n2_ := bb_ BK147 hb; have n3_ := bb_ BK148 hb
                       have n4_ := bs_ HB hb
                       clear BK146; clear BK147; clear BK148; clear HB; have HO164 := n0_; have BK146 := n1_; have BK147 := n2_; have BK148 := n3_; have HB := n4_; clear n0_ n1_ n2_ n3_ n4_; clear hb ho56
                       refine hK.out _ _ ⟨bc_ BK146 0, bc_ BK146 1, bc_ BK146 2, bc_ BK147 0, bc_ BK147 1, bc_ BK147 2⟩ (fun hHeld => ?_)
                       clear hK K
                       refine norm_ (a' := ?_) ?_ ?_
                       rotate_left
                       ·show Act.put _ (some 39) _ = _
                        simp only [Act.put, sia_, scz_, scs_, i64_w, i32_w]
                        rfl
                       exact norm_ (by first | (simp only [putAll, Act.put, sia_, scz_, scs_]; done) | (simp only [putAll, Act.put, sia_, scz_, scs_]; rfl)) (hJ15 (v163) _ ⟨hHeld, (by (with_reducible repeat (first | apply Kd.R_alloc | apply Kd.R_drewN | apply Kd.R_drew)); exact Kd.R_mono HO164.out (fun _ hk => hk.2)), (bp_ BK146), (bp_ BK147), (bp_ BK148), (bw_ HB)⟩)
                      ·skip
                       refine box_step ?hg (N := 8) ?hd (cs := #[.int .i64 0, .int .i64 0, .slice none 0 0]) (t := 31) ?hr ?_; (case hd => rfl); (case hg => rfl); (case hr => first | (go_simp; done) | (go_simp; rfl))
                       intro gb168 hg w55 hbox hb
                       have n0_ := bb_ BK146 hb; have n1_ := bb_ BK147 hb; have n2_ := bb_ BK148 hb
                       have n3_ := bs_ HB hb
                       have n4_ := mk_ (hbox)
                       have n5_ : Aside0 (w.heap.size ≤ gb168) := bz_ hg
                       have n6_ : Aside0 (w.heap.size ≤ gb168) := bz_ hg
                       have n7_ : Aside0 (gb146 ≠ gb168) := bl_ BK146 hg
                       have n8_ : Aside0 (gb168 ≠ gb146) := bg_ BK146 hg
                       have n9_ : Aside0 (gb147 ≠ gb168) := bl_ BK147 hg
                       have n10_ : Aside0 (gb168 ≠ gb147) := bg_ BK147 hg
                       have n11_ : Aside0 (gb148 ≠ gb168) := bl_ BK148 hg
                       have n12_ : Aside0 (gb168 ≠ gb148) := bg_ BK148 hg
                       clear BK146; clear BK147; clear BK148; clear HB; have BK146 := n0_; have BK147 := n1_; have BK148 := n2_; have HB := n3_; have BK168 := n4_; have GW168 := n5_; have GE168 := n6_; have NB146_168 := n7_; have NB168_146 := n8_; have NB147_168 := n9_; have NB168_147 := n10_; have NB148_168 := n11_; have NB168_148 := n12_; clear n0_ n1_ n2_ n3_ n4_ n5_ n6_ n7_ n8_ n9_ n10_ n11_ n12_; clear hb hbox hg
                       refine hK.out _ _ ⟨bc_ BK146 0, bc_ BK146 1, bc_ BK146 2, bc_ BK147 0, bc_ BK147 1, bc_ BK147 2⟩ (fun hHeld => ?_)
                       clear hK K
                       refine norm_ (a' := ?_) ?_ ?_
                       rotate_left
                       ·show Act.put _ (some 8) _ = _
                        simp only [Act.put, sia_, scz_, scs_, i64_w, i32_w]
                        rfl
                       exact norm_ (by first | (simp only [putAll, Act.put, sia_, scz_, scs_]; done) | (simp only [putAll, Act.put, sia_, scz_, scs_]; rfl)) (hJ18 (gb168) _ ⟨hHeld, (bp_ BK146), (bp_ BK147), (bp_ BK148), (bp_ BK168), GW168.out, GE168.out, NB146_168.out, NB168_146.out, NB147_168.out, NB168_147.out, NB148_168.out, NB168_148.out, (bw_ HB)⟩)
                     ·skip
                      rintro gb168 w56 ⟨hS_, h0_, h1_, h2_, h3_, h4_, h5_, h6_, h7_, h8_, h9_, h10_, h11_, h12_⟩
                      have n0_ : Aside0 (w56.heap[gb146]? = some (.cells #[.int .i64 a0_0, .int .i64 a0_1, .slice A0_2 l0_2.length c0_2] 31 (0, 0))) := ⟨h0_⟩
                      have n1_ : Aside0 (w56.heap[gb147]? = some (.cells #[.int .i64 a2_0, .int .i64 a2_1, .string a2_2] 35 (0, 0))) := ⟨h1_⟩
                      have n2_ : Aside0 (w56.heap[gb148]? = some (.cells #[.int .i64 0, .int .i64 0, .slice none 0 0] 31 (0, 0))) := ⟨h2_⟩
                      have n3_ : Aside0 (w56.heap[gb168]? = some (.cells #[.int .i64 0, .int .i64 0, .slice none 0 0] 31 (0, 0))) := ⟨h3_⟩
                      have n4_ : Aside0 (w.heap.size ≤ gb168) := ⟨h4_⟩
                      have n5_ : Aside0 (w.heap.size ≤ gb168) := ⟨h5_⟩
                      have n6_ : Aside0 (gb146 ≠ gb168) := ⟨h6_⟩
                      have n7_ : Aside0 (gb168 ≠ gb146) := ⟨h7_⟩
                      have n8_ : Aside0 (gb147 ≠ gb168) := ⟨h8_⟩
                      have n9_ : Aside0 (gb168 ≠ gb147) := ⟨h9_⟩
                      have n10_ : Aside0 (gb148 ≠ gb168) := ⟨h10_⟩
                      have n11_ : Aside0 (gb168 ≠ gb148) := ⟨h11_⟩
                      have n12_ : Aside0 (Below w.heap.size w w56) := ⟨h12_⟩
                      clear BK146; clear BK147; clear BK148; clear HB; clear h0_ h1_ h2_ h3_ h4_ h5_ h6_ h7_ h8_ h9_ h10_ h11_ h12_; have BK146 := n0_; have BK147 := n1_; have BK148 := n2_; have BK168 := n3_; have GW168 := n4_; have GE168 := n5_; have NB146_168 := n6_; have NB168_146 := n7_; have NB147_168 := n8_; have NB168_147 := n9_; have NB148_168 := n10_; have NB168_148 := n11_; have HB := n12_; clear n0_ n1_ n2_ n3_ n4_ n5_ n6_ n7_ n8_ n9_ n10_ n11_ n12_
                      have hHeld : w56.cell? ⟨gb146, 0, none⟩ = some (.int .i64 a0_0) ∧ w56.cell? ⟨gb146, 1, none⟩ = some (.int .i64 a0_1) ∧ w56.cell? ⟨gb146, 2, none⟩ = some (.slice A0_2 l0_2.length c0_2) ∧ w56.cell? ⟨gb147, 0, none⟩ = some (.int .i64 a2_0) ∧ w56.cell? ⟨gb147, 1, none⟩ = some (.int .i64 a2_1) ∧ w56.cell? ⟨gb147, 2, none⟩ = some (.string a2_2) := hS_
                      refine norm_ (a' := ?_) ?_ ?_
                      rotate_left
                      ·simp only [putAll, Act.put, sia_, scz_, scs_]
                       rfl
                      refine two_ (i := 4) (j := 15) (Ni := some 28) (Nj := some 39) #[true, true, true, true, true, true, true, true, true, true, true, true, true, false, true, false, false, false, true, false] #[true, true, true, true, false, true, true, true, true, true, true, true, true, false, true, true, false, false, true, false] rfl rfl rfl rfl (two_of HT_.out (by kernel_rfl)) (by decide) (by decide) (fun K hK => ?_) (fun K hK => ?_)
                      ·skip
                       refine Kd.R_lit_step k35 _ 35 ?hg (N := 28) ?hd (xs := ([] : List (S35))) (inner := []) (ok := fun _ => True) (okp := fun _ => True) ?hr ?hp (fun _ hk => hk) trivial (Below.refl _ _) (Nat.le_refl _) (by simp) ?_; (case hd => rfl); (case hg => rfl); (case hr => first | (go_simp; done) | (go_simp; rfl)); (case hp => exact (Reps.none _ _))
                       intro v153 w57 ho58 hb hg_ hnew_
                       clear hg_ hnew_
                       (first | rw [← Ny152.out] at ho58 | (simp only [Int.reduceToNat] at ho58; rw [← Ny152.out] at ho58))
                       have n0_ := mk_ (Kd.R_lower (Kd.R_newB ho58 (g := gb147) (o := .cells #[.int .i64 a2_0, .int .i64 a2_1, .string a2_2] 35 (0, 0)) (bp_ BK147)) (below_size (bw_ HB)))
                       have n1_ := bb_ BK146 hb; have n2_ := bb_ BK147 hb; have n3_ := bb_ BK148 hb; have n4_ := bb_ BK168 hb
                       have n5_ := bs_ HB hb
                       clear BK146; clear BK147; clear BK148; clear BK168; clear HB; have HO154 := n0_; have BK146 := n1_; have BK147 := n2_; have BK148 := n3_; have BK168 := n4_; have HB := n5_; clear n0_ n1_ n2_ n3_ n4_ n5_; clear hb ho58
                       refine hK.out _ _ ⟨bc_ BK146 0, bc_ BK146 1, bc_ BK146 2, bc_ BK147 0, bc_ BK147 1, bc_ BK147 2⟩ (fun hHeld => ?_)
                       clear hK K
                       refine norm_ (a' := ?_) ?_ ?_
                       rotate_left
                       ·show Act.put _ (some 28) _ = _
                        simp only [Act.put, sia_, scz_, scs_, i64_w, i32_w]
                        rfl
                       exact norm_ (by first | (simp only [putAll, Act.put, sia_, scz_, scs_]; done) | (simp only [putAll, Act.put, sia_, scz_, scs_]; rfl)) (hJ4_18 (v153, gb168) _ ⟨hHeld, (by (with_reducible repeat (first | apply Kd.R_alloc | apply Kd.R_drewN | apply Kd.R_drew)); exact Kd.R_mono HO154.out (fun _ hk => hk.2)), (bp_ BK146), (bp_ BK147), (bp_ BK148), (bp_ BK168), GW168.out, GE168.out, NB146_168.out, NB168_146.out, NB147_168.out, NB168_147.out, NB148_168.out, NB168_148.out, (bw_ HB)⟩)
                      ·skip
                       refine Kd.R_lit_step k35 _ 35 ?hg (N := 39) ?hd (xs := ([(⟨a2_0, a2_1, a2_2⟩ : S35)] : List (S35))) (inner := [.int .i64 a2_0, .int .i64 a2_1, .string a2_2]) (ok := fun _ => True) (okp := fun _ => True) ?hr ?hp (fun _ hk => hk) trivial (Below.refl _ _) (Nat.le_refl _) (by simp) ?_; (case hd => rfl); (case hg => rfl); (case hr => first | (go_simp; done) | (go_simp; rfl)); (case hp => exact (Reps.c3 (show Kd.M k35 _ _ _ (⟨a2_0, a2_1, a2_2⟩ : S35) [.int .i64 a2_0, .int .i64 a2_1, .string a2_2] from (k35_mkM _ _ _ (⟨a2_0, a2_1, a2_2⟩ : S35) )) (Reps.none _ _)))
                       intro v163 w57 ho58 hb hg_ hnew_
                       clear hg_ hnew_
                       (first | rw [← Ny162.out] at ho58 | (simp only [Int.reduceToNat] at ho58; rw [← Ny162.out] at ho58))
                       have n0_ := mk_ (Kd.R_lower (Kd.R_newB ho58 (g := gb147) (o := .cells #[.int .i64 a2_0, .int .i64 a2_1, .string a2_2] 35 (0, 0)) (bp_ BK147)) (below_size (bw_ HB)))
                       have n1_ := bb_ BK146 hb; have n2_ := bb_ BK147 hb; have n3_ := bb_ BK148 hb; have n4_ := bb_ BK168 hb
                       have n5_ := bs_ HB hb
                       clear BK146; clear BK147; clear BK148; clear BK168; clear HB; have HO164 := n0_; have BK146 := n1_; have BK147 := n2_; have BK148 := n3_; have BK168 := n4_; have HB := n5_; clear n0_ n1_ n2_ n3_ n4_ n5_; clear hb ho58
                       refine hK.out _ _ ⟨bc_ BK146 0, bc_ BK146 1, bc_ BK146 2, bc_ BK147 0, bc_ BK147 1, bc_ BK147 2⟩ (fun hHeld => ?_)
                       clear hK K
                       refine norm_ (a' := ?_) ?_ ?_
                       rotate_left
                       ·show Act.put _ (some 39) _ = _
                        simp only [Act.put, sia_, scz_, scs_, i64_w, i32_w]
                        rfl
                       exact norm_ (by first | (simp only [putAll, Act.put, sia_, scz_, scs_]; done) | (simp only [putAll, Act.put, sia_, scz_, scs_]; rfl)) (hJ15_18 (v163, gb168) _ ⟨hHeld, (by (with_reducible repeat (first | apply Kd.R_alloc | apply Kd.R_drewN | apply Kd.R_drew)); exact Kd.R_mono HO164.out (fun _ hk => hk.2)), (bp_ BK146), (bp_ BK147), (bp_ BK148), (bp_ BK168), GW168.out, GE168.out, NB146_168.out, NB168_146.out, NB147_168.out, NB168_147.out, NB148_168.out, NB168_148.out, (bw_ HB)⟩)
                    ·skip
                     rintro v163 w57 ⟨hS_, h0_, h1_, h2_, h3_, h4_⟩
                     have n0_ : Aside0 (Kd.R k35 35 w57 w.heap.size (fun k_ => k_ ≠ gb147) v163 y162) := ⟨h0_⟩
                     have n1_ : Aside0 (w57.heap[gb146]? = some (.cells #[.int .i64 a0_0, .int .i64 a0_1, .slice A0_2 l0_2.length c0_2] 31 (0, 0))) := ⟨h1_⟩
                     have n2_ : Aside0 (w57.heap[gb147]? = some (.cells #[.int .i64 a2_0, .int .i64 a2_1, .string a2_2] 35 (0, 0))) := ⟨h2_⟩
                     have n3_ : Aside0 (w57.heap[gb148]? = some (.cells #[.int .i64 0, .int .i64 0, .slice none 0 0] 31 (0, 0))) := ⟨h3_⟩
                     have n4_ : Aside0 (Below w.heap.size w w57) := ⟨h4_⟩
                     clear BK146; clear BK147; clear BK148; clear HB; clear h0_ h1_ h2_ h3_ h4_; have HO164 := n0_; have BK146 := n1_; have BK147 := n2_; have BK148 := n3_; have HB := n4_; clear n0_ n1_ n2_ n3_ n4_
                     have hHeld : w57.cell? ⟨gb146, 0, none⟩ = some (.int .i64 a0_0) ∧ w57.cell? ⟨gb146, 1, none⟩ = some (.int .i64 a0_1) ∧ w57.cell? ⟨gb146, 2, none⟩ = some (.slice A0_2 l0_2.length c0_2) ∧ w57.cell? ⟨gb147, 0, none⟩ = some (.int .i64 a2_0) ∧ w57.cell? ⟨gb147, 1, none⟩ = some (.int .i64 a2_1) ∧ w57.cell? ⟨gb147, 2, none⟩ = some (.string a2_2) := hS_
                     refine norm_ (a' := ?_) ?_ ?_
                     rotate_left
                     ·simp only [putAll, Act.put, sia_, scz_, scs_]
                      rfl
                     refine two_ (i := 4) (j := 18) (Ni := some 28) (Nj := some 8) #[true, true, true, true, true, true, true, true, true, true, true, true, true, false, true, true, false, false, false, false] #[true, true, true, true, false, true, true, true, true, true, true, true, true, false, true, true, false, false, true, false] rfl rfl rfl rfl (two_of HT_.out (by kernel_rfl)) (by decide) (by decide) (fun K hK => ?_) (fun K hK => ?_)
                     ·skip
                      refine Kd.R_lit_step k35 _ 35 ?hg (N := 28) ?hd (xs := ([] : List (S35))) (inner := []) (ok := fun _ => True) (okp := fun _ => True) ?hr ?hp (fun _ hk => hk) trivial (Below.refl _ _) (Nat.le_refl _) (by simp) ?_; (case hd => rfl); (case hg => rfl); (case hr => first | (go_simp; done) | (go_simp; rfl)); (case hp => exact (Reps.none _ _))
                      intro v153 w58 ho59 hb hg_ hnew_
                      clear hg_ hnew_
                      (first | rw [← Ny152.out] at ho59 | (simp only [Int.reduceToNat] at ho59; rw [← Ny152.out] at ho59))
                      have n0_ := mk_ (Kd.R_elder' (rp_ HO164) (Kd.R_base ho59) hb)
                      have n1_ := mk_ (Kd.R_lower (Kd.R_newB (Kd.R_new' ho59 (Kd.R_lt (rp_ HO164))) (g := gb147) (o := .cells #[.int .i64 a2_0, .int .i64 a2_1, .string a2_2] 35 (0, 0)) (bp_ BK147)) (below_size (bw_ HB)))
                      have n2_ := bb_ BK146 hb; have n3_ := bb_ BK147 hb; have n4_ := bb_ BK148 hb
                      have n5_ := bs_ HB hb
                      clear HO164; clear BK146; clear BK147; clear BK148; clear HB; have HO164 := n0_; have HO154 := n1_; have BK146 := n2_; have BK147 := n3_; have BK148 := n4_; have HB := n5_; clear n0_ n1_ n2_ n3_ n4_ n5_; clear hb ho59
                      refine hK.out _ _ ⟨bc_ BK146 0, bc_ BK146 1, bc_ BK146 2, bc_ BK147 0, bc_ BK147 1, bc_ BK147 2⟩ (fun hHeld => ?_)
                      clear hK K
                      refine norm_ (a' := ?_) ?_ ?_
                      rotate_left
                      ·show Act.put _ (some 28) _ = _
                       simp only [Act.put, sia_, scz_, scs_, i64_w, i32_w]
                       rfl
                      exact norm_ (by first | (simp only [putAll, Act.put, sia_, scz_, scs_]; done) | (simp only [putAll, Act.put, sia_, scz_, scs_]; rfl)) (hJ4_15 (v153, v163) _ ⟨hHeld, (by (with_reducible repeat (first | apply Kd.R_alloc | apply Kd.R_drewN | apply Kd.R_drew)); exact Kd.R_mono HO154.out (fun _ hk => ⟨hk.1.2, hk.2⟩)), (by (with_reducible repeat (first | apply Kd.R_alloc | apply Kd.R_drewN | apply Kd.R_drew)); exact Kd.R_mono HO164.out (fun _ hk => ⟨hk.2, hk.1⟩)), (bp_ BK146), (bp_ BK147), (bp_ BK148), (bw_ HB)⟩)
                     ·skip
                      refine box_step ?hg (N := 8) ?hd (cs := #[.int .i64 0, .int .i64 0, .slice none 0 0]) (t := 31) ?hr ?_; (case hd => rfl); (case hg => rfl); (case hr => first | (go_simp; done) | (go_simp; rfl))
                      intro gb168 hg w58 hbox hb
                      have n0_ := rb_ HO164 hb
                      have n1_ := bb_ BK146 hb; have n2_ := bb_ BK147 hb; have n3_ := bb_ BK148 hb
                      have n4_ := bs_ HB hb
                      have n5_ := mk_ (hbox)
                      have n6_ : Aside0 (w.heap.size ≤ gb168) := bz_ hg
                      have n7_ : Aside0 (w.heap.size ≤ gb168) := bz_ hg
                      have n8_ : Aside0 (gb146 ≠ gb168) := bl_ BK146 hg
                      have n9_ : Aside0 (gb168 ≠ gb146) := bg_ BK146 hg
                      have n10_ : Aside0 (gb147 ≠ gb168) := bl_ BK147 hg
                      have n11_ : Aside0 (gb168 ≠ gb147) := bg_ BK147 hg
                      have n12_ : Aside0 (gb148 ≠ gb168) := bl_ BK148 hg
                      have n13_ : Aside0 (gb168 ≠ gb148) := bg_ BK148 hg
                      clear HO164; clear BK146; clear BK147; clear BK148; clear HB; have HO164 := n0_; have BK146 := n1_; have BK147 := n2_; have BK148 := n3_; have HB := n4_; have BK168 := n5_; have GW168 := n6_; have GE168 := n7_; have NB146_168 := n8_; have NB168_146 := n9_; have NB147_168 := n10_; have NB168_147 := n11_; have NB148_168 := n12_; have NB168_148 := n13_; clear n0_ n1_ n2_ n3_ n4_ n5_ n6_ n7_ n8_ n9_ n10_ n11_ n12_ n13_; clear hb hbox hg
                      refine hK.out _ _ ⟨bc_ BK146 0, bc_ BK146 1, bc_ BK146 2, bc_ BK147 0, bc_ BK147 1, bc_ BK147 2⟩ (fun hHeld => ?_)
                      clear hK K
                      refine norm_ (a' := ?_) ?_ ?_
                      rotate_left
                      ·show Act.put _ (some 8) _ = _
                       simp only [Act.put, sia_, scz_, scs_, i64_w, i32_w]
                       rfl
                      exact norm_ (by first | (simp only [putAll, Act.put, sia_, scz_, scs_]; done) | (simp only [putAll, Act.put, sia_, scz_, scs_]; rfl)) (hJ15_18 (v163, gb168) _ ⟨hHeld, (rp_ HO164), (bp_ BK146), (bp_ BK147), (bp_ BK148), (bp_ BK168), GW168.out, GE168.out, NB146_168.out, NB168_146.out, NB147_168.out, NB168_147.out, NB148_168.out, NB168_148.out, (bw_ HB)⟩)
                   ·skip
                    rintro v153 w57 ⟨hS_, h0_, h1_, h2_, h3_, h4_⟩
                    have n0_ : Aside0 (Kd.R k35 35 w57 w.heap.size (fun k_ => k_ ≠ gb147) v153 y152) := ⟨h0_⟩
                    have n1_ : Aside0 (w57.heap[gb146]? = some (.cells #[.int .i64 a0_0, .int .i64 a0_1, .slice A0_2 l0_2.length c0_2] 31 (0, 0))) := ⟨h1_⟩
                    have n2_ : Aside0 (w57.heap[gb147]? = some (.cells #[.int .i64 a2_0, .int .i64 a2_1, .string a2_2] 35 (0, 0))) := ⟨h2_⟩
                    have n3_ : Aside0 (w57.heap[gb148]? = some (.cells #[.int .i64 0, .int .i64 0, .slice none 0 0] 31 (0, 0))) := ⟨h3_⟩
                    have n4_ : Aside0 (Below w.heap.size w w57) := ⟨h4_⟩
                    clear BK146; clear BK147; clear BK148; clear HB; clear h0_ h1_ h2_ h3_ h4_; have HO154 := n0_; have BK146 := n1_; have BK147 := n2_; have BK148 := n3_; have HB := n4_; clear n0_ n1_ n2_ n3_ n4_
                    have hHeld : w57.cell? ⟨gb146, 0, none⟩ = some (.int .i64 a0_0) ∧ w57.cell? ⟨gb146, 1, none⟩ = some (.int .i64 a0_1) ∧ w57.cell? ⟨gb146, 2, none⟩ = some (.slice A0_2 l0_2.length c0_2) ∧ w57.cell? ⟨gb147, 0, none⟩ = some (.int .i64 a2_0) ∧ w57.cell? ⟨gb147, 1, none⟩ = some (.int .i64 a2_1) ∧ w57.cell? ⟨gb147, 2, none⟩ = some (.string a2_2) := hS_
                    refine norm_ (a' := ?_) ?_ ?_
                    rotate_left
                    ·simp only [putAll, Act.put, sia_, scz_, scs_]
                     rfl
                    refine three_ (i := 13) (j := 15) (k := 18) (Ni := some 37) (Nj := some 39) (Nk := some 8) #[true, true, true, true, true, true, true, true, true, true, true, true, true, true, true, false, false, false, false, false] #[true, true, true, true, true, true, true, true, true, true, true, true, true, false, true, true, false, false, false, false] #[true, true, true, true, true, true, true, true, true, true, true, true, true, false, true, false, false, false, true, false] rfl rfl rfl rfl rfl rfl (three_of HT_.out (by kernel_rfl)) (by decide) (by decide) (by decide) (fun K hK => ?_) (fun K hK => ?_) (fun K hK => ?_)
                    ·skip
                     refine Kd.R_append_rows_step k35 (w0 := w) w.heap.size (by rfl) (.tmp 28) (.tmp 36) 29 35 (.agg #[(.int .i64 0), (.int .i64 0), (.string ⟨#[]⟩)]) 32 rfl Try.underlying29 info35 rfl (by decide) (by omega) v153 y152 y155 _ _ _ (fun k_ => k_ ≠ gb147) (fun _ => False) rfl rfl ?aO ?aR (fun _ _ h => h) (fun _ h => h.elim) ?aF ?aB ?aS ?aL ?_
                     (case aR => repeat (first | exact (Kd.C_below HR158.out HB.out) | (with_reducible refine Kd.C_alloc ?_ _) | (with_reducible refine Kd.C_drewN ?_ _) | (with_reducible refine Kd.C_drew ?_)))
                     (case aB => exact (bw_ HB))
                     (case aF => exact (fun k_ hk => Kd.freshB (g := gb147) (o := .cells #[.int .i64 a2_0, .int .i64 a2_1, .string a2_2] 35 (0, 0)) (bp_ BK147) k_ hk))
                     (case aO => exact (rp_ HO154))
                     (case aS => exact (below_size (bw_ HB)))
                     (case aL => have := LMc24.out; omega)
                     intro v160 w58 ho hb hg hat
                     rw [← Ny159.out] at ho
                     have n0_ := mk_ (blk_grown (g := gb146) (o := .cells #[.int .i64 a0_0, .int .i64 a0_1, .slice A0_2 l0_2.length c0_2] 31 (0, 0)) (bp_ BK146) hg (Kd.R_ne HO154.out BK146.out (by decide)))
                     have n1_ := mk_ (blk_grown (g := gb147) (o := .cells #[.int .i64 a2_0, .int .i64 a2_1, .string a2_2] 35 (0, 0)) (bp_ BK147) hg (Kd.R_away HO154.out (fun _ hk => hk)))
                     have n2_ := mk_ (blk_grown (g := gb148) (o := .cells #[.int .i64 0, .int .i64 0, .slice none 0 0] 31 (0, 0)) (bp_ BK148) hg (Kd.R_ne HO154.out BK148.out (by decide)))
                     have n3_ := mk_ (hb)
                     have n4_ := mk_ (ho)
                     clear BK146; clear BK147; clear BK148; clear HB; clear HO154; have BK146 := n0_; have BK147 := n1_; have BK148 := n2_; have HB := n3_; have HO161 := n4_; clear n0_ n1_ n2_ n3_ n4_; clear ho hb hg hat
                     refine hK.out _ _ ⟨bc_ BK146 0, bc_ BK146 1, bc_ BK146 2, bc_ BK147 0, bc_ BK147 1, bc_ BK147 2⟩ (fun hHeld => ?_)
                     clear hK K
                     refine norm_ (a' := ?_) ?_ ?_
                     rotate_left
                     ·show Act.put _ (some 37) _ = _
                      simp only [Act.put, sia_, scz_, scs_, i64_w, i32_w]
                      rfl
                     exact norm_ (by first | (simp only [putAll, Act.put, sia_, scz_, scs_]; done) | (simp only [putAll, Act.put, sia_, scz_, scs_]; rfl)) (hJ4_13 (v153, v160) _ ⟨hHeld, (rp_ HO161), (bp_ BK146), (bp_ BK147), (bp_ BK148), (bw_ HB)⟩)
                    ·skip
                     refine Kd.R_lit_step k35 _ 35 ?hg (N := 39) ?hd (xs := ([(⟨a2_0, a2_1, a2_2⟩ : S35)] : List (S35))) (inner := [.int .i64 a2_0, .int .i64 a2_1, .string a2_2]) (ok := fun _ => True) (okp := fun _ => True) ?hr ?hp (fun _ hk => hk) trivial (Below.refl _ _) (Nat.le_refl _) (by simp) ?_; (case hd => rfl); (case hg => rfl); (case hr => first | (go_simp; done) | (go_simp; rfl)); (case hp => exact (Reps.c3 (show Kd.M k35 _ _ _ (⟨a2_0, a2_1, a2_2⟩ : S35) [.int .i64 a2_0, .int .i64 a2_1, .string a2_2] from (k35_mkM _ _ _ (⟨a2_0, a2_1, a2_2⟩ : S35) )) (Reps.none _ _)))
                     intro v163 w58 ho59 hb hg_ hnew_
                     clear hg_ hnew_
                     (first | rw [← Ny162.out] at ho59 | (simp only [Int.reduceToNat] at ho59; rw [← Ny162.out] at ho59))
                     have n0_ := mk_ (Kd.R_elder' (rp_ HO154) (Kd.R_base ho59) hb)
                     have n1_ := mk_ (Kd.R_lower (Kd.R_newB (Kd.R_new' ho59 (Kd.R_lt (rp_ HO154))) (g := gb147) (o := .cells #[.int .i64 a2_0, .int .i64 a2_1, .string a2_2] 35 (0, 0)) (bp_ BK147)) (below_size (bw_ HB)))
                     have n2_ := bb_ BK146 hb; have n3_ := bb_ BK147 hb; have n4_ := bb_ BK148 hb
                     have n5_ := bs_ HB hb
                     clear HO154; clear BK146; clear BK147; clear BK148; clear HB; have HO154 := n0_; have HO164 := n1_; have BK146 := n2_; have BK147 := n3_; have BK148 := n4_; have HB := n5_; clear n0_ n1_ n2_ n3_ n4_ n5_; clear hb ho59
                     refine hK.out _ _ ⟨bc_ BK146 0, bc_ BK146 1, bc_ BK146 2, bc_ BK147 0, bc_ BK147 1, bc_ BK147 2⟩ (fun hHeld => ?_)
                     clear hK K
                     refine norm_ (a' := ?_) ?_ ?_
                     rotate_left
                     ·show Act.put _ (some 39) _ = _
                      simp only [Act.put, sia_, scz_, scs_, i64_w, i32_w]
                      rfl
                     exact norm_ (by first | (simp only [putAll, Act.put, sia_, scz_, scs_]; done) | (simp only [putAll, Act.put, sia_, scz_, scs_]; rfl)) (hJ4_15 (v153, v163) _ ⟨hHeld, (by (with_reducible repeat (first | apply Kd.R_alloc | apply Kd.R_drewN | apply Kd.R_drew)); exact Kd.R_mono HO154.out (fun _ hk => ⟨hk.2, hk.1⟩)), (by (with_reducible repeat (first | apply Kd.R_alloc | apply Kd.R_drewN | apply Kd.R_drew)); exact Kd.R_mono HO164.out (fun _ hk => ⟨hk.1.2, hk.2⟩)), (bp_ BK146), (bp_ BK147), (bp_ BK148), (bw_ HB)⟩)
                    ·skip
                     refine box_step ?hg (N := 8) ?hd (cs := #[.int .i64 0, .int .i64 0, .slice none 0 0]) (t := 31) ?hr ?_; (case hd => rfl); (case hg => rfl); (case hr => first | (go_simp; done) | (go_simp; rfl))
                     intro gb168 hg w58 hbox hb
                     have n0_ := rb_ HO154 hb
                     have n1_ := bb_ BK146 hb; have n2_ := bb_ BK147 hb; have n3_ := bb_ BK148 hb
                     have n4_ := bs_ HB hb
                     have n5_ := mk_ (hbox)
                     have n6_ : Aside0 (w.heap.size ≤ gb168) := bz_ hg
                     have n7_ : Aside0 (w.heap.size ≤ gb168) := bz_ hg
                     have n8_ : Aside0 (gb146 ≠ gb168) := bl_ BK146 hg
                     have n9_ : Aside0 (gb168 ≠ gb146) := bg_ BK146 hg
                     have n10_ : Aside0 (gb147 ≠ gb168) := bl_ BK147 hg
                     have n11_ : Aside0 (gb168 ≠ gb147) := bg_ BK147 hg
                     have n12_ : Aside0 (gb148 ≠ gb168) := bl_ BK148 hg
                     have n13_ : Aside0 (gb168 ≠ gb148) := bg_ BK148 hg
                     clear HO154; clear BK146; clear BK147; clear BK148; clear HB; have HO154 := n0_; have BK146 := n1_; have BK147 := n2_; have BK148 := n3_; have HB := n4_; have BK168 := n5_; have GW168 := n6_; have GE168 := n7_; have NB146_168 := n8_; have NB168_146 := n9_; have NB147_168 := n10_; have NB168_147 := n11_; have NB148_168 := n12_; have NB168_148 := n13_; clear n0_ n1_ n2_ n3_ n4_ n5_ n6_ n7_ n8_ n9_ n10_ n11_ n12_ n13_; clear hb hbox hg
                     refine hK.out _ _ ⟨bc_ BK146 0, bc_ BK146 1, bc_ BK146 2, bc_ BK147 0, bc_ BK147 1, bc_ BK147 2⟩ (fun hHeld => ?_)
                     clear hK K
                     refine norm_ (a' := ?_) ?_ ?_
                     rotate_left
                     ·show Act.put _ (some 8) _ = _
                      simp only [Act.put, sia_, scz_, scs_, i64_w, i32_w]
                      rfl
                     exact norm_ (by first | (simp only [putAll, Act.put, sia_, scz_, scs_]; done) | (simp only [putAll, Act.put, sia_, scz_, scs_]; rfl)) (hJ4_18 (v153, gb168) _ ⟨hHeld, (rp_ HO154), (bp_ BK146), (bp_ BK147), (bp_ BK148), (bp_ BK168), GW168.out, GE168.out, NB146_168.out, NB168_146.out, NB147_168.out, NB168_147.out, NB148_168.out, NB168_148.out, (bw_ HB)⟩)
                  ·skip
                   rintro ⟨v163, gb168⟩ w58 ⟨hS_, h0_, h1_, h2_, h3_, h4_, h5_, h6_, h7_, h8_, h9_, h10_, h11_, h12_, h13_⟩
                   have n0_ : Aside0 (Kd.R k35 35 w58 w.heap.size (fun k_ => k_ ≠ gb147) v163 y162) := ⟨h0_⟩
                   have n1_ : Aside0 (w58.heap[gb146]? = some (.cells #[.int .i64 a0_0, .int .i64 a0_1, .slice A0_2 l0_2.length c0_2] 31 (0, 0))) := ⟨h1_⟩
                   have n2_ : Aside0 (w58.heap[gb147]? = some (.cells #[.int .i64 a2_0, .int .i64 a2_1, .string a2_2] 35 (0, 0))) := ⟨h2_⟩
                   have n3_ : Aside0 (w58.heap[gb148]? = some (.cells #[.int .i64 0, .int .i64 0, .slice none 0 0] 31 (0, 0))) := ⟨h3_⟩
                   have n4_ : Aside0 (w58.heap[gb168]? = some (.cells #[.int .i64 0, .int .i64 0, .slice none 0 0] 31 (0, 0))) := ⟨h4_⟩
                   have n5_ : Aside0 (w.heap.size ≤ gb168) := ⟨h5_⟩
                   have n6_ : Aside0 (w.heap.size ≤ gb168) := ⟨h6_⟩
                   have n7_ : Aside0 (gb146 ≠ gb168) := ⟨h7_⟩
                   have n8_ : Aside0 (gb168 ≠ gb146) := ⟨h8_⟩
                   have n9_ : Aside0 (gb147 ≠ gb168) := ⟨h9_⟩
                   have n10_ : Aside0 (gb168 ≠ gb147) := ⟨h10_⟩
                   have n11_ : Aside0 (gb148 ≠ gb168) := ⟨h11_⟩
                   have n12_ : Aside0 (gb168 ≠ gb148) := ⟨h12_⟩
                   have n13_ : Aside0 (Below w.heap.size w w58) := ⟨h13_⟩
                   clear BK146; clear BK147; clear BK148; clear HB; clear h0_ h1_ h2_ h3_ h4_ h5_ h6_ h7_ h8_ h9_ h10_ h11_ h12_ h13_; have HO164 := n0_; have BK146 := n1_; have BK147 := n2_; have BK148 := n3_; have BK168 := n4_; have GW168 := n5_; have GE168 := n6_; have NB146_168 := n7_; have NB168_146 := n8_; have NB147_168 := n9_; have NB168_147 := n10_; have NB148_168 := n11_; have NB168_148 := n12_; have HB := n13_; clear n0_ n1_ n2_ n3_ n4_ n5_ n6_ n7_ n8_ n9_ n10_ n11_ n12_ n13_
                   have hHeld : w58.cell? ⟨gb146, 0, none⟩ = some (.int .i64 a0_0) ∧ w58.cell? ⟨gb146, 1, none⟩ = some (.int .i64 a0_1) ∧ w58.cell? ⟨gb146, 2, none⟩ = some (.slice A0_2 l0_2.length c0_2) ∧ w58.cell? ⟨gb147, 0, none⟩ = some (.int .i64 a2_0) ∧ w58.cell? ⟨gb147, 1, none⟩ = some (.int .i64 a2_1) ∧ w58.cell? ⟨gb147, 2, none⟩ = some (.string a2_2) := hS_
                   refine norm_ (a' := ?_) ?_ ?_
                   rotate_left
                   ·simp only [putAll, Act.put, sia_, scz_, scs_]
                    rfl
                   refine one_ (i := 4) (N := some 28) #[true, true, true, true, true, true, true, true, true, true, true, true, true, false, true, true, false, false, true, false] rfl rfl (one_of HT_.out (by kernel_rfl)) (by decide) (fun K hK => ?_)
                   refine Kd.R_lit_step k35 _ 35 ?hg (N := 28) ?hd (xs := ([] : List (S35))) (inner := []) (ok := fun _ => True) (okp := fun _ => True) ?hr ?hp (fun _ hk => hk) trivial (Below.refl _ _) (Nat.le_refl _) (by simp) ?_; (case hd => rfl); (case hg => rfl); (case hr => first | (go_simp; done) | (go_simp; rfl)); (case hp => exact (Reps.none _ _))
                   intro v153 w59 ho60 hb hg_ hnew_
                   clear hg_ hnew_
                   (first | rw [← Ny152.out] at ho60 | (simp only [Int.reduceToNat] at ho60; rw [← Ny152.out] at ho60))
                   have n0_ := mk_ (Kd.R_elder' (rp_ HO164) (Kd.R_base ho60) hb)
                   have n1_ := mk_ (Kd.R_lower (Kd.R_newB (Kd.R_new' ho60 (Kd.R_lt (rp_ HO164))) (g := gb147) (o := .cells #[.int .i64 a2_0, .int .i64 a2_1, .string a2_2] 35 (0, 0)) (bp_ BK147)) (below_size (bw_ HB)))
                   have n2_ := bb_ BK146 hb; have n3_ := bb_ BK147 hb; have n4_ := bb_ BK148 hb; have n5_ := bb_ BK168 hb
                   have n6_ := bs_ HB hb
                   clear HO164; clear BK146; clear BK147; clear BK148; clear BK168; clear HB; have HO164 := n0_; have HO154 := n1_; have BK146 := n2_; have BK147 := n3_; have BK148 := n4_; have BK168 := n5_; have HB := n6_; clear n0_ n1_ n2_ n3_ n4_ n5_ n6_; clear hb ho60
                   refine hK.out _ _ ⟨bc_ BK146 0, bc_ BK146 1, bc_ BK146 2, bc_ BK147 0, bc_ BK147 1, bc_ BK147 2⟩ (fun hHeld => ?_)
                   clear hK K
                   refine norm_ (a' := ?_) ?_ ?_
                   rotate_left
                   ·show Act.put _ (some 28) _ = _
                    simp only [Act.put, sia_, scz_, scs_, i64_w, i32_w]
                    rfl
                   exact norm_ (by first | (simp only [putAll, Act.put, sia_, scz_, scs_]; done) | (simp only [putAll, Act.put, sia_, scz_, scs_]; rfl)) (hJ4_15_18 (v153, v163, gb168) _ ⟨hHeld, (by (with_reducible repeat (first | apply Kd.R_alloc | apply Kd.R_drewN | apply Kd.R_drew)); exact Kd.R_mono HO154.out (fun _ hk => ⟨hk.1.2, hk.2⟩)), (by (with_reducible repeat (first | apply Kd.R_alloc | apply Kd.R_drewN | apply Kd.R_drew)); exact Kd.R_mono HO164.out (fun _ hk => ⟨hk.2, hk.1⟩)), (bp_ BK146), (bp_ BK147), (bp_ BK148), (bp_ BK168), GW168.out, GE168.out, NB146_168.out, NB168_146.out, NB147_168.out, NB168_147.out, NB148_168.out, NB168_148.out, (bw_ HB)⟩)
                 ·skip
                  rintro ⟨v153, gb168⟩ w58 ⟨hS_, h0_, h1_, h2_, h3_, h4_, h5_, h6_, h7_, h8_, h9_, h10_, h11_, h12_, h13_⟩
                  have n0_ : Aside0 (Kd.R k35 35 w58 w.heap.size (fun k_ => k_ ≠ gb147) v153 y152) := ⟨h0_⟩
                  have n1_ : Aside0 (w58.heap[gb146]? = some (.cells #[.int .i64 a0_0, .int .i64 a0_1, .slice A0_2 l0_2.length c0_2] 31 (0, 0))) := ⟨h1_⟩
                  have n2_ : Aside0 (w58.heap[gb147]? = some (.cells #[.int .i64 a2_0, .int .i64 a2_1, .string a2_2] 35 (0, 0))) := ⟨h2_⟩
                  have n3_ : Aside0 (w58.heap[gb148]? = some (.cells #[.int .i64 0, .int .i64 0, .slice none 0 0] 31 (0, 0))) := ⟨h3_⟩
                  have n4_ : Aside0 (w58.heap[gb168]? = some (.cells #[.int .i64 0, .int .i64 0, .slice none 0 0] 31 (0, 0))) := ⟨h4_⟩
                  have n5_ : Aside0 (w.heap.size ≤ gb168) := ⟨h5_⟩
                  have n6_ : Aside0 (w.heap.size ≤ gb168) := ⟨h6_⟩
                  have n7_ : Aside0 (gb146 ≠ gb168) := ⟨h7_⟩
                  have n8_ : Aside0 (gb168 ≠ gb146) := ⟨h8_⟩
                  have n9_ : Aside0 (gb147 ≠ gb168) := ⟨h9_⟩
                  have n10_ : Aside0 (gb168 ≠ gb147) := ⟨h10_⟩
                  have n11_ : Aside0 (gb148 ≠ gb168) := ⟨h11_⟩
                  have n12_ : Aside0 (gb168 ≠ gb148) := ⟨h12_⟩
                  have n13_ : Aside0 (Below w.heap.size w w58) := ⟨h13_⟩
                  clear BK146; clear BK147; clear BK148; clear HB; clear h0_ h1_ h2_ h3_ h4_ h5_ h6_ h7_ h8_ h9_ h10_ h11_ h12_ h13_; have HO154 := n0_; have BK146 := n1_; have BK147 := n2_; have BK148 := n3_; have BK168 := n4_; have GW168 := n5_; have GE168 := n6_; have NB146_168 := n7_; have NB168_146 := n8_; have NB147_168 := n9_; have NB168_147 := n10_; have NB148_168 := n11_; have NB168_148 := n12_; have HB := n13_; clear n0_ n1_ n2_ n3_ n4_ n5_ n6_ n7_ n8_ n9_ n10_ n11_ n12_ n13_
                  have hHeld : w58.cell? ⟨gb146, 0, none⟩ = some (.int .i64 a0_0) ∧ w58.cell? ⟨gb146, 1, none⟩ = some (.int .i64 a0_1) ∧ w58.cell? ⟨gb146, 2, none⟩ = some (.slice A0_2 l0_2.length c0_2) ∧ w58.cell? ⟨gb147, 0, none⟩ = some (.int .i64 a2_0) ∧ w58.cell? ⟨gb147, 1, none⟩ = some (.int .i64 a2_1) ∧ w58.cell? ⟨gb147, 2, none⟩ = some (.string a2_2) := hS_
                  refine norm_ (a' := ?_) ?_ ?_
                  rotate_left
                  ·simp only [putAll, Act.put, sia_, scz_, scs_]
                   rfl
                  refine two_ (i := 13) (j := 15) (Ni := some 37) (Nj := some 39) #[true, true, true, true, true, true, true, true, true, true, true, true, true, true, true, false, false, false, true, false] #[true, true, true, true, true, true, true, true, true, true, true, true, true, false, true, true, false, false, true, false] rfl rfl rfl rfl (two_of HT_.out (by kernel_rfl)) (by decide) (by decide) (fun K hK => ?_) (fun K hK => ?_)
                  ·skip
                   refine Kd.R_append_rows_step k35 (w0 := w) w.heap.size (by rfl) (.tmp 28) (.tmp 36) 29 35 (.agg #[(.int .i64 0), (.int .i64 0), (.string ⟨#[]⟩)]) 32 rfl Try.underlying29 info35 rfl (by decide) (by omega) v153 y152 y155 _ _ _ (fun k_ => k_ ≠ gb147) (fun _ => False) rfl rfl ?aO ?aR (fun _ _ h => h) (fun _ h => h.elim) ?aF ?aB ?aS ?aL ?_
                   (case aR => repeat (first | exact (Kd.C_below HR158.out HB.out) | (with_reducible refine Kd.C_alloc ?_ _) | (with_reducible refine Kd.C_drewN ?_ _) | (with_reducible refine Kd.C_drew ?_)))
                   (case aB => exact (bw_ HB))
                   (case aF => exact (fun k_ hk => Kd.freshB (g := gb147) (o := .cells #[.int .i64 a2_0, .int .i64 a2_1, .string a2_2] 35 (0, 0)) (bp_ BK147) k_ hk))
                   (case aO => exact (rp_ HO154))
                   (case aS => exact (below_size (bw_ HB)))
                   (case aL => have := LMc24.out; omega)
                   intro v160 w59 ho hb hg hat
                   rw [← Ny159.out] at ho
                   have n0_ := mk_ (blk_grown (g := gb146) (o := .cells #[.int .i64 a0_0, .int .i64 a0_1, .slice A0_2 l0_2.length c0_2] 31 (0, 0)) (bp_ BK146) hg (Kd.R_ne HO154.out BK146.out (by decide)))
                   have n1_ := mk_ (blk_grown (g := gb147) (o := .cells #[.int .i64 a2_0, .int .i64 a2_1, .string a2_2] 35 (0, 0)) (bp_ BK147) hg (Kd.R_away HO154.out (fun _ hk => hk)))
                   have n2_ := mk_ (blk_grown (g := gb148) (o := .cells #[.int .i64 0, .int .i64 0, .slice none 0 0] 31 (0, 0)) (bp_ BK148) hg (Kd.R_ne HO154.out BK148.out (by decide)))
                   have n3_ := mk_ (blk_grown (g := gb168) (o := .cells #[.int .i64 0, .int .i64 0, .slice none 0 0] 31 (0, 0)) (bp_ BK168) hg (Kd.R_ne HO154.out BK168.out (by decide)))
                   have n4_ := mk_ (hb)
                   have n5_ := mk_ (ho)
                   clear BK146; clear BK147; clear BK148; clear BK168; clear HB; clear HO154; have BK146 := n0_; have BK147 := n1_; have BK148 := n2_; have BK168 := n3_; have HB := n4_; have HO161 := n5_; clear n0_ n1_ n2_ n3_ n4_ n5_; clear ho hb hg hat
                   refine hK.out _ _ ⟨bc_ BK146 0, bc_ BK146 1, bc_ BK146 2, bc_ BK147 0, bc_ BK147 1, bc_ BK147 2⟩ (fun hHeld => ?_)
                   clear hK K
                   refine norm_ (a' := ?_) ?_ ?_
                   rotate_left
                   ·show Act.put _ (some 37) _ = _
                    simp only [Act.put, sia_, scz_, scs_, i64_w, i32_w]
                    rfl
                   exact norm_ (by first | (simp only [putAll, Act.put, sia_, scz_, scs_]; done) | (simp only [putAll, Act.put, sia_, scz_, scs_]; rfl)) (hJ4_13_18 (v153, v160, gb168) _ ⟨hHeld, (rp_ HO161), (bp_ BK146), (bp_ BK147), (bp_ BK148), (bp_ BK168), GW168.out, GE168.out, NB146_168.out, NB168_146.out, NB147_168.out, NB168_147.out, NB148_168.out, NB168_148.out, (bw_ HB)⟩)
                  ·skip
                   refine Kd.R_lit_step k35 _ 35 ?hg (N := 39) ?hd (xs := ([(⟨a2_0, a2_1, a2_2⟩ : S35)] : List (S35))) (inner := [.int .i64 a2_0, .int .i64 a2_1, .string a2_2]) (ok := fun _ => True) (okp := fun _ => True) ?hr ?hp (fun _ hk => hk) trivial (Below.refl _ _) (Nat.le_refl _) (by simp) ?_; (case hd => rfl); (case hg => rfl); (case hr => first | (go_simp; done) | (go_simp; rfl)); (case hp => exact (Reps.c3 (show Kd.M k35 _ _ _ (⟨a2_0, a2_1, a2_2⟩ : S35) [.int .i64 a2_0, .int .i64 a2_1, .string a2_2] from (k35_mkM _ _ _ (⟨a2_0, a2_1, a2_2⟩ : S35) )) (Reps.none _ _)))
                   intro v163 w59 ho60 hb hg_ hnew_
                   clear hg_ hnew_
                   (first | rw [← Ny162.out] at ho60 | (simp only [Int.reduceToNat] at ho60; rw [← Ny162.out] at ho60))
                   have n0_ := mk_ (Kd.R_elder' (rp_ HO154) (Kd.R_base ho60) hb)
                   have n1_ := mk_ (Kd.R_lower (Kd.R_newB (Kd.R_new' ho60 (Kd.R_lt (rp_ HO154))) (g := gb147) (o := .cells #[.int .i64 a2_0, .int .i64 a2_1, .string a2_2] 35 (0, 0)) (bp_ BK147)) (below_size (bw_ HB)))
                   have n2_ := bb_ BK146 hb; have n3_ := bb_ BK147 hb; have n4_ := bb_ BK148 hb; have n5_ := bb_ BK168 hb
                   have n6_ := bs_ HB hb
                   clear HO154; clear BK146; clear BK147; clear BK148; clear BK168; clear HB; have HO154 := n0_; have HO164 := n1_; have BK146 := n2_; have BK147 := n3_; have BK148 := n4_; have BK168 := n5_; have HB := n6_; clear n0_ n1_ n2_ n3_ n4_ n5_ n6_; clear hb ho60
                   refine hK.out _ _ ⟨bc_ BK146 0, bc_ BK146 1, bc_ BK146 2, bc_ BK147 0, bc_ BK147 1, bc_ BK147 2⟩ (fun hHeld => ?_)
                   clear hK K
                   refine norm_ (a' := ?_) ?_ ?_
                   rotate_left
                   ·show Act.put _ (some 39) _ = _
                    simp only [Act.put, sia_, scz_, scs_, i64_w, i32_w]
                    rfl
                   exact norm_ (by first | (simp only [putAll, Act.put, sia_, scz_, scs_]; done) | (simp only [putAll, Act.put, sia_, scz_, scs_]; rfl)) (hJ4_15_18 (v153, v163, gb168) _ ⟨hHeld, (by (with_reducible repeat (first | apply Kd.R_alloc | apply Kd.R_drewN | apply Kd.R_drew)); exact Kd.R_mono HO154.out (fun _ hk => ⟨hk.2, hk.1⟩)), (by (with_reducible repeat (first | apply Kd.R_alloc | apply Kd.R_drewN | apply Kd.R_drew)); exact Kd.R_mono HO164.out (fun _ hk => ⟨hk.1.2, hk.2⟩)), (bp_ BK146), (bp_ BK147), (bp_ BK148), (bp_ BK168), GW168.out, GE168.out, NB146_168.out, NB168_146.out, NB147_168.out, NB168_147.out, NB148_168.out, NB168_148.out, (bw_ HB)⟩)
                ·skip
                 rintro ⟨v153, v163⟩ w59 ⟨hS_, h0_, h1_, h2_, h3_, h4_, h5_⟩
                 have n0_ : Aside0 (Kd.R k35 35 w59 w.heap.size (fun k_ => some k_ ≠ (v163 : Value).ownBlock ∧ k_ ≠ gb147) v153 y152) := ⟨h0_⟩
                 have n1_ : Aside0 (Kd.R k35 35 w59 w.heap.size (fun k_ => some k_ ≠ (v153 : Value).ownBlock ∧ k_ ≠ gb147) v163 y162) := ⟨h1_⟩
                 have n2_ : Aside0 (w59.heap[gb146]? = some (.cells #[.int .i64 a0_0, .int .i64 a0_1, .slice A0_2 l0_2.length c0_2] 31 (0, 0))) := ⟨h2_⟩
                 have n3_ : Aside0 (w59.heap[gb147]? = some (.cells #[.int .i64 a2_0, .int .i64 a2_1, .string a2_2] 35 (0, 0))) := ⟨h3_⟩
                 have n4_ : Aside0 (w59.heap[gb148]? = some (.cells #[.int .i64 0, .int .i64 0, .slice none 0 0] 31 (0, 0))) := ⟨h4_⟩
                 have n5_ : Aside0 (Below w.heap.size w w59) := ⟨h5_⟩
                 clear BK146; clear BK147; clear BK148; clear HB; clear h0_ h1_ h2_ h3_ h4_ h5_; have HO154 := n0_; have HO164 := n1_; have BK146 := n2_; have BK147 := n3_; have BK148 := n4_; have HB := n5_; clear n0_ n1_ n2_ n3_ n4_ n5_
                 have hHeld : w59.cell? ⟨gb146, 0, none⟩ = some (.int .i64 a0_0) ∧ w59.cell? ⟨gb146, 1, none⟩ = some (.int .i64 a0_1) ∧ w59.cell? ⟨gb146, 2, none⟩ = some (.slice A0_2 l0_2.length c0_2) ∧ w59.cell? ⟨gb147, 0, none⟩ = some (.int .i64 a2_0) ∧ w59.cell? ⟨gb147, 1, none⟩ = some (.int .i64 a2_1) ∧ w59.cell? ⟨gb147, 2, none⟩ = some (.string a2_2) := hS_
                 refine norm_ (a' := ?_) ?_ ?_
                 rotate_left
                 ·simp only [putAll, Act.put, sia_, scz_, scs_]
                  rfl
                 refine two_ (i := 13) (j := 18) (Ni := some 37) (Nj := some 8) #[true, true, true, true, true, true, true, true, true, true, true, true, true, true, true, true, false, false, false, false] #[true, true, true, true, true, true, true, true, true, true, true, true, true, false, true, true, false, false, true, false] rfl rfl rfl rfl (two_of HT_.out (by kernel_rfl)) (by decide) (by decide) (fun K hK => ?_) (fun K hK => ?_)
                 ·skip
                  refine Kd.R_append_rows_step k35 (w0 := w) w.heap.size (by rfl) (.tmp 28) (.tmp 36) 29 35 (.agg #[(.int .i64 0), (.int .i64 0), (.string ⟨#[]⟩)]) 32 rfl Try.underlying29 info35 rfl (by decide) (by omega) v153 y152 y155 _ _ _ (fun k_ => some k_ ≠ (v163 : Value).ownBlock ∧ k_ ≠ gb147) (fun _ => False) rfl rfl ?aO ?aR (fun _ _ h => h) (fun _ h => h.elim) ?aF ?aB ?aS ?aL ?_
                  (case aR => repeat (first | exact (Kd.C_below HR158.out HB.out) | (with_reducible refine Kd.C_alloc ?_ _) | (with_reducible refine Kd.C_drewN ?_ _) | (with_reducible refine Kd.C_drew ?_)))
                  (case aB => exact (bw_ HB))
                  (case aF => exact (fun k_ hk => ⟨Kd.fresh' (Kd.R_lt (rp_ HO164)) k_ hk, Kd.freshB (g := gb147) (o := .cells #[.int .i64 a2_0, .int .i64 a2_1, .string a2_2] 35 (0, 0)) (bp_ BK147) k_ hk⟩))
                  (case aO => exact (rp_ HO154))
                  (case aS => exact (below_size (bw_ HB)))
                  (case aL => have := LMc24.out; omega)
                  intro v160 w60 ho hb hg hat
                  rw [← Ny159.out] at ho
                  have n0_ := mk_ (blk_grown (g := gb146) (o := .cells #[.int .i64 a0_0, .int .i64 a0_1, .slice A0_2 l0_2.length c0_2] 31 (0, 0)) (bp_ BK146) hg (Kd.R_ne HO154.out BK146.out (by decide)))
                  have n1_ := mk_ (blk_grown (g := gb147) (o := .cells #[.int .i64 a2_0, .int .i64 a2_1, .string a2_2] 35 (0, 0)) (bp_ BK147) hg (Kd.R_away HO154.out (fun _ hk => hk.2)))
                  have n2_ := mk_ (blk_grown (g := gb148) (o := .cells #[.int .i64 0, .int .i64 0, .slice none 0 0] 31 (0, 0)) (bp_ BK148) hg (Kd.R_ne HO154.out BK148.out (by decide)))
                  have n3_ := mk_ (Kd.R_after (ok := (fun k_ => k_ ≠ gb147)) (by (with_reducible repeat (first | apply Kd.R_alloc | apply Kd.R_drewN | apply Kd.R_drew)); exact Kd.R_mono HO164.out (fun _ hk => ⟨hk.2, hk.1⟩)) hg hat)
                  have n4_ := mk_ (hb)
                  have n5_ := mk_ (ho)
                  clear BK146; clear BK147; clear BK148; clear HO164; clear HB; clear HO154; have BK146 := n0_; have BK147 := n1_; have BK148 := n2_; have HO164 := n3_; have HB := n4_; have HO161 := n5_; clear n0_ n1_ n2_ n3_ n4_ n5_; clear ho hb hg hat
                  refine hK.out _ _ ⟨bc_ BK146 0, bc_ BK146 1, bc_ BK146 2, bc_ BK147 0, bc_ BK147 1, bc_ BK147 2⟩ (fun hHeld => ?_)
                  clear hK K
                  refine norm_ (a' := ?_) ?_ ?_
                  rotate_left
                  ·show Act.put _ (some 37) _ = _
                   simp only [Act.put, sia_, scz_, scs_, i64_w, i32_w]
                   rfl
                  exact norm_ (by first | (simp only [putAll, Act.put, sia_, scz_, scs_]; done) | (simp only [putAll, Act.put, sia_, scz_, scs_]; rfl)) (hJ4_13_15 (v153, v160, v163) _ ⟨hHeld, (rp_ HO161), (by (with_reducible repeat (first | apply Kd.R_alloc | apply Kd.R_drewN | apply Kd.R_drew)); exact Kd.R_mono HO164.out (fun _ hk => ⟨hk.2, hk.1⟩)), (bp_ BK146), (bp_ BK147), (bp_ BK148), (bw_ HB)⟩)
                 ·skip
                  refine box_step ?hg (N := 8) ?hd (cs := #[.int .i64 0, .int .i64 0, .slice none 0 0]) (t := 31) ?hr ?_; (case hd => rfl); (case hg => rfl); (case hr => first | (go_simp; done) | (go_simp; rfl))
                  intro gb168 hg w60 hbox hb
                  have n0_ := rb_ HO154 hb
                  have n1_ := rb_ HO164 hb
                  have n2_ := bb_ BK146 hb; have n3_ := bb_ BK147 hb; have n4_ := bb_ BK148 hb
                  have n5_ := bs_ HB hb
                  have n6_ := mk_ (hbox)
                  have n7_ : Aside0 (w.heap.size ≤ gb168) := bz_ hg
                  have n8_ : Aside0 (w.heap.size ≤ gb168) := bz_ hg
                  have n9_ : Aside0 (gb146 ≠ gb168) := bl_ BK146 hg
                  have n10_ : Aside0 (gb168 ≠ gb146) := bg_ BK146 hg
                  have n11_ : Aside0 (gb147 ≠ gb168) := bl_ BK147 hg
                  have n12_ : Aside0 (gb168 ≠ gb147) := bg_ BK147 hg
                  have n13_ : Aside0 (gb148 ≠ gb168) := bl_ BK148 hg
                  have n14_ : Aside0 (gb168 ≠ gb148) := bg_ BK148 hg
                  clear HO154; clear HO164; clear BK146; clear BK147; clear BK148; clear HB; have HO154 := n0_; have HO164 := n1_; have BK146 := n2_; have BK147 := n3_; have BK148 := n4_; have HB := n5_; have BK168 := n6_; have GW168 := n7_; have GE168 := n8_; have NB146_168 := n9_; have NB168_146 := n10_; have NB147_168 := n11_; have NB168_147 := n12_; have NB148_168 := n13_; have NB168_148 := n14_; clear n0_ n1_ n2_ n3_ n4_ n5_ n6_ n7_ n8_ n9_ n10_ n11_ n12_ n13_ n14_; clear hb hbox hg
                  refine hK.out _ _ ⟨bc_ BK146 0, bc_ BK146 1, bc_ BK146 2, bc_ BK147 0, bc_ BK147 1, bc_ BK147 2⟩ (fun hHeld => ?_)
                  clear hK K
                  refine norm_ (a' := ?_) ?_ ?_
                  rotate_left
                  ·show Act.put _ (some 8) _ = _
                   simp only [Act.put, sia_, scz_, scs_, i64_w, i32_w]
                   rfl
                  exact norm_ (by first | (simp only [putAll, Act.put, sia_, scz_, scs_]; done) | (simp only [putAll, Act.put, sia_, scz_, scs_]; rfl)) (hJ4_15_18 (v153, v163, gb168) _ ⟨hHeld, (rp_ HO154), (rp_ HO164), (bp_ BK146), (bp_ BK147), (bp_ BK148), (bp_ BK168), GW168.out, GE168.out, NB146_168.out, NB168_146.out, NB147_168.out, NB168_147.out, NB148_168.out, NB168_148.out, (bw_ HB)⟩)
               ·skip
                rintro ⟨v153, v160⟩ w58 ⟨hS_, h0_, h1_, h2_, h3_, h4_⟩
                have n0_ : Aside0 (Kd.R k35 35 w58 w.heap.size (fun k_ => k_ ≠ gb147) v160 y159) := ⟨h0_⟩
                have n1_ : Aside0 (w58.heap[gb146]? = some (.cells #[.int .i64 a0_0, .int .i64 a0_1, .slice A0_2 l0_2.length c0_2] 31 (0, 0))) := ⟨h1_⟩
                have n2_ : Aside0 (w58.heap[gb147]? = some (.cells #[.int .i64 a2_0, .int .i64 a2_1, .string a2_2] 35 (0, 0))) := ⟨h2_⟩
                have n3_ : Aside0 (w58.heap[gb148]? = some (.cells #[.int .i64 0, .int .i64 0, .slice none 0 0] 31 (0, 0))) := ⟨h3_⟩
                have n4_ : Aside0 (Below w.heap.size w w58) := ⟨h4_⟩
                clear BK146; clear BK147; clear BK148; clear HB; clear h0_ h1_ h2_ h3_ h4_; have HO161 := n0_; have BK146 := n1_; have BK147 := n2_; have BK148 := n3_; have HB := n4_; clear n0_ n1_ n2_ n3_ n4_
                have hHeld : w58.cell? ⟨gb146, 0, none⟩ = some (.int .i64 a0_0) ∧ w58.cell? ⟨gb146, 1, none⟩ = some (.int .i64 a0_1) ∧ w58.cell? ⟨gb146, 2, none⟩ = some (.slice A0_2 l0_2.length c0_2) ∧ w58.cell? ⟨gb147, 0, none⟩ = some (.int .i64 a2_0) ∧ w58.cell? ⟨gb147, 1, none⟩ = some (.int .i64 a2_1) ∧ w58.cell? ⟨gb147, 2, none⟩ = some (.string a2_2) := hS_
                refine norm_ (a' := ?_) ?_ ?_
                rotate_left
                ·simp only [putAll, Act.put, sia_, scz_, scs_]
                 rfl
                refine two_ (i := 15) (j := 18) (Ni := some 39) (Nj := some 8) #[true, true, true, true, true, true, true, true, true, true, true, true, true, true, true, true, false, false, false, false] #[true, true, true, true, true, true, true, true, true, true, true, true, true, true, true, false, false, false, true, false] rfl rfl rfl rfl (two_of HT_.out (by kernel_rfl)) (by decide) (by decide) (fun K hK => ?_) (fun K hK => ?_)
                ·skip
                 refine Kd.R_lit_step k35 _ 35 ?hg (N := 39) ?hd (xs := ([(⟨a2_0, a2_1, a2_2⟩ : S35)] : List (S35))) (inner := [.int .i64 a2_0, .int .i64 a2_1, .string a2_2]) (ok := fun _ => True) (okp := fun _ => True) ?hr ?hp (fun _ hk => hk) trivial (Below.refl _ _) (Nat.le_refl _) (by simp) ?_; (case hd => rfl); (case hg => rfl); (case hr => first | (go_simp; done) | (go_simp; rfl)); (case hp => exact (Reps.c3 (show Kd.M k35 _ _ _ (⟨a2_0, a2_1, a2_2⟩ : S35) [.int .i64 a2_0, .int .i64 a2_1, .string a2_2] from (k35_mkM _ _ _ (⟨a2_0, a2_1, a2_2⟩ : S35) )) (Reps.none _ _)))
                 intro v163 w59 ho60 hb hg_ hnew_
                 clear hg_ hnew_
                 (first | rw [← Ny162.out] at ho60 | (simp only [Int.reduceToNat] at ho60; rw [← Ny162.out] at ho60))
                 have n0_ := mk_ (Kd.R_elder' (rp_ HO161) (Kd.R_base ho60) hb)
                 have n1_ := mk_ (Kd.R_lower (Kd.R_newB (Kd.R_new' ho60 (Kd.R_lt (rp_ HO161))) (g := gb147) (o := .cells #[.int .i64 a2_0, .int .i64 a2_1, .string a2_2] 35 (0, 0)) (bp_ BK147)) (below_size (bw_ HB)))
                 have n2_ := bb_ BK146 hb; have n3_ := bb_ BK147 hb; have n4_ := bb_ BK148 hb
                 have n5_ := bs_ HB hb
                 clear HO161; clear BK146; clear BK147; clear BK148; clear HB; have HO161 := n0_; have HO164 := n1_; have BK146 := n2_; have BK147 := n3_; have BK148 := n4_; have HB := n5_; clear n0_ n1_ n2_ n3_ n4_ n5_; clear hb ho60
                 refine hK.out _ _ ⟨bc_ BK146 0, bc_ BK146 1, bc_ BK146 2, bc_ BK147 0, bc_ BK147 1, bc_ BK147 2⟩ (fun hHeld => ?_)
                 clear hK K
                 refine norm_ (a' := ?_) ?_ ?_
                 rotate_left
                 ·show Act.put _ (some 39) _ = _
                  simp only [Act.put, sia_, scz_, scs_, i64_w, i32_w]
                  rfl
                 exact norm_ (by first | (simp only [putAll, Act.put, sia_, scz_, scs_]; done) | (simp only [putAll, Act.put, sia_, scz_, scs_]; rfl)) (hJ4_13_15 (v153, v160, v163) _ ⟨hHeld, (by (with_reducible repeat (first | apply Kd.R_alloc | apply Kd.R_drewN | apply Kd.R_drew)); exact Kd.R_mono HO161.out (fun _ hk => ⟨hk.2, hk.1⟩)), (by (with_reducible repeat (first | apply Kd.R_alloc | apply Kd.R_drewN | apply Kd.R_drew)); exact Kd.R_mono HO164.out (fun _ hk => ⟨hk.1.2, hk.2⟩)), (bp_ BK146), (bp_ BK147), (bp_ BK148), (bw_ HB)⟩)
                ·skip
                 refine box_step ?hg (N := 8) ?hd (cs := #[.int .i64 0, .int .i64 0, .slice none 0 0]) (t := 31) ?hr ?_; (case hd => rfl); (case hg => rfl); (case hr => first | (go_simp; done) | (go_simp; rfl))
                 intro gb168 hg w59 hbox hb
                 have n0_ := rb_ HO161 hb
                 have n1_ := bb_ BK146 hb; have n2_ := bb_ BK147 hb; have n3_ := bb_ BK148 hb
                 have n4_ := bs_ HB hb
                 have n5_ := mk_ (hbox)
                 have n6_ : Aside0 (w.heap.size ≤ gb168) := bz_ hg
                 have n7_ : Aside0 (w.heap.size ≤ gb168) := bz_ hg
                 have n8_ : Aside0 (gb146 ≠ gb168) := bl_ BK146 hg
                 have n9_ : Aside0 (gb168 ≠ gb146) := bg_ BK146 hg
                 have n10_ : Aside0 (gb147 ≠ gb168) := bl_ BK147 hg
                 have n11_ : Aside0 (gb168 ≠ gb147) := bg_ BK147 hg
                 have n12_ : Aside0 (gb148 ≠ gb168) := bl_ BK148 hg
                 have n13_ : Aside0 (gb168 ≠ gb148) := bg_ BK148 hg
                 clear HO161; clear BK146; clear BK147; clear BK148; clear HB; have HO161 := n0_; have BK146 := n1_; have BK147 := n2_; have BK148 := n3_; have HB := n4_; have BK168 := n5_; have GW168 := n6_; have GE168 := n7_; have NB146_168 := n8_; have NB168_146 := n9_; have NB147_168 := n10_; have NB168_147 := n11_; have NB148_168 := n12_; have NB168_148 := n13_; clear n0_ n1_ n2_ n3_ n4_ n5_ n6_ n7_ n8_ n9_ n10_ n11_ n12_ n13_; clear hb hbox hg
                 refine hK.out _ _ ⟨bc_ BK146 0, bc_ BK146 1, bc_ BK146 2, bc_ BK147 0, bc_ BK147 1, bc_ BK147 2⟩ (fun hHeld => ?_)
                 clear hK K
                 refine norm_ (a' := ?_) ?_ ?_
                 rotate_left
                 ·show Act.put _ (some 8) _ = _
                  simp only [Act.put, sia_, scz_, scs_, i64_w, i32_w]
                  rfl
                 exact norm_ (by first | (simp only [putAll, Act.put, sia_, scz_, scs_]; done) | (simp only [putAll, Act.put, sia_, scz_, scs_]; rfl)) (hJ4_13_18 (v153, v160, gb168) _ ⟨hHeld, (rp_ HO161), (bp_ BK146), (bp_ BK147), (bp_ BK148), (bp_ BK168), GW168.out, GE168.out, NB146_168.out, NB168_146.out, NB147_168.out, NB168_147.out, NB148_168.out, NB168_148.out, (bw_ HB)⟩)
              ·skip
               rintro ⟨v153, v163, gb168⟩ w60 ⟨hS_, h0_, h1_, h2_, h3_, h4_, h5_, h6_, h7_, h8_, h9_, h10_, h11_, h12_, h13_, h14_⟩
               have n0_ : Aside0 (Kd.R k35 35 w60 w.heap.size (fun k_ => some k_ ≠ (v163 : Value).ownBlock ∧ k_ ≠ gb147) v153 y152) := ⟨h0_⟩
               have n1_ : Aside0 (Kd.R k35 35 w60 w.heap.size (fun k_ => some k_ ≠ (v153 : Value).ownBlock ∧ k_ ≠ gb147) v163 y162) := ⟨h1_⟩
               have n2_ : Aside0 (w60.heap[gb146]? = some (.cells #[.int .i64 a0_0, .int .i64 a0_1, .slice A0_2 l0_2.length c0_2] 31 (0, 0))) := ⟨h2_⟩
               have n3_ : Aside0 (w60.heap[gb147]? = some (.cells #[.int .i64 a2_0, .int .i64 a2_1, .string a2_2] 35 (0, 0))) := ⟨h3_⟩
               have n4_ : Aside0 (w60.heap[gb148]? = some (.cells #[.int .i64 0, .int .i64 0, .slice none 0 0] 31 (0, 0))) := ⟨h4_⟩
               have n5_ : Aside0 (w60.heap[gb168]? = some (.cells #[.int .i64 0, .int .i64 0, .slice none 0 0] 31 (0, 0))) := ⟨h5_⟩
               have n6_ : Aside0 (w.heap.size ≤ gb168) := ⟨h6_⟩
               have n7_ : Aside0 (w.heap.size ≤ gb168) := ⟨h7_⟩
               have n8_ : Aside0 (gb146 ≠ gb168) := ⟨h8_⟩
               have n9_ : Aside0 (gb168 ≠ gb146) := ⟨h9_⟩
               have n10_ : Aside0 (gb147 ≠ gb168) := ⟨h10_⟩
               have n11_ : Aside0 (gb168 ≠ gb147) := ⟨h11_⟩
               have n12_ : Aside0 (gb148 ≠ gb168) := ⟨h12_⟩
               have n13_ : Aside0 (gb168 ≠ gb148) := ⟨h13_⟩
               have n14_ : Aside0 (Below w.heap.size w w60) := ⟨h14_⟩
               clear BK146; clear BK147; clear BK148; clear HB; clear h0_ h1_ h2_ h3_ h4_ h5_ h6_ h7_ h8_ h9_ h10_ h11_ h12_ h13_ h14_; have HO154 := n0_; have HO164 := n1_; have BK146 := n2_; have BK147 := n3_; have BK148 := n4_; have BK168 := n5_; have GW168 := n6_; have GE168 := n7_; have NB146_168 := n8_; have NB168_146 := n9_; have NB147_168 := n10_; have NB168_147 := n11_; have NB148_168 := n12_; have NB168_148 := n13_; have HB := n14_; clear n0_ n1_ n2_ n3_ n4_ n5_ n6_ n7_ n8_ n9_ n10_ n11_ n12_ n13_ n14_
               have hHeld : w60.cell? ⟨gb146, 0, none⟩ = some (.int .i64 a0_0) ∧ w60.cell? ⟨gb146, 1, none⟩ = some (.int .i64 a0_1) ∧ w60.cell? ⟨gb146, 2, none⟩ = some (.slice A0_2 l0_2.length c0_2) ∧ w60.cell? ⟨gb147, 0, none⟩ = some (.int .i64 a2_0) ∧ w60.cell? ⟨gb147, 1, none⟩ = some (.int .i64 a2_1) ∧ w60.cell? ⟨gb147, 2, none⟩ = some (.string a2_2) := hS_
               refine norm_ (a' := ?_) ?_ ?_
               rotate_left
               ·simp only [putAll, Act.put, sia_, scz_, scs_]
                rfl
               refine one_ (i := 13) (N := some 37) #[true, true, true, true, true, true, true, true, true, true, true, true, true, true, true, true, false, false, true, false] rfl rfl (one_of HT_.out (by kernel_rfl)) (by decide) (fun K hK => ?_)
               refine Kd.R_append_rows_step k35 (w0 := w) w.heap.size (by rfl) (.tmp 28) (.tmp 36) 29 35 (.agg #[(.int .i64 0), (.int .i64 0), (.string ⟨#[]⟩)]) 32 rfl Try.underlying29 info35 rfl (by decide) (by omega) v153 y152 y155 _ _ _ (fun k_ => some k_ ≠ (v163 : Value).ownBlock ∧ k_ ≠ gb147) (fun _ => False) rfl rfl ?aO ?aR (fun _ _ h => h) (fun _ h => h.elim) ?aF ?aB ?aS ?aL ?_
               (case aR => repeat (first | exact (Kd.C_below HR158.out HB.out) | (with_reducible refine Kd.C_alloc ?_ _) | (with_reducible refine Kd.C_drewN ?_ _) | (with_reducible refine Kd.C_drew ?_)))
               (case aB => exact (bw_ HB))
               (case aF => exact (fun k_ hk => ⟨Kd.fresh' (Kd.R_lt (rp_ HO164)) k_ hk, Kd.freshB (g := gb147) (o := .cells #[.int .i64 a2_0, .int .i64 a2_1, .string a2_2] 35 (0, 0)) (bp_ BK147) k_ hk⟩))
               (case aO => exact (rp_ HO154))
               (case aS => exact (below_size (bw_ HB)))
               (case aL => have := LMc24.out; omega)
               intro v160 w61 ho hb hg hat
               rw [← Ny159.out] at ho
               have n0_ := mk_ (blk_grown (g := gb146) (o := .cells #[.int .i64 a0_0, .int .i64 a0_1, .slice A0_2 l0_2.length c0_2] 31 (0, 0)) (bp_ BK146) hg (Kd.R_ne HO154.out BK146.out (by decide)))
               have n1_ := mk_ (blk_grown (g := gb147) (o := .cells #[.int .i64 a2_0, .int .i64 a2_1, .string a2_2] 35 (0, 0)) (bp_ BK147) hg (Kd.R_away HO154.out (fun _ hk => hk.2)))
               have n2_ := mk_ (blk_grown (g := gb148) (o := .cells #[.int .i64 0, .int .i64 0, .slice none 0 0] 31 (0, 0)) (bp_ BK148) hg (Kd.R_ne HO154.out BK148.out (by decide)))
               have n3_ := mk_ (Kd.R_after (ok := (fun k_ => k_ ≠ gb147)) (by (with_reducible repeat (first | apply Kd.R_alloc | apply Kd.R_drewN | apply Kd.R_drew)); exact Kd.R_mono HO164.out (fun _ hk => ⟨hk.2, hk.1⟩)) hg hat)
               have n4_ := mk_ (blk_grown (g := gb168) (o := .cells #[.int .i64 0, .int .i64 0, .slice none 0 0] 31 (0, 0)) (bp_ BK168) hg (Kd.R_ne HO154.out BK168.out (by decide)))
               have n5_ := mk_ (hb)
               have n6_ := mk_ (ho)
               clear BK146; clear BK147; clear BK148; clear HO164; clear BK168; clear HB; clear HO154; have BK146 := n0_; have BK147 := n1_; have BK148 := n2_; have HO164 := n3_; have BK168 := n4_; have HB := n5_; have HO161 := n6_; clear n0_ n1_ n2_ n3_ n4_ n5_ n6_; clear ho hb hg hat
               refine hK.out _ _ ⟨bc_ BK146 0, bc_ BK146 1, bc_ BK146 2, bc_ BK147 0, bc_ BK147 1, bc_ BK147 2⟩ (fun hHeld => ?_)
               clear hK K
               refine norm_ (a' := ?_) ?_ ?_
               rotate_left
               ·show Act.put _ (some 37) _ = _
                simp only [Act.put, sia_, scz_, scs_, i64_w, i32_w]
                rfl
               exact norm_ (by first | (simp only [putAll, Act.put, sia_, scz_, scs_]; done) | (simp only [putAll, Act.put, sia_, scz_, scs_]; rfl)) (hJ4_13_15_18 (v153, v160, v163, gb168) _ ⟨hHeld, (rp_ HO161), (by (with_reducible repeat (first | apply Kd.R_alloc | apply Kd.R_drewN | apply Kd.R_drew)); exact Kd.R_mono HO164.out (fun _ hk => ⟨hk.2, hk.1⟩)), (bp_ BK146), (bp_ BK147), (bp_ BK148), (bp_ BK168), GW168.out, GE168.out, NB146_168.out, NB168_146.out, NB147_168.out, NB168_147.out, NB148_168.out, NB168_148.out, (bw_ HB)⟩)
             ·skip
              rintro ⟨v153, v160, gb168⟩ w59 ⟨hS_, h0_, h1_, h2_, h3_, h4_, h5_, h6_, h7_, h8_, h9_, h10_, h11_, h12_, h13_⟩
              have n0_ : Aside0 (Kd.R k35 35 w59 w.heap.size (fun k_ => k_ ≠ gb147) v160 y159) := ⟨h0_⟩
              have n1_ : Aside0 (w59.heap[gb146]? = some (.cells #[.int .i64 a0_0, .int .i64 a0_1, .slice A0_2 l0_2.length c0_2] 31 (0, 0))) := ⟨h1_⟩
              have n2_ : Aside0 (w59.heap[gb147]? = some (.cells #[.int .i64 a2_0, .int .i64 a2_1, .string a2_2] 35 (0, 0))) := ⟨h2_⟩
              have n3_ : Aside0 (w59.heap[gb148]? = some (.cells #[.int .i64 0, .int .i64 0, .slice none 0 0] 31 (0, 0))) := ⟨h3_⟩
              have n4_ : Aside0 (w59.heap[gb168]? = some (.cells #[.int .i64 0, .int .i64 0, .slice none 0 0] 31 (0, 0))) := ⟨h4_⟩
              have n5_ : Aside0 (w.heap.size ≤ gb168) := ⟨h5_⟩
              have n6_ : Aside0 (w.heap.size ≤ gb168) := ⟨h6_⟩
              have n7_ : Aside0 (gb146 ≠ gb168) := ⟨h7_⟩
              have n8_ : Aside0 (gb168 ≠ gb146) := ⟨h8_⟩
              have n9_ : Aside0 (gb147 ≠ gb168) := ⟨h9_⟩
              have n10_ : Aside0 (gb168 ≠ gb147) := ⟨h10_⟩
              have n11_ : Aside0 (gb148 ≠ gb168) := ⟨h11_⟩
              have n12_ : Aside0 (gb168 ≠ gb148) := ⟨h12_⟩
              have n13_ : Aside0 (Below w.heap.size w w59) := ⟨h13_⟩
              clear BK146; clear BK147; clear BK148; clear HB; clear h0_ h1_ h2_ h3_ h4_ h5_ h6_ h7_ h8_ h9_ h10_ h11_ h12_ h13_; have HO161 := n0_; have BK146 := n1_; have BK147 := n2_; have BK148 := n3_; have BK168 := n4_; have GW168 := n5_; have GE168 := n6_; have NB146_168 := n7_; have NB168_146 := n8_; have NB147_168 := n9_; have NB168_147 := n10_; have NB148_168 := n11_; have NB168_148 := n12_; have HB := n13_; clear n0_ n1_ n2_ n3_ n4_ n5_ n6_ n7_ n8_ n9_ n10_ n11_ n12_ n13_
              have hHeld : w59.cell? ⟨gb146, 0, none⟩ = some (.int .i64 a0_0) ∧ w59.cell? ⟨gb146, 1, none⟩ = some (.int .i64 a0_1) ∧ w59.cell? ⟨gb146, 2, none⟩ = some (.slice A0_2 l0_2.length c0_2) ∧ w59.cell? ⟨gb147, 0, none⟩ = some (.int .i64 a2_0) ∧ w59.cell? ⟨gb147, 1, none⟩ = some (.int .i64 a2_1) ∧ w59.cell? ⟨gb147, 2, none⟩ = some (.string a2_2) := hS_
              refine norm_ (a' := ?_) ?_ ?_
              rotate_left
              ·simp only [putAll, Act.put, sia_, scz_, scs_]
               rfl
              refine one_ (i := 15) (N := some 39) #[true, true, true, true, true, true, true, true, true, true, true, true, true, true, true, true, false, false, true, false] rfl rfl (one_of HT_.out (by kernel_rfl)) (by decide) (fun K hK => ?_)
              refine Kd.R_lit_step k35 _ 35 ?hg (N := 39) ?hd (xs := ([(⟨a2_0, a2_1, a2_2⟩ : S35)] : List (S35))) (inner := [.int .i64 a2_0, .int .i64 a2_1, .string a2_2]) (ok := fun _ => True) (okp := fun _ => True) ?hr ?hp (fun _ hk => hk) trivial (Below.refl _ _) (Nat.le_refl _) (by simp) ?_; (case hd => rfl); (case hg => rfl); (case hr => first | (go_simp; done) | (go_simp; rfl)); (case hp => exact (Reps.c3 (show Kd.M k35 _ _ _ (⟨a2_0, a2_1, a2_2⟩ : S35) [.int .i64 a2_0, .int .i64 a2_1, .string a2_2] from (k35_mkM _ _ _ (⟨a2_0, a2_1, a2_2⟩ : S35) )) (Reps.none _ _)))
              intro v163 w60 ho61 hb hg_ hnew_
              clear hg_ hnew_
              (first | rw [← Ny162.out] at ho61 | (simp only [Int.reduceToNat] at ho61; rw [← Ny162.out] at ho61))
              have n0_ := mk_ (Kd.R_elder' (rp_ HO161) (Kd.R_base ho61) hb)
              have n1_ := mk_ (Kd.R_lower (Kd.R_newB (Kd.R_new' ho61 (Kd.R_lt (rp_ HO161))) (g := gb147) (o := .cells #[.int .i64 a2_0, .int .i64 a2_1, .string a2_2] 35 (0, 0)) (bp_ BK147)) (below_size (bw_ HB)))
              have n2_ := bb_ BK146 hb; have n3_ := bb_ BK147 hb; have n4_ := bb_ BK148 hb; have n5_ := bb_ BK168 hb
              have n6_ := bs_ HB hb
              clear HO161; clear BK146; clear BK147; clear BK148; clear BK168; clear HB; have HO161 := n0_; have HO164 := n1_; have BK146 := n2_; have BK147 := n3_; have BK148 := n4_; have BK168 := n5_; have HB := n6_; clear n0_ n1_ n2_ n3_ n4_ n5_ n6_; clear hb ho61
              refine hK.out _ _ ⟨bc_ BK146 0, bc_ BK146 1, bc_ BK146 2, bc_ BK147 0, bc_ BK147 1, bc_ BK147 2⟩ (fun hHeld => ?_)
              clear hK K
              refine norm_ (a' := ?_) ?_ ?_
              rotate_left
              ·show Act.put _ (some 39) _ = _
               simp only [Act.put, sia_, scz_, scs_, i64_w, i32_w]
               rfl
              exact norm_ (by first | (simp only [putAll, Act.put, sia_, scz_, scs_]; done) | (simp only [putAll, Act.put, sia_, scz_, scs_]; rfl)) (hJ4_13_15_18 (v153, v160, v163, gb168) _ ⟨hHeld, (by (with_reducible repeat (first | apply Kd.R_alloc | apply Kd.R_drewN | apply Kd.R_drew)); exact Kd.R_mono HO161.out (fun _ hk => ⟨hk.2, hk.1⟩)), (by (with_reducible repeat (first | apply Kd.R_alloc | apply Kd.R_drewN | apply Kd.R_drew)); exact Kd.R_mono HO164.out (fun _ hk => ⟨hk.1.2, hk.2⟩)), (bp_ BK146), (bp_ BK147), (bp_ BK148), (bp_ BK168), GW168.out, GE168.out, NB146_168.out, NB168_146.out, NB147_168.out, NB168_147.out, NB148_168.out, NB168_148.out, (bw_ HB)⟩)
            ·skip
             rintro ⟨v153, v160, v163⟩ w60 ⟨hS_, h0_, h1_, h2_, h3_, h4_, h5_⟩
             have n0_ : Aside0 (Kd.R k35 35 w60 w.heap.size (fun k_ => some k_ ≠ (v163 : Value).ownBlock ∧ k_ ≠ gb147) v160 y159) := ⟨h0_⟩
             have n1_ : Aside0 (Kd.R k35 35 w60 w.heap.size (fun k_ => some k_ ≠ (v160 : Value).ownBlock ∧ k_ ≠ gb147) v163 y162) := ⟨h1_⟩
             have n2_ : Aside0 (w60.heap[gb146]? = some (.cells #[.int .i64 a0_0, .int .i64 a0_1, .slice A0_2 l0_2.length c0_2] 31 (0, 0))) := ⟨h2_⟩
             have n3_ : Aside0 (w60.heap[gb147]? = some (.cells #[.int .i64 a2_0, .int .i64 a2_1, .string a2_2] 35 (0, 0))) := ⟨h3_⟩
             have n4_ : Aside0 (w60.heap[gb148]? = some (.cells #[.int .i64 0, .int .i64 0, .slice none 0 0] 31 (0, 0))) := ⟨h4_⟩
             have n5_ : Aside0 (Below w.heap.size w w60) := ⟨h5_⟩
             clear BK146; clear BK147; clear BK148; clear HB; clear h0_ h1_ h2_ h3_ h4_ h5_; have HO161 := n0_; have HO164 := n1_; have BK146 := n2_; have BK147 := n3_; have BK148 := n4_; have HB := n5_; clear n0_ n1_ n2_ n3_ n4_ n5_
             have hHeld : w60.cell? ⟨gb146, 0, none⟩ = some (.int .i64 a0_0) ∧ w60.cell? ⟨gb146, 1, none⟩ = some (.int .i64 a0_1) ∧ w60.cell? ⟨gb146, 2, none⟩ = some (.slice A0_2 l0_2.length c0_2) ∧ w60.cell? ⟨gb147, 0, none⟩ = some (.int .i64 a2_0) ∧ w60.cell? ⟨gb147, 1, none⟩ = some (.int .i64 a2_1) ∧ w60.cell? ⟨gb147, 2, none⟩ = some (.string a2_2) := hS_
             obtain ⟨Ao62, co62, eo62⟩ := Kd.R_slice HO164.out
             (first | subst eo62 | (injection eo62 with f1_ f2_ f3_; have f4_ := f1_.symm; have f5_ := f3_.symm; clear f1_ f2_ f3_; subst f4_; subst f5_))
             refine norm_ (a' := ?_) ?_ ?_
             rotate_left
             ·simp only [putAll, Act.put, sia_, scz_, scs_]
              rfl
             refine two_ (i := 16) (j := 18) (Ni := some 40) (Nj := some 8) #[true, true, true, true, true, true, true, true, true, true, true, true, true, true, true, true, true, false, false, false] #[true, true, true, true, true, true, true, true, true, true, true, true, true, true, true, true, false, false, true, false] rfl rfl rfl rfl (two_of HT_.out (by kernel_rfl)) (by decide) (by decide) (fun K hK => ?_) (fun K hK => ?_)
             ·skip
              refine Kd.R_append_rows_step k35 (w0 := w) w.heap.size (by rfl) (.tmp 37) (.tmp 39) 29 35 (.agg #[(.int .i64 0), (.int .i64 0), (.string ⟨#[]⟩)]) 32 rfl Try.underlying29 info35 rfl (by decide) (by omega) v160 y159 y162 _ _ _ (fun k_ => some k_ ≠ (.slice Ao62 y162.length co62 : Value).ownBlock ∧ k_ ≠ gb147) (fun _ => False) rfl rfl ?aO ?aR (fun _ _ h => h) (fun _ h => h.elim) ?aF ?aB ?aS ?aL ?_
              (case aR => repeat (first | exact (Kd.R_reads' HO164.out).2.2 | (with_reducible refine Kd.C_alloc ?_ _) | (with_reducible refine Kd.C_drewN ?_ _) | (with_reducible refine Kd.C_drew ?_)))
              (case aB => exact (bw_ HB))
              (case aF => exact (fun k_ hk => ⟨Kd.fresh' (Kd.R_lt (rp_ HO164)) k_ hk, Kd.freshB (g := gb147) (o := .cells #[.int .i64 a2_0, .int .i64 a2_1, .string a2_2] 35 (0, 0)) (bp_ BK147) k_ hk⟩))
              (case aO => exact (rp_ HO161))
              (case aS => exact (below_size (bw_ HB)))
              (case aL => have := LMc25.out; omega)
              intro v166 w61 ho hb hg hat
              rw [← Ny165.out] at ho
              have n0_ := mk_ (blk_grown (g := gb146) (o := .cells #[.int .i64 a0_0, .int .i64 a0_1, .slice A0_2 l0_2.length c0_2] 31 (0, 0)) (bp_ BK146) hg (Kd.R_ne HO161.out BK146.out (by decide)))
              have n1_ := mk_ (blk_grown (g := gb147) (o := .cells #[.int .i64 a2_0, .int .i64 a2_1, .string a2_2] 35 (0, 0)) (bp_ BK147) hg (Kd.R_away HO161.out (fun _ hk => hk.2)))
              have n2_ := mk_ (blk_grown (g := gb148) (o := .cells #[.int .i64 0, .int .i64 0, .slice none 0 0] 31 (0, 0)) (bp_ BK148) hg (Kd.R_ne HO161.out BK148.out (by decide)))
              have n3_ := mk_ (Kd.R_after (ok := (fun k_ => k_ ≠ gb147)) (by (with_reducible repeat (first | apply Kd.R_alloc | apply Kd.R_drewN | apply Kd.R_drew)); exact Kd.R_mono HO164.out (fun _ hk => ⟨hk.2, hk.1⟩)) hg hat)
              have n4_ := mk_ (hb)
              have n5_ := mk_ (ho)
              clear BK146; clear BK147; clear BK148; clear HO164; clear HB; clear HO161; have BK146 := n0_; have BK147 := n1_; have BK148 := n2_; have HO164 := n3_; have HB := n4_; have HO167 := n5_; clear n0_ n1_ n2_ n3_ n4_ n5_; clear ho hb hg hat
              obtain ⟨Ao63, co63, eo63⟩ := Kd.R_slice HO167.out
              (first | subst eo63 | (injection eo63 with f1_ f2_ f3_; have f4_ := f1_.symm; have f5_ := f3_.symm; clear f1_ f2_ f3_; subst f4_; subst f5_))
              refine hK.out _ _ ⟨bc_ BK146 0, bc_ BK146 1, bc_ BK146 2, bc_ BK147 0, bc_ BK147 1, bc_ BK147 2⟩ (fun hHeld => ?_)
              clear hK K
              refine norm_ (a' := ?_) ?_ ?_
              rotate_left
              ·show Act.put _ (some 40) _ = _
               simp only [Act.put, sia_, scz_, scs_, i64_w, i32_w]
               rfl
              refine pure_ (i := 17) (N := some 41) (v := ?_) (a' := ?_) #[true, true, true, true, true, true, true, true, true, true, true, true, true, true, true, true, true, true, false, false] rfl rfl (any_of HT_.out (by kernel_rfl)) (fun _ _ _ h => h) (Or.inl ⟨by rfl, ?_⟩) ?_ ?_
              rotate_left
              ·intro w'
               go_simp
               with_reducible rfl
              rotate_left
              ·simp only [Act.put, sia_, scz_, scs_, i64_w, i32_w]
               rfl
              exact norm_ (by first | (simp only [putAll, Act.put, sia_, scz_, scs_]; done) | (simp only [putAll, Act.put, sia_, scz_, scs_]; rfl)) (hJ4_13_15_16 (v153, v160, .slice Ao62 y162.length co62, .slice Ao63 y165.length co63) _ ⟨hHeld, (by (with_reducible repeat (first | apply Kd.R_alloc | apply Kd.R_drewN | apply Kd.R_drew)); exact Kd.R_mono HO164.out (fun _ hk => ⟨hk.2, hk.1⟩)), (rp_ HO167), (bp_ BK146), (bp_ BK147), (bp_ BK148), (bw_ HB)⟩)
             ·skip
              refine box_step ?hg (N := 8) ?hd (cs := #[.int .i64 0, .int .i64 0, .slice none 0 0]) (t := 31) ?hr ?_; (case hd => rfl); (case hg => rfl); (case hr => first | (go_simp; done) | (go_simp; rfl))
              intro gb168 hg w61 hbox hb
              have n0_ := rb_ HO161 hb
              have n1_ := rb_ HO164 hb
              have n2_ := bb_ BK146 hb; have n3_ := bb_ BK147 hb; have n4_ := bb_ BK148 hb
              have n5_ := bs_ HB hb
              have n6_ := mk_ (hbox)
              have n7_ : Aside0 (w.heap.size ≤ gb168) := bz_ hg
              have n8_ : Aside0 (w.heap.size ≤ gb168) := bz_ hg
              have n9_ : Aside0 (gb146 ≠ gb168) := bl_ BK146 hg
              have n10_ : Aside0 (gb168 ≠ gb146) := bg_ BK146 hg
              have n11_ : Aside0 (gb147 ≠ gb168) := bl_ BK147 hg
              have n12_ : Aside0 (gb168 ≠ gb147) := bg_ BK147 hg
              have n13_ : Aside0 (gb148 ≠ gb168) := bl_ BK148 hg
              have n14_ : Aside0 (gb168 ≠ gb148) := bg_ BK148 hg
              clear HO161; clear HO164; clear BK146; clear BK147; clear BK148; clear HB; have HO161 := n0_; have HO164 := n1_; have BK146 := n2_; have BK147 := n3_; have BK148 := n4_; have HB := n5_; have BK168 := n6_; have GW168 := n7_; have GE168 := n8_; have NB146_168 := n9_; have NB168_146 := n10_; have NB147_168 := n11_; have NB168_147 := n12_; have NB148_168 := n13_; have NB168_148 := n14_; clear n0_ n1_ n2_ n3_ n4_ n5_ n6_ n7_ n8_ n9_ n10_ n11_ n12_ n13_ n14_; clear hb hbox hg
              refine hK.out _ _ ⟨bc_ BK146 0, bc_ BK146 1, bc_ BK146 2, bc_ BK147 0, bc_ BK147 1, bc_ BK147 2⟩ (fun hHeld => ?_)
              clear hK K
              refine norm_ (a' := ?_) ?_ ?_
              rotate_left
              ·show Act.put _ (some 8) _ = _
               simp only [Act.put, sia_, scz_, scs_, i64_w, i32_w]
               rfl
              exact norm_ (by first | (simp only [putAll, Act.put, sia_, scz_, scs_]; done) | (simp only [putAll, Act.put, sia_, scz_, scs_]; rfl)) (hJ4_13_15_18 (v153, v160, .slice Ao62 y162.length co62, gb168) _ ⟨hHeld, (rp_ HO161), (rp_ HO164), (bp_ BK146), (bp_ BK147), (bp_ BK148), (bp_ BK168), GW168.out, GE168.out, NB146_168.out, NB168_146.out, NB147_168.out, NB168_147.out, NB148_168.out, NB168_148.out, (bw_ HB)⟩)
           ·skip
            rintro ⟨v153, v160, v163, gb168⟩ w61 ⟨hS_, h0_, h1_, h2_, h3_, h4_, h5_, h6_, h7_, h8_, h9_, h10_, h11_, h12_, h13_, h14_⟩
            have n0_ : Aside0 (Kd.R k35 35 w61 w.heap.size (fun k_ => some k_ ≠ (v163 : Value).ownBlock ∧ k_ ≠ gb147) v160 y159) := ⟨h0_⟩
            have n1_ : Aside0 (Kd.R k35 35 w61 w.heap.size (fun k_ => some k_ ≠ (v160 : Value).ownBlock ∧ k_ ≠ gb147) v163 y162) := ⟨h1_⟩
            have n2_ : Aside0 (w61.heap[gb146]? = some (.cells #[.int .i64 a0_0, .int .i64 a0_1, .slice A0_2 l0_2.length c0_2] 31 (0, 0))) := ⟨h2_⟩
            have n3_ : Aside0 (w61.heap[gb147]? = some (.cells #[.int .i64 a2_0, .int .i64 a2_1, .string a2_2] 35 (0, 0))) := ⟨h3_⟩
            have n4_ : Aside0 (w61.heap[gb148]? = some (.cells #[.int .i64 0, .int .i64 0, .slice none 0 0] 31 (0, 0))) := ⟨h4_⟩
            have n5_ : Aside0 (w61.heap[gb168]? = some (.cells #[.int .i64 0, .int .i64 0, .slice none 0 0] 31 (0, 0))) := ⟨h5_⟩
            have n6_ : Aside0 (w.heap.size ≤ gb168) := ⟨h6_⟩
            have n7_ : Aside0 (w.heap.size ≤ gb168) := ⟨h7_⟩
            have n8_ : Aside0 (gb146 ≠ gb168) := ⟨h8_⟩
            have n9_ : Aside0 (gb168 ≠ gb146) := ⟨h9_⟩
            have n10_ : Aside0 (gb147 ≠ gb168) := ⟨h10_⟩
            have n11_ : Aside0 (gb168 ≠ gb147) := ⟨h11_⟩
            have n12_ : Aside0 (gb148 ≠ gb168) := ⟨h12_⟩
            have n13_ : Aside0 (gb168 ≠ gb148) := ⟨h13_⟩
            have n14_ : Aside0 (Below w.heap.size w w61) := ⟨h14_⟩
            clear BK146; clear BK147; clear BK148; clear HB; clear h0_ h1_ h2_ h3_ h4_ h5_ h6_ h7_ h8_ h9_ h10_ h11_ h12_ h13_ h14_; have HO161 := n0_; have HO164 := n1_; have BK146 := n2_; have BK147 := n3_; have BK148 := n4_; have BK168 := n5_; have GW168 := n6_; have GE168 := n7_; have NB146_168 := n8_; have NB168_146 := n9_; have NB147_168 := n10_; have NB168_147 := n11_; have NB148_168 := n12_; have NB168_148 := n13_; have HB := n14_; clear n0_ n1_ n2_ n3_ n4_ n5_ n6_ n7_ n8_ n9_ n10_ n11_ n12_ n13_ n14_
            have hHeld : w61.cell? ⟨gb146, 0, none⟩ = some (.int .i64 a0_0) ∧ w61.cell? ⟨gb146, 1, none⟩ = some (.int .i64 a0_1) ∧ w61.cell? ⟨gb146, 2, none⟩ = some (.slice A0_2 l0_2.length c0_2) ∧ w61.cell? ⟨gb147, 0, none⟩ = some (.int .i64 a2_0) ∧ w61.cell? ⟨gb147, 1, none⟩ = some (.int .i64 a2_1) ∧ w61.cell? ⟨gb147, 2, none⟩ = some (.string a2_2) := hS_
            obtain ⟨Ao63, co63, eo63⟩ := Kd.R_slice HO164.out
            (first | subst eo63 | (injection eo63 with f1_ f2_ f3_; have f4_ := f1_.symm; have f5_ := f3_.symm; clear f1_ f2_ f3_; subst f4_; subst f5_))
            refine norm_ (a' := ?_) ?_ ?_
            rotate_left
            ·simp only [putAll, Act.put, sia_, scz_, scs_]
             rfl
            refine one_ (i := 16) (N := some 40) #[true, true, true, true, true, true, true, true, true, true, true, true, true, true, true, true, true, false, true, false] rfl rfl (one_of HT_.out (by kernel_rfl)) (by decide) (fun K hK => ?_)
            refine Kd.R_append_rows_step k35 (w0 := w) w.heap.size (by rfl) (.tmp 37) (.tmp 39) 29 35 (.agg #[(.int .i64 0), (.int .i64 0), (.string ⟨#[]⟩)]) 32 rfl Try.underlying29 info35 rfl (by decide) (by omega) v160 y159 y162 _ _ _ (fun k_ => some k_ ≠ (.slice Ao63 y162.length co63 : Value).ownBlock ∧ k_ ≠ gb147) (fun _ => False) rfl rfl ?aO ?aR (fun _ _ h => h) (fun _ h => h.elim) ?aF ?aB ?aS ?aL ?_
            (case aR => repeat (first | exact (Kd.R_reads' HO164.out).2.2 | (with_reducible refine Kd.C_alloc ?_ _) | (with_reducible refine Kd.C_drewN ?_ _) | (with_reducible refine Kd.C_drew ?_)))
            (case aB => exact (bw_ HB))
            (case aF => exact (fun k_ hk => ⟨Kd.fresh' (Kd.R_lt (rp_ HO164)) k_ hk, Kd.freshB (g := gb147) (o := .cells #[.int .i64 a2_0, .int .i64 a2_1, .string a2_2] 35 (0, 0)) (bp_ BK147) k_ hk⟩))
            (case aO => exact (rp_ HO161))
            (case aS => exact (below_size (bw_ HB)))
            (case aL => have := LMc25.out; omega)
            intro v166 w62 ho hb hg hat
            rw [← Ny165.out] at ho
            have n0_ := mk_ (blk_grown (g := gb146) (o := .cells #[.int .i64 a0_0, .int .i64 a0_1, .slice A0_2 l0_2.length c0_2] 31 (0, 0)) (bp_ BK146) hg (Kd.R_ne HO161.out BK146.out (by decide)))
            have n1_ := mk_ (blk_grown (g := gb147) (o := .cells #[.int .i64 a2_0, .int .i64 a2_1, .string a2_2] 35 (0, 0)) (bp_ BK147) hg (Kd.R_away HO161.out (fun _ hk => hk.2)))
            have n2_ := mk_ (blk_grown (g := gb148) (o := .cells #[.int .i64 0, .int .i64 0, .slice none 0 0] 31 (0, 0)) (bp_ BK148) hg (Kd.R_ne HO161.out BK148.out (by decide)))
            have n3_ := mk_ (Kd.R_after (ok := (fun k_ => k_ ≠ gb147)) (by (with_reducible repeat (first | apply Kd.R_alloc | apply Kd.R_drewN | apply Kd.R_drew)); exact Kd.R_mono HO164.out (fun _ hk => ⟨hk.2, hk.1⟩)) hg hat)
            have n4_ := mk_ (blk_grown (g := gb168) (o := .cells #[.int .i64 0, .int .i64 0, .slice none 0 0] 31 (0, 0)) (bp_ BK168) hg (Kd.R_ne HO161.out BK168.out (by decide)))
            have n5_ := mk_ (hb)
            have n6_ := mk_ (ho)
            clear BK146; clear BK147; clear BK148; clear HO164; clear BK168; clear HB; clear HO161; have BK146 := n0_; have BK147 := n1_; have BK148 := n2_; have HO164 := n3_; have BK168 := n4_; have HB := n5_; have HO167 := n6_; clear n0_ n1_ n2_ n3_ n4_ n5_ n6_; clear ho hb hg hat
            obtain ⟨Ao64, co64, eo64⟩ := Kd.R_slice HO167.out
            (first | subst eo64 | (injection eo64 with f1_ f2_ f3_; have f4_ := f1_.symm; have f5_ := f3_.symm; clear f1_ f2_ f3_; subst f4_; subst f5_))
            refine hK.out _ _ ⟨bc_ BK146 0, bc_ BK146 1, bc_ BK146 2, bc_ BK147 0, bc_ BK147 1, bc_ BK147 2⟩ (fun hHeld => ?_)
            clear hK K
            refine norm_ (a' := ?_) ?_ ?_
            rotate_left
            ·show Act.put _ (some 40) _ = _
             simp only [Act.put, sia_, scz_, scs_, i64_w, i32_w]
             rfl
            refine pure_ (i := 17) (N := some 41) (v := ?_) (a' := ?_) #[true, true, true, true, true, true, true, true, true, true, true, true, true, true, true, true, true, true, true, false] rfl rfl (any_of HT_.out (by kernel_rfl)) (fun _ _ _ h => h) (Or.inl ⟨by rfl, ?_⟩) ?_ ?_
            rotate_left
            ·intro w'
             go_simp
             with_reducible rfl
            rotate_left
            ·simp only [Act.put, sia_, scz_, scs_, i64_w, i32_w]
             rfl
            exact norm_ (by first | (simp only [putAll, Act.put, sia_, scz_, scs_]; done) | (simp only [putAll, Act.put, sia_, scz_, scs_]; rfl)) (hJ4_13_15_16_18 (v153, v160, .slice Ao63 y162.length co63, .slice Ao64 y165.length co64, gb168) _ ⟨hHeld, (by (with_reducible repeat (first | apply Kd.R_alloc | apply Kd.R_drewN | apply Kd.R_drew)); exact Kd.R_mono HO164.out (fun _ hk => ⟨hk.2, hk.1⟩)), (rp_ HO167), (bp_ BK146), (bp_ BK147), (bp_ BK148), (bp_ BK168), GW168.out, GE168.out, NB146_168.out, NB168_146.out, NB147_168.out, NB168_147.out, NB148_168.out, NB168_148.out, (bw_ HB)⟩)
          ·skip
           rintro ⟨v153, v160, v163, v166⟩ w63 ⟨hS_, h0_, h1_, h2_, h3_, h4_, h5_⟩
           have n0_ : Aside0 (Kd.R k35 35 w63 w.heap.size (fun k_ => some k_ ≠ (v166 : Value).ownBlock ∧ k_ ≠ gb147) v163 y162) := ⟨h0_⟩
           have n1_ : Aside0 (Kd.R k35 35 w63 w.heap.size (fun k_ => some k_ ≠ (v163 : Value).ownBlock ∧ k_ ≠ gb147) v166 y165) := ⟨h1_⟩
           have n2_ : Aside0 (w63.heap[gb146]? = some (.cells #[.int .i64 a0_0, .int .i64 a0_1, .slice A0_2 l0_2.length c0_2] 31 (0, 0))) := ⟨h2_⟩
           have n3_ : Aside0 (w63.heap[gb147]? = some (.cells #[.int .i64 a2_0, .int .i64 a2_1, .string a2_2] 35 (0, 0))) := ⟨h3_⟩
           have n4_ : Aside0 (w63.heap[gb148]? = some (.cells #[.int .i64 0, .int .i64 0, .slice none 0 0] 31 (0, 0))) := ⟨h4_⟩
           have n5_ : Aside0 (Below w.heap.size w w63) := ⟨h5_⟩
           clear BK146; clear BK147; clear BK148; clear HB; clear h0_ h1_ h2_ h3_ h4_ h5_; have HO164 := n0_; have HO167 := n1_; have BK146 := n2_; have BK147 := n3_; have BK148 := n4_; have HB := n5_; clear n0_ n1_ n2_ n3_ n4_ n5_
           have hHeld : w63.cell? ⟨gb146, 0, none⟩ = some (.int .i64 a0_0) ∧ w63.cell? ⟨gb146, 1, none⟩ = some (.int .i64 a0_1) ∧ w63.cell? ⟨gb146, 2, none⟩ = some (.slice A0_2 l0_2.length c0_2) ∧ w63.cell? ⟨gb147, 0, none⟩ = some (.int .i64 a2_0) ∧ w63.cell? ⟨gb147, 1, none⟩ = some (.int .i64 a2_1) ∧ w63.cell? ⟨gb147, 2, none⟩ = some (.string a2_2) := hS_
           obtain ⟨Ao64, co64, eo64⟩ := Kd.R_slice HO167.out
           (first | subst eo64 | (injection eo64 with f1_ f2_ f3_; have f4_ := f1_.symm; have f5_ := f3_.symm; clear f1_ f2_ f3_; subst f4_; subst f5_))
           refine norm_ (a' := ?_) ?_ ?_
           rotate_left
           ·simp only [putAll, Act.put, sia_, scz_, scs_]
            rfl
           refine one_ (i := 18) (N := some 8) #[true, true, true, true, true, true, true, true, true, true, true, true, true, true, true, true, true, true, true, false] rfl rfl (one_of HT_.out (by kernel_rfl)) (by decide) (fun K hK => ?_)
           refine box_step ?hg (N := 8) ?hd (cs := #[.int .i64 0, .int .i64 0, .slice none 0 0]) (t := 31) ?hr ?_; (case hd => rfl); (case hg => rfl); (case hr => first | (go_simp; done) | (go_simp; rfl))
           intro gb168 hg w65 hbox hb
           have n0_ := rb_ HO164 hb
           have n1_ := rb_ HO167 hb
           have n2_ := bb_ BK146 hb; have n3_ := bb_ BK147 hb; have n4_ := bb_ BK148 hb
           have n5_ := bs_ HB hb
           have n6_ := mk_ (hbox)
           have n7_ : Aside0 (w.heap.size ≤ gb168) := bz_ hg
           have n8_ : Aside0 (w.heap.size ≤ gb168) := bz_ hg
           have n9_ : Aside0 (gb146 ≠ gb168) := bl_ BK146 hg
           have n10_ : Aside0 (gb168 ≠ gb146) := bg_ BK146 hg
           have n11_ : Aside0 (gb147 ≠ gb168) := bl_ BK147 hg
           have n12_ : Aside0 (gb168 ≠ gb147) := bg_ BK147 hg
           have n13_ : Aside0 (gb148 ≠ gb168) := bl_ BK148 hg
           have n14_ : Aside0 (gb168 ≠ gb148) := bg_ BK148 hg
           clear HO164; clear HO167; clear BK146; clear BK147; clear BK148; clear HB; have HO164 := n0_; have HO167 := n1_; have BK146 := n2_; have BK147 := n3_; have BK148 := n4_; have HB := n5_; have BK168 := n6_; have GW168 := n7_; have GE168 := n8_; have NB146_168 := n9_; have NB168_146 := n10_; have NB147_168 := n11_; have NB168_147 := n12_; have NB148_168 := n13_; have NB168_148 := n14_; clear n0_ n1_ n2_ n3_ n4_ n5_ n6_ n7_ n8_ n9_ n10_ n11_ n12_ n13_ n14_; clear hb hbox hg
           refine hK.out _ _ ⟨bc_ BK146 0, bc_ BK146 1, bc_ BK146 2, bc_ BK147 0, bc_ BK147 1, bc_ BK147 2⟩ (fun hHeld => ?_)
           clear hK K
           refine norm_ (a' := ?_) ?_ ?_
           rotate_left
           ·show Act.put _ (some 8) _ = _
            simp only [Act.put, sia_, scz_, scs_, i64_w, i32_w]
            rfl
           exact norm_ (by first | (simp only [putAll, Act.put, sia_, scz_, scs_]; done) | (simp only [putAll, Act.put, sia_, scz_, scs_]; rfl)) (hJ4_13_15_16_18 (v153, v160, v163, .slice Ao64 y165.length co64, gb168) _ ⟨hHeld, (rp_ HO164), (rp_ HO167), (bp_ BK146), (bp_ BK147), (bp_ BK148), (bp_ BK168), GW168.out, GE168.out, NB146_168.out, NB168_146.out, NB147_168.out, NB168_147.out, NB148_168.out, NB168_148.out, (bw_ HB)⟩)
         rintro ⟨v153, v160, v163, v166, gb168⟩ w64 ⟨hS_, h0_, h1_, h2_, h3_, h4_, h5_, h6_, h7_, h8_, h9_, h10_, h11_, h12_, h13_, h14_⟩
         have n0_ : Aside0 (Kd.R k35 35 w64 w.heap.size (fun k_ => some k_ ≠ (v166 : Value).ownBlock ∧ k_ ≠ gb147) v163 y162) := ⟨h0_⟩
         have n1_ : Aside0 (Kd.R k35 35 w64 w.heap.size (fun k_ => some k_ ≠ (v163 : Value).ownBlock ∧ k_ ≠ gb147) v166 y165) := ⟨h1_⟩
         have n2_ : Aside0 (w64.heap[gb146]? = some (.cells #[.int .i64 a0_0, .int .i64 a0_1, .slice A0_2 l0_2.length c0_2] 31 (0, 0))) := ⟨h2_⟩
         have n3_ : Aside0 (w64.heap[gb147]? = some (.cells #[.int .i64 a2_0, .int .i64 a2_1, .string a2_2] 35 (0, 0))) := ⟨h3_⟩
         have n4_ : Aside0 (w64.heap[gb148]? = some (.cells #[.int .i64 0, .int .i64 0, .slice none 0 0] 31 (0, 0))) := ⟨h4_⟩
         have n5_ : Aside0 (w64.heap[gb168]? = some (.cells #[.int .i64 0, .int .i64 0, .slice none 0 0] 31 (0, 0))) := ⟨h5_⟩
         have n6_ : Aside0 (w.heap.size ≤ gb168) := ⟨h6_⟩
         have n7_ : Aside0 (w.heap.size ≤ gb168) := ⟨h7_⟩
         have n8_ : Aside0 (gb146 ≠ gb168) := ⟨h8_⟩
         have n9_ : Aside0 (gb168 ≠ gb146) := ⟨h9_⟩
         have n10_ : Aside0 (gb147 ≠ gb168) := ⟨h10_⟩
         have n11_ : Aside0 (gb168 ≠ gb147) := ⟨h11_⟩
         have n12_ : Aside0 (gb148 ≠ gb168) := ⟨h12_⟩
         have n13_ : Aside0 (gb168 ≠ gb148) := ⟨h13_⟩
         have n14_ : Aside0 (Below w.heap.size w w64) := ⟨h14_⟩
         clear BK146; clear BK147; clear BK148; clear HB; clear h0_ h1_ h2_ h3_ h4_ h5_ h6_ h7_ h8_ h9_ h10_ h11_ h12_ h13_ h14_; have HO164 := n0_; have HO167 := n1_; have BK146 := n2_; have BK147 := n3_; have BK148 := n4_; have BK168 := n5_; have GW168 := n6_; have GE168 := n7_; have NB146_168 := n8_; have NB168_146 := n9_; have NB147_168 := n10_; have NB168_147 := n11_; have NB148_168 := n12_; have NB168_148 := n13_; have HB := n14_; clear n0_ n1_ n2_ n3_ n4_ n5_ n6_ n7_ n8_ n9_ n10_ n11_ n12_ n13_ n14_
         have hHeld : w64.cell? ⟨gb146, 0, none⟩ = some (.int .i64 a0_0) ∧ w64.cell? ⟨gb146, 1, none⟩ = some (.int .i64 a0_1) ∧ w64.cell? ⟨gb146, 2, none⟩ = some (.slice A0_2 l0_2.length c0_2) ∧ w64.cell? ⟨gb147, 0, none⟩ = some (.int .i64 a2_0) ∧ w64.cell? ⟨gb147, 1, none⟩ = some (.int .i64 a2_1) ∧ w64.cell? ⟨gb147, 2, none⟩ = some (.string a2_2) := hS_
         obtain ⟨Ao65, co65, eo65⟩ := Kd.R_slice HO167.out
         (first | subst eo65 | (injection eo65 with f1_ f2_ f3_; have f4_ := f1_.symm; have f5_ := f3_.symm; clear f1_ f2_ f3_; subst f4_; subst f5_))
         refine norm_ (a' := ?_) ?_ ?_
         rotate_left
         ·simp only [putAll, Act.put, sia_, scz_, scs_]
          rfl
         refine one_ (i := 19) (N := none) #[true, true, true, true, true, true, true, true, true, true, true, true, true, true, true, true, true, true, true, true] rfl rfl (one_of HT_.out (by kernel_rfl)) (by decide) (fun K hK => ?_)
         have hs66 : w64.cell? ⟨gb168, 0, none⟩ = some (.int .i64 0) := bc_ BK168 0
         have hfs66 := blk_frozen BK168.out 0
         have hns66_0 := NB146_168.out
         have hns66_1 := NB147_168.out
         have hns66_2 := NB148_168.out
         have hms66_0 := NB168_146.out
         have hms66_1 := NB168_147.out
         have hms66_2 := NB168_148.out
         have hs67 : w64.cell? ⟨gb168, 1, none⟩ = some (.int .i64 0) := bc_ BK168 1
         have hfs67 := blk_frozen BK168.out 1
         have hns67_0 := NB146_168.out
         have hns67_1 := NB147_168.out
         have hns67_2 := NB148_168.out
         have hms67_0 := NB168_146.out
         have hms67_1 := NB168_147.out
         have hms67_2 := NB168_148.out
         have hs68 : w64.cell? ⟨gb168, 2, none⟩ = some (.slice none 0 0) := bc_ BK168 2
         have hfs68 := blk_frozen BK168.out 2
         have hns68_0 := NB146_168.out
         have hns68_1 := NB147_168.out
         have hns68_2 := NB148_168.out
         have hms68_0 := NB168_146.out
         have hms68_1 := NB168_147.out
         have hms68_2 := NB168_148.out
         refine skip_ (w1 := ?_) (by rfl) rfl ?_ ?_
         rotate_left
         ·go_simp
          rfl
         refine hK.out _ _ ⟨((cell_far (p := ⟨gb168, _, none⟩) NB146_168.out _).trans (((cell_far (p := ⟨gb168, _, none⟩) NB146_168.out _).trans (((cell_far (p := ⟨gb168, _, none⟩) NB146_168.out _).trans (hHeld.1)))))), ((cell_far (p := ⟨gb168, _, none⟩) NB146_168.out _).trans (((cell_far (p := ⟨gb168, _, none⟩) NB146_168.out _).trans (((cell_far (p := ⟨gb168, _, none⟩) NB146_168.out _).trans (hHeld.2.1)))))), ((cell_far (p := ⟨gb168, _, none⟩) NB146_168.out _).trans (((cell_far (p := ⟨gb168, _, none⟩) NB146_168.out _).trans (((cell_far (p := ⟨gb168, _, none⟩) NB146_168.out _).trans (hHeld.2.2.1)))))), ((cell_far (p := ⟨gb168, _, none⟩) NB147_168.out _).trans (((cell_far (p := ⟨gb168, _, none⟩) NB147_168.out _).trans (((cell_far (p := ⟨gb168, _, none⟩) NB147_168.out _).trans (hHeld.2.2.2.1)))))), ((cell_far (p := ⟨gb168, _, none⟩) NB147_168.out _).trans (((cell_far (p := ⟨gb168, _, none⟩) NB147_168.out _).trans (((cell_far (p := ⟨gb168, _, none⟩) NB147_168.out _).trans (hHeld.2.2.2.2.1)))))), ((cell_far (p := ⟨gb168, _, none⟩) NB147_168.out _).trans (((cell_far (p := ⟨gb168, _, none⟩) NB147_168.out _).trans (((cell_far (p := ⟨gb168, _, none⟩) NB147_168.out _).trans (hHeld.2.2.2.2.2))))))⟩ (fun hHeld => ?_)
         clear hK K
         refine done_ (done_of HT_.out (by kernel_rfl)) ?_
         have hnb69 := NB168_146.out
         have hnc69 := NB146_168.out
         have hnb70 := NB168_147.out
         have hnc70 := NB147_168.out
         have hnb71 := NB168_148.out
         have hnc71 := NB148_168.out
         have hcz72_0 : w64.cell? ⟨gb168, 0, none⟩ = some (.int .i64 0) := bc_ BK168 0
         have hcz72_1 : w64.cell? ⟨gb168, 1, none⟩ = some (.int .i64 0) := bc_ BK168 1
         have hcz72_2 : w64.cell? ⟨gb168, 2, none⟩ = some (.slice none 0 0) := bc_ BK168 2
         have hfz72_0 := blk_frozen BK168.out 0
         have hfz72_1 := blk_frozen BK168.out 1
         have hfz72_2 := blk_frozen BK168.out 2
         try go_wp2_with (first | ((with_reducible refine gate_callee (f := 69) rfl ?_); refine goesL_ (some 43) rfl rfl Try.func69 (by kernel_rfl) rfl #[.agg #[.int .i64 a0_0, .int .i64 a0_1, .slice Ao65 y165.length co65]] rfl (by (try simp only [List.map_toArray, List.map_cons, List.map_nil]); first | done | rfl | (simp only [List.length_drop, List.length_take]; rfl)) ?_; (with_reducible refine (spec_LogOk.calls kj3 a0_0 a0_1 _ _ y165 false _ ?side1 ?side2 A26.out).mono ?_); (case side1 => refine (Kd.R_reads' (e := 35) (base := w.heap.size) (ok := fun k_ => (some k_ ≠ (v163 : Value).ownBlock ∧ k_ ≠ gb147)) (n := y165.length) (c := co65) ?_).2.2; exact (by (with_reducible repeat (first | apply Kd.R_alloc | apply Kd.R_drewN | apply Kd.R_drew)); exact (Kd.R_mono (Kd.R_far (p := ⟨gb168, 2, none⟩) (Kd.R_far (p := ⟨gb168, 1, none⟩) (Kd.R_far (p := ⟨gb168, 0, none⟩) (Kd.R_types HO167.out BK168.out (by decide)) (fun _ hk => hk.2) (.int .i64 a0_0)) (fun _ hk => hk.2) (.int .i64 a0_1)) (fun _ hk => hk.2) (.slice Ao65 y165.length co65)) (fun _ h_ => h_.1)))); (case side2 => exact (Kd.R_reads' HO167.out).2.1); rintro e w73 ⟨rfl, hb⟩; refine ⟨_, rfl, ?_⟩; replace HO164 := mk_ (Kd.R_below (by (with_reducible repeat (first | apply Kd.R_alloc | apply Kd.R_drewN | apply Kd.R_drew)); exact (Kd.R_mono (Kd.R_far (p := ⟨gb168, 2, none⟩) (Kd.R_far (p := ⟨gb168, 1, none⟩) (Kd.R_far (p := ⟨gb168, 0, none⟩) (Kd.R_types HO164.out BK168.out (by decide)) (fun _ hk => hk.2) (.int .i64 a0_0)) (fun _ hk => hk.2) (.int .i64 a0_1)) (fun _ hk => hk.2) (.slice Ao65 y165.length co65)) (fun _ h_ => h_.1))) hb); replace HO167 := mk_ (Kd.R_below (by (with_reducible repeat (first | apply Kd.R_alloc | apply Kd.R_drewN | apply Kd.R_drew)); exact (Kd.R_mono (Kd.R_far (p := ⟨gb168, 2, none⟩) (Kd.R_far (p := ⟨gb168, 1, none⟩) (Kd.R_far (p := ⟨gb168, 0, none⟩) (Kd.R_types HO167.out BK168.out (by decide)) (fun _ hk => hk.2) (.int .i64 a0_0)) (fun _ hk => hk.2) (.int .i64 a0_1)) (fun _ hk => hk.2) (.slice Ao65 y165.length co65)) (fun _ h_ => h_.1))) hb); replace BK146 := mk_ (blk_below (g := gb146) (o := .cells #[.int .i64 a0_0, .int .i64 a0_1, .slice A0_2 l0_2.length c0_2] 31 (0, 0)) (by (with_reducible repeat (first | refine blk_drewN ?_ _ | refine blk_drew ?_ | refine blk_alloc ?_ _)); refine blk_far ?_ NB146_168.out _; (with_reducible repeat (first | refine blk_drewN ?_ _ | refine blk_drew ?_ | refine blk_alloc ?_ _)); refine blk_far ?_ NB146_168.out _; (with_reducible repeat (first | refine blk_drewN ?_ _ | refine blk_drew ?_ | refine blk_alloc ?_ _)); refine blk_far ?_ NB146_168.out _; (with_reducible repeat (first | refine blk_drewN ?_ _ | refine blk_drew ?_ | refine blk_alloc ?_ _)); exact BK146.out) hb); replace BK147 := mk_ (blk_below (g := gb147) (o := .cells #[.int .i64 a2_0, .int .i64 a2_1, .string a2_2] 35 (0, 0)) (by (with_reducible repeat (first | refine blk_drewN ?_ _ | refine blk_drew ?_ | refine blk_alloc ?_ _)); refine blk_far ?_ NB147_168.out _; (with_reducible repeat (first | refine blk_drewN ?_ _ | refine blk_drew ?_ | refine blk_alloc ?_ _)); refine blk_far ?_ NB147_168.out _; (with_reducible repeat (first | refine blk_drewN ?_ _ | refine blk_drew ?_ | refine blk_alloc ?_ _)); refine blk_far ?_ NB147_168.out _; (with_reducible repeat (first | refine blk_drewN ?_ _ | refine blk_drew ?_ | refine blk_alloc ?_ _)); exact BK147.out) hb); replace BK148 := mk_ (blk_below (g := gb148) (o := .cells #[.int .i64 0, .int .i64 0, .slice none 0 0] 31 (0, 0)) (by (with_reducible repeat (first | refine blk_drewN ?_ _ | refine blk_drew ?_ | refine blk_alloc ?_ _)); refine blk_far ?_ NB148_168.out _; (with_reducible repeat (first | refine blk_drewN ?_ _ | refine blk_drew ?_ | refine blk_alloc ?_ _)); refine blk_far ?_ NB148_168.out _; (with_reducible repeat (first | refine blk_drewN ?_ _ | refine blk_drew ?_ | refine blk_alloc ?_ _)); refine blk_far ?_ NB148_168.out _; (with_reducible repeat (first | refine blk_drewN ?_ _ | refine blk_drew ?_ | refine blk_alloc ?_ _)); exact BK148.out) hb); replace BK168 := mk_ (blk_below (g := gb168) (o := .cells #[.int .i64 a0_0, .int .i64 a0_1, .slice Ao65 y165.length co65] 31 (0, 0)) (by (with_reducible repeat (first | refine blk_drewN ?_ _ | refine blk_drew ?_ | refine blk_alloc ?_ _)); refine blk_put (cs := #[.int .i64 a0_0, .int .i64 a0_1, .slice none 0 0]) ?_ 2 _ rfl; (with_reducible repeat (first | refine blk_drewN ?_ _ | refine blk_drew ?_ | refine blk_alloc ?_ _)); refine blk_put (cs := #[.int .i64 a0_0, .int .i64 0, .slice none 0 0]) ?_ 1 _ rfl; (with_reducible repeat (first | refine blk_drewN ?_ _ | refine blk_drew ?_ | refine blk_alloc ?_ _)); refine blk_put (cs := #[.int .i64 0, .int .i64 0, .slice none 0 0]) ?_ 0 _ rfl; (with_reducible repeat (first | refine blk_drewN ?_ _ | refine blk_drew ?_ | refine blk_alloc ?_ _)); exact BK168.out) hb); replace HB := bs_ HB hb; (try clear hb); (try clear hk); have hnb74 := NB148_146.out; have hnc74 := NB146_148.out; have hnb75 := NB148_147.out; have hnc75 := NB147_148.out; have hcz76_0 : w73.cell? ⟨gb148, 0, none⟩ = some (.int .i64 0) := bc_ BK148 0; have hcz76_1 : w73.cell? ⟨gb148, 1, none⟩ = some (.int .i64 0) := bc_ BK148 1; have hcz76_2 : w73.cell? ⟨gb148, 2, none⟩ = some (.slice none 0 0) := bc_ BK148 2; have hfz76_0 := blk_frozen BK148.out 0; have hfz76_1 := blk_frozen BK148.out 1; have hfz76_2 := blk_frozen BK148.out 2))
         refine bodyPost_ret (results_ct rfl _ _ gb148 31 #[.int .i64 0, .int .i64 0, .slice none 0 0] (0, 0) _ rfl (by (with_reducible repeat (first | refine blk_drewN ?_ _ | refine blk_drew ?_ | refine blk_alloc ?_ _)); refine blk_put (cs := #[.int .i64 0, .int .i64 0, .slice none 0 0]) ?_ 2 _ rfl; (with_reducible repeat (first | refine blk_drewN ?_ _ | refine blk_drew ?_ | refine blk_alloc ?_ _)); refine blk_put (cs := #[.int .i64 0, .int .i64 0, .slice none 0 0]) ?_ 1 _ rfl; (with_reducible repeat (first | refine blk_drewN ?_ _ | refine blk_drew ?_ | refine blk_alloc ?_ _)); refine blk_put (cs := #[.int .i64 0, .int .i64 0, .slice none 0 0]) ?_ 0 _ rfl; (with_reducible repeat (first | refine blk_drewN ?_ _ | refine blk_drew ?_ | refine blk_alloc ?_ _)); exact BK148.out) Try.underlying31 rfl (by kernel_rfl)) rfl ?_
         exact ⟨_, by first | rfl | (simp [errW_none, errW_some] <;> rfl) | (simp only [← hji21]; first | rfl | (simp [errW_none, errW_some] <;> rfl)) | (simp [*, errW_none, errW_some] <;> rfl), by first | exact Kd.R_nil _ _ _ _ _ | exact Kd.N_nil _ _ _ _ _ | exact Kd.V_nil _ _ _ _ _ | exact Kd.Q_nil _ _ _ _ _ | exact Kd.S_nil _ _ _ _ _, by repeat (first | (with_reducible first | exact HB.out | apply below_alloc | apply pw_below_drewN | apply below_drew1 | refine below_set ?_ GE146.out | refine below_set ?_ GE147.out | refine below_set ?_ GE148.out | refine below_set ?_ GE168.out) | exact HB.out)⟩
       ·rw [if_neg c25] at H
        exact absurd H (by simp)
      ·rw [if_neg c24] at H
       exact absurd H (by simp)
     ·rw [if_neg c23] at H
      exact absurd H (by simp)
    ·rw [if_neg c22] at H
     exact absurd H (by simp)

end Go.Proofs.Ytknbkjajfiediaa.QFnExactLogPut
