/- Written by this session's own program (wip/tpl/pp.py): what the law's functions come to, and that the machine's calls do just that. -/
import Derived.Test.YthbaoefbccdioaaQFnExactCutActsx0
import Derived.Test.YthbaoefbccdioaaQFnExactCutActsx8
import Derived.Test.YthbaoefbccdioaaQFnExactCutActsx13
import Derived.Test.YthbaoefbccdioaaQFnExactCutActsx14
namespace Go.Proofs.Ythbaoefbccdioaa.QFnExactCutActs
open Go.RowKit Go.Proofs.YthbaoefbccdioaaW.PrintWords Go.Proofs.YthbaoefbccdioaaW.PrintLast Go.Proofs.YthbaoefbccdioaaW.PrintMore
attribute [local go_sem] Go.Proofs.Ythbaoefbccdioaa.Sem.string_geq Go.Proofs.Ythbaoefbccdioaa.Sem.string_leq Go.Proofs.Ythbaoefbccdioaa.Sem.string_gtr
attribute [local go_sem] max2_int min2_int max_two min_two max_three min_three max_four min_four   -- for this text's walks alone
set_option linter.unusedVariables false
set_option linter.unusedSimpArgs false

/-! ### spec_CutActs: function 28 -/
def spec_CutActs.f (k : Nat) (l0_0 : List (S76)) (l1 : List (S35)) (a2 : Int) (l3 : List Int) : Option ((List (S76)) × Bool) := (spec_l01In.f a2 0 (l1.length : Int)).bind fun t315 => (if t315 = true then (if 0 ≤ a2 then (if a2 ≤ (l1.length : Int) then ((spec_DoActs.f k l0_0 (l1.take (a2 : Int).toNat)).bind fun bt320 => (if bt320.2 < a2 then (some (([] : List (S76)), false)) else ((spec_LoseDisk.f k bt320.1 l3).bind fun bt325 => (some (bt325.1, bt325.2))))) else (none)) else (none)) else (some (([] : List (S76)), false)))
theorem spec_CutActs.mono : ∀ a0 a1 a2 a3 k, LeO (spec_CutActs.f k a0 a1 a2 a3) (spec_CutActs.f (k + 1) a0 a1 a2 a3) := by
 intro a0 a1 a2 a3 k
 unfold spec_CutActs.f
 repeat' first
   | (with_reducible exact spec_DoActs.mono _ _ _)
   | (with_reducible exact spec_LoseDisk.mono _ _ _)
   | (with_reducible exact LeO.refl _)
   | (with_reducible refine LeO.ite ?_ ?_)
   | (with_reducible refine LeO.bind ?_ (fun _ => ?_))
def spec_CutActs.T3 : Bool × List (List Nat × List Nat) := (true, [([], []), ([], []), ([], []), ([1, 2], [1, 2]), ([0, 3], [0, 3]), ([4], [4]), ([5], [5]), ([5], [5]), ([], []), ([8, 6, 4, 0, 1, 2, 3, 4, 5, 6, 8], [6, 8]), ([7, 9, 0, 1, 2, 3, 4, 5, 6, 7, 8, 9], [7])])
def spec_CutActs.B3 : List Nat := [0, 0, 0, 6, 15, 31, 63, 63, 0, 383, 1023]
theorem spec_CutActs.tab3 : rtab .any (opsOf Try.f28 3) = spec_CutActs.T3 := by kernel_rfl
theorem spec_CutActs.bits3 : waitsOk spec_CutActs.T3.2 spec_CutActs.B3 = true := by kernel_rfl
set_option maxHeartbeats 8000000 in
set_option maxRecDepth 100000 in
theorem spec_CutActs.calls (k : Nat) (A0_0 : Option Addr) (c0_0 : Nat) (l0_0 : List (S76)) (A1 : Option Addr) (c1 : Nat) (l1 : List (S35)) (a2 : Int) (A3 : Option Addr) (c3 : Nat) (l3 : List Int) (r1 : List (S76)) (r2 : Bool) (w : World) (hr0_0 : Kd.C k76 w A0_0 l0_0.length l0_0) (hc0_0 : l0_0.length ≤ c0_0) (hr1 : Kd.C k35 w A1 l1.length l1) (hc1 : l1.length ≤ c1) (hr3 : Kd.C (Kd.int .i64) w A3 l3.length l3) (hc3 : l3.length ≤ c3) (h : spec_CutActs.f k l0_0 l1 a2 l3 = some (r1, r2)) :
  Calls Try.prog 28 #[.agg #[.slice A0_0 l0_0.length c0_0], .slice A1 l1.length c1, .int .i64 a2, .slice A3 l3.length c3] w fun e w' => ∃ v0_ : Value, e = .returned (.tuple #[.agg #[v0_], .bool r2]) ∧ Kd.R k76 76 w' w.heap.size (fun _ => True) v0_ r1 ∧ Below w.heap.size w w' := by
 have hu31 := Try.underlying31
 have HR0_0 := Aside0.mk hr0_0
 have HC0_0 := Aside0.mk hc0_0
 clear hr0_0 hc0_0
 have HR1 := Aside0.mk hr1
 have HC1 := Aside0.mk hc1
 clear hr1 hc1
 have HR3 := Aside0.mk hr3
 have HC3 := Aside0.mk hc3
 clear hr3 hc3
 have HB := mk_ (Below.refl w.heap.size w)
 have H : ((spec_l01In.f a2 0 (l1.length : Int)).bind fun t315 => (if t315 = true then (if 0 ≤ a2 then (if a2 ≤ (l1.length : Int) then ((spec_DoActs.f k l0_0 (l1.take (a2 : Int).toNat)).bind fun bt320 => (if bt320.2 < a2 then (some (([] : List (S76)), false)) else ((spec_LoseDisk.f k bt320.1 l3).bind fun bt325 => (some (bt325.1, bt325.2))))) else (none)) else (none)) else (some (([] : List (S76)), false)))) = some (r1, r2) := h
 clear h
 replace H := Option.bind_eq_some_iff.mp H
 obtain ⟨t315, A50, H⟩ := H
 replace H : (if t315 = true then (if 0 ≤ a2 then (if a2 ≤ (l1.length : Int) then ((spec_DoActs.f k l0_0 (l1.take (a2 : Int).toNat)).bind fun bt320 => (if bt320.2 < a2 then (some (([] : List (S76)), false)) else ((spec_LoseDisk.f k bt320.1 l3).bind fun bt325 => (some (bt325.1, bt325.2))))) else (none)) else (none)) else (some (([] : List (S76)), false))) = some (r1, r2) := H
 have A5 := Aside0.mk A50
 clear A50
 by_cases c6 : t315 = true
 ·subst c6
  have H1 : (if 0 ≤ a2 then (if a2 ≤ (l1.length : Int) then ((spec_DoActs.f k l0_0 (l1.take (a2 : Int).toNat)).bind fun bt320 => (if bt320.2 < a2 then (some (([] : List (S76)), false)) else ((spec_LoseDisk.f k bt320.1 l3).bind fun bt325 => (some (bt325.1, bt325.2))))) else (none)) else (none)) = some (r1, r2) := by rw [if_pos rfl] at H; exact H
  clear H
  have H := H1
  clear H1
  by_cases c7 : 0 ≤ a2
  ·rw [if_pos c7] at H
   have c7b0 := eq_true c7
   have c7b1 : decide (0 ≤ a2) = true := decide_eq_true c7
   clear c7
   by_cases c8 : a2 ≤ (l1.length : Int)
   ·rw [if_pos c8] at H
    have c8b0 := eq_true c8
    have c8b1 : decide (a2 ≤ (l1.length : Int)) = true := decide_eq_true c8
    clear c8
    obtain ⟨y316, hy316⟩ : ∃ y_ : List (S35), y_ = (l1.take (a2 : Int).toNat) := ⟨_, rfl⟩
    replace H : ((spec_DoActs.f k l0_0 y316).bind fun bt320 => (if bt320.2 < a2 then (some (([] : List (S76)), false)) else ((spec_LoseDisk.f k bt320.1 l3).bind fun bt325 => (some (bt325.1, bt325.2))))) = some (r1, r2) := by first | (rw [hy316]; with_reducible exact H) | (have H2_ := (Option.bind_some _ _).symm.trans H; rw [hy316]; with_reducible exact H2_) | (have H2_ := (Option.bind_some _ _).symm.trans H; with_reducible exact H2_) | with_reducible exact H | (rw [hy316]; exact H) | exact H
    have Ny316 := Aside0.mk hy316
    clear hy316
    replace H := Option.bind_eq_some_iff.mp H
    obtain ⟨⟨t320, t323⟩, A90, H⟩ := H
    replace H : (if t323 < a2 then (some (([] : List (S76)), false)) else ((spec_LoseDisk.f k t320 l3).bind fun bt325 => (some (bt325.1, bt325.2)))) = some (r1, r2) := H
    have A9 := Aside0.mk A90
    clear A90
    by_cases c10 : t323 < a2
    ·rw [if_pos c10] at H
     have c10b0 : decide (t323 < a2) = true := decide_eq_true c10
     clear c10
     simp only [Option.some.injEq, Prod.mk.injEq] at H
     obtain ⟨rfl, rfl⟩ := H
     go_enter Try.func28, Try.ntmps28
     try go_wp2_with (first | ((with_reducible refine gate_dst (N := 4) rfl ?_); refine bx_ (N := 4) (cs := #[.slice A0_0 l0_0.length c0_0]) (t := 31) ?_; intro gb313 hg w11 hbox hb; have BK313 := mk_ (hbox); have GW313 : Aside0 (w.heap.size ≤ gb313) := bz_ hg; have GE313 := GW313; replace HB := bs_ HB hb; clear hb hbox hg) | ((with_reducible refine gate_dst (N := 8) rfl ?_); refine bx_ (N := 8) (cs := #[.slice none 0 0]) (t := 31) ?_; intro gb314 hg w12 hbox hb; have BK314 := mk_ (hbox); have GW314 : Aside0 (w.heap.size ≤ gb314) := bz_ hg; have GE314 := GW314; have NB313_314 := bl_ BK313 hg; have NB314_313 := bg_ BK313 hg; replace BK313 := bb_ BK313 hb; replace HB := bs_ HB hb; clear hb hbox hg) | ((with_reducible refine gate_callee (f := 61) rfl ?_); refine goesL_ (some 15) rfl rfl Try.func61 (by kernel_rfl) rfl #[.int .i64 a2, .int .i64 0, .int .i64 (l1.length : Int)] rfl ga_ ?_; (with_reducible refine (spec_l01In.calls a2 0 (l1.length : Int) true _ A5.out).mono ?_); rintro e w' ⟨rfl, ⟨nd, rfl⟩⟩; refine ⟨_, rfl, ?_⟩; (try (rw [drewN_self w12]; generalize hq_ : World.drewN w12 _ = w12; replace BK313 : Aside0 (w12.heap[gb313]? = some (.cells #[.slice A0_0 l0_0.length c0_0] 31 (0, 0))) := ⟨by rw [← hq_]; exact (bp_ BK313)⟩; replace BK314 : Aside0 (w12.heap[gb314]? = some (.cells #[.slice none 0 0] 31 (0, 0))) := ⟨by rw [← hq_]; exact (bp_ BK314)⟩; replace HB : Aside0 (Below w.heap.size w w12) := ⟨by rw [← hq_]; exact (bw_ HB)⟩; clear hq_))))
     have n0_ := mk_ (blk_drew BK313.out)
     have n1_ := mk_ (blk_drew BK314.out)
     have n2_ := mk_ (below_drew1 HB.out)
     clear BK313; clear BK314; clear HB; have BK313 := n0_; have BK314 := n1_; have HB := n2_; clear n0_ n1_ n2_
     have q14 : (a2 : Int) ≤ ((l1.length : Int) : Int) := od_
     obtain ⟨i014, hi014, _, hsz14, _⟩ := info_parts info35
     have hroom14 : l1.length ≤ c1 := HC1.out
     have hC14 : Kd.C k35 _ A1 l1.length l1 := HR1.out
     have hcut14 := cut_to (P := Try.prog) 44 35 .i64 Try.underlying44 hi014 A1 l1.length c1 a2 (od_) q14 hroom14
     have hr14 := Kd.C_take (m := (a2 : Int).toNat) hC14 (by omega)
     have hy14 : y316.length = (a2 : Int).toNat := (by rw [Ny316.out, List.length_take]; omega)
     rw [← Ny316.out] at hr14
     rw [← hy14] at hcut14
     have HR319 := Aside0.mk hr14
     have HC319 := mk_ (show y316.length ≤ c1 from by omega)
     clear hr14 hC14 hroom14 hi014 hsz14
     have KY14 := Aside0.mk hy14
     clear hy14
     replace q14 := eq_true q14
     refine start_ (n := 11) (S := fun w' => w'.cell? ⟨gb313, 0, none⟩ = some (.slice A0_0 l0_0.length c0_0)) (ds := []) #[false, false, false, false, false, false, false, false, false, false, false] (by kernel_rfl) rfl rfl (bc_ BK313 0) (fun hHeld => ?_); refine with_tabW spec_CutActs.tab3 spec_CutActs.bits3 (fun HT_ HW_ => ?_)
     generalize w12.drew = w13 at BK313 BK314 HB HR319 hHeld ⊢
     refine pure_ (i := 1) (N := some 20) (v := ?_) (a' := ?_) #[false, true, false, false, false, false, false, false, false, false, false] rfl rfl (any_of HT_.out (by kernel_rfl)) (fun _ _ _ h => h) (Or.inl ⟨by rfl, ?_⟩) ?_ ?_
     rotate_left
     ·intro w'
      go_simp
      with_reducible rfl
     rotate_left
     ·simp only [Act.put, sia_, scz_, scs_, i64_w, i32_w]
      rfl
     refine pure_ (i := 2) (N := some 21) (v := ?_) (a' := ?_) #[false, true, true, false, false, false, false, false, false, false, false] rfl rfl (any_of HT_.out (by kernel_rfl)) (fun _ _ _ h => h) (Or.inl ⟨by rfl, ?_⟩) ?_ ?_
     rotate_left
     ·intro w'
      go_simp
      with_reducible rfl
     rotate_left
     ·simp only [Act.put, sia_, scz_, scs_, i64_w, i32_w]
      rfl
     refine pure_ (i := 3) (N := some 22) (v := ?_) (a' := ?_) #[false, true, true, true, false, false, false, false, false, false, false] rfl rfl (any_of HT_.out (by kernel_rfl)) (fun _ _ _ h => h) (Or.inl ⟨by rfl, ?_⟩) ?_ ?_
     rotate_left
     ·intro w'
      go_simp
      with_reducible rfl
     rotate_left
     ·simp only [Act.put, sia_, scz_, scs_, i64_w, i32_w]
      rfl
     refine take_ (i := 0) (N := some 19) (v := ?_) (a' := ?_) #[true, true, true, true, false, false, false, false, false, false, false] rfl rfl (take_ofW HT_.out HW_.out (by kernel_rfl)) (fun _ _ _ h => h) (Or.inl ⟨by rfl, ?_⟩) hHeld ?_ ?_
     rotate_left
     ·intro w' s0
      go_simp
      with_reducible rfl
     rotate_left
     ·simp only [Act.put, sia_, scz_, scs_, i64_w, i32_w]
      rfl
     refine join_ (σ := Value × Nat) 2 #[true, true, true, true, true, true, true, true, true, false, false] (fun s_ => [(23, .tuple #[.agg #[s_.1], .int .i64 t323]), (10, .pointer (some ⟨s_.2, 0, none⟩)), (18, .tuple #[.agg #[s_.1], .int .i64 t323]), (24, .agg #[s_.1]), (25, .int .i64 t323)]) (fun s_ w' => (w'.cell? ⟨gb313, 0, none⟩ = some (.slice A0_0 l0_0.length c0_0)) ∧ (Kd.R k76 76 w' w.heap.size (fun _ => True) s_.1 t320) ∧ (w'.heap[gb313]? = some (.cells #[.slice A0_0 l0_0.length c0_0] 31 (0, 0))) ∧ (w'.heap[gb314]? = some (.cells #[.slice none 0 0] 31 (0, 0))) ∧ (w'.heap[s_.2]? = some (.cells #[.slice none 0 0] 31 (0, 0))) ∧ (w.heap.size ≤ s_.2) ∧ (w.heap.size ≤ s_.2) ∧ (gb313 ≠ s_.2) ∧ (s_.2 ≠ gb313) ∧ (gb314 ≠ s_.2) ∧ (s_.2 ≠ gb314) ∧ (Below w.heap.size w w')) ?_ ?_
     rotate_left
     ·intro hCont
      refine two_ (i := 4) (j := 8) (Ni := some 23) (Nj := some 10) #[true, true, true, true, true, false, false, false, false, false, false] #[true, true, true, true, false, false, false, false, true, false, false] rfl rfl rfl rfl (two_of HT_.out (by kernel_rfl)) (by decide) (by decide) (fun K hK => ?_) (fun K hK => ?_)
      ·skip
       refine goes_ Try.func18 (by kernel_rfl) rfl #[.agg #[.slice A0_0 l0_0.length c0_0], .slice A1 y316.length c1] (by rfl) rfl rfl ga_ ?_
       with_reducible refine (spec_DoActs.calls k _ _ l0_0 _ _ y316 t320 t323 _ ?side1 ?side2 ?side3 ?side4 A9.out).mono ?_
       (case side1 => repeat (first | exact (Kd.C_below HR0_0.out HB.out) | (with_reducible refine Kd.C_alloc ?_ _) | (with_reducible refine Kd.C_drewN ?_ _) | (with_reducible refine Kd.C_drew ?_)))
       (case side2 => exact HC0_0.out)
       (case side3 => repeat (first | exact (Kd.C_below HR319.out HB.out) | (with_reducible refine Kd.C_alloc ?_ _) | (with_reducible refine Kd.C_drewN ?_ _) | (with_reducible refine Kd.C_drew ?_)))
       (case side4 => exact HC319.out)
       rintro e w15 ⟨v321, rfl, ho0, hb⟩
       refine ⟨_, rfl, ?_⟩
       have n0_ := mk_ (Kd.R_lower ho0 (below_size (bw_ HB)))
       have n1_ := bb_ BK313 hb; have n2_ := bb_ BK314 hb
       have n3_ := bs_ HB hb
       clear BK313; clear BK314; clear HB; have HO322 := n0_; have BK313 := n1_; have BK314 := n2_; have HB := n3_; clear n0_ n1_ n2_ n3_; (try clear hb); (try clear hb2); (try clear hk); (try clear hi); (try clear ho0)
       refine hK.out _ _ (bc_ BK313 0) (fun hHeld => ?_)
       clear hK K
       refine norm_ (a' := ?_) ?_ ?_
       rotate_left
       ·show Act.put _ (some 23) _ = _
        simp only [Act.put, sia_, scz_, scs_, i64_w, i32_w]
        rfl
       refine pure_ (i := 5) (N := some 18) (v := ?_) (a' := ?_) #[true, true, true, true, true, true, false, false, false, false, false] rfl rfl (any_of HT_.out (by kernel_rfl)) (fun _ _ _ h => h) (Or.inl ⟨by rfl, ?_⟩) ?_ ?_
       rotate_left
       ·intro w'
        go_simp
        with_reducible rfl
       rotate_left
       ·simp only [Act.put, sia_, scz_, scs_, i64_w, i32_w]
        rfl
       refine pure_ (i := 6) (N := some 24) (v := ?_) (a' := ?_) #[true, true, true, true, true, true, true, false, false, false, false] rfl rfl (any_of HT_.out (by kernel_rfl)) (fun _ _ _ h => h) (Or.inl ⟨by rfl, ?_⟩) ?_ ?_
       rotate_left
       ·intro w'
        go_simp
        with_reducible rfl
       rotate_left
       ·simp only [Act.put, sia_, scz_, scs_, i64_w, i32_w]
        rfl
       refine pure_ (i := 7) (N := some 25) (v := ?_) (a' := ?_) #[true, true, true, true, true, true, true, true, false, false, false] rfl rfl (any_of HT_.out (by kernel_rfl)) (fun _ _ _ h => h) (Or.inl ⟨by rfl, ?_⟩) ?_ ?_
       rotate_left
       ·intro w'
        go_simp
        with_reducible rfl
       rotate_left
       ·simp only [Act.put, sia_, scz_, scs_, i64_w, i32_w]
        rfl
       refine one_ (i := 8) (N := some 10) #[true, true, true, true, true, true, true, true, true, false, false] rfl rfl (one_of HT_.out (by kernel_rfl)) (by decide) (fun K hK => ?_)
       refine box_step ?hg (N := 10) ?hd (cs := #[.slice none 0 0]) (t := 31) ?hr ?_; (case hd => rfl); (case hg => rfl); (case hr => first | (go_simp; done) | (go_simp; rfl))
       intro gb324 hg w16 hbox hb
       have n0_ := rb_ HO322 hb
       have n1_ := bb_ BK313 hb; have n2_ := bb_ BK314 hb
       have n3_ := bs_ HB hb
       have n4_ := mk_ (hbox)
       have n5_ : Aside0 (w.heap.size ≤ gb324) := bz_ hg
       have n6_ : Aside0 (w.heap.size ≤ gb324) := bz_ hg
       have n7_ : Aside0 (gb313 ≠ gb324) := bl_ BK313 hg
       have n8_ : Aside0 (gb324 ≠ gb313) := bg_ BK313 hg
       have n9_ : Aside0 (gb314 ≠ gb324) := bl_ BK314 hg
       have n10_ : Aside0 (gb324 ≠ gb314) := bg_ BK314 hg
       clear HO322; clear BK313; clear BK314; clear HB; have HO322 := n0_; have BK313 := n1_; have BK314 := n2_; have HB := n3_; have BK324 := n4_; have GW324 := n5_; have GE324 := n6_; have NB313_324 := n7_; have NB324_313 := n8_; have NB314_324 := n9_; have NB324_314 := n10_; clear n0_ n1_ n2_ n3_ n4_ n5_ n6_ n7_ n8_ n9_ n10_; clear hb hbox hg
       refine hK.out _ _ (bc_ BK313 0) (fun hHeld => ?_)
       clear hK K
       refine norm_ (a' := ?_) ?_ ?_
       rotate_left
       ·show Act.put _ (some 10) _ = _
        simp only [Act.put, sia_, scz_, scs_, i64_w, i32_w]
        rfl
       exact norm_ (by simp only [putAll, Act.put, sia_, scz_, scs_]) (hCont (v321, gb324) _ ⟨hHeld, (rp_ HO322), (bp_ BK313), (bp_ BK314), (bp_ BK324), GW324.out, GE324.out, NB313_324.out, NB324_313.out, NB314_324.out, NB324_314.out, (bw_ HB)⟩)
      ·skip
       refine box_step ?hg (N := 10) ?hd (cs := #[.slice none 0 0]) (t := 31) ?hr ?_; (case hd => rfl); (case hg => rfl); (case hr => first | (go_simp; done) | (go_simp; rfl))
       intro gb324 hg w15 hbox hb
       have n0_ := bb_ BK313 hb; have n1_ := bb_ BK314 hb
       have n2_ := bs_ HB hb
       have n3_ := mk_ (hbox)
       have n4_ : Aside0 (w.heap.size ≤ gb324) := bz_ hg
       have n5_ : Aside0 (w.heap.size ≤ gb324) := bz_ hg
       have n6_ : Aside0 (gb313 ≠ gb324) := bl_ BK313 hg
       have n7_ : Aside0 (gb324 ≠ gb313) := bg_ BK313 hg
       have n8_ : Aside0 (gb314 ≠ gb324) := bl_ BK314 hg
       have n9_ : Aside0 (gb324 ≠ gb314) := bg_ BK314 hg
       clear BK313; clear BK314; clear HB; have BK313 := n0_; have BK314 := n1_; have HB := n2_; have BK324 := n3_; have GW324 := n4_; have GE324 := n5_; have NB313_324 := n6_; have NB324_313 := n7_; have NB314_324 := n8_; have NB324_314 := n9_; clear n0_ n1_ n2_ n3_ n4_ n5_ n6_ n7_ n8_ n9_; clear hb hbox hg
       refine hK.out _ _ (bc_ BK313 0) (fun hHeld => ?_)
       clear hK K
       refine norm_ (a' := ?_) ?_ ?_
       rotate_left
       ·show Act.put _ (some 10) _ = _
        simp only [Act.put, sia_, scz_, scs_, i64_w, i32_w]
        rfl
       refine one_ (i := 4) (N := some 23) #[true, true, true, true, true, false, false, false, true, false, false] rfl rfl (one_of HT_.out (by kernel_rfl)) (by decide) (fun K hK => ?_)
       refine goes_ Try.func18 (by kernel_rfl) rfl #[.agg #[.slice A0_0 l0_0.length c0_0], .slice A1 y316.length c1] (by rfl) rfl rfl ga_ ?_
       with_reducible refine (spec_DoActs.calls k _ _ l0_0 _ _ y316 t320 t323 _ ?side1 ?side2 ?side3 ?side4 A9.out).mono ?_
       (case side1 => repeat (first | exact (Kd.C_below HR0_0.out HB.out) | (with_reducible refine Kd.C_alloc ?_ _) | (with_reducible refine Kd.C_drewN ?_ _) | (with_reducible refine Kd.C_drew ?_)))
       (case side2 => exact HC0_0.out)
       (case side3 => repeat (first | exact (Kd.C_below HR319.out HB.out) | (with_reducible refine Kd.C_alloc ?_ _) | (with_reducible refine Kd.C_drewN ?_ _) | (with_reducible refine Kd.C_drew ?_)))
       (case side4 => exact HC319.out)
       rintro e w16 ⟨v321, rfl, ho0, hb⟩
       refine ⟨_, rfl, ?_⟩
       have n0_ := mk_ (Kd.R_lower ho0 (below_size (bw_ HB)))
       have n1_ := bb_ BK313 hb; have n2_ := bb_ BK314 hb; have n3_ := bb_ BK324 hb
       have n4_ := bs_ HB hb
       clear BK313; clear BK314; clear BK324; clear HB; have HO322 := n0_; have BK313 := n1_; have BK314 := n2_; have BK324 := n3_; have HB := n4_; clear n0_ n1_ n2_ n3_ n4_; (try clear hb); (try clear hb2); (try clear hk); (try clear hi); (try clear ho0)
       refine hK.out _ _ (bc_ BK313 0) (fun hHeld => ?_)
       clear hK K
       refine norm_ (a' := ?_) ?_ ?_
       rotate_left
       ·show Act.put _ (some 23) _ = _
        simp only [Act.put, sia_, scz_, scs_, i64_w, i32_w]
        rfl
       refine pure_ (i := 5) (N := some 18) (v := ?_) (a' := ?_) #[true, true, true, true, true, true, false, false, true, false, false] rfl rfl (any_of HT_.out (by kernel_rfl)) (fun _ _ _ h => h) (Or.inl ⟨by rfl, ?_⟩) ?_ ?_
       rotate_left
       ·intro w'
        go_simp
        with_reducible rfl
       rotate_left
       ·simp only [Act.put, sia_, scz_, scs_, i64_w, i32_w]
        rfl
       refine pure_ (i := 6) (N := some 24) (v := ?_) (a' := ?_) #[true, true, true, true, true, true, true, false, true, false, false] rfl rfl (any_of HT_.out (by kernel_rfl)) (fun _ _ _ h => h) (Or.inl ⟨by rfl, ?_⟩) ?_ ?_
       rotate_left
       ·intro w'
        go_simp
        with_reducible rfl
       rotate_left
       ·simp only [Act.put, sia_, scz_, scs_, i64_w, i32_w]
        rfl
       refine pure_ (i := 7) (N := some 25) (v := ?_) (a' := ?_) #[true, true, true, true, true, true, true, true, true, false, false] rfl rfl (any_of HT_.out (by kernel_rfl)) (fun _ _ _ h => h) (Or.inl ⟨by rfl, ?_⟩) ?_ ?_
       rotate_left
       ·intro w'
        go_simp
        with_reducible rfl
       rotate_left
       ·simp only [Act.put, sia_, scz_, scs_, i64_w, i32_w]
        rfl
       exact norm_ (by simp only [putAll, Act.put, sia_, scz_, scs_]) (hCont (v321, gb324) _ ⟨hHeld, (rp_ HO322), (bp_ BK313), (bp_ BK314), (bp_ BK324), GW324.out, GE324.out, NB313_324.out, NB324_313.out, NB314_324.out, NB324_314.out, (bw_ HB)⟩)
     rintro ⟨v321, gb324⟩ w17 ⟨hS_, h0_, h1_, h2_, h3_, h4_, h5_, h6_, h7_, h8_, h9_, h10_⟩
     have n0_ : Aside0 (Kd.R k76 76 w17 w.heap.size (fun _ => True) v321 t320) := ⟨h0_⟩
     have n1_ : Aside0 (w17.heap[gb313]? = some (.cells #[.slice A0_0 l0_0.length c0_0] 31 (0, 0))) := ⟨h1_⟩
     have n2_ : Aside0 (w17.heap[gb314]? = some (.cells #[.slice none 0 0] 31 (0, 0))) := ⟨h2_⟩
     have n3_ : Aside0 (w17.heap[gb324]? = some (.cells #[.slice none 0 0] 31 (0, 0))) := ⟨h3_⟩
     have n4_ : Aside0 (w.heap.size ≤ gb324) := ⟨h4_⟩
     have n5_ : Aside0 (w.heap.size ≤ gb324) := ⟨h5_⟩
     have n6_ : Aside0 (gb313 ≠ gb324) := ⟨h6_⟩
     have n7_ : Aside0 (gb324 ≠ gb313) := ⟨h7_⟩
     have n8_ : Aside0 (gb314 ≠ gb324) := ⟨h8_⟩
     have n9_ : Aside0 (gb324 ≠ gb314) := ⟨h9_⟩
     have n10_ : Aside0 (Below w.heap.size w w17) := ⟨h10_⟩
     clear BK313; clear BK314; clear HB; clear h0_ h1_ h2_ h3_ h4_ h5_ h6_ h7_ h8_ h9_ h10_; have HO322 := n0_; have BK313 := n1_; have BK314 := n2_; have BK324 := n3_; have GW324 := n4_; have GE324 := n5_; have NB313_324 := n6_; have NB324_313 := n7_; have NB314_324 := n8_; have NB324_314 := n9_; have HB := n10_; clear n0_ n1_ n2_ n3_ n4_ n5_ n6_ n7_ n8_ n9_ n10_
     have hHeld : w17.cell? ⟨gb313, 0, none⟩ = some (.slice A0_0 l0_0.length c0_0) := hS_
     obtain ⟨Ao18, co18, eo18⟩ := Kd.R_slice HO322.out
     (first | subst eo18 | (injection eo18 with f1_ f2_ f3_; have f4_ := f1_.symm; have f5_ := f3_.symm; clear f1_ f2_ f3_; subst f4_; subst f5_))
     refine norm_ (a' := ?_) ?_ ?_
     rotate_left
     ·simp only [putAll, Act.put, sia_, scz_, scs_]
      rfl
     refine one_ (i := 9) (N := none) #[true, true, true, true, true, true, true, true, true, true, false] rfl rfl (one_of HT_.out (by kernel_rfl)) (by decide) (fun K hK => ?_)
     have hs19 : w17.cell? ⟨gb324, 0, none⟩ = some (.slice none 0 0) := bc_ BK324 0
     have hfs19 := blk_frozen BK324.out 0
     have hns19_0 := NB313_324.out
     have hns19_1 := NB314_324.out
     have hms19_0 := NB324_313.out
     have hms19_1 := NB324_314.out
     refine skip_ (w1 := ?_) (by rfl) rfl ?_ ?_
     rotate_left
     ·go_simp
      rfl
     refine hK.out _ _ (((cell_far (p := ⟨gb324, _, none⟩) NB313_324.out _).trans (hHeld))) (fun hHeld => ?_)
     clear hK K
     refine pure_ (i := 10) (N := some 11) (v := ?_) (a' := ?_) #[true, true, true, true, true, true, true, true, true, true, true] rfl rfl (any_of HT_.out (by kernel_rfl)) (fun _ _ _ h => h) (Or.inl ⟨by rfl, ?_⟩) ?_ ?_
     rotate_left
     ·intro w'
      go_simp
      with_reducible rfl
     rotate_left
     ·simp only [Act.put, sia_, scz_, scs_, i64_w, i32_w]
      rfl
     refine done_ (done_of HT_.out (by kernel_rfl)) ?_
     have hnb20 := NB314_313.out
     have hnc20 := NB313_314.out
     have hnb21 := NB314_324.out
     have hnc21 := NB324_314.out
     have hcz22_0 : w17.cell? ⟨gb314, 0, none⟩ = some (.slice none 0 0) := bc_ BK314 0
     have hfz22_0 := blk_frozen BK314.out 0
     try go_wp2
     refine bodyPost_ret (results_ct rfl _ _ gb314 31 #[.slice none 0 0] (0, 0) _ rfl bu_ Try.underlying31 rfl (by kernel_rfl)) rfl ?_
     exact ⟨_, er_, by first | exact Kd.R_nil _ _ _ _ _ | exact Kd.N_nil _ _ _ _ _ | exact Kd.V_nil _ _ _ _ _ | exact Kd.Q_nil _ _ _ _ _ | exact Kd.S_nil _ _ _ _ _, bw_ HB⟩
    ·rw [if_neg c10] at H
     have c10b0 : decide (t323 < a2) = false := decide_eq_false c10
     clear c10
     replace H := Option.bind_eq_some_iff.mp H
     obtain ⟨⟨t325, t328⟩, A230, H⟩ := H
     replace H : (some (t325, t328)) = some (r1, r2) := H
     have A23 := Aside0.mk A230
     clear A230
     simp only [Option.some.injEq, Prod.mk.injEq] at H
     obtain ⟨rfl, rfl⟩ := H
     go_enter Try.func28, Try.ntmps28
     try go_wp2_with (first | ((with_reducible refine gate_dst (N := 4) rfl ?_); refine bx_ (N := 4) (cs := #[.slice A0_0 l0_0.length c0_0]) (t := 31) ?_; intro gb313 hg w24 hbox hb; have BK313 := mk_ (hbox); have GW313 : Aside0 (w.heap.size ≤ gb313) := bz_ hg; have GE313 := GW313; replace HB := bs_ HB hb; clear hb hbox hg) | ((with_reducible refine gate_dst (N := 8) rfl ?_); refine bx_ (N := 8) (cs := #[.slice none 0 0]) (t := 31) ?_; intro gb314 hg w25 hbox hb; have BK314 := mk_ (hbox); have GW314 : Aside0 (w.heap.size ≤ gb314) := bz_ hg; have GE314 := GW314; have NB313_314 := bl_ BK313 hg; have NB314_313 := bg_ BK313 hg; replace BK313 := bb_ BK313 hb; replace HB := bs_ HB hb; clear hb hbox hg) | ((with_reducible refine gate_callee (f := 61) rfl ?_); refine goesL_ (some 15) rfl rfl Try.func61 (by kernel_rfl) rfl #[.int .i64 a2, .int .i64 0, .int .i64 (l1.length : Int)] rfl ga_ ?_; (with_reducible refine (spec_l01In.calls a2 0 (l1.length : Int) true _ A5.out).mono ?_); rintro e w' ⟨rfl, ⟨nd, rfl⟩⟩; refine ⟨_, rfl, ?_⟩; (try (rw [drewN_self w25]; generalize hq_ : World.drewN w25 _ = w25; replace BK313 : Aside0 (w25.heap[gb313]? = some (.cells #[.slice A0_0 l0_0.length c0_0] 31 (0, 0))) := ⟨by rw [← hq_]; exact (bp_ BK313)⟩; replace BK314 : Aside0 (w25.heap[gb314]? = some (.cells #[.slice none 0 0] 31 (0, 0))) := ⟨by rw [← hq_]; exact (bp_ BK314)⟩; replace HB : Aside0 (Below w.heap.size w w25) := ⟨by rw [← hq_]; exact (bw_ HB)⟩; clear hq_))))
     have n0_ := mk_ (blk_drew BK313.out)
     have n1_ := mk_ (blk_drew BK314.out)
     have n2_ := mk_ (below_drew1 HB.out)
     clear BK313; clear BK314; clear HB; have BK313 := n0_; have BK314 := n1_; have HB := n2_; clear n0_ n1_ n2_
     have q27 : (a2 : Int) ≤ ((l1.length : Int) : Int) := od_
     obtain ⟨i027, hi027, _, hsz27, _⟩ := info_parts info35
     have hroom27 : l1.length ≤ c1 := HC1.out
     have hC27 : Kd.C k35 _ A1 l1.length l1 := HR1.out
     have hcut27 := cut_to (P := Try.prog) 44 35 .i64 Try.underlying44 hi027 A1 l1.length c1 a2 (od_) q27 hroom27
     have hr27 := Kd.C_take (m := (a2 : Int).toNat) hC27 (by omega)
     have hy27 : y316.length = (a2 : Int).toNat := (by rw [Ny316.out, List.length_take]; omega)
     rw [← Ny316.out] at hr27
     rw [← hy27] at hcut27
     have HR319 := Aside0.mk hr27
     have HC319 := mk_ (show y316.length ≤ c1 from by omega)
     clear hr27 hC27 hroom27 hi027 hsz27
     have KY27 := Aside0.mk hy27
     clear hy27
     replace q27 := eq_true q27
     refine start_ (n := 11) (S := fun w' => w'.cell? ⟨gb313, 0, none⟩ = some (.slice A0_0 l0_0.length c0_0)) (ds := []) #[false, false, false, false, false, false, false, false, false, false, false] (by kernel_rfl) rfl rfl (bc_ BK313 0) (fun hHeld => ?_); refine with_tabW spec_CutActs.tab3 spec_CutActs.bits3 (fun HT_ HW_ => ?_)
     generalize w25.drew = w26 at BK313 BK314 HB HR319 hHeld ⊢
     refine pure_ (i := 1) (N := some 20) (v := ?_) (a' := ?_) #[false, true, false, false, false, false, false, false, false, false, false] rfl rfl (any_of HT_.out (by kernel_rfl)) (fun _ _ _ h => h) (Or.inl ⟨by rfl, ?_⟩) ?_ ?_
     rotate_left
     ·intro w'
      go_simp
      with_reducible rfl
     rotate_left
     ·simp only [Act.put, sia_, scz_, scs_, i64_w, i32_w]
      rfl
     refine pure_ (i := 2) (N := some 21) (v := ?_) (a' := ?_) #[false, true, true, false, false, false, false, false, false, false, false] rfl rfl (any_of HT_.out (by kernel_rfl)) (fun _ _ _ h => h) (Or.inl ⟨by rfl, ?_⟩) ?_ ?_
     rotate_left
     ·intro w'
      go_simp
      with_reducible rfl
     rotate_left
     ·simp only [Act.put, sia_, scz_, scs_, i64_w, i32_w]
      rfl
     refine pure_ (i := 3) (N := some 22) (v := ?_) (a' := ?_) #[false, true, true, true, false, false, false, false, false, false, false] rfl rfl (any_of HT_.out (by kernel_rfl)) (fun _ _ _ h => h) (Or.inl ⟨by rfl, ?_⟩) ?_ ?_
     rotate_left
     ·intro w'
      go_simp
      with_reducible rfl
     rotate_left
     ·simp only [Act.put, sia_, scz_, scs_, i64_w, i32_w]
      rfl
     refine take_ (i := 0) (N := some 19) (v := ?_) (a' := ?_) #[true, true, true, true, false, false, false, false, false, false, false] rfl rfl (take_ofW HT_.out HW_.out (by kernel_rfl)) (fun _ _ _ h => h) (Or.inl ⟨by rfl, ?_⟩) hHeld ?_ ?_
     rotate_left
     ·intro w' s0
      go_simp
      with_reducible rfl
     rotate_left
     ·simp only [Act.put, sia_, scz_, scs_, i64_w, i32_w]
      rfl
     refine join_ (σ := Value × Nat) 2 #[true, true, true, true, true, true, true, true, true, false, false] (fun s_ => [(23, .tuple #[.agg #[s_.1], .int .i64 t323]), (10, .pointer (some ⟨s_.2, 0, none⟩)), (18, .tuple #[.agg #[s_.1], .int .i64 t323]), (24, .agg #[s_.1]), (25, .int .i64 t323)]) (fun s_ w' => (w'.cell? ⟨gb313, 0, none⟩ = some (.slice A0_0 l0_0.length c0_0)) ∧ (Kd.R k76 76 w' w.heap.size (fun _ => True) s_.1 t320) ∧ (w'.heap[gb313]? = some (.cells #[.slice A0_0 l0_0.length c0_0] 31 (0, 0))) ∧ (w'.heap[gb314]? = some (.cells #[.slice none 0 0] 31 (0, 0))) ∧ (w'.heap[s_.2]? = some (.cells #[.slice none 0 0] 31 (0, 0))) ∧ (w.heap.size ≤ s_.2) ∧ (w.heap.size ≤ s_.2) ∧ (gb313 ≠ s_.2) ∧ (s_.2 ≠ gb313) ∧ (gb314 ≠ s_.2) ∧ (s_.2 ≠ gb314) ∧ (Below w.heap.size w w')) ?_ ?_
     rotate_left
     ·intro hCont
      refine two_ (i := 4) (j := 8) (Ni := some 23) (Nj := some 10) #[true, true, true, true, true, false, false, false, false, false, false] #[true, true, true, true, false, false, false, false, true, false, false] rfl rfl rfl rfl (two_of HT_.out (by kernel_rfl)) (by decide) (by decide) (fun K hK => ?_) (fun K hK => ?_)
      ·skip
       refine goes_ Try.func18 (by kernel_rfl) rfl #[.agg #[.slice A0_0 l0_0.length c0_0], .slice A1 y316.length c1] (by rfl) rfl rfl ga_ ?_
       with_reducible refine (spec_DoActs.calls k _ _ l0_0 _ _ y316 t320 t323 _ ?side1 ?side2 ?side3 ?side4 A9.out).mono ?_
       (case side1 => repeat (first | exact (Kd.C_below HR0_0.out HB.out) | (with_reducible refine Kd.C_alloc ?_ _) | (with_reducible refine Kd.C_drewN ?_ _) | (with_reducible refine Kd.C_drew ?_)))
       (case side2 => exact HC0_0.out)
       (case side3 => repeat (first | exact (Kd.C_below HR319.out HB.out) | (with_reducible refine Kd.C_alloc ?_ _) | (with_reducible refine Kd.C_drewN ?_ _) | (with_reducible refine Kd.C_drew ?_)))
       (case side4 => exact HC319.out)
       rintro e w28 ⟨v321, rfl, ho0, hb⟩
       refine ⟨_, rfl, ?_⟩
       have n0_ := mk_ (Kd.R_lower ho0 (below_size (bw_ HB)))
       have n1_ := bb_ BK313 hb; have n2_ := bb_ BK314 hb
       have n3_ := bs_ HB hb
       clear BK313; clear BK314; clear HB; have HO322 := n0_; have BK313 := n1_; have BK314 := n2_; have HB := n3_; clear n0_ n1_ n2_ n3_; (try clear hb); (try clear hb2); (try clear hk); (try clear hi); (try clear ho0)
       refine hK.out _ _ (bc_ BK313 0) (fun hHeld => ?_)
       clear hK K
       refine norm_ (a' := ?_) ?_ ?_
       rotate_left
       ·show Act.put _ (some 23) _ = _
        simp only [Act.put, sia_, scz_, scs_, i64_w, i32_w]
        rfl
       refine pure_ (i := 5) (N := some 18) (v := ?_) (a' := ?_) #[true, true, true, true, true, true, false, false, false, false, false] rfl rfl (any_of HT_.out (by kernel_rfl)) (fun _ _ _ h => h) (Or.inl ⟨by rfl, ?_⟩) ?_ ?_
       rotate_left
       ·intro w'
        go_simp
        with_reducible rfl
       rotate_left
       ·simp only [Act.put, sia_, scz_, scs_, i64_w, i32_w]
        rfl
       refine pure_ (i := 6) (N := some 24) (v := ?_) (a' := ?_) #[true, true, true, true, true, true, true, false, false, false, false] rfl rfl (any_of HT_.out (by kernel_rfl)) (fun _ _ _ h => h) (Or.inl ⟨by rfl, ?_⟩) ?_ ?_
       rotate_left
       ·intro w'
        go_simp
        with_reducible rfl
       rotate_left
       ·simp only [Act.put, sia_, scz_, scs_, i64_w, i32_w]
        rfl
       refine pure_ (i := 7) (N := some 25) (v := ?_) (a' := ?_) #[true, true, true, true, true, true, true, true, false, false, false] rfl rfl (any_of HT_.out (by kernel_rfl)) (fun _ _ _ h => h) (Or.inl ⟨by rfl, ?_⟩) ?_ ?_
       rotate_left
       ·intro w'
        go_simp
        with_reducible rfl
       rotate_left
       ·simp only [Act.put, sia_, scz_, scs_, i64_w, i32_w]
        rfl
       refine one_ (i := 8) (N := some 10) #[true, true, true, true, true, true, true, true, true, false, false] rfl rfl (one_of HT_.out (by kernel_rfl)) (by decide) (fun K hK => ?_)
       refine box_step ?hg (N := 10) ?hd (cs := #[.slice none 0 0]) (t := 31) ?hr ?_; (case hd => rfl); (case hg => rfl); (case hr => first | (go_simp; done) | (go_simp; rfl))
       intro gb324 hg w29 hbox hb
       have n0_ := rb_ HO322 hb
       have n1_ := bb_ BK313 hb; have n2_ := bb_ BK314 hb
       have n3_ := bs_ HB hb
       have n4_ := mk_ (hbox)
       have n5_ : Aside0 (w.heap.size ≤ gb324) := bz_ hg
       have n6_ : Aside0 (w.heap.size ≤ gb324) := bz_ hg
       have n7_ : Aside0 (gb313 ≠ gb324) := bl_ BK313 hg
       have n8_ : Aside0 (gb324 ≠ gb313) := bg_ BK313 hg
       have n9_ : Aside0 (gb314 ≠ gb324) := bl_ BK314 hg
       have n10_ : Aside0 (gb324 ≠ gb314) := bg_ BK314 hg
       clear HO322; clear BK313; clear BK314; clear HB; have HO322 := n0_; have BK313 := n1_; have BK314 := n2_; have HB := n3_; have BK324 := n4_; have GW324 := n5_; have GE324 := n6_; have NB313_324 := n7_; have NB324_313 := n8_; have NB314_324 := n9_; have NB324_314 := n10_; clear n0_ n1_ n2_ n3_ n4_ n5_ n6_ n7_ n8_ n9_ n10_; clear hb hbox hg
       refine hK.out _ _ (bc_ BK313 0) (fun hHeld => ?_)
       clear hK K
       refine norm_ (a' := ?_) ?_ ?_
       rotate_left
       ·show Act.put _ (some 10) _ = _
        simp only [Act.put, sia_, scz_, scs_, i64_w, i32_w]
        rfl
       exact norm_ (by simp only [putAll, Act.put, sia_, scz_, scs_]) (hCont (v321, gb324) _ ⟨hHeld, (rp_ HO322), (bp_ BK313), (bp_ BK314), (bp_ BK324), GW324.out, GE324.out, NB313_324.out, NB324_313.out, NB314_324.out, NB324_314.out, (bw_ HB)⟩)
      ·skip
       refine box_step ?hg (N := 10) ?hd (cs := #[.slice none 0 0]) (t := 31) ?hr ?_; (case hd => rfl); (case hg => rfl); (case hr => first | (go_simp; done) | (go_simp; rfl))
       intro gb324 hg w28 hbox hb
       have n0_ := bb_ BK313 hb; have n1_ := bb_ BK314 hb
       have n2_ := bs_ HB hb
       have n3_ := mk_ (hbox)
       have n4_ : Aside0 (w.heap.size ≤ gb324) := bz_ hg
       have n5_ : Aside0 (w.heap.size ≤ gb324) := bz_ hg
       have n6_ : Aside0 (gb313 ≠ gb324) := bl_ BK313 hg
       have n7_ : Aside0 (gb324 ≠ gb313) := bg_ BK313 hg
       have n8_ : Aside0 (gb314 ≠ gb324) := bl_ BK314 hg
       have n9_ : Aside0 (gb324 ≠ gb314) := bg_ BK314 hg
       clear BK313; clear BK314; clear HB; have BK313 := n0_; have BK314 := n1_; have HB := n2_; have BK324 := n3_; have GW324 := n4_; have GE324 := n5_; have NB313_324 := n6_; have NB324_313 := n7_; have NB314_324 := n8_; have NB324_314 := n9_; clear n0_ n1_ n2_ n3_ n4_ n5_ n6_ n7_ n8_ n9_; clear hb hbox hg
       refine hK.out _ _ (bc_ BK313 0) (fun hHeld => ?_)
       clear hK K
       refine norm_ (a' := ?_) ?_ ?_
       rotate_left
       ·show Act.put _ (some 10) _ = _
        simp only [Act.put, sia_, scz_, scs_, i64_w, i32_w]
        rfl
       refine one_ (i := 4) (N := some 23) #[true, true, true, true, true, false, false, false, true, false, false] rfl rfl (one_of HT_.out (by kernel_rfl)) (by decide) (fun K hK => ?_)
       refine goes_ Try.func18 (by kernel_rfl) rfl #[.agg #[.slice A0_0 l0_0.length c0_0], .slice A1 y316.length c1] (by rfl) rfl rfl ga_ ?_
       with_reducible refine (spec_DoActs.calls k _ _ l0_0 _ _ y316 t320 t323 _ ?side1 ?side2 ?side3 ?side4 A9.out).mono ?_
       (case side1 => repeat (first | exact (Kd.C_below HR0_0.out HB.out) | (with_reducible refine Kd.C_alloc ?_ _) | (with_reducible refine Kd.C_drewN ?_ _) | (with_reducible refine Kd.C_drew ?_)))
       (case side2 => exact HC0_0.out)
       (case side3 => repeat (first | exact (Kd.C_below HR319.out HB.out) | (with_reducible refine Kd.C_alloc ?_ _) | (with_reducible refine Kd.C_drewN ?_ _) | (with_reducible refine Kd.C_drew ?_)))
       (case side4 => exact HC319.out)
       rintro e w29 ⟨v321, rfl, ho0, hb⟩
       refine ⟨_, rfl, ?_⟩
       have n0_ := mk_ (Kd.R_lower ho0 (below_size (bw_ HB)))
       have n1_ := bb_ BK313 hb; have n2_ := bb_ BK314 hb; have n3_ := bb_ BK324 hb
       have n4_ := bs_ HB hb
       clear BK313; clear BK314; clear BK324; clear HB; have HO322 := n0_; have BK313 := n1_; have BK314 := n2_; have BK324 := n3_; have HB := n4_; clear n0_ n1_ n2_ n3_ n4_; (try clear hb); (try clear hb2); (try clear hk); (try clear hi); (try clear ho0)
       refine hK.out _ _ (bc_ BK313 0) (fun hHeld => ?_)
       clear hK K
       refine norm_ (a' := ?_) ?_ ?_
       rotate_left
       ·show Act.put _ (some 23) _ = _
        simp only [Act.put, sia_, scz_, scs_, i64_w, i32_w]
        rfl
       refine pure_ (i := 5) (N := some 18) (v := ?_) (a' := ?_) #[true, true, true, true, true, true, false, false, true, false, false] rfl rfl (any_of HT_.out (by kernel_rfl)) (fun _ _ _ h => h) (Or.inl ⟨by rfl, ?_⟩) ?_ ?_
       rotate_left
       ·intro w'
        go_simp
        with_reducible rfl
       rotate_left
       ·simp only [Act.put, sia_, scz_, scs_, i64_w, i32_w]
        rfl
       refine pure_ (i := 6) (N := some 24) (v := ?_) (a' := ?_) #[true, true, true, true, true, true, true, false, true, false, false] rfl rfl (any_of HT_.out (by kernel_rfl)) (fun _ _ _ h => h) (Or.inl ⟨by rfl, ?_⟩) ?_ ?_
       rotate_left
       ·intro w'
        go_simp
        with_reducible rfl
       rotate_left
       ·simp only [Act.put, sia_, scz_, scs_, i64_w, i32_w]
        rfl
       refine pure_ (i := 7) (N := some 25) (v := ?_) (a' := ?_) #[true, true, true, true, true, true, true, true, true, false, false] rfl rfl (any_of HT_.out (by kernel_rfl)) (fun _ _ _ h => h) (Or.inl ⟨by rfl, ?_⟩) ?_ ?_
       rotate_left
       ·intro w'
        go_simp
        with_reducible rfl
       rotate_left
       ·simp only [Act.put, sia_, scz_, scs_, i64_w, i32_w]
        rfl
       exact norm_ (by simp only [putAll, Act.put, sia_, scz_, scs_]) (hCont (v321, gb324) _ ⟨hHeld, (rp_ HO322), (bp_ BK313), (bp_ BK314), (bp_ BK324), GW324.out, GE324.out, NB313_324.out, NB324_313.out, NB314_324.out, NB324_314.out, (bw_ HB)⟩)
     rintro ⟨v321, gb324⟩ w30 ⟨hS_, h0_, h1_, h2_, h3_, h4_, h5_, h6_, h7_, h8_, h9_, h10_⟩
     have n0_ : Aside0 (Kd.R k76 76 w30 w.heap.size (fun _ => True) v321 t320) := ⟨h0_⟩
     have n1_ : Aside0 (w30.heap[gb313]? = some (.cells #[.slice A0_0 l0_0.length c0_0] 31 (0, 0))) := ⟨h1_⟩
     have n2_ : Aside0 (w30.heap[gb314]? = some (.cells #[.slice none 0 0] 31 (0, 0))) := ⟨h2_⟩
     have n3_ : Aside0 (w30.heap[gb324]? = some (.cells #[.slice none 0 0] 31 (0, 0))) := ⟨h3_⟩
     have n4_ : Aside0 (w.heap.size ≤ gb324) := ⟨h4_⟩
     have n5_ : Aside0 (w.heap.size ≤ gb324) := ⟨h5_⟩
     have n6_ : Aside0 (gb313 ≠ gb324) := ⟨h6_⟩
     have n7_ : Aside0 (gb324 ≠ gb313) := ⟨h7_⟩
     have n8_ : Aside0 (gb314 ≠ gb324) := ⟨h8_⟩
     have n9_ : Aside0 (gb324 ≠ gb314) := ⟨h9_⟩
     have n10_ : Aside0 (Below w.heap.size w w30) := ⟨h10_⟩
     clear BK313; clear BK314; clear HB; clear h0_ h1_ h2_ h3_ h4_ h5_ h6_ h7_ h8_ h9_ h10_; have HO322 := n0_; have BK313 := n1_; have BK314 := n2_; have BK324 := n3_; have GW324 := n4_; have GE324 := n5_; have NB313_324 := n6_; have NB324_313 := n7_; have NB314_324 := n8_; have NB324_314 := n9_; have HB := n10_; clear n0_ n1_ n2_ n3_ n4_ n5_ n6_ n7_ n8_ n9_ n10_
     have hHeld : w30.cell? ⟨gb313, 0, none⟩ = some (.slice A0_0 l0_0.length c0_0) := hS_
     obtain ⟨Ao31, co31, eo31⟩ := Kd.R_slice HO322.out
     (first | subst eo31 | (injection eo31 with f1_ f2_ f3_; have f4_ := f1_.symm; have f5_ := f3_.symm; clear f1_ f2_ f3_; subst f4_; subst f5_))
     refine norm_ (a' := ?_) ?_ ?_
     rotate_left
     ·simp only [putAll, Act.put, sia_, scz_, scs_]
      rfl
     refine one_ (i := 9) (N := none) #[true, true, true, true, true, true, true, true, true, true, false] rfl rfl (one_of HT_.out (by kernel_rfl)) (by decide) (fun K hK => ?_)
     have hs32 : w30.cell? ⟨gb324, 0, none⟩ = some (.slice none 0 0) := bc_ BK324 0
     have hfs32 := blk_frozen BK324.out 0
     have hns32_0 := NB313_324.out
     have hns32_1 := NB314_324.out
     have hms32_0 := NB324_313.out
     have hms32_1 := NB324_314.out
     refine skip_ (w1 := ?_) (by rfl) rfl ?_ ?_
     rotate_left
     ·go_simp
      rfl
     refine hK.out _ _ (((cell_far (p := ⟨gb324, _, none⟩) NB313_324.out _).trans (hHeld))) (fun hHeld => ?_)
     clear hK K
     refine pure_ (i := 10) (N := some 11) (v := ?_) (a' := ?_) #[true, true, true, true, true, true, true, true, true, true, true] rfl rfl (any_of HT_.out (by kernel_rfl)) (fun _ _ _ h => h) (Or.inl ⟨by rfl, ?_⟩) ?_ ?_
     rotate_left
     ·intro w'
      go_simp
      with_reducible rfl
     rotate_left
     ·simp only [Act.put, sia_, scz_, scs_, i64_w, i32_w]
      rfl
     refine done_ (done_of HT_.out (by kernel_rfl)) ?_
     have hnb33 := NB324_313.out
     have hnc33 := NB313_324.out
     have hnb34 := NB324_314.out
     have hnc34 := NB314_324.out
     have hcz35_0 : w30.cell? ⟨gb324, 0, none⟩ = some (.slice none 0 0) := bc_ BK324 0
     have hfz35_0 := blk_frozen BK324.out 0
     try go_wp2_with (first | ((with_reducible refine gate_callee (f := 62) rfl ?_); refine goesL_ (some 32) rfl rfl Try.func62 (by kernel_rfl) rfl #[.agg #[.slice Ao31 t320.length co31], .slice A3 l3.length c3] rfl ga_ ?_; (with_reducible refine (spec_LoseDisk.calls k _ _ t320 _ _ l3 t325 t328 _ ?side1 ?side2 ?side3 ?side4 A23.out).mono ?_); (case side1 => refine (Kd.R_reads' (e := 76) (base := w.heap.size) (ok := fun k_ => True) (n := t320.length) (c := co31) ?_).2.2; exact (by (with_reducible repeat (first | apply Kd.R_alloc | apply Kd.R_drewN | apply Kd.R_drew)); exact (Kd.R_mono (Kd.R_far (p := ⟨gb324, 0, none⟩) (Kd.R_types HO322.out BK324.out (by decide)) (fun _ hk => hk.2) (.slice Ao31 t320.length co31)) (fun _ h_ => h_.1)))); (case side2 => exact (Kd.R_reads' HO322.out).2.1); (case side3 => exact Kd.C_below HR3.out (bw_ HB)); (case side4 => exact HC3.out); rintro e w36 ⟨v326, rfl, ho0, hb⟩; refine ⟨_, rfl, ?_⟩; have HO327 := mk_ (Kd.R_lower (Kd.R_new' ho0 (Kd.R_lt (by (with_reducible repeat (first | apply Kd.R_alloc | apply Kd.R_drewN | apply Kd.R_drew)); exact (Kd.R_mono (Kd.R_far (p := ⟨gb324, 0, none⟩) (Kd.R_types HO322.out BK324.out (by decide)) (fun _ hk => hk.2) (.slice Ao31 t320.length co31)) (fun _ h_ => h_.1))))) (below_size (bw_ HB))); replace HO322 := mk_ (Kd.R_elder' (by (with_reducible repeat (first | apply Kd.R_alloc | apply Kd.R_drewN | apply Kd.R_drew)); exact (Kd.R_mono (Kd.R_far (p := ⟨gb324, 0, none⟩) (Kd.R_types HO322.out BK324.out (by decide)) (fun _ hk => hk.2) (.slice Ao31 t320.length co31)) (fun _ h_ => h_.1))) (Kd.R_base ho0) hb); replace BK313 := mk_ (blk_below (g := gb313) (o := .cells #[.slice A0_0 l0_0.length c0_0] 31 (0, 0)) bf_ hb); replace BK314 := mk_ (blk_below (g := gb314) (o := .cells #[.slice none 0 0] 31 (0, 0)) bf_ hb); replace BK324 := mk_ (blk_below (g := gb324) (o := .cells #[.slice Ao31 t320.length co31] 31 (0, 0)) bu_ hb); replace HB := bs_ HB hb; (try clear hb); (try clear hk); (try clear ho0); obtain ⟨Ao37, co37, eo37⟩ := Kd.R_slice HO327.out; subst eo37; have hnb38 := NB314_313.out; have hnc38 := NB313_314.out; obtain ⟨hcz39_0, hfz39_0⟩ := b1_ BK314))
     refine bodyPost_ret (results_ct rfl _ _ gb314 31 #[.slice Ao37 t325.length co37] (0, 0) _ rfl bu_ Try.underlying31 rfl (by kernel_rfl)) rfl ?_
     exact ⟨_, er_, by (with_reducible repeat (first | apply Kd.R_alloc | apply Kd.R_drewN | apply Kd.R_drew)); exact Kd.R_mono (Kd.R_far (p := ⟨gb314, 0, none⟩) (Kd.R_types HO327.out BK314.out (by decide)) (fun _ hk => hk.2) (.slice Ao37 t325.length co37)) (fun _ hk => trivial), bw_ HB⟩
   ·rw [if_neg c8] at H
    exact absurd H (by simp)
  ·rw [if_neg c7] at H
   exact absurd H (by simp)
 ·replace c6 := Bool.eq_false_iff.mpr c6
  subst c6
  have H1 : (some (([] : List (S76)), false)) = some (r1, r2) := by rw [if_neg (show ¬ (false = true) by decide)] at H; exact H
  clear H
  have H := H1
  clear H1
  simp only [Option.some.injEq, Prod.mk.injEq] at H
  obtain ⟨rfl, rfl⟩ := H
  go_enter Try.func28, Try.ntmps28
  go_wp2_with (first | ((with_reducible refine gate_dst (N := 4) rfl ?_); refine bx_ (N := 4) (cs := #[.slice A0_0 l0_0.length c0_0]) (t := 31) ?_; intro gb313 hg w40 hbox hb; have BK313 := mk_ (hbox); have GW313 : Aside0 (w.heap.size ≤ gb313) := bz_ hg; have GE313 := GW313; replace HB := bs_ HB hb; clear hb hbox hg) | ((with_reducible refine gate_dst (N := 8) rfl ?_); refine bx_ (N := 8) (cs := #[.slice none 0 0]) (t := 31) ?_; intro gb314 hg w41 hbox hb; have BK314 := mk_ (hbox); have GW314 : Aside0 (w.heap.size ≤ gb314) := bz_ hg; have GE314 := GW314; have NB313_314 := bl_ BK313 hg; have NB314_313 := bg_ BK313 hg; replace BK313 := bb_ BK313 hb; replace HB := bs_ HB hb; clear hb hbox hg) | ((with_reducible refine gate_callee (f := 61) rfl ?_); refine goesL_ (some 15) rfl rfl Try.func61 (by kernel_rfl) rfl #[.int .i64 a2, .int .i64 0, .int .i64 (l1.length : Int)] rfl ga_ ?_; (with_reducible refine (spec_l01In.calls a2 0 (l1.length : Int) false _ A5.out).mono ?_); rintro e w' ⟨rfl, ⟨nd, rfl⟩⟩; refine ⟨_, rfl, ?_⟩; (try (rw [drewN_self w41]; generalize hq_ : World.drewN w41 _ = w41; replace BK313 : Aside0 (w41.heap[gb313]? = some (.cells #[.slice A0_0 l0_0.length c0_0] 31 (0, 0))) := ⟨by rw [← hq_]; exact (bp_ BK313)⟩; replace BK314 : Aside0 (w41.heap[gb314]? = some (.cells #[.slice none 0 0] 31 (0, 0))) := ⟨by rw [← hq_]; exact (bp_ BK314)⟩; replace HB : Aside0 (Below w.heap.size w w41) := ⟨by rw [← hq_]; exact (bw_ HB)⟩; clear hq_)); have hnb42 := NB314_313.out; have hnc42 := NB313_314.out; obtain ⟨hcz43_0, hfz43_0⟩ := b1_ BK314))
  refine bodyPost_ret (results_ct rfl _ _ gb314 31 #[.slice none 0 0] (0, 0) _ rfl bu_ Try.underlying31 rfl (by kernel_rfl)) rfl ?_
  exact ⟨_, er_, by first | exact Kd.R_nil _ _ _ _ _ | exact Kd.N_nil _ _ _ _ _ | exact Kd.V_nil _ _ _ _ _ | exact Kd.Q_nil _ _ _ _ _ | exact Kd.S_nil _ _ _ _ _, bw_ HB⟩

/-! ### laws_toIntS: function 34 -/
def laws_toIntS.l0 : Nat → List Int → List Int → Int → Option (List Int)
 | 0, _, _, _ => none
 | k + 1, x0, x3, x4 => if x4 < (x0.length : Int) then (if 0 ≤ x4 then (if x4 < (x3.length : Int) then (laws_toIntS.l0 k x0 (x3.set (x4 : Int).toNat (rd x0 x4)) (wrap64 (x4 + 1))) else (none)) else (none)) else (some x3)
def laws_toIntS.f (k : Nat) (l0 : List Int) : Option (List Int) := if 0 ≤ (l0.length : Int) then (if ((l0.length : Int) : Int).toNat ≤ 35184372088832 then (laws_toIntS.l0 k l0 (List.replicate ((l0.length : Int) : Int).toNat 0) 0) else (none)) else (none)
theorem laws_toIntS.mono_l : ∀ k, (∀ y0 y1 y2, LeO (laws_toIntS.l0 k y0 y1 y2) (laws_toIntS.l0 (k + 1) y0 y1 y2))
 | 0 => fun _ _ _ r h => by simp [laws_toIntS.l0] at h
 | k + 1 => by
  have ih0 := laws_toIntS.mono_l k
  ·intro y0 y1 y2
   unfold laws_toIntS.l0
   repeat' first
   | (with_reducible exact ih0 _ _ _)
   | (with_reducible exact LeO.refl _)
   | (with_reducible refine LeO.ite ?_ ?_)
theorem laws_toIntS.mono : ∀ a0 k, LeO (laws_toIntS.f k a0) (laws_toIntS.f (k + 1) a0) := by
 intro a0 k
 have ih0 := laws_toIntS.mono_l k
 unfold laws_toIntS.f
 repeat' first
   | (with_reducible exact ih0 _ _ _)
   | (with_reducible exact LeO.refl _)
   | (with_reducible refine LeO.ite ?_ ?_)
set_option maxHeartbeats 8000000 in
set_option maxRecDepth 100000 in
theorem laws_toIntS.calls (k : Nat) (A0 : Option Addr) (c0 : Nat) (l0 : List Int) (r : List Int) (w : World) (hr0 : Kd.C (Kd.int .i64) w A0 l0.length l0) (hc0 : l0.length ≤ c0) (h : laws_toIntS.f k l0 = some r) :
  Calls Try.prog 34 #[.slice A0 l0.length c0] w fun e w' => ∃ v0_ : Value, e = .returned (v0_) ∧ Kd.R (Kd.int .i64) 3 w' w.heap.size (fun _ => True) v0_ r ∧ Below w.heap.size w w' := by
 have HR0 := Aside0.mk hr0
 have HC0 := Aside0.mk hc0
 clear hr0 hc0
 have HB := mk_ (Below.refl w.heap.size w)
 have H : (if 0 ≤ (l0.length : Int) then (if ((l0.length : Int) : Int).toNat ≤ 35184372088832 then (laws_toIntS.l0 k l0 (List.replicate ((l0.length : Int) : Int).toNat 0) 0) else (none)) else (none)) = some r := h
 clear h
 by_cases c2 : 0 ≤ (l0.length : Int)
 ·rw [if_pos c2] at H
  have c2b0 := eq_true c2
  have c2b1 : decide (0 ≤ (l0.length : Int)) = true := decide_eq_true c2
  clear c2
  by_cases c3 : ((l0.length : Int) : Int).toNat ≤ 35184372088832
  ·rw [if_pos c3] at H
   have c3b0 := eq_true c3
   have c3b1 : decide (((l0.length : Int) : Int).toNat ≤ 35184372088832) = true := decide_eq_true c3
   clear c3
   obtain ⟨y329, hy329⟩ : ∃ y_ : List Int, y_ = (List.replicate ((l0.length : Int) : Int).toNat 0) := ⟨_, rfl⟩
   replace H : (laws_toIntS.l0 k l0 y329 0) = some r := by first | (rw [hy329]; with_reducible exact H) | (have H2_ := (Option.bind_some _ _).symm.trans H; rw [hy329]; with_reducible exact H2_) | (have H2_ := (Option.bind_some _ _).symm.trans H; with_reducible exact H2_) | with_reducible exact H | (rw [hy329]; exact H) | exact H
   have Ny329 := Aside0.mk hy329
   clear hy329
   have H' := Aside0.mk H
   clear H
   go_enter Try.func34, Try.ntmps34
   go_wp2_with (first | ((with_reducible refine gate_dst (N := 7) rfl ?_); refine Kd.R_make (Kd.int .i64) _ 3 rfl (N := 7) rfl 51 _ _ rfl (l0.length : Int) rfl rfl Try.underlying51 (.int .i64 0) 8 info3 rfl (by decide) (by omega) 0 (ok := fun _ => True) (okp := fun _ => True) rfl (fun _ hk => hk) trivial (od_) (Nat.le_trans (Nat.mul_le_mul_right _ (od_ : (l0.length : Int).toNat ≤ 35184372088832)) (by omega)) (Below.refl _ _) (Nat.le_refl _) ?_; intro v330 w4 ho5 hb hg_ hnew_; clear hg_ hnew_; (first | rw [← Ny329.out] at ho5 | (simp only [Int.reduceToNat] at ho5; rw [← Ny329.out] at ho5)); have HO331 := mk_ (Kd.R_lower ho5 (below_size (bw_ HB))); replace HB := bs_ HB hb; clear hb ho5))
   go_loopg [4] k (fun kq v4 w' => ∃ (x3_1 : List Int) (x4_1 : Int), v4 = .int .i64 x4_1 ∧ Aside0 (laws_toIntS.l0 kq l0 x3_1 x4_1 = some r) ∧ Aside0 (kq ≤ k) ∧ Aside0 (Kd.R (Kd.int .i64) 3 w' w.heap.size (fun _ => True) v330 x3_1) ∧ Aside0 (Below w.heap.size w w'))
   case atStart => exact ⟨(y329), (0), (by first | rfl | (simp; done) | (simp [*]; done) | (simp [bne]; done)), H', ⟨Nat.le_refl _⟩, ⟨by (with_reducible repeat (first | apply Kd.R_alloc | apply Kd.R_drewN | apply Kd.R_drew)); exact HO331.out⟩, ⟨bw_ HB⟩⟩
   case round =>
    clear H'
    try clear c2
    try clear c2b0
    try clear c2b1
    try clear p2
    try clear c3
    try clear c3b0
    try clear c3b1
    obtain ⟨x3_1, x4_1, rfl, HA, HK1, HO_3, HB⟩ := hrel
    cases gk with
    | zero => exact absurd HA.out (by simp [laws_toIntS.l0])
    | succ k1 =>
     have H := HA.out
     clear HA
     simp only [laws_toIntS.l0] at H
     by_cases c6 : x4_1 < (l0.length : Int)
     ·rw [if_pos c6] at H
      have c6b0 : decide (x4_1 < (l0.length : Int)) = true := decide_eq_true c6
      clear c6
      by_cases c7 : 0 ≤ x4_1
      ·rw [if_pos c7] at H
       have c7b0 : decide (0 ≤ x4_1) = true := decide_eq_true c7
       clear c7
       by_cases c8 : x4_1 < (x3_1.length : Int)
       ·rw [if_pos c8] at H
        have c8b0 : decide (x4_1 < (x3_1.length : Int)) = true := decide_eq_true c8
        clear c8
        obtain ⟨y333, hy333⟩ : ∃ y_ : List Int, y_ = (x3_1.set (x4_1 : Int).toNat (rd l0 x4_1)) := ⟨_, rfl⟩
        replace H : (laws_toIntS.l0 k1 l0 y333 (wrap64 (x4_1 + 1))) = some r := by first | (rw [hy333]; with_reducible exact H) | (have H2_ := (Option.bind_some _ _).symm.trans H; rw [hy333]; with_reducible exact H2_) | (have H2_ := (Option.bind_some _ _).symm.trans H; with_reducible exact H2_) | with_reducible exact H | (rw [hy333]; exact H) | exact H
        have Ny333 := Aside0.mk hy333
        clear hy333
        have H' := Aside0.mk H
        clear H
        have p332 : 0 ≤ (x4_1 : Int) := od_
        have q332 : x4_1 < (l0.length : Int) := od_
        obtain ⟨ad332, e332, hx332_0⟩ := Kd.at_int HR0.out x4_1 p332 q332
        cases e332
        replace hx332_0 := hc_ HB hx332_0
        replace p332 := eq_true p332
        replace q332 := eq_true q332
        have p9 : 0 ≤ (x4_1 : Int) := od_
        have q9 : (x4_1 : Int) < ((x3_1.length : Int) : Int) := od_
        obtain ⟨go9, co9, eo9, gb9, gl9, cl9, HG9⟩ := Kd.R_form HO_3.out (by omega)
        (first | cases eo9 | (injection eo9 with ea_ en_ ec_; (first | subst ea_ | (injection ea_ with ea_; subst ea_)); subst ec_; clear en_))
        have GB9 := Aside0.mk gb9
        have GG9 := Aside0.mk HG9
        clear gb9 gl9 HG9
        obtain ⟨hx9_0, hf9_0⟩ := Kd.R_celln 0 HO_3.out (x4_1 : Int) p9 q9
        replace p9 := eq_true p9
        replace q9 := eq_true q9
        have HP10 := Kd.R_putg HO_3.out (x4_1 : Int) (rd l0 x4_1)
        go_wp2_with (first | ((with_reducible refine gate_store (t := 3) (p := 20) rfl ?_); refine store_event (t := 3) (p := 20) (v := ?vo_w11) (w1 := (wr.setCell ⟨go9, (x4_1 : Int).toNat, none⟩ (.int .i64 (rd l0 x4_1)))) ?hg ?ho ?hn ?hr ?_; (case ho => rfl); (case hg => rfl); (case hn => rfl); (case hr => first | (go_simp; done) | (go_simp; rfl)); intro w11 hw; have hg : wr.grownBy w11 (some go9) := (by rw [hw]; exact HP10.2); have hp_ : Kd.R (Kd.int .i64) 3 w11 w.heap.size (fun _ => True) (.slice (some ⟨go9, 0, none⟩) x3_1.length co9) y333 := (by rw [hw, Ny333.out]; exact HP10.1); clear HP10; replace HO_3 := mk_ (hp_); replace HB := mk_ ((by rw [hw]; exact below_set (HB.out) GB9.out : Below w.heap.size w w11)); clear hg hw hp_))
        go_roundg k1
        case measure => have := HK1.out; omega
        case rel => exact ⟨(y333), (wrap64 (x4_1 + 1)), (by first | rfl | (simp; done) | (simp [*]; done) | (simp [bne]; done)), H', ⟨by have := HK1.out; omega⟩, ⟨by (with_reducible repeat (first | apply Kd.R_alloc | apply Kd.R_drewN | apply Kd.R_drew)); exact HO_3.out⟩, ⟨bw_ HB⟩⟩
       ·rw [if_neg c8] at H
        exact absurd H (by simp)
      ·rw [if_neg c7] at H
       exact absurd H (by simp)
     ·rw [if_neg c6] at H
      have c6b0 : decide (x4_1 < (l0.length : Int)) = false := decide_eq_false c6
      clear c6
      obtain rfl := Option.some.inj H
      go_wp2
      go_ret
      exact ⟨_, er_, by (with_reducible repeat (first | apply Kd.R_alloc | apply Kd.R_drewN | apply Kd.R_drew)); exact HO_3.out, bw_ HB⟩
  ·rw [if_neg c3] at H
   exact absurd H (by simp)
 ·rw [if_neg c2] at H
  exact absurd H (by simp)

end Go.Proofs.Ythbaoefbccdioaa.QFnExactCutActs
