/- Written by this session's own program (wip/tpl/pp.py): what the law's functions come to, and that the machine's calls do just that. -/
import Derived.Test.YthbaoefbccdioaaQFnExactCutActsx0
import Derived.Test.YthbaoefbccdioaaQFnExactCutActsx5
import Derived.Test.YthbaoefbccdioaaQFnExactCutActsx7
namespace Go.Proofs.Ythbaoefbccdioaa.QFnExactCutActs
open Go.RowKit Go.Proofs.YthbaoefbccdioaaW.PrintWords Go.Proofs.YthbaoefbccdioaaW.PrintLast Go.Proofs.YthbaoefbccdioaaW.PrintMore
attribute [local go_sem] Go.Proofs.Ythbaoefbccdioaa.Sem.string_geq Go.Proofs.Ythbaoefbccdioaa.Sem.string_leq Go.Proofs.Ythbaoefbccdioaa.Sem.string_gtr
attribute [local go_sem] max2_int min2_int max_two min_two max_three min_three max_four min_four   -- for this text's walks alone
set_option linter.unusedVariables false
set_option linter.unusedSimpArgs false

/-! ### impl_CutActs: function 27 -/
def impl_CutActs.f (k : Nat) (l0_0 : List (S76)) (l1 : List (S35)) (a2 : Int) (l3 : List Int) : Option ((List (S76)) × Bool) := (impl_within.f a2 0 (l1.length : Int)).bind fun t202 => (if t202 = true then (if 0 ≤ a2 then (if a2 ≤ (l1.length : Int) then ((impl_DoActs.f k l0_0 (l1.take (a2 : Int).toNat)).bind fun bt207 => (if bt207.2 < a2 then (some (([] : List (S76)), false)) else ((impl_LoseDisk.f k bt207.1 l3).bind fun bt212 => (some (bt212.1, bt212.2))))) else (none)) else (none)) else (some (([] : List (S76)), false)))
theorem impl_CutActs.mono : ∀ a0 a1 a2 a3 k, LeO (impl_CutActs.f k a0 a1 a2 a3) (impl_CutActs.f (k + 1) a0 a1 a2 a3) := by
 intro a0 a1 a2 a3 k
 unfold impl_CutActs.f
 repeat' first
   | (with_reducible exact impl_DoActs.mono _ _ _)
   | (with_reducible exact impl_LoseDisk.mono _ _ _)
   | (with_reducible exact LeO.refl _)
   | (with_reducible refine LeO.ite ?_ ?_)
   | (with_reducible refine LeO.bind ?_ (fun _ => ?_))
def impl_CutActs.T3 : Bool × List (List Nat × List Nat) := (true, [([], []), ([], []), ([], []), ([1, 2], [1, 2]), ([0, 3], [0, 3]), ([4], [4]), ([5], [5]), ([5], [5]), ([], []), ([8, 6, 4, 0, 1, 2, 3, 4, 5, 6, 8], [6, 8]), ([7, 9, 0, 1, 2, 3, 4, 5, 6, 7, 8, 9], [7])])
def impl_CutActs.B3 : List Nat := [0, 0, 0, 6, 15, 31, 63, 63, 0, 383, 1023]
theorem impl_CutActs.tab3 : rtab .any (opsOf Try.f27 3) = impl_CutActs.T3 := by kernel_rfl
theorem impl_CutActs.bits3 : waitsOk impl_CutActs.T3.2 impl_CutActs.B3 = true := by kernel_rfl
set_option maxHeartbeats 8000000 in
set_option maxRecDepth 100000 in
theorem impl_CutActs.calls (k : Nat) (A0_0 : Option Addr) (c0_0 : Nat) (l0_0 : List (S76)) (A1 : Option Addr) (c1 : Nat) (l1 : List (S35)) (a2 : Int) (A3 : Option Addr) (c3 : Nat) (l3 : List Int) (r1 : List (S76)) (r2 : Bool) (w : World) (hr0_0 : Kd.C k76 w A0_0 l0_0.length l0_0) (hc0_0 : l0_0.length ≤ c0_0) (hr1 : Kd.C k35 w A1 l1.length l1) (hc1 : l1.length ≤ c1) (hr3 : Kd.C (Kd.int .i64) w A3 l3.length l3) (hc3 : l3.length ≤ c3) (h : impl_CutActs.f k l0_0 l1 a2 l3 = some (r1, r2)) :
  Calls Try.prog 27 #[.agg #[.slice A0_0 l0_0.length c0_0], .slice A1 l1.length c1, .int .i64 a2, .slice A3 l3.length c3] w fun e w' => ∃ v0_ : Value, e = .returned (.tuple #[.agg #[v0_], .bool r2]) ∧ Kd.R k76 76 w' w.heap.size (fun _ => True) v0_ r1 ∧ Below w.heap.size w w' := by
 have hu31 := Try.underlying31
 have HR0_0 := Aside0.mk hr0_0
 have HC0_0 := Aside0.mk hc0_0
 clear hr0_0 hc0_0
 have HR1 := Aside0.mk hr1
 have HC1 := Aside0.mk hc1
 clear hr1 hc1
 have HR3 := Aside0.mk hr3
 have HC3 := Aside0.mk hc3
 clear hr3 hc3
 have HB := mk_ (Below.refl w.heap.size w)
 have H : ((impl_within.f a2 0 (l1.length : Int)).bind fun t202 => (if t202 = true then (if 0 ≤ a2 then (if a2 ≤ (l1.length : Int) then ((impl_DoActs.f k l0_0 (l1.take (a2 : Int).toNat)).bind fun bt207 => (if bt207.2 < a2 then (some (([] : List (S76)), false)) else ((impl_LoseDisk.f k bt207.1 l3).bind fun bt212 => (some (bt212.1, bt212.2))))) else (none)) else (none)) else (some (([] : List (S76)), false)))) = some (r1, r2) := h
 clear h
 replace H := Option.bind_eq_some_iff.mp H
 obtain ⟨t202, A50, H⟩ := H
 replace H : (if t202 = true then (if 0 ≤ a2 then (if a2 ≤ (l1.length : Int) then ((impl_DoActs.f k l0_0 (l1.take (a2 : Int).toNat)).bind fun bt207 => (if bt207.2 < a2 then (some (([] : List (S76)), false)) else ((impl_LoseDisk.f k bt207.1 l3).bind fun bt212 => (some (bt212.1, bt212.2))))) else (none)) else (none)) else (some (([] : List (S76)), false))) = some (r1, r2) := H
 have A5 := Aside0.mk A50
 clear A50
 by_cases c6 : t202 = true
 ·subst c6
  have H1 : (if 0 ≤ a2 then (if a2 ≤ (l1.length : Int) then ((impl_DoActs.f k l0_0 (l1.take (a2 : Int).toNat)).bind fun bt207 => (if bt207.2 < a2 then (some (([] : List (S76)), false)) else ((impl_LoseDisk.f k bt207.1 l3).bind fun bt212 => (some (bt212.1, bt212.2))))) else (none)) else (none)) = some (r1, r2) := by rw [if_pos rfl] at H; exact H
  clear H
  have H := H1
  clear H1
  by_cases c7 : 0 ≤ a2
  ·rw [if_pos c7] at H
   have c7b0 := eq_true c7
   have c7b1 : decide (0 ≤ a2) = true := decide_eq_true c7
   clear c7
   by_cases c8 : a2 ≤ (l1.length : Int)
   ·rw [if_pos c8] at H
    have c8b0 := eq_true c8
    have c8b1 : decide (a2 ≤ (l1.length : Int)) = true := decide_eq_true c8
    clear c8
    obtain ⟨y203, hy203⟩ : ∃ y_ : List (S35), y_ = (l1.take (a2 : Int).toNat) := ⟨_, rfl⟩
    replace H : ((impl_DoActs.f k l0_0 y203).bind fun bt207 => (if bt207.2 < a2 then (some (([] : List (S76)), false)) else ((impl_LoseDisk.f k bt207.1 l3).bind fun bt212 => (some (bt212.1, bt212.2))))) = some (r1, r2) := by first | (rw [hy203]; with_reducible exact H) | (have H2_ := (Option.bind_some _ _).symm.trans H; rw [hy203]; with_reducible exact H2_) | (have H2_ := (Option.bind_some _ _).symm.trans H; with_reducible exact H2_) | with_reducible exact H | (rw [hy203]; exact H) | exact H
    have Ny203 := Aside0.mk hy203
    clear hy203
    replace H := Option.bind_eq_some_iff.mp H
    obtain ⟨⟨t207, t210⟩, A90, H⟩ := H
    replace H : (if t210 < a2 then (some (([] : List (S76)), false)) else ((impl_LoseDisk.f k t207 l3).bind fun bt212 => (some (bt212.1, bt212.2)))) = some (r1, r2) := H
    have A9 := Aside0.mk A90
    clear A90
    by_cases c10 : t210 < a2
    ·rw [if_pos c10] at H
     have c10b0 : decide (t210 < a2) = true := decide_eq_true c10
     clear c10
     simp only [Option.some.injEq, Prod.mk.injEq] at H
     obtain ⟨rfl, rfl⟩ := H
     go_enter Try.func27, Try.ntmps27
     try go_wp2_with (first | ((with_reducible refine gate_dst (N := 4) rfl ?_); refine bx_ (N := 4) (cs := #[.slice A0_0 l0_0.length c0_0]) (t := 31) ?_; intro gb200 hg w11 hbox hb; have BK200 := mk_ (hbox); have GW200 : Aside0 (w.heap.size ≤ gb200) := bz_ hg; have GE200 := GW200; replace HB := bs_ HB hb; clear hb hbox hg) | ((with_reducible refine gate_dst (N := 8) rfl ?_); refine bx_ (N := 8) (cs := #[.slice none 0 0]) (t := 31) ?_; intro gb201 hg w12 hbox hb; have BK201 := mk_ (hbox); have GW201 : Aside0 (w.heap.size ≤ gb201) := bz_ hg; have GE201 := GW201; have NB200_201 := bl_ BK200 hg; have NB201_200 := bg_ BK200 hg; replace BK200 := bb_ BK200 hb; replace HB := bs_ HB hb; clear hb hbox hg) | ((with_reducible refine gate_callee (f := 59) rfl ?_); refine goesL_ (some 15) rfl rfl Try.func59 (by kernel_rfl) rfl #[.int .i64 a2, .int .i64 0, .int .i64 (l1.length : Int)] rfl ga_ ?_; (with_reducible refine (impl_within.calls a2 0 (l1.length : Int) true _ A5.out).mono ?_); rintro e w' ⟨rfl, ⟨nd, rfl⟩⟩; refine ⟨_, rfl, ?_⟩; (try (rw [drewN_self w12]; generalize hq_ : World.drewN w12 _ = w12; replace BK200 : Aside0 (w12.heap[gb200]? = some (.cells #[.slice A0_0 l0_0.length c0_0] 31 (0, 0))) := ⟨by rw [← hq_]; exact (bp_ BK200)⟩; replace BK201 : Aside0 (w12.heap[gb201]? = some (.cells #[.slice none 0 0] 31 (0, 0))) := ⟨by rw [← hq_]; exact (bp_ BK201)⟩; replace HB : Aside0 (Below w.heap.size w w12) := ⟨by rw [← hq_]; exact (bw_ HB)⟩; clear hq_))))
     have n0_ := mk_ (blk_drew BK200.out)
     have n1_ := mk_ (blk_drew BK201.out)
     have n2_ := mk_ (below_drew1 HB.out)
     clear BK200; clear BK201; clear HB; have BK200 := n0_; have BK201 := n1_; have HB := n2_; clear n0_ n1_ n2_
     have q14 : (a2 : Int) ≤ ((l1.length : Int) : Int) := od_
     obtain ⟨i014, hi014, _, hsz14, _⟩ := info_parts info35
     have hroom14 : l1.length ≤ c1 := HC1.out
     have hC14 : Kd.C k35 _ A1 l1.length l1 := HR1.out
     have hcut14 := cut_to (P := Try.prog) 44 35 .i64 Try.underlying44 hi014 A1 l1.length c1 a2 (od_) q14 hroom14
     have hr14 := Kd.C_take (m := (a2 : Int).toNat) hC14 (by omega)
     have hy14 : y203.length = (a2 : Int).toNat := (by rw [Ny203.out, List.length_take]; omega)
     rw [← Ny203.out] at hr14
     rw [← hy14] at hcut14
     have HR206 := Aside0.mk hr14
     have HC206 := mk_ (show y203.length ≤ c1 from by omega)
     clear hr14 hC14 hroom14 hi014 hsz14
     have KY14 := Aside0.mk hy14
     clear hy14
     replace q14 := eq_true q14
     refine start_ (n := 11) (S := fun w' => w'.cell? ⟨gb200, 0, none⟩ = some (.slice A0_0 l0_0.length c0_0)) (ds := []) #[false, false, false, false, false, false, false, false, false, false, false] (by kernel_rfl) rfl rfl (bc_ BK200 0) (fun hHeld => ?_); refine with_tabW impl_CutActs.tab3 impl_CutActs.bits3 (fun HT_ HW_ => ?_)
     generalize w12.drew = w13 at BK200 BK201 HB HR206 hHeld ⊢
     refine pure_ (i := 1) (N := some 20) (v := ?_) (a' := ?_) #[false, true, false, false, false, false, false, false, false, false, false] rfl rfl (any_of HT_.out (by kernel_rfl)) (fun _ _ _ h => h) (Or.inl ⟨by rfl, ?_⟩) ?_ ?_
     rotate_left
     ·intro w'
      go_simp
      with_reducible rfl
     rotate_left
     ·simp only [Act.put, sia_, scz_, scs_, i64_w, i32_w]
      rfl
     refine pure_ (i := 2) (N := some 21) (v := ?_) (a' := ?_) #[false, true, true, false, false, false, false, false, false, false, false] rfl rfl (any_of HT_.out (by kernel_rfl)) (fun _ _ _ h => h) (Or.inl ⟨by rfl, ?_⟩) ?_ ?_
     rotate_left
     ·intro w'
      go_simp
      with_reducible rfl
     rotate_left
     ·simp only [Act.put, sia_, scz_, scs_, i64_w, i32_w]
      rfl
     refine pure_ (i := 3) (N := some 22) (v := ?_) (a' := ?_) #[false, true, true, true, false, false, false, false, false, false, false] rfl rfl (any_of HT_.out (by kernel_rfl)) (fun _ _ _ h => h) (Or.inl ⟨by rfl, ?_⟩) ?_ ?_
     rotate_left
     ·intro w'
      go_simp
      with_reducible rfl
     rotate_left
     ·simp only [Act.put, sia_, scz_, scs_, i64_w, i32_w]
      rfl
     refine take_ (i := 0) (N := some 19) (v := ?_) (a' := ?_) #[true, true, true, true, false, false, false, false, false, false, false] rfl rfl (take_ofW HT_.out HW_.out (by kernel_rfl)) (fun _ _ _ h => h) (Or.inl ⟨by rfl, ?_⟩) hHeld ?_ ?_
     rotate_left
     ·intro w' s0
      go_simp
      with_reducible rfl
     rotate_left
     ·simp only [Act.put, sia_, scz_, scs_, i64_w, i32_w]
      rfl
     refine join_ (σ := Value × Nat) 2 #[true, true, true, true, true, true, true, true, true, false, false] (fun s_ => [(23, .tuple #[.agg #[s_.1], .int .i64 t210]), (10, .pointer (some ⟨s_.2, 0, none⟩)), (18, .tuple #[.agg #[s_.1], .int .i64 t210]), (24, .agg #[s_.1]), (25, .int .i64 t210)]) (fun s_ w' => (w'.cell? ⟨gb200, 0, none⟩ = some (.slice A0_0 l0_0.length c0_0)) ∧ (Kd.R k76 76 w' w.heap.size (fun _ => True) s_.1 t207) ∧ (w'.heap[gb200]? = some (.cells #[.slice A0_0 l0_0.length c0_0] 31 (0, 0))) ∧ (w'.heap[gb201]? = some (.cells #[.slice none 0 0] 31 (0, 0))) ∧ (w'.heap[s_.2]? = some (.cells #[.slice none 0 0] 31 (0, 0))) ∧ (w.heap.size ≤ s_.2) ∧ (w.heap.size ≤ s_.2) ∧ (gb200 ≠ s_.2) ∧ (s_.2 ≠ gb200) ∧ (gb201 ≠ s_.2) ∧ (s_.2 ≠ gb201) ∧ (Below w.heap.size w w')) ?_ ?_
     rotate_left
     ·intro hCont
      refine two_ (i := 4) (j := 8) (Ni := some 23) (Nj := some 10) #[true, true, true, true, true, false, false, false, false, false, false] #[true, true, true, true, false, false, false, false, true, false, false] rfl rfl rfl rfl (two_of HT_.out (by kernel_rfl)) (by decide) (by decide) (fun K hK => ?_) (fun K hK => ?_)
      ·skip
       refine goes_ Try.func20 (by kernel_rfl) rfl #[.agg #[.slice A0_0 l0_0.length c0_0], .slice A1 y203.length c1] (by rfl) rfl rfl ga_ ?_
       with_reducible refine (impl_DoActs.calls k _ _ l0_0 _ _ y203 t207 t210 _ ?side1 ?side2 ?side3 ?side4 A9.out).mono ?_
       (case side1 => repeat (first | exact (Kd.C_below HR0_0.out HB.out) | (with_reducible refine Kd.C_alloc ?_ _) | (with_reducible refine Kd.C_drewN ?_ _) | (with_reducible refine Kd.C_drew ?_)))
       (case side2 => exact HC0_0.out)
       (case side3 => repeat (first | exact (Kd.C_below HR206.out HB.out) | (with_reducible refine Kd.C_alloc ?_ _) | (with_reducible refine Kd.C_drewN ?_ _) | (with_reducible refine Kd.C_drew ?_)))
       (case side4 => exact HC206.out)
       rintro e w15 ⟨v208, rfl, ho0, hb⟩
       refine ⟨_, rfl, ?_⟩
       have n0_ := mk_ (Kd.R_lower ho0 (below_size (bw_ HB)))
       have n1_ := bb_ BK200 hb; have n2_ := bb_ BK201 hb
       have n3_ := bs_ HB hb
       clear BK200; clear BK201; clear HB; have HO209 := n0_; have BK200 := n1_; have BK201 := n2_; have HB := n3_; clear n0_ n1_ n2_ n3_; (try clear hb); (try clear hb2); (try clear hk); (try clear hi); (try clear ho0)
       refine hK.out _ _ (bc_ BK200 0) (fun hHeld => ?_)
       clear hK K
       refine norm_ (a' := ?_) ?_ ?_
       rotate_left
       ·show Act.put _ (some 23) _ = _
        simp only [Act.put, sia_, scz_, scs_, i64_w, i32_w]
        rfl
       refine pure_ (i := 5) (N := some 18) (v := ?_) (a' := ?_) #[true, true, true, true, true, true, false, false, false, false, false] rfl rfl (any_of HT_.out (by kernel_rfl)) (fun _ _ _ h => h) (Or.inl ⟨by rfl, ?_⟩) ?_ ?_
       rotate_left
       ·intro w'
        go_simp
        with_reducible rfl
       rotate_left
       ·simp only [Act.put, sia_, scz_, scs_, i64_w, i32_w]
        rfl
       refine pure_ (i := 6) (N := some 24) (v := ?_) (a' := ?_) #[true, true, true, true, true, true, true, false, false, false, false] rfl rfl (any_of HT_.out (by kernel_rfl)) (fun _ _ _ h => h) (Or.inl ⟨by rfl, ?_⟩) ?_ ?_
       rotate_left
       ·intro w'
        go_simp
        with_reducible rfl
       rotate_left
       ·simp only [Act.put, sia_, scz_, scs_, i64_w, i32_w]
        rfl
       refine pure_ (i := 7) (N := some 25) (v := ?_) (a' := ?_) #[true, true, true, true, true, true, true, true, false, false, false] rfl rfl (any_of HT_.out (by kernel_rfl)) (fun _ _ _ h => h) (Or.inl ⟨by rfl, ?_⟩) ?_ ?_
       rotate_left
       ·intro w'
        go_simp
        with_reducible rfl
       rotate_left
       ·simp only [Act.put, sia_, scz_, scs_, i64_w, i32_w]
        rfl
       refine one_ (i := 8) (N := some 10) #[true, true, true, true, true, true, true, true, true, false, false] rfl rfl (one_of HT_.out (by kernel_rfl)) (by decide) (fun K hK => ?_)
       refine box_step ?hg (N := 10) ?hd (cs := #[.slice none 0 0]) (t := 31) ?hr ?_; (case hd => rfl); (case hg => rfl); (case hr => first | (go_simp; done) | (go_simp; rfl))
       intro gb211 hg w16 hbox hb
       have n0_ := rb_ HO209 hb
       have n1_ := bb_ BK200 hb; have n2_ := bb_ BK201 hb
       have n3_ := bs_ HB hb
       have n4_ := mk_ (hbox)
       have n5_ : Aside0 (w.heap.size ≤ gb211) := bz_ hg
       have n6_ : Aside0 (w.heap.size ≤ gb211) := bz_ hg
       have n7_ : Aside0 (gb200 ≠ gb211) := bl_ BK200 hg
       have n8_ : Aside0 (gb211 ≠ gb200) := bg_ BK200 hg
       have n9_ : Aside0 (gb201 ≠ gb211) := bl_ BK201 hg
       have n10_ : Aside0 (gb211 ≠ gb201) := bg_ BK201 hg
       clear HO209; clear BK200; clear BK201; clear HB; have HO209 := n0_; have BK200 := n1_; have BK201 := n2_; have HB := n3_; have BK211 := n4_; have GW211 := n5_; have GE211 := n6_; have NB200_211 := n7_; have NB211_200 := n8_; have NB201_211 := n9_; have NB211_201 := n10_; clear n0_ n1_ n2_ n3_ n4_ n5_ n6_ n7_ n8_ n9_ n10_; clear hb hbox hg
       refine hK.out _ _ (bc_ BK200 0) (fun hHeld => ?_)
       clear hK K
       refine norm_ (a' := ?_) ?_ ?_
       rotate_left
       ·show Act.put _ (some 10) _ = _
        simp only [Act.put, sia_, scz_, scs_, i64_w, i32_w]
        rfl
       exact norm_ (by simp only [putAll, Act.put, sia_, scz_, scs_]) (hCont (v208, gb211) _ ⟨hHeld, (rp_ HO209), (bp_ BK200), (bp_ BK201), (bp_ BK211), GW211.out, GE211.out, NB200_211.out, NB211_200.out, NB201_211.out, NB211_201.out, (bw_ HB)⟩)
      ·skip
       refine box_step ?hg (N := 10) ?hd (cs := #[.slice none 0 0]) (t := 31) ?hr ?_; (case hd => rfl); (case hg => rfl); (case hr => first | (go_simp; done) | (go_simp; rfl))
       intro gb211 hg w15 hbox hb
       have n0_ := bb_ BK200 hb; have n1_ := bb_ BK201 hb
       have n2_ := bs_ HB hb
       have n3_ := mk_ (hbox)
       have n4_ : Aside0 (w.heap.size ≤ gb211) := bz_ hg
       have n5_ : Aside0 (w.heap.size ≤ gb211) := bz_ hg
       have n6_ : Aside0 (gb200 ≠ gb211) := bl_ BK200 hg
       have n7_ : Aside0 (gb211 ≠ gb200) := bg_ BK200 hg
       have n8_ : Aside0 (gb201 ≠ gb211) := bl_ BK201 hg
       have n9_ : Aside0 (gb211 ≠ gb201) := bg_ BK201 hg
       clear BK200; clear BK201; clear HB; have BK200 := n0_; have BK201 := n1_; have HB := n2_; have BK211 := n3_; have GW211 := n4_; have GE211 := n5_; have NB200_211 := n6_; have NB211_200 := n7_; have NB201_211 := n8_; have NB211_201 := n9_; clear n0_ n1_ n2_ n3_ n4_ n5_ n6_ n7_ n8_ n9_; clear hb hbox hg
       refine hK.out _ _ (bc_ BK200 0) (fun hHeld => ?_)
       clear hK K
       refine norm_ (a' := ?_) ?_ ?_
       rotate_left
       ·show Act.put _ (some 10) _ = _
        simp only [Act.put, sia_, scz_, scs_, i64_w, i32_w]
        rfl
       refine one_ (i := 4) (N := some 23) #[true, true, true, true, true, false, false, false, true, false, false] rfl rfl (one_of HT_.out (by kernel_rfl)) (by decide) (fun K hK => ?_)
       refine goes_ Try.func20 (by kernel_rfl) rfl #[.agg #[.slice A0_0 l0_0.length c0_0], .slice A1 y203.length c1] (by rfl) rfl rfl ga_ ?_
       with_reducible refine (impl_DoActs.calls k _ _ l0_0 _ _ y203 t207 t210 _ ?side1 ?side2 ?side3 ?side4 A9.out).mono ?_
       (case side1 => repeat (first | exact (Kd.C_below HR0_0.out HB.out) | (with_reducible refine Kd.C_alloc ?_ _) | (with_reducible refine Kd.C_drewN ?_ _) | (with_reducible refine Kd.C_drew ?_)))
       (case side2 => exact HC0_0.out)
       (case side3 => repeat (first | exact (Kd.C_below HR206.out HB.out) | (with_reducible refine Kd.C_alloc ?_ _) | (with_reducible refine Kd.C_drewN ?_ _) | (with_reducible refine Kd.C_drew ?_)))
       (case side4 => exact HC206.out)
       rintro e w16 ⟨v208, rfl, ho0, hb⟩
       refine ⟨_, rfl, ?_⟩
       have n0_ := mk_ (Kd.R_lower ho0 (below_size (bw_ HB)))
       have n1_ := bb_ BK200 hb; have n2_ := bb_ BK201 hb; have n3_ := bb_ BK211 hb
       have n4_ := bs_ HB hb
       clear BK200; clear BK201; clear BK211; clear HB; have HO209 := n0_; have BK200 := n1_; have BK201 := n2_; have BK211 := n3_; have HB := n4_; clear n0_ n1_ n2_ n3_ n4_; (try clear hb); (try clear hb2); (try clear hk); (try clear hi); (try clear ho0)
       refine hK.out _ _ (bc_ BK200 0) (fun hHeld => ?_)
       clear hK K
       refine norm_ (a' := ?_) ?_ ?_
       rotate_left
       ·show Act.put _ (some 23) _ = _
        simp only [Act.put, sia_, scz_, scs_, i64_w, i32_w]
        rfl
       refine pure_ (i := 5) (N := some 18) (v := ?_) (a' := ?_) #[true, true, true, true, true, true, false, false, true, false, false] rfl rfl (any_of HT_.out (by kernel_rfl)) (fun _ _ _ h => h) (Or.inl ⟨by rfl, ?_⟩) ?_ ?_
       rotate_left
       ·intro w'
        go_simp
        with_reducible rfl
       rotate_left
       ·simp only [Act.put, sia_, scz_, scs_, i64_w, i32_w]
        rfl
       refine pure_ (i := 6) (N := some 24) (v := ?_) (a' := ?_) #[true, true, true, true, true, true, true, false, true, false, false] rfl rfl (any_of HT_.out (by kernel_rfl)) (fun _ _ _ h => h) (Or.inl ⟨by rfl, ?_⟩) ?_ ?_
       rotate_left
       ·intro w'
        go_simp
        with_reducible rfl
       rotate_left
       ·simp only [Act.put, sia_, scz_, scs_, i64_w, i32_w]
        rfl
       refine pure_ (i := 7) (N := some 25) (v := ?_) (a' := ?_) #[true, true, true, true, true, true, true, true, true, false, false] rfl rfl (any_of HT_.out (by kernel_rfl)) (fun _ _ _ h => h) (Or.inl ⟨by rfl, ?_⟩) ?_ ?_
       rotate_left
       ·intro w'
        go_simp
        with_reducible rfl
       rotate_left
       ·simp only [Act.put, sia_, scz_, scs_, i64_w, i32_w]
        rfl
       exact norm_ (by simp only [putAll, Act.put, sia_, scz_, scs_]) (hCont (v208, gb211) _ ⟨hHeld, (rp_ HO209), (bp_ BK200), (bp_ BK201), (bp_ BK211), GW211.out, GE211.out, NB200_211.out, NB211_200.out, NB201_211.out, NB211_201.out, (bw_ HB)⟩)
     rintro ⟨v208, gb211⟩ w17 ⟨hS_, h0_, h1_, h2_, h3_, h4_, h5_, h6_, h7_, h8_, h9_, h10_⟩
     have n0_ : Aside0 (Kd.R k76 76 w17 w.heap.size (fun _ => True) v208 t207) := ⟨h0_⟩
     have n1_ : Aside0 (w17.heap[gb200]? = some (.cells #[.slice A0_0 l0_0.length c0_0] 31 (0, 0))) := ⟨h1_⟩
     have n2_ : Aside0 (w17.heap[gb201]? = some (.cells #[.slice none 0 0] 31 (0, 0))) := ⟨h2_⟩
     have n3_ : Aside0 (w17.heap[gb211]? = some (.cells #[.slice none 0 0] 31 (0, 0))) := ⟨h3_⟩
     have n4_ : Aside0 (w.heap.size ≤ gb211) := ⟨h4_⟩
     have n5_ : Aside0 (w.heap.size ≤ gb211) := ⟨h5_⟩
     have n6_ : Aside0 (gb200 ≠ gb211) := ⟨h6_⟩
     have n7_ : Aside0 (gb211 ≠ gb200) := ⟨h7_⟩
     have n8_ : Aside0 (gb201 ≠ gb211) := ⟨h8_⟩
     have n9_ : Aside0 (gb211 ≠ gb201) := ⟨h9_⟩
     have n10_ : Aside0 (Below w.heap.size w w17) := ⟨h10_⟩
     clear BK200; clear BK201; clear HB; clear h0_ h1_ h2_ h3_ h4_ h5_ h6_ h7_ h8_ h9_ h10_; have HO209 := n0_; have BK200 := n1_; have BK201 := n2_; have BK211 := n3_; have GW211 := n4_; have GE211 := n5_; have NB200_211 := n6_; have NB211_200 := n7_; have NB201_211 := n8_; have NB211_201 := n9_; have HB := n10_; clear n0_ n1_ n2_ n3_ n4_ n5_ n6_ n7_ n8_ n9_ n10_
     have hHeld : w17.cell? ⟨gb200, 0, none⟩ = some (.slice A0_0 l0_0.length c0_0) := hS_
     obtain ⟨Ao18, co18, eo18⟩ := Kd.R_slice HO209.out
     (first | subst eo18 | (injection eo18 with f1_ f2_ f3_; have f4_ := f1_.symm; have f5_ := f3_.symm; clear f1_ f2_ f3_; subst f4_; subst f5_))
     refine norm_ (a' := ?_) ?_ ?_
     rotate_left
     ·simp only [putAll, Act.put, sia_, scz_, scs_]
      rfl
     refine one_ (i := 9) (N := none) #[true, true, true, true, true, true, true, true, true, true, false] rfl rfl (one_of HT_.out (by kernel_rfl)) (by decide) (fun K hK => ?_)
     have hs19 : w17.cell? ⟨gb211, 0, none⟩ = some (.slice none 0 0) := bc_ BK211 0
     have hfs19 := blk_frozen BK211.out 0
     have hns19_0 := NB200_211.out
     have hns19_1 := NB201_211.out
     have hms19_0 := NB211_200.out
     have hms19_1 := NB211_201.out
     refine skip_ (w1 := ?_) (by rfl) rfl ?_ ?_
     rotate_left
     ·go_simp
      rfl
     refine hK.out _ _ (((cell_far (p := ⟨gb211, _, none⟩) NB200_211.out _).trans (hHeld))) (fun hHeld => ?_)
     clear hK K
     refine pure_ (i := 10) (N := some 11) (v := ?_) (a' := ?_) #[true, true, true, true, true, true, true, true, true, true, true] rfl rfl (any_of HT_.out (by kernel_rfl)) (fun _ _ _ h => h) (Or.inl ⟨by rfl, ?_⟩) ?_ ?_
     rotate_left
     ·intro w'
      go_simp
      with_reducible rfl
     rotate_left
     ·simp only [Act.put, sia_, scz_, scs_, i64_w, i32_w]
      rfl
     refine done_ (done_of HT_.out (by kernel_rfl)) ?_
     have hnb20 := NB201_200.out
     have hnc20 := NB200_201.out
     have hnb21 := NB201_211.out
     have hnc21 := NB211_201.out
     have hcz22_0 : w17.cell? ⟨gb201, 0, none⟩ = some (.slice none 0 0) := bc_ BK201 0
     have hfz22_0 := blk_frozen BK201.out 0
     try go_wp2
     refine bodyPost_ret (results_ct rfl _ _ gb201 31 #[.slice none 0 0] (0, 0) _ rfl bu_ Try.underlying31 rfl (by kernel_rfl)) rfl ?_
     exact ⟨_, er_, by first | exact Kd.R_nil _ _ _ _ _ | exact Kd.N_nil _ _ _ _ _ | exact Kd.V_nil _ _ _ _ _ | exact Kd.Q_nil _ _ _ _ _ | exact Kd.S_nil _ _ _ _ _, bw_ HB⟩
    ·rw [if_neg c10] at H
     have c10b0 : decide (t210 < a2) = false := decide_eq_false c10
     clear c10
     replace H := Option.bind_eq_some_iff.mp H
     obtain ⟨⟨t212, t215⟩, A230, H⟩ := H
     replace H : (some (t212, t215)) = some (r1, r2) := H
     have A23 := Aside0.mk A230
     clear A230
     simp only [Option.some.injEq, Prod.mk.injEq] at H
     obtain ⟨rfl, rfl⟩ := H
     go_enter Try.func27, Try.ntmps27
     try go_wp2_with (first | ((with_reducible refine gate_dst (N := 4) rfl ?_); refine bx_ (N := 4) (cs := #[.slice A0_0 l0_0.length c0_0]) (t := 31) ?_; intro gb200 hg w24 hbox hb; have BK200 := mk_ (hbox); have GW200 : Aside0 (w.heap.size ≤ gb200) := bz_ hg; have GE200 := GW200; replace HB := bs_ HB hb; clear hb hbox hg) | ((with_reducible refine gate_dst (N := 8) rfl ?_); refine bx_ (N := 8) (cs := #[.slice none 0 0]) (t := 31) ?_; intro gb201 hg w25 hbox hb; have BK201 := mk_ (hbox); have GW201 : Aside0 (w.heap.size ≤ gb201) := bz_ hg; have GE201 := GW201; have NB200_201 := bl_ BK200 hg; have NB201_200 := bg_ BK200 hg; replace BK200 := bb_ BK200 hb; replace HB := bs_ HB hb; clear hb hbox hg) | ((with_reducible refine gate_callee (f := 59) rfl ?_); refine goesL_ (some 15) rfl rfl Try.func59 (by kernel_rfl) rfl #[.int .i64 a2, .int .i64 0, .int .i64 (l1.length : Int)] rfl ga_ ?_; (with_reducible refine (impl_within.calls a2 0 (l1.length : Int) true _ A5.out).mono ?_); rintro e w' ⟨rfl, ⟨nd, rfl⟩⟩; refine ⟨_, rfl, ?_⟩; (try (rw [drewN_self w25]; generalize hq_ : World.drewN w25 _ = w25; replace BK200 : Aside0 (w25.heap[gb200]? = some (.cells #[.slice A0_0 l0_0.length c0_0] 31 (0, 0))) := ⟨by rw [← hq_]; exact (bp_ BK200)⟩; replace BK201 : Aside0 (w25.heap[gb201]? = some (.cells #[.slice none 0 0] 31 (0, 0))) := ⟨by rw [← hq_]; exact (bp_ BK201)⟩; replace HB : Aside0 (Below w.heap.size w w25) := ⟨by rw [← hq_]; exact (bw_ HB)⟩; clear hq_))))
     have n0_ := mk_ (blk_drew BK200.out)
     have n1_ := mk_ (blk_drew BK201.out)
     have n2_ := mk_ (below_drew1 HB.out)
     clear BK200; clear BK201; clear HB; have BK200 := n0_; have BK201 := n1_; have HB := n2_; clear n0_ n1_ n2_
     have q27 : (a2 : Int) ≤ ((l1.length : Int) : Int) := od_
     obtain ⟨i027, hi027, _, hsz27, _⟩ := info_parts info35
     have hroom27 : l1.length ≤ c1 := HC1.out
     have hC27 : Kd.C k35 _ A1 l1.length l1 := HR1.out
     have hcut27 := cut_to (P := Try.prog) 44 35 .i64 Try.underlying44 hi027 A1 l1.length c1 a2 (od_) q27 hroom27
     have hr27 := Kd.C_take (m := (a2 : Int).toNat) hC27 (by omega)
     have hy27 : y203.length = (a2 : Int).toNat := (by rw [Ny203.out, List.length_take]; omega)
     rw [← Ny203.out] at hr27
     rw [← hy27] at hcut27
     have HR206 := Aside0.mk hr27
     have HC206 := mk_ (show y203.length ≤ c1 from by omega)
     clear hr27 hC27 hroom27 hi027 hsz27
     have KY27 := Aside0.mk hy27
     clear hy27
     replace q27 := eq_true q27
     refine start_ (n := 11) (S := fun w' => w'.cell? ⟨gb200, 0, none⟩ = some (.slice A0_0 l0_0.length c0_0)) (ds := []) #[false, false, false, false, false, false, false, false, false, false, false] (by kernel_rfl) rfl rfl (bc_ BK200 0) (fun hHeld => ?_); refine with_tabW impl_CutActs.tab3 impl_CutActs.bits3 (fun HT_ HW_ => ?_)
     generalize w25.drew = w26 at BK200 BK201 HB HR206 hHeld ⊢
     refine pure_ (i := 1) (N := some 20) (v := ?_) (a' := ?_) #[false, true, false, false, false, false, false, false, false, false, false] rfl rfl (any_of HT_.out (by kernel_rfl)) (fun _ _ _ h => h) (Or.inl ⟨by rfl, ?_⟩) ?_ ?_
     rotate_left
     ·intro w'
      go_simp
      with_reducible rfl
     rotate_left
     ·simp only [Act.put, sia_, scz_, scs_, i64_w, i32_w]
      rfl
     refine pure_ (i := 2) (N := some 21) (v := ?_) (a' := ?_) #[false, true, true, false, false, false, false, false, false, false, false] rfl rfl (any_of HT_.out (by kernel_rfl)) (fun _ _ _ h => h) (Or.inl ⟨by rfl, ?_⟩) ?_ ?_
     rotate_left
     ·intro w'
      go_simp
      with_reducible rfl
     rotate_left
     ·simp only [Act.put, sia_, scz_, scs_, i64_w, i32_w]
      rfl
     refine pure_ (i := 3) (N := some 22) (v := ?_) (a' := ?_) #[false, true, true, true, false, false, false, false, false, false, false] rfl rfl (any_of HT_.out (by kernel_rfl)) (fun _ _ _ h => h) (Or.inl ⟨by rfl, ?_⟩) ?_ ?_
     rotate_left
     ·intro w'
      go_simp
      with_reducible rfl
     rotate_left
     ·simp only [Act.put, sia_, scz_, scs_, i64_w, i32_w]
      rfl
     refine take_ (i := 0) (N := some 19) (v := ?_) (a' := ?_) #[true, true, true, true, false, false, false, false, false, false, false] rfl rfl (take_ofW HT_.out HW_.out (by kernel_rfl)) (fun _ _ _ h => h) (Or.inl ⟨by rfl, ?_⟩) hHeld ?_ ?_
     rotate_left
     ·intro w' s0
      go_simp
      with_reducible rfl
     rotate_left
     ·simp only [Act.put, sia_, scz_, scs_, i64_w, i32_w]
      rfl
     refine join_ (σ := Value × Nat) 2 #[true, true, true, true, true, true, true, true, true, false, false] (fun s_ => [(23, .tuple #[.agg #[s_.1], .int .i64 t210]), (10, .pointer (some ⟨s_.2, 0, none⟩)), (18, .tuple #[.agg #[s_.1], .int .i64 t210]), (24, .agg #[s_.1]), (25, .int .i64 t210)]) (fun s_ w' => (w'.cell? ⟨gb200, 0, none⟩ = some (.slice A0_0 l0_0.length c0_0)) ∧ (Kd.R k76 76 w' w.heap.size (fun _ => True) s_.1 t207) ∧ (w'.heap[gb200]? = some (.cells #[.slice A0_0 l0_0.length c0_0] 31 (0, 0))) ∧ (w'.heap[gb201]? = some (.cells #[.slice none 0 0] 31 (0, 0))) ∧ (w'.heap[s_.2]? = some (.cells #[.slice none 0 0] 31 (0, 0))) ∧ (w.heap.size ≤ s_.2) ∧ (w.heap.size ≤ s_.2) ∧ (gb200 ≠ s_.2) ∧ (s_.2 ≠ gb200) ∧ (gb201 ≠ s_.2) ∧ (s_.2 ≠ gb201) ∧ (Below w.heap.size w w')) ?_ ?_
     rotate_left
     ·intro hCont
      refine two_ (i := 4) (j := 8) (Ni := some 23) (Nj := some 10) #[true, true, true, true, true, false, false, false, false, false, false] #[true, true, true, true, false, false, false, false, true, false, false] rfl rfl rfl rfl (two_of HT_.out (by kernel_rfl)) (by decide) (by decide) (fun K hK => ?_) (fun K hK => ?_)
      ·skip
       refine goes_ Try.func20 (by kernel_rfl) rfl #[.agg #[.slice A0_0 l0_0.length c0_0], .slice A1 y203.length c1] (by rfl) rfl rfl ga_ ?_
       with_reducible refine (impl_DoActs.calls k _ _ l0_0 _ _ y203 t207 t210 _ ?side1 ?side2 ?side3 ?side4 A9.out).mono ?_
       (case side1 => repeat (first | exact (Kd.C_below HR0_0.out HB.out) | (with_reducible refine Kd.C_alloc ?_ _) | (with_reducible refine Kd.C_drewN ?_ _) | (with_reducible refine Kd.C_drew ?_)))
       (case side2 => exact HC0_0.out)
       (case side3 => repeat (first | exact (Kd.C_below HR206.out HB.out) | (with_reducible refine Kd.C_alloc ?_ _) | (with_reducible refine Kd.C_drewN ?_ _) | (with_reducible refine Kd.C_drew ?_)))
       (case side4 => exact HC206.out)
       rintro e w28 ⟨v208, rfl, ho0, hb⟩
       refine ⟨_, rfl, ?_⟩
       have n0_ := mk_ (Kd.R_lower ho0 (below_size (bw_ HB)))
       have n1_ := bb_ BK200 hb; have n2_ := bb_ BK201 hb
       have n3_ := bs_ HB hb
       clear BK200; clear BK201; clear HB; have HO209 := n0_; have BK200 := n1_; have BK201 := n2_; have HB := n3_; clear n0_ n1_ n2_ n3_; (try clear hb); (try clear hb2); (try clear hk); (try clear hi); (try clear ho0)
       refine hK.out _ _ (bc_ BK200 0) (fun hHeld => ?_)
       clear hK K
       refine norm_ (a' := ?_) ?_ ?_
       rotate_left
       ·show Act.put _ (some 23) _ = _
        simp only [Act.put, sia_, scz_, scs_, i64_w, i32_w]
        rfl
       refine pure_ (i := 5) (N := some 18) (v := ?_) (a' := ?_) #[true, true, true, true, true, true, false, false, false, false, false] rfl rfl (any_of HT_.out (by kernel_rfl)) (fun _ _ _ h => h) (Or.inl ⟨by rfl, ?_⟩) ?_ ?_
       rotate_left
       ·intro w'
        go_simp
        with_reducible rfl
       rotate_left
       ·simp only [Act.put, sia_, scz_, scs_, i64_w, i32_w]
        rfl
       refine pure_ (i := 6) (N := some 24) (v := ?_) (a' := ?_) #[true, true, true, true, true, true, true, false, false, false, false] rfl rfl (any_of HT_.out (by kernel_rfl)) (fun _ _ _ h => h) (Or.inl ⟨by rfl, ?_⟩) ?_ ?_
       rotate_left
       ·intro w'
        go_simp
        with_reducible rfl
       rotate_left
       ·simp only [Act.put, sia_, scz_, scs_, i64_w, i32_w]
        rfl
       refine pure_ (i := 7) (N := some 25) (v := ?_) (a' := ?_) #[true, true, true, true, true, true, true, true, false, false, false] rfl rfl (any_of HT_.out (by kernel_rfl)) (fun _ _ _ h => h) (Or.inl ⟨by rfl, ?_⟩) ?_ ?_
       rotate_left
       ·intro w'
        go_simp
        with_reducible rfl
       rotate_left
       ·simp only [Act.put, sia_, scz_, scs_, i64_w, i32_w]
        rfl
       refine one_ (i := 8) (N := some 10) #[true, true, true, true, true, true, true, true, true, false, false] rfl rfl (one_of HT_.out (by kernel_rfl)) (by decide) (fun K hK => ?_)
       refine box_step ?hg (N := 10) ?hd (cs := #[.slice none 0 0]) (t := 31) ?hr ?_; (case hd => rfl); (case hg => rfl); (case hr => first | (go_simp; done) | (go_simp; rfl))
       intro gb211 hg w29 hbox hb
       have n0_ := rb_ HO209 hb
       have n1_ := bb_ BK200 hb; have n2_ := bb_ BK201 hb
       have n3_ := bs_ HB hb
       have n4_ := mk_ (hbox)
       have n5_ : Aside0 (w.heap.size ≤ gb211) := bz_ hg
       have n6_ : Aside0 (w.heap.size ≤ gb211) := bz_ hg
       have n7_ : Aside0 (gb200 ≠ gb211) := bl_ BK200 hg
       have n8_ : Aside0 (gb211 ≠ gb200) := bg_ BK200 hg
       have n9_ : Aside0 (gb201 ≠ gb211) := bl_ BK201 hg
       have n10_ : Aside0 (gb211 ≠ gb201) := bg_ BK201 hg
       clear HO209; clear BK200; clear BK201; clear HB; have HO209 := n0_; have BK200 := n1_; have BK201 := n2_; have HB := n3_; have BK211 := n4_; have GW211 := n5_; have GE211 := n6_; have NB200_211 := n7_; have NB211_200 := n8_; have NB201_211 := n9_; have NB211_201 := n10_; clear n0_ n1_ n2_ n3_ n4_ n5_ n6_ n7_ n8_ n9_ n10_; clear hb hbox hg
       refine hK.out _ _ (bc_ BK200 0) (fun hHeld => ?_)
       clear hK K
       refine norm_ (a' := ?_) ?_ ?_
       rotate_left
       ·show Act.put _ (some 10) _ = _
        simp only [Act.put, sia_, scz_, scs_, i64_w, i32_w]
        rfl
       exact norm_ (by simp only [putAll, Act.put, sia_, scz_, scs_]) (hCont (v208, gb211) _ ⟨hHeld, (rp_ HO209), (bp_ BK200), (bp_ BK201), (bp_ BK211), GW211.out, GE211.out, NB200_211.out, NB211_200.out, NB201_211.out, NB211_201.out, (bw_ HB)⟩)
      ·skip
       refine box_step ?hg (N := 10) ?hd (cs := #[.slice none 0 0]) (t := 31) ?hr ?_; (case hd => rfl); (case hg => rfl); (case hr => first | (go_simp; done) | (go_simp; rfl))
       intro gb211 hg w28 hbox hb
       have n0_ := bb_ BK200 hb; have n1_ := bb_ BK201 hb
       have n2_ := bs_ HB hb
       have n3_ := mk_ (hbox)
       have n4_ : Aside0 (w.heap.size ≤ gb211) := bz_ hg
       have n5_ : Aside0 (w.heap.size ≤ gb211) := bz_ hg
       have n6_ : Aside0 (gb200 ≠ gb211) := bl_ BK200 hg
       have n7_ : Aside0 (gb211 ≠ gb200) := bg_ BK200 hg
       have n8_ : Aside0 (gb201 ≠ gb211) := bl_ BK201 hg
       have n9_ : Aside0 (gb211 ≠ gb201) := bg_ BK201 hg
       clear BK200; clear BK201; clear HB; have BK200 := n0_; have BK201 := n1_; have HB := n2_; have BK211 := n3_; have GW211 := n4_; have GE211 := n5_; have NB200_211 := n6_; have NB211_200 := n7_; have NB201_211 := n8_; have NB211_201 := n9_; clear n0_ n1_ n2_ n3_ n4_ n5_ n6_ n7_ n8_ n9_; clear hb hbox hg
       refine hK.out _ _ (bc_ BK200 0) (fun hHeld => ?_)
       clear hK K
       refine norm_ (a' := ?_) ?_ ?_
       rotate_left
       ·show Act.put _ (some 10) _ = _
        simp only [Act.put, sia_, scz_, scs_, i64_w, i32_w]
        rfl
       refine one_ (i := 4) (N := some 23) #[true, true, true, true, true, false, false, false, true, false, false] rfl rfl (one_of HT_.out (by kernel_rfl)) (by decide) (fun K hK => ?_)
       refine goes_ Try.func20 (by kernel_rfl) rfl #[.agg #[.slice A0_0 l0_0.length c0_0], .slice A1 y203.length c1] (by rfl) rfl rfl ga_ ?_
       with_reducible refine (impl_DoActs.calls k _ _ l0_0 _ _ y203 t207 t210 _ ?side1 ?side2 ?side3 ?side4 A9.out).mono ?_
       (case side1 => repeat (first | exact (Kd.C_below HR0_0.out HB.out) | (with_reducible refine Kd.C_alloc ?_ _) | (with_reducible refine Kd.C_drewN ?_ _) | (with_reducible refine Kd.C_drew ?_)))
       (case side2 => exact HC0_0.out)
       (case side3 => repeat (first | exact (Kd.C_below HR206.out HB.out) | (with_reducible refine Kd.C_alloc ?_ _) | (with_reducible refine Kd.C_drewN ?_ _) | (with_reducible refine Kd.C_drew ?_)))
       (case side4 => exact HC206.out)
       rintro e w29 ⟨v208, rfl, ho0, hb⟩
       refine ⟨_, rfl, ?_⟩
       have n0_ := mk_ (Kd.R_lower ho0 (below_size (bw_ HB)))
       have n1_ := bb_ BK200 hb; have n2_ := bb_ BK201 hb; have n3_ := bb_ BK211 hb
       have n4_ := bs_ HB hb
       clear BK200; clear BK201; clear BK211; clear HB; have HO209 := n0_; have BK200 := n1_; have BK201 := n2_; have BK211 := n3_; have HB := n4_; clear n0_ n1_ n2_ n3_ n4_; (try clear hb); (try clear hb2); (try clear hk); (try clear hi); (try clear ho0)
       refine hK.out _ _ (bc_ BK200 0) (fun hHeld => ?_)
       clear hK K
       refine norm_ (a' := ?_) ?_ ?_
       rotate_left
       ·show Act.put _ (some 23) _ = _
        simp only [Act.put, sia_, scz_, scs_, i64_w, i32_w]
        rfl
       refine pure_ (i := 5) (N := some 18) (v := ?_) (a' := ?_) #[true, true, true, true, true, true, false, false, true, false, false] rfl rfl (any_of HT_.out (by kernel_rfl)) (fun _ _ _ h => h) (Or.inl ⟨by rfl, ?_⟩) ?_ ?_
       rotate_left
       ·intro w'
        go_simp
        with_reducible rfl
       rotate_left
       ·simp only [Act.put, sia_, scz_, scs_, i64_w, i32_w]
        rfl
       refine pure_ (i := 6) (N := some 24) (v := ?_) (a' := ?_) #[true, true, true, true, true, true, true, false, true, false, false] rfl rfl (any_of HT_.out (by kernel_rfl)) (fun _ _ _ h => h) (Or.inl ⟨by rfl, ?_⟩) ?_ ?_
       rotate_left
       ·intro w'
        go_simp
        with_reducible rfl
       rotate_left
       ·simp only [Act.put, sia_, scz_, scs_, i64_w, i32_w]
        rfl
       refine pure_ (i := 7) (N := some 25) (v := ?_) (a' := ?_) #[true, true, true, true, true, true, true, true, true, false, false] rfl rfl (any_of HT_.out (by kernel_rfl)) (fun _ _ _ h => h) (Or.inl ⟨by rfl, ?_⟩) ?_ ?_
       rotate_left
       ·intro w'
        go_simp
        with_reducible rfl
       rotate_left
       ·simp only [Act.put, sia_, scz_, scs_, i64_w, i32_w]
        rfl
       exact norm_ (by simp only [putAll, Act.put, sia_, scz_, scs_]) (hCont (v208, gb211) _ ⟨hHeld, (rp_ HO209), (bp_ BK200), (bp_ BK201), (bp_ BK211), GW211.out, GE211.out, NB200_211.out, NB211_200.out, NB201_211.out, NB211_201.out, (bw_ HB)⟩)
     rintro ⟨v208, gb211⟩ w30 ⟨hS_, h0_, h1_, h2_, h3_, h4_, h5_, h6_, h7_, h8_, h9_, h10_⟩
     have n0_ : Aside0 (Kd.R k76 76 w30 w.heap.size (fun _ => True) v208 t207) := ⟨h0_⟩
     have n1_ : Aside0 (w30.heap[gb200]? = some (.cells #[.slice A0_0 l0_0.length c0_0] 31 (0, 0))) := ⟨h1_⟩
     have n2_ : Aside0 (w30.heap[gb201]? = some (.cells #[.slice none 0 0] 31 (0, 0))) := ⟨h2_⟩
     have n3_ : Aside0 (w30.heap[gb211]? = some (.cells #[.slice none 0 0] 31 (0, 0))) := ⟨h3_⟩
     have n4_ : Aside0 (w.heap.size ≤ gb211) := ⟨h4_⟩
     have n5_ : Aside0 (w.heap.size ≤ gb211) := ⟨h5_⟩
     have n6_ : Aside0 (gb200 ≠ gb211) := ⟨h6_⟩
     have n7_ : Aside0 (gb211 ≠ gb200) := ⟨h7_⟩
     have n8_ : Aside0 (gb201 ≠ gb211) := ⟨h8_⟩
     have n9_ : Aside0 (gb211 ≠ gb201) := ⟨h9_⟩
     have n10_ : Aside0 (Below w.heap.size w w30) := ⟨h10_⟩
     clear BK200; clear BK201; clear HB; clear h0_ h1_ h2_ h3_ h4_ h5_ h6_ h7_ h8_ h9_ h10_; have HO209 := n0_; have BK200 := n1_; have BK201 := n2_; have BK211 := n3_; have GW211 := n4_; have GE211 := n5_; have NB200_211 := n6_; have NB211_200 := n7_; have NB201_211 := n8_; have NB211_201 := n9_; have HB := n10_; clear n0_ n1_ n2_ n3_ n4_ n5_ n6_ n7_ n8_ n9_ n10_
     have hHeld : w30.cell? ⟨gb200, 0, none⟩ = some (.slice A0_0 l0_0.length c0_0) := hS_
     obtain ⟨Ao31, co31, eo31⟩ := Kd.R_slice HO209.out
     (first | subst eo31 | (injection eo31 with f1_ f2_ f3_; have f4_ := f1_.symm; have f5_ := f3_.symm; clear f1_ f2_ f3_; subst f4_; subst f5_))
     refine norm_ (a' := ?_) ?_ ?_
     rotate_left
     ·simp only [putAll, Act.put, sia_, scz_, scs_]
      rfl
     refine one_ (i := 9) (N := none) #[true, true, true, true, true, true, true, true, true, true, false] rfl rfl (one_of HT_.out (by kernel_rfl)) (by decide) (fun K hK => ?_)
     have hs32 : w30.cell? ⟨gb211, 0, none⟩ = some (.slice none 0 0) := bc_ BK211 0
     have hfs32 := blk_frozen BK211.out 0
     have hns32_0 := NB200_211.out
     have hns32_1 := NB201_211.out
     have hms32_0 := NB211_200.out
     have hms32_1 := NB211_201.out
     refine skip_ (w1 := ?_) (by rfl) rfl ?_ ?_
     rotate_left
     ·go_simp
      rfl
     refine hK.out _ _ (((cell_far (p := ⟨gb211, _, none⟩) NB200_211.out _).trans (hHeld))) (fun hHeld => ?_)
     clear hK K
     refine pure_ (i := 10) (N := some 11) (v := ?_) (a' := ?_) #[true, true, true, true, true, true, true, true, true, true, true] rfl rfl (any_of HT_.out (by kernel_rfl)) (fun _ _ _ h => h) (Or.inl ⟨by rfl, ?_⟩) ?_ ?_
     rotate_left
     ·intro w'
      go_simp
      with_reducible rfl
     rotate_left
     ·simp only [Act.put, sia_, scz_, scs_, i64_w, i32_w]
      rfl
     refine done_ (done_of HT_.out (by kernel_rfl)) ?_
     have hnb33 := NB211_200.out
     have hnc33 := NB200_211.out
     have hnb34 := NB211_201.out
     have hnc34 := NB201_211.out
     have hcz35_0 : w30.cell? ⟨gb211, 0, none⟩ = some (.slice none 0 0) := bc_ BK211 0
     have hfz35_0 := blk_frozen BK211.out 0
     try go_wp2_with (first | ((with_reducible refine gate_callee (f := 60) rfl ?_); refine goesL_ (some 32) rfl rfl Try.func60 (by kernel_rfl) rfl #[.agg #[.slice Ao31 t207.length co31], .slice A3 l3.length c3] rfl ga_ ?_; (with_reducible refine (impl_LoseDisk.calls k _ _ t207 _ _ l3 t212 t215 _ ?side1 ?side2 ?side3 ?side4 A23.out).mono ?_); (case side1 => refine (Kd.R_reads' (e := 76) (base := w.heap.size) (ok := fun k_ => True) (n := t207.length) (c := co31) ?_).2.2; exact (by (with_reducible repeat (first | apply Kd.R_alloc | apply Kd.R_drewN | apply Kd.R_drew)); exact (Kd.R_mono (Kd.R_far (p := ⟨gb211, 0, none⟩) (Kd.R_types HO209.out BK211.out (by decide)) (fun _ hk => hk.2) (.slice Ao31 t207.length co31)) (fun _ h_ => h_.1)))); (case side2 => exact (Kd.R_reads' HO209.out).2.1); (case side3 => exact Kd.C_below HR3.out (bw_ HB)); (case side4 => exact HC3.out); rintro e w36 ⟨v213, rfl, ho0, hb⟩; refine ⟨_, rfl, ?_⟩; have HO214 := mk_ (Kd.R_lower (Kd.R_new' ho0 (Kd.R_lt (by (with_reducible repeat (first | apply Kd.R_alloc | apply Kd.R_drewN | apply Kd.R_drew)); exact (Kd.R_mono (Kd.R_far (p := ⟨gb211, 0, none⟩) (Kd.R_types HO209.out BK211.out (by decide)) (fun _ hk => hk.2) (.slice Ao31 t207.length co31)) (fun _ h_ => h_.1))))) (below_size (bw_ HB))); replace HO209 := mk_ (Kd.R_elder' (by (with_reducible repeat (first | apply Kd.R_alloc | apply Kd.R_drewN | apply Kd.R_drew)); exact (Kd.R_mono (Kd.R_far (p := ⟨gb211, 0, none⟩) (Kd.R_types HO209.out BK211.out (by decide)) (fun _ hk => hk.2) (.slice Ao31 t207.length co31)) (fun _ h_ => h_.1))) (Kd.R_base ho0) hb); replace BK200 := mk_ (blk_below (g := gb200) (o := .cells #[.slice A0_0 l0_0.length c0_0] 31 (0, 0)) bf_ hb); replace BK201 := mk_ (blk_below (g := gb201) (o := .cells #[.slice none 0 0] 31 (0, 0)) bf_ hb); replace BK211 := mk_ (blk_below (g := gb211) (o := .cells #[.slice Ao31 t207.length co31] 31 (0, 0)) bu_ hb); replace HB := bs_ HB hb; (try clear hb); (try clear hk); (try clear ho0); obtain ⟨Ao37, co37, eo37⟩ := Kd.R_slice HO214.out; subst eo37; have hnb38 := NB201_200.out; have hnc38 := NB200_201.out; obtain ⟨hcz39_0, hfz39_0⟩ := b1_ BK201))
     refine bodyPost_ret (results_ct rfl _ _ gb201 31 #[.slice Ao37 t212.length co37] (0, 0) _ rfl bu_ Try.underlying31 rfl (by kernel_rfl)) rfl ?_
     exact ⟨_, er_, by (with_reducible repeat (first | apply Kd.R_alloc | apply Kd.R_drewN | apply Kd.R_drew)); exact Kd.R_mono (Kd.R_far (p := ⟨gb201, 0, none⟩) (Kd.R_types HO214.out BK201.out (by decide)) (fun _ hk => hk.2) (.slice Ao37 t212.length co37)) (fun _ hk => trivial), bw_ HB⟩
   ·rw [if_neg c8] at H
    exact absurd H (by simp)
  ·rw [if_neg c7] at H
   exact absurd H (by simp)
 ·replace c6 := Bool.eq_false_iff.mpr c6
  subst c6
  have H1 : (some (([] : List (S76)), false)) = some (r1, r2) := by rw [if_neg (show ¬ (false = true) by decide)] at H; exact H
  clear H
  have H := H1
  clear H1
  simp only [Option.some.injEq, Prod.mk.injEq] at H
  obtain ⟨rfl, rfl⟩ := H
  go_enter Try.func27, Try.ntmps27
  go_wp2_with (first | ((with_reducible refine gate_dst (N := 4) rfl ?_); refine bx_ (N := 4) (cs := #[.slice A0_0 l0_0.length c0_0]) (t := 31) ?_; intro gb200 hg w40 hbox hb; have BK200 := mk_ (hbox); have GW200 : Aside0 (w.heap.size ≤ gb200) := bz_ hg; have GE200 := GW200; replace HB := bs_ HB hb; clear hb hbox hg) | ((with_reducible refine gate_dst (N := 8) rfl ?_); refine bx_ (N := 8) (cs := #[.slice none 0 0]) (t := 31) ?_; intro gb201 hg w41 hbox hb; have BK201 := mk_ (hbox); have GW201 : Aside0 (w.heap.size ≤ gb201) := bz_ hg; have GE201 := GW201; have NB200_201 := bl_ BK200 hg; have NB201_200 := bg_ BK200 hg; replace BK200 := bb_ BK200 hb; replace HB := bs_ HB hb; clear hb hbox hg) | ((with_reducible refine gate_callee (f := 59) rfl ?_); refine goesL_ (some 15) rfl rfl Try.func59 (by kernel_rfl) rfl #[.int .i64 a2, .int .i64 0, .int .i64 (l1.length : Int)] rfl ga_ ?_; (with_reducible refine (impl_within.calls a2 0 (l1.length : Int) false _ A5.out).mono ?_); rintro e w' ⟨rfl, ⟨nd, rfl⟩⟩; refine ⟨_, rfl, ?_⟩; (try (rw [drewN_self w41]; generalize hq_ : World.drewN w41 _ = w41; replace BK200 : Aside0 (w41.heap[gb200]? = some (.cells #[.slice A0_0 l0_0.length c0_0] 31 (0, 0))) := ⟨by rw [← hq_]; exact (bp_ BK200)⟩; replace BK201 : Aside0 (w41.heap[gb201]? = some (.cells #[.slice none 0 0] 31 (0, 0))) := ⟨by rw [← hq_]; exact (bp_ BK201)⟩; replace HB : Aside0 (Below w.heap.size w w41) := ⟨by rw [← hq_]; exact (bw_ HB)⟩; clear hq_)); have hnb42 := NB201_200.out; have hnc42 := NB200_201.out; obtain ⟨hcz43_0, hfz43_0⟩ := b1_ BK201))
  refine bodyPost_ret (results_ct rfl _ _ gb201 31 #[.slice none 0 0] (0, 0) _ rfl bu_ Try.underlying31 rfl (by kernel_rfl)) rfl ?_
  exact ⟨_, er_, by first | exact Kd.R_nil _ _ _ _ _ | exact Kd.N_nil _ _ _ _ _ | exact Kd.V_nil _ _ _ _ _ | exact Kd.Q_nil _ _ _ _ _ | exact Kd.S_nil _ _ _ _ _, bw_ HB⟩

/-! ### spec_l01In: function 61 -/
def spec_l01In.f (a0 : Int) (a1 : Int) (a2 : Int) : Option (Bool) := if a0 ≥ a1 then (some (decide (a0 ≤ a2))) else (some false)
set_option maxHeartbeats 8000000 in
set_option maxRecDepth 100000 in
theorem spec_l01In.calls (a0 : Int) (a1 : Int) (a2 : Int) (r : Bool) (w : World) (h : spec_l01In.f a0 a1 a2 = some r) :
  Calls Try.prog 61 #[.int .i64 a0, .int .i64 a1, .int .i64 a2] w fun e w' => e = .returned (.bool r) ∧ Drawn0 w w' := by
 have H : (if a0 ≥ a1 then (some (decide (a0 ≤ a2))) else (some false)) = some r := h
 clear h
 by_cases c4 : a0 ≥ a1
 ·rw [if_pos c4] at H
  have c4b0 : decide (a1 ≤ a0) = true := decide_eq_true c4
  clear c4
  obtain rfl := Option.some.inj H
  go_enter Try.func61, Try.ntmps61
  go_wp2
  go_ret
  exact ⟨by first | rfl | (simp; done) | (simp [*]; done) | (simp [bne]; done), by repeat (first | exact Drawn0.refl _ | apply Drawn0.step)⟩
 ·rw [if_neg c4] at H
  have c4b0 : decide (a1 ≤ a0) = false := decide_eq_false c4
  clear c4
  obtain rfl := Option.some.inj H
  go_enter Try.func61, Try.ntmps61
  go_wp2
  go_ret
  exact ⟨by first | rfl | (simp; done) | (simp [*]; done) | (simp [bne]; done), by repeat (first | exact Drawn0.refl _ | apply Drawn0.step)⟩

/-! ### spec_l03Name: function 39 -/
def spec_l03Name.f (a0 : ByteArray) : Option (Bool) := (spec_l01In.f (a0.size : Int) 1 8).bind fun t216 => (some t216)
set_option maxHeartbeats 8000000 in
set_option maxRecDepth 100000 in
theorem spec_l03Name.calls (a0 : ByteArray) (r : Bool) (w : World) (h : spec_l03Name.f a0 = some r) :
  Calls Try.prog 39 #[.string a0] w fun e w' => e = .returned (.bool r) ∧ Drawn0 w w' := by
 have H : ((spec_l01In.f (a0.size : Int) 1 8).bind fun t216 => (some t216)) = some r := h
 clear h
 replace H := Option.bind_eq_some_iff.mp H
 obtain ⟨t216, A20, H⟩ := H
 replace H : (some t216) = some r := H
 have A2 := Aside0.mk A20
 clear A20
 obtain rfl := Option.some.inj H
 go_enter Try.func39, Try.ntmps39
 go_wp2_with (first | ((with_reducible refine gate_callee (f := 61) rfl ?_); refine goesL_ (some 5) rfl rfl Try.func61 (by kernel_rfl) rfl #[.int .i64 (a0.size : Int), .int .i64 1, .int .i64 8] rfl ga_ ?_; (with_reducible refine (spec_l01In.calls (a0.size : Int) 1 8 t216 _ A2.out).mono ?_); rintro e w' ⟨rfl, ⟨nd, rfl⟩⟩; refine ⟨_, rfl, ?_⟩))
 go_ret
 exact ⟨by first | rfl | (simp; done) | (simp [*]; done) | (simp [bne]; done), by repeat (first | exact Drawn0.refl _ | apply Drawn0.step)⟩

end Go.Proofs.Ythbaoefbccdioaa.QFnExactCutActs
