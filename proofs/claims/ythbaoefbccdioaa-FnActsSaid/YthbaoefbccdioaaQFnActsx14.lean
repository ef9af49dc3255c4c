/- Written by this session's own program (wip/tpl/pp.py): what the law's functions come to, and that the machine's calls do just that. -/
import Derived.Test.YthbaoefbccdioaaTMPack
import Derived.Test.YthbaoefbccdioaaQFnActsx0
import Derived.Test.YthbaoefbccdioaaQFnActsx2
import Derived.Test.YthbaoefbccdioaaQFnActsx9
import Derived.Test.YthbaoefbccdioaaQFnActsx13
namespace Go.Proofs.Ythbaoefbccdioaa.QFnActs
open Go.RowKit Go.Proofs.YthbaoefbccdioaaW.PrintWords Go.Proofs.YthbaoefbccdioaaW.PrintLast Go.Proofs.YthbaoefbccdioaaW.PrintMore
attribute [local go_sem] Go.Proofs.Ythbaoefbccdioaa.Sem.string_geq Go.Proofs.Ythbaoefbccdioaa.Sem.string_leq Go.Proofs.Ythbaoefbccdioaa.Sem.string_gtr
attribute [local go_sem] max2_int min2_int max_two min_two max_three min_three max_four min_four   -- for this text's walks alone
set_option linter.unusedVariables false
set_option linter.unusedSimpArgs false

/-! ### impl_CutActs: function 27 -/
def impl_CutActs.f (k : Nat) (l0_0 : List (S76)) (l1 : List (S35)) (a2 : Int) (l3 : List Int) : Option ((List (S76)) × Bool) := (impl_within.f a2 0 (l1.length : Int)).bind fun t440 => (if t440 = true then (if 0 ≤ a2 then (if a2 ≤ (l1.length : Int) then ((impl_DoActs.f k l0_0 (l1.take (a2 : Int).toNat)).bind fun bt445 => (if bt445.2 < a2 then (some (([] : List (S76)), false)) else ((impl_LoseDisk.f k bt445.1 l3).bind fun bt450 => (some (bt450.1, bt450.2))))) else (none)) else (none)) else (some (([] : List (S76)), false)))
theorem impl_CutActs.mono : ∀ a0 a1 a2 a3 k, LeO (impl_CutActs.f k a0 a1 a2 a3) (impl_CutActs.f (k + 1) a0 a1 a2 a3) := by
 intro a0 a1 a2 a3 k
 unfold impl_CutActs.f
 repeat' first
   | (with_reducible exact impl_DoActs.mono _ _ _)
   | (with_reducible exact impl_LoseDisk.mono _ _ _)
   | (with_reducible exact LeO.refl _)
   | (with_reducible refine LeO.ite ?_ ?_)
   | (with_reducible refine LeO.bind ?_ (fun _ => ?_))
def impl_CutActs.T3 : Bool × List (List Nat × List Nat) := (true, [([], []), ([], []), ([], []), ([1, 2], [1, 2]), ([0, 3], [0, 3]), ([4], [4]), ([5], [5]), ([5], [5]), ([], []), ([8, 6, 4, 0, 1, 2, 3, 4, 5, 6, 8], [6, 8]), ([7, 9, 0, 1, 2, 3, 4, 5, 6, 7, 8, 9], [7])])
def impl_CutActs.B3 : List Nat := [0, 0, 0, 6, 15, 31, 63, 63, 0, 383, 1023]
theorem impl_CutActs.tab3 : rtab .any (opsOf Try.f27 3) = impl_CutActs.T3 := by kernel_rfl
theorem impl_CutActs.bits3 : waitsOk impl_CutActs.T3.2 impl_CutActs.B3 = true := by kernel_rfl
set_option maxHeartbeats 8000000 in
set_option maxRecDepth 100000 in
theorem impl_CutActs.calls (k : Nat) (A0_0 : Option Addr) (c0_0 : Nat) (l0_0 : List (S76)) (A1 : Option Addr) (c1 : Nat) (l1 : List (S35)) (a2 : Int) (A3 : Option Addr) (c3 : Nat) (l3 : List Int) (r1 : List (S76)) (r2 : Bool) (w : World) (hr0_0 : Kd.C k76 w A0_0 l0_0.length l0_0) (hc0_0 : l0_0.length ≤ c0_0) (hr1 : Kd.C k35 w A1 l1.length l1) (hc1 : l1.length ≤ c1) (hr3 : Kd.C (Kd.int .i64) w A3 l3.length l3) (hc3 : l3.length ≤ c3) (h : impl_CutActs.f k l0_0 l1 a2 l3 = some (r1, r2)) :
  Calls Try.prog 27 #[.agg #[.slice A0_0 l0_0.length c0_0], .slice A1 l1.length c1, .int .i64 a2, .slice A3 l3.length c3] w fun e w' => ∃ v0_ : Value, e = .returned (.tuple #[.agg #[v0_], .bool r2]) ∧ Kd.R k76 76 w' w.heap.size (fun _ => True) v0_ r1 ∧ Below w.heap.size w w' := by
 have hu31 := Try.underlying31
 have HR0_0 := Aside0.mk hr0_0
 have HC0_0 := Aside0.mk hc0_0
 clear hr0_0 hc0_0
 have HR1 := Aside0.mk hr1
 have HC1 := Aside0.mk hc1
 clear hr1 hc1
 have HR3 := Aside0.mk hr3
 have HC3 := Aside0.mk hc3
 clear hr3 hc3
 have HB := mk_ (Below.refl w.heap.size w)
 have H : ((impl_within.f a2 0 (l1.length : Int)).bind fun t440 => (if t440 = true then (if 0 ≤ a2 then (if a2 ≤ (l1.length : Int) then ((impl_DoActs.f k l0_0 (l1.take (a2 : Int).toNat)).bind fun bt445 => (if bt445.2 < a2 then (some (([] : List (S76)), false)) else ((impl_LoseDisk.f k bt445.1 l3).bind fun bt450 => (some (bt450.1, bt450.2))))) else (none)) else (none)) else (some (([] : List (S76)), false)))) = some (r1, r2) := h
 clear h
 replace H := Option.bind_eq_some_iff.mp H
 obtain ⟨t440, A50, H⟩ := H
 try dsimp only at H
 have A5 := Aside0.mk A50
 clear A50
 by_cases c6 : t440 = true
 rotate_left
 ·replace c6 := Bool.eq_false_iff.mpr c6
  subst c6
  rw [if_neg (show ¬ (false = true) by decide)] at H
  simp only [Option.some.injEq, Prod.mk.injEq] at H
  obtain ⟨rfl, rfl⟩ := H
  go_enter Try.func27, Try.ntmps27
  go_wp2_with (first | ((with_reducible refine gate_dst (N := 4) rfl ?_); refine bx_ (N := 4) (cs := #[.slice A0_0 l0_0.length c0_0]) (t := 31) ?_; intro gb438 hg w40 hbox hb; have BK438 := mk_ (hbox); have GW438 : Aside0 (w.heap.size ≤ gb438) := bz_ hg; have GE438 := GW438; replace HB := bs_ HB hb; clear hb hbox hg) | ((with_reducible refine gate_dst (N := 8) rfl ?_); refine bx_ (N := 8) (cs := #[.slice none 0 0]) (t := 31) ?_; intro gb439 hg w41 hbox hb; have BK439 := mk_ (hbox); have GW439 : Aside0 (w.heap.size ≤ gb439) := bz_ hg; have GE439 := GW439; have NB438_439 := bl_ BK438 hg; have NB439_438 := bg_ BK438 hg; replace BK438 := bb_ BK438 hb; replace HB := bs_ HB hb; clear hb hbox hg) | ((with_reducible refine gate_callee (f := 59) rfl ?_); refine gl_ 15 Try.func59 #[.int .i64 a2, .int .i64 0, .int .i64 (l1.length : Int)] ?_; (with_reducible refine (impl_within.calls a2 0 (l1.length : Int) false _ A5.out).mono ?_); rintro e w' ⟨rfl, ⟨nd, rfl⟩⟩; refine ⟨_, rfl, ?_⟩; (try (rw [drewN_self w41]; generalize hq_ : World.drewN w41 _ = w41; replace BK438 : Aside0 (w41.heap[gb438]? = some (.cells #[.slice A0_0 l0_0.length c0_0] 31 (0, 0))) := ⟨by rw [← hq_]; exact (bp_ BK438)⟩; replace BK439 : Aside0 (w41.heap[gb439]? = some (.cells #[.slice none 0 0] 31 (0, 0))) := ⟨by rw [← hq_]; exact (bp_ BK439)⟩; replace HB : Aside0 (Below w.heap.size w w41) := ⟨by rw [← hq_]; exact (bw_ HB)⟩; clear hq_)); obtain ⟨hnb42, hnc42⟩ := ns_ NB439_438; obtain ⟨hcz43_0, hfz43_0⟩ := b1_ BK439))
  refine bodyPost_ret (results_ct rfl _ _ gb439 31 #[.slice none 0 0] (0, 0) _ rfl bu_ Try.underlying31 rfl (by kernel_rfl)) rfl ?_
  exact ⟨_, er_, by first | exact Kd.R_nil _ _ _ _ _ | exact Kd.N_nil _ _ _ _ _ | exact Kd.V_nil _ _ _ _ _ | exact Kd.Q_nil _ _ _ _ _ | exact Kd.S_nil _ _ _ _ _, bw_ HB⟩
 subst c6
 rw [if_pos rfl] at H
 by_cases c7 : 0 ≤ a2
 rotate_left
 ·rw [if_neg c7] at H
  exact absurd H (by simp)
 rw [if_pos c7] at H
 have c7b0 := eq_true c7
 have c7b1 : decide (0 ≤ a2) = true := decide_eq_true c7
 clear c7
 by_cases c8 : a2 ≤ (l1.length : Int)
 rotate_left
 ·rw [if_neg c8] at H
  exact absurd H (by simp)
 rw [if_pos c8] at H
 have c8b0 := eq_true c8
 have c8b1 : decide (a2 ≤ (l1.length : Int)) = true := decide_eq_true c8
 clear c8
 obtain ⟨y441, hy441⟩ : ∃ y_ : List (S35), y_ = (l1.take (a2 : Int).toNat) := ⟨_, rfl⟩
 replace H : ((impl_DoActs.f k l0_0 y441).bind fun bt445 => (if bt445.2 < a2 then (some (([] : List (S76)), false)) else ((impl_LoseDisk.f k bt445.1 l3).bind fun bt450 => (some (bt450.1, bt450.2))))) = some (r1, r2) := by first | (rw [hy441]; with_reducible exact H) | (have H2_ := (Option.bind_some _ _).symm.trans H; rw [hy441]; with_reducible exact H2_) | (have H2_ := (Option.bind_some _ _).symm.trans H; with_reducible exact H2_) | with_reducible exact H | (rw [hy441]; exact H) | exact H
 have Ny441 := Aside0.mk hy441
 clear hy441
 replace H := Option.bind_eq_some_iff.mp H
 obtain ⟨⟨t445, t448⟩, A90, H⟩ := H
 try dsimp only at H
 have A9 := Aside0.mk A90
 clear A90
 by_cases c10 : t448 < a2
 ·rw [if_pos c10] at H
  have c10b0 : decide (t448 < a2) = true := decide_eq_true c10
  clear c10
  simp only [Option.some.injEq, Prod.mk.injEq] at H
  obtain ⟨rfl, rfl⟩ := H
  go_enter Try.func27, Try.ntmps27
  try go_wp2_with (first | ((with_reducible refine gate_dst (N := 4) rfl ?_); refine bx_ (N := 4) (cs := #[.slice A0_0 l0_0.length c0_0]) (t := 31) ?_; intro gb438 hg w11 hbox hb; have BK438 := mk_ (hbox); have GW438 : Aside0 (w.heap.size ≤ gb438) := bz_ hg; have GE438 := GW438; replace HB := bs_ HB hb; clear hb hbox hg) | ((with_reducible refine gate_dst (N := 8) rfl ?_); refine bx_ (N := 8) (cs := #[.slice none 0 0]) (t := 31) ?_; intro gb439 hg w12 hbox hb; have BK439 := mk_ (hbox); have GW439 : Aside0 (w.heap.size ≤ gb439) := bz_ hg; have GE439 := GW439; have NB438_439 := bl_ BK438 hg; have NB439_438 := bg_ BK438 hg; replace BK438 := bb_ BK438 hb; replace HB := bs_ HB hb; clear hb hbox hg) | ((with_reducible refine gate_callee (f := 59) rfl ?_); refine gl_ 15 Try.func59 #[.int .i64 a2, .int .i64 0, .int .i64 (l1.length : Int)] ?_; (with_reducible refine (impl_within.calls a2 0 (l1.length : Int) true _ A5.out).mono ?_); rintro e w' ⟨rfl, ⟨nd, rfl⟩⟩; refine ⟨_, rfl, ?_⟩; (try (rw [drewN_self w12]; generalize hq_ : World.drewN w12 _ = w12; replace BK438 : Aside0 (w12.heap[gb438]? = some (.cells #[.slice A0_0 l0_0.length c0_0] 31 (0, 0))) := ⟨by rw [← hq_]; exact (bp_ BK438)⟩; replace BK439 : Aside0 (w12.heap[gb439]? = some (.cells #[.slice none 0 0] 31 (0, 0))) := ⟨by rw [← hq_]; exact (bp_ BK439)⟩; replace HB : Aside0 (Below w.heap.size w w12) := ⟨by rw [← hq_]; exact (bw_ HB)⟩; clear hq_))))
  replace BK438 := kd_ BK438; replace BK439 := kd_ BK439; replace HB := wd_ HB
  have q14 : (a2 : Int) ≤ ((l1.length : Int) : Int) := od_
  obtain ⟨i014, hi014, _, hsz14, _⟩ := info_parts info35
  have hroom14 : l1.length ≤ c1 := HC1.out
  have hC14 : Kd.C k35 _ A1 l1.length l1 := HR1.out
  have hcut14 := cut_to (P := Try.prog) 44 35 .i64 Try.underlying44 hi014 A1 l1.length c1 a2 (od_) q14 hroom14
  have hr14 := Kd.C_take (m := (a2 : Int).toNat) hC14 (by omega)
  have hy14 : y441.length = (a2 : Int).toNat := (by rw [Ny441.out, List.length_take]; omega)
  rw [← Ny441.out] at hr14
  rw [← hy14] at hcut14
  have HR444 := Aside0.mk hr14
  have HC444 := mk_ (show y441.length ≤ c1 from by omega)
  clear hr14 hC14 hroom14 hi014 hsz14
  have KY14 := Aside0.mk hy14
  clear hy14
  replace q14 := eq_true q14
  refine start_ (n := 11) (S := fun w' => w'.cell? ⟨gb438, 0, none⟩ = some (.slice A0_0 l0_0.length c0_0)) (ds := []) #[false, false, false, false, false, false, false, false, false, false, false] (by kernel_rfl) rfl rfl (bc_ BK438 0) (fun hHeld => ?_); refine with_tabW impl_CutActs.tab3 impl_CutActs.bits3 (fun HT_ HW_ => ?_)
  generalize w12.drew = w13 at BK438 BK439 HB HR444 hHeld ⊢
  refine pv_ 1 20 ?_
  refine pv_ 2 21 ?_
  refine pv_ 3 22 ?_
  refine take_ (i := 0) (N := some 19) (v := ?_) (a' := ?_) #[true, true, true, true, false, false, false, false, false, false, false] rfl rfl (take_ofW HT_.out HW_.out (by kernel_rfl)) (fun _ _ _ h => h) (Or.inl ⟨by rfl, ?_⟩) hHeld ?_ ?_
  rotate_left
  ·intro w' s0
   go_simp
   with_reducible rfl
  rotate_left
  ·simp only [Act.put, sia_, scz_, scs_, i64_w, i32_w]
   rfl
  refine join_ (σ := Value × Nat) 2 #[true, true, true, true, true, true, true, true, true, false, false] (fun s_ => [(23, .tuple #[.agg #[s_.1], .int .i64 t448]), (10, .pointer (some ⟨s_.2, 0, none⟩)), (18, .tuple #[.agg #[s_.1], .int .i64 t448]), (24, .agg #[s_.1]), (25, .int .i64 t448)]) (fun s_ w' => (w'.cell? ⟨gb438, 0, none⟩ = some (.slice A0_0 l0_0.length c0_0)) ∧ (Kd.R k76 76 w' w.heap.size (fun _ => True) s_.1 t445) ∧ (w'.heap[gb438]? = some (.cells #[.slice A0_0 l0_0.length c0_0] 31 (0, 0))) ∧ (w'.heap[gb439]? = some (.cells #[.slice none 0 0] 31 (0, 0))) ∧ (w'.heap[s_.2]? = some (.cells #[.slice none 0 0] 31 (0, 0))) ∧ (w.heap.size ≤ s_.2) ∧ (w.heap.size ≤ s_.2) ∧ (gb438 ≠ s_.2) ∧ (s_.2 ≠ gb438) ∧ (gb439 ≠ s_.2) ∧ (s_.2 ≠ gb439) ∧ (Below w.heap.size w w')) ?_ ?_
  rotate_left
  ·intro hCont
   refine two_ (i := 4) (j := 8) (Ni := some 23) (Nj := some 10) #[true, true, true, true, true, false, false, false, false, false, false] #[true, true, true, true, false, false, false, false, true, false, false] rfl rfl rfl rfl (two_of HT_.out (by kernel_rfl)) (by decide) (by decide) (fun K hK => ?_) (fun K hK => ?_)
   rotate_left
   ·skip
    refine box_step ?hg (N := 10) ?hd (cs := #[.slice none 0 0]) (t := 31) ?hr ?_; (case hd => rfl); (case hg => rfl); (case hr => first | (go_simp; done) | (go_simp; rfl))
    intro gb449 hg w15 hbox hb
    have n3_ := mk_ (hbox)
    have n4_ : Aside0 (w.heap.size ≤ gb449) := bz_ hg
    have n5_ : Aside0 (w.heap.size ≤ gb449) := bz_ hg
    have n6_ : Aside0 (gb438 ≠ gb449) := bl_ BK438 hg
    have n7_ : Aside0 (gb449 ≠ gb438) := bg_ BK438 hg
    have n8_ : Aside0 (gb439 ≠ gb449) := bl_ BK439 hg
    have n9_ : Aside0 (gb449 ≠ gb439) := bg_ BK439 hg
    have BK449 := n3_; have GW449 := n4_; have GE449 := n5_; have NB438_449 := n6_; have NB449_438 := n7_; have NB439_449 := n8_; have NB449_439 := n9_; clear n3_ n4_ n5_ n6_ n7_ n8_ n9_; replace BK438 := bb_ BK438 hb; replace BK439 := bb_ BK439 hb; replace HB := bs_ HB hb; clear hb hbox hg
    refine hK.out _ _ (bc_ BK438 0) (fun hHeld => ?_)
    clear hK K
    refine norm_ (a' := ?_) ?_ ?_
    rotate_left
    ·show Act.put _ (some 10) _ = _
     simp only [Act.put, sia_, scz_, scs_, i64_w, i32_w]
     rfl
    refine one_ (i := 4) (N := some 23) #[true, true, true, true, true, false, false, false, true, false, false] rfl rfl (one_of HT_.out (by kernel_rfl)) (by decide) (fun K hK => ?_)
    refine goes_ Try.func20 (by kernel_rfl) rfl #[.agg #[.slice A0_0 l0_0.length c0_0], .slice A1 y441.length c1] (by rfl) rfl rfl ga_ ?_
    with_reducible refine (impl_DoActs.calls k _ _ l0_0 _ _ y441 t445 t448 _ ?side1 ?side2 ?side3 ?side4 A9.out).mono ?_
    (case side1 => exact cb_ HR0_0 HB)
    (case side2 => exact HC0_0.out)
    (case side3 => exact cb_ HR444 HB)
    (case side4 => exact HC444.out)
    rintro e w16 ⟨v446, rfl, ho0, hb⟩
    refine ⟨_, rfl, ?_⟩
    have n0_ := mk_ (Kd.R_lower ho0 (below_size (bw_ HB)))
    have HO447 := n0_; clear n0_; replace BK438 := bb_ BK438 hb; replace BK439 := bb_ BK439 hb; replace BK449 := bb_ BK449 hb; replace HB := bs_ HB hb; (try clear hb); (try clear hb2); (try clear hk); (try clear hi); (try clear ho0)
    refine hK.out _ _ (bc_ BK438 0) (fun hHeld => ?_)
    clear hK K
    refine norm_ (a' := ?_) ?_ ?_
    rotate_left
    ·show Act.put _ (some 23) _ = _
     simp only [Act.put, sia_, scz_, scs_, i64_w, i32_w]
     rfl
    refine pv_ 5 18 ?_
    refine pv_ 6 24 ?_
    refine pv_ 7 25 ?_
    exact norm_ (by simp only [putAll, Act.put, sia_, scz_, scs_]) (hCont (v446, gb449) _ ⟨hHeld, (rp_ HO447), (bp_ BK438), (bp_ BK439), (bp_ BK449), GW449.out, GE449.out, NB438_449.out, NB449_438.out, NB439_449.out, NB449_439.out, (bw_ HB)⟩)
   skip
   refine goes_ Try.func20 (by kernel_rfl) rfl #[.agg #[.slice A0_0 l0_0.length c0_0], .slice A1 y441.length c1] (by rfl) rfl rfl ga_ ?_
   with_reducible refine (impl_DoActs.calls k _ _ l0_0 _ _ y441 t445 t448 _ ?side1 ?side2 ?side3 ?side4 A9.out).mono ?_
   (case side1 => exact cb_ HR0_0 HB)
   (case side2 => exact HC0_0.out)
   (case side3 => exact cb_ HR444 HB)
   (case side4 => exact HC444.out)
   rintro e w15 ⟨v446, rfl, ho0, hb⟩
   refine ⟨_, rfl, ?_⟩
   have n0_ := mk_ (Kd.R_lower ho0 (below_size (bw_ HB)))
   have HO447 := n0_; clear n0_; replace BK438 := bb_ BK438 hb; replace BK439 := bb_ BK439 hb; replace HB := bs_ HB hb; (try clear hb); (try clear hb2); (try clear hk); (try clear hi); (try clear ho0)
   refine hK.out _ _ (bc_ BK438 0) (fun hHeld => ?_)
   clear hK K
   refine norm_ (a' := ?_) ?_ ?_
   rotate_left
   ·show Act.put _ (some 23) _ = _
    simp only [Act.put, sia_, scz_, scs_, i64_w, i32_w]
    rfl
   refine pv_ 5 18 ?_
   refine pv_ 6 24 ?_
   refine pv_ 7 25 ?_
   refine one_ (i := 8) (N := some 10) #[true, true, true, true, true, true, true, true, true, false, false] rfl rfl (one_of HT_.out (by kernel_rfl)) (by decide) (fun K hK => ?_)
   refine box_step ?hg (N := 10) ?hd (cs := #[.slice none 0 0]) (t := 31) ?hr ?_; (case hd => rfl); (case hg => rfl); (case hr => first | (go_simp; done) | (go_simp; rfl))
   intro gb449 hg w16 hbox hb
   have n4_ := mk_ (hbox)
   have n5_ : Aside0 (w.heap.size ≤ gb449) := bz_ hg
   have n6_ : Aside0 (w.heap.size ≤ gb449) := bz_ hg
   have n7_ : Aside0 (gb438 ≠ gb449) := bl_ BK438 hg
   have n8_ : Aside0 (gb449 ≠ gb438) := bg_ BK438 hg
   have n9_ : Aside0 (gb439 ≠ gb449) := bl_ BK439 hg
   have n10_ : Aside0 (gb449 ≠ gb439) := bg_ BK439 hg
   have BK449 := n4_; have GW449 := n5_; have GE449 := n6_; have NB438_449 := n7_; have NB449_438 := n8_; have NB439_449 := n9_; have NB449_439 := n10_; clear n4_ n5_ n6_ n7_ n8_ n9_ n10_; replace HO447 := rb_ HO447 hb; replace BK438 := bb_ BK438 hb; replace BK439 := bb_ BK439 hb; replace HB := bs_ HB hb; clear hb hbox hg
   refine hK.out _ _ (bc_ BK438 0) (fun hHeld => ?_)
   clear hK K
   refine norm_ (a' := ?_) ?_ ?_
   rotate_left
   ·show Act.put _ (some 10) _ = _
    simp only [Act.put, sia_, scz_, scs_, i64_w, i32_w]
    rfl
   exact norm_ (by simp only [putAll, Act.put, sia_, scz_, scs_]) (hCont (v446, gb449) _ ⟨hHeld, (rp_ HO447), (bp_ BK438), (bp_ BK439), (bp_ BK449), GW449.out, GE449.out, NB438_449.out, NB449_438.out, NB439_449.out, NB449_439.out, (bw_ HB)⟩)
  rintro ⟨v446, gb449⟩ w17 ⟨hS_, h0_, h1_, h2_, h3_, h4_, h5_, h6_, h7_, h8_, h9_, h10_⟩
  have n0_ : Aside0 (Kd.R k76 76 w17 w.heap.size (fun _ => True) v446 t445) := ⟨h0_⟩
  have n1_ : Aside0 (w17.heap[gb438]? = some (.cells #[.slice A0_0 l0_0.length c0_0] 31 (0, 0))) := ⟨h1_⟩
  have n2_ : Aside0 (w17.heap[gb439]? = some (.cells #[.slice none 0 0] 31 (0, 0))) := ⟨h2_⟩
  have n3_ : Aside0 (w17.heap[gb449]? = some (.cells #[.slice none 0 0] 31 (0, 0))) := ⟨h3_⟩
  have n4_ : Aside0 (w.heap.size ≤ gb449) := ⟨h4_⟩
  have n5_ : Aside0 (w.heap.size ≤ gb449) := ⟨h5_⟩
  have n6_ : Aside0 (gb438 ≠ gb449) := ⟨h6_⟩
  have n7_ : Aside0 (gb449 ≠ gb438) := ⟨h7_⟩
  have n8_ : Aside0 (gb439 ≠ gb449) := ⟨h8_⟩
  have n9_ : Aside0 (gb449 ≠ gb439) := ⟨h9_⟩
  have n10_ : Aside0 (Below w.heap.size w w17) := ⟨h10_⟩
  clear BK438; clear BK439; clear HB; clear h0_ h1_ h2_ h3_ h4_ h5_ h6_ h7_ h8_ h9_ h10_; have HO447 := n0_; have BK438 := n1_; have BK439 := n2_; have BK449 := n3_; have GW449 := n4_; have GE449 := n5_; have NB438_449 := n6_; have NB449_438 := n7_; have NB439_449 := n8_; have NB449_439 := n9_; have HB := n10_; clear n0_ n1_ n2_ n3_ n4_ n5_ n6_ n7_ n8_ n9_ n10_
  have hHeld : w17.cell? ⟨gb438, 0, none⟩ = some (.slice A0_0 l0_0.length c0_0) := hS_
  obtain ⟨Ao18, co18, eo18⟩ := Kd.R_slice HO447.out
  (first | subst eo18 | (injection eo18 with f1_ f2_ f3_; have f4_ := f1_.symm; have f5_ := f3_.symm; clear f1_ f2_ f3_; subst f4_; subst f5_))
  refine norm_ (a' := ?_) ?_ ?_
  rotate_left
  ·simp only [putAll, Act.put, sia_, scz_, scs_]
   rfl
  refine one_ (i := 9) (N := none) #[true, true, true, true, true, true, true, true, true, true, false] rfl rfl (one_of HT_.out (by kernel_rfl)) (by decide) (fun K hK => ?_)
  have hs19 : w17.cell? ⟨gb449, 0, none⟩ = some (.slice none 0 0) := bc_ BK449 0
  have hfs19 := blk_frozen BK449.out 0
  have hns19_0 := NB438_449.out
  have hns19_1 := NB439_449.out
  have hms19_0 := NB449_438.out
  have hms19_1 := NB449_439.out
  refine skip_ (w1 := ?_) (by rfl) rfl ?_ ?_
  rotate_left
  ·go_simp
   rfl
  refine hK.out _ _ (((cell_far (p := ⟨gb449, _, none⟩) NB438_449.out _).trans (hHeld))) (fun hHeld => ?_)
  clear hK K
  refine pv_ 10 11 ?_
  refine done_ (done_of HT_.out (by kernel_rfl)) ?_
  obtain ⟨hnb20, hnc20⟩ := ns_ NB439_438
  obtain ⟨hnb21, hnc21⟩ := ns_ NB439_449
  have hcz22_0 : w17.cell? ⟨gb439, 0, none⟩ = some (.slice none 0 0) := bc_ BK439 0
  have hfz22_0 := blk_frozen BK439.out 0
  try go_wp2
  refine bodyPost_ret (results_ct rfl _ _ gb439 31 #[.slice none 0 0] (0, 0) _ rfl bu_ Try.underlying31 rfl (by kernel_rfl)) rfl ?_
  exact ⟨_, er_, by first | exact Kd.R_nil _ _ _ _ _ | exact Kd.N_nil _ _ _ _ _ | exact Kd.V_nil _ _ _ _ _ | exact Kd.Q_nil _ _ _ _ _ | exact Kd.S_nil _ _ _ _ _, bw_ HB⟩
 rw [if_neg c10] at H
 have c10b0 : decide (t448 < a2) = false := decide_eq_false c10
 clear c10
 replace H := Option.bind_eq_some_iff.mp H
 obtain ⟨⟨t450, t453⟩, A230, H⟩ := H
 try dsimp only at H
 have A23 := Aside0.mk A230
 clear A230
 simp only [Option.some.injEq, Prod.mk.injEq] at H
 obtain ⟨rfl, rfl⟩ := H
 go_enter Try.func27, Try.ntmps27
 try go_wp2_with (first | ((with_reducible refine gate_dst (N := 4) rfl ?_); refine bx_ (N := 4) (cs := #[.slice A0_0 l0_0.length c0_0]) (t := 31) ?_; intro gb438 hg w24 hbox hb; have BK438 := mk_ (hbox); have GW438 : Aside0 (w.heap.size ≤ gb438) := bz_ hg; have GE438 := GW438; replace HB := bs_ HB hb; clear hb hbox hg) | ((with_reducible refine gate_dst (N := 8) rfl ?_); refine bx_ (N := 8) (cs := #[.slice none 0 0]) (t := 31) ?_; intro gb439 hg w25 hbox hb; have BK439 := mk_ (hbox); have GW439 : Aside0 (w.heap.size ≤ gb439) := bz_ hg; have GE439 := GW439; have NB438_439 := bl_ BK438 hg; have NB439_438 := bg_ BK438 hg; replace BK438 := bb_ BK438 hb; replace HB := bs_ HB hb; clear hb hbox hg) | ((with_reducible refine gate_callee (f := 59) rfl ?_); refine gl_ 15 Try.func59 #[.int .i64 a2, .int .i64 0, .int .i64 (l1.length : Int)] ?_; (with_reducible refine (impl_within.calls a2 0 (l1.length : Int) true _ A5.out).mono ?_); rintro e w' ⟨rfl, ⟨nd, rfl⟩⟩; refine ⟨_, rfl, ?_⟩; (try (rw [drewN_self w25]; generalize hq_ : World.drewN w25 _ = w25; replace BK438 : Aside0 (w25.heap[gb438]? = some (.cells #[.slice A0_0 l0_0.length c0_0] 31 (0, 0))) := ⟨by rw [← hq_]; exact (bp_ BK438)⟩; replace BK439 : Aside0 (w25.heap[gb439]? = some (.cells #[.slice none 0 0] 31 (0, 0))) := ⟨by rw [← hq_]; exact (bp_ BK439)⟩; replace HB : Aside0 (Below w.heap.size w w25) := ⟨by rw [← hq_]; exact (bw_ HB)⟩; clear hq_))))
 replace BK438 := kd_ BK438; replace BK439 := kd_ BK439; replace HB := wd_ HB
 have q27 : (a2 : Int) ≤ ((l1.length : Int) : Int) := od_
 obtain ⟨i027, hi027, _, hsz27, _⟩ := info_parts info35
 have hroom27 : l1.length ≤ c1 := HC1.out
 have hC27 : Kd.C k35 _ A1 l1.length l1 := HR1.out
 have hcut27 := cut_to (P := Try.prog) 44 35 .i64 Try.underlying44 hi027 A1 l1.length c1 a2 (od_) q27 hroom27
 have hr27 := Kd.C_take (m := (a2 : Int).toNat) hC27 (by omega)
 have hy27 : y441.length = (a2 : Int).toNat := (by rw [Ny441.out, List.length_take]; omega)
 rw [← Ny441.out] at hr27
 rw [← hy27] at hcut27
 have HR444 := Aside0.mk hr27
 have HC444 := mk_ (show y441.length ≤ c1 from by omega)
 clear hr27 hC27 hroom27 hi027 hsz27
 have KY27 := Aside0.mk hy27
 clear hy27
 replace q27 := eq_true q27
 refine start_ (n := 11) (S := fun w' => w'.cell? ⟨gb438, 0, none⟩ = some (.slice A0_0 l0_0.length c0_0)) (ds := []) #[false, false, false, false, false, false, false, false, false, false, false] (by kernel_rfl) rfl rfl (bc_ BK438 0) (fun hHeld => ?_); refine with_tabW impl_CutActs.tab3 impl_CutActs.bits3 (fun HT_ HW_ => ?_)
 generalize w25.drew = w26 at BK438 BK439 HB HR444 hHeld ⊢
 refine pv_ 1 20 ?_
 refine pv_ 2 21 ?_
 refine pv_ 3 22 ?_
 refine take_ (i := 0) (N := some 19) (v := ?_) (a' := ?_) #[true, true, true, true, false, false, false, false, false, false, false] rfl rfl (take_ofW HT_.out HW_.out (by kernel_rfl)) (fun _ _ _ h => h) (Or.inl ⟨by rfl, ?_⟩) hHeld ?_ ?_
 rotate_left
 ·intro w' s0
  go_simp
  with_reducible rfl
 rotate_left
 ·simp only [Act.put, sia_, scz_, scs_, i64_w, i32_w]
  rfl
 refine join_ (σ := Value × Nat) 2 #[true, true, true, true, true, true, true, true, true, false, false] (fun s_ => [(23, .tuple #[.agg #[s_.1], .int .i64 t448]), (10, .pointer (some ⟨s_.2, 0, none⟩)), (18, .tuple #[.agg #[s_.1], .int .i64 t448]), (24, .agg #[s_.1]), (25, .int .i64 t448)]) (fun s_ w' => (w'.cell? ⟨gb438, 0, none⟩ = some (.slice A0_0 l0_0.length c0_0)) ∧ (Kd.R k76 76 w' w.heap.size (fun _ => True) s_.1 t445) ∧ (w'.heap[gb438]? = some (.cells #[.slice A0_0 l0_0.length c0_0] 31 (0, 0))) ∧ (w'.heap[gb439]? = some (.cells #[.slice none 0 0] 31 (0, 0))) ∧ (w'.heap[s_.2]? = some (.cells #[.slice none 0 0] 31 (0, 0))) ∧ (w.heap.size ≤ s_.2) ∧ (w.heap.size ≤ s_.2) ∧ (gb438 ≠ s_.2) ∧ (s_.2 ≠ gb438) ∧ (gb439 ≠ s_.2) ∧ (s_.2 ≠ gb439) ∧ (Below w.heap.size w w')) ?_ ?_
 rotate_left
 ·intro hCont
  refine two_ (i := 4) (j := 8) (Ni := some 23) (Nj := some 10) #[true, true, true, true, true, false, false, false, false, false, false] #[true, true, true, true, false, false, false, false, true, false, false] rfl rfl rfl rfl (two_of HT_.out (by kernel_rfl)) (by decide) (by decide) (fun K hK => ?_) (fun K hK => ?_)
  rotate_left
  ·skip
   refine box_step ?hg (N := 10) ?hd (cs := #[.slice none 0 0]) (t := 31) ?hr ?_; (case hd => rfl); (case hg => rfl); (case hr => first | (go_simp; done) | (go_simp; rfl))
   intro gb449 hg w28 hbox hb
   have n3_ := mk_ (hbox)
   have n4_ : Aside0 (w.heap.size ≤ gb449) := bz_ hg
   have n5_ : Aside0 (w.heap.size ≤ gb449) := bz_ hg
   have n6_ : Aside0 (gb438 ≠ gb449) := bl_ BK438 hg
   have n7_ : Aside0 (gb449 ≠ gb438) := bg_ BK438 hg
   have n8_ : Aside0 (gb439 ≠ gb449) := bl_ BK439 hg
   have n9_ : Aside0 (gb449 ≠ gb439) := bg_ BK439 hg
   have BK449 := n3_; have GW449 := n4_; have GE449 := n5_; have NB438_449 := n6_; have NB449_438 := n7_; have NB439_449 := n8_; have NB449_439 := n9_; clear n3_ n4_ n5_ n6_ n7_ n8_ n9_; replace BK438 := bb_ BK438 hb; replace BK439 := bb_ BK439 hb; replace HB := bs_ HB hb; clear hb hbox hg
   refine hK.out _ _ (bc_ BK438 0) (fun hHeld => ?_)
   clear hK K
   refine norm_ (a' := ?_) ?_ ?_
   rotate_left
   ·show Act.put _ (some 10) _ = _
    simp only [Act.put, sia_, scz_, scs_, i64_w, i32_w]
    rfl
   refine one_ (i := 4) (N := some 23) #[true, true, true, true, true, false, false, false, true, false, false] rfl rfl (one_of HT_.out (by kernel_rfl)) (by decide) (fun K hK => ?_)
   refine goes_ Try.func20 (by kernel_rfl) rfl #[.agg #[.slice A0_0 l0_0.length c0_0], .slice A1 y441.length c1] (by rfl) rfl rfl ga_ ?_
   with_reducible refine (impl_DoActs.calls k _ _ l0_0 _ _ y441 t445 t448 _ ?side1 ?side2 ?side3 ?side4 A9.out).mono ?_
   (case side1 => exact cb_ HR0_0 HB)
   (case side2 => exact HC0_0.out)
   (case side3 => exact cb_ HR444 HB)
   (case side4 => exact HC444.out)
   rintro e w29 ⟨v446, rfl, ho0, hb⟩
   refine ⟨_, rfl, ?_⟩
   have n0_ := mk_ (Kd.R_lower ho0 (below_size (bw_ HB)))
   have HO447 := n0_; clear n0_; replace BK438 := bb_ BK438 hb; replace BK439 := bb_ BK439 hb; replace BK449 := bb_ BK449 hb; replace HB := bs_ HB hb; (try clear hb); (try clear hb2); (try clear hk); (try clear hi); (try clear ho0)
   refine hK.out _ _ (bc_ BK438 0) (fun hHeld => ?_)
   clear hK K
   refine norm_ (a' := ?_) ?_ ?_
   rotate_left
   ·show Act.put _ (some 23) _ = _
    simp only [Act.put, sia_, scz_, scs_, i64_w, i32_w]
    rfl
   refine pv_ 5 18 ?_
   refine pv_ 6 24 ?_
   refine pv_ 7 25 ?_
   exact norm_ (by simp only [putAll, Act.put, sia_, scz_, scs_]) (hCont (v446, gb449) _ ⟨hHeld, (rp_ HO447), (bp_ BK438), (bp_ BK439), (bp_ BK449), GW449.out, GE449.out, NB438_449.out, NB449_438.out, NB439_449.out, NB449_439.out, (bw_ HB)⟩)
  skip
  refine goes_ Try.func20 (by kernel_rfl) rfl #[.agg #[.slice A0_0 l0_0.length c0_0], .slice A1 y441.length c1] (by rfl) rfl rfl ga_ ?_
  with_reducible refine (impl_DoActs.calls k _ _ l0_0 _ _ y441 t445 t448 _ ?side1 ?side2 ?side3 ?side4 A9.out).mono ?_
  (case side1 => exact cb_ HR0_0 HB)
  (case side2 => exact HC0_0.out)
  (case side3 => exact cb_ HR444 HB)
  (case side4 => exact HC444.out)
  rintro e w28 ⟨v446, rfl, ho0, hb⟩
  refine ⟨_, rfl, ?_⟩
  have n0_ := mk_ (Kd.R_lower ho0 (below_size (bw_ HB)))
  have HO447 := n0_; clear n0_; replace BK438 := bb_ BK438 hb; replace BK439 := bb_ BK439 hb; replace HB := bs_ HB hb; (try clear hb); (try clear hb2); (try clear hk); (try clear hi); (try clear ho0)
  refine hK.out _ _ (bc_ BK438 0) (fun hHeld => ?_)
  clear hK K
  refine norm_ (a' := ?_) ?_ ?_
  rotate_left
  ·show Act.put _ (some 23) _ = _
   simp only [Act.put, sia_, scz_, scs_, i64_w, i32_w]
   rfl
  refine pv_ 5 18 ?_
  refine pv_ 6 24 ?_
  refine pv_ 7 25 ?_
  refine one_ (i := 8) (N := some 10) #[true, true, true, true, true, true, true, true, true, false, false] rfl rfl (one_of HT_.out (by kernel_rfl)) (by decide) (fun K hK => ?_)
  refine box_step ?hg (N := 10) ?hd (cs := #[.slice none 0 0]) (t := 31) ?hr ?_; (case hd => rfl); (case hg => rfl); (case hr => first | (go_simp; done) | (go_simp; rfl))
  intro gb449 hg w29 hbox hb
  have n4_ := mk_ (hbox)
  have n5_ : Aside0 (w.heap.size ≤ gb449) := bz_ hg
  have n6_ : Aside0 (w.heap.size ≤ gb449) := bz_ hg
  have n7_ : Aside0 (gb438 ≠ gb449) := bl_ BK438 hg
  have n8_ : Aside0 (gb449 ≠ gb438) := bg_ BK438 hg
  have n9_ : Aside0 (gb439 ≠ gb449) := bl_ BK439 hg
  have n10_ : Aside0 (gb449 ≠ gb439) := bg_ BK439 hg
  have BK449 := n4_; have GW449 := n5_; have GE449 := n6_; have NB438_449 := n7_; have NB449_438 := n8_; have NB439_449 := n9_; have NB449_439 := n10_; clear n4_ n5_ n6_ n7_ n8_ n9_ n10_; replace HO447 := rb_ HO447 hb; replace BK438 := bb_ BK438 hb; replace BK439 := bb_ BK439 hb; replace HB := bs_ HB hb; clear hb hbox hg
  refine hK.out _ _ (bc_ BK438 0) (fun hHeld => ?_)
  clear hK K
  refine norm_ (a' := ?_) ?_ ?_
  rotate_left
  ·show Act.put _ (some 10) _ = _
   simp only [Act.put, sia_, scz_, scs_, i64_w, i32_w]
   rfl
  exact norm_ (by simp only [putAll, Act.put, sia_, scz_, scs_]) (hCont (v446, gb449) _ ⟨hHeld, (rp_ HO447), (bp_ BK438), (bp_ BK439), (bp_ BK449), GW449.out, GE449.out, NB438_449.out, NB449_438.out, NB439_449.out, NB449_439.out, (bw_ HB)⟩)
 rintro ⟨v446, gb449⟩ w30 ⟨hS_, h0_, h1_, h2_, h3_, h4_, h5_, h6_, h7_, h8_, h9_, h10_⟩
 have n0_ : Aside0 (Kd.R k76 76 w30 w.heap.size (fun _ => True) v446 t445) := ⟨h0_⟩
 have n1_ : Aside0 (w30.heap[gb438]? = some (.cells #[.slice A0_0 l0_0.length c0_0] 31 (0, 0))) := ⟨h1_⟩
 have n2_ : Aside0 (w30.heap[gb439]? = some (.cells #[.slice none 0 0] 31 (0, 0))) := ⟨h2_⟩
 have n3_ : Aside0 (w30.heap[gb449]? = some (.cells #[.slice none 0 0] 31 (0, 0))) := ⟨h3_⟩
 have n4_ : Aside0 (w.heap.size ≤ gb449) := ⟨h4_⟩
 have n5_ : Aside0 (w.heap.size ≤ gb449) := ⟨h5_⟩
 have n6_ : Aside0 (gb438 ≠ gb449) := ⟨h6_⟩
 have n7_ : Aside0 (gb449 ≠ gb438) := ⟨h7_⟩
 have n8_ : Aside0 (gb439 ≠ gb449) := ⟨h8_⟩
 have n9_ : Aside0 (gb449 ≠ gb439) := ⟨h9_⟩
 have n10_ : Aside0 (Below w.heap.size w w30) := ⟨h10_⟩
 clear BK438; clear BK439; clear HB; clear h0_ h1_ h2_ h3_ h4_ h5_ h6_ h7_ h8_ h9_ h10_; have HO447 := n0_; have BK438 := n1_; have BK439 := n2_; have BK449 := n3_; have GW449 := n4_; have GE449 := n5_; have NB438_449 := n6_; have NB449_438 := n7_; have NB439_449 := n8_; have NB449_439 := n9_; have HB := n10_; clear n0_ n1_ n2_ n3_ n4_ n5_ n6_ n7_ n8_ n9_ n10_
 have hHeld : w30.cell? ⟨gb438, 0, none⟩ = some (.slice A0_0 l0_0.length c0_0) := hS_
 obtain ⟨Ao31, co31, eo31⟩ := Kd.R_slice HO447.out
 (first | subst eo31 | (injection eo31 with f1_ f2_ f3_; have f4_ := f1_.symm; have f5_ := f3_.symm; clear f1_ f2_ f3_; subst f4_; subst f5_))
 refine norm_ (a' := ?_) ?_ ?_
 rotate_left
 ·simp only [putAll, Act.put, sia_, scz_, scs_]
  rfl
 refine one_ (i := 9) (N := none) #[true, true, true, true, true, true, true, true, true, true, false] rfl rfl (one_of HT_.out (by kernel_rfl)) (by decide) (fun K hK => ?_)
 have hs32 : w30.cell? ⟨gb449, 0, none⟩ = some (.slice none 0 0) := bc_ BK449 0
 have hfs32 := blk_frozen BK449.out 0
 have hns32_0 := NB438_449.out
 have hns32_1 := NB439_449.out
 have hms32_0 := NB449_438.out
 have hms32_1 := NB449_439.out
 refine skip_ (w1 := ?_) (by rfl) rfl ?_ ?_
 rotate_left
 ·go_simp
  rfl
 refine hK.out _ _ (((cell_far (p := ⟨gb449, _, none⟩) NB438_449.out _).trans (hHeld))) (fun hHeld => ?_)
 clear hK K
 refine pv_ 10 11 ?_
 refine done_ (done_of HT_.out (by kernel_rfl)) ?_
 obtain ⟨hnb33, hnc33⟩ := ns_ NB449_438
 obtain ⟨hnb34, hnc34⟩ := ns_ NB449_439
 have hcz35_0 : w30.cell? ⟨gb449, 0, none⟩ = some (.slice none 0 0) := bc_ BK449 0
 have hfz35_0 := blk_frozen BK449.out 0
 try go_wp2_with (first | ((with_reducible refine gate_callee (f := 60) rfl ?_); refine gl_ 32 Try.func60 #[.agg #[.slice Ao31 t445.length co31], .slice A3 l3.length c3] ?_; (with_reducible refine (impl_LoseDisk.calls k _ _ t445 _ _ l3 t450 t453 _ ?side1 ?side2 ?side3 ?side4 A23.out).mono ?_); (case side1 => refine (Kd.R_reads' (e := 76) (base := w.heap.size) (ok := fun k_ => True) (n := t445.length) (c := co31) ?_).2.2; exact (rq_ (rf_ HO447 BK449 0 (.slice Ao31 t445.length co31)))); (case side2 => exact (Kd.R_reads' HO447.out).2.1); (case side3 => exact Kd.C_below HR3.out (bw_ HB)); (case side4 => exact HC3.out); rintro e w36 ⟨v451, rfl, ho0, hb⟩; refine ⟨_, rfl, ?_⟩; have HO452 := mk_ (Kd.R_lower (Kd.R_new' ho0 (Kd.R_lt (rq_ (rf_ HO447 BK449 0 (.slice Ao31 t445.length co31))))) (below_size (bw_ HB))); replace HO447 := mk_ (Kd.R_elder' (rq_ (rf_ HO447 BK449 0 (.slice Ao31 t445.length co31))) (Kd.R_base ho0) hb); replace BK438 := mk_ (blk_below (g := gb438) (o := .cells #[.slice A0_0 l0_0.length c0_0] 31 (0, 0)) bf_ hb); replace BK439 := mk_ (blk_below (g := gb439) (o := .cells #[.slice none 0 0] 31 (0, 0)) bf_ hb); replace BK449 := mk_ (blk_below (g := gb449) (o := .cells #[.slice Ao31 t445.length co31] 31 (0, 0)) bu_ hb); replace HB := bs_ HB hb; (try clear hb); (try clear hk); (try clear ho0); obtain ⟨Ao37, co37, eo37⟩ := Kd.R_slice HO452.out; subst eo37; obtain ⟨hnb38, hnc38⟩ := ns_ NB439_438; obtain ⟨hcz39_0, hfz39_0⟩ := b1_ BK439))
 refine bodyPost_ret (results_ct rfl _ _ gb439 31 #[.slice Ao37 t450.length co37] (0, 0) _ rfl bu_ Try.underlying31 rfl (by kernel_rfl)) rfl ?_
 exact ⟨_, er_, rq_ (rt_ HO452 BK439 0 (.slice Ao37 t450.length co37)), bw_ HB⟩

end Go.Proofs.Ythbaoefbccdioaa.QFnActs
