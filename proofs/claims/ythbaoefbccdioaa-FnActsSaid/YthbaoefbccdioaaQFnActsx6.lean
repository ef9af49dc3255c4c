/- Written by this session's own program (wip/tpl/pp.py): what the law's functions come to, and that the machine's calls do just that. -/
import Derived.Test.YthbaoefbccdioaaTMPack
import Derived.Test.YthbaoefbccdioaaQFnActsx0
namespace Go.Proofs.Ythbaoefbccdioaa.QFnActs
open Go.RowKit Go.Proofs.YthbaoefbccdioaaW.PrintWords Go.Proofs.YthbaoefbccdioaaW.PrintLast Go.Proofs.YthbaoefbccdioaaW.PrintMore
attribute [local go_sem] Go.Proofs.Ythbaoefbccdioaa.Sem.string_geq Go.Proofs.Ythbaoefbccdioaa.Sem.string_leq Go.Proofs.Ythbaoefbccdioaa.Sem.string_gtr
attribute [local go_sem] max2_int min2_int max_two min_two max_three min_three max_four min_four   -- for this text's walks alone
set_option linter.unusedVariables false
set_option linter.unusedSimpArgs false

/-! ### spec_l03Without: function 42 -/
def spec_l03Without.l0 : Nat → ByteArray → Int → List (S76) → List (S76) → Option ((List (S76)))
 | 0, _, _, _, _ => none
 | k + 1, x1, x6, x139000, x141000 => if x6 < (x139000.length : Int) then (if 0 ≤ x6 then (if ((rd_T76 x139000 x6).f0).toList = x1.toList then (spec_l03Without.l0 k x1 (wrap64 (x6 + 1)) x139000 x141000) else (if x141000.length < 3518437208883 then (spec_l03Without.l0 k x1 (wrap64 (x6 + 1)) x139000 (x141000 ++ [(⟨(rd_T76 x139000 x6).f0, (rd_T76 x139000 x6).f1, (rd_T76 x139000 x6).f2⟩ : S76)])) else (none))) else (none)) else (some x141000)
def spec_l03Without.f (k : Nat) (l0_0 : List (S76)) (a1 : ByteArray) : Option ((List (S76))) := spec_l03Without.l0 k a1 0 l0_0 ([] : List (S76))
theorem spec_l03Without.mono_l : ∀ k, (∀ y0 y1 y2 y3, LeO (spec_l03Without.l0 k y0 y1 y2 y3) (spec_l03Without.l0 (k + 1) y0 y1 y2 y3))
 | 0 => fun _ _ _ _ r h => by simp [spec_l03Without.l0] at h
 | k + 1 => by
  have ih0 := spec_l03Without.mono_l k
  ·intro y0 y1 y2 y3
   unfold spec_l03Without.l0
   repeat' first
   | (with_reducible exact ih0 _ _ _ _)
   | (with_reducible exact LeO.refl _)
   | (with_reducible refine LeO.ite ?_ ?_)
theorem spec_l03Without.mono : ∀ a0 a1 k, LeO (spec_l03Without.f k a0 a1) (spec_l03Without.f (k + 1) a0 a1) := by
 intro a0 a1 k
 have ih0 := spec_l03Without.mono_l k
 unfold spec_l03Without.f
 repeat' first
   | (with_reducible exact ih0 _ _ _ _)
def spec_l03Without.T6 : Bool × List (List Nat × List Nat) := (true, [([], []), ([0], [0]), ([], []), ([2], [2]), ([], []), ([3, 4], [3, 4]), ([5], [5]), ([6], [6]), ([1, 7], [1, 7]), ([0, 1, 2, 3, 4, 5, 6, 7, 8], []), ([9, 8, 8, 0, 1, 2, 3, 4, 5, 6, 7, 8], [8, 9])])
def spec_l03Without.B6 : List Nat := [0, 1, 0, 4, 0, 28, 60, 124, 255, 511, 1023]
theorem spec_l03Without.tab6 : rtab .any (opsOf Try.f42 6) = spec_l03Without.T6 := by kernel_rfl
theorem spec_l03Without.bits6 : waitsOk spec_l03Without.T6.2 spec_l03Without.B6 = true := by kernel_rfl
set_option maxHeartbeats 8000000 in
set_option maxRecDepth 100000 in
theorem spec_l03Without.calls (k : Nat) (A0_0 : Option Addr) (c0_0 : Nat) (l0_0 : List (S76)) (a1 : ByteArray) (r : List (S76)) (w : World) (hr0_0 : Kd.C k76 w A0_0 l0_0.length l0_0) (hc0_0 : l0_0.length ≤ c0_0) (h : spec_l03Without.f k l0_0 a1 = some r) :
  Calls Try.prog 42 #[.agg #[.slice A0_0 l0_0.length c0_0], .string a1] w fun e w' => ∃ v0_ : Value, e = .returned (.agg #[v0_]) ∧ Kd.R k76 76 w' w.heap.size (fun _ => True) v0_ r ∧ Below w.heap.size w w' := by
 have hu31 := Try.underlying31
 have hu76 := Try.underlying76
 have HR0_0 := Aside0.mk hr0_0
 have HC0_0 := Aside0.mk hc0_0
 clear hr0_0 hc0_0
 have HB := mk_ (Below.refl w.heap.size w)
 have H : (spec_l03Without.l0 k a1 0 l0_0 ([] : List (S76))) = some r := h
 clear h
 have H' := Aside0.mk H
 clear H
 go_enter Try.func42, Try.ntmps42
 go_wp2_with (first | ((with_reducible refine gate_dst (N := 2) rfl ?_); refine bx_ (N := 2) (cs := #[.slice A0_0 l0_0.length c0_0]) (t := 31) ?_; intro gb138 hg w3 hbox hb; have BK138 := mk_ (hbox); have GW138 : Aside0 (w.heap.size ≤ gb138) := bz_ hg; have GE138 := GW138; replace HB := bs_ HB hb; clear hb hbox hg) | ((with_reducible refine gate_dst (N := 4) rfl ?_); refine bx_ (N := 4) (cs := #[.slice none 0 0]) (t := 31) ?_; intro gb139 hg w4 hbox hb; have BK139 := mk_ (hbox); have GW139 : Aside0 (w.heap.size ≤ gb139) := bz_ hg; have GE139 := GW139; have NB138_139 := bl_ BK138 hg; have NB139_138 := bg_ BK138 hg; replace BK138 := bb_ BK138 hb; replace HB := bs_ HB hb; clear hb hbox hg) | ((with_reducible refine gate_dst (N := 5) rfl ?_); refine bx_ (N := 5) (cs := #[.slice none 0 0]) (t := 31) ?_; intro gb140 hg w5 hbox hb; have BK140 := mk_ (hbox); have GW140 : Aside0 (w.heap.size ≤ gb140) := bz_ hg; have GE140 := GW140; have NB138_140 := bl_ BK138 hg; have NB140_138 := bg_ BK138 hg; have NB139_140 := bl_ BK139 hg; have NB140_139 := bg_ BK139 hg; replace BK138 := bb_ BK138 hb; replace BK139 := bb_ BK139 hb; replace HB := bs_ HB hb; clear hb hbox hg; obtain ⟨hnb6, hnc6⟩ := ns_ NB140_138; obtain ⟨hnb7, hnc7⟩ := ns_ NB140_139; obtain ⟨hcz8_0, hfz8_0⟩ := b1_ BK140))
 go_loopg [6] k (fun kq v6 w' => ∃ (x6_1 : Int) (x141000_1 : List (S76)) (u141000 : Value), v6 = .int .i64 x6_1 ∧ Aside0 (spec_l03Without.l0 kq a1 x6_1 l0_0 x141000_1 = some r) ∧ Aside0 (kq ≤ k) ∧ Aside0 (Kd.R k76 76 w' w.heap.size (fun _ => True) u141000 x141000_1) ∧ Aside0 (w'.heap[gb138]? = some (.cells #[(.slice A0_0 l0_0.length c0_0)] 31 (0, 0))) ∧ Aside0 (w'.heap[gb139]? = some (.cells #[(.slice none 0 0)] 31 (0, 0))) ∧ Aside0 (w'.heap[gb140]? = some (.cells #[u141000] 31 (0, 0))) ∧ Aside0 (Below w.heap.size w w'))
 case atStart => exact ⟨(0), (([] : List (S76))), (.slice none 0 0), (by first | rfl | (simp; done) | (simp [*]; done) | (simp [bne]; done)), H', ⟨Nat.le_refl _⟩, ⟨by first | exact Kd.R_nil _ _ _ _ _ | exact Kd.N_nil _ _ _ _ _ | exact Kd.V_nil _ _ _ _ _ | exact Kd.Q_nil _ _ _ _ _ | exact Kd.S_nil _ _ _ _ _⟩, ⟨bf_⟩, ⟨bf_⟩, ⟨bu_⟩, ⟨bw_ HB⟩⟩
 case round =>
  clear H'
  (try clear p2); (try clear c4); (try clear c6); (try clear c7); (try clear hcz8_0); (try clear hfz8_0)
  obtain ⟨x6_1, x141000_1, u141000, rfl, HA, HK1, HO_141000, BK138, BK139, BK140, HB⟩ := hrel
  cases gk with
  | zero => exact absurd HA.out (by simp [spec_l03Without.l0])
  | succ k1 =>
   have H := HA.out
   clear HA
   simp only [spec_l03Without.l0] at H
   by_cases c9 : x6_1 < (l0_0.length : Int)
   rotate_left
   ·rw [if_neg c9] at H
    have c9b0 : decide (x6_1 < (l0_0.length : Int)) = false := decide_eq_false c9
    clear c9
    obtain rfl := Option.some.inj H
    obtain ⟨hnb23, hnc23⟩ := ns_ NB138_139
    obtain ⟨hnb24, hnc24⟩ := ns_ NB138_140
    have hcz25_0 : wr.cell? ⟨gb138, 0, none⟩ = some (.slice A0_0 l0_0.length c0_0) := bc_ BK138 0
    have hfz25_0 := blk_frozen BK138.out 0
    obtain ⟨hnb26, hnc26⟩ := ns_ NB140_139
    have hcz27_0 : wr.cell? ⟨gb140, 0, none⟩ = some (u141000) := bc_ BK140 0
    have hfz27_0 := blk_frozen BK140.out 0
    obtain ⟨Ao28, co28, eo28⟩ := Kd.R_slice HO_141000.out
    subst eo28
    have hcz29_0 : wr.cell? ⟨gb139, 0, none⟩ = some (.slice none 0 0) := bc_ BK139 0
    have hfz29_0 := blk_frozen BK139.out 0
    go_wp2
    refine bodyPost_ret (results_cell_row rfl _ _ gb139 31 #[.slice Ao28 x141000_1.length co28] (0, 0) _ rfl bu_ Try.underlying31 rfl (by kernel_rfl)) rfl ?_
    exact ⟨_, er_, rq_ (rt_ HO_141000 BK139 0 (.slice Ao28 x141000_1.length co28)), bw_ HB⟩
   rw [if_pos c9] at H
   have c9b0 : decide (x6_1 < (l0_0.length : Int)) = true := decide_eq_true c9
   clear c9
   by_cases c10 : 0 ≤ x6_1
   rotate_left
   ·rw [if_neg c10] at H
    exact absurd H (by simp)
   rw [if_pos c10] at H
   have c10b0 : decide (0 ≤ x6_1) = true := decide_eq_true c10
   clear c10
   by_cases c11 : ((rd_T76 l0_0 x6_1).f0).toList = a1.toList
   ·rw [if_pos c11] at H
    have c11b0 : (((rd_T76 l0_0 x6_1).f0).toList == a1.toList) = true := beq_iff_eq.mpr c11
    have c11b1 : (((rd_T76 l0_0 x6_1).f0).toList != a1.toList) = false := bne_eq_false_iff_eq.mpr c11
    clear c11
    have H' := Aside0.mk H
    clear H
    obtain ⟨hnb12, hnc12⟩ := ns_ NB138_139
    obtain ⟨hnb13, hnc13⟩ := ns_ NB138_140
    have hcz14_0 : wr.cell? ⟨gb138, 0, none⟩ = some (.slice A0_0 l0_0.length c0_0) := bc_ BK138 0
    have hfz14_0 := blk_frozen BK138.out 0
    have p141 : 0 ≤ (x6_1 : Int) := od_
    have q141 : x6_1 < (l0_0.length : Int) := od_
    obtain ⟨ad141, e141, hx141_0, hx141_1, hx141_2⟩ := at_T76 HR0_0.out x6_1 p141 q141
    cases e141
    replace hx141_0 := hc_ HB hx141_0
    replace hx141_1 := hc_ HB hx141_1
    replace hx141_2 := hc_ HB hx141_2
    replace p141 := eq_true p141
    replace q141 := eq_true q141
    go_wp2
    go_roundg k1
    case measure => have := HK1.out; omega
    case rel => exact ⟨(wrap64 (x6_1 + 1)), (x141000_1), (u141000), (by first | rfl | (simp; done) | (simp [*]; done) | (simp [bne]; done)), H', ⟨by have := HK1.out; omega⟩, ⟨rq_ HO_141000.out⟩, ⟨bf_⟩, ⟨bf_⟩, ⟨bf_⟩, ⟨bw_ HB⟩⟩
   rw [if_neg c11] at H
   have c11b0 : (((rd_T76 l0_0 x6_1).f0).toList == a1.toList) = false := beq_eq_false_iff_ne.mpr c11
   have c11b1 : (((rd_T76 l0_0 x6_1).f0).toList != a1.toList) = true := bne_iff_ne.mpr c11
   by_cases c15 : x141000_1.length < 3518437208883
   rotate_left
   ·rw [if_neg c15] at H
    exact absurd H (by simp)
   rw [if_pos c15] at H
   have LMc15 := Aside0.mk c15
   clear c15
   obtain ⟨y143, hy143⟩ : ∃ y_ : List (S76), y_ = (x141000_1 ++ [(⟨(rd_T76 l0_0 x6_1).f0, (rd_T76 l0_0 x6_1).f1, (rd_T76 l0_0 x6_1).f2⟩ : S76)]) := ⟨_, rfl⟩
   replace H : (spec_l03Without.l0 k1 a1 (wrap64 (x6_1 + 1)) l0_0 y143) = some r := by first | (rw [hy143]; with_reducible exact H) | (have H2_ := (Option.bind_some _ _).symm.trans H; rw [hy143]; with_reducible exact H2_) | (have H2_ := (Option.bind_some _ _).symm.trans H; with_reducible exact H2_) | with_reducible exact H | (rw [hy143]; exact H) | exact H
   have Ny143 := Aside0.mk hy143
   clear hy143
   have H' := Aside0.mk H
   clear H
   obtain ⟨hnb16, hnc16⟩ := ns_ NB138_139
   obtain ⟨hnb17, hnc17⟩ := ns_ NB138_140
   have hcz18_0 : wr.cell? ⟨gb138, 0, none⟩ = some (.slice A0_0 l0_0.length c0_0) := bc_ BK138 0
   have hfz18_0 := blk_frozen BK138.out 0
   have p141 : 0 ≤ (x6_1 : Int) := od_
   have q141 : x6_1 < (l0_0.length : Int) := od_
   obtain ⟨ad141, e141, hx141_0, hx141_1, hx141_2⟩ := at_T76 HR0_0.out x6_1 p141 q141
   cases e141
   replace hx141_0 := hc_ HB hx141_0
   replace hx141_1 := hc_ HB hx141_1
   replace hx141_2 := hc_ HB hx141_2
   replace p141 := eq_true p141
   replace q141 := eq_true q141
   try go_wp2
   replace HO_141000 := rd_ HO_141000; replace BK138 := kd_ BK138; replace BK139 := kd_ BK139; replace BK140 := kd_ BK140; replace HB := wd_ HB
   have p142 : 0 ≤ (x6_1 : Int) := od_
   have q142 : x6_1 < (l0_0.length : Int) := od_
   obtain ⟨ad142, e142, hx142_0, hx142_1, hx142_2⟩ := at_T76 HR0_0.out x6_1 p142 q142
   have hw142_2 := hx142_2
   have hw142_1 := hx142_1
   have hw142_0 := hx142_0
   obtain rfl : ad141 = ad142 := (by injection e142)
   replace hx142_0 := hc_ HB hx142_0
   replace hx142_1 := hc_ HB hx142_1
   replace hx142_2 := hc_ HB hx142_2
   replace p142 := eq_true p142
   replace q142 := eq_true q142
   refine start_ (n := 11) (S := fun w' => w'.cell? ⟨gb140, 0, none⟩ = some (u141000) ∧ w'.cell? ⟨gb138, 0, none⟩ = some (.slice (some ad141) l0_0.length c0_0) ∧ w'.cell? (ad141.add ((x6_1).toNat * 3)) = some (.string ((rd_T76 l0_0 x6_1).f0)) ∧ w'.cell? ⟨(ad141.add ((x6_1).toNat * 3)).block, (ad141.add ((x6_1).toNat * 3)).off + 1, none⟩ = some (.string ((rd_T76 l0_0 x6_1).f1)) ∧ w'.cell? ⟨(ad141.add ((x6_1).toNat * 3)).block, (ad141.add ((x6_1).toNat * 3)).off + 2, none⟩ = some (.int .i64 ((rd_T76 l0_0 x6_1).f2))) (ds := [10]) #[false, false, false, false, false, false, false, false, false, false, false] (by kernel_rfl) rfl rfl ⟨bc_ BK140 0, bc_ BK138 0, (hc_ HB hw142_0), (hc_ HB hw142_1), (hc_ HB hw142_2)⟩ (fun hHeld => ?_); refine with_tabW spec_l03Without.tab6 spec_l03Without.bits6 (fun HT_ HW_ => ?_)
   generalize wr.drew = w19 at HO_141000 BK138 BK139 BK140 HB hx142_0 hx142_1 hx142_2 hHeld ⊢
   refine pv_ 0 23 ?_
   refine pv_ 2 25 ?_
   refine pv_ 4 27 ?_
   refine tv_ 1 24 hHeld ?_
   refine tv_ 3 26 hHeld ?_
   refine pv_ 5 28 ?_
   refine tv_ 6 29 hHeld ?_
   refine one_ (i := 7) (N := some 30) #[true, true, true, true, true, true, true, true, false, false, false] rfl rfl (one_of HT_.out (by kernel_rfl)) (by decide) (fun K hK => ?_)
   refine value_ (w1 := ?_) (v := ?_) (by rfl) rfl ?_ ?_
   rotate_left 2
   ·go_simp
    constructor
    ·rfl
    ·rfl
   refine hK.out _ _ ⟨(blk_cell (blk_alloc BK140.out _) 0).trans rfl, (blk_cell (blk_alloc BK138.out _) 0).trans rfl, (World.cell?_alloc_lt _ _ _ (World.block_lt_of_cell? _ _ ((hc_ HB hw142_0)))).trans ((hc_ HB hw142_0)), (World.cell?_alloc_lt _ _ _ (World.block_lt_of_cell? _ _ ((hc_ HB hw142_1)))).trans ((hc_ HB hw142_1)), (World.cell?_alloc_lt _ _ _ (World.block_lt_of_cell? _ _ ((hc_ HB hw142_2)))).trans ((hc_ HB hw142_2))⟩ (fun hHeld => ?_)
   clear hK K
   refine norm_ (a' := ?_) ?_ ?_
   rotate_left
   ·show Act.put _ (some 30) _ = _
    simp only [Act.put, sia_, scz_, scs_, i64_w, i32_w]
    rfl
   refine one_ (i := 8) (N := some 31) #[true, true, true, true, true, true, true, true, true, false, false] rfl rfl (one_of HT_.out (by kernel_rfl)) (by decide) (fun K hK => ?_)
   refine Kd.R_append_step k76 (w0 := w) w.heap.size (by rfl) (.tmp 24) (.tmp 30) 29 76 (.agg #[(.string ⟨#[]⟩), (.string ⟨#[]⟩), (.int .i64 0)]) 40 rfl Try.underlying29 info76 rfl (by decide) (by omega) u141000 x141000_1 (⟨(rd_T76 l0_0 x6_1).f0, (rd_T76 l0_0 x6_1).f1, (rd_T76 l0_0 x6_1).f2⟩ : S76) [.string ((rd_T76 l0_0 x6_1).f0), .string ((rd_T76 l0_0 x6_1).f1), .int .i64 ((rd_T76 l0_0 x6_1).f2)] (fun _ => True) (fun _ => False) rfl rfl ?aP (fun _ hk => hk.elim) ?aF ?aO ?aB ?aS ?aL ?_
   (case aP => exact k76_mkM _ _ _ (⟨(rd_T76 l0_0 x6_1).f0, (rd_T76 l0_0 x6_1).f1, (rd_T76 l0_0 x6_1).f2⟩ : S76))
   (case aB => exact (bw_ HB))
   (case aF => exact (fun _ _ => trivial))
   (case aO => exact (rp_ HO_141000))
   (case aS => exact (below_size (bw_ HB)))
   (case aL => have := LMc15.out; omega)
   intro v144 w20 ho hb hg hat
   rw [← Ny143.out] at ho
   have n0_ := mk_ (blk_grown (g := gb138) (o := .cells #[.slice (some ad141) l0_0.length c0_0] 31 (0, 0)) (bp_ BK138) hg (Kd.R_ne HO_141000.out BK138.out (by decide)))
   have n1_ := mk_ (blk_grown (g := gb139) (o := .cells #[.slice none 0 0] 31 (0, 0)) (bp_ BK139) hg (Kd.R_ne HO_141000.out BK139.out (by decide)))
   have n2_ := mk_ (blk_grown (g := gb140) (o := .cells #[u141000] 31 (0, 0)) (bp_ BK140) hg (Kd.R_ne HO_141000.out BK140.out (by decide)))
   have n3_ := mk_ (hb)
   have n4_ := mk_ (ho)
   clear BK138; clear BK139; clear BK140; clear HB; clear HO_141000; have BK138 := n0_; have BK139 := n1_; have BK140 := n2_; have HB := n3_; have HO145 := n4_; clear n0_ n1_ n2_ n3_ n4_; clear ho hb hg hat
   obtain ⟨Ao21, co21, eo21⟩ := Kd.R_slice HO145.out
   (first | subst eo21 | (injection eo21 with f1_ f2_ f3_; have f4_ := f1_.symm; have f5_ := f3_.symm; clear f1_ f2_ f3_; subst f4_; subst f5_))
   refine hK.out _ _ ⟨bc_ BK140 0, bc_ BK138 0, (hc_ HB hw142_0), (hc_ HB hw142_1), (hc_ HB hw142_2)⟩ (fun hHeld => ?_)
   clear hK K
   refine norm_ (a' := ?_) ?_ ?_
   rotate_left
   ·show Act.put _ (some 31) _ = _
    simp only [Act.put, sia_, scz_, scs_, i64_w, i32_w]
    rfl
   refine pv_ 9 32 ?_
   refine last_ (i := 10) (N := none) #[true, true, true, true, true, true, true, true, true, true, true] rfl rfl (one_of HT_.out (by kernel_rfl)) (by decide) (fun K hK => ?_)
   have hs22 : w20.cell? ⟨gb140, 0, none⟩ = some (u141000) := bc_ BK140 0
   have hfs22 := blk_frozen BK140.out 0
   have hns22_0 := NB138_140.out
   have hns22_1 := NB139_140.out
   have hms22_0 := NB140_138.out
   have hms22_1 := NB140_139.out
   refine skip_ (w1 := ?_) (by rfl) rfl ?_ ?_
   rotate_left
   ·go_simp
    rfl
   refine hK.out _ _ ?_
   clear hK K
   refine done_ (done_of HT_.out (by kernel_rfl)) ?_
   try go_wp2
   go_roundg k1
   case measure => have := HK1.out; omega
   case rel => exact ⟨(wrap64 (x6_1 + 1)), (y143), (.slice Ao21 y143.length co21), (by first | rfl | (simp; done) | (simp [*]; done) | (simp [bne]; done)), H', ⟨by have := HK1.out; omega⟩, ⟨rq_ (rt_ HO145 BK140 0 (.slice Ao21 y143.length co21))⟩, ⟨bf_⟩, ⟨bf_⟩, ⟨bu_⟩, ⟨bw_ HB⟩⟩

end Go.Proofs.Ythbaoefbccdioaa.QFnActs
