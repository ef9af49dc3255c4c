/- Written by this session's own program (wip/tpl/pp.py): what the law's functions come to, and that the machine's calls do just that. -/
import Derived.Test.YthbaoefbccdioaaTMPack
import Derived.Test.YthbaoefbccdioaaQFnActsx0
import Derived.Test.YthbaoefbccdioaaQFnActsx7
namespace Go.Proofs.Ythbaoefbccdioaa.QFnActs
open Go.RowKit Go.Proofs.YthbaoefbccdioaaW.PrintWords Go.Proofs.YthbaoefbccdioaaW.PrintLast Go.Proofs.YthbaoefbccdioaaW.PrintMore
attribute [local go_sem] Go.Proofs.Ythbaoefbccdioaa.Sem.string_geq Go.Proofs.Ythbaoefbccdioaa.Sem.string_leq Go.Proofs.Ythbaoefbccdioaa.Sem.string_gtr
attribute [local go_sem] max2_int min2_int max_two min_two max_three min_three max_four min_four   -- for this text's walks alone
set_option linter.unusedVariables false
set_option linter.unusedSimpArgs false

/-! ### spec_DoActs: function 18 -/
def spec_DoActs.l0 : Nat → List (S35) → Int → List (S76) → Option ((List (S76)) × Int)
 | 0, _, _, _ => none
 | k + 1, x1, x7, x184000 => if x7 < (x1.length : Int) then (if 0 ≤ x7 then ((spec_DoAct.f k x184000 ((rd_T35 x1 x7).f0) ((rd_T35 x1 x7).f1) ((rd_T35 x1 x7).f2) ((rd_T35 x1 x7).f3)).bind fun bt185 => (if bt185.2 = true then (spec_DoActs.l0 k x1 (wrap64 (x7 + 1)) bt185.1) else (some (x184000, x7)))) else (none)) else (some (x184000, (x1.length : Int)))
def spec_DoActs.f (k : Nat) (l0_0 : List (S76)) (l1 : List (S35)) : Option ((List (S76)) × Int) := (some (([] : List (S76)) : List (S76))).bind fun y177 => (if y177.length + l0_0.length < 3518437208883 then (spec_DoActs.l0 k l1 0 (y177 ++ l0_0)) else (none))
theorem spec_DoActs.mono_l : ∀ k, (∀ y0 y1 y2, LeO (spec_DoActs.l0 k y0 y1 y2) (spec_DoActs.l0 (k + 1) y0 y1 y2))
 | 0 => fun _ _ _ r h => by simp [spec_DoActs.l0] at h
 | k + 1 => by
  have ih0 := spec_DoActs.mono_l k
  ·intro y0 y1 y2
   unfold spec_DoActs.l0
   repeat' first
   | (with_reducible exact ih0 _ _ _)
   | (with_reducible exact spec_DoAct.mono _ _ _ _ _ _)
   | (with_reducible exact LeO.refl _)
   | (with_reducible refine LeO.ite ?_ ?_)
   | (with_reducible refine LeO.bind ?_ (fun _ => ?_))
theorem spec_DoActs.mono : ∀ a0 a1 k, LeO (spec_DoActs.f k a0 a1) (spec_DoActs.f (k + 1) a0 a1) := by
 intro a0 a1 k
 have ih0 := spec_DoActs.mono_l k
 unfold spec_DoActs.f
 repeat' first
   | (with_reducible exact ih0 _ _ _)
   | (with_reducible exact LeO.refl _)
   | (with_reducible refine LeO.ite ?_ ?_)
   | (with_reducible refine LeO.bind ?_ (fun _ => ?_))
def spec_DoActs.T5 : Bool × List (List Nat × List Nat) := (true, [([], []), ([], []), ([], []), ([1, 2], [1, 2]), ([3], [3]), ([0, 4], [0, 4]), ([5], [5]), ([6], [6]), ([6], [6]), ([], []), ([9, 7, 5, 0, 1, 2, 3, 4, 5, 6, 7, 9], [7, 9]), ([8, 10, 0, 1, 2, 3, 4, 5, 6, 7, 8, 9, 10], [8])])
def spec_DoActs.B5 : List Nat := [0, 0, 0, 6, 14, 31, 63, 127, 127, 0, 767, 2047]
theorem spec_DoActs.tab5 : rtab .any (opsOf Try.f18 5) = spec_DoActs.T5 := by kernel_rfl
theorem spec_DoActs.bits5 : waitsOk spec_DoActs.T5.2 spec_DoActs.B5 = true := by kernel_rfl
set_option maxHeartbeats 8000000 in
set_option maxRecDepth 100000 in
theorem spec_DoActs.calls (k : Nat) (A0_0 : Option Addr) (c0_0 : Nat) (l0_0 : List (S76)) (A1 : Option Addr) (c1 : Nat) (l1 : List (S35)) (r1 : List (S76)) (r2 : Int) (w : World) (hr0_0 : Kd.C k76 w A0_0 l0_0.length l0_0) (hc0_0 : l0_0.length ≤ c0_0) (hr1 : Kd.C k35 w A1 l1.length l1) (hc1 : l1.length ≤ c1) (h : spec_DoActs.f k l0_0 l1 = some (r1, r2)) :
  Calls Try.prog 18 #[.agg #[.slice A0_0 l0_0.length c0_0], .slice A1 l1.length c1] w fun e w' => ∃ v0_ : Value, e = .returned (.tuple #[.agg #[v0_], .int .i64 r2]) ∧ Kd.R k76 76 w' w.heap.size (fun _ => True) v0_ r1 ∧ Below w.heap.size w w' := by
 have hu31 := Try.underlying31
 have hu35 := Try.underlying35
 have HR0_0 := Aside0.mk hr0_0
 have HC0_0 := Aside0.mk hc0_0
 clear hr0_0 hc0_0
 have HR1 := Aside0.mk hr1
 have HC1 := Aside0.mk hc1
 clear hr1 hc1
 have HB := mk_ (Below.refl w.heap.size w)
 have H : ((some (([] : List (S76)) : List (S76))).bind fun y177 => (if y177.length + l0_0.length < 3518437208883 then (spec_DoActs.l0 k l1 0 (y177 ++ l0_0)) else (none))) = some (r1, r2) := h
 clear h
 obtain ⟨y177, hy177⟩ : ∃ y_ : List (S76), y_ = (([] : List (S76))) := ⟨_, rfl⟩
 replace H : (if y177.length + l0_0.length < 3518437208883 then (spec_DoActs.l0 k l1 0 (y177 ++ l0_0)) else (none)) = some (r1, r2) := by first | (rw [hy177]; with_reducible exact H) | (have H2_ := (Option.bind_some _ _).symm.trans H; rw [hy177]; with_reducible exact H2_) | (have H2_ := (Option.bind_some _ _).symm.trans H; with_reducible exact H2_) | with_reducible exact H | (rw [hy177]; exact H) | exact H
 have Ny177 := Aside0.mk hy177
 clear hy177
 by_cases c3 : y177.length + l0_0.length < 3518437208883
 rotate_left
 ·rw [if_neg c3] at H
  exact absurd H (by simp)
 rw [if_pos c3] at H
 have LMc3 := Aside0.mk c3
 clear c3
 obtain ⟨y180, hy180⟩ : ∃ y_ : List (S76), y_ = (y177 ++ l0_0) := ⟨_, rfl⟩
 replace H : (spec_DoActs.l0 k l1 0 y180) = some (r1, r2) := by first | (rw [hy180]; with_reducible exact H) | (have H2_ := (Option.bind_some _ _).symm.trans H; rw [hy180]; with_reducible exact H2_) | (have H2_ := (Option.bind_some _ _).symm.trans H; with_reducible exact H2_) | with_reducible exact H | (rw [hy180]; exact H) | exact H
 have Ny180 := Aside0.mk hy180
 clear hy180
 have H' := Aside0.mk H
 clear H
 go_enter Try.func18, Try.ntmps18
 go_wp2_with (first | ((with_reducible refine gate_dst (N := 2) rfl ?_); refine bx_ (N := 2) (cs := #[.slice A0_0 l0_0.length c0_0]) (t := 31) ?_; intro gb175 hg w4 hbox hb; have BK175 := mk_ (hbox); have GW175 : Aside0 (w.heap.size ≤ gb175) := bz_ hg; have GE175 := GW175; replace HB := bs_ HB hb; clear hb hbox hg) | ((with_reducible refine gate_dst (N := 4) rfl ?_); refine bx_ (N := 4) (cs := #[.slice none 0 0]) (t := 31) ?_; intro gb176 hg w5 hbox hb; have BK176 := mk_ (hbox); have GW176 : Aside0 (w.heap.size ≤ gb176) := bz_ hg; have GE176 := GW176; have NB175_176 := bl_ BK175 hg; have NB176_175 := bg_ BK175 hg; replace BK175 := bb_ BK175 hb; replace HB := bs_ HB hb; clear hb hbox hg) | ((with_reducible refine gate_dst (N := 10) rfl ?_); refine Kd.R_lit k76 _ 76 ?hg (N := 10) ?hd (xs := ([] : List (S76))) (inner := []) (ok := fun _ => True) (okp := fun _ => True) ?hr ?hp (fun _ hk => hk) trivial (Below.refl _ _) (Nat.le_refl _) (by simp) ?_; (case hd => rfl); (case hg => rfl); (case hr => first | (go_simp; done) | (go_simp; rfl)); (case hp => exact (Reps.none _ _)); intro v178 w6 ho7 hb hg_ hnew_; clear hg_ hnew_; (first | rw [← Ny177.out] at ho7 | (simp only [Int.reduceToNat] at ho7; rw [← Ny177.out] at ho7)); have HO179 := mk_ (Kd.R_lower ho7 (below_size (bw_ HB))); replace BK175 := bb_ BK175 hb; replace BK176 := bb_ BK176 hb; replace HB := bs_ HB hb; clear hb ho7; obtain ⟨hnb8, hnc8⟩ := ns_ NB175_176; obtain ⟨hcz9_0, hfz9_0⟩ := b1_ BK175) | ((with_reducible refine gate_builtin (b := .append) (xs := #[.tmp 10, .tmp 12]) rfl ?_); at_builtin; refine Kd.R_append_rows k76 (w0 := w) w.heap.size rfl (.tmp 10) (.tmp 12) 29 76 (.agg #[(.string ⟨#[]⟩), (.string ⟨#[]⟩), (.int .i64 0)]) 40 rfl Try.underlying29 info76 rfl (by decide) (by omega) v178 y177 l0_0 _ _ _ (fun _ => True) (fun _ => False) rfl rfl ?aO ?aR (fun _ _ h => h) (fun _ h => h.elim) ?aF ?aB ?aS ?aL ?_; (case aR => exact cb_ HR0_0 HB); (case aB => exact (bw_ HB)); (case aF => exact (fun _ _ => trivial)); (case aO => exact (rp_ HO179)); (case aS => exact (below_size (bw_ HB))); (case aL => have := LMc3.out; omega); intro v181 w10 ho hb hg hat; rw [← Ny180.out] at ho; have HO182 := mk_ (ho); replace BK175 := mk_ (blk_grown (g := gb175) (o := .cells #[.slice A0_0 l0_0.length c0_0] 31 (0, 0)) (bp_ BK175) hg (Kd.R_ne HO179.out BK175.out (by decide))); replace BK176 := mk_ (blk_grown (g := gb176) (o := .cells #[.slice none 0 0] 31 (0, 0)) (bp_ BK176) hg (Kd.R_ne HO179.out BK176.out (by decide))); replace HB := mk_ (hb); clear HO179; clear ho hb hg hat; obtain ⟨Ao11, co11, eo11⟩ := Kd.R_slice HO182.out; subst eo11) | ((with_reducible refine gate_dst (N := 6) rfl ?_); refine bx_ (N := 6) (cs := #[.slice none 0 0]) (t := 31) ?_; intro gb183 hg w12 hbox hb; have BK183 := mk_ (hbox); have GW183 : Aside0 (w.heap.size ≤ gb183) := bz_ hg; have GE183 := GW183; have NB175_183 := bl_ BK175 hg; have NB183_175 := bg_ BK175 hg; have NB176_183 := bl_ BK176 hg; have NB183_176 := bg_ BK176 hg; replace HO182 := rb_ HO182 hb; replace BK175 := bb_ BK175 hb; replace BK176 := bb_ BK176 hb; replace HB := bs_ HB hb; clear hb hbox hg; obtain ⟨hnb13, hnc13⟩ := ns_ NB183_175; obtain ⟨hnb14, hnc14⟩ := ns_ NB183_176; obtain ⟨hcz15_0, hfz15_0⟩ := b1_ BK183))
 go_loopg [7] k (fun kq v7 w' => ∃ (x7_1 : Int) (x184000_1 : List (S76)) (u184000 : Value), v7 = .int .i64 x7_1 ∧ Aside0 (spec_DoActs.l0 kq l1 x7_1 x184000_1 = some (r1, r2)) ∧ Aside0 (kq ≤ k) ∧ Aside0 (Kd.R k76 76 w' w.heap.size (fun _ => True) u184000 x184000_1) ∧ Aside0 (w'.heap[gb175]? = some (.cells #[(.slice A0_0 l0_0.length c0_0)] 31 (0, 0))) ∧ Aside0 (w'.heap[gb176]? = some (.cells #[(.slice none 0 0)] 31 (0, 0))) ∧ Aside0 (w'.heap[gb183]? = some (.cells #[u184000] 31 (0, 0))) ∧ Aside0 (Below w.heap.size w w'))
 case atStart => exact ⟨(0), (y180), (.slice Ao11 y180.length co11), (by first | rfl | (simp; done) | (simp [*]; done) | (simp [bne]; done)), H', ⟨Nat.le_refl _⟩, ⟨rq_ (rt_ HO182 BK183 0 (.slice Ao11 y180.length co11))⟩, ⟨bf_⟩, ⟨bf_⟩, ⟨bu_⟩, ⟨bw_ HB⟩⟩
 case round =>
  clear H'
  (try clear c1); (try clear p2); (try clear c3); (try clear c8); (try clear c13); (try clear c14); (try clear hcz15_0); (try clear hcz9_0); (try clear hfz15_0); (try clear hfz9_0)
  obtain ⟨x7_1, x184000_1, u184000, rfl, HA, HK1, HO_184000, BK175, BK176, BK183, HB⟩ := hrel
  cases gk with
  | zero => exact absurd HA.out (by simp [spec_DoActs.l0])
  | succ k1 =>
   have H := HA.out
   clear HA
   simp only [spec_DoActs.l0] at H
   by_cases c16 : x7_1 < (l1.length : Int)
   rotate_left
   ·rw [if_neg c16] at H
    have c16b0 : decide (x7_1 < (l1.length : Int)) = false := decide_eq_false c16
    clear c16
    simp only [Option.some.injEq, Prod.mk.injEq] at H
    obtain ⟨rfl, rfl⟩ := H
    obtain ⟨hnb48, hnc48⟩ := ns_ NB183_175
    obtain ⟨hnb49, hnc49⟩ := ns_ NB183_176
    have hcz50_0 : wr.cell? ⟨gb183, 0, none⟩ = some (u184000) := bc_ BK183 0
    have hfz50_0 := blk_frozen BK183.out 0
    obtain ⟨Ao51, co51, eo51⟩ := Kd.R_slice HO_184000.out
    subst eo51
    obtain ⟨hnb52, hnc52⟩ := ns_ NB176_175
    have hcz53_0 : wr.cell? ⟨gb176, 0, none⟩ = some (.slice none 0 0) := bc_ BK176 0
    have hfz53_0 := blk_frozen BK176.out 0
    go_wp2
    refine bodyPost_ret (results_ct rfl _ _ gb176 31 #[.slice Ao51 x184000_1.length co51] (0, 0) _ rfl bu_ Try.underlying31 rfl (by kernel_rfl)) rfl ?_
    exact ⟨_, er_, rq_ (rt_ HO_184000 BK176 0 (.slice Ao51 x184000_1.length co51)), bw_ HB⟩
   rw [if_pos c16] at H
   have c16b0 : decide (x7_1 < (l1.length : Int)) = true := decide_eq_true c16
   clear c16
   by_cases c17 : 0 ≤ x7_1
   rotate_left
   ·rw [if_neg c17] at H
    exact absurd H (by simp)
   rw [if_pos c17] at H
   have c17b0 : decide (0 ≤ x7_1) = true := decide_eq_true c17
   clear c17
   replace H := Option.bind_eq_some_iff.mp H
   obtain ⟨⟨t185, t188⟩, A180, H⟩ := H
   try dsimp only at H
   have A18 := Aside0.mk A180
   clear A180
   by_cases c19 : t188 = true
   rotate_left
   ·replace c19 := Bool.eq_false_iff.mpr c19
    subst c19
    rw [if_neg (show ¬ (false = true) by decide)] at H
    simp only [Option.some.injEq, Prod.mk.injEq] at H
    obtain ⟨rfl, rfl⟩ := H
    obtain ⟨Ao34, co34, eo34⟩ := Kd.R_slice HO_184000.out
    subst eo34
    try go_wp2
    replace HO_184000 := rd_ HO_184000; replace BK175 := kd_ BK175; replace BK176 := kd_ BK176; replace BK183 := kd_ BK183; replace HB := wd_ HB
    have p184 : 0 ≤ (x7_1 : Int) := od_
    have q184 : x7_1 < (l1.length : Int) := od_
    obtain ⟨ad184, e184, hx184_0, hx184_1, hx184_2, hx184_3⟩ := at_T35 HR1.out x7_1 p184 q184
    have hw184_3 := hx184_3
    have hw184_2 := hx184_2
    have hw184_1 := hx184_1
    have hw184_0 := hx184_0
    cases e184
    replace hx184_0 := hc_ HB hx184_0
    replace hx184_1 := hc_ HB hx184_1
    replace hx184_2 := hc_ HB hx184_2
    replace hx184_3 := hc_ HB hx184_3
    replace p184 := eq_true p184
    replace q184 := eq_true q184
    refine start_ (n := 12) (S := fun w' => w'.cell? ⟨gb183, 0, none⟩ = some (.slice Ao34 x184000_1.length co34) ∧ w'.cell? (ad184.add ((x7_1).toNat * 4)) = some (.int .i64 ((rd_T35 l1 x7_1).f0)) ∧ w'.cell? ⟨(ad184.add ((x7_1).toNat * 4)).block, (ad184.add ((x7_1).toNat * 4)).off + 1, none⟩ = some (.string ((rd_T35 l1 x7_1).f1)) ∧ w'.cell? ⟨(ad184.add ((x7_1).toNat * 4)).block, (ad184.add ((x7_1).toNat * 4)).off + 2, none⟩ = some (.string ((rd_T35 l1 x7_1).f2)) ∧ w'.cell? ⟨(ad184.add ((x7_1).toNat * 4)).block, (ad184.add ((x7_1).toNat * 4)).off + 3, none⟩ = some (.string ((rd_T35 l1 x7_1).f3))) (ds := []) #[false, false, false, false, false, false, false, false, false, false, false, false] (by kernel_rfl) rfl rfl ⟨bc_ BK183 0, (hc_ HB hw184_0), (hc_ HB hw184_1), (hc_ HB hw184_2), (hc_ HB hw184_3)⟩ (fun hHeld => ?_); refine with_tabW spec_DoActs.tab5 spec_DoActs.bits5 (fun HT_ HW_ => ?_)
    generalize wr.drew = w35 at HO_184000 BK175 BK176 BK183 HB hx184_0 hx184_1 hx184_2 hx184_3 hHeld ⊢
    refine pv_ 1 23 ?_
    refine pv_ 2 24 ?_
    refine pv_ 3 25 ?_
    refine tv_ 0 22 hHeld ?_
    refine tv_ 4 26 hHeld ?_
    refine join_ (σ := Value × Nat) 2 #[true, true, true, true, true, true, true, true, true, true, false, false] (fun s_ => [(27, .tuple #[.agg #[s_.1], .bool false]), (8, .pointer (some ⟨s_.2, 0, none⟩)), (21, .tuple #[.agg #[s_.1], .bool false]), (28, .agg #[s_.1]), (29, .bool false)]) (fun s_ w' => (w'.cell? ⟨gb183, 0, none⟩ = some (.slice Ao34 x184000_1.length co34) ∧ w'.cell? (ad184.add ((x7_1).toNat * 4)) = some (.int .i64 ((rd_T35 l1 x7_1).f0)) ∧ w'.cell? ⟨(ad184.add ((x7_1).toNat * 4)).block, (ad184.add ((x7_1).toNat * 4)).off + 1, none⟩ = some (.string ((rd_T35 l1 x7_1).f1)) ∧ w'.cell? ⟨(ad184.add ((x7_1).toNat * 4)).block, (ad184.add ((x7_1).toNat * 4)).off + 2, none⟩ = some (.string ((rd_T35 l1 x7_1).f2)) ∧ w'.cell? ⟨(ad184.add ((x7_1).toNat * 4)).block, (ad184.add ((x7_1).toNat * 4)).off + 3, none⟩ = some (.string ((rd_T35 l1 x7_1).f3))) ∧ (Kd.R k76 76 w' w.heap.size (fun k_ => some k_ ≠ (.slice Ao34 x184000_1.length co34 : Value).ownBlock) s_.1 t185) ∧ (Kd.R k76 76 w' w.heap.size (fun k_ => some k_ ≠ (s_.1 : Value).ownBlock) (.slice Ao34 x184000_1.length co34) x184000_1) ∧ (w'.heap[gb175]? = some (.cells #[.slice A0_0 l0_0.length c0_0] 31 (0, 0))) ∧ (w'.heap[gb176]? = some (.cells #[.slice none 0 0] 31 (0, 0))) ∧ (w'.heap[gb183]? = some (.cells #[.slice Ao34 x184000_1.length co34] 31 (0, 0))) ∧ (w'.heap[s_.2]? = some (.cells #[.slice none 0 0] 31 (0, 0))) ∧ (w.heap.size ≤ s_.2) ∧ (w.heap.size ≤ s_.2) ∧ (gb175 ≠ s_.2) ∧ (s_.2 ≠ gb175) ∧ (gb176 ≠ s_.2) ∧ (s_.2 ≠ gb176) ∧ (gb183 ≠ s_.2) ∧ (s_.2 ≠ gb183) ∧ (Below w.heap.size w w')) ?_ ?_
    rotate_left
    ·intro hCont
     refine two_ (i := 5) (j := 9) (Ni := some 27) (Nj := some 8) #[true, true, true, true, true, true, false, false, false, false, false, false] #[true, true, true, true, true, false, false, false, false, true, false, false] rfl rfl rfl rfl (two_of HT_.out (by kernel_rfl)) (by decide) (by decide) (fun K hK => ?_) (fun K hK => ?_)
     rotate_left
     ·skip
      refine box_step ?hg (N := 8) ?hd (cs := #[.slice none 0 0]) (t := 31) ?hr ?_; (case hd => rfl); (case hg => rfl); (case hr => first | (go_simp; done) | (go_simp; rfl))
      intro gb189 hg w36 hbox hb
      have n5_ := mk_ (hbox)
      have n6_ : Aside0 (w.heap.size ≤ gb189) := bz_ hg
      have n7_ : Aside0 (w.heap.size ≤ gb189) := bz_ hg
      have n8_ : Aside0 (gb175 ≠ gb189) := bl_ BK175 hg
      have n9_ : Aside0 (gb189 ≠ gb175) := bg_ BK175 hg
      have n10_ : Aside0 (gb176 ≠ gb189) := bl_ BK176 hg
      have n11_ : Aside0 (gb189 ≠ gb176) := bg_ BK176 hg
      have n12_ : Aside0 (gb183 ≠ gb189) := bl_ BK183 hg
      have n13_ : Aside0 (gb189 ≠ gb183) := bg_ BK183 hg
      have BK189 := n5_; have GW189 := n6_; have GE189 := n7_; have NB175_189 := n8_; have NB189_175 := n9_; have NB176_189 := n10_; have NB189_176 := n11_; have NB183_189 := n12_; have NB189_183 := n13_; clear n5_ n6_ n7_ n8_ n9_ n10_ n11_ n12_ n13_; replace HO_184000 := rb_ HO_184000 hb; replace BK175 := bb_ BK175 hb; replace BK176 := bb_ BK176 hb; replace BK183 := bb_ BK183 hb; replace HB := bs_ HB hb; clear hb hbox hg
      refine hK.out _ _ ⟨bc_ BK183 0, (hc_ HB hw184_0), (hc_ HB hw184_1), (hc_ HB hw184_2), (hc_ HB hw184_3)⟩ (fun hHeld => ?_)
      clear hK K
      refine norm_ (a' := ?_) ?_ ?_
      rotate_left
      ·show Act.put _ (some 8) _ = _
       simp only [Act.put, sia_, scz_, scs_, i64_w, i32_w]
       rfl
      refine one_ (i := 5) (N := some 27) #[true, true, true, true, true, true, false, false, false, true, false, false] rfl rfl (one_of HT_.out (by kernel_rfl)) (by decide) (fun K hK => ?_)
      refine goes_ Try.func10 (by kernel_rfl) rfl #[.agg #[.slice Ao34 x184000_1.length co34], .agg #[.int .i64 ((rd_T35 l1 x7_1).f0), .string ((rd_T35 l1 x7_1).f1), .string ((rd_T35 l1 x7_1).f2), .string ((rd_T35 l1 x7_1).f3)]] (by rfl) rfl rfl ga_ ?_
      with_reducible refine (spec_DoAct.calls k1 _ _ x184000_1 ((rd_T35 l1 x7_1).f0) ((rd_T35 l1 x7_1).f1) ((rd_T35 l1 x7_1).f2) ((rd_T35 l1 x7_1).f3) t185 false _ ?side1 ?side2 A18.out).mono ?_
      (case side1 => exact cr_ HO_184000)
      (case side2 => exact (Kd.R_reads' HO_184000.out).2.1)
      rintro e w37 ⟨v186, rfl, ho0, hb⟩
      refine ⟨_, rfl, ?_⟩
      have n0_ := mk_ (Kd.R_elder' (rp_ HO_184000) (Kd.R_base ho0) hb)
      have n1_ := mk_ (Kd.R_lower (Kd.R_new' ho0 (Kd.R_lt (rp_ HO_184000))) (below_size (bw_ HB)))
      clear HO_184000; have HO_184000 := n0_; have HO187 := n1_; clear n0_ n1_; replace BK175 := bb_ BK175 hb; replace BK176 := bb_ BK176 hb; replace BK183 := bb_ BK183 hb; replace BK189 := bb_ BK189 hb; replace HB := bs_ HB hb; (try clear hb); (try clear hb2); (try clear hk); (try clear hi); (try clear ho0)
      refine hK.out _ _ ⟨bc_ BK183 0, (hc_ HB hw184_0), (hc_ HB hw184_1), (hc_ HB hw184_2), (hc_ HB hw184_3)⟩ (fun hHeld => ?_)
      clear hK K
      refine norm_ (a' := ?_) ?_ ?_
      rotate_left
      ·show Act.put _ (some 27) _ = _
       simp only [Act.put, sia_, scz_, scs_, i64_w, i32_w]
       rfl
      refine pv_ 6 21 ?_
      refine pv_ 7 28 ?_
      refine pv_ 8 29 ?_
      exact norm_ (by simp only [putAll, Act.put, sia_, scz_, scs_]) (hCont (v186, gb189) _ ⟨hHeld, (rq_ (Kd.R_mono HO187.out (fun _ hk => hk.2))), (rq_ (Kd.R_mono HO_184000.out (fun _ hk => hk.2))), (bp_ BK175), (bp_ BK176), (bp_ BK183), (bp_ BK189), GW189.out, GE189.out, NB175_189.out, NB189_175.out, NB176_189.out, NB189_176.out, NB183_189.out, NB189_183.out, (bw_ HB)⟩)
     skip
     refine goes_ Try.func10 (by kernel_rfl) rfl #[.agg #[.slice Ao34 x184000_1.length co34], .agg #[.int .i64 ((rd_T35 l1 x7_1).f0), .string ((rd_T35 l1 x7_1).f1), .string ((rd_T35 l1 x7_1).f2), .string ((rd_T35 l1 x7_1).f3)]] (by rfl) rfl rfl ga_ ?_
     with_reducible refine (spec_DoAct.calls k1 _ _ x184000_1 ((rd_T35 l1 x7_1).f0) ((rd_T35 l1 x7_1).f1) ((rd_T35 l1 x7_1).f2) ((rd_T35 l1 x7_1).f3) t185 false _ ?side1 ?side2 A18.out).mono ?_
     (case side1 => exact cr_ HO_184000)
     (case side2 => exact (Kd.R_reads' HO_184000.out).2.1)
     rintro e w36 ⟨v186, rfl, ho0, hb⟩
     refine ⟨_, rfl, ?_⟩
     have n0_ := mk_ (Kd.R_elder' (rp_ HO_184000) (Kd.R_base ho0) hb)
     have n1_ := mk_ (Kd.R_lower (Kd.R_new' ho0 (Kd.R_lt (rp_ HO_184000))) (below_size (bw_ HB)))
     clear HO_184000; have HO_184000 := n0_; have HO187 := n1_; clear n0_ n1_; replace BK175 := bb_ BK175 hb; replace BK176 := bb_ BK176 hb; replace BK183 := bb_ BK183 hb; replace HB := bs_ HB hb; (try clear hb); (try clear hb2); (try clear hk); (try clear hi); (try clear ho0)
     refine hK.out _ _ ⟨bc_ BK183 0, (hc_ HB hw184_0), (hc_ HB hw184_1), (hc_ HB hw184_2), (hc_ HB hw184_3)⟩ (fun hHeld => ?_)
     clear hK K
     refine norm_ (a' := ?_) ?_ ?_
     rotate_left
     ·show Act.put _ (some 27) _ = _
      simp only [Act.put, sia_, scz_, scs_, i64_w, i32_w]
      rfl
     refine pv_ 6 21 ?_
     refine pv_ 7 28 ?_
     refine pv_ 8 29 ?_
     refine one_ (i := 9) (N := some 8) #[true, true, true, true, true, true, true, true, true, true, false, false] rfl rfl (one_of HT_.out (by kernel_rfl)) (by decide) (fun K hK => ?_)
     refine box_step ?hg (N := 8) ?hd (cs := #[.slice none 0 0]) (t := 31) ?hr ?_; (case hd => rfl); (case hg => rfl); (case hr => first | (go_simp; done) | (go_simp; rfl))
     intro gb189 hg w37 hbox hb
     have n6_ := mk_ (hbox)
     have n7_ : Aside0 (w.heap.size ≤ gb189) := bz_ hg
     have n8_ : Aside0 (w.heap.size ≤ gb189) := bz_ hg
     have n9_ : Aside0 (gb175 ≠ gb189) := bl_ BK175 hg
     have n10_ : Aside0 (gb189 ≠ gb175) := bg_ BK175 hg
     have n11_ : Aside0 (gb176 ≠ gb189) := bl_ BK176 hg
     have n12_ : Aside0 (gb189 ≠ gb176) := bg_ BK176 hg
     have n13_ : Aside0 (gb183 ≠ gb189) := bl_ BK183 hg
     have n14_ : Aside0 (gb189 ≠ gb183) := bg_ BK183 hg
     have BK189 := n6_; have GW189 := n7_; have GE189 := n8_; have NB175_189 := n9_; have NB189_175 := n10_; have NB176_189 := n11_; have NB189_176 := n12_; have NB183_189 := n13_; have NB189_183 := n14_; clear n6_ n7_ n8_ n9_ n10_ n11_ n12_ n13_ n14_; replace HO_184000 := rb_ HO_184000 hb; replace HO187 := rb_ HO187 hb; replace BK175 := bb_ BK175 hb; replace BK176 := bb_ BK176 hb; replace BK183 := bb_ BK183 hb; replace HB := bs_ HB hb; clear hb hbox hg
     refine hK.out _ _ ⟨bc_ BK183 0, (hc_ HB hw184_0), (hc_ HB hw184_1), (hc_ HB hw184_2), (hc_ HB hw184_3)⟩ (fun hHeld => ?_)
     clear hK K
     refine norm_ (a' := ?_) ?_ ?_
     rotate_left
     ·show Act.put _ (some 8) _ = _
      simp only [Act.put, sia_, scz_, scs_, i64_w, i32_w]
      rfl
     exact norm_ (by simp only [putAll, Act.put, sia_, scz_, scs_]) (hCont (v186, gb189) _ ⟨hHeld, (rq_ (Kd.R_mono HO187.out (fun _ hk => hk.2))), (rq_ (Kd.R_mono HO_184000.out (fun _ hk => hk.2))), (bp_ BK175), (bp_ BK176), (bp_ BK183), (bp_ BK189), GW189.out, GE189.out, NB175_189.out, NB189_175.out, NB176_189.out, NB189_176.out, NB183_189.out, NB189_183.out, (bw_ HB)⟩)
    rintro ⟨v186, gb189⟩ w38 ⟨hS_, h0_, h1_, h2_, h3_, h4_, h5_, h6_, h7_, h8_, h9_, h10_, h11_, h12_, h13_, h14_⟩
    have n0_ : Aside0 (Kd.R k76 76 w38 w.heap.size (fun k_ => some k_ ≠ (.slice Ao34 x184000_1.length co34 : Value).ownBlock) v186 t185) := ⟨h0_⟩
    have n1_ : Aside0 (Kd.R k76 76 w38 w.heap.size (fun k_ => some k_ ≠ (v186 : Value).ownBlock) (.slice Ao34 x184000_1.length co34) x184000_1) := ⟨h1_⟩
    have n2_ : Aside0 (w38.heap[gb175]? = some (.cells #[.slice A0_0 l0_0.length c0_0] 31 (0, 0))) := ⟨h2_⟩
    have n3_ : Aside0 (w38.heap[gb176]? = some (.cells #[.slice none 0 0] 31 (0, 0))) := ⟨h3_⟩
    have n4_ : Aside0 (w38.heap[gb183]? = some (.cells #[.slice Ao34 x184000_1.length co34] 31 (0, 0))) := ⟨h4_⟩
    have n5_ : Aside0 (w38.heap[gb189]? = some (.cells #[.slice none 0 0] 31 (0, 0))) := ⟨h5_⟩
    have n6_ : Aside0 (w.heap.size ≤ gb189) := ⟨h6_⟩
    have n7_ : Aside0 (w.heap.size ≤ gb189) := ⟨h7_⟩
    have n8_ : Aside0 (gb175 ≠ gb189) := ⟨h8_⟩
    have n9_ : Aside0 (gb189 ≠ gb175) := ⟨h9_⟩
    have n10_ : Aside0 (gb176 ≠ gb189) := ⟨h10_⟩
    have n11_ : Aside0 (gb189 ≠ gb176) := ⟨h11_⟩
    have n12_ : Aside0 (gb183 ≠ gb189) := ⟨h12_⟩
    have n13_ : Aside0 (gb189 ≠ gb183) := ⟨h13_⟩
    have n14_ : Aside0 (Below w.heap.size w w38) := ⟨h14_⟩
    clear HO_184000; clear BK175; clear BK176; clear BK183; clear HB; clear h0_ h1_ h2_ h3_ h4_ h5_ h6_ h7_ h8_ h9_ h10_ h11_ h12_ h13_ h14_; have HO187 := n0_; have HO_184000 := n1_; have BK175 := n2_; have BK176 := n3_; have BK183 := n4_; have BK189 := n5_; have GW189 := n6_; have GE189 := n7_; have NB175_189 := n8_; have NB189_175 := n9_; have NB176_189 := n10_; have NB189_176 := n11_; have NB183_189 := n12_; have NB189_183 := n13_; have HB := n14_; clear n0_ n1_ n2_ n3_ n4_ n5_ n6_ n7_ n8_ n9_ n10_ n11_ n12_ n13_ n14_
    have hHeld : w38.cell? ⟨gb183, 0, none⟩ = some (.slice Ao34 x184000_1.length co34) ∧ w38.cell? (ad184.add ((x7_1).toNat * 4)) = some (.int .i64 ((rd_T35 l1 x7_1).f0)) ∧ w38.cell? ⟨(ad184.add ((x7_1).toNat * 4)).block, (ad184.add ((x7_1).toNat * 4)).off + 1, none⟩ = some (.string ((rd_T35 l1 x7_1).f1)) ∧ w38.cell? ⟨(ad184.add ((x7_1).toNat * 4)).block, (ad184.add ((x7_1).toNat * 4)).off + 2, none⟩ = some (.string ((rd_T35 l1 x7_1).f2)) ∧ w38.cell? ⟨(ad184.add ((x7_1).toNat * 4)).block, (ad184.add ((x7_1).toNat * 4)).off + 3, none⟩ = some (.string ((rd_T35 l1 x7_1).f3)) := hS_
    obtain ⟨Ao39, co39, eo39⟩ := Kd.R_slice HO187.out
    (first | subst eo39 | (injection eo39 with f1_ f2_ f3_; have f4_ := f1_.symm; have f5_ := f3_.symm; clear f1_ f2_ f3_; subst f4_; subst f5_))
    refine norm_ (a' := ?_) ?_ ?_
    rotate_left
    ·simp only [putAll, Act.put, sia_, scz_, scs_]
     rfl
    refine one_ (i := 10) (N := none) #[true, true, true, true, true, true, true, true, true, true, true, false] rfl rfl (one_of HT_.out (by kernel_rfl)) (by decide) (fun K hK => ?_)
    have hs40 : w38.cell? ⟨gb189, 0, none⟩ = some (.slice none 0 0) := bc_ BK189 0
    have hfs40 := blk_frozen BK189.out 0
    have hns40_0 := NB175_189.out
    have hns40_1 := NB176_189.out
    have hns40_2 := NB183_189.out
    have hms40_0 := NB189_175.out
    have hms40_1 := NB189_176.out
    have hms40_2 := NB189_183.out
    refine skip_ (w1 := ?_) (by rfl) rfl ?_ ?_
    rotate_left
    ·go_simp
     rfl
    refine hK.out _ _ ⟨((cell_far (p := ⟨gb189, _, none⟩) NB183_189.out _).trans (hHeld.1)), ((cell_far (p := ⟨gb189, _, none⟩) (by first | exact Nat.ne_of_lt (Nat.lt_of_lt_of_le (by have := World.block_lt_of_cell? _ _ hw184_0; first | rwa [add_block] at this | exact this) GW189.out) | (rw [add_block]; exact Nat.ne_of_lt (Nat.lt_of_lt_of_le (by have := World.block_lt_of_cell? _ _ hw184_0; first | rwa [add_block] at this | exact this) GW189.out)) | (show (Addr.add _ _).block ≠ _; rw [add_block]; exact Nat.ne_of_lt (Nat.lt_of_lt_of_le (by have := World.block_lt_of_cell? _ _ hw184_0; first | rwa [add_block] at this | exact this) GW189.out)) | (dsimp only; exact Nat.ne_of_lt (Nat.lt_of_lt_of_le (by have := World.block_lt_of_cell? _ _ hw184_0; first | rwa [add_block] at this | exact this) GW189.out))) _).trans (hHeld.2.1)), ((cell_far (p := ⟨gb189, _, none⟩) (by first | exact Nat.ne_of_lt (Nat.lt_of_lt_of_le (by have := World.block_lt_of_cell? _ _ hw184_1; first | rwa [add_block] at this | exact this) GW189.out) | (rw [add_block]; exact Nat.ne_of_lt (Nat.lt_of_lt_of_le (by have := World.block_lt_of_cell? _ _ hw184_1; first | rwa [add_block] at this | exact this) GW189.out)) | (show (Addr.add _ _).block ≠ _; rw [add_block]; exact Nat.ne_of_lt (Nat.lt_of_lt_of_le (by have := World.block_lt_of_cell? _ _ hw184_1; first | rwa [add_block] at this | exact this) GW189.out)) | (dsimp only; exact Nat.ne_of_lt (Nat.lt_of_lt_of_le (by have := World.block_lt_of_cell? _ _ hw184_1; first | rwa [add_block] at this | exact this) GW189.out))) _).trans (hHeld.2.2.1)), ((cell_far (p := ⟨gb189, _, none⟩) (by first | exact Nat.ne_of_lt (Nat.lt_of_lt_of_le (by have := World.block_lt_of_cell? _ _ hw184_2; first | rwa [add_block] at this | exact this) GW189.out) | (rw [add_block]; exact Nat.ne_of_lt (Nat.lt_of_lt_of_le (by have := World.block_lt_of_cell? _ _ hw184_2; first | rwa [add_block] at this | exact this) GW189.out)) | (show (Addr.add _ _).block ≠ _; rw [add_block]; exact Nat.ne_of_lt (Nat.lt_of_lt_of_le (by have := World.block_lt_of_cell? _ _ hw184_2; first | rwa [add_block] at this | exact this) GW189.out)) | (dsimp only; exact Nat.ne_of_lt (Nat.lt_of_lt_of_le (by have := World.block_lt_of_cell? _ _ hw184_2; first | rwa [add_block] at this | exact this) GW189.out))) _).trans (hHeld.2.2.2.1)), ((cell_far (p := ⟨gb189, _, none⟩) (by first | exact Nat.ne_of_lt (Nat.lt_of_lt_of_le (by have := World.block_lt_of_cell? _ _ hw184_3; first | rwa [add_block] at this | exact this) GW189.out) | (rw [add_block]; exact Nat.ne_of_lt (Nat.lt_of_lt_of_le (by have := World.block_lt_of_cell? _ _ hw184_3; first | rwa [add_block] at this | exact this) GW189.out)) | (show (Addr.add _ _).block ≠ _; rw [add_block]; exact Nat.ne_of_lt (Nat.lt_of_lt_of_le (by have := World.block_lt_of_cell? _ _ hw184_3; first | rwa [add_block] at this | exact this) GW189.out)) | (dsimp only; exact Nat.ne_of_lt (Nat.lt_of_lt_of_le (by have := World.block_lt_of_cell? _ _ hw184_3; first | rwa [add_block] at this | exact this) GW189.out))) _).trans (hHeld.2.2.2.2))⟩ (fun hHeld => ?_)
    clear hK K
    refine pv_ 11 9 ?_
    refine done_ (done_of HT_.out (by kernel_rfl)) ?_
    obtain ⟨hnb41, hnc41⟩ := ns_ NB183_175
    obtain ⟨hnb42, hnc42⟩ := ns_ NB183_176
    obtain ⟨hnb43, hnc43⟩ := ns_ NB183_189
    have hcz44_0 : w38.cell? ⟨gb183, 0, none⟩ = some (.slice Ao34 x184000_1.length co34) := bc_ BK183 0
    have hfz44_0 := blk_frozen BK183.out 0
    obtain ⟨hnb45, hnc45⟩ := ns_ NB176_175
    obtain ⟨hnb46, hnc46⟩ := ns_ NB176_189
    have hcz47_0 : w38.cell? ⟨gb176, 0, none⟩ = some (.slice none 0 0) := bc_ BK176 0
    have hfz47_0 := blk_frozen BK176.out 0
    try go_wp2
    refine bodyPost_ret (results_ct rfl _ _ gb176 31 #[.slice Ao34 x184000_1.length co34] (0, 0) _ rfl bu_ Try.underlying31 rfl (by kernel_rfl)) rfl ?_
    exact ⟨_, er_, rq_ (Kd.R_mono (Kd.R_far (p := ⟨gb176, 0, none⟩) (Kd.R_far (p := ⟨gb189, 0, none⟩) (Kd.R_types (Kd.R_types HO_184000.out BK189.out (by decide)) BK176.out (by decide)) (fun _ hk => hk.1.2) (.slice Ao39 t185.length co39)) (fun _ hk => hk.2) (.slice Ao34 x184000_1.length co34)) (fun _ hk => trivial)), bw_ HB⟩
   subst c19
   rw [if_pos rfl] at H
   have H' := Aside0.mk H
   clear H
   obtain ⟨Ao20, co20, eo20⟩ := Kd.R_slice HO_184000.out
   subst eo20
   try go_wp2
   replace HO_184000 := rd_ HO_184000; replace BK175 := kd_ BK175; replace BK176 := kd_ BK176; replace BK183 := kd_ BK183; replace HB := wd_ HB
   have p184 : 0 ≤ (x7_1 : Int) := od_
   have q184 : x7_1 < (l1.length : Int) := od_
   obtain ⟨ad184, e184, hx184_0, hx184_1, hx184_2, hx184_3⟩ := at_T35 HR1.out x7_1 p184 q184
   have hw184_3 := hx184_3
   have hw184_2 := hx184_2
   have hw184_1 := hx184_1
   have hw184_0 := hx184_0
   cases e184
   replace hx184_0 := hc_ HB hx184_0
   replace hx184_1 := hc_ HB hx184_1
   replace hx184_2 := hc_ HB hx184_2
   replace hx184_3 := hc_ HB hx184_3
   replace p184 := eq_true p184
   replace q184 := eq_true q184
   refine start_ (n := 12) (S := fun w' => w'.cell? ⟨gb183, 0, none⟩ = some (.slice Ao20 x184000_1.length co20) ∧ w'.cell? (ad184.add ((x7_1).toNat * 4)) = some (.int .i64 ((rd_T35 l1 x7_1).f0)) ∧ w'.cell? ⟨(ad184.add ((x7_1).toNat * 4)).block, (ad184.add ((x7_1).toNat * 4)).off + 1, none⟩ = some (.string ((rd_T35 l1 x7_1).f1)) ∧ w'.cell? ⟨(ad184.add ((x7_1).toNat * 4)).block, (ad184.add ((x7_1).toNat * 4)).off + 2, none⟩ = some (.string ((rd_T35 l1 x7_1).f2)) ∧ w'.cell? ⟨(ad184.add ((x7_1).toNat * 4)).block, (ad184.add ((x7_1).toNat * 4)).off + 3, none⟩ = some (.string ((rd_T35 l1 x7_1).f3))) (ds := []) #[false, false, false, false, false, false, false, false, false, false, false, false] (by kernel_rfl) rfl rfl ⟨bc_ BK183 0, (hc_ HB hw184_0), (hc_ HB hw184_1), (hc_ HB hw184_2), (hc_ HB hw184_3)⟩ (fun hHeld => ?_); refine with_tabW spec_DoActs.tab5 spec_DoActs.bits5 (fun HT_ HW_ => ?_)
   generalize wr.drew = w21 at HO_184000 BK175 BK176 BK183 HB hx184_0 hx184_1 hx184_2 hx184_3 hHeld ⊢
   refine pv_ 1 23 ?_
   refine pv_ 2 24 ?_
   refine pv_ 3 25 ?_
   refine tv_ 0 22 hHeld ?_
   refine tv_ 4 26 hHeld ?_
   refine join_ (σ := Value × Nat) 2 #[true, true, true, true, true, true, true, true, true, true, false, false] (fun s_ => [(27, .tuple #[.agg #[s_.1], .bool true]), (8, .pointer (some ⟨s_.2, 0, none⟩)), (21, .tuple #[.agg #[s_.1], .bool true]), (28, .agg #[s_.1]), (29, .bool true)]) (fun s_ w' => (w'.cell? ⟨gb183, 0, none⟩ = some (.slice Ao20 x184000_1.length co20) ∧ w'.cell? (ad184.add ((x7_1).toNat * 4)) = some (.int .i64 ((rd_T35 l1 x7_1).f0)) ∧ w'.cell? ⟨(ad184.add ((x7_1).toNat * 4)).block, (ad184.add ((x7_1).toNat * 4)).off + 1, none⟩ = some (.string ((rd_T35 l1 x7_1).f1)) ∧ w'.cell? ⟨(ad184.add ((x7_1).toNat * 4)).block, (ad184.add ((x7_1).toNat * 4)).off + 2, none⟩ = some (.string ((rd_T35 l1 x7_1).f2)) ∧ w'.cell? ⟨(ad184.add ((x7_1).toNat * 4)).block, (ad184.add ((x7_1).toNat * 4)).off + 3, none⟩ = some (.string ((rd_T35 l1 x7_1).f3))) ∧ (Kd.R k76 76 w' w.heap.size (fun k_ => some k_ ≠ (.slice Ao20 x184000_1.length co20 : Value).ownBlock) s_.1 t185) ∧ (Kd.R k76 76 w' w.heap.size (fun k_ => some k_ ≠ (s_.1 : Value).ownBlock) (.slice Ao20 x184000_1.length co20) x184000_1) ∧ (w'.heap[gb175]? = some (.cells #[.slice A0_0 l0_0.length c0_0] 31 (0, 0))) ∧ (w'.heap[gb176]? = some (.cells #[.slice none 0 0] 31 (0, 0))) ∧ (w'.heap[gb183]? = some (.cells #[.slice Ao20 x184000_1.length co20] 31 (0, 0))) ∧ (w'.heap[s_.2]? = some (.cells #[.slice none 0 0] 31 (0, 0))) ∧ (w.heap.size ≤ s_.2) ∧ (w.heap.size ≤ s_.2) ∧ (gb175 ≠ s_.2) ∧ (s_.2 ≠ gb175) ∧ (gb176 ≠ s_.2) ∧ (s_.2 ≠ gb176) ∧ (gb183 ≠ s_.2) ∧ (s_.2 ≠ gb183) ∧ (Below w.heap.size w w')) ?_ ?_
   rotate_left
   ·intro hCont
    refine two_ (i := 5) (j := 9) (Ni := some 27) (Nj := some 8) #[true, true, true, true, true, true, false, false, false, false, false, false] #[true, true, true, true, true, false, false, false, false, true, false, false] rfl rfl rfl rfl (two_of HT_.out (by kernel_rfl)) (by decide) (by decide) (fun K hK => ?_) (fun K hK => ?_)
    rotate_left
    ·skip
     refine box_step ?hg (N := 8) ?hd (cs := #[.slice none 0 0]) (t := 31) ?hr ?_; (case hd => rfl); (case hg => rfl); (case hr => first | (go_simp; done) | (go_simp; rfl))
     intro gb189 hg w22 hbox hb
     have n5_ := mk_ (hbox)
     have n6_ : Aside0 (w.heap.size ≤ gb189) := bz_ hg
     have n7_ : Aside0 (w.heap.size ≤ gb189) := bz_ hg
     have n8_ : Aside0 (gb175 ≠ gb189) := bl_ BK175 hg
     have n9_ : Aside0 (gb189 ≠ gb175) := bg_ BK175 hg
     have n10_ : Aside0 (gb176 ≠ gb189) := bl_ BK176 hg
     have n11_ : Aside0 (gb189 ≠ gb176) := bg_ BK176 hg
     have n12_ : Aside0 (gb183 ≠ gb189) := bl_ BK183 hg
     have n13_ : Aside0 (gb189 ≠ gb183) := bg_ BK183 hg
     have BK189 := n5_; have GW189 := n6_; have GE189 := n7_; have NB175_189 := n8_; have NB189_175 := n9_; have NB176_189 := n10_; have NB189_176 := n11_; have NB183_189 := n12_; have NB189_183 := n13_; clear n5_ n6_ n7_ n8_ n9_ n10_ n11_ n12_ n13_; replace HO_184000 := rb_ HO_184000 hb; replace BK175 := bb_ BK175 hb; replace BK176 := bb_ BK176 hb; replace BK183 := bb_ BK183 hb; replace HB := bs_ HB hb; clear hb hbox hg
     refine hK.out _ _ ⟨bc_ BK183 0, (hc_ HB hw184_0), (hc_ HB hw184_1), (hc_ HB hw184_2), (hc_ HB hw184_3)⟩ (fun hHeld => ?_)
     clear hK K
     refine norm_ (a' := ?_) ?_ ?_
     rotate_left
     ·show Act.put _ (some 8) _ = _
      simp only [Act.put, sia_, scz_, scs_, i64_w, i32_w]
      rfl
     refine one_ (i := 5) (N := some 27) #[true, true, true, true, true, true, false, false, false, true, false, false] rfl rfl (one_of HT_.out (by kernel_rfl)) (by decide) (fun K hK => ?_)
     refine goes_ Try.func10 (by kernel_rfl) rfl #[.agg #[.slice Ao20 x184000_1.length co20], .agg #[.int .i64 ((rd_T35 l1 x7_1).f0), .string ((rd_T35 l1 x7_1).f1), .string ((rd_T35 l1 x7_1).f2), .string ((rd_T35 l1 x7_1).f3)]] (by rfl) rfl rfl ga_ ?_
     with_reducible refine (spec_DoAct.calls k1 _ _ x184000_1 ((rd_T35 l1 x7_1).f0) ((rd_T35 l1 x7_1).f1) ((rd_T35 l1 x7_1).f2) ((rd_T35 l1 x7_1).f3) t185 true _ ?side1 ?side2 A18.out).mono ?_
     (case side1 => exact cr_ HO_184000)
     (case side2 => exact (Kd.R_reads' HO_184000.out).2.1)
     rintro e w23 ⟨v186, rfl, ho0, hb⟩
     refine ⟨_, rfl, ?_⟩
     have n0_ := mk_ (Kd.R_elder' (rp_ HO_184000) (Kd.R_base ho0) hb)
     have n1_ := mk_ (Kd.R_lower (Kd.R_new' ho0 (Kd.R_lt (rp_ HO_184000))) (below_size (bw_ HB)))
     clear HO_184000; have HO_184000 := n0_; have HO187 := n1_; clear n0_ n1_; replace BK175 := bb_ BK175 hb; replace BK176 := bb_ BK176 hb; replace BK183 := bb_ BK183 hb; replace BK189 := bb_ BK189 hb; replace HB := bs_ HB hb; (try clear hb); (try clear hb2); (try clear hk); (try clear hi); (try clear ho0)
     refine hK.out _ _ ⟨bc_ BK183 0, (hc_ HB hw184_0), (hc_ HB hw184_1), (hc_ HB hw184_2), (hc_ HB hw184_3)⟩ (fun hHeld => ?_)
     clear hK K
     refine norm_ (a' := ?_) ?_ ?_
     rotate_left
     ·show Act.put _ (some 27) _ = _
      simp only [Act.put, sia_, scz_, scs_, i64_w, i32_w]
      rfl
     refine pv_ 6 21 ?_
     refine pv_ 7 28 ?_
     refine pv_ 8 29 ?_
     exact norm_ (by simp only [putAll, Act.put, sia_, scz_, scs_]) (hCont (v186, gb189) _ ⟨hHeld, (rq_ (Kd.R_mono HO187.out (fun _ hk => hk.2))), (rq_ (Kd.R_mono HO_184000.out (fun _ hk => hk.2))), (bp_ BK175), (bp_ BK176), (bp_ BK183), (bp_ BK189), GW189.out, GE189.out, NB175_189.out, NB189_175.out, NB176_189.out, NB189_176.out, NB183_189.out, NB189_183.out, (bw_ HB)⟩)
    skip
    refine goes_ Try.func10 (by kernel_rfl) rfl #[.agg #[.slice Ao20 x184000_1.length co20], .agg #[.int .i64 ((rd_T35 l1 x7_1).f0), .string ((rd_T35 l1 x7_1).f1), .string ((rd_T35 l1 x7_1).f2), .string ((rd_T35 l1 x7_1).f3)]] (by rfl) rfl rfl ga_ ?_
    with_reducible refine (spec_DoAct.calls k1 _ _ x184000_1 ((rd_T35 l1 x7_1).f0) ((rd_T35 l1 x7_1).f1) ((rd_T35 l1 x7_1).f2) ((rd_T35 l1 x7_1).f3) t185 true _ ?side1 ?side2 A18.out).mono ?_
    (case side1 => exact cr_ HO_184000)
    (case side2 => exact (Kd.R_reads' HO_184000.out).2.1)
    rintro e w22 ⟨v186, rfl, ho0, hb⟩
    refine ⟨_, rfl, ?_⟩
    have n0_ := mk_ (Kd.R_elder' (rp_ HO_184000) (Kd.R_base ho0) hb)
    have n1_ := mk_ (Kd.R_lower (Kd.R_new' ho0 (Kd.R_lt (rp_ HO_184000))) (below_size (bw_ HB)))
    clear HO_184000; have HO_184000 := n0_; have HO187 := n1_; clear n0_ n1_; replace BK175 := bb_ BK175 hb; replace BK176 := bb_ BK176 hb; replace BK183 := bb_ BK183 hb; replace HB := bs_ HB hb; (try clear hb); (try clear hb2); (try clear hk); (try clear hi); (try clear ho0)
    refine hK.out _ _ ⟨bc_ BK183 0, (hc_ HB hw184_0), (hc_ HB hw184_1), (hc_ HB hw184_2), (hc_ HB hw184_3)⟩ (fun hHeld => ?_)
    clear hK K
    refine norm_ (a' := ?_) ?_ ?_
    rotate_left
    ·show Act.put _ (some 27) _ = _
     simp only [Act.put, sia_, scz_, scs_, i64_w, i32_w]
     rfl
    refine pv_ 6 21 ?_
    refine pv_ 7 28 ?_
    refine pv_ 8 29 ?_
    refine one_ (i := 9) (N := some 8) #[true, true, true, true, true, true, true, true, true, true, false, false] rfl rfl (one_of HT_.out (by kernel_rfl)) (by decide) (fun K hK => ?_)
    refine box_step ?hg (N := 8) ?hd (cs := #[.slice none 0 0]) (t := 31) ?hr ?_; (case hd => rfl); (case hg => rfl); (case hr => first | (go_simp; done) | (go_simp; rfl))
    intro gb189 hg w23 hbox hb
    have n6_ := mk_ (hbox)
    have n7_ : Aside0 (w.heap.size ≤ gb189) := bz_ hg
    have n8_ : Aside0 (w.heap.size ≤ gb189) := bz_ hg
    have n9_ : Aside0 (gb175 ≠ gb189) := bl_ BK175 hg
    have n10_ : Aside0 (gb189 ≠ gb175) := bg_ BK175 hg
    have n11_ : Aside0 (gb176 ≠ gb189) := bl_ BK176 hg
    have n12_ : Aside0 (gb189 ≠ gb176) := bg_ BK176 hg
    have n13_ : Aside0 (gb183 ≠ gb189) := bl_ BK183 hg
    have n14_ : Aside0 (gb189 ≠ gb183) := bg_ BK183 hg
    have BK189 := n6_; have GW189 := n7_; have GE189 := n8_; have NB175_189 := n9_; have NB189_175 := n10_; have NB176_189 := n11_; have NB189_176 := n12_; have NB183_189 := n13_; have NB189_183 := n14_; clear n6_ n7_ n8_ n9_ n10_ n11_ n12_ n13_ n14_; replace HO_184000 := rb_ HO_184000 hb; replace HO187 := rb_ HO187 hb; replace BK175 := bb_ BK175 hb; replace BK176 := bb_ BK176 hb; replace BK183 := bb_ BK183 hb; replace HB := bs_ HB hb; clear hb hbox hg
    refine hK.out _ _ ⟨bc_ BK183 0, (hc_ HB hw184_0), (hc_ HB hw184_1), (hc_ HB hw184_2), (hc_ HB hw184_3)⟩ (fun hHeld => ?_)
    clear hK K
    refine norm_ (a' := ?_) ?_ ?_
    rotate_left
    ·show Act.put _ (some 8) _ = _
     simp only [Act.put, sia_, scz_, scs_, i64_w, i32_w]
     rfl
    exact norm_ (by simp only [putAll, Act.put, sia_, scz_, scs_]) (hCont (v186, gb189) _ ⟨hHeld, (rq_ (Kd.R_mono HO187.out (fun _ hk => hk.2))), (rq_ (Kd.R_mono HO_184000.out (fun _ hk => hk.2))), (bp_ BK175), (bp_ BK176), (bp_ BK183), (bp_ BK189), GW189.out, GE189.out, NB175_189.out, NB189_175.out, NB176_189.out, NB189_176.out, NB183_189.out, NB189_183.out, (bw_ HB)⟩)
   rintro ⟨v186, gb189⟩ w24 ⟨hS_, h0_, h1_, h2_, h3_, h4_, h5_, h6_, h7_, h8_, h9_, h10_, h11_, h12_, h13_, h14_⟩
   have n0_ : Aside0 (Kd.R k76 76 w24 w.heap.size (fun k_ => some k_ ≠ (.slice Ao20 x184000_1.length co20 : Value).ownBlock) v186 t185) := ⟨h0_⟩
   have n1_ : Aside0 (Kd.R k76 76 w24 w.heap.size (fun k_ => some k_ ≠ (v186 : Value).ownBlock) (.slice Ao20 x184000_1.length co20) x184000_1) := ⟨h1_⟩
   have n2_ : Aside0 (w24.heap[gb175]? = some (.cells #[.slice A0_0 l0_0.length c0_0] 31 (0, 0))) := ⟨h2_⟩
   have n3_ : Aside0 (w24.heap[gb176]? = some (.cells #[.slice none 0 0] 31 (0, 0))) := ⟨h3_⟩
   have n4_ : Aside0 (w24.heap[gb183]? = some (.cells #[.slice Ao20 x184000_1.length co20] 31 (0, 0))) := ⟨h4_⟩
   have n5_ : Aside0 (w24.heap[gb189]? = some (.cells #[.slice none 0 0] 31 (0, 0))) := ⟨h5_⟩
   have n6_ : Aside0 (w.heap.size ≤ gb189) := ⟨h6_⟩
   have n7_ : Aside0 (w.heap.size ≤ gb189) := ⟨h7_⟩
   have n8_ : Aside0 (gb175 ≠ gb189) := ⟨h8_⟩
   have n9_ : Aside0 (gb189 ≠ gb175) := ⟨h9_⟩
   have n10_ : Aside0 (gb176 ≠ gb189) := ⟨h10_⟩
   have n11_ : Aside0 (gb189 ≠ gb176) := ⟨h11_⟩
   have n12_ : Aside0 (gb183 ≠ gb189) := ⟨h12_⟩
   have n13_ : Aside0 (gb189 ≠ gb183) := ⟨h13_⟩
   have n14_ : Aside0 (Below w.heap.size w w24) := ⟨h14_⟩
   clear HO_184000; clear BK175; clear BK176; clear BK183; clear HB; clear h0_ h1_ h2_ h3_ h4_ h5_ h6_ h7_ h8_ h9_ h10_ h11_ h12_ h13_ h14_; have HO187 := n0_; have HO_184000 := n1_; have BK175 := n2_; have BK176 := n3_; have BK183 := n4_; have BK189 := n5_; have GW189 := n6_; have GE189 := n7_; have NB175_189 := n8_; have NB189_175 := n9_; have NB176_189 := n10_; have NB189_176 := n11_; have NB183_189 := n12_; have NB189_183 := n13_; have HB := n14_; clear n0_ n1_ n2_ n3_ n4_ n5_ n6_ n7_ n8_ n9_ n10_ n11_ n12_ n13_ n14_
   have hHeld : w24.cell? ⟨gb183, 0, none⟩ = some (.slice Ao20 x184000_1.length co20) ∧ w24.cell? (ad184.add ((x7_1).toNat * 4)) = some (.int .i64 ((rd_T35 l1 x7_1).f0)) ∧ w24.cell? ⟨(ad184.add ((x7_1).toNat * 4)).block, (ad184.add ((x7_1).toNat * 4)).off + 1, none⟩ = some (.string ((rd_T35 l1 x7_1).f1)) ∧ w24.cell? ⟨(ad184.add ((x7_1).toNat * 4)).block, (ad184.add ((x7_1).toNat * 4)).off + 2, none⟩ = some (.string ((rd_T35 l1 x7_1).f2)) ∧ w24.cell? ⟨(ad184.add ((x7_1).toNat * 4)).block, (ad184.add ((x7_1).toNat * 4)).off + 3, none⟩ = some (.string ((rd_T35 l1 x7_1).f3)) := hS_
   obtain ⟨Ao25, co25, eo25⟩ := Kd.R_slice HO187.out
   (first | subst eo25 | (injection eo25 with f1_ f2_ f3_; have f4_ := f1_.symm; have f5_ := f3_.symm; clear f1_ f2_ f3_; subst f4_; subst f5_))
   refine norm_ (a' := ?_) ?_ ?_
   rotate_left
   ·simp only [putAll, Act.put, sia_, scz_, scs_]
    rfl
   refine one_ (i := 10) (N := none) #[true, true, true, true, true, true, true, true, true, true, true, false] rfl rfl (one_of HT_.out (by kernel_rfl)) (by decide) (fun K hK => ?_)
   have hs26 : w24.cell? ⟨gb189, 0, none⟩ = some (.slice none 0 0) := bc_ BK189 0
   have hfs26 := blk_frozen BK189.out 0
   have hns26_0 := NB175_189.out
   have hns26_1 := NB176_189.out
   have hns26_2 := NB183_189.out
   have hms26_0 := NB189_175.out
   have hms26_1 := NB189_176.out
   have hms26_2 := NB189_183.out
   refine skip_ (w1 := ?_) (by rfl) rfl ?_ ?_
   rotate_left
   ·go_simp
    rfl
   refine hK.out _ _ ⟨((cell_far (p := ⟨gb189, _, none⟩) NB183_189.out _).trans (hHeld.1)), ((cell_far (p := ⟨gb189, _, none⟩) (by first | exact Nat.ne_of_lt (Nat.lt_of_lt_of_le (by have := World.block_lt_of_cell? _ _ hw184_0; first | rwa [add_block] at this | exact this) GW189.out) | (rw [add_block]; exact Nat.ne_of_lt (Nat.lt_of_lt_of_le (by have := World.block_lt_of_cell? _ _ hw184_0; first | rwa [add_block] at this | exact this) GW189.out)) | (show (Addr.add _ _).block ≠ _; rw [add_block]; exact Nat.ne_of_lt (Nat.lt_of_lt_of_le (by have := World.block_lt_of_cell? _ _ hw184_0; first | rwa [add_block] at this | exact this) GW189.out)) | (dsimp only; exact Nat.ne_of_lt (Nat.lt_of_lt_of_le (by have := World.block_lt_of_cell? _ _ hw184_0; first | rwa [add_block] at this | exact this) GW189.out))) _).trans (hHeld.2.1)), ((cell_far (p := ⟨gb189, _, none⟩) (by first | exact Nat.ne_of_lt (Nat.lt_of_lt_of_le (by have := World.block_lt_of_cell? _ _ hw184_1; first | rwa [add_block] at this | exact this) GW189.out) | (rw [add_block]; exact Nat.ne_of_lt (Nat.lt_of_lt_of_le (by have := World.block_lt_of_cell? _ _ hw184_1; first | rwa [add_block] at this | exact this) GW189.out)) | (show (Addr.add _ _).block ≠ _; rw [add_block]; exact Nat.ne_of_lt (Nat.lt_of_lt_of_le (by have := World.block_lt_of_cell? _ _ hw184_1; first | rwa [add_block] at this | exact this) GW189.out)) | (dsimp only; exact Nat.ne_of_lt (Nat.lt_of_lt_of_le (by have := World.block_lt_of_cell? _ _ hw184_1; first | rwa [add_block] at this | exact this) GW189.out))) _).trans (hHeld.2.2.1)), ((cell_far (p := ⟨gb189, _, none⟩) (by first | exact Nat.ne_of_lt (Nat.lt_of_lt_of_le (by have := World.block_lt_of_cell? _ _ hw184_2; first | rwa [add_block] at this | exact this) GW189.out) | (rw [add_block]; exact Nat.ne_of_lt (Nat.lt_of_lt_of_le (by have := World.block_lt_of_cell? _ _ hw184_2; first | rwa [add_block] at this | exact this) GW189.out)) | (show (Addr.add _ _).block ≠ _; rw [add_block]; exact Nat.ne_of_lt (Nat.lt_of_lt_of_le (by have := World.block_lt_of_cell? _ _ hw184_2; first | rwa [add_block] at this | exact this) GW189.out)) | (dsimp only; exact Nat.ne_of_lt (Nat.lt_of_lt_of_le (by have := World.block_lt_of_cell? _ _ hw184_2; first | rwa [add_block] at this | exact this) GW189.out))) _).trans (hHeld.2.2.2.1)), ((cell_far (p := ⟨gb189, _, none⟩) (by first | exact Nat.ne_of_lt (Nat.lt_of_lt_of_le (by have := World.block_lt_of_cell? _ _ hw184_3; first | rwa [add_block] at this | exact this) GW189.out) | (rw [add_block]; exact Nat.ne_of_lt (Nat.lt_of_lt_of_le (by have := World.block_lt_of_cell? _ _ hw184_3; first | rwa [add_block] at this | exact this) GW189.out)) | (show (Addr.add _ _).block ≠ _; rw [add_block]; exact Nat.ne_of_lt (Nat.lt_of_lt_of_le (by have := World.block_lt_of_cell? _ _ hw184_3; first | rwa [add_block] at this | exact this) GW189.out)) | (dsimp only; exact Nat.ne_of_lt (Nat.lt_of_lt_of_le (by have := World.block_lt_of_cell? _ _ hw184_3; first | rwa [add_block] at this | exact this) GW189.out))) _).trans (hHeld.2.2.2.2))⟩ (fun hHeld => ?_)
   clear hK K
   refine pv_ 11 9 ?_
   refine done_ (done_of HT_.out (by kernel_rfl)) ?_
   obtain ⟨hnb27, hnc27⟩ := ns_ NB189_175
   obtain ⟨hnb28, hnc28⟩ := ns_ NB189_176
   obtain ⟨hnb29, hnc29⟩ := ns_ NB189_183
   have hcz30_0 : w24.cell? ⟨gb189, 0, none⟩ = some (.slice none 0 0) := bc_ BK189 0
   have hfz30_0 := blk_frozen BK189.out 0
   obtain ⟨hnb31, hnc31⟩ := ns_ NB183_175
   obtain ⟨hnb32, hnc32⟩ := ns_ NB183_176
   have hcz33_0 : w24.cell? ⟨gb183, 0, none⟩ = some (.slice Ao20 x184000_1.length co20) := bc_ BK183 0
   have hfz33_0 := blk_frozen BK183.out 0
   try go_wp2
   go_roundg k1
   case measure => have := HK1.out; omega
   case rel => exact ⟨(wrap64 (x7_1 + 1)), (t185), (.slice Ao25 t185.length co25), (by first | rfl | (simp; done) | (simp [*]; done) | (simp [bne]; done)), H', ⟨by have := HK1.out; omega⟩, ⟨rq_ (Kd.R_mono (Kd.R_far (p := ⟨gb183, 0, none⟩) (Kd.R_far (p := ⟨gb189, 0, none⟩) (Kd.R_types (Kd.R_types HO187.out BK189.out (by decide)) BK183.out (by decide)) (fun _ hk => hk.1.2) (.slice Ao25 t185.length co25)) (fun _ hk => hk.2) (.slice Ao25 t185.length co25)) (fun _ hk => trivial))⟩, ⟨bf_⟩, ⟨bf_⟩, ⟨bu_⟩, ⟨bw_ HB⟩⟩

end Go.Proofs.Ythbaoefbccdioaa.QFnActs
