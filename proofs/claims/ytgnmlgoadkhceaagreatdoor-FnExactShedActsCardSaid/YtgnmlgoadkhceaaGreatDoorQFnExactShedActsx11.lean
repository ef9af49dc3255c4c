/- Written by this session's own program (wip/tpl/pp.py): what the law's functions come to, and that the machine's calls do just that. -/
import Derived.Test.YtgnmlgoadkhceaaGreatDoorQFnExactShedActsx0
import Derived.Test.YtgnmlgoadkhceaaGreatDoorQFnExactShedActsx10
namespace Go.Proofs.YtgnmlgoadkhceaaGreatDoor.QFnExactShedActs
open Go.RowKit Go.Proofs.YtgnmlgoadkhceaaGreatDoorW.PrintWords Go.Proofs.YtgnmlgoadkhceaaGreatDoorW.PrintLast Go.Proofs.YtgnmlgoadkhceaaGreatDoorW.PrintMore
attribute [local go_sem] Go.Proofs.YtgnmlgoadkhceaaGreatDoor.Sem.string_geq Go.Proofs.YtgnmlgoadkhceaaGreatDoor.Sem.string_leq Go.Proofs.YtgnmlgoadkhceaaGreatDoor.Sem.string_gtr
attribute [local go_sem] max2_int min2_int max_two min_two max_three min_three max_four min_four   -- for this text's walks alone
set_option linter.unusedVariables false
set_option linter.unusedSimpArgs false

/-! ### spec_ShedActs: function 23 -/
def spec_ShedActs.f (k : Nat) (l0_0 : List (S57)) : Option ((List (S65))) := (spec_NewestSnap.f k l0_0).bind fun bt318 => (if bt318.2.2.2.2 = true then ((spec_l08New.f k l0_0).bind fun t326 => ((spec_l08Drops.f k l0_0 bt318.1).bind fun t329 => (if t326.length + t329.length < 2513169434916 then (some (t326 ++ t329)) else (none)))) else (some (([] : List (S65)))))
theorem spec_ShedActs.mono : ∀ a0 k, LeO (spec_ShedActs.f k a0) (spec_ShedActs.f (k + 1) a0) := by
 intro a0 k
 unfold spec_ShedActs.f
 repeat' first
   | (with_reducible exact spec_NewestSnap.mono _ _)
   | (with_reducible exact spec_l08Drops.mono _ _ _)
   | (with_reducible exact spec_l08New.mono _ _)
   | (with_reducible exact LeO.refl _)
   | (with_reducible refine LeO.ite ?_ ?_)
   | (with_reducible refine LeO.bind ?_ (fun _ => ?_))
def spec_ShedActs.T4 : Bool × List (List Nat × List Nat) := (true, [([], []), ([0], [0]), ([], []), ([], []), ([3], [3]), ([2, 4, 1], [2, 4]), ([1, 5, 5], [1, 5]), ([6, 6, 0, 1, 2, 3, 4, 5, 6], [6])])
def spec_ShedActs.B4 : List Nat := [0, 1, 0, 0, 8, 31, 63, 127]
theorem spec_ShedActs.tab4 : rtab .any (opsOf Tryz.f23 4) = spec_ShedActs.T4 := by kernel_rfl
theorem spec_ShedActs.bits4 : waitsOk spec_ShedActs.T4.2 spec_ShedActs.B4 = true := by kernel_rfl
set_option maxHeartbeats 8000000 in
set_option maxRecDepth 100000 in
theorem spec_ShedActs.calls (k : Nat) (A0_0 : Option Addr) (c0_0 : Nat) (l0_0 : List (S57)) (r : List (S65)) (w : World) (hr0_0 : Kd.C k57 w A0_0 l0_0.length l0_0) (hc0_0 : l0_0.length ≤ c0_0) (h : spec_ShedActs.f k l0_0 = some r) :
  Calls Tryz.prog 23 #[.agg #[.slice A0_0 l0_0.length c0_0]] w fun e w' => ∃ v0_ : Value, e = .returned (v0_) ∧ Kd.R k65 65 w' w.heap.size (fun _ => True) v0_ r ∧ Below w.heap.size w w' := by
 have hu36 := Tryz.underlying36
 have hu47 := Tryz.underlying47
 have HR0_0 := Aside0.mk hr0_0
 have HC0_0 := Aside0.mk hc0_0
 clear hr0_0 hc0_0
 have HB := mk_ (Below.refl w.heap.size w)
 have H : ((spec_NewestSnap.f k l0_0).bind fun bt318 => (if bt318.2.2.2.2 = true then ((spec_l08New.f k l0_0).bind fun t326 => ((spec_l08Drops.f k l0_0 bt318.1).bind fun t329 => (if t326.length + t329.length < 2513169434916 then (some (t326 ++ t329)) else (none)))) else (some (([] : List (S65)))))) = some r := h
 clear h
 replace H := Option.bind_eq_some_iff.mp H
 obtain ⟨⟨t318, t319, t320, t323, t324⟩, A20, H⟩ := H
 replace H : (if t324 = true then ((spec_l08New.f k l0_0).bind fun t326 => ((spec_l08Drops.f k l0_0 t318).bind fun t329 => (if t326.length + t329.length < 2513169434916 then (some (t326 ++ t329)) else (none)))) else (some (([] : List (S65))))) = some r := H
 have A2 := Aside0.mk A20
 clear A20
 by_cases c3 : t324 = true
 ·subst c3
  have H1 : ((spec_l08New.f k l0_0).bind fun t326 => ((spec_l08Drops.f k l0_0 t318).bind fun t329 => (if t326.length + t329.length < 2513169434916 then (some (t326 ++ t329)) else (none)))) = some r := by rw [if_pos rfl] at H; exact H
  clear H
  have H := H1
  clear H1
  replace H := Option.bind_eq_some_iff.mp H
  obtain ⟨t326, A40, H⟩ := H
  replace H : ((spec_l08Drops.f k l0_0 t318).bind fun t329 => (if t326.length + t329.length < 2513169434916 then (some (t326 ++ t329)) else (none))) = some r := H
  have A4 := Aside0.mk A40
  clear A40
  replace H := Option.bind_eq_some_iff.mp H
  obtain ⟨t329, A50, H⟩ := H
  replace H : (if t326.length + t329.length < 2513169434916 then (some (t326 ++ t329)) else (none)) = some r := H
  have A5 := Aside0.mk A50
  clear A50
  by_cases c6 : t326.length + t329.length < 2513169434916
  ·rw [if_pos c6] at H
   have LMc6 := Aside0.mk c6
   clear c6
   obtain ⟨y332, hy332⟩ : ∃ y_ : List (S65), y_ = (t326 ++ t329) := ⟨_, rfl⟩
   replace H : (some y332) = some r := by first | (rw [hy332]; with_reducible exact H) | (have H2_ := (Option.bind_some _ _).symm.trans H; rw [hy332]; with_reducible exact H2_) | (have H2_ := (Option.bind_some _ _).symm.trans H; with_reducible exact H2_) | with_reducible exact H | (rw [hy332]; exact H) | exact H
   have Ny332 := Aside0.mk hy332
   clear hy332
   obtain rfl := Option.some.inj H
   go_enter Tryz.func23, Tryz.ntmps23
   try go_wp2_with (first | ((with_reducible refine gate_dst (N := 1) rfl ?_); refine bx_ (N := 1) (cs := #[.slice A0_0 l0_0.length c0_0]) (t := 36) ?_; intro gb317 hg w7 hbox hb; have BK317 := mk_ (hbox); have GW317 : Aside0 (w.heap.size ≤ gb317) := bz_ hg; have GE317 := GW317; replace HB := bs_ HB hb; clear hb hbox hg; obtain ⟨hcz8_0, hfz8_0⟩ := b1_ BK317) | ((with_reducible refine gate_callee (f := 18) rfl ?_); refine goesL_ (some 7) rfl rfl Tryz.func18 (by kernel_rfl) rfl #[.agg #[.slice A0_0 l0_0.length c0_0]] rfl ga_ ?_; (with_reducible refine (spec_NewestSnap.calls k _ _ l0_0 t318 t319 t320 t323 true _ ?side1 ?side2 A2.out).mono ?_); (case side1 => repeat (first | exact (Kd.C_below HR0_0.out HB.out) | (with_reducible refine Kd.C_alloc ?_ _) | (with_reducible refine Kd.C_drewN ?_ _) | (with_reducible refine Kd.C_drew ?_))); (case side2 => exact HC0_0.out); rintro e w9 ⟨v321, rfl, ho0, hb⟩; refine ⟨_, rfl, ?_⟩; have HO322 := mk_ (Kd.R_lower ho0 (below_size (bw_ HB))); replace BK317 := bb_ BK317 hb; replace HB := bs_ HB hb; (try clear hb); (try clear ho0)) | ((with_reducible refine gate_dst (N := 3) rfl ?_); refine bx_ (N := 3) (cs := #[.int .i64 0, .int .i64 0, .slice none 0 0, .string (⟨#[]⟩ : ByteArray)]) (t := 47) ?_; intro gb325 hg w10 hbox hb; have BK325 := mk_ (hbox); have GW325 : Aside0 (w.heap.size ≤ gb325) := bz_ hg; have GE325 := GW325; have NB317_325 := bl_ BK317 hg; have NB325_317 := bg_ BK317 hg; replace HO322 := rb_ HO322 hb; replace BK317 := bb_ BK317 hb; replace HB := bs_ HB hb; clear hb hbox hg; have hnb11 := NB325_317.out; have hnc11 := NB317_325.out; obtain ⟨hcz12_0, hcz12_1, hcz12_2, hcz12_3, hfz12_0, hfz12_1, hfz12_2, hfz12_3⟩ := b4_ BK325; obtain ⟨Ao13, co13, eo13⟩ := Kd.R_slice HO322.out; subst eo13))
   have n0_ : Aside0 (Kd.R (Kd.int .i64) 3 ((((w10.setCell ⟨gb325, 0, none⟩ (.int .i64 t318)).setCell ⟨gb325, 1, none⟩ (.int .i64 t319)).setCell ⟨gb325, 2, none⟩ (.slice Ao13 t320.length co13)).setCell ⟨gb325, 3, none⟩ (.string t323)) w.heap.size (fun _ => True) (.slice Ao13 t320.length co13) t320) := ⟨by (with_reducible repeat (first | apply Kd.R_alloc | apply Kd.R_drewN | apply Kd.R_drew)); exact Kd.R_mono (Kd.R_far (p := ⟨gb325, 3, none⟩) (Kd.R_far (p := ⟨gb325, 2, none⟩) (Kd.R_far (p := ⟨gb325, 1, none⟩) (Kd.R_far (p := ⟨gb325, 0, none⟩) (Kd.R_types HO322.out BK325.out (by decide)) (fun _ hk => hk.2) (.int .i64 t318)) (fun _ hk => hk.2) (.int .i64 t319)) (fun _ hk => hk.2) (.slice Ao13 t320.length co13)) (fun _ hk => hk.2) (.string t323)) (fun _ hk => trivial)⟩
   have n1_ : Aside0 (((((w10.setCell ⟨gb325, 0, none⟩ (.int .i64 t318)).setCell ⟨gb325, 1, none⟩ (.int .i64 t319)).setCell ⟨gb325, 2, none⟩ (.slice Ao13 t320.length co13)).setCell ⟨gb325, 3, none⟩ (.string t323)).heap[gb317]? = some (.cells #[.slice A0_0 l0_0.length c0_0] 36 (0, 0))) := ⟨bf_⟩
   have n2_ : Aside0 (((((w10.setCell ⟨gb325, 0, none⟩ (.int .i64 t318)).setCell ⟨gb325, 1, none⟩ (.int .i64 t319)).setCell ⟨gb325, 2, none⟩ (.slice Ao13 t320.length co13)).setCell ⟨gb325, 3, none⟩ (.string t323)).heap[gb325]? = some (.cells #[.int .i64 t318, .int .i64 t319, .slice Ao13 t320.length co13, .string t323] 47 (0, 0))) := ⟨bu_⟩
   have n3_ : Aside0 (Below w.heap.size w ((((w10.setCell ⟨gb325, 0, none⟩ (.int .i64 t318)).setCell ⟨gb325, 1, none⟩ (.int .i64 t319)).setCell ⟨gb325, 2, none⟩ (.slice Ao13 t320.length co13)).setCell ⟨gb325, 3, none⟩ (.string t323))) := ⟨bw_ HB⟩
   (try clear HO322); (try clear BK317); (try clear BK325); (try clear HB)
   generalize ((((w10.setCell ⟨gb325, 0, none⟩ (.int .i64 t318)).setCell ⟨gb325, 1, none⟩ (.int .i64 t319)).setCell ⟨gb325, 2, none⟩ (.slice Ao13 t320.length co13)).setCell ⟨gb325, 3, none⟩ (.string t323)) = w14 at n0_ n1_ n2_ n3_ ⊢
   have HO322 := n0_; have BK317 := n1_; have BK325 := n2_; have HB := n3_; clear n0_ n1_ n2_ n3_
   have n0_ := mk_ (Kd.R_drew HO322.out)
   have n1_ := mk_ (blk_drew BK317.out)
   have n2_ := mk_ (blk_drew BK325.out)
   have n3_ := mk_ (below_drew1 HB.out)
   clear HO322; clear BK317; clear BK325; clear HB; have HO322 := n0_; have BK317 := n1_; have BK325 := n2_; have HB := n3_; clear n0_ n1_ n2_ n3_
   refine start_ (n := 8) (S := fun w' => w'.cell? ⟨gb317, 0, none⟩ = some (.slice A0_0 l0_0.length c0_0) ∧ w'.cell? ⟨gb325, 0, none⟩ = some (.int .i64 t318) ∧ w'.cell? ⟨gb325, 1, none⟩ = some (.int .i64 t319) ∧ w'.cell? ⟨gb325, 2, none⟩ = some (.slice Ao13 t320.length co13) ∧ w'.cell? ⟨gb325, 3, none⟩ = some (.string t323)) (ds := []) #[false, false, false, false, false, false, false, false] (by kernel_rfl) rfl rfl ⟨bc_ BK317 0, bc_ BK325 0, bc_ BK325 1, bc_ BK325 2, bc_ BK325 3⟩ (fun hHeld => ?_); refine with_tabW spec_ShedActs.tab4 spec_ShedActs.bits4 (fun HT_ HW_ => ?_)
   generalize w14.drew = w15 at HO322 BK317 BK325 HB hHeld ⊢
   refine pure_ (i := 3) (N := some 16) (v := ?_) (a' := ?_) #[false, false, false, true, false, false, false, false] rfl rfl (any_of HT_.out (by kernel_rfl)) (fun _ _ _ h => h) (Or.inl ⟨by rfl, ?_⟩) ?_ ?_
   rotate_left
   ·intro w'
    go_simp
    with_reducible rfl
   rotate_left
   ·simp only [Act.put, sia_, scz_, scs_, i64_w, i32_w]
    rfl
   refine take_ (i := 0) (N := some 13) (v := ?_) (a' := ?_) #[true, false, false, true, false, false, false, false] rfl rfl (take_ofW HT_.out HW_.out (by kernel_rfl)) (fun _ _ _ h => h) (Or.inl ⟨by rfl, ?_⟩) hHeld ?_ ?_
   rotate_left
   ·rintro w' ⟨s0, s1, s2, s3, s4⟩
    go_simp
    with_reducible rfl
   rotate_left
   ·simp only [Act.put, sia_, scz_, scs_, i64_w, i32_w]
    rfl
   refine take_ (i := 2) (N := some 15) (v := ?_) (a' := ?_) #[true, false, true, true, false, false, false, false] rfl rfl (take_ofW HT_.out HW_.out (by kernel_rfl)) (fun _ _ _ h => h) (Or.inl ⟨by rfl, ?_⟩) hHeld ?_ ?_
   rotate_left
   ·rintro w' ⟨s0, s1, s2, s3, s4⟩
    go_simp
    with_reducible rfl
   rotate_left
   ·simp only [Act.put, sia_, scz_, scs_, i64_w, i32_w]
    rfl
   refine take_ (i := 4) (N := some 17) (v := ?_) (a' := ?_) #[true, false, true, true, true, false, false, false] rfl rfl (take_ofW HT_.out HW_.out (by kernel_rfl)) (fun _ _ _ h => h) (Or.inl ⟨by rfl, ?_⟩) hHeld ?_ ?_
   rotate_left
   ·rintro w' ⟨s0, s1, s2, s3, s4⟩
    go_simp
    with_reducible rfl
   rotate_left
   ·simp only [Act.put, sia_, scz_, scs_, i64_w, i32_w]
    rfl
   refine one_ (i := 1) (N := some 14) #[true, true, true, true, true, false, false, false] rfl rfl (one_of HT_.out (by kernel_rfl)) (by decide) (fun K hK => ?_)
   refine goes_ Tryz.func54 (by kernel_rfl) rfl #[.agg #[.slice A0_0 l0_0.length c0_0]] (by rfl) rfl rfl ga_ ?_
   with_reducible refine (spec_l08New.calls k _ _ l0_0 t326 _ ?side1 ?side2 A4.out).mono ?_
   (case side1 => repeat (first | exact (Kd.C_below HR0_0.out HB.out) | (with_reducible refine Kd.C_alloc ?_ _) | (with_reducible refine Kd.C_drewN ?_ _) | (with_reducible refine Kd.C_drew ?_)))
   (case side2 => exact HC0_0.out)
   rintro e w16 ⟨v327, rfl, ho0, hb⟩
   refine ⟨_, rfl, ?_⟩
   have n0_ := rb_ HO322 hb
   have n1_ := mk_ (Kd.R_lower ho0 (below_size (bw_ HB)))
   have n2_ := bb_ BK317 hb; have n3_ := bb_ BK325 hb
   have n4_ := bs_ HB hb
   clear HO322; clear BK317; clear BK325; clear HB; have HO322 := n0_; have HO328 := n1_; have BK317 := n2_; have BK325 := n3_; have HB := n4_; clear n0_ n1_ n2_ n3_ n4_; (try clear hb); (try clear hb2); (try clear hk); (try clear hi); (try clear ho0)
   refine hK.out _ _ ⟨bc_ BK317 0, bc_ BK325 0, bc_ BK325 1, bc_ BK325 2, bc_ BK325 3⟩ (fun hHeld => ?_)
   clear hK K
   refine norm_ (a' := ?_) ?_ ?_
   rotate_left
   ·show Act.put _ (some 14) _ = _
    simp only [Act.put, sia_, scz_, scs_, i64_w, i32_w]
    rfl
   refine one_ (i := 5) (N := some 18) #[true, true, true, true, true, true, false, false] rfl rfl (one_of HT_.out (by kernel_rfl)) (by decide) (fun K hK => ?_)
   refine goes_ Tryz.func55 (by kernel_rfl) rfl #[.agg #[.slice A0_0 l0_0.length c0_0], .int .i64 t318] (by rfl) rfl rfl ga_ ?_
   with_reducible refine (spec_l08Drops.calls k _ _ l0_0 t318 t329 _ ?side1 ?side2 A5.out).mono ?_
   (case side1 => repeat (first | exact (Kd.C_below HR0_0.out HB.out) | (with_reducible refine Kd.C_alloc ?_ _) | (with_reducible refine Kd.C_drewN ?_ _) | (with_reducible refine Kd.C_drew ?_)))
   (case side2 => exact HC0_0.out)
   rintro e w17 ⟨v330, rfl, ho0, hb⟩
   refine ⟨_, rfl, ?_⟩
   have n0_ := rb_ HO322 hb
   have n1_ := mk_ (Kd.R_elder' (rp_ HO328) (Kd.R_base ho0) hb)
   have n2_ := mk_ (Kd.R_lower (Kd.R_new' ho0 (Kd.R_lt (rp_ HO328))) (below_size (bw_ HB)))
   have n3_ := bb_ BK317 hb; have n4_ := bb_ BK325 hb
   have n5_ := bs_ HB hb
   clear HO322; clear HO328; clear BK317; clear BK325; clear HB; have HO322 := n0_; have HO328 := n1_; have HO331 := n2_; have BK317 := n3_; have BK325 := n4_; have HB := n5_; clear n0_ n1_ n2_ n3_ n4_ n5_; (try clear hb); (try clear hb2); (try clear hk); (try clear hi); (try clear ho0)
   obtain ⟨Ao19, co19, eo19⟩ := Kd.R_slice HO331.out
   (first | subst eo19 | (injection eo19 with f1_ f2_ f3_; have f4_ := f1_.symm; have f5_ := f3_.symm; clear f1_ f2_ f3_; subst f4_; subst f5_))
   refine hK.out _ _ ⟨bc_ BK317 0, bc_ BK325 0, bc_ BK325 1, bc_ BK325 2, bc_ BK325 3⟩ (fun hHeld => ?_)
   clear hK K
   refine norm_ (a' := ?_) ?_ ?_
   rotate_left
   ·show Act.put _ (some 18) _ = _
    simp only [Act.put, sia_, scz_, scs_, i64_w, i32_w]
    rfl
   refine one_ (i := 6) (N := some 19) #[true, true, true, true, true, true, true, false] rfl rfl (one_of HT_.out (by kernel_rfl)) (by decide) (fun K hK => ?_)
   refine Kd.R_append_rows_step k65 (w0 := w) w.heap.size (by rfl) (.tmp 14) (.tmp 18) 31 65 (.agg #[(.int .i64 0), (.string ⟨#[]⟩), (.string ⟨#[]⟩), (.string ⟨#[]⟩)]) 56 rfl Tryz.underlying31 info65 rfl (by decide) (by omega) v327 t326 t329 _ _ _ (fun k_ => some k_ ≠ (.slice Ao19 t329.length co19 : Value).ownBlock) (fun _ => False) rfl rfl ?aO ?aR (fun _ _ h => h) (fun _ h => h.elim) ?aF ?aB ?aS ?aL ?_
   (case aR => repeat (first | exact (Kd.R_reads' HO331.out).2.2 | (with_reducible refine Kd.C_alloc ?_ _) | (with_reducible refine Kd.C_drewN ?_ _) | (with_reducible refine Kd.C_drew ?_)))
   (case aB => exact (bw_ HB))
   (case aF => exact (fun k_ hk => Kd.fresh' (Kd.R_lt (rp_ HO331)) k_ hk))
   (case aO => exact (by (with_reducible repeat (first | apply Kd.R_alloc | apply Kd.R_drewN | apply Kd.R_drew)); exact Kd.R_mono HO328.out (fun _ hk => hk.2)))
   (case aS => exact (below_size (bw_ HB)))
   (case aL => have := LMc6.out; omega)
   intro v333 w18 ho hb hg hat
   rw [← Ny332.out] at ho
   have n0_ := mk_ (blk_grown (g := gb317) (o := .cells #[.slice A0_0 l0_0.length c0_0] 36 (0, 0)) (bp_ BK317) hg (Kd.R_ne HO328.out BK317.out (by decide)))
   have n1_ := mk_ (Kd.R_over' (rp_ HO322) (Kd.R_typed (rp_ HO328)) (by decide) hg)
   have n2_ := mk_ (blk_grown (g := gb325) (o := .cells #[.int .i64 t318, .int .i64 t319, .slice Ao13 t320.length co13, .string t323] 47 (0, 0)) (bp_ BK325) hg (Kd.R_ne HO328.out BK325.out (by decide)))
   have n3_ := mk_ (Kd.R_after (ok := (fun _ => True)) (rp_ HO331) hg hat)
   have n4_ := mk_ (hb)
   have n5_ := mk_ (ho)
   clear BK317; clear HO322; clear BK325; clear HO331; clear HB; clear HO328; have BK317 := n0_; have HO322 := n1_; have BK325 := n2_; have HO331 := n3_; have HB := n4_; have HO334 := n5_; clear n0_ n1_ n2_ n3_ n4_ n5_; clear ho hb hg hat
   refine hK.out _ _ ⟨bc_ BK317 0, bc_ BK325 0, bc_ BK325 1, bc_ BK325 2, bc_ BK325 3⟩ (fun hHeld => ?_)
   clear hK K
   refine norm_ (a' := ?_) ?_ ?_
   rotate_left
   ·show Act.put _ (some 19) _ = _
    simp only [Act.put, sia_, scz_, scs_, i64_w, i32_w]
    rfl
   refine pure_ (i := 7) (N := some 2) (v := ?_) (a' := ?_) #[true, true, true, true, true, true, true, true] rfl rfl (any_of HT_.out (by kernel_rfl)) (fun _ _ _ h => h) (Or.inl ⟨by rfl, ?_⟩) ?_ ?_
   rotate_left
   ·intro w'
    go_simp
    with_reducible rfl
   rotate_left
   ·simp only [Act.put, sia_, scz_, scs_, i64_w, i32_w]
    rfl
   refine done_ (done_of HT_.out (by kernel_rfl)) ?_
   try go_wp2
   go_ret
   exact ⟨_, er_, by (with_reducible repeat (first | apply Kd.R_alloc | apply Kd.R_drewN | apply Kd.R_drew)); exact Kd.R_mono HO334.out (fun _ hk => trivial), bw_ HB⟩
  ·rw [if_neg c6] at H
   exact absurd H (by simp)
 ·replace c3 := Bool.eq_false_iff.mpr c3
  subst c3
  have H1 : (some (([] : List (S65)))) = some r := by rw [if_neg (show ¬ (false = true) by decide)] at H; exact H
  clear H
  have H := H1
  clear H1
  obtain ⟨y335, hy335⟩ : ∃ y_ : List (S65), y_ = (([] : List (S65))) := ⟨_, rfl⟩
  replace H : (some y335) = some r := by first | (rw [hy335]; with_reducible exact H) | (have H2_ := (Option.bind_some _ _).symm.trans H; rw [hy335]; with_reducible exact H2_) | (have H2_ := (Option.bind_some _ _).symm.trans H; with_reducible exact H2_) | with_reducible exact H | (rw [hy335]; exact H) | exact H
  have Ny335 := Aside0.mk hy335
  clear hy335
  obtain rfl := Option.some.inj H
  go_enter Tryz.func23, Tryz.ntmps23
  go_wp2_with (first | ((with_reducible refine gate_dst (N := 1) rfl ?_); refine bx_ (N := 1) (cs := #[.slice A0_0 l0_0.length c0_0]) (t := 36) ?_; intro gb317 hg w20 hbox hb; have BK317 := mk_ (hbox); have GW317 : Aside0 (w.heap.size ≤ gb317) := bz_ hg; have GE317 := GW317; replace HB := bs_ HB hb; clear hb hbox hg; obtain ⟨hcz21_0, hfz21_0⟩ := b1_ BK317) | ((with_reducible refine gate_callee (f := 18) rfl ?_); refine goesL_ (some 7) rfl rfl Tryz.func18 (by kernel_rfl) rfl #[.agg #[.slice A0_0 l0_0.length c0_0]] rfl ga_ ?_; (with_reducible refine (spec_NewestSnap.calls k _ _ l0_0 t318 t319 t320 t323 false _ ?side1 ?side2 A2.out).mono ?_); (case side1 => repeat (first | exact (Kd.C_below HR0_0.out HB.out) | (with_reducible refine Kd.C_alloc ?_ _) | (with_reducible refine Kd.C_drewN ?_ _) | (with_reducible refine Kd.C_drew ?_))); (case side2 => exact HC0_0.out); rintro e w22 ⟨v321, rfl, ho0, hb⟩; refine ⟨_, rfl, ?_⟩; have HO322 := mk_ (Kd.R_lower ho0 (below_size (bw_ HB))); replace BK317 := bb_ BK317 hb; replace HB := bs_ HB hb; (try clear hb); (try clear hk); (try clear ho0)) | ((with_reducible refine gate_dst (N := 3) rfl ?_); refine bx_ (N := 3) (cs := #[.int .i64 0, .int .i64 0, .slice none 0 0, .string (⟨#[]⟩ : ByteArray)]) (t := 47) ?_; intro gb325 hg w23 hbox hb; have BK325 := mk_ (hbox); have GW325 : Aside0 (w.heap.size ≤ gb325) := bz_ hg; have GE325 := GW325; have NB317_325 := bl_ BK317 hg; have NB325_317 := bg_ BK317 hg; replace HO322 := rb_ HO322 hb; replace BK317 := bb_ BK317 hb; replace HB := bs_ HB hb; clear hb hbox hg; have hnb24 := NB325_317.out; have hnc24 := NB317_325.out; obtain ⟨hcz25_0, hcz25_1, hcz25_2, hcz25_3, hfz25_0, hfz25_1, hfz25_2, hfz25_3⟩ := b4_ BK325; obtain ⟨Ao26, co26, eo26⟩ := Kd.R_slice HO322.out; subst eo26) | ((with_reducible refine gate_dst (N := 12) rfl ?_); refine Kd.R_lit k65 _ 65 ?hg (N := 12) ?hd (xs := ([] : List (S65))) (inner := []) (ok := fun _ => True) (okp := fun _ => True) ?hr ?hp (fun _ hk => hk) trivial (Below.refl _ _) (Nat.le_refl _) (by simp) ?_; (case hd => rfl); (case hg => rfl); (case hr => first | (go_simp; done) | (go_simp; rfl)); (case hp => exact (Reps.none _ _)); intro v336 w27 ho28 hb hg_ hnew_; clear hg_ hnew_; (first | rw [← Ny335.out] at ho28 | (simp only [Int.reduceToNat] at ho28; rw [← Ny335.out] at ho28)); have HO337 := mk_ (Kd.R_lower ho28 (below_size (bw_ HB))); replace HO322 := mk_ (Kd.R_below (by (with_reducible repeat (first | apply Kd.R_alloc | apply Kd.R_drewN | apply Kd.R_drew)); exact (Kd.R_mono (Kd.R_far (p := ⟨gb325, 3, none⟩) (Kd.R_far (p := ⟨gb325, 2, none⟩) (Kd.R_far (p := ⟨gb325, 1, none⟩) (Kd.R_far (p := ⟨gb325, 0, none⟩) (Kd.R_types HO322.out BK325.out (by decide)) (fun _ hk => hk.2) (.int .i64 t318)) (fun _ hk => hk.2) (.int .i64 t319)) (fun _ hk => hk.2) (.slice Ao26 t320.length co26)) (fun _ hk => hk.2) (.string t323)) (fun _ h_ => h_.1))) hb); replace BK317 := mk_ (blk_below (g := gb317) (o := .cells #[.slice A0_0 l0_0.length c0_0] 36 (0, 0)) bf_ hb); replace BK325 := mk_ (blk_below (g := gb325) (o := .cells #[.int .i64 t318, .int .i64 t319, .slice Ao26 t320.length co26, .string t323] 47 (0, 0)) bu_ hb); replace HB := bs_ HB hb; clear hb ho28))
  go_ret
  exact ⟨_, er_, by (with_reducible repeat (first | apply Kd.R_alloc | apply Kd.R_drewN | apply Kd.R_drew)); exact HO337.out, bw_ HB⟩

/-! ### strings_CutPrefix: function 68 -/
def strings_CutPrefix.f (a0 a1 : ByteArray) : Option (ByteArray × Bool) := some (⟨(Lib.trimPrefix a0.data.toList a1.data.toList).toArray⟩, Lib.hasPrefix a0.data.toList a1.data.toList)
theorem strings_CutPrefix.calls (a0 a1 : ByteArray) (r1 : ByteArray) (r2 : Bool) (w : World) (h : strings_CutPrefix.f a0 a1 = some (r1, r2)) :
  Calls Tryz.prog 68 #[.string a0, .string a1] w fun e w' => e = .returned (.tuple #[.string r1, .bool r2]) ∧ Below w.heap.size w w' := by
 obtain ⟨rfl, rfl⟩ := Prod.mk.inj (Option.some.inj h)
 exact (Tryz.strings_CutPrefix a0 a1 w).mono fun e w' ⟨he, hw⟩ => ⟨he, hw ▸ Below.refl _ _⟩

/-! ### impl_within: function 70 -/
def impl_within.f (a0 : Int) (a1 : Int) (a2 : Int) : Option (Bool) := if a0 ≥ a1 then (some (decide (a0 ≤ a2))) else (some false)
set_option maxHeartbeats 8000000 in
set_option maxRecDepth 100000 in
theorem impl_within.calls (a0 : Int) (a1 : Int) (a2 : Int) (r : Bool) (w : World) (h : impl_within.f a0 a1 a2 = some r) :
  Calls Tryz.prog 70 #[.int .i64 a0, .int .i64 a1, .int .i64 a2] w fun e w' => e = .returned (.bool r) ∧ Drawn0 w w' := by
 have H : (if a0 ≥ a1 then (some (decide (a0 ≤ a2))) else (some false)) = some r := h
 clear h
 by_cases c4 : a0 ≥ a1
 ·rw [if_pos c4] at H
  have c4b0 : decide (a1 ≤ a0) = true := decide_eq_true c4
  clear c4
  obtain rfl := Option.some.inj H
  go_enter Tryz.func70, Tryz.ntmps70
  go_wp2
  go_ret
  exact ⟨by first | rfl | (simp; done) | (simp [*]; done), by repeat (first | exact Drawn0.refl _ | apply Drawn0.step)⟩
 ·rw [if_neg c4] at H
  have c4b0 : decide (a1 ≤ a0) = false := decide_eq_false c4
  clear c4
  obtain rfl := Option.some.inj H
  go_enter Tryz.func70, Tryz.ntmps70
  go_wp2
  go_ret
  exact ⟨by first | rfl | (simp; done) | (simp [*]; done), by repeat (first | exact Drawn0.refl _ | apply Drawn0.step)⟩

/-! ### impl_Decimal: function 72 -/
def impl_Decimal.f (a0 : Int) : Option ByteArray := if -9223372036854775808 ≤ a0 ∧ a0 ≤ 9223372036854775807 then some ⟨(Lib.itoa a0).toArray⟩ else none
set_option maxHeartbeats 4000000 in
theorem impl_Decimal.calls (a0 : Int) (r : ByteArray) (w : World) (hT : Tab1 w) (h : impl_Decimal.f a0 = some r) :
  Calls Tryz.prog 72 #[.int .i64 a0] w fun e w' => e = .returned (.string r) ∧ Below w.heap.size w w' := by
 unfold impl_Decimal.f at h
 split at h
 ·rename_i hb
  obtain rfl := Option.some.inj h
  have HX := mk_ (Tryz.strconv_Itoa a0 hb.1 hb.2 w hT)
  clear h hb hT
  generalize (Lib.itoa a0) = l at *
  go_enter Tryz.func72, Tryz.ntmps72
  go_wp2_with (go_at_call 111; refine HX.out.mono ?_; rintro e w' ⟨rfl, ⟨k, os, rfl⟩⟩)
  go_ret
  exact ⟨rfl, Lib.below_grow _ _ (Nat.le_refl _) _ _⟩
 ·cases h

/-! ### impl_ReadDecimal: function 69 -/
def impl_ReadDecimal.v (a0 : ByteArray) : Int × Bool := match Lib.atoiAll a0.data.toList with
 | .ok v => if (⟨(Lib.itoa v).toArray⟩ : ByteArray).toList = a0.toList then (if 0 ≤ v ∧ v ≤ 1000000000 then (v, true) else (0, false)) else (0, false)
 | _ => (0, false)
def impl_ReadDecimal.f (a0 : ByteArray) : Option (Int × Bool) := if a0.size ≤ 281474976710656 then some (impl_ReadDecimal.v a0) else none
theorem impl_ReadDecimal.in_ {v : Int} (h : 0 ≤ v ∧ v ≤ 1000000000) : impl_within.f v 0 1000000000 = some true := by
 unfold impl_within.f; rw [if_pos h.1, decide_eq_true h.2]
theorem impl_ReadDecimal.out_ {v : Int} (h : ¬ (0 ≤ v ∧ v ≤ 1000000000)) : impl_within.f v 0 1000000000 = some false := by
 unfold impl_within.f
 by_cases h0 : v ≥ 0
 ·rw [if_pos h0, decide_eq_false (by omega)]
 ·rw [if_neg h0]
set_option maxHeartbeats 4000000 in
set_option maxRecDepth 100000 in
theorem impl_ReadDecimal.calls (a0 : ByteArray) (r1 : Int) (r2 : Bool) (w : World) (hT : Tab2 w) (h : impl_ReadDecimal.f a0 = some (r1, r2)) :
  Calls Tryz.prog 69 #[.string a0] w fun e w' => e = .returned (.tuple #[.int .i64 r1, .bool r2]) ∧ Below w.heap.size w w' := by
 unfold impl_ReadDecimal.f at h
 split at h
 ·rename_i hs
  have h := Option.some.inj h
  obtain ⟨hT1, ⟨t2, p2, hv2⟩, t3, p3, hv3⟩ := hT
  unfold impl_ReadDecimal.v at h
  cases ha : Lib.atoiAll a0.data.toList with
  | ok v =>
   rw [ha] at h
   simp only at h
   obtain ⟨b0, b1⟩ := Lib.atoiAll_bounds ha
   have HA : Aside0 (Calls Tryz.prog 108 #[.string a0] w fun e w' => e = .returned (.tuple #[.int .i64 v, .nilIface]) ∧ Below w.heap.size w w') :=
    mk_ ((Tryz.strconv_Atoi_ok a0 (by omega) v ha w).mono fun e w' ⟨he, hw⟩ => ⟨he, by rcases hw with rfl | ⟨t, rfl⟩; exact Below.refl _ _; exact Lib.bytesWorld_below _ _ _⟩)
   have HD : Aside0 (impl_Decimal.f v = some (⟨(Lib.itoa v).toArray⟩ : ByteArray)) := mk_ (by unfold impl_Decimal.f; rw [if_pos ⟨by omega, by omega⟩])
   have HT1 := Aside0.mk hT1
   clear ha hT1 hv2 hv3 hs b0 b1
   generalize (⟨(Lib.itoa v).toArray⟩ : ByteArray) = s at *
   by_cases hq : s.toList = a0.toList
   ·rw [if_pos hq] at h
    have hq0 : (s.toList == a0.toList) = true := beq_iff_eq.mpr hq
    have hq1 : (s.toList != a0.toList) = false := bne_eq_false_iff_eq.mpr hq
    clear hq
    by_cases hr : 0 ≤ v ∧ v ≤ 1000000000
    ·rw [if_pos hr] at h
     obtain ⟨rfl, rfl⟩ := Prod.mk.inj h
     have HW := mk_ (impl_ReadDecimal.in_ hr)
     clear h hr
     go_enter Tryz.func69, Tryz.ntmps69
     go_wp2_with (first
      | (go_at_call 108; refine HA.out.mono ?_; rintro e w1 ⟨rfl, hb1⟩; have HB1 := Aside0.mk hb1; clear hb1)
      | (go_at_call 72; refine (impl_Decimal.calls _ s _ (HT1.out.keep HB1.out) HD.out).mono ?_; rintro e w2 ⟨rfl, hb2⟩; have HB2 := Aside0.mk hb2; clear hb2)
      | (go_at_call 70; refine (impl_within.calls _ 0 1000000000 true _ HW.out).mono ?_; rintro e w3 ⟨rfl, ⟨nd, rfl⟩⟩))
     go_ret2
     exact ⟨rfl, pw_below_drewN (below_then HB1.out HB1.out.size HB2.out) _⟩
    ·rw [if_neg hr] at h
     obtain ⟨rfl, rfl⟩ := Prod.mk.inj h
     have HW := mk_ (impl_ReadDecimal.out_ hr)
     clear h hr
     go_enter Tryz.func69, Tryz.ntmps69
     go_wp2_with (first
      | (go_at_call 108; refine HA.out.mono ?_; rintro e w1 ⟨rfl, hb1⟩; have HB1 := Aside0.mk hb1; clear hb1)
      | (go_at_call 72; refine (impl_Decimal.calls _ s _ (HT1.out.keep HB1.out) HD.out).mono ?_; rintro e w2 ⟨rfl, hb2⟩; have HB2 := Aside0.mk hb2; clear hb2)
      | (go_at_call 70; refine (impl_within.calls _ 0 1000000000 false _ HW.out).mono ?_; rintro e w3 ⟨rfl, ⟨nd, rfl⟩⟩))
     go_ret2
     exact ⟨rfl, pw_below_drewN (below_then HB1.out HB1.out.size HB2.out) _⟩
   ·rw [if_neg hq] at h
    have hq0 : (s.toList == a0.toList) = false := beq_eq_false_iff_ne.mpr hq
    have hq1 : (s.toList != a0.toList) = true := bne_iff_ne.mpr hq
    clear hq
    obtain ⟨rfl, rfl⟩ := Prod.mk.inj h
    clear h
    go_enter Tryz.func69, Tryz.ntmps69
    go_wp2_with (first
      | (go_at_call 108; refine HA.out.mono ?_; rintro e w1 ⟨rfl, hb1⟩; have HB1 := Aside0.mk hb1; clear hb1)
      | (go_at_call 72; refine (impl_Decimal.calls _ s _ (HT1.out.keep HB1.out) HD.out).mono ?_; rintro e w2 ⟨rfl, hb2⟩; have HB2 := Aside0.mk hb2; clear hb2))
    go_ret2
    exact ⟨rfl, below_then HB1.out HB1.out.size HB2.out⟩
  | range =>
   rw [ha] at h
   obtain ⟨rfl, rfl⟩ := Prod.mk.inj h
   have HA := mk_ (Tryz.strconv_Atoi_range_var a0 hs ha t3 p3 w hv3)
   clear ha hT1 hv2 hv3 hs h
   go_enter Tryz.func69, Tryz.ntmps69
   go_wp2_with (go_at_call 108; refine HA.out.mono ?_; rintro e w1 ⟨N, rfl, -, -, hb1⟩; have HB1 := Aside0.mk hb1; clear hb1)
   go_ret2
   exact ⟨rfl, HB1.out⟩
  | _ =>
   rw [ha] at h
   obtain ⟨rfl, rfl⟩ := Prod.mk.inj h
   have HA := mk_ (Tryz.strconv_Atoi_syntax_var a0 hs ha t2 p2 w hv2)
   clear ha hT1 hv2 hv3 hs h
   go_enter Tryz.func69, Tryz.ntmps69
   go_wp2_with (go_at_call 108; refine HA.out.mono ?_; rintro e w1 ⟨N, rfl, -, -, hb1⟩; have HB1 := Aside0.mk hb1; clear hb1)
   go_ret2
   exact ⟨rfl, HB1.out⟩
 ·cases h

/-! ### impl_numberOf: function 35 -/
def impl_numberOf.f (a0 : ByteArray) (a1 : ByteArray) (a2 : Int) : Option (Int) := (strings_CutPrefix.f a0 a1).bind fun bt338 => ((impl_ReadDecimal.f bt338.1).bind fun bt340 => (if bt338.2 = true then (if bt340.2 = true then (if bt340.1 > a2 then (some (-1)) else (some bt340.1)) else (some (-1))) else (some (-1))))
set_option maxHeartbeats 8000000 in
set_option maxRecDepth 100000 in
theorem impl_numberOf.calls (a0 : ByteArray) (a1 : ByteArray) (a2 : Int) (r : Int) (w : World) (hT : Tab2 w) (h : impl_numberOf.f a0 a1 a2 = some r) :
  Calls Tryz.prog 35 #[.string a0, .string a1, .int .i64 a2] w fun e w' => e = .returned (.int .i64 r) ∧ Below w.heap.size w w' := by
 have HT := Aside0.mk hT
 clear hT
 have HB := mk_ (Below.refl w.heap.size w)
 have H : ((strings_CutPrefix.f a0 a1).bind fun bt338 => ((impl_ReadDecimal.f bt338.1).bind fun bt340 => (if bt338.2 = true then (if bt340.2 = true then (if bt340.1 > a2 then (some (-1)) else (some bt340.1)) else (some (-1))) else (some (-1))))) = some r := h
 clear h
 replace H := Option.bind_eq_some_iff.mp H
 obtain ⟨⟨t338, t339⟩, A40, H⟩ := H
 replace H : ((impl_ReadDecimal.f t338).bind fun bt340 => (if t339 = true then (if bt340.2 = true then (if bt340.1 > a2 then (some (-1)) else (some bt340.1)) else (some (-1))) else (some (-1)))) = some r := H
 have A4 := Aside0.mk A40
 clear A40
 replace H := Option.bind_eq_some_iff.mp H
 obtain ⟨⟨t340, t341⟩, A50, H⟩ := H
 replace H : (if t339 = true then (if t341 = true then (if t340 > a2 then (some (-1)) else (some t340)) else (some (-1))) else (some (-1))) = some r := H
 have A5 := Aside0.mk A50
 clear A50
 by_cases c6 : t339 = true
 ·subst c6
  have H1 : (if t341 = true then (if t340 > a2 then (some (-1)) else (some t340)) else (some (-1))) = some r := by rw [if_pos rfl] at H; exact H
  clear H
  have H := H1
  clear H1
  by_cases c7 : t341 = true
  ·subst c7
   have H1 : (if t340 > a2 then (some (-1)) else (some t340)) = some r := by rw [if_pos rfl] at H; exact H
   clear H
   have H := H1
   clear H1
   by_cases c8 : t340 > a2
   ·rw [if_pos c8] at H
    have c8b0 : decide (a2 < t340) = true := decide_eq_true c8
    clear c8
    obtain rfl := Option.some.inj H
    go_enter Tryz.func35, Tryz.ntmps35
    go_wp2_with (first | ((with_reducible refine gate_callee (f := 68) rfl ?_); refine goesL_ (some 14) rfl rfl Tryz.func68 (by kernel_rfl) rfl #[.string a0, .string a1] rfl ga_ ?_; (with_reducible refine (strings_CutPrefix.calls a0 a1 t338 true _ A4.out).mono ?_); rintro e w9 ⟨rfl, hb⟩; refine ⟨_, rfl, ?_⟩; replace HB := bs_ HB hb; (try clear hb)) | ((with_reducible refine gate_callee (f := 69) rfl ?_); refine goesL_ (some 19) rfl rfl Tryz.func69 (by kernel_rfl) rfl #[.string t338] rfl ga_ ?_; (with_reducible refine (impl_ReadDecimal.calls t338 t340 true _ (tab22 HT HB) A5.out).mono ?_); rintro e w10 ⟨rfl, hb⟩; refine ⟨_, rfl, ?_⟩; replace HB := bs_ HB hb; (try clear hb)))
    go_ret
    exact ⟨er_, bw_ HB⟩
   ·rw [if_neg c8] at H
    have c8b0 : decide (a2 < t340) = false := decide_eq_false c8
    clear c8
    obtain rfl := Option.some.inj H
    go_enter Tryz.func35, Tryz.ntmps35
    go_wp2_with (first | ((with_reducible refine gate_callee (f := 68) rfl ?_); refine goesL_ (some 14) rfl rfl Tryz.func68 (by kernel_rfl) rfl #[.string a0, .string a1] rfl ga_ ?_; (with_reducible refine (strings_CutPrefix.calls a0 a1 t338 true _ A4.out).mono ?_); rintro e w11 ⟨rfl, hb⟩; refine ⟨_, rfl, ?_⟩; replace HB := bs_ HB hb; (try clear hb)) | ((with_reducible refine gate_callee (f := 69) rfl ?_); refine goesL_ (some 19) rfl rfl Tryz.func69 (by kernel_rfl) rfl #[.string t338] rfl ga_ ?_; (with_reducible refine (impl_ReadDecimal.calls t338 t340 true _ (tab22 HT HB) A5.out).mono ?_); rintro e w12 ⟨rfl, hb⟩; refine ⟨_, rfl, ?_⟩; replace HB := bs_ HB hb; (try clear hb)))
    go_ret
    exact ⟨er_, bw_ HB⟩
  ·replace c7 := Bool.eq_false_iff.mpr c7
   subst c7
   have H1 : (some (-1)) = some r := by rw [if_neg (show ¬ (false = true) by decide)] at H; exact H
   clear H
   have H := H1
   clear H1
   obtain rfl := Option.some.inj H
   go_enter Tryz.func35, Tryz.ntmps35
   go_wp2_with (first | ((with_reducible refine gate_callee (f := 68) rfl ?_); refine goesL_ (some 14) rfl rfl Tryz.func68 (by kernel_rfl) rfl #[.string a0, .string a1] rfl ga_ ?_; (with_reducible refine (strings_CutPrefix.calls a0 a1 t338 true _ A4.out).mono ?_); rintro e w13 ⟨rfl, hb⟩; refine ⟨_, rfl, ?_⟩; replace HB := bs_ HB hb; (try clear hb)) | ((with_reducible refine gate_callee (f := 69) rfl ?_); refine goesL_ (some 19) rfl rfl Tryz.func69 (by kernel_rfl) rfl #[.string t338] rfl ga_ ?_; (with_reducible refine (impl_ReadDecimal.calls t338 t340 false _ (tab22 HT HB) A5.out).mono ?_); rintro e w14 ⟨rfl, hb⟩; refine ⟨_, rfl, ?_⟩; replace HB := bs_ HB hb; (try clear hb)))
   go_ret
   exact ⟨er_, bw_ HB⟩
 ·replace c6 := Bool.eq_false_iff.mpr c6
  subst c6
  have H1 : (some (-1)) = some r := by rw [if_neg (show ¬ (false = true) by decide)] at H; exact H
  clear H
  have H := H1
  clear H1
  obtain rfl := Option.some.inj H
  go_enter Tryz.func35, Tryz.ntmps35
  go_wp2_with (first | ((with_reducible refine gate_callee (f := 68) rfl ?_); refine goesL_ (some 14) rfl rfl Tryz.func68 (by kernel_rfl) rfl #[.string a0, .string a1] rfl ga_ ?_; (with_reducible refine (strings_CutPrefix.calls a0 a1 t338 false _ A4.out).mono ?_); rintro e w15 ⟨rfl, hb⟩; refine ⟨_, rfl, ?_⟩; replace HB := bs_ HB hb; (try clear hb)) | ((with_reducible refine gate_callee (f := 69) rfl ?_); refine goesL_ (some 19) rfl rfl Tryz.func69 (by kernel_rfl) rfl #[.string t338] rfl ga_ ?_; (with_reducible refine (impl_ReadDecimal.calls t338 t340 t341 _ (tab22 HT HB) A5.out).mono ?_); rintro e w16 ⟨rfl, hb⟩; refine ⟨_, rfl, ?_⟩; replace HB := bs_ HB hb; (try clear hb)))
  go_ret
  exact ⟨er_, bw_ HB⟩

/-! ### impl_DiskOk: function 36 -/
def impl_DiskOk.l0 : Nat → List (S57) → Int → Int → List (S57) → Option (Bool)
 | 0, _, _, _, _ => none
 | k + 1, x6, x7, x8, x343000 => if x8 < x7 then (if 0 ≤ x8 then (if x8 < (x6.length : Int) then ((impl_within.f (((rd_T57 x6 x8).f0).size : Int) 1 8).bind fun t345 => (if t345 = true then (if (((rd_T57 x6 x8).f1).size : Int) > 20000 then (some false) else ((impl_within.f ((rd_T57 x6 x8).f2) 0 (((rd_T57 x6 x8).f1).size : Int)).bind fun t346 => (if t346 = true then (if x8 > 0 then (if 0 ≤ (wrap64 (x8 - 1)) then (if (wrap64 (x8 - 1)) < (x343000.length : Int) then (if ((Op.bytesLess (((rd_T57 x343000 (wrap64 (x8 - 1))).f0).toList) (((rd_T57 x6 x8).f0).toList)) = true) then (impl_DiskOk.l0 k x6 x7 (wrap64 (x8 + 1)) x343000) else (some false)) else (none)) else (none)) else (impl_DiskOk.l0 k x6 x7 (wrap64 (x8 + 1)) x343000)) else (some false)))) else (some false))) else (none)) else (none)) else (some (decide ((x343000.length : Int) ≤ 30)))
def impl_DiskOk.f (k : Nat) (l0_0 : List (S57)) : Option (Bool) := impl_DiskOk.l0 k l0_0 (l0_0.length : Int) 0 l0_0
theorem impl_DiskOk.mono_l : ∀ k, (∀ y0 y1 y2 y3, LeO (impl_DiskOk.l0 k y0 y1 y2 y3) (impl_DiskOk.l0 (k + 1) y0 y1 y2 y3))
 | 0 => fun _ _ _ _ r h => by simp [impl_DiskOk.l0] at h
 | k + 1 => by
  have ih0 := impl_DiskOk.mono_l k
  ·intro y0 y1 y2 y3
   unfold impl_DiskOk.l0
   repeat' first
   | (with_reducible exact ih0 _ _ _ _)
   | (with_reducible exact LeO.refl _)
   | (with_reducible refine LeO.ite ?_ ?_)
   | (with_reducible refine LeO.bind ?_ (fun _ => ?_))
theorem impl_DiskOk.mono : ∀ a0 k, LeO (impl_DiskOk.f k a0) (impl_DiskOk.f (k + 1) a0) := by
 intro a0 k
 have ih0 := impl_DiskOk.mono_l k
 unfold impl_DiskOk.f
 repeat' first
   | (with_reducible exact ih0 _ _ _ _)
set_option maxHeartbeats 8000000 in
set_option maxRecDepth 100000 in
theorem impl_DiskOk.calls (k : Nat) (A0_0 : Option Addr) (c0_0 : Nat) (l0_0 : List (S57)) (r : Bool) (w : World) (hr0_0 : Kd.C k57 w A0_0 l0_0.length l0_0) (hc0_0 : l0_0.length ≤ c0_0) (h : impl_DiskOk.f k l0_0 = some r) :
  Calls Tryz.prog 36 #[.agg #[.slice A0_0 l0_0.length c0_0]] w fun e w' => e = .returned (.bool r) ∧ Below w.heap.size w w' := by
 have hu36 := Tryz.underlying36
 have hu57 := Tryz.underlying57
 have HR0_0 := Aside0.mk hr0_0
 have HC0_0 := Aside0.mk hc0_0
 clear hr0_0 hc0_0
 have HB := mk_ (Below.refl w.heap.size w)
 have H : (impl_DiskOk.l0 k l0_0 (l0_0.length : Int) 0 l0_0) = some r := h
 clear h
 have H' := Aside0.mk H
 clear H
 go_enter Tryz.func36, Tryz.ntmps36
 go_wp2_with (first | ((with_reducible refine gate_dst (N := 1) rfl ?_); (try (refine gate_guard (by rfl) ?_; dsimp only)); refine bx_ (N := 1) (cs := #[.slice A0_0 l0_0.length c0_0]) (t := 36) ?_; intro gb342 hg w2 hbox hb; have BK342 := mk_ (hbox); have GW342 : Aside0 (w.heap.size ≤ gb342) := bz_ hg; have GE342 := GW342; replace HB := bs_ HB hb; clear hb hbox hg; obtain ⟨hcz3_0, hfz3_0⟩ := b1_ BK342))
 go_loopg [8] k (fun kq v8 w' => ∃ (x8_1 : Int), v8 = .int .i64 x8_1 ∧ Aside0 (impl_DiskOk.l0 kq l0_0 (l0_0.length : Int) x8_1 l0_0 = some r) ∧ Aside0 (kq ≤ k) ∧ Aside0 (w'.heap[gb342]? = some (.cells #[(.slice A0_0 l0_0.length c0_0)] 36 (0, 0))) ∧ Aside0 (Below w.heap.size w w'))
 case atStart => exact ⟨(0), (by first | rfl | (simp; done) | (simp [*]; done)), H', ⟨Nat.le_refl _⟩, ⟨bf_⟩, ⟨bw_ HB⟩⟩
 case round =>
  clear H'
  try clear p2
  try clear c3
  try clear hcz3_0
  try clear hfz3_0
  obtain ⟨x8_1, rfl, HA, HK1, BK342, HB⟩ := hrel
  cases gk with
  | zero => exact absurd HA.out (by simp [impl_DiskOk.l0])
  | succ k1 =>
   have H := HA.out
   clear HA
   simp only [impl_DiskOk.l0] at H
   by_cases c4 : x8_1 < (l0_0.length : Int)
   ·rw [if_pos c4] at H
    have c4b0 : decide (x8_1 < (l0_0.length : Int)) = true := decide_eq_true c4
    clear c4
    by_cases c5 : 0 ≤ x8_1
    ·rw [if_pos c5] at H
     have c5b0 : decide (0 ≤ x8_1) = true := decide_eq_true c5
     clear c5
     by_cases c6 : x8_1 < (l0_0.length : Int)
     ·rw [if_pos c6] at H
      have c6b0 : decide (x8_1 < (l0_0.length : Int)) = true := decide_eq_true c6
      clear c6
      replace H := Option.bind_eq_some_iff.mp H
      obtain ⟨t345, A70, H⟩ := H
      replace H : (if t345 = true then (if (((rd_T57 l0_0 x8_1).f1).size : Int) > 20000 then (some false) else ((impl_within.f ((rd_T57 l0_0 x8_1).f2) 0 (((rd_T57 l0_0 x8_1).f1).size : Int)).bind fun t346 => (if t346 = true then (if x8_1 > 0 then (if 0 ≤ (wrap64 (x8_1 - 1)) then (if (wrap64 (x8_1 - 1)) < (l0_0.length : Int) then (if ((Op.bytesLess (((rd_T57 l0_0 (wrap64 (x8_1 - 1))).f0).toList) (((rd_T57 l0_0 x8_1).f0).toList)) = true) then (impl_DiskOk.l0 k1 l0_0 (l0_0.length : Int) (wrap64 (x8_1 + 1)) l0_0) else (some false)) else (none)) else (none)) else (impl_DiskOk.l0 k1 l0_0 (l0_0.length : Int) (wrap64 (x8_1 + 1)) l0_0)) else (some false)))) else (some false)) = some r := H
      have A7 := Aside0.mk A70
      clear A70
      by_cases c8 : t345 = true
      ·subst c8
       have H1 : (if (((rd_T57 l0_0 x8_1).f1).size : Int) > 20000 then (some false) else ((impl_within.f ((rd_T57 l0_0 x8_1).f2) 0 (((rd_T57 l0_0 x8_1).f1).size : Int)).bind fun t346 => (if t346 = true then (if x8_1 > 0 then (if 0 ≤ (wrap64 (x8_1 - 1)) then (if (wrap64 (x8_1 - 1)) < (l0_0.length : Int) then (if ((Op.bytesLess (((rd_T57 l0_0 (wrap64 (x8_1 - 1))).f0).toList) (((rd_T57 l0_0 x8_1).f0).toList)) = true) then (impl_DiskOk.l0 k1 l0_0 (l0_0.length : Int) (wrap64 (x8_1 + 1)) l0_0) else (some false)) else (none)) else (none)) else (impl_DiskOk.l0 k1 l0_0 (l0_0.length : Int) (wrap64 (x8_1 + 1)) l0_0)) else (some false)))) = some r := by rw [if_pos rfl] at H; exact H
       clear H
       have H := H1
       clear H1
       by_cases c9 : (((rd_T57 l0_0 x8_1).f1).size : Int) > 20000
       ·rw [if_pos c9] at H
        have c9b0 : decide (20000 < (((rd_T57 l0_0 x8_1).f1).size : Int)) = true := decide_eq_true c9
        have c9b1 : decide (20000 < ((rd_T57 l0_0 x8_1).f1).size) = true := decide_eq_true (by omega)
        clear c9
        obtain rfl := Option.some.inj H
        have p343 : 0 ≤ (x8_1 : Int) := od_
        have q343 : x8_1 < (l0_0.length : Int) := od_
        obtain ⟨ad343, e343, hx343_0, hx343_1, hx343_2⟩ := at_T57 HR0_0.out x8_1 p343 q343
        cases e343
        replace hx343_0 := hc_ HB hx343_0
        replace hx343_1 := hc_ HB hx343_1
        replace hx343_2 := hc_ HB hx343_2
        replace p343 := eq_true p343
        replace q343 := eq_true q343
        go_wp2_with (first | ((with_reducible refine gate_dst (N := 4) rfl ?_); (try (refine gate_guard (by rfl) ?_; dsimp only)); refine bx_ (N := 4) (cs := #[.string (⟨#[]⟩ : ByteArray), .string (⟨#[]⟩ : ByteArray), .int .i64 0]) (t := 57) ?_; intro gb344 hg w10 hbox hb; have BK344 := mk_ (hbox); have GW344 : Aside0 (w.heap.size ≤ gb344) := bz_ hg; have GE344 := GW344; have NB342_344 := bl_ BK342 hg; have NB344_342 := bg_ BK342 hg; replace BK342 := bb_ BK342 hb; replace HB := bs_ HB hb; clear hb hbox hg; have hnb11 := NB344_342.out; have hnc11 := NB342_344.out; obtain ⟨hcz12_0, hcz12_1, hcz12_2, hfz12_0, hfz12_1, hfz12_2⟩ := b3_ BK344))
        repeat (go_quiet (first | (go_at_call 70; (with_reducible refine (impl_within.calls (((rd_T57 l0_0 x8_1).f0).size : Int) 1 8 true _ A7.out).mono ?_); rintro e w' ⟨rfl, ⟨nd, rfl⟩⟩; (try first | exact ⟨rfl, _, World.drewN_drewN _ _ _⟩ | exact ⟨rfl, _, Eq.trans (World.drewN_drewN _ _ _) (congrArg (World.drewN _) (Nat.add_assoc _ _ _))⟩))); try go_wp2_with fail)
        go_ret
        exact ⟨er_, bw_ HB⟩
       ·rw [if_neg c9] at H
        have c9b0 : decide (20000 < (((rd_T57 l0_0 x8_1).f1).size : Int)) = false := decide_eq_false c9
        have c9b1 : decide (20000 < ((rd_T57 l0_0 x8_1).f1).size) = false := decide_eq_false (by omega)
        clear c9
        replace H := Option.bind_eq_some_iff.mp H
        obtain ⟨t346, A130, H⟩ := H
        replace H : (if t346 = true then (if x8_1 > 0 then (if 0 ≤ (wrap64 (x8_1 - 1)) then (if (wrap64 (x8_1 - 1)) < (l0_0.length : Int) then (if ((Op.bytesLess (((rd_T57 l0_0 (wrap64 (x8_1 - 1))).f0).toList) (((rd_T57 l0_0 x8_1).f0).toList)) = true) then (impl_DiskOk.l0 k1 l0_0 (l0_0.length : Int) (wrap64 (x8_1 + 1)) l0_0) else (some false)) else (none)) else (none)) else (impl_DiskOk.l0 k1 l0_0 (l0_0.length : Int) (wrap64 (x8_1 + 1)) l0_0)) else (some false)) = some r := H
        have A13 := Aside0.mk A130
        clear A130
        by_cases c14 : t346 = true
        ·subst c14
         have H1 : (if x8_1 > 0 then (if 0 ≤ (wrap64 (x8_1 - 1)) then (if (wrap64 (x8_1 - 1)) < (l0_0.length : Int) then (if ((Op.bytesLess (((rd_T57 l0_0 (wrap64 (x8_1 - 1))).f0).toList) (((rd_T57 l0_0 x8_1).f0).toList)) = true) then (impl_DiskOk.l0 k1 l0_0 (l0_0.length : Int) (wrap64 (x8_1 + 1)) l0_0) else (some false)) else (none)) else (none)) else (impl_DiskOk.l0 k1 l0_0 (l0_0.length : Int) (wrap64 (x8_1 + 1)) l0_0)) = some r := by rw [if_pos rfl] at H; exact H
         clear H
         have H := H1
         clear H1
         by_cases c15 : x8_1 > 0
         ·rw [if_pos c15] at H
          have c15b0 : decide (0 < x8_1) = true := decide_eq_true c15
          clear c15
          obtain ⟨ji16, hji16⟩ : ∃ j_ : Int, (wrap64 (x8_1 - 1)) = j_ := ⟨_, rfl⟩
          replace H : (if 0 ≤ (ji16) then (if (ji16) < (l0_0.length : Int) then (if ((Op.bytesLess (((rd_T57 l0_0 (ji16)).f0).toList) (((rd_T57 l0_0 x8_1).f0).toList)) = true) then (impl_DiskOk.l0 k1 l0_0 (l0_0.length : Int) (wrap64 (x8_1 + 1)) l0_0) else (some false)) else (none)) else (none)) = some r := by first | (rw [hji16] at H; exact H) | (simp only [hji16] at H ⊢; exact H)
          (try rw [hji16] at A7)
          (try rw [hji16] at A13)
          have hji16w : (IntKind.i64.wrap (x8_1 - 1)) = ji16 := (i64_w _).trans hji16
          by_cases c17 : 0 ≤ (ji16)
          ·rw [if_pos c17] at H
           have c17b0 : decide (0 ≤ (ji16)) = true := decide_eq_true c17
           clear c17
           by_cases c18 : (ji16) < (l0_0.length : Int)
           ·rw [if_pos c18] at H
            have c18b0 : decide ((ji16) < (l0_0.length : Int)) = true := decide_eq_true c18
            clear c18
            by_cases c19 : ((Op.bytesLess (((rd_T57 l0_0 (ji16)).f0).toList) (((rd_T57 l0_0 x8_1).f0).toList)) = true)
            ·rw [if_pos c19] at H
             have c19b0 : (Op.bytesLess (((rd_T57 l0_0 (ji16)).f0).toList) (((rd_T57 l0_0 x8_1).f0).toList)) = true := c19
             have c19g0 : Op.bytesLess (((rd_T57 l0_0 x8_1).f0).toList) (((rd_T57 l0_0 (ji16)).f0).toList) = false := Go.Proofs.YtgnmlgoadkhceaaGreatDoor.Sem.less_no c19b0
             have c19g1 : ((((rd_T57 l0_0 x8_1).f0).toList) == (((rd_T57 l0_0 (ji16)).f0).toList)) = false := Go.Proofs.YtgnmlgoadkhceaaGreatDoor.Sem.less_ne c19b0
             clear c19
             have H' := Aside0.mk H
             clear H
             have p343 : 0 ≤ (x8_1 : Int) := od_
             have q343 : x8_1 < (l0_0.length : Int) := od_
             obtain ⟨ad343, e343, hx343_0, hx343_1, hx343_2⟩ := at_T57 HR0_0.out x8_1 p343 q343
             cases e343
             replace hx343_0 := hc_ HB hx343_0
             replace hx343_1 := hc_ HB hx343_1
             replace hx343_2 := hc_ HB hx343_2
             replace p343 := eq_true p343
             replace q343 := eq_true q343
             go_wp2_with (first | ((with_reducible refine gate_dst (N := 4) rfl ?_); (try (refine gate_guard (by rfl) ?_; dsimp only)); refine bx_ (N := 4) (cs := #[.string (⟨#[]⟩ : ByteArray), .string (⟨#[]⟩ : ByteArray), .int .i64 0]) (t := 57) ?_; intro gb344 hg w20 hbox hb; have BK344 := mk_ (hbox); have GW344 : Aside0 (w.heap.size ≤ gb344) := bz_ hg; have GE344 := GW344; have NB342_344 := bl_ BK342 hg; have NB344_342 := bg_ BK342 hg; replace BK342 := bb_ BK342 hb; replace HB := bs_ HB hb; clear hb hbox hg; have hnb21 := NB344_342.out; have hnc21 := NB342_344.out; obtain ⟨hcz22_0, hcz22_1, hcz22_2, hfz22_0, hfz22_1, hfz22_2⟩ := b3_ BK344))
             repeat (go_quiet (first | (go_at_call 70; (with_reducible refine (impl_within.calls (((rd_T57 l0_0 x8_1).f0).size : Int) 1 8 true _ A7.out).mono ?_); rintro e w' ⟨rfl, ⟨nd, rfl⟩⟩; (try first | exact ⟨rfl, _, World.drewN_drewN _ _ _⟩ | exact ⟨rfl, _, Eq.trans (World.drewN_drewN _ _ _) (congrArg (World.drewN _) (Nat.add_assoc _ _ _))⟩)) | (go_at_call 70; (with_reducible refine (impl_within.calls ((rd_T57 l0_0 x8_1).f2) 0 (((rd_T57 l0_0 x8_1).f1).size : Int) true _ A13.out).mono ?_); rintro e w' ⟨rfl, ⟨nd, rfl⟩⟩; (try first | exact ⟨rfl, _, World.drewN_drewN _ _ _⟩ | exact ⟨rfl, _, Eq.trans (World.drewN_drewN _ _ _) (congrArg (World.drewN _) (Nat.add_assoc _ _ _))⟩); obtain ⟨hcz23_0, hfz23_0⟩ := b1_ BK342; have p347 : 0 ≤ ((ji16) : Int) := od_; have q347 : (ji16) < (l0_0.length : Int) := od_; obtain ⟨ad347, e347, hx347_0, hx347_1, hx347_2⟩ := at_T57 HR0_0.out (ji16) p347 q347; obtain rfl : ad343 = ad347 := (by injection e347); have hn347_0 : ad343.block ≠ gb344 := Nat.ne_of_lt (Nat.lt_of_lt_of_le (by have := World.block_lt_of_cell? _ _ hx347_0; first | rwa [add_block] at this | exact this) GW344.out); have hn347_1 : ad343.block ≠ gb344 := Nat.ne_of_lt (Nat.lt_of_lt_of_le (by have := World.block_lt_of_cell? _ _ hx347_0; first | rwa [add_block] at this | exact this) GW344.out); have hn347_2 : ad343.block ≠ gb344 := Nat.ne_of_lt (Nat.lt_of_lt_of_le (by have := World.block_lt_of_cell? _ _ hx347_0; first | rwa [add_block] at this | exact this) GW344.out); replace hx347_0 := hc_ HB hx347_0; replace hx347_1 := hc_ HB hx347_1; replace hx347_2 := hc_ HB hx347_2; replace hx347_0 := (cell_far (p := ⟨gb344, 0, none⟩) ab_ (.string ((rd_T57 l0_0 x8_1).f0))).trans hx347_0; replace hx347_1 := (cell_far (p := ⟨gb344, 0, none⟩) ab_ (.string ((rd_T57 l0_0 x8_1).f0))).trans hx347_1; replace hx347_2 := (cell_far (p := ⟨gb344, 0, none⟩) ab_ (.string ((rd_T57 l0_0 x8_1).f0))).trans hx347_2; replace hx347_0 := (cell_far (p := ⟨gb344, 1, none⟩) ab_ (.string ((rd_T57 l0_0 x8_1).f1))).trans hx347_0; replace hx347_1 := (cell_far (p := ⟨gb344, 1, none⟩) ab_ (.string ((rd_T57 l0_0 x8_1).f1))).trans hx347_1; replace hx347_2 := (cell_far (p := ⟨gb344, 1, none⟩) ab_ (.string ((rd_T57 l0_0 x8_1).f1))).trans hx347_2; replace hx347_0 := (cell_far (p := ⟨gb344, 2, none⟩) ab_ (.int .i64 ((rd_T57 l0_0 x8_1).f2))).trans hx347_0; replace hx347_1 := (cell_far (p := ⟨gb344, 2, none⟩) ab_ (.int .i64 ((rd_T57 l0_0 x8_1).f2))).trans hx347_1; replace hx347_2 := (cell_far (p := ⟨gb344, 2, none⟩) ab_ (.int .i64 ((rd_T57 l0_0 x8_1).f2))).trans hx347_2; (try have hy347_0 := fun (n_ : Nat) => (show (((((w20.drewN n_).setCell ⟨gb344, 0, none⟩ (.string ((rd_T57 l0_0 x8_1).f0))).setCell ⟨gb344, 1, none⟩ (.string ((rd_T57 l0_0 x8_1).f1))).setCell ⟨gb344, 2, none⟩ (.int .i64 ((rd_T57 l0_0 x8_1).f2)))).cell? _ = some _ from hx347_0)); (try have hy347_1 := fun (n_ : Nat) => (show (((((w20.drewN n_).setCell ⟨gb344, 0, none⟩ (.string ((rd_T57 l0_0 x8_1).f0))).setCell ⟨gb344, 1, none⟩ (.string ((rd_T57 l0_0 x8_1).f1))).setCell ⟨gb344, 2, none⟩ (.int .i64 ((rd_T57 l0_0 x8_1).f2)))).cell? _ = some _ from hx347_1)); (try have hy347_2 := fun (n_ : Nat) => (show (((((w20.drewN n_).setCell ⟨gb344, 0, none⟩ (.string ((rd_T57 l0_0 x8_1).f0))).setCell ⟨gb344, 1, none⟩ (.string ((rd_T57 l0_0 x8_1).f1))).setCell ⟨gb344, 2, none⟩ (.int .i64 ((rd_T57 l0_0 x8_1).f2)))).cell? _ = some _ from hx347_2)); clear hn347_0; clear hn347_1; clear hn347_2; replace p347 := eq_true p347; replace q347 := eq_true q347)); try go_wp2_with fail)
             go_roundg k1
             case measure => have := HK1.out; omega
             case rel => exact ⟨(wrap64 (x8_1 + 1)), (by first | rfl | (simp; done) | (simp [*]; done)), H', ⟨by have := HK1.out; omega⟩, ⟨bf_⟩, ⟨bw_ HB⟩⟩
            ·rw [if_neg c19] at H
             have c19b0 : (Op.bytesLess (((rd_T57 l0_0 (ji16)).f0).toList) (((rd_T57 l0_0 x8_1).f0).toList)) = false := by simpa using c19
             have c19g0 : (Op.bytesLess (((rd_T57 l0_0 x8_1).f0).toList) (((rd_T57 l0_0 (ji16)).f0).toList) || (((rd_T57 l0_0 x8_1).f0).toList) == (((rd_T57 l0_0 (ji16)).f0).toList)) = true := Go.Proofs.YtgnmlgoadkhceaaGreatDoor.Sem.less_or c19b0
             have c19g1 : (!Op.bytesLess (((rd_T57 l0_0 x8_1).f0).toList) (((rd_T57 l0_0 (ji16)).f0).toList) && !((((rd_T57 l0_0 x8_1).f0).toList) == (((rd_T57 l0_0 (ji16)).f0).toList))) = false := Go.Proofs.YtgnmlgoadkhceaaGreatDoor.Sem.less_and c19b0
             clear c19
             obtain rfl := Option.some.inj H
             have p343 : 0 ≤ (x8_1 : Int) := od_
             have q343 : x8_1 < (l0_0.length : Int) := od_
             obtain ⟨ad343, e343, hx343_0, hx343_1, hx343_2⟩ := at_T57 HR0_0.out x8_1 p343 q343
             cases e343
             replace hx343_0 := hc_ HB hx343_0
             replace hx343_1 := hc_ HB hx343_1
             replace hx343_2 := hc_ HB hx343_2
             replace p343 := eq_true p343
             replace q343 := eq_true q343
             go_wp2_with (first | ((with_reducible refine gate_dst (N := 4) rfl ?_); (try (refine gate_guard (by rfl) ?_; dsimp only)); refine bx_ (N := 4) (cs := #[.string (⟨#[]⟩ : ByteArray), .string (⟨#[]⟩ : ByteArray), .int .i64 0]) (t := 57) ?_; intro gb344 hg w24 hbox hb; have BK344 := mk_ (hbox); have GW344 : Aside0 (w.heap.size ≤ gb344) := bz_ hg; have GE344 := GW344; have NB342_344 := bl_ BK342 hg; have NB344_342 := bg_ BK342 hg; replace BK342 := bb_ BK342 hb; replace HB := bs_ HB hb; clear hb hbox hg; have hnb25 := NB344_342.out; have hnc25 := NB342_344.out; obtain ⟨hcz26_0, hcz26_1, hcz26_2, hfz26_0, hfz26_1, hfz26_2⟩ := b3_ BK344))
             repeat (go_quiet (first | (go_at_call 70; (with_reducible refine (impl_within.calls (((rd_T57 l0_0 x8_1).f0).size : Int) 1 8 true _ A7.out).mono ?_); rintro e w' ⟨rfl, ⟨nd, rfl⟩⟩; (try first | exact ⟨rfl, _, World.drewN_drewN _ _ _⟩ | exact ⟨rfl, _, Eq.trans (World.drewN_drewN _ _ _) (congrArg (World.drewN _) (Nat.add_assoc _ _ _))⟩)) | (go_at_call 70; (with_reducible refine (impl_within.calls ((rd_T57 l0_0 x8_1).f2) 0 (((rd_T57 l0_0 x8_1).f1).size : Int) true _ A13.out).mono ?_); rintro e w' ⟨rfl, ⟨nd, rfl⟩⟩; (try first | exact ⟨rfl, _, World.drewN_drewN _ _ _⟩ | exact ⟨rfl, _, Eq.trans (World.drewN_drewN _ _ _) (congrArg (World.drewN _) (Nat.add_assoc _ _ _))⟩); obtain ⟨hcz27_0, hfz27_0⟩ := b1_ BK342; have p347 : 0 ≤ ((ji16) : Int) := od_; have q347 : (ji16) < (l0_0.length : Int) := od_; obtain ⟨ad347, e347, hx347_0, hx347_1, hx347_2⟩ := at_T57 HR0_0.out (ji16) p347 q347; obtain rfl : ad343 = ad347 := (by injection e347); have hn347_0 : ad343.block ≠ gb344 := Nat.ne_of_lt (Nat.lt_of_lt_of_le (by have := World.block_lt_of_cell? _ _ hx347_0; first | rwa [add_block] at this | exact this) GW344.out); have hn347_1 : ad343.block ≠ gb344 := Nat.ne_of_lt (Nat.lt_of_lt_of_le (by have := World.block_lt_of_cell? _ _ hx347_0; first | rwa [add_block] at this | exact this) GW344.out); have hn347_2 : ad343.block ≠ gb344 := Nat.ne_of_lt (Nat.lt_of_lt_of_le (by have := World.block_lt_of_cell? _ _ hx347_0; first | rwa [add_block] at this | exact this) GW344.out); replace hx347_0 := hc_ HB hx347_0; replace hx347_1 := hc_ HB hx347_1; replace hx347_2 := hc_ HB hx347_2; replace hx347_0 := (cell_far (p := ⟨gb344, 0, none⟩) ab_ (.string ((rd_T57 l0_0 x8_1).f0))).trans hx347_0; replace hx347_1 := (cell_far (p := ⟨gb344, 0, none⟩) ab_ (.string ((rd_T57 l0_0 x8_1).f0))).trans hx347_1; replace hx347_2 := (cell_far (p := ⟨gb344, 0, none⟩) ab_ (.string ((rd_T57 l0_0 x8_1).f0))).trans hx347_2; replace hx347_0 := (cell_far (p := ⟨gb344, 1, none⟩) ab_ (.string ((rd_T57 l0_0 x8_1).f1))).trans hx347_0; replace hx347_1 := (cell_far (p := ⟨gb344, 1, none⟩) ab_ (.string ((rd_T57 l0_0 x8_1).f1))).trans hx347_1; replace hx347_2 := (cell_far (p := ⟨gb344, 1, none⟩) ab_ (.string ((rd_T57 l0_0 x8_1).f1))).trans hx347_2; replace hx347_0 := (cell_far (p := ⟨gb344, 2, none⟩) ab_ (.int .i64 ((rd_T57 l0_0 x8_1).f2))).trans hx347_0; replace hx347_1 := (cell_far (p := ⟨gb344, 2, none⟩) ab_ (.int .i64 ((rd_T57 l0_0 x8_1).f2))).trans hx347_1; replace hx347_2 := (cell_far (p := ⟨gb344, 2, none⟩) ab_ (.int .i64 ((rd_T57 l0_0 x8_1).f2))).trans hx347_2; (try have hy347_0 := fun (n_ : Nat) => (show (((((w24.drewN n_).setCell ⟨gb344, 0, none⟩ (.string ((rd_T57 l0_0 x8_1).f0))).setCell ⟨gb344, 1, none⟩ (.string ((rd_T57 l0_0 x8_1).f1))).setCell ⟨gb344, 2, none⟩ (.int .i64 ((rd_T57 l0_0 x8_1).f2)))).cell? _ = some _ from hx347_0)); (try have hy347_1 := fun (n_ : Nat) => (show (((((w24.drewN n_).setCell ⟨gb344, 0, none⟩ (.string ((rd_T57 l0_0 x8_1).f0))).setCell ⟨gb344, 1, none⟩ (.string ((rd_T57 l0_0 x8_1).f1))).setCell ⟨gb344, 2, none⟩ (.int .i64 ((rd_T57 l0_0 x8_1).f2)))).cell? _ = some _ from hx347_1)); (try have hy347_2 := fun (n_ : Nat) => (show (((((w24.drewN n_).setCell ⟨gb344, 0, none⟩ (.string ((rd_T57 l0_0 x8_1).f0))).setCell ⟨gb344, 1, none⟩ (.string ((rd_T57 l0_0 x8_1).f1))).setCell ⟨gb344, 2, none⟩ (.int .i64 ((rd_T57 l0_0 x8_1).f2)))).cell? _ = some _ from hx347_2)); clear hn347_0; clear hn347_1; clear hn347_2; replace p347 := eq_true p347; replace q347 := eq_true q347)); try go_wp2_with fail)
             go_ret
             exact ⟨by first | rfl | (simp [errW_none, errW_some] <;> rfl) | (simp only [← hji16]; first | rfl | (simp [errW_none, errW_some] <;> rfl)) | (simp [*, errW_none, errW_some] <;> rfl), bw_ HB⟩
           ·rw [if_neg c18] at H
            exact absurd H (by simp)
          ·rw [if_neg c17] at H
           exact absurd H (by simp)
         ·rw [if_neg c15] at H
          have c15b0 : decide (0 < x8_1) = false := decide_eq_false c15
          clear c15
          have H' := Aside0.mk H
          clear H
          have p343 : 0 ≤ (x8_1 : Int) := od_
          have q343 : x8_1 < (l0_0.length : Int) := od_
          obtain ⟨ad343, e343, hx343_0, hx343_1, hx343_2⟩ := at_T57 HR0_0.out x8_1 p343 q343
          cases e343
          replace hx343_0 := hc_ HB hx343_0
          replace hx343_1 := hc_ HB hx343_1
          replace hx343_2 := hc_ HB hx343_2
          replace p343 := eq_true p343
          replace q343 := eq_true q343
          go_wp2_with (first | ((with_reducible refine gate_dst (N := 4) rfl ?_); (try (refine gate_guard (by rfl) ?_; dsimp only)); refine bx_ (N := 4) (cs := #[.string (⟨#[]⟩ : ByteArray), .string (⟨#[]⟩ : ByteArray), .int .i64 0]) (t := 57) ?_; intro gb344 hg w28 hbox hb; have BK344 := mk_ (hbox); have GW344 : Aside0 (w.heap.size ≤ gb344) := bz_ hg; have GE344 := GW344; have NB342_344 := bl_ BK342 hg; have NB344_342 := bg_ BK342 hg; replace BK342 := bb_ BK342 hb; replace HB := bs_ HB hb; clear hb hbox hg; have hnb29 := NB344_342.out; have hnc29 := NB342_344.out; obtain ⟨hcz30_0, hcz30_1, hcz30_2, hfz30_0, hfz30_1, hfz30_2⟩ := b3_ BK344))
          repeat (go_quiet (first | (go_at_call 70; (with_reducible refine (impl_within.calls (((rd_T57 l0_0 x8_1).f0).size : Int) 1 8 true _ A7.out).mono ?_); rintro e w' ⟨rfl, ⟨nd, rfl⟩⟩; (try first | exact ⟨rfl, _, World.drewN_drewN _ _ _⟩ | exact ⟨rfl, _, Eq.trans (World.drewN_drewN _ _ _) (congrArg (World.drewN _) (Nat.add_assoc _ _ _))⟩)) | (go_at_call 70; (with_reducible refine (impl_within.calls ((rd_T57 l0_0 x8_1).f2) 0 (((rd_T57 l0_0 x8_1).f1).size : Int) true _ A13.out).mono ?_); rintro e w' ⟨rfl, ⟨nd, rfl⟩⟩; (try first | exact ⟨rfl, _, World.drewN_drewN _ _ _⟩ | exact ⟨rfl, _, Eq.trans (World.drewN_drewN _ _ _) (congrArg (World.drewN _) (Nat.add_assoc _ _ _))⟩))); try go_wp2_with fail)
          go_roundg k1
          case measure => have := HK1.out; omega
          case rel => exact ⟨(wrap64 (x8_1 + 1)), (by first | rfl | (simp; done) | (simp [*]; done)), H', ⟨by have := HK1.out; omega⟩, ⟨bf_⟩, ⟨bw_ HB⟩⟩
        ·replace c14 := Bool.eq_false_iff.mpr c14
         subst c14
         have H1 : (some false) = some r := by rw [if_neg (show ¬ (false = true) by decide)] at H; exact H
         clear H
         have H := H1
         clear H1
         obtain rfl := Option.some.inj H
         have p343 : 0 ≤ (x8_1 : Int) := od_
         have q343 : x8_1 < (l0_0.length : Int) := od_
         obtain ⟨ad343, e343, hx343_0, hx343_1, hx343_2⟩ := at_T57 HR0_0.out x8_1 p343 q343
         cases e343
         replace hx343_0 := hc_ HB hx343_0
         replace hx343_1 := hc_ HB hx343_1
         replace hx343_2 := hc_ HB hx343_2
         replace p343 := eq_true p343
         replace q343 := eq_true q343
         go_wp2_with (first | ((with_reducible refine gate_dst (N := 4) rfl ?_); (try (refine gate_guard (by rfl) ?_; dsimp only)); refine bx_ (N := 4) (cs := #[.string (⟨#[]⟩ : ByteArray), .string (⟨#[]⟩ : ByteArray), .int .i64 0]) (t := 57) ?_; intro gb344 hg w31 hbox hb; have BK344 := mk_ (hbox); have GW344 : Aside0 (w.heap.size ≤ gb344) := bz_ hg; have GE344 := GW344; have NB342_344 := bl_ BK342 hg; have NB344_342 := bg_ BK342 hg; replace BK342 := bb_ BK342 hb; replace HB := bs_ HB hb; clear hb hbox hg; have hnb32 := NB344_342.out; have hnc32 := NB342_344.out; obtain ⟨hcz33_0, hcz33_1, hcz33_2, hfz33_0, hfz33_1, hfz33_2⟩ := b3_ BK344))
         repeat (go_quiet (first | (go_at_call 70; (with_reducible refine (impl_within.calls (((rd_T57 l0_0 x8_1).f0).size : Int) 1 8 true _ A7.out).mono ?_); rintro e w' ⟨rfl, ⟨nd, rfl⟩⟩; (try first | exact ⟨rfl, _, World.drewN_drewN _ _ _⟩ | exact ⟨rfl, _, Eq.trans (World.drewN_drewN _ _ _) (congrArg (World.drewN _) (Nat.add_assoc _ _ _))⟩)) | (go_at_call 70; (with_reducible refine (impl_within.calls ((rd_T57 l0_0 x8_1).f2) 0 (((rd_T57 l0_0 x8_1).f1).size : Int) false _ A13.out).mono ?_); rintro e w' ⟨rfl, ⟨nd, rfl⟩⟩; (try first | exact ⟨rfl, _, World.drewN_drewN _ _ _⟩ | exact ⟨rfl, _, Eq.trans (World.drewN_drewN _ _ _) (congrArg (World.drewN _) (Nat.add_assoc _ _ _))⟩))); try go_wp2_with fail)
         go_ret
         exact ⟨er_, bw_ HB⟩
      ·replace c8 := Bool.eq_false_iff.mpr c8
       subst c8
       have H1 : (some false) = some r := by rw [if_neg (show ¬ (false = true) by decide)] at H; exact H
       clear H
       have H := H1
       clear H1
       obtain rfl := Option.some.inj H
       have p343 : 0 ≤ (x8_1 : Int) := od_
       have q343 : x8_1 < (l0_0.length : Int) := od_
       obtain ⟨ad343, e343, hx343_0, hx343_1, hx343_2⟩ := at_T57 HR0_0.out x8_1 p343 q343
       cases e343
       replace hx343_0 := hc_ HB hx343_0
       replace hx343_1 := hc_ HB hx343_1
       replace hx343_2 := hc_ HB hx343_2
       replace p343 := eq_true p343
       replace q343 := eq_true q343
       go_wp2_with (first | ((with_reducible refine gate_dst (N := 4) rfl ?_); (try (refine gate_guard (by rfl) ?_; dsimp only)); refine bx_ (N := 4) (cs := #[.string (⟨#[]⟩ : ByteArray), .string (⟨#[]⟩ : ByteArray), .int .i64 0]) (t := 57) ?_; intro gb344 hg w34 hbox hb; have BK344 := mk_ (hbox); have GW344 : Aside0 (w.heap.size ≤ gb344) := bz_ hg; have GE344 := GW344; have NB342_344 := bl_ BK342 hg; have NB344_342 := bg_ BK342 hg; replace BK342 := bb_ BK342 hb; replace HB := bs_ HB hb; clear hb hbox hg; have hnb35 := NB344_342.out; have hnc35 := NB342_344.out; obtain ⟨hcz36_0, hcz36_1, hcz36_2, hfz36_0, hfz36_1, hfz36_2⟩ := b3_ BK344))
       repeat (go_quiet (first | (go_at_call 70; (with_reducible refine (impl_within.calls (((rd_T57 l0_0 x8_1).f0).size : Int) 1 8 false _ A7.out).mono ?_); rintro e w' ⟨rfl, ⟨nd, rfl⟩⟩; (try first | exact ⟨rfl, _, World.drewN_drewN _ _ _⟩ | exact ⟨rfl, _, Eq.trans (World.drewN_drewN _ _ _) (congrArg (World.drewN _) (Nat.add_assoc _ _ _))⟩))); try go_wp2_with fail)
       go_ret
       exact ⟨er_, bw_ HB⟩
     ·rw [if_neg c6] at H
      exact absurd H (by simp)
    ·rw [if_neg c5] at H
     exact absurd H (by simp)
   ·rw [if_neg c4] at H
    have c4b0 : decide (x8_1 < (l0_0.length : Int)) = false := decide_eq_false c4
    clear c4
    obtain rfl := Option.some.inj H
    have hcz37_0 : wr.cell? ⟨gb342, 0, none⟩ = some (.slice A0_0 l0_0.length c0_0) := bc_ BK342 0
    have hfz37_0 := blk_frozen BK342.out 0
    go_wp2
    go_ret
    exact ⟨er_, bw_ HB⟩

/-! ### impl_SumMore: function 141 -/
mutual
def impl_SumMore.l0 : Nat → Int → ByteArray → Int → Option (Int)
 | 0, _, _, _ => none
 | k + 1, x0, x1, x5 => if x5 < (x1.size : Int) then (if 0 ≤ x5 then (impl_SumMore.l1 k (Go.bits .xor .u32 x0 ((bt x1 x5) % 4294967296)) x1 x5 0) else (none)) else (some x0)
def impl_SumMore.l1 : Nat → Int → ByteArray → Int → Int → Option (Int)
 | 0, _, _, _, _ => none
 | k + 1, x0, x1, x5, x6 => if x6 < 8 then (if (Int.tmod x0 2) = 1 then (impl_SumMore.l1 k (Go.bits .xor .u32 ((Int.tdiv x0 2) % 4294967296) 3558460437) x1 x5 (wrap64 (x6 + 1))) else (impl_SumMore.l1 k ((Int.tdiv x0 2) % 4294967296) x1 x5 (wrap64 (x6 + 1)))) else (impl_SumMore.l0 k x0 x1 (wrap64 (x5 + 1)))
end
def impl_SumMore.f (k : Nat) (a0 : Int) (a1 : ByteArray) : Option (Int) := impl_SumMore.l0 k a0 a1 0
theorem impl_SumMore.mono_l : ∀ k, (∀ y0 y1 y2, LeO (impl_SumMore.l0 k y0 y1 y2) (impl_SumMore.l0 (k + 1) y0 y1 y2)) ∧ (∀ y0 y1 y2 y3, LeO (impl_SumMore.l1 k y0 y1 y2 y3) (impl_SumMore.l1 (k + 1) y0 y1 y2 y3))
 | 0 => ⟨fun _ _ _ r h => by simp [impl_SumMore.l0] at h, fun _ _ _ _ r h => by simp [impl_SumMore.l1] at h⟩
 | k + 1 => by
  obtain ⟨ih0, ih1⟩ := impl_SumMore.mono_l k
  refine ⟨?_, ?_⟩
  ·intro y0 y1 y2
   unfold impl_SumMore.l0
   repeat' first
   | (with_reducible exact ih1 _ _ _ _)
   | (with_reducible exact LeO.refl _)
   | (with_reducible refine LeO.ite ?_ ?_)
  ·intro y0 y1 y2 y3
   unfold impl_SumMore.l1
   repeat' first
   | (with_reducible exact ih0 _ _ _)
   | (with_reducible exact ih1 _ _ _ _)
   | (with_reducible refine LeO.ite ?_ ?_)
theorem impl_SumMore.mono : ∀ a0 a1 k, LeO (impl_SumMore.f k a0 a1) (impl_SumMore.f (k + 1) a0 a1) := by
 intro a0 a1 k
 obtain ⟨ih0, ih1⟩ := impl_SumMore.mono_l k
 unfold impl_SumMore.f
 repeat' first
   | (with_reducible exact ih0 _ _ _)
set_option maxHeartbeats 8000000 in
set_option maxRecDepth 100000 in
theorem impl_SumMore.calls (k : Nat) (a0 : Int) (a1 : ByteArray) (r : Int) (w : World) (h : impl_SumMore.f k a0 a1 = some r) :
  Calls Tryz.prog 141 #[.int .u32 a0, .string a1] w fun e w' => e = .returned (.int .u32 r) ∧ Drawn0 w w' := by
 have H : (impl_SumMore.l0 k a0 a1 0) = some r := h
 clear h
 have H' := Aside0.mk H
 clear H
 go_enter Tryz.func141, Tryz.ntmps141
 go_wp2
 go_loopg [0, 5] k (fun kq v0 v5 w' => ∃ (x0_1 : Int) (x5_1 : Int), v0 = .int .u32 x0_1 ∧ v5 = .int .i64 x5_1 ∧ Aside0 (impl_SumMore.l0 kq x0_1 a1 x5_1 = some r) ∧ Aside0 (kq ≤ k) ∧ Drawn0 w w')
 case atStart => exact ⟨(a0), (0), (by first | rfl | (simp; done) | (simp [*]; done)), (by first | rfl | (simp; done) | (simp [*]; done)), H', ⟨Nat.le_refl _⟩, by repeat (first | exact Drawn0.refl _ | apply Drawn0.step)⟩
 case round =>
  clear H'
  try clear c1
  try clear p2
  obtain ⟨x0_1, x5_1, rfl, rfl, HA, HK1, ⟨m1, rfl⟩⟩ := hrel
  cases gk with
  | zero => exact absurd HA.out (by simp [impl_SumMore.l0])
  | succ k1 =>
   have H := HA.out
   clear HA
   simp only [impl_SumMore.l0] at H
   by_cases c3 : x5_1 < (a1.size : Int)
   ·rw [if_pos c3] at H
    have c3b0 : decide (x5_1 < (a1.size : Int)) = true := decide_eq_true c3
    clear c3
    by_cases c4 : 0 ≤ x5_1
    ·rw [if_pos c4] at H
     have c4b0 : decide (0 ≤ x5_1) = true := decide_eq_true c4
     clear c4
     have H' := Aside0.mk H
     clear H
     have p5 : 0 ≤ (x5_1 : Int) := od_
     have q5 : x5_1 < (a1.size : Int) := od_
     have hx5 := bt_at a1 x5_1
     replace p5 := eq_true p5
     replace q5 := eq_true q5
     go_wp2
     go_loopg [0, 6] k1 (fun kq v0 v6 w' => ∃ (x0_2 : Int) (x6_2 : Int), v0 = .int .u32 x0_2 ∧ v6 = .int .i64 x6_2 ∧ Aside0 (impl_SumMore.l1 kq x0_2 a1 x5_1 x6_2 = some r) ∧ Aside0 (kq ≤ k1) ∧ Drawn0 w w')
     case atStart => exact ⟨(Go.bits .xor .u32 x0_1 ((bt a1 x5_1) % 4294967296)), (0), (by first | rfl | (simp; done) | (simp [*]; done)), (by first | rfl | (simp; done) | (simp [*]; done)), H', ⟨Nat.le_refl _⟩, by repeat (first | exact Drawn0.refl _ | apply Drawn0.step)⟩
     case round =>
      clear H'
      try clear c1
      try clear p2
      try clear c3
      try clear c3b0
      try clear c4
      try clear c4b0
      try clear p5
      try clear q5
      try clear hx5
      try clear p2
      try clear p5
      try clear q5
      obtain ⟨x0_2, x6_2, rfl, rfl, HA, HK2, ⟨m2, rfl⟩⟩ := hrel
      cases gk with
      | zero => exact absurd HA.out (by simp [impl_SumMore.l1])
      | succ k2 =>
       have H := HA.out
       clear HA
       simp only [impl_SumMore.l1] at H
       by_cases c6 : x6_2 < 8
       ·rw [if_pos c6] at H
        have c6b0 : decide (x6_2 < 8) = true := decide_eq_true c6
        clear c6
        by_cases c7 : (Int.tmod x0_2 2) = 1
        ·rw [if_pos c7] at H
         have c7b0 : ((Int.tmod x0_2 2) == 1) = true := beq_iff_eq.mpr c7
         have c7b1 : ((Int.tmod x0_2 2) != 1) = false := bne_eq_false_iff_eq.mpr c7
         clear c7
         have H' := Aside0.mk H
         clear H
         go_wp2
         go_roundg k2
         case measure => have := HK1.out; have := HK2.out; omega
         case rel => exact ⟨(Go.bits .xor .u32 ((Int.tdiv x0_2 2) % 4294967296) 3558460437), (wrap64 (x6_2 + 1)), (by first | rfl | (simp; done) | (simp [*]; done)), (by first | rfl | (simp; done) | (simp [*]; done)), H', ⟨by have := HK1.out; have := HK2.out; omega⟩, by repeat (first | exact Drawn0.refl _ | apply Drawn0.step)⟩
        ·rw [if_neg c7] at H
         have c7b0 : ((Int.tmod x0_2 2) == 1) = false := beq_eq_false_iff_ne.mpr c7
         have c7b1 : ((Int.tmod x0_2 2) != 1) = true := bne_iff_ne.mpr c7
         have H' := Aside0.mk H
         clear H
         go_wp2
         go_roundg k2
         case measure => have := HK1.out; have := HK2.out; omega
         case rel => exact ⟨((Int.tdiv x0_2 2) % 4294967296), (wrap64 (x6_2 + 1)), (by first | rfl | (simp; done) | (simp [*]; done)), (by first | rfl | (simp; done) | (simp [*]; done)), H', ⟨by have := HK1.out; have := HK2.out; omega⟩, by repeat (first | exact Drawn0.refl _ | apply Drawn0.step)⟩
       ·rw [if_neg c6] at H
        have c6b0 : decide (x6_2 < 8) = false := decide_eq_false c6
        clear c6
        have H' := Aside0.mk H
        clear H
        go_wp2
        go_roundg k2
        case measure => have := HK1.out; have := HK2.out; omega
        case rel => exact ⟨(x0_2), (wrap64 (x5_1 + 1)), (by first | rfl | (simp; done) | (simp [*]; done)), (by first | rfl | (simp; done) | (simp [*]; done)), H', ⟨by have := HK1.out; have := HK2.out; omega⟩, by repeat (first | exact Drawn0.refl _ | apply Drawn0.step)⟩
    ·rw [if_neg c4] at H
     exact absurd H (by simp)
   ·rw [if_neg c3] at H
    have c3b0 : decide (x5_1 < (a1.size : Int)) = false := decide_eq_false c3
    clear c3
    obtain rfl := Option.some.inj H
    go_wp2
    go_ret
    exact ⟨by first | rfl | (simp; done) | (simp [*]; done), by repeat (first | exact Drawn0.refl _ | apply Drawn0.step)⟩

end Go.Proofs.YtgnmlgoadkhceaaGreatDoor.QFnExactShedActs
