/- Written by this session's own program (wip/tpl/pp.py): what the law's functions come to, and that the machine's calls do just that. -/
import Derived.Test.YthbaoefbccdioaaTMPack
import Derived.Test.YthbaoefbccdioaaQFnActsx0
import Derived.Test.YthbaoefbccdioaaQFnActsx7
import Derived.Test.YthbaoefbccdioaaQFnActsx9
import Derived.Test.YthbaoefbccdioaaQFnActsx11
namespace Go.Proofs.Ythbaoefbccdioaa.QFnActs
open Go.RowKit Go.Proofs.YthbaoefbccdioaaW.PrintWords Go.Proofs.YthbaoefbccdioaaW.PrintLast Go.Proofs.YthbaoefbccdioaaW.PrintMore
attribute [local go_sem] Go.Proofs.Ythbaoefbccdioaa.Sem.string_geq Go.Proofs.Ythbaoefbccdioaa.Sem.string_leq Go.Proofs.Ythbaoefbccdioaa.Sem.string_gtr
attribute [local go_sem] max2_int min2_int max_two min_two max_three min_three max_four min_four   -- for this text's walks alone
set_option linter.unusedVariables false
set_option linter.unusedSimpArgs false

/-! ### spec_l03Act: function 90 -/
def spec_l03Act.j0 : Nat → List Int → Int → Int → Int → ByteArray → ByteArray → ByteArray → Option (Int × ByteArray × ByteArray × ByteArray × Int × Int)
 | 0, _, _, _, _, _, _, _ => none
 | k + 1, x1000, x1001, x1002, x325000, x325001, x325002, x325003 => (spec_l01Below.f x1000 x1001 x1002 40).bind fun bt334 => (if bt334.1 = 0 then ((spec_l01PickInt.f x1000 bt334.2.1 bt334.2.2 (([0, 5] : List Int))).bind fun bt340 => (some (bt340.1, x325001, x325002, x325003, bt340.2.1, bt340.2.2))) else (if bt334.1 = 1 then ((spec_l01Pick.f x1000 bt334.2.1 bt334.2.2 (([(⟨#[]⟩ : ByteArray), (⟨#[49, 50, 51, 52, 53, 54, 55, 56, 57]⟩ : ByteArray), (⟨#[110, 101, 119]⟩ : ByteArray)] : List ByteArray))).bind fun bt346 => (some (x325000, bt346.1, x325002, x325003, bt346.2.1, bt346.2.2))) else (if bt334.1 = 2 then (some (x325000, x325001, x325002, (⟨#[120]⟩ : ByteArray), bt334.2.1, bt334.2.2)) else (if bt334.1 = 3 then (some (x325000, x325001, (⟨#[120]⟩ : ByteArray), x325003, bt334.2.1, bt334.2.2)) else (some (x325000, x325001, x325002, x325003, bt334.2.1, bt334.2.2))))))
def spec_l03Act.f (k : Nat) (s0_0 : List Int) (s0_1 : Int) (s0_2 : Int) : Option (Int × ByteArray × ByteArray × ByteArray × Int × Int) := (spec_l01Below.f s0_0 s0_1 s0_2 4).bind fun bt318 => ((spec_l03Named.f s0_0 bt318.2.1 bt318.2.2).bind fun bt321 => (if (wrap64 (1 + bt318.1)) = 1 then ((spec_l01Below.f s0_0 bt321.2.1 bt321.2.2 6).bind fun bt325 => ((spec_l01Text.f k s0_0 bt325.2.1 bt325.2.2 bt325.1).bind fun bt328 => (spec_l03Act.j0 k s0_0 bt328.2.1 bt328.2.2 (wrap64 (1 + bt318.1)) bt321.1 bt328.1 (⟨#[]⟩ : ByteArray)))) else (if (wrap64 (1 + bt318.1)) = 3 then ((spec_l03Named.f s0_0 bt321.2.1 bt321.2.2).bind fun bt331 => (spec_l03Act.j0 k s0_0 bt331.2.1 bt331.2.2 (wrap64 (1 + bt318.1)) bt321.1 (⟨#[]⟩ : ByteArray) bt331.1)) else (spec_l03Act.j0 k s0_0 bt321.2.1 bt321.2.2 (wrap64 (1 + bt318.1)) bt321.1 (⟨#[]⟩ : ByteArray) (⟨#[]⟩ : ByteArray)))))
theorem spec_l03Act.mono_l : ∀ k, (∀ y0 y1 y2 y3 y4 y5 y6, LeO (spec_l03Act.j0 k y0 y1 y2 y3 y4 y5 y6) (spec_l03Act.j0 (k + 1) y0 y1 y2 y3 y4 y5 y6))
 | 0 => fun _ _ _ _ _ _ _ r h => by simp [spec_l03Act.j0] at h
 | k + 1 => by
  have ih0 := spec_l03Act.mono_l k
  ·intro y0 y1 y2 y3 y4 y5 y6
   unfold spec_l03Act.j0
   repeat' first
   | (with_reducible exact LeO.refl _)
theorem spec_l03Act.mono : ∀ a0 a1 a2 k, LeO (spec_l03Act.f k a0 a1 a2) (spec_l03Act.f (k + 1) a0 a1 a2) := by
 intro a0 a1 a2 k
 have ih0 := spec_l03Act.mono_l k
 unfold spec_l03Act.f
 repeat' first
   | (with_reducible exact ih0 _ _ _ _ _ _ _)
   | (with_reducible exact spec_l01Text.mono _ _ _ _ _)
   | (with_reducible exact LeO.refl _)
   | (with_reducible refine LeO.ite ?_ ?_)
   | (with_reducible refine LeO.bind ?_ (fun _ => ?_))
set_option maxHeartbeats 8000000 in
set_option maxRecDepth 100000 in
theorem spec_l03Act.calls (k : Nat) (g : Nat) (s0_0 : List Int) (s0_1 : Int) (s0_2 : Int) (r1 : Int) (r2 : ByteArray) (r3 : ByteArray) (r4 : ByteArray) (r5 : Int) (r6 : Int) (w0 w : World) (hI : IsS119 w0 w g s0_0 s0_1 s0_2) (hB : Below w0.heap.size w0 w) (h : spec_l03Act.f k s0_0 s0_1 s0_2 = some (r1, r2, r3, r4, r5, r6)) :
  Calls Try.prog 90 #[.pointer (some ⟨g, 0, none⟩)] w fun e w' => e = .returned (.agg #[.int .i64 r1, .string r2, .string r3, .string r4]) ∧ IsS119 w0 w' g s0_0 r5 r6 ∧ Below w0.heap.size w0 w' ∧ KeepBut w w' g none := by
 have hu35 := Try.underlying35
 have HI0 := Aside0.mk hI
 have HK := mk_ (KeepBut.refl w g none)
 have HL := Aside0.mk hB.size
 clear hI
 have HW0 := Aside0.mk hB.size
 have HB := Aside0.mk hB
 clear hB
 have H : ((spec_l01Below.f s0_0 s0_1 s0_2 4).bind fun bt318 => ((spec_l03Named.f s0_0 bt318.2.1 bt318.2.2).bind fun bt321 => (if (wrap64 (1 + bt318.1)) = 1 then ((spec_l01Below.f s0_0 bt321.2.1 bt321.2.2 6).bind fun bt325 => ((spec_l01Text.f k s0_0 bt325.2.1 bt325.2.2 bt325.1).bind fun bt328 => (spec_l03Act.j0 k s0_0 bt328.2.1 bt328.2.2 (wrap64 (1 + bt318.1)) bt321.1 bt328.1 (⟨#[]⟩ : ByteArray)))) else (if (wrap64 (1 + bt318.1)) = 3 then ((spec_l03Named.f s0_0 bt321.2.1 bt321.2.2).bind fun bt331 => (spec_l03Act.j0 k s0_0 bt331.2.1 bt331.2.2 (wrap64 (1 + bt318.1)) bt321.1 (⟨#[]⟩ : ByteArray) bt331.1)) else (spec_l03Act.j0 k s0_0 bt321.2.1 bt321.2.2 (wrap64 (1 + bt318.1)) bt321.1 (⟨#[]⟩ : ByteArray) (⟨#[]⟩ : ByteArray)))))) = some (r1, r2, r3, r4, r5, r6) := h
 clear h
 replace H := Option.bind_eq_some_iff.mp H
 obtain ⟨⟨t318, t319, t320⟩, A20, H⟩ := H
 try dsimp only at H
 have A2 := Aside0.mk A20
 clear A20
 replace H := Option.bind_eq_some_iff.mp H
 obtain ⟨⟨t321, t322, t323⟩, A30, H⟩ := H
 try dsimp only at H
 have A3 := Aside0.mk A30
 clear A30
 have HC4 := Aside0.mk H
 clear H
 go_enter Try.func90, Try.ntmps90
 go_upto_block 0 with (first | ((with_reducible refine gate_dst (N := 2) rfl ?_); refine bx_ (N := 2) (cs := #[.int .i64 0, .string (⟨#[]⟩ : ByteArray), .string (⟨#[]⟩ : ByteArray), .string (⟨#[]⟩ : ByteArray)]) (t := 35) ?_; intro gb317 hg w5 hbox hb; have n0_ := mk_ (IsS119.below (IsS119.ii_ HI0) hb); have n1_ := mk_ (KeepBut.trans (kb_ HK) (KeepBut.of_below hb g none) (.inl rfl)); have n2_ := mk_ (below_step (bwi_ HB (IsS119.ge HI0.out)) hb); have n3_ := mk_ (hbox); have n4_ := mk_ ((by rw [hg]; exact (keep_size (w := w) (g := g) (row := none) (kb_ HK)) : w.heap.size ≤ gb317)); have n5_ := mk_ ((Nat.le_trans HW0.out (by rw [hg]; exact (keep_size (w := w) (g := g) (row := none) (kb_ HK)) : w.heap.size ≤ gb317) : w0.heap.size ≤ gb317)); have n6_ := mk_ ((by rw [hg]; exact Nat.ne_of_lt (IsS119.lt (show IsS119 w0 _ g s0_0 s0_1 s0_2 from IsS119.ii_ HI0)) : g ≠ gb317)); have n7_ := mk_ ((by rw [hg]; exact Nat.ne_of_gt (IsS119.lt (show IsS119 w0 _ g s0_0 s0_1 s0_2 from IsS119.ii_ HI0)) : gb317 ≠ g)); clear HI0; clear HK; clear HB; have HI0 := n0_; have HK := n1_; have HB := n2_; have BK317 := n3_; have GW317 := n4_; have GE317 := n5_; have NB0_317 := n6_; have NB317_0 := n7_; clear n0_ n1_ n2_ n3_ n4_ n5_ n6_ n7_; clear hb hbox hg) | ((with_reducible refine gate_callee (f := 83) rfl ?_); refine gl_ 5 Try.func83 #[.pointer (some ⟨g, 0, none⟩), .int .i64 4] ?_; (with_reducible refine (spec_l01Below.calls g s0_0 s0_1 s0_2 4 t318 t319 t320 w0 _ ?side1 ?side2 A2.out).mono ?_); (case side1 => exact IsS119.ii_ HI0); (case side2 => exact bwi_ HB (IsS119.ge HI0.out)); rintro e w6 ⟨rfl, hi, hb, hk⟩; refine ⟨_, rfl, ?_⟩; replace BK317 := kz_ BK317 hk NB317_0; replace HK := mk_ (KeepBut.trans (kb_ HK) hk (.inl rfl)); replace HB := mk_ (hb); replace HI0 := mk_ (hi); (try clear hb); (try clear hk); (try clear hi)) | ((with_reducible refine gate_callee (f := 85) rfl ?_); refine gl_ 8 Try.func85 #[.pointer (some ⟨g, 0, none⟩)] ?_; (with_reducible refine (spec_l03Named.calls g s0_0 t319 t320 t321 t322 t323 w0 _ ?side1 ?side2 A3.out).mono ?_); (case side1 => exact IsS119.ii_ HI0); (case side2 => exact bwi_ HB (IsS119.ge HI0.out)); rintro e w7 ⟨rfl, hi, hb, hk⟩; refine ⟨_, rfl, ?_⟩; replace BK317 := kz_ BK317 hk NB317_0; replace HK := mk_ (KeepBut.trans (kb_ HK) hk (.inl rfl)); replace HB := mk_ (hb); replace HI0 := mk_ (hi); (try clear hb); (try clear hk); (try clear hi)) | ((with_reducible refine gate_dst (N := 3) rfl ?_); refine bx_ (N := 3) (cs := #[.int .i64 0, .string (⟨#[]⟩ : ByteArray), .string (⟨#[]⟩ : ByteArray), .string (⟨#[]⟩ : ByteArray)]) (t := 35) ?_; intro gb324 hg w8 hbox hb; have n0_ := mk_ (IsS119.below (IsS119.ii_ HI0) hb); have n2_ := mk_ (KeepBut.trans (kb_ HK) (KeepBut.of_below hb g none) (.inl rfl)); have n3_ := mk_ (below_step (bwi_ HB (IsS119.ge HI0.out)) hb); have n4_ := mk_ (hbox); have n5_ := mk_ ((by rw [hg]; exact (keep_size (w := w) (g := g) (row := none) (kb_ HK)) : w.heap.size ≤ gb324)); have n6_ := mk_ ((Nat.le_trans HW0.out (by rw [hg]; exact (keep_size (w := w) (g := g) (row := none) (kb_ HK)) : w.heap.size ≤ gb324) : w0.heap.size ≤ gb324)); have n7_ : Aside0 (gb317 ≠ gb324) := bl_ BK317 hg; have n8_ : Aside0 (gb324 ≠ gb317) := bg_ BK317 hg; have n9_ := mk_ ((by rw [hg]; exact Nat.ne_of_lt (IsS119.lt (show IsS119 w0 _ g s0_0 t322 t323 from IsS119.ii_ HI0)) : g ≠ gb324)); have n10_ := mk_ ((by rw [hg]; exact Nat.ne_of_gt (IsS119.lt (show IsS119 w0 _ g s0_0 t322 t323 from IsS119.ii_ HI0)) : gb324 ≠ g)); clear HI0; clear HK; clear HB; have HI0 := n0_; have HK := n2_; have HB := n3_; have BK324 := n4_; have GW324 := n5_; have GE324 := n6_; have NB317_324 := n7_; have NB324_317 := n8_; have NB0_324 := n9_; have NB324_0 := n10_; clear n0_ n2_ n3_ n4_ n5_ n6_ n7_ n8_ n9_ n10_; replace BK317 := bb_ BK317 hb; clear hb hbox hg; obtain ⟨hnb9, hnc9⟩ := ns_ NB324_317; obtain ⟨hnb10, hnc10⟩ := ns_ NB324_0; obtain ⟨hcz11_0, hcz11_1, hcz11_2, hcz11_3, hfz11_0, hfz11_1, hfz11_2, hfz11_3⟩ := b4_ BK324))
 (try simp only [Act.put, sia_, scz_, scs_])
 go_cut [] (fun wc => ∃ (kq : Nat) (x1001_3 : Int) (x1002_3 : Int) (x325002_3 : ByteArray) (x325003_3 : ByteArray), Aside0 (spec_l03Act.j0 kq s0_0 x1001_3 x1002_3 (wrap64 (1 + t318)) t321 x325002_3 x325003_3 = some (r1, r2, r3, r4, r5, r6)) ∧ Aside0 (kq ≤ k) ∧ Aside0 (wc.heap[gb317]? = some (.cells #[.int .i64 0, .string (⟨#[]⟩ : ByteArray), .string (⟨#[]⟩ : ByteArray), .string (⟨#[]⟩ : ByteArray)] 35 (0, 0))) ∧ Aside0 (wc.heap[gb324]? = some (.cells #[.int .i64 (wrap64 (1 + t318)), .string t321, .string x325002_3, .string x325003_3] 35 (0, 0))) ∧ Aside0 (IsS119 w0 wc g s0_0 x1001_3 x1002_3) ∧ Aside0 (KeepBut w wc g none) ∧ Aside0 (Below w0.heap.size w0 wc))
 case first =>
  have H := HC4.out
  clear HC4
  by_cases c12 : (wrap64 (1 + t318)) = 1
  ·rw [if_pos c12] at H
   have c12b0 : ((wrap64 (1 + t318)) == 1) = true := beq_iff_eq.mpr c12
   have c12b1 : ((wrap64 (1 + t318)) != 1) = false := bne_eq_false_iff_eq.mpr c12
   clear c12
   (first | rw [c12b0] | (simp only [i64_w, i32_w]; rw [c12b0]) | skip)
   replace H := Option.bind_eq_some_iff.mp H
   obtain ⟨⟨t325, t326, t327⟩, A130, H⟩ := H
   try dsimp only at H
   have A13 := Aside0.mk A130
   clear A130
   replace H := Option.bind_eq_some_iff.mp H
   obtain ⟨⟨t328, t329, t330⟩, A140, H⟩ := H
   try dsimp only at H
   have A14 := Aside0.mk A140
   clear A140
   have H' := Aside0.mk H
   clear H
   go_wp2_with (first | ((with_reducible refine gate_callee (f := 83) rfl ?_); refine gl_ 16 Try.func83 #[.pointer (some ⟨g, 0, none⟩), .int .i64 6] ?_; (with_reducible refine (spec_l01Below.calls g s0_0 t322 t323 6 t325 t326 t327 w0 _ ?side1 ?side2 A13.out).mono ?_); (case side1 => exact IsS119.ii_ HI0); (case side2 => exact bwi_ HB (IsS119.ge HI0.out)); rintro e w15 ⟨rfl, hi, hb, hk⟩; refine ⟨_, rfl, ?_⟩; replace BK317 := mk_ (KeepBut.blk hk (g' := gb317) (o := .cells #[.int .i64 0, .string (⟨#[]⟩ : ByteArray), .string (⟨#[]⟩ : ByteArray), .string (⟨#[]⟩ : ByteArray)] 35 (0, 0)) bf_ NB317_0.out (by simp)); replace BK324 := mk_ (KeepBut.blk hk (g' := gb324) (o := .cells #[.int .i64 (wrap64 (1 + t318)), .string t321, .string (⟨#[]⟩ : ByteArray), .string (⟨#[]⟩ : ByteArray)] 35 (0, 0)) bu_ NB324_0.out (by simp)); replace HK := mk_ (KeepBut.trans (kb_ HK) hk (.inl rfl)); replace HB := mk_ (hb); replace HI0 := mk_ (hi); (try clear hb); (try clear hk); (try clear hi)) | ((with_reducible refine gate_callee (f := 84) rfl ?_); refine gl_ 17 Try.func84 #[.pointer (some ⟨g, 0, none⟩), .int .i64 t325] ?_; (with_reducible refine (spec_l01Text.calls k g s0_0 t326 t327 t325 t328 t329 t330 w0 _ ?side1 ?side2 A14.out).mono ?_); (case side1 => exact IsS119.ii_ HI0); (case side2 => exact bwi_ HB (IsS119.ge HI0.out)); rintro e w16 ⟨rfl, hi, hb, hk⟩; refine ⟨_, rfl, ?_⟩; replace BK317 := kz_ BK317 hk NB317_0; replace BK324 := kz_ BK324 hk NB324_0; replace HK := mk_ (KeepBut.trans (kb_ HK) hk (.inl rfl)); replace HB := mk_ (hb); replace HI0 := mk_ (hi); (try clear hb); (try clear hk); (try clear hi); obtain ⟨hnb17, hnc17⟩ := ns_ NB324_317; obtain ⟨hnb18, hnc18⟩ := ns_ NB324_0; obtain ⟨hcz19_0, hcz19_1, hcz19_2, hcz19_3, hfz19_0, hfz19_1, hfz19_2, hfz19_3⟩ := b4_ BK324))
   go_meet
   case rel => exact ⟨_, (t329), (t330), (t328), ((⟨#[]⟩ : ByteArray)), H', ⟨by first | omega | exact Nat.le_refl _⟩, ⟨bf_⟩, ⟨bu_⟩, ⟨IsS119.ii_ HI0⟩, ⟨kb_ HK⟩, ⟨bwi_ HB (IsS119.ge HI0.out)⟩⟩
  rw [if_neg c12] at H
  have c12b0 : ((wrap64 (1 + t318)) == 1) = false := beq_eq_false_iff_ne.mpr c12
  have c12b1 : ((wrap64 (1 + t318)) != 1) = true := bne_iff_ne.mpr c12
  (first | rw [c12b0] | (simp only [i64_w, i32_w]; rw [c12b0]) | skip)
  by_cases c20 : (wrap64 (1 + t318)) = 3
  rotate_left
  ·rw [if_neg c20] at H
   have c20b0 : ((wrap64 (1 + t318)) == 3) = false := beq_eq_false_iff_ne.mpr c20
   have c20b1 : ((wrap64 (1 + t318)) != 3) = true := bne_iff_ne.mpr c20
   have H' := Aside0.mk H
   clear H
   go_wp2
   go_meet
   case rel => exact ⟨_, (t322), (t323), ((⟨#[]⟩ : ByteArray)), ((⟨#[]⟩ : ByteArray)), H', ⟨by first | omega | exact Nat.le_refl _⟩, ⟨bf_⟩, ⟨bu_⟩, ⟨IsS119.ii_ HI0⟩, ⟨kb_ HK⟩, ⟨bwi_ HB (IsS119.ge HI0.out)⟩⟩
  rw [if_pos c20] at H
  have c20b0 : ((wrap64 (1 + t318)) == 3) = true := beq_iff_eq.mpr c20
  have c20b1 : ((wrap64 (1 + t318)) != 3) = false := bne_eq_false_iff_eq.mpr c20
  clear c20
  replace H := Option.bind_eq_some_iff.mp H
  obtain ⟨⟨t331, t332, t333⟩, A210, H⟩ := H
  try dsimp only at H
  have A21 := Aside0.mk A210
  clear A210
  have H' := Aside0.mk H
  clear H
  go_wp2_with (first | ((with_reducible refine gate_callee (f := 85) rfl ?_); refine gl_ 22 Try.func85 #[.pointer (some ⟨g, 0, none⟩)] ?_; (with_reducible refine (spec_l03Named.calls g s0_0 t322 t323 t331 t332 t333 w0 _ ?side1 ?side2 A21.out).mono ?_); (case side1 => exact IsS119.ii_ HI0); (case side2 => exact bwi_ HB (IsS119.ge HI0.out)); rintro e w22 ⟨rfl, hi, hb, hk⟩; refine ⟨_, rfl, ?_⟩; replace BK317 := mk_ (KeepBut.blk hk (g' := gb317) (o := .cells #[.int .i64 0, .string (⟨#[]⟩ : ByteArray), .string (⟨#[]⟩ : ByteArray), .string (⟨#[]⟩ : ByteArray)] 35 (0, 0)) bf_ NB317_0.out (by simp)); replace BK324 := mk_ (KeepBut.blk hk (g' := gb324) (o := .cells #[.int .i64 (wrap64 (1 + t318)), .string t321, .string (⟨#[]⟩ : ByteArray), .string (⟨#[]⟩ : ByteArray)] 35 (0, 0)) bu_ NB324_0.out (by simp)); replace HK := mk_ (KeepBut.trans (kb_ HK) hk (.inl rfl)); replace HB := mk_ (hb); replace HI0 := mk_ (hi); (try clear hb); (try clear hk); (try clear hi); obtain ⟨hnb23, hnc23⟩ := ns_ NB324_317; obtain ⟨hnb24, hnc24⟩ := ns_ NB324_0; obtain ⟨hcz25_0, hcz25_1, hcz25_2, hcz25_3, hfz25_0, hfz25_1, hfz25_2, hfz25_3⟩ := b4_ BK324))
  go_meet
  case rel => exact ⟨_, (t332), (t333), ((⟨#[]⟩ : ByteArray)), (t331), H', ⟨by first | omega | exact Nat.le_refl _⟩, ⟨bf_⟩, ⟨bu_⟩, ⟨IsS119.ii_ HI0⟩, ⟨kb_ HK⟩, ⟨bwi_ HB (IsS119.ge HI0.out)⟩⟩
 case rest =>
  clear HC4
  (try clear c1); (try clear c2); (try clear p2); (try clear p6); (try clear c8); (try clear c9); (try clear c10); (try clear c12); (try clear c12b0); (try clear c12b1); (try clear c17); (try clear c18); (try clear c20); (try clear c20b0); (try clear c20b1); (try clear c23); (try clear c24); (try clear hcz11_0); (try clear hcz11_1); (try clear hcz11_2); (try clear hcz11_3); (try clear hcz19_0); (try clear hcz19_1); (try clear hcz19_2); (try clear hcz19_3); (try clear hcz25_0); (try clear hcz25_1); (try clear hcz25_2); (try clear hcz25_3); (try clear hfz11_0); (try clear hfz11_1); (try clear hfz11_2); (try clear hfz11_3); (try clear hfz19_0); (try clear hfz19_1); (try clear hfz19_2); (try clear hfz19_3); (try clear hfz25_0); (try clear hfz25_1); (try clear hfz25_2); (try clear hfz25_3)
  obtain ⟨kq, x1001_3, x1002_3, x325002_3, x325003_3, HA, HJ3, BK317, BK324, HI0, HK, HB⟩ := hcut
  cases kq with
  | zero => exact absurd HA.out (by simp [spec_l03Act.j0])
  | succ kj3 =>
   have H := HA.out
   clear HA
   simp only [spec_l03Act.j0] at H
   replace H := Option.bind_eq_some_iff.mp H
   obtain ⟨⟨t334, t335, t336⟩, A260, H⟩ := H
   try dsimp only at H
   have A26 := Aside0.mk A260
   clear A260
   by_cases c27 : t334 = 0
   ·rw [if_pos c27] at H
    have c27b0 : (t334 == 0) = true := beq_iff_eq.mpr c27
    have c27b1 : (t334 != 0) = false := bne_eq_false_iff_eq.mpr c27
    clear c27
    obtain ⟨y337, hy337⟩ : ∃ y_ : List Int, y_ = (([0, 5] : List Int)) := ⟨_, rfl⟩
    replace H : ((spec_l01PickInt.f s0_0 t335 t336 y337).bind fun bt340 => (some (bt340.1, t321, x325002_3, x325003_3, bt340.2.1, bt340.2.2))) = some (r1, r2, r3, r4, r5, r6) := by first | (rw [hy337]; with_reducible exact H) | (have H2_ := (Option.bind_some _ _).symm.trans H; rw [hy337]; with_reducible exact H2_) | (have H2_ := (Option.bind_some _ _).symm.trans H; with_reducible exact H2_) | with_reducible exact H | (rw [hy337]; exact H) | exact H
    have Ny337 := Aside0.mk hy337
    clear hy337
    replace H := Option.bind_eq_some_iff.mp H
    obtain ⟨⟨t340, t341, t342⟩, A280, H⟩ := H
    try dsimp only at H
    have A28 := Aside0.mk A280
    clear A280
    simp only [Option.some.injEq, Prod.mk.injEq] at H
    obtain ⟨rfl, rfl, rfl, rfl, rfl, rfl⟩ := H
    go_wp2_with (first | ((with_reducible refine gate_callee (f := 83) rfl ?_); refine gl_ 25 Try.func83 #[.pointer (some ⟨g, 0, none⟩), .int .i64 40] ?_; (with_reducible refine (spec_l01Below.calls g s0_0 x1001_3 x1002_3 40 t334 t335 t336 w0 _ ?side1 ?side2 A26.out).mono ?_); (case side1 => exact IsS119.ii_ HI0); (case side2 => exact bwi_ HB (IsS119.ge HI0.out)); rintro e w29 ⟨rfl, hi, hb, hk⟩; refine ⟨_, rfl, ?_⟩; replace BK317 := kz_ BK317 hk NB317_0; replace BK324 := kz_ BK324 hk NB324_0; replace HK := mk_ (KeepBut.trans (kb_ HK) hk (.inl rfl)); replace HB := mk_ (hb); replace HI0 := mk_ (hi); (try clear hb); (try clear hk); (try clear hi)) | ((with_reducible refine gate_dst (N := 29) rfl ?_); refine Kd.R_lit (Kd.int .i64) _ 3 ?hg (N := 29) ?hd (xs := ([0, 5] : List Int)) (inner := [.int .i64 0, .int .i64 5]) (ok := fun _ => True) (okp := fun _ => True) ?hr ?hp (fun _ hk => hk) trivial (Below.refl _ _) (Nat.le_refl _) (by simp) ?_; (case hd => rfl); (case hg => rfl); (case hr => first | (go_simp; done) | (go_simp; rfl)); (case hp => exact (Reps.one (show Kd.M (Kd.int .i64) _ _ _ 0 [.int .i64 0] from rfl) (Reps.one (show Kd.M (Kd.int .i64) _ _ _ 5 [.int .i64 5] from rfl) (Reps.none _ _)))); intro v338 w30 ho31 hb hg_ hnew_; clear hg_ hnew_; (first | rw [← Ny337.out] at ho31 | (simp only [Int.reduceToNat] at ho31; rw [← Ny337.out] at ho31)); have n0_ := mk_ (Kd.R_lower ho31 (keep_size (w := w) (g := g) (row := none) (kb_ HK))); have n3_ := mk_ (IsS119.below (IsS119.ii_ HI0) hb); have n4_ := mk_ (KeepBut.trans (kb_ HK) (KeepBut.of_below hb g none) (.inl rfl)); have n5_ := mk_ (below_step (bwi_ HB (IsS119.ge HI0.out)) hb); clear HI0; clear HK; clear HB; have HO339 := n0_; have HI0 := n3_; have HK := n4_; have HB := n5_; clear n0_ n3_ n4_ n5_; replace BK317 := bb_ BK317 hb; replace BK324 := bb_ BK324 hb; clear hb ho31; obtain ⟨Ao32, co32, eo32⟩ := Kd.R_slice HO339.out; subst eo32) | ((with_reducible refine gate_callee (f := 86) rfl ?_); refine gl_ 30 Try.func86 #[.pointer (some ⟨g, 0, none⟩), .slice Ao32 y337.length co32] ?_; (with_reducible refine (spec_l01PickInt.calls g s0_0 t335 t336 _ _ y337 t340 t341 t342 w0 _ ?side1 ?side2 ?side3 ?side4 ?side5 A28.out).mono ?_); (case side1 => exact IsS119.ii_ HI0); (case side2 => exact bwi_ HB (IsS119.ge HI0.out)); (case side3 => exact cr_ HO339); (case side4 => exact (Kd.R_reads' HO339.out).2.1); (case side5 => exact far_slice (IsS119.own_ne HI0.out HO339.out (by decide))); rintro e w33 ⟨rfl, hi, hb, hk⟩; refine ⟨_, rfl, ?_⟩; replace BK317 := kz_ BK317 hk NB317_0; replace BK324 := kz_ BK324 hk NB324_0; replace HO339 := mk_ (Kd.R_mono (Kd.R_keep (IsS119.apart (show IsS119 w0 _ g s0_0 t335 t336 from IsS119.ii_ HI0) (rp_ HO339) (by decide)) hk (fun _ h => h.2)) (fun _ h => h.1)); replace HK := mk_ (KeepBut.trans (kb_ HK) hk (.inl rfl)); replace HB := mk_ (hb); replace HI0 := mk_ (hi); (try clear hb); (try clear hk); (try clear hi); obtain ⟨hnb34, hnc34⟩ := ns_ NB324_317; obtain ⟨hnb35, hnc35⟩ := ns_ NB324_0; obtain ⟨hcz36_0, hcz36_1, hcz36_2, hcz36_3, hfz36_0, hfz36_1, hfz36_2, hfz36_3⟩ := b4_ BK324; obtain ⟨hnb37, hnc37⟩ := ns_ NB317_0; obtain ⟨hcz38_0, hcz38_1, hcz38_2, hcz38_3, hfz38_0, hfz38_1, hfz38_2, hfz38_3⟩ := b4_ BK317))
    refine bodyPost_ret (results_cell_row rfl _ _ gb317 35 #[.int .i64 t340, .string t321, .string x325002_3, .string x325003_3] (0, 0) _ rfl bu_ Try.underlying35 rfl (by kernel_rfl)) rfl ?_
    exact ⟨er_, IsS119.ii_ HI0, bwi_ HB (IsS119.ge HI0.out), kb_ HK⟩
   rw [if_neg c27] at H
   have c27b0 : (t334 == 0) = false := beq_eq_false_iff_ne.mpr c27
   have c27b1 : (t334 != 0) = true := bne_iff_ne.mpr c27
   by_cases c39 : t334 = 1
   ·rw [if_pos c39] at H
    have c39b0 : (t334 == 1) = true := beq_iff_eq.mpr c39
    have c39b1 : (t334 != 1) = false := bne_eq_false_iff_eq.mpr c39
    clear c39
    obtain ⟨y343, hy343⟩ : ∃ y_ : List ByteArray, y_ = (([(⟨#[]⟩ : ByteArray), (⟨#[49, 50, 51, 52, 53, 54, 55, 56, 57]⟩ : ByteArray), (⟨#[110, 101, 119]⟩ : ByteArray)] : List ByteArray)) := ⟨_, rfl⟩
    replace H : ((spec_l01Pick.f s0_0 t335 t336 y343).bind fun bt346 => (some ((wrap64 (1 + t318)), bt346.1, x325002_3, x325003_3, bt346.2.1, bt346.2.2))) = some (r1, r2, r3, r4, r5, r6) := by first | (rw [hy343]; with_reducible exact H) | (have H2_ := (Option.bind_some _ _).symm.trans H; rw [hy343]; with_reducible exact H2_) | (have H2_ := (Option.bind_some _ _).symm.trans H; with_reducible exact H2_) | with_reducible exact H | (rw [hy343]; exact H) | exact H
    have Ny343 := Aside0.mk hy343
    clear hy343
    replace H := Option.bind_eq_some_iff.mp H
    obtain ⟨⟨t346, t347, t348⟩, A400, H⟩ := H
    try dsimp only at H
    have A40 := Aside0.mk A400
    clear A400
    simp only [Option.some.injEq, Prod.mk.injEq] at H
    obtain ⟨rfl, rfl, rfl, rfl, rfl, rfl⟩ := H
    go_wp2_with (first | ((with_reducible refine gate_callee (f := 83) rfl ?_); refine gl_ 25 Try.func83 #[.pointer (some ⟨g, 0, none⟩), .int .i64 40] ?_; (with_reducible refine (spec_l01Below.calls g s0_0 x1001_3 x1002_3 40 t334 t335 t336 w0 _ ?side1 ?side2 A26.out).mono ?_); (case side1 => exact IsS119.ii_ HI0); (case side2 => exact bwi_ HB (IsS119.ge HI0.out)); rintro e w41 ⟨rfl, hi, hb, hk⟩; refine ⟨_, rfl, ?_⟩; replace BK317 := kz_ BK317 hk NB317_0; replace BK324 := kz_ BK324 hk NB324_0; replace HK := mk_ (KeepBut.trans (kb_ HK) hk (.inl rfl)); replace HB := mk_ (hb); replace HI0 := mk_ (hi); (try clear hb); (try clear hk); (try clear hi)) | ((with_reducible refine gate_dst (N := 35) rfl ?_); refine Kd.R_lit Kd.string _ 9 ?hg (N := 35) ?hd (xs := ([(⟨#[]⟩ : ByteArray), (⟨#[49, 50, 51, 52, 53, 54, 55, 56, 57]⟩ : ByteArray), (⟨#[110, 101, 119]⟩ : ByteArray)] : List ByteArray)) (inner := [.string (⟨#[]⟩ : ByteArray), .string (⟨#[49, 50, 51, 52, 53, 54, 55, 56, 57]⟩ : ByteArray), .string (⟨#[110, 101, 119]⟩ : ByteArray)]) (ok := fun _ => True) (okp := fun _ => True) ?hr ?hp (fun _ hk => hk) trivial (Below.refl _ _) (Nat.le_refl _) (by simp) ?_; (case hd => rfl); (case hg => rfl); (case hr => first | (go_simp; done) | (go_simp; rfl)); (case hp => exact (Reps.one (show Kd.M Kd.string _ _ _ (⟨#[]⟩ : ByteArray) [.string (⟨#[]⟩ : ByteArray)] from rfl) (Reps.one (show Kd.M Kd.string _ _ _ (⟨#[49, 50, 51, 52, 53, 54, 55, 56, 57]⟩ : ByteArray) [.string (⟨#[49, 50, 51, 52, 53, 54, 55, 56, 57]⟩ : ByteArray)] from rfl) (Reps.one (show Kd.M Kd.string _ _ _ (⟨#[110, 101, 119]⟩ : ByteArray) [.string (⟨#[110, 101, 119]⟩ : ByteArray)] from rfl) (Reps.none _ _))))); intro v344 w42 ho43 hb hg_ hnew_; clear hg_ hnew_; (first | rw [← Ny343.out] at ho43 | (simp only [Int.reduceToNat] at ho43; rw [← Ny343.out] at ho43)); have n0_ := mk_ (Kd.R_lower ho43 (keep_size (w := w) (g := g) (row := none) (kb_ HK))); have n3_ := mk_ (IsS119.below (IsS119.ii_ HI0) hb); have n4_ := mk_ (KeepBut.trans (kb_ HK) (KeepBut.of_below hb g none) (.inl rfl)); have n5_ := mk_ (below_step (bwi_ HB (IsS119.ge HI0.out)) hb); clear HI0; clear HK; clear HB; have HO345 := n0_; have HI0 := n3_; have HK := n4_; have HB := n5_; clear n0_ n3_ n4_ n5_; replace BK317 := bb_ BK317 hb; replace BK324 := bb_ BK324 hb; clear hb ho43; obtain ⟨Ao44, co44, eo44⟩ := Kd.R_slice HO345.out; subst eo44) | ((with_reducible refine gate_callee (f := 87) rfl ?_); refine gl_ 36 Try.func87 #[.pointer (some ⟨g, 0, none⟩), .slice Ao44 y343.length co44] ?_; (with_reducible refine (spec_l01Pick.calls g s0_0 t335 t336 _ _ y343 t346 t347 t348 w0 _ ?side1 ?side2 ?side3 ?side4 ?side5 A40.out).mono ?_); (case side1 => exact IsS119.ii_ HI0); (case side2 => exact bwi_ HB (IsS119.ge HI0.out)); (case side3 => exact cr_ HO345); (case side4 => exact (Kd.R_reads' HO345.out).2.1); (case side5 => exact far_slice (IsS119.own_ne HI0.out HO345.out (by decide))); rintro e w45 ⟨rfl, hi, hb, hk⟩; refine ⟨_, rfl, ?_⟩; replace BK317 := kz_ BK317 hk NB317_0; replace BK324 := kz_ BK324 hk NB324_0; replace HO345 := mk_ (Kd.R_mono (Kd.R_keep (IsS119.apart (show IsS119 w0 _ g s0_0 t335 t336 from IsS119.ii_ HI0) (rp_ HO345) (by decide)) hk (fun _ h => h.2)) (fun _ h => h.1)); replace HK := mk_ (KeepBut.trans (kb_ HK) hk (.inl rfl)); replace HB := mk_ (hb); replace HI0 := mk_ (hi); (try clear hb); (try clear hk); (try clear hi); obtain ⟨hnb46, hnc46⟩ := ns_ NB324_317; obtain ⟨hnb47, hnc47⟩ := ns_ NB324_0; obtain ⟨hcz48_0, hcz48_1, hcz48_2, hcz48_3, hfz48_0, hfz48_1, hfz48_2, hfz48_3⟩ := b4_ BK324; obtain ⟨hnb49, hnc49⟩ := ns_ NB317_0; obtain ⟨hcz50_0, hcz50_1, hcz50_2, hcz50_3, hfz50_0, hfz50_1, hfz50_2, hfz50_3⟩ := b4_ BK317))
    refine bodyPost_ret (results_cell_row rfl _ _ gb317 35 #[.int .i64 (wrap64 (1 + t318)), .string t346, .string x325002_3, .string x325003_3] (0, 0) _ rfl bu_ Try.underlying35 rfl (by kernel_rfl)) rfl ?_
    exact ⟨er_, IsS119.ii_ HI0, bwi_ HB (IsS119.ge HI0.out), kb_ HK⟩
   rw [if_neg c39] at H
   have c39b0 : (t334 == 1) = false := beq_eq_false_iff_ne.mpr c39
   have c39b1 : (t334 != 1) = true := bne_iff_ne.mpr c39
   by_cases c51 : t334 = 2
   ·rw [if_pos c51] at H
    have c51b0 : (t334 == 2) = true := beq_iff_eq.mpr c51
    have c51b1 : (t334 != 2) = false := bne_eq_false_iff_eq.mpr c51
    clear c51
    simp only [Option.some.injEq, Prod.mk.injEq] at H
    obtain ⟨rfl, rfl, rfl, rfl, rfl, rfl⟩ := H
    go_wp2_with (first | ((with_reducible refine gate_callee (f := 83) rfl ?_); refine gl_ 25 Try.func83 #[.pointer (some ⟨g, 0, none⟩), .int .i64 40] ?_; (with_reducible refine (spec_l01Below.calls g s0_0 x1001_3 x1002_3 40 t334 t335 t336 w0 _ ?side1 ?side2 A26.out).mono ?_); (case side1 => exact IsS119.ii_ HI0); (case side2 => exact bwi_ HB (IsS119.ge HI0.out)); rintro e w52 ⟨rfl, hi, hb, hk⟩; refine ⟨_, rfl, ?_⟩; replace BK317 := kz_ BK317 hk NB317_0; replace BK324 := kz_ BK324 hk NB324_0; replace HK := mk_ (KeepBut.trans (kb_ HK) hk (.inl rfl)); replace HB := mk_ (hb); replace HI0 := mk_ (hi); (try clear hb); (try clear hk); (try clear hi); obtain ⟨hnb53, hnc53⟩ := ns_ NB324_317; obtain ⟨hnb54, hnc54⟩ := ns_ NB324_0; obtain ⟨hcz55_0, hcz55_1, hcz55_2, hcz55_3, hfz55_0, hfz55_1, hfz55_2, hfz55_3⟩ := b4_ BK324; obtain ⟨hnb56, hnc56⟩ := ns_ NB317_0; obtain ⟨hcz57_0, hcz57_1, hcz57_2, hcz57_3, hfz57_0, hfz57_1, hfz57_2, hfz57_3⟩ := b4_ BK317))
    refine bodyPost_ret (results_cell_row rfl _ _ gb317 35 #[.int .i64 (wrap64 (1 + t318)), .string t321, .string x325002_3, .string (⟨#[120]⟩ : ByteArray)] (0, 0) _ rfl bu_ Try.underlying35 rfl (by kernel_rfl)) rfl ?_
    exact ⟨er_, IsS119.ii_ HI0, bwi_ HB (IsS119.ge HI0.out), kb_ HK⟩
   rw [if_neg c51] at H
   have c51b0 : (t334 == 2) = false := beq_eq_false_iff_ne.mpr c51
   have c51b1 : (t334 != 2) = true := bne_iff_ne.mpr c51
   by_cases c58 : t334 = 3
   rotate_left
   ·rw [if_neg c58] at H
    have c58b0 : (t334 == 3) = false := beq_eq_false_iff_ne.mpr c58
    have c58b1 : (t334 != 3) = true := bne_iff_ne.mpr c58
    simp only [Option.some.injEq, Prod.mk.injEq] at H
    obtain ⟨rfl, rfl, rfl, rfl, rfl, rfl⟩ := H
    go_wp2_with (first | ((with_reducible refine gate_callee (f := 83) rfl ?_); refine gl_ 25 Try.func83 #[.pointer (some ⟨g, 0, none⟩), .int .i64 40] ?_; (with_reducible refine (spec_l01Below.calls g s0_0 x1001_3 x1002_3 40 t334 t335 t336 w0 _ ?side1 ?side2 A26.out).mono ?_); (case side1 => exact IsS119.ii_ HI0); (case side2 => exact bwi_ HB (IsS119.ge HI0.out)); rintro e w65 ⟨rfl, hi, hb, hk⟩; refine ⟨_, rfl, ?_⟩; replace BK317 := kz_ BK317 hk NB317_0; replace BK324 := kz_ BK324 hk NB324_0; replace HK := mk_ (KeepBut.trans (kb_ HK) hk (.inl rfl)); replace HB := mk_ (hb); replace HI0 := mk_ (hi); (try clear hb); (try clear hk); (try clear hi); obtain ⟨hnb66, hnc66⟩ := ns_ NB324_317; obtain ⟨hnb67, hnc67⟩ := ns_ NB324_0; obtain ⟨hcz68_0, hcz68_1, hcz68_2, hcz68_3, hfz68_0, hfz68_1, hfz68_2, hfz68_3⟩ := b4_ BK324; obtain ⟨hnb69, hnc69⟩ := ns_ NB317_0; obtain ⟨hcz70_0, hcz70_1, hcz70_2, hcz70_3, hfz70_0, hfz70_1, hfz70_2, hfz70_3⟩ := b4_ BK317))
    refine bodyPost_ret (results_cell_row rfl _ _ gb317 35 #[.int .i64 (wrap64 (1 + t318)), .string t321, .string x325002_3, .string x325003_3] (0, 0) _ rfl bu_ Try.underlying35 rfl (by kernel_rfl)) rfl ?_
    exact ⟨er_, IsS119.ii_ HI0, bwi_ HB (IsS119.ge HI0.out), kb_ HK⟩
   rw [if_pos c58] at H
   have c58b0 : (t334 == 3) = true := beq_iff_eq.mpr c58
   have c58b1 : (t334 != 3) = false := bne_eq_false_iff_eq.mpr c58
   clear c58
   simp only [Option.some.injEq, Prod.mk.injEq] at H
   obtain ⟨rfl, rfl, rfl, rfl, rfl, rfl⟩ := H
   go_wp2_with (first | ((with_reducible refine gate_callee (f := 83) rfl ?_); refine gl_ 25 Try.func83 #[.pointer (some ⟨g, 0, none⟩), .int .i64 40] ?_; (with_reducible refine (spec_l01Below.calls g s0_0 x1001_3 x1002_3 40 t334 t335 t336 w0 _ ?side1 ?side2 A26.out).mono ?_); (case side1 => exact IsS119.ii_ HI0); (case side2 => exact bwi_ HB (IsS119.ge HI0.out)); rintro e w59 ⟨rfl, hi, hb, hk⟩; refine ⟨_, rfl, ?_⟩; replace BK317 := kz_ BK317 hk NB317_0; replace BK324 := kz_ BK324 hk NB324_0; replace HK := mk_ (KeepBut.trans (kb_ HK) hk (.inl rfl)); replace HB := mk_ (hb); replace HI0 := mk_ (hi); (try clear hb); (try clear hk); (try clear hi); obtain ⟨hnb60, hnc60⟩ := ns_ NB324_317; obtain ⟨hnb61, hnc61⟩ := ns_ NB324_0; obtain ⟨hcz62_0, hcz62_1, hcz62_2, hcz62_3, hfz62_0, hfz62_1, hfz62_2, hfz62_3⟩ := b4_ BK324; obtain ⟨hnb63, hnc63⟩ := ns_ NB317_0; obtain ⟨hcz64_0, hcz64_1, hcz64_2, hcz64_3, hfz64_0, hfz64_1, hfz64_2, hfz64_3⟩ := b4_ BK317))
   refine bodyPost_ret (results_cell_row rfl _ _ gb317 35 #[.int .i64 (wrap64 (1 + t318)), .string t321, .string (⟨#[120]⟩ : ByteArray), .string x325003_3] (0, 0) _ rfl bu_ Try.underlying35 rfl (by kernel_rfl)) rfl ?_
   exact ⟨er_, IsS119.ii_ HI0, bwi_ HB (IsS119.ge HI0.out), kb_ HK⟩

/-! ### spec_l01Once: function 91 -/
def spec_l01Once.f (s0_0 : List Int) (s0_1 : Int) (s0_2 : Int) (a1 : Int) : Option (Bool × Int × Int) := (spec_l01Below.f s0_0 s0_1 s0_2 a1).bind fun bt349 => (some ((bt349.1 == 0), bt349.2.1, bt349.2.2))
set_option maxHeartbeats 8000000 in
set_option maxRecDepth 100000 in
theorem spec_l01Once.calls (g : Nat) (s0_0 : List Int) (s0_1 : Int) (s0_2 : Int) (a1 : Int) (r1 : Bool) (r2 : Int) (r3 : Int) (w0 w : World) (hI : IsS119 w0 w g s0_0 s0_1 s0_2) (hB : Below w0.heap.size w0 w) (h : spec_l01Once.f s0_0 s0_1 s0_2 a1 = some (r1, r2, r3)) :
  Calls Try.prog 91 #[.pointer (some ⟨g, 0, none⟩), .int .i64 a1] w fun e w' => e = .returned (.bool r1) ∧ IsS119 w0 w' g s0_0 r2 r3 ∧ Below w0.heap.size w0 w' ∧ KeepBut w w' g none := by
 have HI0 := Aside0.mk hI
 have HK := mk_ (KeepBut.refl w g none)
 have HL := Aside0.mk hB.size
 clear hI
 have HW0 := Aside0.mk hB.size
 have HB := Aside0.mk hB
 clear hB
 have H : ((spec_l01Below.f s0_0 s0_1 s0_2 a1).bind fun bt349 => (some ((bt349.1 == 0), bt349.2.1, bt349.2.2))) = some (r1, r2, r3) := h
 clear h
 replace H := Option.bind_eq_some_iff.mp H
 obtain ⟨⟨t349, t350, t351⟩, A30, H⟩ := H
 try dsimp only at H
 have A3 := Aside0.mk A30
 clear A30
 simp only [Option.some.injEq, Prod.mk.injEq] at H
 obtain ⟨rfl, rfl, rfl⟩ := H
 go_enter Try.func91, Try.ntmps91
 go_wp2_with (first | ((with_reducible refine gate_callee (f := 83) rfl ?_); refine gl_ 7 Try.func83 #[.pointer (some ⟨g, 0, none⟩), .int .i64 a1] ?_; (with_reducible refine (spec_l01Below.calls g s0_0 s0_1 s0_2 a1 t349 t350 t351 w0 _ ?side1 ?side2 A3.out).mono ?_); (case side1 => exact IsS119.ii_ HI0); (case side2 => exact bwi_ HB (IsS119.ge HI0.out)); rintro e w4 ⟨rfl, hi, hb, hk⟩; refine ⟨_, rfl, ?_⟩; replace HK := mk_ (KeepBut.trans (kb_ HK) hk (.inl rfl)); replace HB := mk_ (hb); replace HI0 := mk_ (hi); (try clear hb); (try clear hk); (try clear hi)))
 go_ret
 exact ⟨er_, IsS119.ii_ HI0, bwi_ HB (IsS119.ge HI0.out), kb_ HK⟩

/-! ### spec_l03Acts: function 56 -/
def spec_l03Acts.l0 : Nat → List (S35) → Int → List Int → Int → Int → List (S76) → Option ((List (S35)) × Int × Int)
 | 0, _, _, _, _, _, _ => none
 | k + 1, x5, x6, x1000, x1001, x1002, x353000 => (spec_l01Below.f x1000 x1001 x1002 9).bind fun bt356 => (if x6 < bt356.1 then ((spec_l03Act.f k x1000 bt356.2.1 bt356.2.2).bind fun bt359 => ((spec_DoAct.f k x353000 bt359.1 bt359.2.1 bt359.2.2.1 bt359.2.2.2.1).bind fun bt366 => (if bt366.2 = true then (if x5.length < 2513169434916 then (spec_l03Acts.l0 k (x5 ++ [(⟨bt359.1, bt359.2.1, bt359.2.2.1, bt359.2.2.2.1⟩ : S35)]) (wrap64 (x6 + 1)) x1000 bt359.2.2.2.2.1 bt359.2.2.2.2.2 bt366.1) else (none)) else ((spec_l01Once.f x1000 bt359.2.2.2.2.1 bt359.2.2.2.2.2 20).bind fun bt374 => (if bt374.1 = true then (if x5.length < 2513169434916 then (spec_l03Acts.l0 k (x5 ++ [(⟨bt359.1, bt359.2.1, bt359.2.2.1, bt359.2.2.2.1⟩ : S35)]) (wrap64 (x6 + 1)) x1000 bt374.2.1 bt374.2.2 bt366.1) else (none)) else (spec_l03Acts.l0 k x5 (wrap64 (x6 + 1)) x1000 bt374.2.1 bt374.2.2 x353000)))))) else (some (x5, bt356.2.1, bt356.2.2)))
def spec_l03Acts.f (k : Nat) (s0_0 : List Int) (s0_1 : Int) (s0_2 : Int) (l1_0 : List (S76)) : Option ((List (S35)) × Int × Int) := spec_l03Acts.l0 k (([] : List (S35))) 0 s0_0 s0_1 s0_2 l1_0
theorem spec_l03Acts.mono_l : ∀ k, (∀ y0 y1 y2 y3 y4 y5, LeO (spec_l03Acts.l0 k y0 y1 y2 y3 y4 y5) (spec_l03Acts.l0 (k + 1) y0 y1 y2 y3 y4 y5))
 | 0 => fun _ _ _ _ _ _ r h => by simp [spec_l03Acts.l0] at h
 | k + 1 => by
  have ih0 := spec_l03Acts.mono_l k
  ·intro y0 y1 y2 y3 y4 y5
   unfold spec_l03Acts.l0
   repeat' first
   | (with_reducible exact ih0 _ _ _ _ _ _)
   | (with_reducible exact spec_DoAct.mono _ _ _ _ _ _)
   | (with_reducible exact spec_l03Act.mono _ _ _ _)
   | (with_reducible exact LeO.refl _)
   | (with_reducible refine LeO.ite ?_ ?_)
   | (with_reducible refine LeO.bind ?_ (fun _ => ?_))
theorem spec_l03Acts.mono : ∀ a0 a1 a2 a3 k, LeO (spec_l03Acts.f k a0 a1 a2 a3) (spec_l03Acts.f (k + 1) a0 a1 a2 a3) := by
 intro a0 a1 a2 a3 k
 have ih0 := spec_l03Acts.mono_l k
 unfold spec_l03Acts.f
 repeat' first
   | (with_reducible exact ih0 _ _ _ _ _ _)
set_option maxHeartbeats 8000000 in
set_option maxRecDepth 100000 in
theorem spec_l03Acts.calls (k : Nat) (g : Nat) (s0_0 : List Int) (s0_1 : Int) (s0_2 : Int) (P1_0_ : Nat → Prop) (A1_0 : Option Addr) (c1_0 : Nat) (l1_0 : List (S76)) (r1 : List (S35)) (r2 : Int) (r3 : Int) (w0 w : World) (hI : IsS119 w0 w g s0_0 s0_1 s0_2) (hB : Below w0.heap.size w0 w) (hs1_0 : Kd.V k76 76 w w.heap.size (fun k_ => P1_0_ k_ ∧ k_ ≠ g) (.slice A1_0 l1_0.length c1_0) l1_0) (h : spec_l03Acts.f k s0_0 s0_1 s0_2 l1_0 = some (r1, r2, r3)) :
  Calls Try.prog 56 #[.pointer (some ⟨g, 0, none⟩), .agg #[.slice A1_0 l1_0.length c1_0]] w fun e w' => ∃ v0_ : Value, e = .returned (v0_) ∧ Kd.R k35 35 w' w.heap.size (fun k_ => (w.heap.size ≤ k_)) v0_ r1 ∧ IsS119 w0 w' g s0_0 r2 r3 ∧ Below w0.heap.size w0 w' ∧ KeepBut w w' g none := by
 have hu31 := Try.underlying31
 have hu35 := Try.underlying35
 have HO1_0 := mk_ (show Kd.V k76 76 w w.heap.size (fun k_ => (P1_0_ k_ ∨ w.heap.size ≤ k_) ∧ k_ ≠ g) (.slice A1_0 l1_0.length c1_0) l1_0 from Kd.V_mono hs1_0 (fun k_ hk => ⟨.inl hk.1, hk.2⟩))
 have HI0 := Aside0.mk hI
 have HK := mk_ (KeepBut.refl w g none)
 have HL := Aside0.mk hB.size
 clear hI
 have HW0 := Aside0.mk hB.size
 have HB := Aside0.mk hB
 clear hB
 have H : (spec_l03Acts.l0 k (([] : List (S35))) 0 s0_0 s0_1 s0_2 l1_0) = some (r1, r2, r3) := h
 clear h
 obtain ⟨y353, hy353⟩ : ∃ y_ : List (S35), y_ = (([] : List (S35))) := ⟨_, rfl⟩
 replace H : (spec_l03Acts.l0 k y353 0 s0_0 s0_1 s0_2 l1_0) = some (r1, r2, r3) := by first | (rw [hy353]; with_reducible exact H) | (have H2_ := (Option.bind_some _ _).symm.trans H; rw [hy353]; with_reducible exact H2_) | (have H2_ := (Option.bind_some _ _).symm.trans H; with_reducible exact H2_) | with_reducible exact H | (rw [hy353]; exact H) | exact H
 have Ny353 := Aside0.mk hy353
 clear hy353
 have H' := Aside0.mk H
 clear H
 go_enter Try.func56, Try.ntmps56
 go_wp2_with (first | ((with_reducible refine gate_dst (N := 3) rfl ?_); refine bx_ (N := 3) (cs := #[.slice A1_0 l1_0.length c1_0]) (t := 31) ?_; intro gb352 hg w3 hbox hb; have n0_ := mk_ (Kd.V_below (Kd.V_elderB (vq_ HO1_0.out) gb352 (Nat.le_of_eq hg.symm)) hb); have n1_ := mk_ (IsS119.below (IsS119.ii_ HI0) hb); have n2_ := mk_ (KeepBut.trans (kb_ HK) (KeepBut.of_below hb g none) (.inl rfl)); have n3_ := mk_ (below_step (bwi_ HB (IsS119.ge HI0.out)) hb); have n4_ := mk_ (hbox); have n5_ := mk_ ((by rw [hg]; exact (keep_size (w := w) (g := g) (row := none) (kb_ HK)) : w.heap.size ≤ gb352)); have n6_ := mk_ ((Nat.le_trans HW0.out (by rw [hg]; exact (keep_size (w := w) (g := g) (row := none) (kb_ HK)) : w.heap.size ≤ gb352) : w0.heap.size ≤ gb352)); have n7_ := mk_ ((by rw [hg]; exact Nat.ne_of_lt (IsS119.lt (show IsS119 w0 _ g s0_0 s0_1 s0_2 from IsS119.ii_ HI0)) : g ≠ gb352)); have n8_ := mk_ ((by rw [hg]; exact Nat.ne_of_gt (IsS119.lt (show IsS119 w0 _ g s0_0 s0_1 s0_2 from IsS119.ii_ HI0)) : gb352 ≠ g)); clear HO1_0; clear HI0; clear HK; clear HB; have HO1_0 := n0_; have HI0 := n1_; have HK := n2_; have HB := n3_; have BK352 := n4_; have GW352 := n5_; have GE352 := n6_; have NB0_352 := n7_; have NB352_0 := n8_; clear n0_ n1_ n2_ n3_ n4_ n5_ n6_ n7_ n8_; clear hb hbox hg) | ((with_reducible refine gate_dst (N := 10) rfl ?_); refine Kd.R_lit k35 _ 35 ?hg (N := 10) ?hd (xs := ([] : List (S35))) (inner := []) (ok := fun _ => True) (okp := fun _ => True) ?hr ?hp (fun _ hk => hk) trivial (Below.refl _ _) (Nat.le_refl _) (by simp) ?_; (case hd => rfl); (case hg => rfl); (case hr => first | (go_simp; done) | (go_simp; rfl)); (case hp => exact (Reps.none _ _)); intro v354 w4 ho5 hb hg_ hnew_; clear hg_ hnew_; (first | rw [← Ny353.out] at ho5 | (simp only [Int.reduceToNat] at ho5; rw [← Ny353.out] at ho5)); have n0_ := mk_ (Kd.V_elder' (vq_ HO1_0.out) (Kd.R_base ho5) hb); have n1_ := mk_ (Kd.R_lower (Kd.R_newM (M := fun k_ => (w.heap.size ≤ k_)) ho5 (keep_size (w := w) (g := g) (row := none) (kb_ HK)) (fun k_ h_ => h_)) (keep_size (w := w) (g := g) (row := none) (kb_ HK))); have n2_ := mk_ (IsS119.below (IsS119.ii_ HI0) hb); have n4_ := mk_ (KeepBut.trans (kb_ HK) (KeepBut.of_below hb g none) (.inl rfl)); have n5_ := mk_ (below_step (bwi_ HB (IsS119.ge HI0.out)) hb); clear HO1_0; clear HI0; clear HK; clear HB; have HO1_0 := n0_; have HO355 := n1_; have HI0 := n2_; have HK := n4_; have HB := n5_; clear n0_ n1_ n2_ n4_ n5_; replace BK352 := bb_ BK352 hb; clear hb ho5))
 go_loopg [5, 6] k (fun kq v5 v6 w' => ∃ (x5_1 : List (S35)) (x6_1 : Int) (x1001_1 : Int) (x1002_1 : Int) (x353000_1 : List (S76)) (u353000 : Value), v6 = .int .i64 x6_1 ∧ Aside0 (spec_l03Acts.l0 kq x5_1 x6_1 s0_0 x1001_1 x1002_1 x353000_1 = some (r1, r2, r3)) ∧ Aside0 (kq ≤ k) ∧ Aside0 (Kd.R k35 35 w' w.heap.size (fun k_ => (w.heap.size ≤ k_)) v5 x5_1) ∧ Aside0 (Kd.V k76 76 w' w.heap.size (fun k_ => (P1_0_ k_ ∨ w.heap.size ≤ k_) ∧ some k_ ≠ (v5 : Value).ownBlock ∧ k_ ≠ gb352 ∧ k_ ≠ g) u353000 x353000_1) ∧ Aside0 (w'.heap[gb352]? = some (.cells #[u353000] 31 (0, 0))) ∧ Aside0 (IsS119 w0 w' g s0_0 x1001_1 x1002_1) ∧ Aside0 (KeepBut w w' g none) ∧ Aside0 (Below w0.heap.size w0 w'))
 case atStart => exact ⟨(y353), (0), (s0_1), (s0_2), (l1_0), (.slice A1_0 l1_0.length c1_0), (by first | rfl | (simp; done) | (simp [*]; done) | (simp [bne]; done)), H', ⟨Nat.le_refl _⟩, ⟨rq_ (Kd.R_mono HO355.out (fun _ hk => hk.1))⟩, ⟨vq_ (Kd.V_mono HO1_0.out (fun _ hk => ⟨hk.1.1.1, ⟨hk.2, ⟨hk.1.2, hk.1.1.2⟩⟩⟩))⟩, ⟨bf_⟩, ⟨IsS119.ii_ HI0⟩, ⟨kb_ HK⟩, ⟨bwi_ HB (IsS119.ge HI0.out)⟩⟩
 case round =>
  clear H'
  (try clear c1); (try clear p2); (try clear c5)
  obtain ⟨x5_1, x6_1, x1001_1, x1002_1, x353000_1, u353000, rfl, HA, HK1, HO_5, HO_353000, BK352, HI0, HK, HB⟩ := hrel
  cases gk with
  | zero => exact absurd HA.out (by simp [spec_l03Acts.l0])
  | succ k1 =>
   have H := HA.out
   clear HA
   simp only [spec_l03Acts.l0] at H
   replace H := Option.bind_eq_some_iff.mp H
   obtain ⟨⟨t356, t357, t358⟩, A60, H⟩ := H
   try dsimp only at H
   have A6 := Aside0.mk A60
   clear A60
   by_cases c7 : x6_1 < t356
   rotate_left
   ·rw [if_neg c7] at H
    have c7b0 : decide (x6_1 < t356) = false := decide_eq_false c7
    clear c7
    simp only [Option.some.injEq, Prod.mk.injEq] at H
    obtain ⟨rfl, rfl, rfl⟩ := H
    go_wp2_with (first | ((with_reducible refine gate_callee (f := 83) rfl ?_); refine gl_ 13 Try.func83 #[.pointer (some ⟨g, 0, none⟩), .int .i64 9] ?_; (with_reducible refine (spec_l01Below.calls g s0_0 x1001_1 x1002_1 9 t356 t357 t358 w0 _ ?side1 ?side2 A6.out).mono ?_); (case side1 => exact IsS119.ii_ HI0); (case side2 => exact bwi_ HB (IsS119.ge HI0.out)); rintro e w73 ⟨rfl, hi, hb, hk⟩; refine ⟨_, rfl, ?_⟩; replace HO_5 := mk_ (Kd.R_mono (Kd.R_keep (IsS119.apart (show IsS119 w0 _ g s0_0 x1001_1 x1002_1 from IsS119.ii_ HI0) (rp_ HO_5) (by decide)) hk (fun _ h => h.2)) (fun _ h => h.1)); replace HO_353000 := mk_ (Kd.V_mono (Kd.V_keep (Kd.V_mono (ok := fun k_ => (((P1_0_ k_ ∨ w.heap.size ≤ k_)) ∧ (some k_ ≠ (u5 : Value).ownBlock ∧ (k_ ≠ gb352 ∧ k_ ≠ g)))) (vq_ HO_353000.out) (fun k_ hk_ => (⟨hk_, hk_.2.2.2⟩ : _ ∧ k_ ≠ g))) hk (fun _ h => h.2)) (fun _ h => h.1)); replace BK352 := kz_ BK352 hk NB352_0; replace HK := mk_ (KeepBut.trans (kb_ HK) hk (.inl rfl)); replace HB := mk_ (hb); replace HI0 := mk_ (hi); (try clear hb); (try clear hk); (try clear hi)))
    go_ret
    exact ⟨_, er_, rq_ HO_5.out, IsS119.ii_ HI0, bwi_ HB (IsS119.ge HI0.out), kb_ HK⟩
   rw [if_pos c7] at H
   have c7b0 : decide (x6_1 < t356) = true := decide_eq_true c7
   clear c7
   replace H := Option.bind_eq_some_iff.mp H
   obtain ⟨⟨t359, t360, t361, t362, t363, t364⟩, A80, H⟩ := H
   try dsimp only at H
   have A8 := Aside0.mk A80
   clear A80
   replace H := Option.bind_eq_some_iff.mp H
   obtain ⟨⟨t366, t369⟩, A90, H⟩ := H
   try dsimp only at H
   have A9 := Aside0.mk A90
   clear A90
   by_cases c10 : t369 = true
   ·subst c10
    rw [if_pos rfl] at H
    by_cases c11 : x5_1.length < 2513169434916
    rotate_left
    ·rw [if_neg c11] at H
     exact absurd H (by simp)
    rw [if_pos c11] at H
    have LMc11 := Aside0.mk c11
    clear c11
    obtain ⟨y371, hy371⟩ : ∃ y_ : List (S35), y_ = (x5_1 ++ [(⟨t359, t360, t361, t362⟩ : S35)]) := ⟨_, rfl⟩
    replace H : (spec_l03Acts.l0 k1 y371 (wrap64 (x6_1 + 1)) s0_0 t363 t364 t366) = some (r1, r2, r3) := by first | (rw [hy371]; with_reducible exact H) | (have H2_ := (Option.bind_some _ _).symm.trans H; rw [hy371]; with_reducible exact H2_) | (have H2_ := (Option.bind_some _ _).symm.trans H; with_reducible exact H2_) | with_reducible exact H | (rw [hy371]; exact H) | exact H
    have Ny371 := Aside0.mk hy371
    clear hy371
    have H' := Aside0.mk H
    clear H
    go_wp2_with (first | ((with_reducible refine gate_callee (f := 83) rfl ?_); refine gl_ 13 Try.func83 #[.pointer (some ⟨g, 0, none⟩), .int .i64 9] ?_; (with_reducible refine (spec_l01Below.calls g s0_0 x1001_1 x1002_1 9 t356 t357 t358 w0 _ ?side1 ?side2 A6.out).mono ?_); (case side1 => exact IsS119.ii_ HI0); (case side2 => exact bwi_ HB (IsS119.ge HI0.out)); rintro e w12 ⟨rfl, hi, hb, hk⟩; refine ⟨_, rfl, ?_⟩; replace HO_5 := mk_ (Kd.R_mono (Kd.R_keep (IsS119.apart (show IsS119 w0 _ g s0_0 x1001_1 x1002_1 from IsS119.ii_ HI0) (rp_ HO_5) (by decide)) hk (fun _ h => h.2)) (fun _ h => h.1)); replace HO_353000 := mk_ (Kd.V_mono (Kd.V_keep (Kd.V_mono (ok := fun k_ => (((P1_0_ k_ ∨ w.heap.size ≤ k_)) ∧ (some k_ ≠ (u5 : Value).ownBlock ∧ (k_ ≠ gb352 ∧ k_ ≠ g)))) (vq_ HO_353000.out) (fun k_ hk_ => (⟨hk_, hk_.2.2.2⟩ : _ ∧ k_ ≠ g))) hk (fun _ h => h.2)) (fun _ h => h.1)); replace BK352 := kz_ BK352 hk NB352_0; replace HK := mk_ (KeepBut.trans (kb_ HK) hk (.inl rfl)); replace HB := mk_ (hb); replace HI0 := mk_ (hi); (try clear hb); (try clear hk); (try clear hi)) | ((with_reducible refine gate_callee (f := 90) rfl ?_); refine gl_ 18 Try.func90 #[.pointer (some ⟨g, 0, none⟩)] ?_; (with_reducible refine (spec_l03Act.calls k1 g s0_0 t357 t358 t359 t360 t361 t362 t363 t364 w0 _ ?side1 ?side2 A8.out).mono ?_); (case side1 => exact IsS119.ii_ HI0); (case side2 => exact bwi_ HB (IsS119.ge HI0.out)); rintro e w13 ⟨rfl, hi, hb, hk⟩; refine ⟨_, rfl, ?_⟩; replace HO_5 := mk_ (Kd.R_mono (Kd.R_keep (IsS119.apart (show IsS119 w0 _ g s0_0 t357 t358 from IsS119.ii_ HI0) (rp_ HO_5) (by decide)) hk (fun _ h => h.2)) (fun _ h => h.1)); replace HO_353000 := mk_ (Kd.V_mono (Kd.V_keep (Kd.V_mono (ok := fun k_ => (((P1_0_ k_ ∨ w.heap.size ≤ k_)) ∧ (some k_ ≠ (u5 : Value).ownBlock ∧ (k_ ≠ gb352 ∧ k_ ≠ g)))) (vq_ HO_353000.out) (fun k_ hk_ => (⟨hk_, hk_.2.2.2⟩ : _ ∧ k_ ≠ g))) hk (fun _ h => h.2)) (fun _ h => h.1)); replace BK352 := kz_ BK352 hk NB352_0; replace HK := mk_ (KeepBut.trans (kb_ HK) hk (.inl rfl)); replace HB := mk_ (hb); replace HI0 := mk_ (hi); (try clear hb); (try clear hk); (try clear hi)) | ((with_reducible refine gate_dst (N := 7) rfl ?_); refine bx_ (N := 7) (cs := #[.int .i64 0, .string (⟨#[]⟩ : ByteArray), .string (⟨#[]⟩ : ByteArray), .string (⟨#[]⟩ : ByteArray)]) (t := 35) ?_; intro gb365 hg w14 hbox hb; have n0_ := mk_ (Kd.R_below (Kd.R_elderB (rp_ HO_5) gb365 (Nat.le_of_eq hg.symm)) hb); have n1_ := mk_ (Kd.V_below (Kd.V_elderB (vq_ HO_353000.out) gb365 (Nat.le_of_eq hg.symm)) hb); have n3_ := mk_ (IsS119.below (IsS119.ii_ HI0) hb); have n4_ := mk_ (KeepBut.trans (kb_ HK) (KeepBut.of_below hb g none) (.inl rfl)); have n5_ := mk_ (below_step (bwi_ HB (IsS119.ge HI0.out)) hb); have n6_ := mk_ (hbox); have n7_ := mk_ ((by rw [hg]; exact (keep_size (w := w) (g := g) (row := none) (kb_ HK)) : w.heap.size ≤ gb365)); have n8_ := mk_ ((Nat.le_trans HW0.out (by rw [hg]; exact (keep_size (w := w) (g := g) (row := none) (kb_ HK)) : w.heap.size ≤ gb365) : w0.heap.size ≤ gb365)); have n9_ : Aside0 (gb352 ≠ gb365) := bl_ BK352 hg; have n10_ : Aside0 (gb365 ≠ gb352) := bg_ BK352 hg; have n11_ := mk_ ((by rw [hg]; exact Nat.ne_of_lt (IsS119.lt (show IsS119 w0 _ g s0_0 t363 t364 from IsS119.ii_ HI0)) : g ≠ gb365)); have n12_ := mk_ ((by rw [hg]; exact Nat.ne_of_gt (IsS119.lt (show IsS119 w0 _ g s0_0 t363 t364 from IsS119.ii_ HI0)) : gb365 ≠ g)); clear HO_5; clear HO_353000; clear HI0; clear HK; clear HB; have HO_5 := n0_; have HO_353000 := n1_; have HI0 := n3_; have HK := n4_; have HB := n5_; have BK365 := n6_; have GW365 := n7_; have GE365 := n8_; have NB352_365 := n9_; have NB365_352 := n10_; have NB0_365 := n11_; have NB365_0 := n12_; clear n0_ n1_ n3_ n4_ n5_ n6_ n7_ n8_ n9_ n10_ n11_ n12_; replace BK352 := bb_ BK352 hb; clear hb hbox hg; obtain ⟨hnb15, hnc15⟩ := ns_ NB365_352; obtain ⟨hnb16, hnc16⟩ := ns_ NB365_0; obtain ⟨hcz17_0, hcz17_1, hcz17_2, hcz17_3, hfz17_0, hfz17_1, hfz17_2, hfz17_3⟩ := b4_ BK365; obtain ⟨hnb18, hnc18⟩ := ns_ NB352_0; obtain ⟨hcz19_0, hfz19_0⟩ := b1_ BK352; obtain ⟨Ao20, co20, eo20⟩ := Kd.V_slice HO_353000.out; subst eo20) | ((with_reducible refine gate_callee (f := 10) rfl ?_); refine gl_ 22 Try.func10 #[.agg #[.slice Ao20 x353000_1.length co20], .agg #[.int .i64 t359, .string t360, .string t361, .string t362]] ?_; (with_reducible refine (spec_DoAct.calls k1 _ _ x353000_1 t359 t360 t361 t362 t366 true _ ?side1 ?side2 A9.out).mono ?_); (case side1 => refine (Kd.V_reads' (e := 76) (base := w.heap.size) (ok := fun k_ => (((P1_0_ k_ ∨ w.heap.size ≤ k_) ∧ (some k_ ≠ (u5 : Value).ownBlock ∧ (k_ ≠ gb352 ∧ k_ ≠ g))) ∧ k_ ≠ gb365)) (n := x353000_1.length) (c := co20) ?_).2.2; exact (vq_ (Kd.V_mono (Kd.V_far (p := ⟨gb365, 3, none⟩) (Kd.V_far (p := ⟨gb365, 2, none⟩) (Kd.V_far (p := ⟨gb365, 1, none⟩) (Kd.V_far (p := ⟨gb365, 0, none⟩) (Kd.V_mono HO_353000.out (fun k_ hk => (⟨hk, hk.2⟩ : _ ∧ k_ ≠ gb365))) (fun _ hk => hk.2) (.int .i64 t359)) (fun _ hk => hk.2) (.string t360)) (fun _ hk => hk.2) (.string t361)) (fun _ hk => hk.2) (.string t362)) (fun _ h_ => h_.1)))); (case side2 => exact (Kd.V_reads' HO_353000.out).2.1); rintro e w21 ⟨v367, rfl, ho0, hb⟩; refine ⟨_, rfl, ?_⟩; have n0_ := mk_ (Kd.R_below (rq_ (Kd.R_mono (Kd.R_far (p := ⟨gb365, 3, none⟩) (Kd.R_far (p := ⟨gb365, 2, none⟩) (Kd.R_far (p := ⟨gb365, 1, none⟩) (Kd.R_far (p := ⟨gb365, 0, none⟩) (Kd.R_mono HO_5.out (fun k_ hk => (⟨hk, hk.2⟩ : _ ∧ k_ ≠ gb365))) (fun _ hk => hk.2) (.int .i64 t359)) (fun _ hk => hk.2) (.string t360)) (fun _ hk => hk.2) (.string t361)) (fun _ hk => hk.2) (.string t362)) (fun _ h_ => h_.1))) hb); have n1_ := mk_ (Kd.V_elder' (vq_ (Kd.V_mono (Kd.V_far (p := ⟨gb365, 3, none⟩) (Kd.V_far (p := ⟨gb365, 2, none⟩) (Kd.V_far (p := ⟨gb365, 1, none⟩) (Kd.V_far (p := ⟨gb365, 0, none⟩) (Kd.V_mono HO_353000.out (fun k_ hk => (⟨hk, hk.2⟩ : _ ∧ k_ ≠ gb365))) (fun _ hk => hk.2) (.int .i64 t359)) (fun _ hk => hk.2) (.string t360)) (fun _ hk => hk.2) (.string t361)) (fun _ hk => hk.2) (.string t362)) (fun _ h_ => h_.1))) (Kd.R_base ho0) hb); have n2_ := mk_ (Kd.R_lower (Kd.R_newM (M := fun k_ => (w.heap.size ≤ k_)) ho0 (keep_size (w := w) (g := g) (row := none) (kb_ HK)) (fun k_ h_ => h_)) (keep_size (w := w) (g := g) (row := none) (kb_ HK))); have n3_ := mk_ (blk_below (g := gb352) (o := .cells #[.slice Ao20 x353000_1.length co20] 31 (0, 0)) bf_ hb); have n4_ := mk_ (IsS119.below (show IsS119 w0 ((((w14.setCell ⟨gb365, 0, none⟩ (.int .i64 t359)).setCell ⟨gb365, 1, none⟩ (.string t360)).setCell ⟨gb365, 2, none⟩ (.string t361)).setCell ⟨gb365, 3, none⟩ (.string t362)) g s0_0 t363 t364 from IsS119.ii_ HI0) hb); have n5_ := mk_ (blk_below (g := gb365) (o := .cells #[.int .i64 t359, .string t360, .string t361, .string t362] 35 (0, 0)) bu_ hb); have n6_ := mk_ (KeepBut.trans (kb_ HK) (KeepBut.of_below hb g none) (.inl rfl)); have n7_ := mk_ (below_step (bwi_ HB (IsS119.ge HI0.out)) hb); clear HO_5; clear HO_353000; clear BK352; clear HI0; clear BK365; clear HK; clear HB; have HO_5 := n0_; have HO_353000 := n1_; have HO368 := n2_; have BK352 := n3_; have HI0 := n4_; have BK365 := n5_; have HK := n6_; have HB := n7_; clear n0_ n1_ n2_ n3_ n4_ n5_ n6_ n7_; (try clear hb); (try clear hk); (try clear hi); (try clear ho0)) | ((with_reducible refine gate_dst (N := 8) rfl ?_); refine bx_ (N := 8) (cs := #[.slice none 0 0]) (t := 31) ?_; intro gb370 hg w22 hbox hb; have n1_ := mk_ (Kd.V_below (Kd.V_elderB (vq_ HO_353000.out) gb370 (Nat.le_of_eq hg.symm)) hb); have n4_ := mk_ (IsS119.below (IsS119.ii_ HI0) hb); have n6_ := mk_ (KeepBut.trans (kb_ HK) (KeepBut.of_below hb g none) (.inl rfl)); have n7_ := mk_ (below_step (bwi_ HB (IsS119.ge HI0.out)) hb); have n8_ := mk_ (hbox); have n9_ := mk_ ((by rw [hg]; exact (keep_size (w := w) (g := g) (row := none) (kb_ HK)) : w.heap.size ≤ gb370)); have n10_ := mk_ ((Nat.le_trans HW0.out (by rw [hg]; exact (keep_size (w := w) (g := g) (row := none) (kb_ HK)) : w.heap.size ≤ gb370) : w0.heap.size ≤ gb370)); have n11_ : Aside0 (gb352 ≠ gb370) := bl_ BK352 hg; have n12_ : Aside0 (gb370 ≠ gb352) := bg_ BK352 hg; have n13_ : Aside0 (gb365 ≠ gb370) := bl_ BK365 hg; have n14_ : Aside0 (gb370 ≠ gb365) := bg_ BK365 hg; have n15_ := mk_ ((by rw [hg]; exact Nat.ne_of_lt (IsS119.lt (show IsS119 w0 _ g s0_0 t363 t364 from IsS119.ii_ HI0)) : g ≠ gb370)); have n16_ := mk_ ((by rw [hg]; exact Nat.ne_of_gt (IsS119.lt (show IsS119 w0 _ g s0_0 t363 t364 from IsS119.ii_ HI0)) : gb370 ≠ g)); clear HO_353000; clear HI0; clear HK; clear HB; have HO_353000 := n1_; have HI0 := n4_; have HK := n6_; have HB := n7_; have BK370 := n8_; have GW370 := n9_; have GE370 := n10_; have NB352_370 := n11_; have NB370_352 := n12_; have NB365_370 := n13_; have NB370_365 := n14_; have NB0_370 := n15_; have NB370_0 := n16_; clear n1_ n4_ n6_ n7_ n8_ n9_ n10_ n11_ n12_ n13_ n14_ n15_ n16_; replace HO_5 := rb_ HO_5 hb; replace HO368 := rb_ HO368 hb; replace BK352 := bb_ BK352 hb; replace BK365 := bb_ BK365 hb; clear hb hbox hg; obtain ⟨Ao23, co23, eo23⟩ := Kd.R_slice HO368.out; subst eo23; obtain ⟨hnb24, hnc24⟩ := ns_ NB370_352; obtain ⟨hnb25, hnc25⟩ := ns_ NB370_365; obtain ⟨hnb26, hnc26⟩ := ns_ NB370_0; obtain ⟨hcz27_0, hfz27_0⟩ := b1_ BK370; obtain ⟨hcz28_0, hcz28_1, hcz28_2, hcz28_3, hfz28_0, hfz28_1, hfz28_2, hfz28_3⟩ := b4_ BK365) | ((with_reducible refine gate_builtin (b := .append) (xs := #[.tmp 30, .tmp 32]) rfl ?_); at_builtin; refine Kd.R_append k35 w.heap.size rfl (.tmp 30) (.tmp 32) 44 35 (.agg #[(.int .i64 0), (.string ⟨#[]⟩), (.string ⟨#[]⟩), (.string ⟨#[]⟩)]) 56 rfl Try.underlying44 info35 rfl (by decide) (by omega) u5 x5_1 (⟨t359, t360, t361, t362⟩ : S35) [.int .i64 t359, .string t360, .string t361, .string t362] (fun k_ => (w.heap.size ≤ k_) ∧ k_ ≠ gb365) (fun _ => False) rfl (by first | (go_simp; done) | (go_simp; rfl)) ?aP (fun _ hk => hk.elim) ?aF ?aO (Below.refl _ _) ?aS ?aL ?_; (case aP => exact k35_mkM _ _ _ (⟨t359, t360, t361, t362⟩ : S35)); (case aF => exact (fun k_ hk => ⟨(Nat.le_trans (keep_size (w := w) (g := g) (row := none) (kb_ HK)) hk), Kd.freshB (g := gb365) (o := .cells #[.int .i64 t359, .string t360, .string t361, .string t362] 35 (0, 0)) bf_ k_ hk⟩)); (case aO => exact (rq_ (Kd.R_mono (Kd.R_far (p := ⟨gb370, 0, none⟩) (Kd.R_types HO_5.out BK370.out (by decide)) (fun _ hk => hk.2) (.slice Ao23 t366.length co23)) (fun _ hk => ⟨hk.1.1, hk.1.2⟩)))); (case aS => exact (keep_size (w := w) (g := g) (row := none) (kb_ HK))); (case aL => have := LMc11.out; omega); intro v372 w29 ho hb hg hat; rw [← Ny371.out] at ho; have n0_ := mk_ (Kd.V_afterv (ok := (fun k_ => (P1_0_ k_ ∨ w.heap.size ≤ k_) ∧ some k_ ≠ (.slice Ao23 t366.length co23 : Value).ownBlock ∧ k_ ≠ gb352 ∧ k_ ≠ g ∧ k_ ≠ gb365 ∧ k_ ≠ gb370)) (vq_ (Kd.V_mono (Kd.V_far (p := ⟨gb370, 0, none⟩) (Kd.V_mono HO_353000.out (fun k_ hk => (⟨hk, hk.2⟩ : _ ∧ k_ ≠ gb370))) (fun _ hk => hk.2) (.slice Ao23 t366.length co23)) (fun _ hk => ⟨⟨hk.1.1.1.1.1, ⟨hk.1.1.2, ⟨hk.1.1.1.1.2.2.1, ⟨hk.1.1.1.1.2.2.2, ⟨hk.1.1.1.2, hk.1.2⟩⟩⟩⟩⟩, hk.1.1.1.1.2.1⟩))) hg hat); have n1_ := mk_ (blk_grown (g := gb352) (o := .cells #[.slice Ao20 x353000_1.length co20] 31 (0, 0)) bf_ hg (Kd.R_ne HO_5.out BK352.out (by decide))); have n2_ := mk_ (IsS119.grown (f0 := s0_0) (f1 := t363) (f2 := t364) (IsS119.ii_ HI0) hg (IsS119.own_ne HI0.out HO_5.out (by decide))); have n3_ := mk_ (blk_grown (g := gb365) (o := .cells #[.int .i64 t359, .string t360, .string t361, .string t362] 35 (0, 0)) bf_ hg (Kd.R_away HO_5.out (fun _ hk => hk.2))); have n4_ := mk_ (Kd.R_over' (rq_ (rf_ HO368 BK370 0 (.slice Ao23 t366.length co23))) (Kd.R_typed (rq_ (rf_ HO_5 BK370 0 (.slice Ao23 t366.length co23)))) (by decide) hg); have n5_ := mk_ (blk_grown (g := gb370) (o := .cells #[.slice Ao23 t366.length co23] 31 (0, 0)) bu_ hg (Kd.R_ne HO_5.out BK370.out (by decide))); have n6_ := mk_ (below_weaken (bwi_ HB (IsS119.ge HI0.out)) HL.out hb); have n7_ := mk_ (KeepBut.trans (kb_ HK) (KeepBut.of_grown hg g) (Kd.R_base2 HO_5.out)); have n8_ := mk_ (ho); clear HO_353000; clear BK352; clear HI0; clear BK365; clear HO368; clear BK370; clear HB; clear HK; clear HO_5; have HO_353000 := n0_; have BK352 := n1_; have HI0 := n2_; have BK365 := n3_; have HO368 := n4_; have BK370 := n5_; have HB := n6_; have HK := n7_; have HO373 := n8_; clear n0_ n1_ n2_ n3_ n4_ n5_ n6_ n7_ n8_; clear ho hb hg hat; obtain ⟨hcz30_0, hfz30_0⟩ := b1_ BK370; obtain ⟨hcz31_0, hfz31_0⟩ := b1_ BK352))
    go_roundg k1
    case measure => have := HK1.out; omega
    case rel => exact ⟨(y371), (wrap64 (x6_1 + 1)), (t363), (t364), (t366), (.slice Ao23 t366.length co23), (by first | rfl | (simp; done) | (simp [*]; done) | (simp [bne]; done)), H', ⟨by have := HK1.out; omega⟩, ⟨rq_ (Kd.R_mono (Kd.R_far (p := ⟨gb352, 0, none⟩) (Kd.R_types HO373.out BK352.out (by decide)) (fun _ hk => hk.2) (.slice Ao23 t366.length co23)) (fun _ hk => hk.1.1))⟩, ⟨Kd.V_mono (Kd.R_V (rq_ (Kd.R_mono (ok' := fun k_ => w.heap.size ≤ k_ ∧ (some k_ ≠ Value.ownBlock _ ∧ (k_ ≠ gb352 ∧ k_ ≠ g))) (Kd.R_far (p := ⟨gb352, 0, none⟩) (Kd.R_types (IsS119.apart HI0.out (Kd.R_types (Kd.R_apart' HO368.out (Kd.R_typed HO373.out) (by decide)) BK352.out (by decide)) (by decide)) BK352.out (by decide)) (fun _ hk => hk.2) (.slice Ao23 t366.length co23)) (fun _ hk => ⟨hk.1.1.1.1.1, ⟨hk.1.1.1.2, ⟨hk.1.1.2, hk.1.2⟩⟩⟩)))) (fun k_ hk => by first | exact ⟨(.inr (hk.1)), hk.2⟩ | exact (.inr (hk)))⟩, ⟨bu_⟩, ⟨IsS119.ii_ HI0⟩, ⟨kb_ HK⟩, ⟨bwi_ HB (IsS119.ge HI0.out)⟩⟩
   replace c10 := Bool.eq_false_iff.mpr c10
   subst c10
   rw [if_neg (show ¬ (false = true) by decide)] at H
   replace H := Option.bind_eq_some_iff.mp H
   obtain ⟨⟨t374, t375, t376⟩, A320, H⟩ := H
   try dsimp only at H
   have A32 := Aside0.mk A320
   clear A320
   by_cases c33 : t374 = true
   rotate_left
   ·replace c33 := Bool.eq_false_iff.mpr c33
    subst c33
    rw [if_neg (show ¬ (false = true) by decide)] at H
    have H' := Aside0.mk H
    clear H
    go_wp2_with (first | ((with_reducible refine gate_callee (f := 83) rfl ?_); refine gl_ 13 Try.func83 #[.pointer (some ⟨g, 0, none⟩), .int .i64 9] ?_; (with_reducible refine (spec_l01Below.calls g s0_0 x1001_1 x1002_1 9 t356 t357 t358 w0 _ ?side1 ?side2 A6.out).mono ?_); (case side1 => exact IsS119.ii_ HI0); (case side2 => exact bwi_ HB (IsS119.ge HI0.out)); rintro e w56 ⟨rfl, hi, hb, hk⟩; refine ⟨_, rfl, ?_⟩; replace HO_5 := mk_ (Kd.R_mono (Kd.R_keep (IsS119.apart (show IsS119 w0 _ g s0_0 x1001_1 x1002_1 from IsS119.ii_ HI0) (rp_ HO_5) (by decide)) hk (fun _ h => h.2)) (fun _ h => h.1)); replace HO_353000 := mk_ (Kd.V_mono (Kd.V_keep (Kd.V_mono (ok := fun k_ => (((P1_0_ k_ ∨ w.heap.size ≤ k_)) ∧ (some k_ ≠ (u5 : Value).ownBlock ∧ (k_ ≠ gb352 ∧ k_ ≠ g)))) (vq_ HO_353000.out) (fun k_ hk_ => (⟨hk_, hk_.2.2.2⟩ : _ ∧ k_ ≠ g))) hk (fun _ h => h.2)) (fun _ h => h.1)); replace BK352 := kz_ BK352 hk NB352_0; replace HK := mk_ (KeepBut.trans (kb_ HK) hk (.inl rfl)); replace HB := mk_ (hb); replace HI0 := mk_ (hi); (try clear hb); (try clear hk); (try clear hi)) | ((with_reducible refine gate_callee (f := 90) rfl ?_); refine gl_ 18 Try.func90 #[.pointer (some ⟨g, 0, none⟩)] ?_; (with_reducible refine (spec_l03Act.calls k1 g s0_0 t357 t358 t359 t360 t361 t362 t363 t364 w0 _ ?side1 ?side2 A8.out).mono ?_); (case side1 => exact IsS119.ii_ HI0); (case side2 => exact bwi_ HB (IsS119.ge HI0.out)); rintro e w57 ⟨rfl, hi, hb, hk⟩; refine ⟨_, rfl, ?_⟩; replace HO_5 := mk_ (Kd.R_mono (Kd.R_keep (IsS119.apart (show IsS119 w0 _ g s0_0 t357 t358 from IsS119.ii_ HI0) (rp_ HO_5) (by decide)) hk (fun _ h => h.2)) (fun _ h => h.1)); replace HO_353000 := mk_ (Kd.V_mono (Kd.V_keep (Kd.V_mono (ok := fun k_ => (((P1_0_ k_ ∨ w.heap.size ≤ k_)) ∧ (some k_ ≠ (u5 : Value).ownBlock ∧ (k_ ≠ gb352 ∧ k_ ≠ g)))) (vq_ HO_353000.out) (fun k_ hk_ => (⟨hk_, hk_.2.2.2⟩ : _ ∧ k_ ≠ g))) hk (fun _ h => h.2)) (fun _ h => h.1)); replace BK352 := kz_ BK352 hk NB352_0; replace HK := mk_ (KeepBut.trans (kb_ HK) hk (.inl rfl)); replace HB := mk_ (hb); replace HI0 := mk_ (hi); (try clear hb); (try clear hk); (try clear hi)) | ((with_reducible refine gate_dst (N := 7) rfl ?_); refine bx_ (N := 7) (cs := #[.int .i64 0, .string (⟨#[]⟩ : ByteArray), .string (⟨#[]⟩ : ByteArray), .string (⟨#[]⟩ : ByteArray)]) (t := 35) ?_; intro gb365 hg w58 hbox hb; have n0_ := mk_ (Kd.R_below (Kd.R_elderB (rp_ HO_5) gb365 (Nat.le_of_eq hg.symm)) hb); have n1_ := mk_ (Kd.V_below (Kd.V_elderB (vq_ HO_353000.out) gb365 (Nat.le_of_eq hg.symm)) hb); have n3_ := mk_ (IsS119.below (IsS119.ii_ HI0) hb); have n4_ := mk_ (KeepBut.trans (kb_ HK) (KeepBut.of_below hb g none) (.inl rfl)); have n5_ := mk_ (below_step (bwi_ HB (IsS119.ge HI0.out)) hb); have n6_ := mk_ (hbox); have n7_ := mk_ ((by rw [hg]; exact (keep_size (w := w) (g := g) (row := none) (kb_ HK)) : w.heap.size ≤ gb365)); have n8_ := mk_ ((Nat.le_trans HW0.out (by rw [hg]; exact (keep_size (w := w) (g := g) (row := none) (kb_ HK)) : w.heap.size ≤ gb365) : w0.heap.size ≤ gb365)); have n9_ : Aside0 (gb352 ≠ gb365) := bl_ BK352 hg; have n10_ : Aside0 (gb365 ≠ gb352) := bg_ BK352 hg; have n11_ := mk_ ((by rw [hg]; exact Nat.ne_of_lt (IsS119.lt (show IsS119 w0 _ g s0_0 t363 t364 from IsS119.ii_ HI0)) : g ≠ gb365)); have n12_ := mk_ ((by rw [hg]; exact Nat.ne_of_gt (IsS119.lt (show IsS119 w0 _ g s0_0 t363 t364 from IsS119.ii_ HI0)) : gb365 ≠ g)); clear HO_5; clear HO_353000; clear HI0; clear HK; clear HB; have HO_5 := n0_; have HO_353000 := n1_; have HI0 := n3_; have HK := n4_; have HB := n5_; have BK365 := n6_; have GW365 := n7_; have GE365 := n8_; have NB352_365 := n9_; have NB365_352 := n10_; have NB0_365 := n11_; have NB365_0 := n12_; clear n0_ n1_ n3_ n4_ n5_ n6_ n7_ n8_ n9_ n10_ n11_ n12_; replace BK352 := bb_ BK352 hb; clear hb hbox hg; obtain ⟨hnb59, hnc59⟩ := ns_ NB365_352; obtain ⟨hnb60, hnc60⟩ := ns_ NB365_0; obtain ⟨hcz61_0, hcz61_1, hcz61_2, hcz61_3, hfz61_0, hfz61_1, hfz61_2, hfz61_3⟩ := b4_ BK365; obtain ⟨hnb62, hnc62⟩ := ns_ NB352_0; obtain ⟨hcz63_0, hfz63_0⟩ := b1_ BK352; obtain ⟨Ao64, co64, eo64⟩ := Kd.V_slice HO_353000.out; subst eo64) | ((with_reducible refine gate_callee (f := 10) rfl ?_); refine gl_ 22 Try.func10 #[.agg #[.slice Ao64 x353000_1.length co64], .agg #[.int .i64 t359, .string t360, .string t361, .string t362]] ?_; (with_reducible refine (spec_DoAct.calls k1 _ _ x353000_1 t359 t360 t361 t362 t366 false _ ?side1 ?side2 A9.out).mono ?_); (case side1 => refine (Kd.V_reads' (e := 76) (base := w.heap.size) (ok := fun k_ => (((P1_0_ k_ ∨ w.heap.size ≤ k_) ∧ (some k_ ≠ (u5 : Value).ownBlock ∧ (k_ ≠ gb352 ∧ k_ ≠ g))) ∧ k_ ≠ gb365)) (n := x353000_1.length) (c := co64) ?_).2.2; exact (vq_ (Kd.V_mono (Kd.V_far (p := ⟨gb365, 3, none⟩) (Kd.V_far (p := ⟨gb365, 2, none⟩) (Kd.V_far (p := ⟨gb365, 1, none⟩) (Kd.V_far (p := ⟨gb365, 0, none⟩) (Kd.V_mono HO_353000.out (fun k_ hk => (⟨hk, hk.2⟩ : _ ∧ k_ ≠ gb365))) (fun _ hk => hk.2) (.int .i64 t359)) (fun _ hk => hk.2) (.string t360)) (fun _ hk => hk.2) (.string t361)) (fun _ hk => hk.2) (.string t362)) (fun _ h_ => h_.1)))); (case side2 => exact (Kd.V_reads' HO_353000.out).2.1); rintro e w65 ⟨v367, rfl, ho0, hb⟩; refine ⟨_, rfl, ?_⟩; have n0_ := mk_ (Kd.R_below (rq_ (Kd.R_mono (Kd.R_far (p := ⟨gb365, 3, none⟩) (Kd.R_far (p := ⟨gb365, 2, none⟩) (Kd.R_far (p := ⟨gb365, 1, none⟩) (Kd.R_far (p := ⟨gb365, 0, none⟩) (Kd.R_mono HO_5.out (fun k_ hk => (⟨hk, hk.2⟩ : _ ∧ k_ ≠ gb365))) (fun _ hk => hk.2) (.int .i64 t359)) (fun _ hk => hk.2) (.string t360)) (fun _ hk => hk.2) (.string t361)) (fun _ hk => hk.2) (.string t362)) (fun _ h_ => h_.1))) hb); have n1_ := mk_ (Kd.V_elder' (vq_ (Kd.V_mono (Kd.V_far (p := ⟨gb365, 3, none⟩) (Kd.V_far (p := ⟨gb365, 2, none⟩) (Kd.V_far (p := ⟨gb365, 1, none⟩) (Kd.V_far (p := ⟨gb365, 0, none⟩) (Kd.V_mono HO_353000.out (fun k_ hk => (⟨hk, hk.2⟩ : _ ∧ k_ ≠ gb365))) (fun _ hk => hk.2) (.int .i64 t359)) (fun _ hk => hk.2) (.string t360)) (fun _ hk => hk.2) (.string t361)) (fun _ hk => hk.2) (.string t362)) (fun _ h_ => h_.1))) (Kd.R_base ho0) hb); have n2_ := mk_ (Kd.R_lower (Kd.R_newM (M := fun k_ => (w.heap.size ≤ k_)) ho0 (keep_size (w := w) (g := g) (row := none) (kb_ HK)) (fun k_ h_ => h_)) (keep_size (w := w) (g := g) (row := none) (kb_ HK))); have n3_ := mk_ (blk_below (g := gb352) (o := .cells #[.slice Ao64 x353000_1.length co64] 31 (0, 0)) bf_ hb); have n4_ := mk_ (IsS119.below (show IsS119 w0 ((((w58.setCell ⟨gb365, 0, none⟩ (.int .i64 t359)).setCell ⟨gb365, 1, none⟩ (.string t360)).setCell ⟨gb365, 2, none⟩ (.string t361)).setCell ⟨gb365, 3, none⟩ (.string t362)) g s0_0 t363 t364 from IsS119.ii_ HI0) hb); have n5_ := mk_ (blk_below (g := gb365) (o := .cells #[.int .i64 t359, .string t360, .string t361, .string t362] 35 (0, 0)) bu_ hb); have n6_ := mk_ (KeepBut.trans (kb_ HK) (KeepBut.of_below hb g none) (.inl rfl)); have n7_ := mk_ (below_step (bwi_ HB (IsS119.ge HI0.out)) hb); clear HO_5; clear HO_353000; clear BK352; clear HI0; clear BK365; clear HK; clear HB; have HO_5 := n0_; have HO_353000 := n1_; have HO368 := n2_; have BK352 := n3_; have HI0 := n4_; have BK365 := n5_; have HK := n6_; have HB := n7_; clear n0_ n1_ n2_ n3_ n4_ n5_ n6_ n7_; (try clear hb); (try clear hk); (try clear hi); (try clear ho0)) | ((with_reducible refine gate_dst (N := 8) rfl ?_); refine bx_ (N := 8) (cs := #[.slice none 0 0]) (t := 31) ?_; intro gb370 hg w66 hbox hb; have n1_ := mk_ (Kd.V_below (Kd.V_elderB (vq_ HO_353000.out) gb370 (Nat.le_of_eq hg.symm)) hb); have n4_ := mk_ (IsS119.below (IsS119.ii_ HI0) hb); have n6_ := mk_ (KeepBut.trans (kb_ HK) (KeepBut.of_below hb g none) (.inl rfl)); have n7_ := mk_ (below_step (bwi_ HB (IsS119.ge HI0.out)) hb); have n8_ := mk_ (hbox); have n9_ := mk_ ((by rw [hg]; exact (keep_size (w := w) (g := g) (row := none) (kb_ HK)) : w.heap.size ≤ gb370)); have n10_ := mk_ ((Nat.le_trans HW0.out (by rw [hg]; exact (keep_size (w := w) (g := g) (row := none) (kb_ HK)) : w.heap.size ≤ gb370) : w0.heap.size ≤ gb370)); have n11_ : Aside0 (gb352 ≠ gb370) := bl_ BK352 hg; have n12_ : Aside0 (gb370 ≠ gb352) := bg_ BK352 hg; have n13_ : Aside0 (gb365 ≠ gb370) := bl_ BK365 hg; have n14_ : Aside0 (gb370 ≠ gb365) := bg_ BK365 hg; have n15_ := mk_ ((by rw [hg]; exact Nat.ne_of_lt (IsS119.lt (show IsS119 w0 _ g s0_0 t363 t364 from IsS119.ii_ HI0)) : g ≠ gb370)); have n16_ := mk_ ((by rw [hg]; exact Nat.ne_of_gt (IsS119.lt (show IsS119 w0 _ g s0_0 t363 t364 from IsS119.ii_ HI0)) : gb370 ≠ g)); clear HO_353000; clear HI0; clear HK; clear HB; have HO_353000 := n1_; have HI0 := n4_; have HK := n6_; have HB := n7_; have BK370 := n8_; have GW370 := n9_; have GE370 := n10_; have NB352_370 := n11_; have NB370_352 := n12_; have NB365_370 := n13_; have NB370_365 := n14_; have NB0_370 := n15_; have NB370_0 := n16_; clear n1_ n4_ n6_ n7_ n8_ n9_ n10_ n11_ n12_ n13_ n14_ n15_ n16_; replace HO_5 := rb_ HO_5 hb; replace HO368 := rb_ HO368 hb; replace BK352 := bb_ BK352 hb; replace BK365 := bb_ BK365 hb; clear hb hbox hg; obtain ⟨Ao67, co67, eo67⟩ := Kd.R_slice HO368.out; subst eo67; obtain ⟨hnb68, hnc68⟩ := ns_ NB370_352; obtain ⟨hnb69, hnc69⟩ := ns_ NB370_365; obtain ⟨hnb70, hnc70⟩ := ns_ NB370_0; obtain ⟨hcz71_0, hfz71_0⟩ := b1_ BK370) | (go_at_call 91; (with_reducible refine (spec_l01Once.calls g s0_0 t363 t364 20 false t375 t376 w0 _ ?side1 ?side2 A32.out).mono ?_); (case side1 => exact IsS119.ii_ HI0); (case side2 => exact bwi_ HB (IsS119.ge HI0.out)); rintro e w72 ⟨rfl, hi, hb, hk⟩; replace HO_5 := mk_ (Kd.R_mono (Kd.R_keep (IsS119.apart (show IsS119 w0 _ g s0_0 t363 t364 from IsS119.ii_ HI0) (rq_ (rf_ HO_5 BK370 0 (.slice Ao67 t366.length co67))) (by decide)) hk (fun _ h => h.2)) (fun _ h => h.1)); replace HO_353000 := mk_ (Kd.V_mono (Kd.V_keep (Kd.V_mono (ok := fun k_ => ((((((P1_0_ k_ ∨ w.heap.size ≤ k_)) ∧ (some k_ ≠ (u5 : Value).ownBlock ∧ (k_ ≠ gb352 ∧ k_ ≠ g))) ∧ k_ ≠ gb365) ∧ some k_ ≠ (.slice Ao67 t366.length co67 : Value).ownBlock) ∧ k_ ≠ gb370)) (vq_ (Kd.V_mono (Kd.V_far (p := ⟨gb370, 0, none⟩) (Kd.V_mono HO_353000.out (fun k_ hk => (⟨hk, hk.2⟩ : _ ∧ k_ ≠ gb370))) (fun _ hk => hk.2) (.slice Ao67 t366.length co67)) (fun _ h_ => h_.1))) (fun k_ hk_ => (⟨hk_, hk_.1.1.1.2.2.2⟩ : _ ∧ k_ ≠ g))) hk (fun _ h => h.2)) (fun _ h => h.1)); replace BK352 := mk_ (KeepBut.blk hk (g' := gb352) (o := .cells #[.slice Ao64 x353000_1.length co64] 31 (0, 0)) bf_ NB352_0.out (by simp)); replace BK365 := mk_ (KeepBut.blk hk (g' := gb365) (o := .cells #[.int .i64 t359, .string t360, .string t361, .string t362] 35 (0, 0)) bf_ NB365_0.out (by simp)); replace HO368 := mk_ (Kd.R_mono (Kd.R_keep (IsS119.apart (show IsS119 w0 _ g s0_0 t363 t364 from IsS119.ii_ HI0) (rq_ (rf_ HO368 BK370 0 (.slice Ao67 t366.length co67))) (by decide)) hk (fun _ h => h.2)) (fun _ h => h.1)); replace BK370 := mk_ (KeepBut.blk hk (g' := gb370) (o := .cells #[.slice Ao67 t366.length co67] 31 (0, 0)) bu_ NB370_0.out (by simp)); replace HK := mk_ (KeepBut.trans (kb_ HK) hk (.inl rfl)); replace HB := mk_ (hb); replace HI0 := mk_ (hi); (try clear hb); (try clear hk); (try clear hi)))
    go_roundg k1
    case measure => have := HK1.out; omega
    case rel => exact ⟨(x5_1), (wrap64 (x6_1 + 1)), (t375), (t376), (x353000_1), (.slice Ao64 x353000_1.length co64), (by first | rfl | (simp; done) | (simp [*]; done) | (simp [bne]; done)), H', ⟨by have := HK1.out; omega⟩, ⟨rq_ (Kd.R_mono HO_5.out (fun _ hk => hk.1))⟩, ⟨vq_ (Kd.V_mono HO_353000.out (fun _ hk => ⟨hk.1.1.1.1, ⟨hk.1.1.1.2.1, ⟨hk.1.1.1.2.2.1, hk.1.1.1.2.2.2⟩⟩⟩))⟩, ⟨bf_⟩, ⟨IsS119.ii_ HI0⟩, ⟨kb_ HK⟩, ⟨bwi_ HB (IsS119.ge HI0.out)⟩⟩
   subst c33
   rw [if_pos rfl] at H
   by_cases c34 : x5_1.length < 2513169434916
   rotate_left
   ·rw [if_neg c34] at H
    exact absurd H (by simp)
   rw [if_pos c34] at H
   have LMc34 := Aside0.mk c34
   clear c34
   obtain ⟨y377, hy377⟩ : ∃ y_ : List (S35), y_ = (x5_1 ++ [(⟨t359, t360, t361, t362⟩ : S35)]) := ⟨_, rfl⟩
   replace H : (spec_l03Acts.l0 k1 y377 (wrap64 (x6_1 + 1)) s0_0 t375 t376 t366) = some (r1, r2, r3) := by first | (rw [hy377]; with_reducible exact H) | (have H2_ := (Option.bind_some _ _).symm.trans H; rw [hy377]; with_reducible exact H2_) | (have H2_ := (Option.bind_some _ _).symm.trans H; with_reducible exact H2_) | with_reducible exact H | (rw [hy377]; exact H) | exact H
   have Ny377 := Aside0.mk hy377
   clear hy377
   have H' := Aside0.mk H
   clear H
   go_wp2_with (first | ((with_reducible refine gate_callee (f := 83) rfl ?_); refine gl_ 13 Try.func83 #[.pointer (some ⟨g, 0, none⟩), .int .i64 9] ?_; (with_reducible refine (spec_l01Below.calls g s0_0 x1001_1 x1002_1 9 t356 t357 t358 w0 _ ?side1 ?side2 A6.out).mono ?_); (case side1 => exact IsS119.ii_ HI0); (case side2 => exact bwi_ HB (IsS119.ge HI0.out)); rintro e w35 ⟨rfl, hi, hb, hk⟩; refine ⟨_, rfl, ?_⟩; replace HO_5 := mk_ (Kd.R_mono (Kd.R_keep (IsS119.apart (show IsS119 w0 _ g s0_0 x1001_1 x1002_1 from IsS119.ii_ HI0) (rp_ HO_5) (by decide)) hk (fun _ h => h.2)) (fun _ h => h.1)); replace HO_353000 := mk_ (Kd.V_mono (Kd.V_keep (Kd.V_mono (ok := fun k_ => (((P1_0_ k_ ∨ w.heap.size ≤ k_)) ∧ (some k_ ≠ (u5 : Value).ownBlock ∧ (k_ ≠ gb352 ∧ k_ ≠ g)))) (vq_ HO_353000.out) (fun k_ hk_ => (⟨hk_, hk_.2.2.2⟩ : _ ∧ k_ ≠ g))) hk (fun _ h => h.2)) (fun _ h => h.1)); replace BK352 := kz_ BK352 hk NB352_0; replace HK := mk_ (KeepBut.trans (kb_ HK) hk (.inl rfl)); replace HB := mk_ (hb); replace HI0 := mk_ (hi); (try clear hb); (try clear hk); (try clear hi)) | ((with_reducible refine gate_callee (f := 90) rfl ?_); refine gl_ 18 Try.func90 #[.pointer (some ⟨g, 0, none⟩)] ?_; (with_reducible refine (spec_l03Act.calls k1 g s0_0 t357 t358 t359 t360 t361 t362 t363 t364 w0 _ ?side1 ?side2 A8.out).mono ?_); (case side1 => exact IsS119.ii_ HI0); (case side2 => exact bwi_ HB (IsS119.ge HI0.out)); rintro e w36 ⟨rfl, hi, hb, hk⟩; refine ⟨_, rfl, ?_⟩; replace HO_5 := mk_ (Kd.R_mono (Kd.R_keep (IsS119.apart (show IsS119 w0 _ g s0_0 t357 t358 from IsS119.ii_ HI0) (rp_ HO_5) (by decide)) hk (fun _ h => h.2)) (fun _ h => h.1)); replace HO_353000 := mk_ (Kd.V_mono (Kd.V_keep (Kd.V_mono (ok := fun k_ => (((P1_0_ k_ ∨ w.heap.size ≤ k_)) ∧ (some k_ ≠ (u5 : Value).ownBlock ∧ (k_ ≠ gb352 ∧ k_ ≠ g)))) (vq_ HO_353000.out) (fun k_ hk_ => (⟨hk_, hk_.2.2.2⟩ : _ ∧ k_ ≠ g))) hk (fun _ h => h.2)) (fun _ h => h.1)); replace BK352 := kz_ BK352 hk NB352_0; replace HK := mk_ (KeepBut.trans (kb_ HK) hk (.inl rfl)); replace HB := mk_ (hb); replace HI0 := mk_ (hi); (try clear hb); (try clear hk); (try clear hi)) | ((with_reducible refine gate_dst (N := 7) rfl ?_); refine bx_ (N := 7) (cs := #[.int .i64 0, .string (⟨#[]⟩ : ByteArray), .string (⟨#[]⟩ : ByteArray), .string (⟨#[]⟩ : ByteArray)]) (t := 35) ?_; intro gb365 hg w37 hbox hb; have n0_ := mk_ (Kd.R_below (Kd.R_elderB (rp_ HO_5) gb365 (Nat.le_of_eq hg.symm)) hb); have n1_ := mk_ (Kd.V_below (Kd.V_elderB (vq_ HO_353000.out) gb365 (Nat.le_of_eq hg.symm)) hb); have n3_ := mk_ (IsS119.below (IsS119.ii_ HI0) hb); have n4_ := mk_ (KeepBut.trans (kb_ HK) (KeepBut.of_below hb g none) (.inl rfl)); have n5_ := mk_ (below_step (bwi_ HB (IsS119.ge HI0.out)) hb); have n6_ := mk_ (hbox); have n7_ := mk_ ((by rw [hg]; exact (keep_size (w := w) (g := g) (row := none) (kb_ HK)) : w.heap.size ≤ gb365)); have n8_ := mk_ ((Nat.le_trans HW0.out (by rw [hg]; exact (keep_size (w := w) (g := g) (row := none) (kb_ HK)) : w.heap.size ≤ gb365) : w0.heap.size ≤ gb365)); have n9_ : Aside0 (gb352 ≠ gb365) := bl_ BK352 hg; have n10_ : Aside0 (gb365 ≠ gb352) := bg_ BK352 hg; have n11_ := mk_ ((by rw [hg]; exact Nat.ne_of_lt (IsS119.lt (show IsS119 w0 _ g s0_0 t363 t364 from IsS119.ii_ HI0)) : g ≠ gb365)); have n12_ := mk_ ((by rw [hg]; exact Nat.ne_of_gt (IsS119.lt (show IsS119 w0 _ g s0_0 t363 t364 from IsS119.ii_ HI0)) : gb365 ≠ g)); clear HO_5; clear HO_353000; clear HI0; clear HK; clear HB; have HO_5 := n0_; have HO_353000 := n1_; have HI0 := n3_; have HK := n4_; have HB := n5_; have BK365 := n6_; have GW365 := n7_; have GE365 := n8_; have NB352_365 := n9_; have NB365_352 := n10_; have NB0_365 := n11_; have NB365_0 := n12_; clear n0_ n1_ n3_ n4_ n5_ n6_ n7_ n8_ n9_ n10_ n11_ n12_; replace BK352 := bb_ BK352 hb; clear hb hbox hg; obtain ⟨hnb38, hnc38⟩ := ns_ NB365_352; obtain ⟨hnb39, hnc39⟩ := ns_ NB365_0; obtain ⟨hcz40_0, hcz40_1, hcz40_2, hcz40_3, hfz40_0, hfz40_1, hfz40_2, hfz40_3⟩ := b4_ BK365; obtain ⟨hnb41, hnc41⟩ := ns_ NB352_0; obtain ⟨hcz42_0, hfz42_0⟩ := b1_ BK352; obtain ⟨Ao43, co43, eo43⟩ := Kd.V_slice HO_353000.out; subst eo43) | ((with_reducible refine gate_callee (f := 10) rfl ?_); refine gl_ 22 Try.func10 #[.agg #[.slice Ao43 x353000_1.length co43], .agg #[.int .i64 t359, .string t360, .string t361, .string t362]] ?_; (with_reducible refine (spec_DoAct.calls k1 _ _ x353000_1 t359 t360 t361 t362 t366 false _ ?side1 ?side2 A9.out).mono ?_); (case side1 => refine (Kd.V_reads' (e := 76) (base := w.heap.size) (ok := fun k_ => (((P1_0_ k_ ∨ w.heap.size ≤ k_) ∧ (some k_ ≠ (u5 : Value).ownBlock ∧ (k_ ≠ gb352 ∧ k_ ≠ g))) ∧ k_ ≠ gb365)) (n := x353000_1.length) (c := co43) ?_).2.2; exact (vq_ (Kd.V_mono (Kd.V_far (p := ⟨gb365, 3, none⟩) (Kd.V_far (p := ⟨gb365, 2, none⟩) (Kd.V_far (p := ⟨gb365, 1, none⟩) (Kd.V_far (p := ⟨gb365, 0, none⟩) (Kd.V_mono HO_353000.out (fun k_ hk => (⟨hk, hk.2⟩ : _ ∧ k_ ≠ gb365))) (fun _ hk => hk.2) (.int .i64 t359)) (fun _ hk => hk.2) (.string t360)) (fun _ hk => hk.2) (.string t361)) (fun _ hk => hk.2) (.string t362)) (fun _ h_ => h_.1)))); (case side2 => exact (Kd.V_reads' HO_353000.out).2.1); rintro e w44 ⟨v367, rfl, ho0, hb⟩; refine ⟨_, rfl, ?_⟩; have n0_ := mk_ (Kd.R_below (rq_ (Kd.R_mono (Kd.R_far (p := ⟨gb365, 3, none⟩) (Kd.R_far (p := ⟨gb365, 2, none⟩) (Kd.R_far (p := ⟨gb365, 1, none⟩) (Kd.R_far (p := ⟨gb365, 0, none⟩) (Kd.R_mono HO_5.out (fun k_ hk => (⟨hk, hk.2⟩ : _ ∧ k_ ≠ gb365))) (fun _ hk => hk.2) (.int .i64 t359)) (fun _ hk => hk.2) (.string t360)) (fun _ hk => hk.2) (.string t361)) (fun _ hk => hk.2) (.string t362)) (fun _ h_ => h_.1))) hb); have n1_ := mk_ (Kd.V_elder' (vq_ (Kd.V_mono (Kd.V_far (p := ⟨gb365, 3, none⟩) (Kd.V_far (p := ⟨gb365, 2, none⟩) (Kd.V_far (p := ⟨gb365, 1, none⟩) (Kd.V_far (p := ⟨gb365, 0, none⟩) (Kd.V_mono HO_353000.out (fun k_ hk => (⟨hk, hk.2⟩ : _ ∧ k_ ≠ gb365))) (fun _ hk => hk.2) (.int .i64 t359)) (fun _ hk => hk.2) (.string t360)) (fun _ hk => hk.2) (.string t361)) (fun _ hk => hk.2) (.string t362)) (fun _ h_ => h_.1))) (Kd.R_base ho0) hb); have n2_ := mk_ (Kd.R_lower (Kd.R_newM (M := fun k_ => (w.heap.size ≤ k_)) ho0 (keep_size (w := w) (g := g) (row := none) (kb_ HK)) (fun k_ h_ => h_)) (keep_size (w := w) (g := g) (row := none) (kb_ HK))); have n3_ := mk_ (blk_below (g := gb352) (o := .cells #[.slice Ao43 x353000_1.length co43] 31 (0, 0)) bf_ hb); have n4_ := mk_ (IsS119.below (show IsS119 w0 ((((w37.setCell ⟨gb365, 0, none⟩ (.int .i64 t359)).setCell ⟨gb365, 1, none⟩ (.string t360)).setCell ⟨gb365, 2, none⟩ (.string t361)).setCell ⟨gb365, 3, none⟩ (.string t362)) g s0_0 t363 t364 from IsS119.ii_ HI0) hb); have n5_ := mk_ (blk_below (g := gb365) (o := .cells #[.int .i64 t359, .string t360, .string t361, .string t362] 35 (0, 0)) bu_ hb); have n6_ := mk_ (KeepBut.trans (kb_ HK) (KeepBut.of_below hb g none) (.inl rfl)); have n7_ := mk_ (below_step (bwi_ HB (IsS119.ge HI0.out)) hb); clear HO_5; clear HO_353000; clear BK352; clear HI0; clear BK365; clear HK; clear HB; have HO_5 := n0_; have HO_353000 := n1_; have HO368 := n2_; have BK352 := n3_; have HI0 := n4_; have BK365 := n5_; have HK := n6_; have HB := n7_; clear n0_ n1_ n2_ n3_ n4_ n5_ n6_ n7_; (try clear hb); (try clear hk); (try clear hi); (try clear ho0)) | ((with_reducible refine gate_dst (N := 8) rfl ?_); refine bx_ (N := 8) (cs := #[.slice none 0 0]) (t := 31) ?_; intro gb370 hg w45 hbox hb; have n1_ := mk_ (Kd.V_below (Kd.V_elderB (vq_ HO_353000.out) gb370 (Nat.le_of_eq hg.symm)) hb); have n4_ := mk_ (IsS119.below (IsS119.ii_ HI0) hb); have n6_ := mk_ (KeepBut.trans (kb_ HK) (KeepBut.of_below hb g none) (.inl rfl)); have n7_ := mk_ (below_step (bwi_ HB (IsS119.ge HI0.out)) hb); have n8_ := mk_ (hbox); have n9_ := mk_ ((by rw [hg]; exact (keep_size (w := w) (g := g) (row := none) (kb_ HK)) : w.heap.size ≤ gb370)); have n10_ := mk_ ((Nat.le_trans HW0.out (by rw [hg]; exact (keep_size (w := w) (g := g) (row := none) (kb_ HK)) : w.heap.size ≤ gb370) : w0.heap.size ≤ gb370)); have n11_ : Aside0 (gb352 ≠ gb370) := bl_ BK352 hg; have n12_ : Aside0 (gb370 ≠ gb352) := bg_ BK352 hg; have n13_ : Aside0 (gb365 ≠ gb370) := bl_ BK365 hg; have n14_ : Aside0 (gb370 ≠ gb365) := bg_ BK365 hg; have n15_ := mk_ ((by rw [hg]; exact Nat.ne_of_lt (IsS119.lt (show IsS119 w0 _ g s0_0 t363 t364 from IsS119.ii_ HI0)) : g ≠ gb370)); have n16_ := mk_ ((by rw [hg]; exact Nat.ne_of_gt (IsS119.lt (show IsS119 w0 _ g s0_0 t363 t364 from IsS119.ii_ HI0)) : gb370 ≠ g)); clear HO_353000; clear HI0; clear HK; clear HB; have HO_353000 := n1_; have HI0 := n4_; have HK := n6_; have HB := n7_; have BK370 := n8_; have GW370 := n9_; have GE370 := n10_; have NB352_370 := n11_; have NB370_352 := n12_; have NB365_370 := n13_; have NB370_365 := n14_; have NB0_370 := n15_; have NB370_0 := n16_; clear n1_ n4_ n6_ n7_ n8_ n9_ n10_ n11_ n12_ n13_ n14_ n15_ n16_; replace HO_5 := rb_ HO_5 hb; replace HO368 := rb_ HO368 hb; replace BK352 := bb_ BK352 hb; replace BK365 := bb_ BK365 hb; clear hb hbox hg; obtain ⟨Ao46, co46, eo46⟩ := Kd.R_slice HO368.out; subst eo46; obtain ⟨hnb47, hnc47⟩ := ns_ NB370_352; obtain ⟨hnb48, hnc48⟩ := ns_ NB370_365; obtain ⟨hnb49, hnc49⟩ := ns_ NB370_0; obtain ⟨hcz50_0, hfz50_0⟩ := b1_ BK370) | (go_at_call 91; (with_reducible refine (spec_l01Once.calls g s0_0 t363 t364 20 true t375 t376 w0 _ ?side1 ?side2 A32.out).mono ?_); (case side1 => exact IsS119.ii_ HI0); (case side2 => exact bwi_ HB (IsS119.ge HI0.out)); rintro e w51 ⟨rfl, hi, hb, hk⟩; replace HO_5 := mk_ (Kd.R_mono (Kd.R_keep (IsS119.apart (show IsS119 w0 _ g s0_0 t363 t364 from IsS119.ii_ HI0) (rq_ (rf_ HO_5 BK370 0 (.slice Ao46 t366.length co46))) (by decide)) hk (fun _ h => h.2)) (fun _ h => h.1)); replace HO_353000 := mk_ (Kd.V_mono (Kd.V_keep (Kd.V_mono (ok := fun k_ => ((((((P1_0_ k_ ∨ w.heap.size ≤ k_)) ∧ (some k_ ≠ (u5 : Value).ownBlock ∧ (k_ ≠ gb352 ∧ k_ ≠ g))) ∧ k_ ≠ gb365) ∧ some k_ ≠ (.slice Ao46 t366.length co46 : Value).ownBlock) ∧ k_ ≠ gb370)) (vq_ (Kd.V_mono (Kd.V_far (p := ⟨gb370, 0, none⟩) (Kd.V_mono HO_353000.out (fun k_ hk => (⟨hk, hk.2⟩ : _ ∧ k_ ≠ gb370))) (fun _ hk => hk.2) (.slice Ao46 t366.length co46)) (fun _ h_ => h_.1))) (fun k_ hk_ => (⟨hk_, hk_.1.1.1.2.2.2⟩ : _ ∧ k_ ≠ g))) hk (fun _ h => h.2)) (fun _ h => h.1)); replace BK352 := mk_ (KeepBut.blk hk (g' := gb352) (o := .cells #[.slice Ao43 x353000_1.length co43] 31 (0, 0)) bf_ NB352_0.out (by simp)); replace BK365 := mk_ (KeepBut.blk hk (g' := gb365) (o := .cells #[.int .i64 t359, .string t360, .string t361, .string t362] 35 (0, 0)) bf_ NB365_0.out (by simp)); replace HO368 := mk_ (Kd.R_mono (Kd.R_keep (IsS119.apart (show IsS119 w0 _ g s0_0 t363 t364 from IsS119.ii_ HI0) (rq_ (rf_ HO368 BK370 0 (.slice Ao46 t366.length co46))) (by decide)) hk (fun _ h => h.2)) (fun _ h => h.1)); replace BK370 := mk_ (KeepBut.blk hk (g' := gb370) (o := .cells #[.slice Ao46 t366.length co46] 31 (0, 0)) bu_ NB370_0.out (by simp)); replace HK := mk_ (KeepBut.trans (kb_ HK) hk (.inl rfl)); replace HB := mk_ (hb); replace HI0 := mk_ (hi); (try clear hb); (try clear hk); (try clear hi); obtain ⟨hcz52_0, hcz52_1, hcz52_2, hcz52_3, hfz52_0, hfz52_1, hfz52_2, hfz52_3⟩ := b4_ BK365) | ((with_reducible refine gate_builtin (b := .append) (xs := #[.tmp 30, .tmp 32]) rfl ?_); at_builtin; refine Kd.R_append k35 w.heap.size rfl (.tmp 30) (.tmp 32) 44 35 (.agg #[(.int .i64 0), (.string ⟨#[]⟩), (.string ⟨#[]⟩), (.string ⟨#[]⟩)]) 56 rfl Try.underlying44 info35 rfl (by decide) (by omega) u5 x5_1 (⟨t359, t360, t361, t362⟩ : S35) [.int .i64 t359, .string t360, .string t361, .string t362] (fun k_ => (w.heap.size ≤ k_) ∧ k_ ≠ gb365) (fun _ => False) rfl rfl ?aP (fun _ hk => hk.elim) ?aF ?aO (Below.refl _ _) ?aS ?aL ?_; (case aP => exact k35_mkM _ _ _ (⟨t359, t360, t361, t362⟩ : S35)); (case aF => exact (fun k_ hk => ⟨(Nat.le_trans (keep_size (w := w) (g := g) (row := none) (kb_ HK)) hk), Kd.freshB (g := gb365) (o := .cells #[.int .i64 t359, .string t360, .string t361, .string t362] 35 (0, 0)) (bp_ BK365) k_ hk⟩)); (case aO => exact (rp_ HO_5)); (case aS => exact (keep_size (w := w) (g := g) (row := none) (kb_ HK))); (case aL => have := LMc34.out; omega); intro v378 w53 ho hb hg hat; rw [← Ny377.out] at ho; have n0_ := mk_ (Kd.V_afterv (ok := (fun k_ => (P1_0_ k_ ∨ w.heap.size ≤ k_) ∧ some k_ ≠ (.slice Ao46 t366.length co46 : Value).ownBlock ∧ k_ ≠ gb352 ∧ k_ ≠ g ∧ k_ ≠ gb365 ∧ k_ ≠ gb370)) (vq_ (Kd.V_mono HO_353000.out (fun _ hk => ⟨⟨hk.1.1.1.1, ⟨hk.1.2, ⟨hk.1.1.1.2.2.1, ⟨hk.1.1.1.2.2.2, ⟨hk.1.1.2, hk.2⟩⟩⟩⟩⟩, hk.1.1.1.2.1⟩))) hg hat); have n1_ := mk_ (blk_grown (g := gb352) (o := .cells #[.slice Ao43 x353000_1.length co43] 31 (0, 0)) (bp_ BK352) hg (Kd.R_ne HO_5.out BK352.out (by decide))); have n2_ := mk_ (IsS119.grown (f0 := s0_0) (f1 := t375) (f2 := t376) (IsS119.ii_ HI0) hg (IsS119.own_ne HI0.out HO_5.out (by decide))); have n3_ := mk_ (blk_grown (g := gb365) (o := .cells #[.int .i64 t359, .string t360, .string t361, .string t362] 35 (0, 0)) (bp_ BK365) hg (Kd.R_away HO_5.out (fun _ hk => hk.2))); have n4_ := mk_ (Kd.R_over' (rp_ HO368) (Kd.R_typed (rp_ HO_5)) (by decide) hg); have n5_ := mk_ (blk_grown (g := gb370) (o := .cells #[.slice Ao46 t366.length co46] 31 (0, 0)) (bp_ BK370) hg (Kd.R_ne HO_5.out BK370.out (by decide))); have n6_ := mk_ (below_weaken (bwi_ HB (IsS119.ge HI0.out)) HL.out hb); have n7_ := mk_ (KeepBut.trans (kb_ HK) (KeepBut.of_grown hg g) (Kd.R_base2 HO_5.out)); have n8_ := mk_ (ho); clear HO_353000; clear BK352; clear HI0; clear BK365; clear HO368; clear BK370; clear HB; clear HK; clear HO_5; have HO_353000 := n0_; have BK352 := n1_; have HI0 := n2_; have BK365 := n3_; have HO368 := n4_; have BK370 := n5_; have HB := n6_; have HK := n7_; have HO379 := n8_; clear n0_ n1_ n2_ n3_ n4_ n5_ n6_ n7_ n8_; clear ho hb hg hat; obtain ⟨hcz54_0, hfz54_0⟩ := b1_ BK370; obtain ⟨hcz55_0, hfz55_0⟩ := b1_ BK352))
   go_roundg k1
   case measure => have := HK1.out; omega
   case rel => exact ⟨(y377), (wrap64 (x6_1 + 1)), (t375), (t376), (t366), (.slice Ao46 t366.length co46), (by first | rfl | (simp; done) | (simp [*]; done) | (simp [bne]; done)), H', ⟨by have := HK1.out; omega⟩, ⟨rq_ (Kd.R_mono (Kd.R_far (p := ⟨gb352, 0, none⟩) (Kd.R_types HO379.out BK352.out (by decide)) (fun _ hk => hk.2) (.slice Ao46 t366.length co46)) (fun _ hk => hk.1.1))⟩, ⟨Kd.V_mono (Kd.R_V (rq_ (Kd.R_mono (ok' := fun k_ => w.heap.size ≤ k_ ∧ (some k_ ≠ Value.ownBlock _ ∧ (k_ ≠ gb352 ∧ k_ ≠ g))) (Kd.R_far (p := ⟨gb352, 0, none⟩) (Kd.R_types (IsS119.apart HI0.out (Kd.R_types (Kd.R_apart' HO368.out (Kd.R_typed HO379.out) (by decide)) BK352.out (by decide)) (by decide)) BK352.out (by decide)) (fun _ hk => hk.2) (.slice Ao46 t366.length co46)) (fun _ hk => ⟨hk.1.1.1.1.1, ⟨hk.1.1.1.2, ⟨hk.1.1.2, hk.1.2⟩⟩⟩)))) (fun k_ hk => by first | exact ⟨(.inr (hk.1)), hk.2⟩ | exact (.inr (hk)))⟩, ⟨bu_⟩, ⟨IsS119.ii_ HI0⟩, ⟨kb_ HK⟩, ⟨bwi_ HB (IsS119.ge HI0.out)⟩⟩

/-! ### spec_l01Place: function 57 -/
def spec_l01Place.f (s0_0 : List Int) (s0_1 : Int) (s0_2 : Int) (a1 : Int) : Option (Int × Int × Int) := (spec_l01Once.f s0_0 s0_1 s0_2 15).bind fun bt380 => (if bt380.1 = true then ((spec_l01PickInt.f s0_0 bt380.2.1 bt380.2.2 (([(-1), a1, wrap64 (a1 + 1), 9223372036854775807, (-9223372036854775808)] : List Int))).bind fun bt386 => (some (bt386.1, bt386.2.1, bt386.2.2))) else ((spec_l01Below.f s0_0 bt380.2.1 bt380.2.2 a1).bind fun bt389 => (some (bt389.1, bt389.2.1, bt389.2.2))))
set_option maxHeartbeats 8000000 in
set_option maxRecDepth 100000 in
theorem spec_l01Place.calls (g : Nat) (s0_0 : List Int) (s0_1 : Int) (s0_2 : Int) (a1 : Int) (r1 : Int) (r2 : Int) (r3 : Int) (w0 w : World) (hI : IsS119 w0 w g s0_0 s0_1 s0_2) (hB : Below w0.heap.size w0 w) (h : spec_l01Place.f s0_0 s0_1 s0_2 a1 = some (r1, r2, r3)) :
  Calls Try.prog 57 #[.pointer (some ⟨g, 0, none⟩), .int .i64 a1] w fun e w' => e = .returned (.int .i64 r1) ∧ IsS119 w0 w' g s0_0 r2 r3 ∧ Below w0.heap.size w0 w' ∧ KeepBut w w' g none := by
 have HI0 := Aside0.mk hI
 have HK := mk_ (KeepBut.refl w g none)
 have HL := Aside0.mk hB.size
 clear hI
 have HW0 := Aside0.mk hB.size
 have HB := Aside0.mk hB
 clear hB
 have H : ((spec_l01Once.f s0_0 s0_1 s0_2 15).bind fun bt380 => (if bt380.1 = true then ((spec_l01PickInt.f s0_0 bt380.2.1 bt380.2.2 (([(-1), a1, wrap64 (a1 + 1), 9223372036854775807, (-9223372036854775808)] : List Int))).bind fun bt386 => (some (bt386.1, bt386.2.1, bt386.2.2))) else ((spec_l01Below.f s0_0 bt380.2.1 bt380.2.2 a1).bind fun bt389 => (some (bt389.1, bt389.2.1, bt389.2.2))))) = some (r1, r2, r3) := h
 clear h
 replace H := Option.bind_eq_some_iff.mp H
 obtain ⟨⟨t380, t381, t382⟩, A30, H⟩ := H
 try dsimp only at H
 have A3 := Aside0.mk A30
 clear A30
 by_cases c4 : t380 = true
 rotate_left
 ·replace c4 := Bool.eq_false_iff.mpr c4
  subst c4
  rw [if_neg (show ¬ (false = true) by decide)] at H
  replace H := Option.bind_eq_some_iff.mp H
  obtain ⟨⟨t389, t390, t391⟩, A110, H⟩ := H
  try dsimp only at H
  have A11 := Aside0.mk A110
  clear A110
  simp only [Option.some.injEq, Prod.mk.injEq] at H
  obtain ⟨rfl, rfl, rfl⟩ := H
  go_enter Try.func57, Try.ntmps57
  go_wp2_with (first | ((with_reducible refine gate_callee (f := 91) rfl ?_); refine gl_ 6 Try.func91 #[.pointer (some ⟨g, 0, none⟩), .int .i64 15] ?_; (with_reducible refine (spec_l01Once.calls g s0_0 s0_1 s0_2 15 false t381 t382 w0 _ ?side1 ?side2 A3.out).mono ?_); (case side1 => exact IsS119.ii_ HI0); (case side2 => exact bwi_ HB (IsS119.ge HI0.out)); rintro e w12 ⟨rfl, hi, hb, hk⟩; refine ⟨_, rfl, ?_⟩; replace HK := mk_ (KeepBut.trans (kb_ HK) hk (.inl rfl)); replace HB := mk_ (hb); replace HI0 := mk_ (hi); (try clear hb); (try clear hk); (try clear hi)) | ((with_reducible refine gate_callee (f := 83) rfl ?_); refine gl_ 15 Try.func83 #[.pointer (some ⟨g, 0, none⟩), .int .i64 a1] ?_; (with_reducible refine (spec_l01Below.calls g s0_0 t381 t382 a1 t389 t390 t391 w0 _ ?side1 ?side2 A11.out).mono ?_); (case side1 => exact IsS119.ii_ HI0); (case side2 => exact bwi_ HB (IsS119.ge HI0.out)); rintro e w13 ⟨rfl, hi, hb, hk⟩; refine ⟨_, rfl, ?_⟩; replace HK := mk_ (KeepBut.trans (kb_ HK) hk (.inl rfl)); replace HB := mk_ (hb); replace HI0 := mk_ (hi); (try clear hb); (try clear hk); (try clear hi)))
  go_ret
  exact ⟨er_, IsS119.ii_ HI0, bwi_ HB (IsS119.ge HI0.out), kb_ HK⟩
 subst c4
 rw [if_pos rfl] at H
 obtain ⟨y383, hy383⟩ : ∃ y_ : List Int, y_ = (([(-1), a1, wrap64 (a1 + 1), 9223372036854775807, (-9223372036854775808)] : List Int)) := ⟨_, rfl⟩
 replace H : ((spec_l01PickInt.f s0_0 t381 t382 y383).bind fun bt386 => (some (bt386.1, bt386.2.1, bt386.2.2))) = some (r1, r2, r3) := by first | (rw [hy383]; with_reducible exact H) | (have H2_ := (Option.bind_some _ _).symm.trans H; rw [hy383]; with_reducible exact H2_) | (have H2_ := (Option.bind_some _ _).symm.trans H; with_reducible exact H2_) | with_reducible exact H | (rw [hy383]; exact H) | exact H
 have Ny383 := Aside0.mk hy383
 clear hy383
 replace H := Option.bind_eq_some_iff.mp H
 obtain ⟨⟨t386, t387, t388⟩, A50, H⟩ := H
 try dsimp only at H
 have A5 := Aside0.mk A50
 clear A50
 simp only [Option.some.injEq, Prod.mk.injEq] at H
 obtain ⟨rfl, rfl, rfl⟩ := H
 go_enter Try.func57, Try.ntmps57
 go_wp2_with (first | ((with_reducible refine gate_callee (f := 91) rfl ?_); refine gl_ 6 Try.func91 #[.pointer (some ⟨g, 0, none⟩), .int .i64 15] ?_; (with_reducible refine (spec_l01Once.calls g s0_0 s0_1 s0_2 15 true t381 t382 w0 _ ?side1 ?side2 A3.out).mono ?_); (case side1 => exact IsS119.ii_ HI0); (case side2 => exact bwi_ HB (IsS119.ge HI0.out)); rintro e w6 ⟨rfl, hi, hb, hk⟩; refine ⟨_, rfl, ?_⟩; replace HK := mk_ (KeepBut.trans (kb_ HK) hk (.inl rfl)); replace HB := mk_ (hb); replace HI0 := mk_ (hi); (try clear hb); (try clear hk); (try clear hi)) | ((with_reducible refine gate_dst (N := 11) rfl ?_); refine Kd.R_lit (Kd.int .i64) _ 3 ?hg (N := 11) ?hd (xs := ([(-1), a1, wrap64 (a1 + 1), 9223372036854775807, (-9223372036854775808)] : List Int)) (inner := [.int .i64 (-1), .int .i64 a1, .int .i64 (wrap64 (a1 + 1)), .int .i64 9223372036854775807, .int .i64 (-9223372036854775808)]) (ok := fun _ => True) (okp := fun _ => True) ?hr ?hp (fun _ hk => hk) trivial (Below.refl _ _) (Nat.le_refl _) (by simp) ?_; (case hd => rfl); (case hg => rfl); (case hr => first | (go_simp; done) | (go_simp; rfl)); (case hp => exact (Reps.one (show Kd.M (Kd.int .i64) _ _ _ (-1) [.int .i64 (-1)] from rfl) (Reps.one (show Kd.M (Kd.int .i64) _ _ _ a1 [.int .i64 a1] from rfl) (Reps.one (show Kd.M (Kd.int .i64) _ _ _ (wrap64 (a1 + 1)) [.int .i64 (wrap64 (a1 + 1))] from rfl) (Reps.one (show Kd.M (Kd.int .i64) _ _ _ 9223372036854775807 [.int .i64 9223372036854775807] from rfl) (Reps.one (show Kd.M (Kd.int .i64) _ _ _ (-9223372036854775808) [.int .i64 (-9223372036854775808)] from rfl) (Reps.none _ _))))))); intro v384 w7 ho8 hb hg_ hnew_; clear hg_ hnew_; (first | rw [← Ny383.out] at ho8 | (simp only [Int.reduceToNat] at ho8; rw [← Ny383.out] at ho8)); have n0_ := mk_ (Kd.R_lower ho8 (keep_size (w := w) (g := g) (row := none) (kb_ HK))); have n1_ := mk_ (IsS119.below (IsS119.ii_ HI0) hb); have n2_ := mk_ (KeepBut.trans (kb_ HK) (KeepBut.of_below hb g none) (.inl rfl)); have n3_ := mk_ (below_step (bwi_ HB (IsS119.ge HI0.out)) hb); clear HI0; clear HK; clear HB; have HO385 := n0_; have HI0 := n1_; have HK := n2_; have HB := n3_; clear n0_ n1_ n2_ n3_; clear hb ho8; obtain ⟨Ao9, co9, eo9⟩ := Kd.R_slice HO385.out; subst eo9) | ((with_reducible refine gate_callee (f := 86) rfl ?_); refine gl_ 12 Try.func86 #[.pointer (some ⟨g, 0, none⟩), .slice Ao9 y383.length co9] ?_; (with_reducible refine (spec_l01PickInt.calls g s0_0 t381 t382 _ _ y383 t386 t387 t388 w0 _ ?side1 ?side2 ?side3 ?side4 ?side5 A5.out).mono ?_); (case side1 => exact IsS119.ii_ HI0); (case side2 => exact bwi_ HB (IsS119.ge HI0.out)); (case side3 => exact cr_ HO385); (case side4 => exact (Kd.R_reads' HO385.out).2.1); (case side5 => exact far_slice (IsS119.own_ne HI0.out HO385.out (by decide))); rintro e w10 ⟨rfl, hi, hb, hk⟩; refine ⟨_, rfl, ?_⟩; replace HO385 := mk_ (Kd.R_mono (Kd.R_keep (IsS119.apart (show IsS119 w0 _ g s0_0 t381 t382 from IsS119.ii_ HI0) (rp_ HO385) (by decide)) hk (fun _ h => h.2)) (fun _ h => h.1)); replace HK := mk_ (KeepBut.trans (kb_ HK) hk (.inl rfl)); replace HB := mk_ (hb); replace HI0 := mk_ (hi); (try clear hb); (try clear hk); (try clear hi)))
 go_ret
 exact ⟨er_, IsS119.ii_ HI0, bwi_ HB (IsS119.ge HI0.out), kb_ HK⟩

/-! ### spec_l03Left: function 58 -/
def spec_l03Left.l0 : Nat → List Int → Int → List Int → Int → Int → Option (List Int × Int × Int)
 | 0, _, _, _, _, _ => none
 | k + 1, x3, x4, x1000, x1001, x1002 => (spec_l01Below.f x1000 x1001 x1002 6).bind fun bt395 => (if x4 < bt395.1 then ((spec_l01PickInt.f x1000 bt395.2.1 bt395.2.2 (([0, 1, 2, 3, 5, 9, 40, 200, (-1), 9223372036854775807] : List Int))).bind fun bt401 => (if x3.length < 17592186044416 then (spec_l03Left.l0 k (x3 ++ [bt401.1]) (wrap64 (x4 + 1)) x1000 bt401.2.1 bt401.2.2) else (none))) else (some (x3, bt395.2.1, bt395.2.2)))
def spec_l03Left.f (k : Nat) (s0_0 : List Int) (s0_1 : Int) (s0_2 : Int) : Option (List Int × Int × Int) := spec_l03Left.l0 k (([] : List Int)) 0 s0_0 s0_1 s0_2
theorem spec_l03Left.mono_l : ∀ k, (∀ y0 y1 y2 y3 y4, LeO (spec_l03Left.l0 k y0 y1 y2 y3 y4) (spec_l03Left.l0 (k + 1) y0 y1 y2 y3 y4))
 | 0 => fun _ _ _ _ _ r h => by simp [spec_l03Left.l0] at h
 | k + 1 => by
  have ih0 := spec_l03Left.mono_l k
  ·intro y0 y1 y2 y3 y4
   unfold spec_l03Left.l0
   repeat' first
   | (with_reducible exact ih0 _ _ _ _ _)
   | (with_reducible exact LeO.refl _)
   | (with_reducible refine LeO.ite ?_ ?_)
   | (with_reducible refine LeO.bind ?_ (fun _ => ?_))
theorem spec_l03Left.mono : ∀ a0 a1 a2 k, LeO (spec_l03Left.f k a0 a1 a2) (spec_l03Left.f (k + 1) a0 a1 a2) := by
 intro a0 a1 a2 k
 have ih0 := spec_l03Left.mono_l k
 unfold spec_l03Left.f
 repeat' first
   | (with_reducible exact ih0 _ _ _ _ _)
set_option maxHeartbeats 8000000 in
set_option maxRecDepth 100000 in
theorem spec_l03Left.calls (k : Nat) (g : Nat) (s0_0 : List Int) (s0_1 : Int) (s0_2 : Int) (r1 : List Int) (r2 : Int) (r3 : Int) (w0 w : World) (hI : IsS119 w0 w g s0_0 s0_1 s0_2) (hB : Below w0.heap.size w0 w) (h : spec_l03Left.f k s0_0 s0_1 s0_2 = some (r1, r2, r3)) :
  Calls Try.prog 58 #[.pointer (some ⟨g, 0, none⟩)] w fun e w' => ∃ v0_ : Value, e = .returned (v0_) ∧ Kd.R (Kd.int .i64) 3 w' w.heap.size (fun _ => True) v0_ r1 ∧ IsS119 w0 w' g s0_0 r2 r3 ∧ Below w0.heap.size w0 w' ∧ KeepBut w w' g none := by
 have HI0 := Aside0.mk hI
 have HK := mk_ (KeepBut.refl w g none)
 have HL := Aside0.mk hB.size
 clear hI
 have HW0 := Aside0.mk hB.size
 have HB := Aside0.mk hB
 clear hB
 have H : (spec_l03Left.l0 k (([] : List Int)) 0 s0_0 s0_1 s0_2) = some (r1, r2, r3) := h
 clear h
 obtain ⟨y392, hy392⟩ : ∃ y_ : List Int, y_ = (([] : List Int)) := ⟨_, rfl⟩
 replace H : (spec_l03Left.l0 k y392 0 s0_0 s0_1 s0_2) = some (r1, r2, r3) := by first | (rw [hy392]; with_reducible exact H) | (have H2_ := (Option.bind_some _ _).symm.trans H; rw [hy392]; with_reducible exact H2_) | (have H2_ := (Option.bind_some _ _).symm.trans H; with_reducible exact H2_) | with_reducible exact H | (rw [hy392]; exact H) | exact H
 have Ny392 := Aside0.mk hy392
 clear hy392
 have H' := Aside0.mk H
 clear H
 go_enter Try.func58, Try.ntmps58
 go_wp2_with (first | ((with_reducible refine gate_dst (N := 5) rfl ?_); refine Kd.R_lit (Kd.int .i64) _ 3 ?hg (N := 5) ?hd (xs := ([] : List Int)) (inner := []) (ok := fun _ => True) (okp := fun _ => True) ?hr ?hp (fun _ hk => hk) trivial (Below.refl _ _) (Nat.le_refl _) (by simp) ?_; (case hd => rfl); (case hg => rfl); (case hr => first | (go_simp; done) | (go_simp; rfl)); (case hp => exact (Reps.none _ _)); intro v393 w2 ho3 hb hg_ hnew_; clear hg_ hnew_; (first | rw [← Ny392.out] at ho3 | (simp only [Int.reduceToNat] at ho3; rw [← Ny392.out] at ho3)); have n0_ := mk_ (Kd.R_lower ho3 (keep_size (w := w) (g := g) (row := none) (kb_ HK))); have n1_ := mk_ (IsS119.below (IsS119.ii_ HI0) hb); have n2_ := mk_ (KeepBut.trans (kb_ HK) (KeepBut.of_below hb g none) (.inl rfl)); have n3_ := mk_ (below_step (bwi_ HB (IsS119.ge HI0.out)) hb); clear HI0; clear HK; clear HB; have HO394 := n0_; have HI0 := n1_; have HK := n2_; have HB := n3_; clear n0_ n1_ n2_ n3_; clear hb ho3))
 go_loopg [3, 4] k (fun kq v3 v4 w' => ∃ (x3_1 : List Int) (x4_1 : Int) (x1001_1 : Int) (x1002_1 : Int), v4 = .int .i64 x4_1 ∧ Aside0 (spec_l03Left.l0 kq x3_1 x4_1 s0_0 x1001_1 x1002_1 = some (r1, r2, r3)) ∧ Aside0 (kq ≤ k) ∧ Aside0 (Kd.R (Kd.int .i64) 3 w' w.heap.size (fun _ => True) v3 x3_1) ∧ Aside0 (IsS119 w0 w' g s0_0 x1001_1 x1002_1) ∧ Aside0 (KeepBut w w' g none) ∧ Aside0 (Below w0.heap.size w0 w'))
 case atStart => exact ⟨(y392), (0), (s0_1), (s0_2), (by first | rfl | (simp; done) | (simp [*]; done) | (simp [bne]; done)), H', ⟨Nat.le_refl _⟩, ⟨rq_ HO394.out⟩, ⟨IsS119.ii_ HI0⟩, ⟨kb_ HK⟩, ⟨bwi_ HB (IsS119.ge HI0.out)⟩⟩
 case round =>
  clear H'
  try clear p2
  obtain ⟨x3_1, x4_1, x1001_1, x1002_1, rfl, HA, HK1, HO_3, HI0, HK, HB⟩ := hrel
  cases gk with
  | zero => exact absurd HA.out (by simp [spec_l03Left.l0])
  | succ k1 =>
   have H := HA.out
   clear HA
   simp only [spec_l03Left.l0] at H
   replace H := Option.bind_eq_some_iff.mp H
   obtain ⟨⟨t395, t396, t397⟩, A40, H⟩ := H
   try dsimp only at H
   have A4 := Aside0.mk A40
   clear A40
   by_cases c5 : x4_1 < t395
   rotate_left
   ·rw [if_neg c5] at H
    have c5b0 : decide (x4_1 < t395) = false := decide_eq_false c5
    clear c5
    simp only [Option.some.injEq, Prod.mk.injEq] at H
    obtain ⟨rfl, rfl, rfl⟩ := H
    go_wp2_with (first | ((with_reducible refine gate_callee (f := 83) rfl ?_); refine gl_ 8 Try.func83 #[.pointer (some ⟨g, 0, none⟩), .int .i64 6] ?_; (with_reducible refine (spec_l01Below.calls g s0_0 x1001_1 x1002_1 6 t395 t396 t397 w0 _ ?side1 ?side2 A4.out).mono ?_); (case side1 => exact IsS119.ii_ HI0); (case side2 => exact bwi_ HB (IsS119.ge HI0.out)); rintro e w14 ⟨rfl, hi, hb, hk⟩; refine ⟨_, rfl, ?_⟩; replace HO_3 := mk_ (Kd.R_mono (Kd.R_keep (IsS119.apart (show IsS119 w0 _ g s0_0 x1001_1 x1002_1 from IsS119.ii_ HI0) (rp_ HO_3) (by decide)) hk (fun _ h => h.2)) (fun _ h => h.1)); replace HK := mk_ (KeepBut.trans (kb_ HK) hk (.inl rfl)); replace HB := mk_ (hb); replace HI0 := mk_ (hi); (try clear hb); (try clear hk); (try clear hi)))
    go_ret
    exact ⟨_, er_, rq_ HO_3.out, IsS119.ii_ HI0, bwi_ HB (IsS119.ge HI0.out), kb_ HK⟩
   rw [if_pos c5] at H
   have c5b0 : decide (x4_1 < t395) = true := decide_eq_true c5
   clear c5
   obtain ⟨y398, hy398⟩ : ∃ y_ : List Int, y_ = (([0, 1, 2, 3, 5, 9, 40, 200, (-1), 9223372036854775807] : List Int)) := ⟨_, rfl⟩
   replace H : ((spec_l01PickInt.f s0_0 t396 t397 y398).bind fun bt401 => (if x3_1.length < 17592186044416 then (spec_l03Left.l0 k1 (x3_1 ++ [bt401.1]) (wrap64 (x4_1 + 1)) s0_0 bt401.2.1 bt401.2.2) else (none))) = some (r1, r2, r3) := by first | (rw [hy398]; with_reducible exact H) | (have H2_ := (Option.bind_some _ _).symm.trans H; rw [hy398]; with_reducible exact H2_) | (have H2_ := (Option.bind_some _ _).symm.trans H; with_reducible exact H2_) | with_reducible exact H | (rw [hy398]; exact H) | exact H
   have Ny398 := Aside0.mk hy398
   clear hy398
   replace H := Option.bind_eq_some_iff.mp H
   obtain ⟨⟨t401, t402, t403⟩, A60, H⟩ := H
   try dsimp only at H
   have A6 := Aside0.mk A60
   clear A60
   by_cases c7 : x3_1.length < 17592186044416
   rotate_left
   ·rw [if_neg c7] at H
    exact absurd H (by simp)
   rw [if_pos c7] at H
   have LMc7 := Aside0.mk c7
   clear c7
   obtain ⟨y404, hy404⟩ : ∃ y_ : List Int, y_ = (x3_1 ++ [t401]) := ⟨_, rfl⟩
   replace H : (spec_l03Left.l0 k1 y404 (wrap64 (x4_1 + 1)) s0_0 t402 t403) = some (r1, r2, r3) := by first | (rw [hy404]; with_reducible exact H) | (have H2_ := (Option.bind_some _ _).symm.trans H; rw [hy404]; with_reducible exact H2_) | (have H2_ := (Option.bind_some _ _).symm.trans H; with_reducible exact H2_) | with_reducible exact H | (rw [hy404]; exact H) | exact H
   have Ny404 := Aside0.mk hy404
   clear hy404
   have H' := Aside0.mk H
   clear H
   go_wp2_with (first | ((with_reducible refine gate_callee (f := 83) rfl ?_); refine gl_ 8 Try.func83 #[.pointer (some ⟨g, 0, none⟩), .int .i64 6] ?_; (with_reducible refine (spec_l01Below.calls g s0_0 x1001_1 x1002_1 6 t395 t396 t397 w0 _ ?side1 ?side2 A4.out).mono ?_); (case side1 => exact IsS119.ii_ HI0); (case side2 => exact bwi_ HB (IsS119.ge HI0.out)); rintro e w8 ⟨rfl, hi, hb, hk⟩; refine ⟨_, rfl, ?_⟩; replace HO_3 := mk_ (Kd.R_mono (Kd.R_keep (IsS119.apart (show IsS119 w0 _ g s0_0 x1001_1 x1002_1 from IsS119.ii_ HI0) (rp_ HO_3) (by decide)) hk (fun _ h => h.2)) (fun _ h => h.1)); replace HK := mk_ (KeepBut.trans (kb_ HK) hk (.inl rfl)); replace HB := mk_ (hb); replace HI0 := mk_ (hi); (try clear hb); (try clear hk); (try clear hi)) | ((with_reducible refine gate_dst (N := 14) rfl ?_); refine Kd.R_lit (Kd.int .i64) _ 3 ?hg (N := 14) ?hd (xs := ([0, 1, 2, 3, 5, 9, 40, 200, (-1), 9223372036854775807] : List Int)) (inner := [.int .i64 0, .int .i64 1, .int .i64 2, .int .i64 3, .int .i64 5, .int .i64 9, .int .i64 40, .int .i64 200, .int .i64 (-1), .int .i64 9223372036854775807]) (ok := fun _ => True) (okp := fun _ => True) ?hr ?hp (fun _ hk => hk) trivial (Below.refl _ _) (Nat.le_refl _) (by simp) ?_; (case hd => rfl); (case hg => rfl); (case hr => first | (go_simp; done) | (go_simp; rfl)); (case hp => exact (Reps.one (show Kd.M (Kd.int .i64) _ _ _ 0 [.int .i64 0] from rfl) (Reps.one (show Kd.M (Kd.int .i64) _ _ _ 1 [.int .i64 1] from rfl) (Reps.one (show Kd.M (Kd.int .i64) _ _ _ 2 [.int .i64 2] from rfl) (Reps.one (show Kd.M (Kd.int .i64) _ _ _ 3 [.int .i64 3] from rfl) (Reps.one (show Kd.M (Kd.int .i64) _ _ _ 5 [.int .i64 5] from rfl) (Reps.one (show Kd.M (Kd.int .i64) _ _ _ 9 [.int .i64 9] from rfl) (Reps.one (show Kd.M (Kd.int .i64) _ _ _ 40 [.int .i64 40] from rfl) (Reps.one (show Kd.M (Kd.int .i64) _ _ _ 200 [.int .i64 200] from rfl) (Reps.one (show Kd.M (Kd.int .i64) _ _ _ (-1) [.int .i64 (-1)] from rfl) (Reps.one (show Kd.M (Kd.int .i64) _ _ _ 9223372036854775807 [.int .i64 9223372036854775807] from rfl) (Reps.none _ _)))))))))))); intro v399 w9 ho10 hb hg_ hnew_; clear hg_ hnew_; (first | rw [← Ny398.out] at ho10 | (simp only [Int.reduceToNat] at ho10; rw [← Ny398.out] at ho10)); have n0_ := mk_ (Kd.R_elder' (rp_ HO_3) (Kd.R_base ho10) hb); have n1_ := mk_ (Kd.R_lower (Kd.R_new' ho10 (Kd.R_lt (rp_ HO_3))) (keep_size (w := w) (g := g) (row := none) (kb_ HK))); have n2_ := mk_ (IsS119.below (IsS119.ii_ HI0) hb); have n3_ := mk_ (KeepBut.trans (kb_ HK) (KeepBut.of_below hb g none) (.inl rfl)); have n4_ := mk_ (below_step (bwi_ HB (IsS119.ge HI0.out)) hb); clear HO_3; clear HI0; clear HK; clear HB; have HO_3 := n0_; have HO400 := n1_; have HI0 := n2_; have HK := n3_; have HB := n4_; clear n0_ n1_ n2_ n3_ n4_; clear hb ho10; obtain ⟨Ao11, co11, eo11⟩ := Kd.R_slice HO400.out; subst eo11) | ((with_reducible refine gate_callee (f := 86) rfl ?_); refine gl_ 15 Try.func86 #[.pointer (some ⟨g, 0, none⟩), .slice Ao11 y398.length co11] ?_; (with_reducible refine (spec_l01PickInt.calls g s0_0 t396 t397 _ _ y398 t401 t402 t403 w0 _ ?side1 ?side2 ?side3 ?side4 ?side5 A6.out).mono ?_); (case side1 => exact IsS119.ii_ HI0); (case side2 => exact bwi_ HB (IsS119.ge HI0.out)); (case side3 => exact cr_ HO400); (case side4 => exact (Kd.R_reads' HO400.out).2.1); (case side5 => exact far_slice (IsS119.own_ne HI0.out HO400.out (by decide))); rintro e w12 ⟨rfl, hi, hb, hk⟩; refine ⟨_, rfl, ?_⟩; replace HO_3 := mk_ (Kd.R_mono (Kd.R_keep (IsS119.apart (show IsS119 w0 _ g s0_0 t396 t397 from IsS119.ii_ HI0) (rp_ HO_3) (by decide)) hk (fun _ h => h.2)) (fun _ h => h.1)); replace HO400 := mk_ (Kd.R_mono (Kd.R_keep (IsS119.apart (show IsS119 w0 _ g s0_0 t396 t397 from IsS119.ii_ HI0) (rp_ HO400) (by decide)) hk (fun _ h => h.2)) (fun _ h => h.1)); replace HK := mk_ (KeepBut.trans (kb_ HK) hk (.inl rfl)); replace HB := mk_ (hb); replace HI0 := mk_ (hi); (try clear hb); (try clear hk); (try clear hi)) | ((with_reducible refine gate_builtin (b := .append) (xs := #[.tmp 12, .tmp 16]) rfl ?_); at_builtin; refine Kd.R_append (Kd.int .i64) w.heap.size rfl (.tmp 12) (.tmp 16) 51 3 (.int .i64 0) 8 rfl Try.underlying51 info3 rfl (by decide) (by omega) u3 x3_1 t401 [.int .i64 t401] (fun k_ => some k_ ≠ (.slice Ao11 y398.length co11 : Value).ownBlock) (fun _ => False) rfl rfl ?aP (fun _ hk => hk.elim) ?aF ?aO (Below.refl _ _) ?aS ?aL ?_; (case aP => exact rfl); (case aF => exact (fun k_ hk => Kd.fresh' (Kd.R_lt (rp_ HO400)) k_ hk)); (case aO => exact (rq_ (Kd.R_mono HO_3.out (fun _ hk => hk.2)))); (case aS => exact (keep_size (w := w) (g := g) (row := none) (kb_ HK))); (case aL => have := LMc7.out; omega); intro v405 w13 ho hb hg hat; rw [← Ny404.out] at ho; have n0_ := mk_ (IsS119.grown (IsS119.ii_ HI0) hg (IsS119.own_ne HI0.out HO_3.out (by decide))); have n1_ := mk_ (Kd.R_after (ok := (fun _ => True)) (rp_ HO400) hg hat); have n2_ := mk_ (below_weaken (bwi_ HB (IsS119.ge HI0.out)) HL.out hb); have n3_ := mk_ (KeepBut.trans (kb_ HK) (KeepBut.of_grown hg g) (Kd.R_base2 HO_3.out)); have n4_ := mk_ (ho); clear HI0; clear HO400; clear HB; clear HK; clear HO_3; have HI0 := n0_; have HO400 := n1_; have HB := n2_; have HK := n3_; have HO406 := n4_; clear n0_ n1_ n2_ n3_ n4_; clear ho hb hg hat))
   go_roundg k1
   case measure => have := HK1.out; omega
   case rel => exact ⟨(y404), (wrap64 (x4_1 + 1)), (t402), (t403), (by first | rfl | (simp; done) | (simp [*]; done) | (simp [bne]; done)), H', ⟨by have := HK1.out; omega⟩, ⟨rq_ (Kd.R_mono HO406.out (fun _ hk => trivial))⟩, ⟨IsS119.ii_ HI0⟩, ⟨kb_ HK⟩, ⟨bwi_ HB (IsS119.ge HI0.out)⟩⟩

/-! ### spec_DrawCutActs: function 24 -/
def spec_DrawCutActs.f (k : Nat) (l0 : List Int) : Option ((List (S76)) × (List (S35)) × Int × List Int) := (spec_l01New.f k l0).bind fun bt408 => ((spec_l03Disk.f k bt408.1 bt408.2.1 bt408.2.2).bind fun bt412 => ((spec_l03Acts.f k bt408.1 bt412.2.1 bt412.2.2 bt412.1).bind fun bt418 => ((spec_l01Place.f bt408.1 bt418.2.1 bt418.2.2 (wrap64 ((bt418.1.length : Int) + 1))).bind fun bt423 => ((spec_l03Left.f k bt408.1 bt423.2.1 bt423.2.2).bind fun bt426 => (some (bt412.1, bt418.1, bt423.1, bt426.1))))))
theorem spec_DrawCutActs.mono : ∀ a0 k, LeO (spec_DrawCutActs.f k a0) (spec_DrawCutActs.f (k + 1) a0) := by
 intro a0 k
 unfold spec_DrawCutActs.f
 repeat' first
   | (with_reducible exact spec_l01New.mono _ _)
   | (with_reducible exact spec_l03Acts.mono _ _ _ _ _)
   | (with_reducible exact spec_l03Disk.mono _ _ _ _)
   | (with_reducible exact spec_l03Left.mono _ _ _ _)
   | (with_reducible exact LeO.refl _)
   | (with_reducible refine LeO.bind ?_ (fun _ => ?_))
def spec_DrawCutActs.T4 : Bool × List (List Nat × List Nat) := (true, [([], []), ([], []), ([], []), ([], []), ([3], [3]), ([4], [4]), ([2, 5], [2, 5]), ([], []), ([7, 6], [7]), ([0, 8, 0], [0]), ([1, 9, 0, 1, 9], [1]), ([6, 10, 0, 1, 2, 3, 4, 5, 6, 9, 10], [6]), ([8, 11, 0, 1, 2, 3, 4, 5, 6, 7, 8, 9, 10, 11], [8])])
def spec_DrawCutActs.B4 : List Nat := [0, 0, 0, 0, 8, 24, 60, 0, 252, 509, 1023, 2047, 4095]
theorem spec_DrawCutActs.tab4 : rtab .any (opsOf Try.f24 4) = spec_DrawCutActs.T4 := by kernel_rfl
theorem spec_DrawCutActs.bits4 : waitsOk spec_DrawCutActs.T4.2 spec_DrawCutActs.B4 = true := by kernel_rfl
set_option maxHeartbeats 8000000 in
set_option maxRecDepth 100000 in
theorem spec_DrawCutActs.calls (k : Nat) (A0 : Option Addr) (c0 : Nat) (l0 : List Int) (r1 : List (S76)) (r2 : List (S35)) (r3 : Int) (r4 : List Int) (w : World) (hr0 : Kd.C (Kd.int .u8) w A0 l0.length l0) (hc0 : l0.length ≤ c0) (h : spec_DrawCutActs.f k l0 = some (r1, r2, r3, r4)) :
  Calls Try.prog 24 #[.slice A0 l0.length c0] w fun e w' => ∃ v0_ v1_ v3_ : Value, e = .returned (.tuple #[.agg #[v0_], v1_, .int .i64 r3, v3_]) ∧ Kd.R k76 76 w' w.heap.size (fun _ => True) v0_ r1 ∧ Kd.R k35 35 w' w.heap.size (fun _ => True) v1_ r2 ∧ Kd.R (Kd.int .i64) 3 w' w.heap.size (fun _ => True) v3_ r4 ∧ Below w.heap.size w w' := by
 have hu31 := Try.underlying31
 have HR0 := Aside0.mk hr0
 have HC0 := Aside0.mk hc0
 clear hr0 hc0
 have HB := mk_ (Below.refl w.heap.size w)
 have H : ((spec_l01New.f k l0).bind fun bt408 => ((spec_l03Disk.f k bt408.1 bt408.2.1 bt408.2.2).bind fun bt412 => ((spec_l03Acts.f k bt408.1 bt412.2.1 bt412.2.2 bt412.1).bind fun bt418 => ((spec_l01Place.f bt408.1 bt418.2.1 bt418.2.2 (wrap64 ((bt418.1.length : Int) + 1))).bind fun bt423 => ((spec_l03Left.f k bt408.1 bt423.2.1 bt423.2.2).bind fun bt426 => (some (bt412.1, bt418.1, bt423.1, bt426.1))))))) = some (r1, r2, r3, r4) := h
 clear h
 replace H := Option.bind_eq_some_iff.mp H
 obtain ⟨⟨t408, t409, t410⟩, A20, H⟩ := H
 try dsimp only at H
 have A2 := Aside0.mk A20
 clear A20
 replace H := Option.bind_eq_some_iff.mp H
 obtain ⟨⟨t412, t415, t416⟩, A30, H⟩ := H
 try dsimp only at H
 have A3 := Aside0.mk A30
 clear A30
 replace H := Option.bind_eq_some_iff.mp H
 obtain ⟨⟨t418, t421, t422⟩, A40, H⟩ := H
 try dsimp only at H
 have A4 := Aside0.mk A40
 clear A40
 replace H := Option.bind_eq_some_iff.mp H
 obtain ⟨⟨t423, t424, t425⟩, A50, H⟩ := H
 try dsimp only at H
 have A5 := Aside0.mk A50
 clear A50
 replace H := Option.bind_eq_some_iff.mp H
 obtain ⟨⟨t426, t429, t430⟩, A60, H⟩ := H
 try dsimp only at H
 have A6 := Aside0.mk A60
 clear A60
 simp only [Option.some.injEq, Prod.mk.injEq] at H
 obtain ⟨rfl, rfl, rfl, rfl⟩ := H
 go_enter Try.func24, Try.ntmps24
 try go_wp2_with (first | ((with_reducible refine gate_dst (N := 2) rfl ?_); refine bx_ (N := 2) (cs := #[.slice none 0 0]) (t := 31) ?_; intro gb407 hg w7 hbox hb; have BK407 := mk_ (hbox); have GW407 : Aside0 (w.heap.size ≤ gb407) := bz_ hg; have GE407 := GW407; replace HB := bs_ HB hb; clear hb hbox hg) | ((with_reducible refine gate_callee (f := 54) rfl ?_); refine gl_ 10 Try.func54 #[.slice A0 l0.length c0] ?_; (with_reducible refine (spec_l01New.calls k _ _ l0 t408 t409 t410 w _ ?side1 ?side2 ?side3 A2.out).mono ?_); (case side1 => exact bw_ HB); (case side2 => exact HR0.out); (case side3 => exact HC0.out); rintro e w8 ⟨g411, rfl, hi, hb, hb2⟩; refine ⟨_, rfl, ?_⟩; have HI411 := mk_ (hi); have NB411_407 := mk_ (IsS119.ne_blk hi (blk_below (g := gb407) (o := .cells #[.slice none 0 0] 31 (0, 0)) (bp_ BK407) hb2) (by decide)); have NB407_411 := mk_ (Ne.symm (IsS119.ne_blk hi (blk_below (g := gb407) (o := .cells #[.slice none 0 0] 31 (0, 0)) (bp_ BK407) hb2) (by decide))); replace BK407 := mk_ (blk_below (g := gb407) (o := .cells #[.slice none 0 0] 31 (0, 0)) (bp_ BK407) hb2); replace HB := mk_ (hb); (try clear hb); (try clear hb2); (try clear hk); (try clear hi)) | ((with_reducible refine gate_callee (f := 55) rfl ?_); refine gl_ 12 Try.func55 #[.pointer (some ⟨g411, 0, none⟩)] ?_; (with_reducible refine (spec_l03Disk.calls k g411 t408 t409 t410 t412 t415 t416 w _ ?side1 ?side2 A3.out).mono ?_); (case side1 => exact IsS119.ii_ HI411); (case side2 => exact bwi_ HB (IsS119.ge HI411.out)); rintro e w9 ⟨v413, rfl, ho0, hi, hb, hk⟩; refine ⟨_, rfl, ?_⟩; have HO414 := mk_ (Kd.R_lower ho0 (below_size (bwi_ HB (IsS119.ge HI411.out)))); replace BK407 := kz_ BK407 hk NB407_411; replace HB := mk_ (hb); replace HI411 := mk_ (hi); (try clear hb); (try clear hb2); (try clear hk); (try clear hi); (try clear ho0)) | ((with_reducible refine gate_dst (N := 7) rfl ?_); refine bx_ (N := 7) (cs := #[.slice none 0 0]) (t := 31) ?_; intro gb417 hg w10 hbox hb; have n2_ := mk_ (IsS119.below (IsS119.ii_ HI411) hb); have n3_ := mk_ (below_step (bwi_ HB (IsS119.ge HI411.out)) hb); have n4_ := mk_ (hbox); have n5_ := mk_ ((by rw [hg]; exact (below_size (bwi_ HB (IsS119.ge HI411.out))) : w.heap.size ≤ gb417)); have n6_ := mk_ ((by rw [hg]; exact (below_size (bwi_ HB (IsS119.ge HI411.out))) : w.heap.size ≤ gb417)); have n7_ : Aside0 (gb407 ≠ gb417) := bl_ BK407 hg; have n8_ : Aside0 (gb417 ≠ gb407) := bg_ BK407 hg; have n9_ := mk_ ((by rw [hg]; exact Nat.ne_of_lt (IsS119.lt (show IsS119 w _ g411 t408 t415 t416 from IsS119.ii_ HI411)) : g411 ≠ gb417)); have n10_ := mk_ ((by rw [hg]; exact Nat.ne_of_gt (IsS119.lt (show IsS119 w _ g411 t408 t415 t416 from IsS119.ii_ HI411)) : gb417 ≠ g411)); clear HI411; clear HB; have HI411 := n2_; have HB := n3_; have BK417 := n4_; have GW417 := n5_; have GE417 := n6_; have NB407_417 := n7_; have NB417_407 := n8_; have NB411_417 := n9_; have NB417_411 := n10_; clear n2_ n3_ n4_ n5_ n6_ n7_ n8_ n9_ n10_; replace HO414 := rb_ HO414 hb; replace BK407 := bb_ BK407 hb; clear hb hbox hg; obtain ⟨Ao11, co11, eo11⟩ := Kd.R_slice HO414.out; subst eo11; obtain ⟨hnb12, hnc12⟩ := ns_ NB417_407; obtain ⟨hnb13, hnc13⟩ := ns_ NB417_411; obtain ⟨hcz14_0, hfz14_0⟩ := b1_ BK417) | ((with_reducible refine gate_store (t := 31) (p := 7) rfl ?_); refine store_event (t := 31) (p := 7) (v := ?vo_w15) (w1 := (w10.setCell ⟨gb417, 0, none⟩ (.slice Ao11 t412.length co11))) ?hg ?ho ?hn ?hr ?_; (case ho => rfl); (case hg => rfl); (case hn => rfl); (case hr => first | (go_simp; done) | (go_simp; rfl)); intro w15 hw; have n0_ : Aside0 (Kd.R k76 76 w15 w.heap.size (fun _ => True) (.slice Ao11 t412.length co11) t412) := ⟨(by rw [hw]; exact (rq_ (rt_ HO414 BK417 0 (.slice Ao11 t412.length co11))))⟩; have n1_ : Aside0 (w15.heap[gb407]? = some (.cells #[.slice none 0 0] 31 (0, 0))) := ⟨(by rw [hw]; exact bf_)⟩; have n2_ : Aside0 (w15.heap[gb417]? = some (.cells #[.slice Ao11 t412.length co11] 31 (0, 0))) := ⟨(by rw [hw]; exact bu_)⟩; have n3_ : Aside0 (IsS119 w w15 g411 t408 t415 t416) := ⟨(by rw [hw]; exact (IsS119.ii_ HI411))⟩; have n4_ : Aside0 (Below w.heap.size w w15) := ⟨(by rw [hw]; exact (bwi_ HB (IsS119.ge HI411.out)))⟩; clear hw; clear HO414; clear BK407; clear BK417; clear HI411; clear HB; have HO414 := n0_; have BK407 := n1_; have BK417 := n2_; have HI411 := n3_; have HB := n4_; clear n0_ n1_ n2_ n3_ n4_; obtain ⟨hcz16_0, hfz16_0⟩ := b1_ BK417) | ((with_reducible refine gate_callee (f := 56) rfl ?_); refine gl_ 15 Try.func56 #[.pointer (some ⟨g411, 0, none⟩), .agg #[.slice Ao11 t412.length co11]] ?_; (with_reducible refine (spec_l03Acts.calls k g411 t408 t415 t416 (fun k_ => some k_ = (.slice Ao11 t412.length co11 : Value).ownBlock) _ _ t412 t418 t421 t422 w _ ?side1 ?side2 ?side3 A4.out).mono ?_); (case side1 => exact IsS119.ii_ HI411); (case side2 => exact bwi_ HB (IsS119.ge HI411.out)); (case side3 => exact Kd.V_mono (Kd.R_V (Kd.R_tight rfl (IsS119.apart HI411.out (Kd.R_types (Kd.R_types (HO414.out) BK407.out (by decide)) BK417.out (by decide)) (by decide)))) (fun k_ hk_ => ⟨hk_, ((IsS119.apart HI411.out (Kd.R_types (Kd.R_types (HO414.out) BK407.out (by decide)) BK417.out (by decide)) (by decide)).1 k_ hk_.symm).2⟩)); rintro e w17 ⟨v419, rfl, ho0, hi, hb, hk⟩; refine ⟨_, rfl, ?_⟩; have HO420 := mk_ (Kd.R_lower (Kd.R_mono (ok' := fun k_ => True) ho0 (fun _ hk_ => trivial)) (below_size (bwi_ HB (IsS119.ge HI411.out)))); replace BK407 := kz_ BK407 hk NB407_411; replace HO414 := mk_ (Kd.R_mono (Kd.R_keep (IsS119.apart (show IsS119 w _ g411 t408 t415 t416 from IsS119.ii_ HI411) (rp_ HO414) (by decide)) hk (fun _ h => h.2)) (fun _ h => h.1)); replace BK417 := kz_ BK417 hk NB417_411; replace HB := mk_ (hb); replace HI411 := mk_ (hi); (try clear hb); (try clear hb2); (try clear hk); (try clear hi); (try clear ho0)))
 have n4_ := mk_ (IsS119.drew HI411.out)
 clear HI411; have HI411 := n4_; clear n4_; replace HO414 := rd_ HO414; replace HO420 := rd_ HO420; replace BK407 := kd_ BK407; replace BK417 := kd_ BK417; replace HB := wd_ HB
 obtain ⟨Ao19, co19, eo19⟩ := Kd.R_slice HO420.out
 (first | subst eo19 | (injection eo19 with f1_ f2_ f3_; have f4_ := f1_.symm; have f5_ := f3_.symm; clear f1_ f2_ f3_; subst f4_; subst f5_))
 refine start_ (n := 13) (S := fun w' => w'.cell? ⟨gb417, 0, none⟩ = some (.slice Ao11 t412.length co11)) (ds := []) #[false, false, false, false, false, false, false, false, false, false, false, false, false] (by kernel_rfl) rfl rfl (bc_ BK417 0) (fun hHeld => ?_); refine with_tabW spec_DrawCutActs.tab4 spec_DrawCutActs.bits4 (fun HT_ HW_ => ?_)
 generalize w17.drew = w18 at HO414 HO420 BK407 BK417 HI411 HB hHeld ⊢
 refine pv_ 1 17 ?_
 refine pv_ 2 18 ?_
 refine pv_ 3 19 ?_
 refine pv_ 4 20 ?_
 refine pv_ 5 21 ?_
 refine pv_ 7 23 ?_
 refine take_ (i := 0) (N := some 16) (v := ?_) (a' := ?_) #[true, true, true, true, true, true, false, true, false, false, false, false, false] rfl rfl (take_ofW HT_.out HW_.out (by kernel_rfl)) (fun _ _ _ h => h) (Or.inl ⟨by rfl, ?_⟩) hHeld ?_ ?_
 rotate_left
 ·intro w' s0
  go_simp
  with_reducible rfl
 rotate_left
 ·simp only [Act.put, sia_, scz_, scs_, i64_w, i32_w]
  rfl
 refine one_ (i := 6) (N := some 22) #[true, true, true, true, true, true, true, true, false, false, false, false, false] rfl rfl (one_of HT_.out (by kernel_rfl)) (by decide) (fun K hK => ?_)
 refine goes_ Try.func57 (by kernel_rfl) rfl #[.pointer (some ⟨g411, 0, none⟩), .int .i64 (wrap64 ((t418.length : Int) + 1))] (by rfl) rfl rfl ga_ ?_
 with_reducible refine (spec_l01Place.calls g411 t408 t421 t422 (wrap64 ((t418.length : Int) + 1)) t423 t424 t425 w _ ?side1 ?side2 A5.out).mono ?_
 (case side1 => exact IsS119.ii_ HI411)
 (case side2 => exact bwi_ HB (IsS119.ge HI411.out))
 rintro e w20 ⟨rfl, hi, hb, hk⟩
 refine ⟨_, rfl, ?_⟩
 have n0_ := mk_ (KeepBut.blk hk (g' := gb407) (o := .cells #[.slice none 0 0] 31 (0, 0)) (bp_ BK407) NB407_411.out (by simp))
 have n1_ := mk_ (Kd.R_mono (Kd.R_keep (IsS119.apart (show IsS119 w _ g411 t408 t421 t422 from IsS119.ii_ HI411) (rp_ HO414) (by decide)) hk (fun _ h => h.2)) (fun _ h => h.1))
 have n2_ := mk_ (KeepBut.blk hk (g' := gb417) (o := .cells #[.slice Ao11 t412.length co11] 31 (0, 0)) (bp_ BK417) NB417_411.out (by simp))
 have n3_ := mk_ (Kd.R_mono (Kd.R_keep (IsS119.apart (show IsS119 w _ g411 t408 t421 t422 from IsS119.ii_ HI411) (rp_ HO420) (by decide)) hk (fun _ h => h.2)) (fun _ h => h.1))
 have n4_ := mk_ (hb)
 have n5_ := mk_ (hi)
 clear BK407; clear HO414; clear BK417; clear HO420; clear HB; clear HI411; have BK407 := n0_; have HO414 := n1_; have BK417 := n2_; have HO420 := n3_; have HB := n4_; have HI411 := n5_; clear n0_ n1_ n2_ n3_ n4_ n5_; (try clear hb); (try clear hb2); (try clear hk); (try clear hi)
 refine hK.out _ _ (bc_ BK417 0) (fun hHeld => ?_)
 clear hK K
 refine norm_ (a' := ?_) ?_ ?_
 rotate_left
 ·show Act.put _ (some 22) _ = _
  simp only [Act.put, sia_, scz_, scs_, i64_w, i32_w]
  rfl
 refine one_ (i := 8) (N := some 24) #[true, true, true, true, true, true, true, true, true, false, false, false, false] rfl rfl (one_of HT_.out (by kernel_rfl)) (by decide) (fun K hK => ?_)
 refine goes_ Try.func58 (by kernel_rfl) rfl #[.pointer (some ⟨g411, 0, none⟩)] (by rfl) rfl rfl ga_ ?_
 with_reducible refine (spec_l03Left.calls k g411 t408 t424 t425 t426 t429 t430 w _ ?side1 ?side2 A6.out).mono ?_
 (case side1 => exact IsS119.ii_ HI411)
 (case side2 => exact bwi_ HB (IsS119.ge HI411.out))
 rintro e w21 ⟨v427, rfl, ho0, hi, hb, hk⟩
 refine ⟨_, rfl, ?_⟩
 have n0_ := mk_ (KeepBut.blk hk (g' := gb407) (o := .cells #[.slice none 0 0] 31 (0, 0)) (bp_ BK407) NB407_411.out (by simp))
 have n1_ := mk_ (Kd.R_mono (Kd.R_keep (IsS119.apart (show IsS119 w _ g411 t408 t424 t425 from IsS119.ii_ HI411) (rp_ HO414) (by decide)) hk (fun _ h => h.2)) (fun _ h => h.1))
 have n2_ := mk_ (KeepBut.blk hk (g' := gb417) (o := .cells #[.slice Ao11 t412.length co11] 31 (0, 0)) (bp_ BK417) NB417_411.out (by simp))
 have n3_ := mk_ (Kd.R_mono (Kd.R_keep (IsS119.apart (show IsS119 w _ g411 t408 t424 t425 from IsS119.ii_ HI411) (rp_ HO420) (by decide)) hk (fun _ h => h.2)) (fun _ h => h.1))
 have n4_ := mk_ (Kd.R_lower ho0 (below_size (bwi_ HB (IsS119.ge HI411.out))))
 have n5_ := mk_ (hb)
 have n6_ := mk_ (hi)
 clear BK407; clear HO414; clear BK417; clear HO420; clear HB; clear HI411; have BK407 := n0_; have HO414 := n1_; have BK417 := n2_; have HO420 := n3_; have HO428 := n4_; have HB := n5_; have HI411 := n6_; clear n0_ n1_ n2_ n3_ n4_ n5_ n6_; (try clear hb); (try clear hb2); (try clear hk); (try clear hi); (try clear ho0)
 refine hK.out _ _ (bc_ BK417 0) (fun hHeld => ?_)
 clear hK K
 refine norm_ (a' := ?_) ?_ ?_
 rotate_left
 ·show Act.put _ (some 24) _ = _
  simp only [Act.put, sia_, scz_, scs_, i64_w, i32_w]
  rfl
 refine one_ (i := 9) (N := none) #[true, true, true, true, true, true, true, true, true, true, false, false, false] rfl rfl (one_of HT_.out (by kernel_rfl)) (by decide) (fun K hK => ?_)
 have hs22 : w21.cell? ⟨gb407, 0, none⟩ = some (.slice none 0 0) := bc_ BK407 0
 have hfs22 := blk_frozen BK407.out 0
 have hns22_1 := NB417_407.out
 have hms22_1 := NB407_417.out
 refine skip_ (w1 := ?_) (by rfl) rfl ?_ ?_
 rotate_left
 ·go_simp
  rfl
 refine hK.out _ _ (((cell_far (p := ⟨gb407, _, none⟩) NB417_407.out _).trans (hHeld))) (fun hHeld => ?_)
 clear hK K
 refine pv_ 10 3 ?_
 refine pv_ 11 4 ?_
 refine pv_ 12 5 ?_
 refine done_ (done_of HT_.out (by kernel_rfl)) ?_
 try go_wp2
 refine bodyPost_ret (results_list (rs := [.cell 2 31, .tmp 3, .tmp 4, .tmp 5]) rfl (by simp) (.cell gb407 31 #[.slice Ao11 t412.length co11] (0, 0) _ rfl bu_ Try.underlying31 rfl (by kernel_rfl) (.tmp (.tmp (.tmp .nil))))) rfl ?_
 exact ⟨_, _, _, er_, rq_ (rt_ HO414 BK407 0 (.slice Ao11 t412.length co11)), rq_ (rt_ HO420 BK407 0 (.slice Ao11 t412.length co11)), rq_ (rt_ HO428 BK407 0 (.slice Ao11 t412.length co11)), bwi_ HB (IsS119.ge HI411.out)⟩

end Go.Proofs.Ythbaoefbccdioaa.QFnActs
