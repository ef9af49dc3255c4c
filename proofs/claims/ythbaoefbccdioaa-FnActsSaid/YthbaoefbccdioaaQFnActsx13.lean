/- Written by this session's own program (wip/tpl/pp.py): what the law's functions come to, and that the machine's calls do just that. -/
import Derived.Test.YthbaoefbccdioaaTMPack
import Derived.Test.YthbaoefbccdioaaQFnActsx0
import Derived.Test.YthbaoefbccdioaaQFnActsx1
import Derived.Test.YthbaoefbccdioaaQFnActsx2
namespace Go.Proofs.Ythbaoefbccdioaa.QFnActs
open Go.RowKit Go.Proofs.YthbaoefbccdioaaW.PrintWords Go.Proofs.YthbaoefbccdioaaW.PrintLast Go.Proofs.YthbaoefbccdioaaW.PrintMore
attribute [local go_sem] Go.Proofs.Ythbaoefbccdioaa.Sem.string_geq Go.Proofs.Ythbaoefbccdioaa.Sem.string_leq Go.Proofs.Ythbaoefbccdioaa.Sem.string_gtr
attribute [local go_sem] max2_int min2_int max_two min_two max_three min_three max_four min_four   -- for this text's walks alone
set_option linter.unusedVariables false
set_option linter.unusedSimpArgs false

attribute [local go_sem high] eqA76
/-! ### laws_sameDisk: function 25 -/
def laws_sameDisk.l0 : Nat → Int → List (S76) → List (S76) → Option (Bool)
 | 0, _, _, _ => none
 | k + 1, x5, x432000, x433000 => if x5 < (x432000.length : Int) then (if 0 ≤ x5 then (if x5 < (x433000.length : Int) then (if (!((((rd_T76 x432000 x5).f0).toList) == (((rd_T76 x433000 x5).f0).toList)) || (!((((rd_T76 x432000 x5).f1).toList) == (((rd_T76 x433000 x5).f1).toList)) || (!(((rd_T76 x432000 x5).f2) == ((rd_T76 x433000 x5).f2))))) = true then (some false) else (laws_sameDisk.l0 k (wrap64 (x5 + 1)) x432000 x433000)) else (none)) else (none)) else (some true)
def laws_sameDisk.f (k : Nat) (l0_0 : List (S76)) (l1_0 : List (S76)) : Option (Bool) := if (l0_0.length : Int) = (l1_0.length : Int) then (laws_sameDisk.l0 k 0 l0_0 l1_0) else (some false)
theorem laws_sameDisk.mono_l : ∀ k, (∀ y0 y1 y2, LeO (laws_sameDisk.l0 k y0 y1 y2) (laws_sameDisk.l0 (k + 1) y0 y1 y2))
 | 0 => fun _ _ _ r h => by simp [laws_sameDisk.l0] at h
 | k + 1 => by
  have ih0 := laws_sameDisk.mono_l k
  ·intro y0 y1 y2
   unfold laws_sameDisk.l0
   repeat' first
   | (with_reducible exact ih0 _ _ _)
   | (with_reducible exact LeO.refl _)
   | (with_reducible refine LeO.ite ?_ ?_)
theorem laws_sameDisk.mono : ∀ a0 a1 k, LeO (laws_sameDisk.f k a0 a1) (laws_sameDisk.f (k + 1) a0 a1) := by
 intro a0 a1 k
 have ih0 := laws_sameDisk.mono_l k
 unfold laws_sameDisk.f
 repeat' first
   | (with_reducible exact ih0 _ _ _)
   | (with_reducible exact LeO.refl _)
   | (with_reducible refine LeO.ite ?_ ?_)
set_option maxHeartbeats 8000000 in
set_option maxRecDepth 100000 in
theorem laws_sameDisk.calls (k : Nat) (A0_0 : Option Addr) (c0_0 : Nat) (l0_0 : List (S76)) (A1_0 : Option Addr) (c1_0 : Nat) (l1_0 : List (S76)) (r : Bool) (w : World) (hr0_0 : Kd.C k76 w A0_0 l0_0.length l0_0) (hc0_0 : l0_0.length ≤ c0_0) (hr1_0 : Kd.C k76 w A1_0 l1_0.length l1_0) (hc1_0 : l1_0.length ≤ c1_0) (h : laws_sameDisk.f k l0_0 l1_0 = some r) :
  Calls Try.prog 25 #[.agg #[.slice A0_0 l0_0.length c0_0], .agg #[.slice A1_0 l1_0.length c1_0]] w fun e w' => e = .returned (.bool r) ∧ Below w.heap.size w w' := by
 have hu31 := Try.underlying31
 have hu76 := Try.underlying76
 have HR0_0 := Aside0.mk hr0_0
 have HC0_0 := Aside0.mk hc0_0
 clear hr0_0 hc0_0
 have HR1_0 := Aside0.mk hr1_0
 have HC1_0 := Aside0.mk hc1_0
 clear hr1_0 hc1_0
 have HB := mk_ (Below.refl w.heap.size w)
 have H : (if (l0_0.length : Int) = (l1_0.length : Int) then (laws_sameDisk.l0 k 0 l0_0 l1_0) else (some false)) = some r := h
 clear h
 by_cases c3 : (l0_0.length : Int) = (l1_0.length : Int)
 rotate_left
 ·rw [if_neg c3] at H
  have c3b0 : ((l0_0.length : Int) == (l1_0.length : Int)) = false := beq_eq_false_iff_ne.mpr c3
  have c3b1 : ((l0_0.length : Int) != (l1_0.length : Int)) = true := bne_iff_ne.mpr c3
  have c3b2 : (l0_0.length == l1_0.length) = false := by first | simpa using c3 | (simp at c3 ⊢; omega)
  obtain rfl := Option.some.inj H
  go_enter Try.func25, Try.ntmps25
  go_wp2_with (first | ((with_reducible refine gate_dst (N := 2) rfl ?_); refine bx_ (N := 2) (cs := #[.slice A0_0 l0_0.length c0_0]) (t := 31) ?_; intro gb431 hg w21 hbox hb; have BK431 := mk_ (hbox); have GW431 : Aside0 (w.heap.size ≤ gb431) := bz_ hg; have GE431 := GW431; replace HB := bs_ HB hb; clear hb hbox hg) | ((with_reducible refine gate_dst (N := 3) rfl ?_); refine bx_ (N := 3) (cs := #[.slice A1_0 l1_0.length c1_0]) (t := 31) ?_; intro gb432 hg w22 hbox hb; have BK432 := mk_ (hbox); have GW432 : Aside0 (w.heap.size ≤ gb432) := bz_ hg; have GE432 := GW432; have NB431_432 := bl_ BK431 hg; have NB432_431 := bg_ BK431 hg; replace BK431 := bb_ BK431 hb; replace HB := bs_ HB hb; clear hb hbox hg; obtain ⟨hnb23, hnc23⟩ := ns_ NB431_432; obtain ⟨hcz24_0, hfz24_0⟩ := b1_ BK431; obtain ⟨hcz25_0, hfz25_0⟩ := b1_ BK432))
  go_ret
  exact ⟨er_, bw_ HB⟩
 rw [if_pos c3] at H
 have c3b0 : ((l0_0.length : Int) == (l1_0.length : Int)) = true := beq_iff_eq.mpr c3
 have c3b1 : ((l0_0.length : Int) != (l1_0.length : Int)) = false := bne_eq_false_iff_eq.mpr c3
 have c3b2 : (l0_0.length == l1_0.length) = true := by first | simpa using c3 | (simp at c3 ⊢; omega)
 clear c3
 have H' := Aside0.mk H
 clear H
 go_enter Try.func25, Try.ntmps25
 go_wp2_with (first | ((with_reducible refine gate_dst (N := 2) rfl ?_); refine bx_ (N := 2) (cs := #[.slice A0_0 l0_0.length c0_0]) (t := 31) ?_; intro gb431 hg w4 hbox hb; have BK431 := mk_ (hbox); have GW431 : Aside0 (w.heap.size ≤ gb431) := bz_ hg; have GE431 := GW431; replace HB := bs_ HB hb; clear hb hbox hg) | ((with_reducible refine gate_dst (N := 3) rfl ?_); refine bx_ (N := 3) (cs := #[.slice A1_0 l1_0.length c1_0]) (t := 31) ?_; intro gb432 hg w5 hbox hb; have BK432 := mk_ (hbox); have GW432 : Aside0 (w.heap.size ≤ gb432) := bz_ hg; have GE432 := GW432; have NB431_432 := bl_ BK431 hg; have NB432_431 := bg_ BK431 hg; replace BK431 := bb_ BK431 hb; replace HB := bs_ HB hb; clear hb hbox hg; obtain ⟨hnb6, hnc6⟩ := ns_ NB431_432; obtain ⟨hcz7_0, hfz7_0⟩ := b1_ BK431; obtain ⟨hcz8_0, hfz8_0⟩ := b1_ BK432))
 go_loopg [5] k (fun kq v5 w' => ∃ (x5_1 : Int), v5 = .int .i64 x5_1 ∧ Aside0 (laws_sameDisk.l0 kq x5_1 l0_0 l1_0 = some r) ∧ Aside0 (kq ≤ k) ∧ Aside0 (w'.heap[gb431]? = some (.cells #[(.slice A0_0 l0_0.length c0_0)] 31 (0, 0))) ∧ Aside0 (w'.heap[gb432]? = some (.cells #[(.slice A1_0 l1_0.length c1_0)] 31 (0, 0))) ∧ Aside0 (Below w.heap.size w w'))
 case atStart => exact ⟨(0), (by first | rfl | (simp; done) | (simp [*]; done) | (simp [bne]; done)), H', ⟨Nat.le_refl _⟩, ⟨bf_⟩, ⟨bf_⟩, ⟨bw_ HB⟩⟩
 case round =>
  clear H'
  (try clear c1); (try clear c2); (try clear p2); (try clear c3); (try clear c3b0); (try clear c3b1); (try clear c3b2); (try clear c6); (try clear hcz7_0); (try clear hcz8_0); (try clear hfz7_0); (try clear hfz8_0)
  obtain ⟨x5_1, rfl, HA, HK1, BK431, BK432, HB⟩ := hrel
  cases gk with
  | zero => exact absurd HA.out (by simp [laws_sameDisk.l0])
  | succ k1 =>
   have H := HA.out
   clear HA
   simp only [laws_sameDisk.l0] at H
   by_cases c9 : x5_1 < (l0_0.length : Int)
   rotate_left
   ·rw [if_neg c9] at H
    have c9b0 : decide (x5_1 < (l0_0.length : Int)) = false := decide_eq_false c9
    clear c9
    obtain rfl := Option.some.inj H
    obtain ⟨hnb19, hnc19⟩ := ns_ NB431_432
    have hcz20_0 : wr.cell? ⟨gb431, 0, none⟩ = some (.slice A0_0 l0_0.length c0_0) := bc_ BK431 0
    have hfz20_0 := blk_frozen BK431.out 0
    go_wp2
    go_ret
    exact ⟨er_, bw_ HB⟩
   rw [if_pos c9] at H
   have c9b0 : decide (x5_1 < (l0_0.length : Int)) = true := decide_eq_true c9
   clear c9
   by_cases c10 : 0 ≤ x5_1
   rotate_left
   ·rw [if_neg c10] at H
    exact absurd H (by simp)
   rw [if_pos c10] at H
   have c10b0 : decide (0 ≤ x5_1) = true := decide_eq_true c10
   clear c10
   by_cases c11 : x5_1 < (l1_0.length : Int)
   rotate_left
   ·rw [if_neg c11] at H
    exact absurd H (by simp)
   rw [if_pos c11] at H
   have c11b0 : decide (x5_1 < (l1_0.length : Int)) = true := decide_eq_true c11
   clear c11
   by_cases c12 : (!((((rd_T76 l0_0 x5_1).f0).toList) == (((rd_T76 l1_0 x5_1).f0).toList)) || (!((((rd_T76 l0_0 x5_1).f1).toList) == (((rd_T76 l1_0 x5_1).f1).toList)) || (!(((rd_T76 l0_0 x5_1).f2) == ((rd_T76 l1_0 x5_1).f2))))) = true
   ·rw [if_pos c12] at H
    have c12b0 : (!((((rd_T76 l0_0 x5_1).f0).toList) == (((rd_T76 l1_0 x5_1).f0).toList)) || (!((((rd_T76 l0_0 x5_1).f1).toList) == (((rd_T76 l1_0 x5_1).f1).toList)) || (!(((rd_T76 l0_0 x5_1).f2) == ((rd_T76 l1_0 x5_1).f2))))) = true := c12
    clear c12
    obtain rfl := Option.some.inj H
    obtain ⟨hnb13, hnc13⟩ := ns_ NB431_432
    have hcz14_0 : wr.cell? ⟨gb431, 0, none⟩ = some (.slice A0_0 l0_0.length c0_0) := bc_ BK431 0
    have hfz14_0 := blk_frozen BK431.out 0
    have p433 : 0 ≤ (x5_1 : Int) := od_
    have q433 : x5_1 < (l0_0.length : Int) := od_
    obtain ⟨ad433, e433, hx433_0, hx433_1, hx433_2⟩ := at_T76 HR0_0.out x5_1 p433 q433
    cases e433
    replace hx433_0 := hc_ HB hx433_0
    replace hx433_1 := hc_ HB hx433_1
    replace hx433_2 := hc_ HB hx433_2
    replace p433 := eq_true p433
    replace q433 := eq_true q433
    have hcz15_0 : wr.cell? ⟨gb432, 0, none⟩ = some (.slice A1_0 l1_0.length c1_0) := bc_ BK432 0
    have hfz15_0 := blk_frozen BK432.out 0
    have p434 : 0 ≤ (x5_1 : Int) := od_
    have q434 : x5_1 < (l1_0.length : Int) := od_
    obtain ⟨ad434, e434, hx434_0, hx434_1, hx434_2⟩ := at_T76 HR1_0.out x5_1 p434 q434
    cases e434
    replace hx434_0 := hc_ HB hx434_0
    replace hx434_1 := hc_ HB hx434_1
    replace hx434_2 := hc_ HB hx434_2
    replace p434 := eq_true p434
    replace q434 := eq_true q434
    go_wp2
    repeat (go_quiet (fail); try go_wp2)
    go_ret
    exact ⟨er_, bw_ HB⟩
   rw [if_neg c12] at H
   have c12b0 : (!((((rd_T76 l0_0 x5_1).f0).toList) == (((rd_T76 l1_0 x5_1).f0).toList)) || (!((((rd_T76 l0_0 x5_1).f1).toList) == (((rd_T76 l1_0 x5_1).f1).toList)) || (!(((rd_T76 l0_0 x5_1).f2) == ((rd_T76 l1_0 x5_1).f2))))) = false := by simpa using c12
   clear c12
   have H' := Aside0.mk H
   clear H
   obtain ⟨hnb16, hnc16⟩ := ns_ NB431_432
   have hcz17_0 : wr.cell? ⟨gb431, 0, none⟩ = some (.slice A0_0 l0_0.length c0_0) := bc_ BK431 0
   have hfz17_0 := blk_frozen BK431.out 0
   have p433 : 0 ≤ (x5_1 : Int) := od_
   have q433 : x5_1 < (l0_0.length : Int) := od_
   obtain ⟨ad433, e433, hx433_0, hx433_1, hx433_2⟩ := at_T76 HR0_0.out x5_1 p433 q433
   cases e433
   replace hx433_0 := hc_ HB hx433_0
   replace hx433_1 := hc_ HB hx433_1
   replace hx433_2 := hc_ HB hx433_2
   replace p433 := eq_true p433
   replace q433 := eq_true q433
   have hcz18_0 : wr.cell? ⟨gb432, 0, none⟩ = some (.slice A1_0 l1_0.length c1_0) := bc_ BK432 0
   have hfz18_0 := blk_frozen BK432.out 0
   have p434 : 0 ≤ (x5_1 : Int) := od_
   have q434 : x5_1 < (l1_0.length : Int) := od_
   obtain ⟨ad434, e434, hx434_0, hx434_1, hx434_2⟩ := at_T76 HR1_0.out x5_1 p434 q434
   cases e434
   replace hx434_0 := hc_ HB hx434_0
   replace hx434_1 := hc_ HB hx434_1
   replace hx434_2 := hc_ HB hx434_2
   replace p434 := eq_true p434
   replace q434 := eq_true q434
   go_wp2
   repeat (go_quiet (fail); try go_wp2)
   go_roundg k1
   case measure => have := HK1.out; omega
   case rel => exact ⟨(wrap64 (x5_1 + 1)), (by first | rfl | (simp; done) | (simp [*]; done) | (simp [bne]; done)), H', ⟨by have := HK1.out; omega⟩, ⟨bf_⟩, ⟨bf_⟩, ⟨bw_ HB⟩⟩

/-! ### impl_FileAt: function 26 -/
def impl_FileAt.f (l0_0 : List (S76)) (a1 : ByteArray) : Option (ByteArray × Bool) := (impl_fileAt.f l0_0 a1).bind fun t436 => (if t436 < 0 then (some ((⟨#[]⟩ : ByteArray), false)) else (if 0 ≤ t436 then (if t436 < (l0_0.length : Int) then (some ((rd_T76 l0_0 t436).f1, true)) else (none)) else (none)))
set_option maxHeartbeats 8000000 in
set_option maxRecDepth 100000 in
theorem impl_FileAt.calls (A0_0 : Option Addr) (c0_0 : Nat) (l0_0 : List (S76)) (a1 : ByteArray) (r1 : ByteArray) (r2 : Bool) (w : World) (hr0_0 : Kd.C k76 w A0_0 l0_0.length l0_0) (hc0_0 : l0_0.length ≤ c0_0) (h : impl_FileAt.f l0_0 a1 = some (r1, r2)) :
  Calls Try.prog 26 #[.agg #[.slice A0_0 l0_0.length c0_0], .string a1] w fun e w' => e = .returned (.tuple #[.string r1, .bool r2]) ∧ Below w.heap.size w w' := by
 have hu31 := Try.underlying31
 have HR0_0 := Aside0.mk hr0_0
 have HC0_0 := Aside0.mk hc0_0
 clear hr0_0 hc0_0
 have HB := mk_ (Below.refl w.heap.size w)
 have H : ((impl_fileAt.f l0_0 a1).bind fun t436 => (if t436 < 0 then (some ((⟨#[]⟩ : ByteArray), false)) else (if 0 ≤ t436 then (if t436 < (l0_0.length : Int) then (some ((rd_T76 l0_0 t436).f1, true)) else (none)) else (none)))) = some (r1, r2) := h
 clear h
 replace H := Option.bind_eq_some_iff.mp H
 obtain ⟨t436, A30, H⟩ := H
 try dsimp only at H
 have A3 := Aside0.mk A30
 clear A30
 by_cases c4 : t436 < 0
 ·rw [if_pos c4] at H
  have c4b0 : decide (t436 < 0) = true := decide_eq_true c4
  clear c4
  simp only [Option.some.injEq, Prod.mk.injEq] at H
  obtain ⟨rfl, rfl⟩ := H
  go_enter Try.func26, Try.ntmps26
  go_wp2_with (first | ((with_reducible refine gate_dst (N := 2) rfl ?_); refine bx_ (N := 2) (cs := #[.slice A0_0 l0_0.length c0_0]) (t := 31) ?_; intro gb435 hg w5 hbox hb; have BK435 := mk_ (hbox); have GW435 : Aside0 (w.heap.size ≤ gb435) := bz_ hg; have GE435 := GW435; replace HB := bs_ HB hb; clear hb hbox hg; obtain ⟨hcz6_0, hfz6_0⟩ := b1_ BK435) | ((with_reducible refine gate_callee (f := 44) rfl ?_); refine gl_ 9 Try.func44 #[.agg #[.slice A0_0 l0_0.length c0_0], .string a1] ?_; (with_reducible refine (impl_fileAt.calls _ _ l0_0 a1 t436 _ ?side1 ?side2 A3.out).mono ?_); (case side1 => exact cb_ HR0_0 HB); (case side2 => exact HC0_0.out); rintro e w7 ⟨rfl, hb⟩; refine ⟨_, rfl, ?_⟩; replace BK435 := bb_ BK435 hb; replace HB := bs_ HB hb; (try clear hb)))
  go_ret2
  exact ⟨er_, bw_ HB⟩
 rw [if_neg c4] at H
 have c4b0 : decide (t436 < 0) = false := decide_eq_false c4
 clear c4
 by_cases c8 : 0 ≤ t436
 rotate_left
 ·rw [if_neg c8] at H
  exact absurd H (by simp)
 rw [if_pos c8] at H
 have c8b0 : decide (0 ≤ t436) = true := decide_eq_true c8
 clear c8
 by_cases c9 : t436 < (l0_0.length : Int)
 rotate_left
 ·rw [if_neg c9] at H
  exact absurd H (by simp)
 rw [if_pos c9] at H
 have c9b0 : decide (t436 < (l0_0.length : Int)) = true := decide_eq_true c9
 clear c9
 simp only [Option.some.injEq, Prod.mk.injEq] at H
 obtain ⟨rfl, rfl⟩ := H
 go_enter Try.func26, Try.ntmps26
 go_wp2_with (first | ((with_reducible refine gate_dst (N := 2) rfl ?_); refine bx_ (N := 2) (cs := #[.slice A0_0 l0_0.length c0_0]) (t := 31) ?_; intro gb435 hg w10 hbox hb; have BK435 := mk_ (hbox); have GW435 : Aside0 (w.heap.size ≤ gb435) := bz_ hg; have GE435 := GW435; replace HB := bs_ HB hb; clear hb hbox hg; obtain ⟨hcz11_0, hfz11_0⟩ := b1_ BK435) | ((with_reducible refine gate_callee (f := 44) rfl ?_); refine gl_ 9 Try.func44 #[.agg #[.slice A0_0 l0_0.length c0_0], .string a1] ?_; (with_reducible refine (impl_fileAt.calls _ _ l0_0 a1 t436 _ ?side1 ?side2 A3.out).mono ?_); (case side1 => exact cb_ HR0_0 HB); (case side2 => exact HC0_0.out); rintro e w12 ⟨rfl, hb⟩; refine ⟨_, rfl, ?_⟩; replace BK435 := bb_ BK435 hb; replace HB := bs_ HB hb; (try clear hb); obtain ⟨hcz13_0, hfz13_0⟩ := b1_ BK435; have p437 : 0 ≤ (t436 : Int) := od_; have q437 : t436 < (l0_0.length : Int) := od_; obtain ⟨ad437, e437, hx437_0, hx437_1, hx437_2⟩ := at_T76 HR0_0.out t436 p437 q437; cases e437; replace hx437_0 := hc_ HB hx437_0; replace hx437_1 := hc_ HB hx437_1; replace hx437_2 := hc_ HB hx437_2; replace p437 := eq_true p437; replace q437 := eq_true q437))
 go_ret2
 exact ⟨er_, bw_ HB⟩

/-! ### impl_LoseDisk: function 60 -/
def impl_LoseDisk.one (x : S76) (n : Int) : S76 := ⟨x.f0, x.f1.extract 0 (max x.f2 (min n (x.f1.size : Int))).toNat, max x.f2 (min n (x.f1.size : Int))⟩
def impl_LoseDisk.row : List S76 → List Int → List S76
 | [], _ => []
 | x :: l, [] => impl_LoseDisk.one x 0 :: impl_LoseDisk.row l []
 | x :: l, n :: r => impl_LoseDisk.one x n :: impl_LoseDisk.row l r
theorem impl_LoseDisk.row_length : ∀ (l : List S76) (r : List Int), (impl_LoseDisk.row l r).length = l.length
 | [], _ => rfl
 | x :: l, [] => by simp only [impl_LoseDisk.row, List.length_cons, impl_LoseDisk.row_length l []]
 | x :: l, n :: r => by simp only [impl_LoseDisk.row, List.length_cons, impl_LoseDisk.row_length l r]
theorem impl_LoseDisk.row_get : ∀ (l : List S76) (r : List Int) (j : Nat) (h : j < (impl_LoseDisk.row l r).length) (h' : j < l.length), (impl_LoseDisk.row l r)[j] = impl_LoseDisk.one l[j] (r.getD j 0)
 | x :: l, [], 0, _, _ => rfl
 | x :: l, n :: r, 0, _, _ => rfl
 | x :: l, [], j + 1, h, h' => by
  simp only [impl_LoseDisk.row, List.getElem_cons_succ]
  rw [impl_LoseDisk.row_get l [] j (by simpa [impl_LoseDisk.row] using h) (by simpa using h')]; rfl
 | x :: l, n :: r, j + 1, h, h' => by
  simp only [impl_LoseDisk.row, List.getElem_cons_succ]
  rw [impl_LoseDisk.row_get l r j (by simpa [impl_LoseDisk.row] using h) (by simpa using h')]; rfl
theorem impl_LoseDisk.row_step (l1 : List Int) (l : List S76) (j : Nat) (h : j < l.length) :
  ((impl_LoseDisk.row l l1).take j ++ l.drop j).set j (impl_LoseDisk.one l[j] (l1.getD j 0)) = (impl_LoseDisk.row l l1).take (j + 1) ++ l.drop (j + 1) := by
 have hl := impl_LoseDisk.row_length l l1
 have hj : j < (impl_LoseDisk.row l l1).length := by omega
 rw [List.set_append_right _ _ (by simp [List.length_take]; omega)]
 have e : j - ((impl_LoseDisk.row l l1).take j).length = 0 := by simp [List.length_take]; omega
 rw [e, List.drop_eq_getElem_cons h, List.set_cons_zero, List.take_succ_eq_append_getElem hj, List.append_assoc, impl_LoseDisk.row_get l l1 j hj h]
 simp
theorem impl_LoseDisk.row_rd (l1 : List Int) (l : List S76) (j : Nat) (h : j < l.length) : rd_T76 ((impl_LoseDisk.row l l1).take j ++ l.drop j) (j : Int) = l[j] := by
 have hl := impl_LoseDisk.row_length l l1
 unfold rd_T76
 rw [Int.toNat_natCast, List.getD_eq_getElem?_getD, List.getElem?_append_right (by simp [List.length_take]; omega)]
 have e : j - ((impl_LoseDisk.row l l1).take j).length = 0 := by simp [List.length_take]; omega
 rw [e, List.getElem?_drop]; simp [h]
def impl_LoseDisk.okr (l : List S76) : Bool := l.all fun x => decide (0 ≤ x.f2 ∧ x.f2 ≤ (x.f1.size : Int) ∧ (x.f1.size : Int) ≤ 1000000000)
set_option maxHeartbeats 8000000 in
set_option maxRecDepth 100000 in
theorem impl_LoseDisk.yes (k : Nat) (A0_0 : Option Addr) (c0_0 : Nat) (l0_0 : List S76) (A1 : Option Addr) (c1 : Nat) (l1 : List Int) (w : World) (hr0_0 : Kd.C k76 w A0_0 l0_0.length l0_0) (hc0_0 : l0_0.length ≤ c0_0) (hr1 : Kd.C (Kd.int .i64) w A1 l1.length l1) (hc1 : l1.length ≤ c1)
  (ht : impl_DiskOk.f k l0_0 = some true) (hlen : l0_0.length < 3518437208883) (hok : impl_LoseDisk.okr l0_0 = true) :
  Calls Try.prog 60 #[.agg #[.slice A0_0 l0_0.length c0_0], .slice A1 l1.length c1] w fun e w' => ∃ v0_ : Value, e = .returned (.tuple #[.agg #[v0_], .bool true]) ∧ Kd.R k76 76 w' w.heap.size (fun _ => True) v0_ (impl_LoseDisk.row l0_0 l1) ∧ Below w.heap.size w w' := by
 have hu52 := Try.underlying31
 have hu60 := Try.underlying76
 have HR := Aside0.mk hr0_0
 have HC := Aside0.mk hc0_0
 have HR1 := Aside0.mk hr1
 have HC1 := Aside0.mk hc1
 have HT := Aside0.mk ht
 have HL := Aside0.mk hlen
 have HK := Aside0.mk hok
 have HCP : Aside0 (impl_copyDisk.f l0_0 = some l0_0) := mk_ (by unfold impl_copyDisk.f; rw [if_pos (by simpa using hlen)]; rfl)
 clear hr0_0 hc0_0 hr1 hc1 ht hlen hok
 have HB := mk_ (Below.refl w.heap.size w)
 go_enter Try.func60, Try.ntmps60
 go_wp2_with (first
  | ((with_reducible refine gate_dst (N := 2) rfl ?_); refine bx_ (N := 2) (cs := #[.slice A0_0 l0_0.length c0_0]) (t := 31) ?_; intro g2 hg w2 hbox hb; have BK2 := Aside0.mk hbox; replace HB := bs_ HB hb; clear hb hbox hg)
  | ((with_reducible refine gate_dst (N := 4) rfl ?_); refine bx_ (N := 4) (cs := #[.slice none 0 0]) (t := 31) ?_; intro g4 hg w4 hbox hb; have BK4 := Aside0.mk hbox; have GE4 : Aside0 (w.heap.size ≤ g4) := bz_ hg; replace BK2 := bb_ BK2 hb; replace HB := bs_ HB hb; clear hb hbox hg; obtain ⟨hcz2, hfz2⟩ := b1_ BK2)
  | (go_at_call 45; (with_reducible refine (impl_DiskOk.calls k _ _ l0_0 true _ (Kd.C_below HR.out HB.out) HC.out HT.out).mono ?_); rintro e w5 ⟨rfl, hb⟩; replace BK2 := bb_ BK2 hb; replace BK4 := bb_ BK4 hb; replace HB := bs_ HB hb; clear hb; have hcz5 : w5.cell? ⟨g2, 0, none⟩ = some (.slice A0_0 l0_0.length c0_0) := bc_ BK2 0)
  | (go_at_call 46; (with_reducible refine (impl_copyDisk.calls _ _ l0_0 l0_0 _ (Kd.C_below HR.out HB.out) HC.out HCP.out).mono ?_); rintro e w6 ⟨v0, rfl, ho0, hb⟩; have HO := mk_ (Kd.R_lower ho0 (below_size HB.out)); replace BK2 := bb_ BK2 hb; replace BK4 := bb_ BK4 hb; replace HB := bs_ HB hb; clear hb ho0)
  | ((with_reducible refine gate_dst (N := 6) rfl ?_); refine bx_ (N := 6) (cs := #[.slice none 0 0]) (t := 31) ?_; intro g6 hg w7 hbox hb; have BK6 := Aside0.mk hbox; have GE6 : Aside0 (w.heap.size ≤ g6) := bz_ hg; have NB46 : Aside0 (g4 ≠ g6) := bl_ BK4 hg; replace BK4 := bb_ BK4 hb; replace HO := rb_ HO hb; replace HB := bs_ HB hb; clear hb hbox hg; obtain ⟨hcz6, hfz6⟩ := b1_ BK6; obtain ⟨Ao, co, eo⟩ := Kd.R_slice HO.out; subst eo))
 have hnl : (impl_LoseDisk.row l0_0 l1).length = l0_0.length := impl_LoseDisk.row_length l0_0 l1
 have HNL := Aside0.mk hnl
 clear hnl hcz2 hfz2 hcz5 hcz6 hfz6
 have BS6 := mk_ (show (w7.setCell ⟨g6, 0, none⟩ (.slice Ao l0_0.length co)).heap[g6]? = some (.cells #[.slice Ao l0_0.length co] 31 (0, 0)) from by simpa using blk_set BK6.out 0 (.slice Ao l0_0.length co))
 have BS4 := mk_ (blk_far (p := ⟨g6, 0, none⟩) BK4.out NB46.out (.slice Ao l0_0.length co))
 have HOS := mk_ (Kd.R_far (p := ⟨g6, 0, none⟩) (Kd.R_types HO.out BK6.out (by decide)) (fun _ hk => hk.2) (.slice Ao l0_0.length co))
 have HBS := mk_ (show Below w.heap.size w (w7.setCell ⟨g6, 0, none⟩ (.slice Ao l0_0.length co)) from below_set HB.out GE6.out)
 clear BK6 BK4 BK2 HO HB
 generalize hn : l0_0.length = n at *
 have HN := Aside0.mk hn
 clear hn
 go_loopg [19] n (fun gg s19 wr => ∃ kk : Nat, kk ≤ n ∧ n - kk ≤ gg ∧ s19 = .int .i64 kk ∧ Aside0 (Kd.R k76 76 wr w.heap.size (fun k => True ∧ k ≠ g6) (.slice Ao n co) ((impl_LoseDisk.row l0_0 l1).take kk ++ l0_0.drop kk)) ∧ Aside0 (wr.heap[g6]? = some (.cells #[.slice Ao n co] 31 (0, 0))) ∧ Aside0 (wr.heap[g4]? = some (.cells #[.slice none 0 0] 31 (0, 0))) ∧ Aside0 (Below w.heap.size w wr))
 case atStart => exact ⟨0, Nat.zero_le _, by omega, rfl, ⟨by simpa using HOS.out⟩, BS6, BS4, HBS⟩
 case round =>
  obtain ⟨kk, hkk, hg, rfl, HO, BK6, BK4, HB⟩ := hrel
  clear HOS BS6 BS4 HBS
  have hnb : n < 3518437208883 := HL.out
  by_cases hlt : kk < n
  ·have hl0 : kk < l0_0.length := by rw [HN.out]; exact hlt
   have hX := impl_LoseDisk.row_rd l1 l0_0 kk hl0
   have hS := impl_LoseDisk.row_step l1 l0_0 kk hl0
   have hm : l0_0[kk] ∈ l0_0 := List.getElem_mem _
   have hxo := List.all_eq_true.1 HK.out _ hm
   simp only [decide_eq_true_eq] at hxo
   generalize hx : l0_0[kk] = x at *
   generalize hXX : ((impl_LoseDisk.row l0_0 l1).take kk ++ l0_0.drop kk) = X at *
   obtain ⟨go, cap, eo, gb, gl, cl, HG⟩ := Kd.R_form HO.out (by rw [← hXX]; simp; omega)
   injection eo with ea en ec
   subst ea; subst ec
   obtain ⟨ce, hcl, hM, hcc, hfr⟩ := Kd.R_elem HO.out z76 (kk : Int) (by omega) (by omega)
   obtain rfl := k76_openM hM
   rw [show X.getD (kk : Int).toNat z76 = rd_T76 X (kk : Int) from rfl, hX] at hM hcc
   have hy0 : wr.cell? ⟨go, kk * 3, none⟩ = some (.string x.f0) := hcc 0 _ rfl
   have hy1 : wr.cell? ⟨go, kk * 3 + 1, none⟩ = some (.string x.f1) := hcc 1 _ rfl
   have hy2 : wr.cell? ⟨go, kk * 3 + 2, none⟩ = some (.int .i64 x.f2) := hcc 2 _ rfl
   have hz0 : wr.frozen? ⟨go, kk * 3, none⟩ = false := hfr 0
   have hz1 : wr.frozen? ⟨go, kk * 3 + 1, none⟩ = false := hfr 1
   have hz2 : wr.frozen? ⟨go, kk * 3 + 2, none⟩ = false := hfr 2
   have h60 : wr.cell? ⟨g6, 0, none⟩ = some (.slice (some ⟨go, 0, none⟩) n co) := bc_ BK6 0
   have hltz : (kk : Int) < (n : Int) := by omega
   have f60 := blk_frozen BK6.out 0
   have hne := HO.out.1 go rfl
   have e1 : x.f0 = x.f0 := rfl
   have hxb0 := hxo.1
   have hxb1 := hxo.2.1
   have hxb2 := hxo.2.2
   have hgl : g6 < wr.heap.size := blk_lt BK6.out
   have aa : ∀ (p : Addr) (v : Value) (o : Obj), wr.cell? p = some v → (wr.alloc o).cell? p = some v := fun p v o h => (pw_cell_below (below_alloc (Below.refl _ _) o) h)
   have ab : ∀ (p : Addr) (o : Obj), p.block < wr.heap.size → wr.frozen? p = false → (wr.alloc o).frozen? p = false := fun p o h1 h => ((below_alloc (Below.refl _ _) o).frozen h1).trans h
   have hy1a : ∀ o, (wr.alloc o).cell? ⟨go, kk * 3 + 1, none⟩ = some (.string x.f1) := fun o => aa _ _ o hy1
   have hy2a : ∀ o, (wr.alloc o).cell? ⟨go, kk * 3 + 2, none⟩ = some (.int .i64 x.f2) := fun o => aa _ _ o hy2
   have hz1a : ∀ o, (wr.alloc o).frozen? ⟨go, kk * 3 + 1, none⟩ = false := fun o => ab _ o gl hz1
   have hz2a : ∀ o, (wr.alloc o).frozen? ⟨go, kk * 3 + 2, none⟩ = false := fun o => ab _ o gl hz2
   have h60a : ∀ o, (wr.alloc o).cell? ⟨g6, 0, none⟩ = some (.slice (some ⟨go, 0, none⟩) n co) := fun o => aa _ _ o h60
   have hn1 : go ≠ g6 := hne.2
   have hn2 : g6 ≠ go := Ne.symm hne.2
   have hn3 : go ≠ wr.heap.size := Nat.ne_of_lt gl
   have hn4 : wr.heap.size ≠ go := Nat.ne_of_gt gl
   have HCL := Aside0.mk hcl
   have HCC := Aside0.mk hcc
   have HS := Aside0.mk hS
   have HN4 := mk_ (blk_ne BK4.out HG (by decide))
   clear hcc hfr hM hcl hX hS hm hxo e1 hne HG
   by_cases hl : kk < l1.length
   ·have hlz : (kk : Int) < (l1.length : Int) := by omega
    obtain ⟨ad1, ea1, hc1⟩ := ReadsInt.at_ (k := .i64) (Kd.reads_of_C (d := (0 : Int)) (h1 := fun _ => rfl) HR1.out) (kk : Int) (by omega) hlz
    cases ea1
    replace hc1 := hc_ HB hc1
    simp only [Int.toNat_natCast] at hc1
    have hc1a : ∀ o, (wr.alloc o).cell? (ad1.add kk) = some (.int .i64 (l1.getD kk 0)) := fun o => aa _ _ o hc1
    clear hc1 aa ab
    generalize l1.getD kk 0 = m at *
    obtain ⟨m2, hm2⟩ : ∃ m2 : Int, (if (x.f1.size : Int) < m then (x.f1.size : Int) else m) = m2 := ⟨_, rfl⟩
    obtain ⟨N, hN⟩ : ∃ N : Int, (if x.f2 < m2 then m2 else x.f2) = N := ⟨_, rfl⟩
    have hNe : max x.f2 (min m (x.f1.size : Int)) = N := by rw [← hN, ← hm2]; split <;> split <;> omega
    have hN0 : 0 ≤ N := by rw [← hNe]; omega
    have hN1 : N ≤ (x.f1.size : Int) := by rw [← hNe]; omega
    have HNe := Aside0.mk hNe
    have hNx := hNe
    clear hNe
    have HP := mk_ (Kd.R_seg HO.out (kk : Int) (by omega) (by omega) (c := [.string x.f0, .string x.f1, .int .i64 x.f2]) (seg := [.string (x.f1.extract 0 (N).toNat), .int .i64 (N)]) (j := 1) HCL.out HCC.out (show 1 + 2 ≤ 3 from by decide) (x' := impl_LoseDisk.one x m) (by unfold impl_LoseDisk.one; rw [HNe.out]; exact k76_mkM _ _ _ (⟨x.f0, x.f1.extract 0 (N).toNat, N⟩ : S76)) (okp := fun k => (True ∧ k ≠ g6) ∧ k ≠ go) (fun _ hk => hk)).1
    clear hNx
    go_wp2
    go_region
    go_wp2
    go_roundg (n - (kk + 1))
    case measure => omega
    case rel =>
     refine ⟨kk + 1, by omega, by omega, by go_num, ⟨?_⟩, ⟨?_⟩, ⟨?_⟩, ⟨?_⟩⟩
     ·rw [← HS.out]
      have hp := HP.out
      rw [Int.toNat_natCast] at hp
      exact Kd.R_drew (Kd.R_alloc hp _)
     ·exact blk_drew (blk_alloc (blk_far (blk_far BK6.out hn2 _) hn2 _) _)
     ·exact blk_drew (blk_alloc (blk_far (blk_far BK4.out HN4.out _) HN4.out _) _)
     ·exact below_drew1 (below_alloc (below_set (below_set HB.out gb) gb) _)
   ·have hlz : (l1.length : Int) ≤ (kk : Int) := by omega
    have hg0 : l1.getD kk 0 = 0 := by rw [List.getD_eq_getElem?_getD, List.getElem?_eq_none (by omega)]; rfl
    rw [hg0] at HS
    have HNe : Aside0 (max x.f2 (min 0 (x.f1.size : Int)) = x.f2) := mk_ (by omega)
    have hNx := HNe.out
    clear aa ab hg0
    have HP := mk_ (Kd.R_seg HO.out (kk : Int) (by omega) (by omega) (c := [.string x.f0, .string x.f1, .int .i64 x.f2]) (seg := [.string (x.f1.extract 0 (x.f2).toNat), .int .i64 (x.f2)]) (j := 1) HCL.out HCC.out (show 1 + 2 ≤ 3 from by decide) (x' := impl_LoseDisk.one x 0) (by unfold impl_LoseDisk.one; rw [HNe.out]; exact k76_mkM _ _ _ (⟨x.f0, x.f1.extract 0 (x.f2).toNat, x.f2⟩ : S76)) (okp := fun k => (True ∧ k ≠ g6) ∧ k ≠ go) (fun _ hk => hk)).1
    clear hNx
    go_wp2
    go_region
    go_wp2
    go_roundg (n - (kk + 1))
    case measure => omega
    case rel =>
     refine ⟨kk + 1, by omega, by omega, by go_num, ⟨?_⟩, ⟨?_⟩, ⟨?_⟩, ⟨?_⟩⟩
     ·rw [← HS.out]
      have hp := HP.out
      rw [Int.toNat_natCast] at hp
      exact Kd.R_drew (Kd.R_alloc hp _)
     ·exact blk_drew (blk_alloc (blk_far (blk_far BK6.out hn2 _) hn2 _) _)
     ·exact blk_drew (blk_alloc (blk_far (blk_far BK4.out HN4.out _) HN4.out _) _)
     ·exact below_drew1 (below_alloc (below_set (below_set HB.out gb) gb) _)
  ·obtain rfl : kk = n := by omega
   have hltz : ¬ (kk : Int) < (kk : Int) := by omega
   have h60 : wr.cell? ⟨g6, 0, none⟩ = some (.slice Ao kk co) := bc_ BK6 0
   have h40 : wr.cell? ⟨g4, 0, none⟩ = some (.slice none 0 0) := bc_ BK4 0
   have f40 := blk_frozen BK4.out 0
   have HX : Aside0 ((impl_LoseDisk.row l0_0 l1).take kk ++ l0_0.drop kk = impl_LoseDisk.row l0_0 l1) := mk_ (by rw [List.take_of_length_le (by rw [HNL.out]; exact Nat.le_refl _), List.drop_of_length_le (by rw [HN.out]; exact Nat.le_refl _), List.append_nil])
   rw [HX.out] at HO
   go_wp2
   refine bodyPost_ret (results_ct rfl _ _ g4 31 #[.slice Ao kk co] (0, 0) _ rfl (by first | exact blk_set BK4.out 0 _ | simpa using blk_set BK4.out 0 (.slice Ao kk co)) Try.underlying31 rfl (by kernel_rfl)) rfl ?_
   exact ⟨_, rfl, Kd.R_mono (Kd.R_far (p := ⟨g4, 0, none⟩) (Kd.R_types HO.out BK4.out (by decide)) (fun _ hk => hk.2) _) (fun _ _ => trivial), below_set HB.out GE4.out⟩
def impl_LoseDisk.f (k : Nat) (l0_0 : List S76) (l1 : List Int) : Option (List S76 × Bool) := (impl_DiskOk.f k l0_0).bind fun t => if t = true then (if l0_0.length < 3518437208883 ∧ impl_LoseDisk.okr l0_0 = true then some (impl_LoseDisk.row l0_0 l1, true) else none) else some ([], false)
theorem impl_LoseDisk.mono : ∀ a0 a1 k, LeO (impl_LoseDisk.f k a0 a1) (impl_LoseDisk.f (k + 1) a0 a1) :=
 fun a0 a1 k => LeO.bind (impl_DiskOk.mono a0 k) (fun _ => LeO.refl _)
set_option maxHeartbeats 8000000 in
set_option maxRecDepth 100000 in
theorem impl_LoseDisk.calls (k : Nat) (A0_0 : Option Addr) (c0_0 : Nat) (l0_0 : List S76) (A1 : Option Addr) (c1 : Nat) (l1 : List Int) (r1 : List S76) (r2 : Bool) (w : World) (hr0_0 : Kd.C k76 w A0_0 l0_0.length l0_0) (hc0_0 : l0_0.length ≤ c0_0) (hr1 : Kd.C (Kd.int .i64) w A1 l1.length l1) (hc1 : l1.length ≤ c1) (h : impl_LoseDisk.f k l0_0 l1 = some (r1, r2)) :
  Calls Try.prog 60 #[.agg #[.slice A0_0 l0_0.length c0_0], .slice A1 l1.length c1] w fun e w' => ∃ v0_ : Value, e = .returned (.tuple #[.agg #[v0_], .bool r2]) ∧ Kd.R k76 76 w' w.heap.size (fun _ => True) v0_ r1 ∧ Below w.heap.size w w' := by
 obtain ⟨t, ht, hr⟩ := Option.bind_eq_some_iff.mp h
 clear h
 cases t with
 | true =>
  simp only [if_true] at hr
  split at hr
  ·rename_i hq
   obtain ⟨rfl, rfl⟩ := Prod.mk.inj (Option.some.inj hr)
   exact impl_LoseDisk.yes k A0_0 c0_0 l0_0 A1 c1 l1 w hr0_0 hc0_0 hr1 hc1 ht hq.1 hq.2
  ·cases hr
 | false =>
  simp only [Bool.false_eq_true, if_false] at hr
  obtain ⟨rfl, rfl⟩ := Prod.mk.inj (Option.some.inj hr)
  have hu52 := Try.underlying31
  have HR := Aside0.mk hr0_0
  have HC := Aside0.mk hc0_0
  have HT := Aside0.mk ht
  clear hr0_0 hc0_0 hr1 hc1 ht hr
  have HB := mk_ (Below.refl w.heap.size w)
  go_enter Try.func60, Try.ntmps60
  go_wp2_with (first
   | ((with_reducible refine gate_dst (N := 2) rfl ?_); refine bx_ (N := 2) (cs := #[.slice A0_0 l0_0.length c0_0]) (t := 31) ?_; intro g2 hg w2 hbox hb; have BK2 := Aside0.mk hbox; replace HB := bs_ HB hb; clear hb hbox hg)
   | ((with_reducible refine gate_dst (N := 4) rfl ?_); refine bx_ (N := 4) (cs := #[.slice none 0 0]) (t := 31) ?_; intro g4 hg w4 hbox hb; have BK4 := Aside0.mk hbox; have GE4 : Aside0 (w.heap.size ≤ g4) := bz_ hg; replace BK2 := bb_ BK2 hb; replace HB := bs_ HB hb; clear hb hbox hg; obtain ⟨hcz2, hfz2⟩ := b1_ BK2)
   | (go_at_call 45; (with_reducible refine (impl_DiskOk.calls k _ _ l0_0 false _ (Kd.C_below HR.out HB.out) HC.out HT.out).mono ?_); rintro e w5 ⟨rfl, hb⟩; replace BK4 := bb_ BK4 hb; replace HB := bs_ HB hb; clear hb; obtain ⟨hcz5, hfz5⟩ := b1_ BK4))
  refine bodyPost_ret (results_ct rfl _ _ g4 31 #[.slice none 0 0] (0, 0) _ rfl (by simpa using blk_set BK4.out 0 (.slice none 0 0)) Try.underlying31 rfl (by kernel_rfl)) rfl ?_
  exact ⟨_, rfl, Kd.R_nil _ _ _ _ _, below_set HB.out GE4.out⟩

end Go.Proofs.Ythbaoefbccdioaa.QFnActs
