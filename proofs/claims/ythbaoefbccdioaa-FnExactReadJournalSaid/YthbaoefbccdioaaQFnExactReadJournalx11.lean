/- Written by this session's own program (wip/tpl/pp.py): what the law's functions come to, and that the machine's calls do just that. -/
import Derived.Test.YthbaoefbccdioaaTMPack
import Derived.Test.YthbaoefbccdioaaQFnExactReadJournalx0
import Derived.Test.YthbaoefbccdioaaQFnExactReadJournalx8
import Derived.Test.YthbaoefbccdioaaQFnExactReadJournalx10
namespace Go.Proofs.Ythbaoefbccdioaa.QFnExactReadJournal
open Go.RowKit Go.Proofs.YthbaoefbccdioaaW.PrintWords Go.Proofs.YthbaoefbccdioaaW.PrintLast Go.Proofs.YthbaoefbccdioaaW.PrintMore
attribute [local go_sem] Go.Proofs.Ythbaoefbccdioaa.Sem.string_geq Go.Proofs.Ythbaoefbccdioaa.Sem.string_leq Go.Proofs.Ythbaoefbccdioaa.Sem.string_gtr
attribute [local go_sem] max2_int min2_int max_two min_two max_three min_three max_four min_four   -- for this text's walks alone
set_option linter.unusedVariables false
set_option linter.unusedSimpArgs false

/-! ### impl_LogOk: function 105 -/
mutual
def impl_LogOk.j0 : Nat → Bool → Int → Int → List (S135) → Option (Bool)
 | 0, _, _, _, _ => none
 | k + 1, x30, x297000, x297001, x297002 => if x30 = true then (some false) else (impl_LogOk.l0 k x297001 x297002 (x297002.length : Int) 0)
def impl_LogOk.l0 : Nat → Int → List (S135) → Int → Int → Option (Bool)
 | 0, _, _, _, _ => none
 | k + 1, x3, x34, x35, x36 => if x36 < x35 then (if 0 ≤ x36 then (if x36 < (x34.length : Int) then ((impl_EntryOk.f k ((rd_T135 x34 x36).f0) ((rd_T135 x34 x36).f1) ((rd_T135 x34 x36).f2)).bind fun t301 => (if t301 = true then (if ((rd_T135 x34 x36).f0) < x3 then (some false) else (impl_LogOk.l0 k ((rd_T135 x34 x36).f0) x34 x35 (wrap64 (x36 + 1)))) else (some false))) else (none)) else (none)) else (some true)
end
def impl_LogOk.f (k : Nat) (a0_0 : Int) (a0_1 : Int) (l0_2 : List (S135)) : Option (Bool) := (impl_within.f a0_0 0 1000000).bind fun t297 => (if t297 = true then ((impl_within.f a0_1 0 100000).bind fun t298 => (if t298 = true then (if (l0_2.length : Int) > 60 then (impl_LogOk.j0 k true a0_0 a0_1 l0_2) else (impl_LogOk.j0 k (decide ((wrap64 (a0_0 + (l0_2.length : Int))) > 1000000)) a0_0 a0_1 l0_2)) else (impl_LogOk.j0 k true a0_0 a0_1 l0_2))) else (impl_LogOk.j0 k true a0_0 a0_1 l0_2))
theorem impl_LogOk.mono_l : ∀ k, (∀ y0 y1 y2 y3, LeO (impl_LogOk.j0 k y0 y1 y2 y3) (impl_LogOk.j0 (k + 1) y0 y1 y2 y3)) ∧ (∀ y0 y1 y2 y3, LeO (impl_LogOk.l0 k y0 y1 y2 y3) (impl_LogOk.l0 (k + 1) y0 y1 y2 y3))
 | 0 => ⟨fun _ _ _ _ r h => by simp [impl_LogOk.j0] at h, fun _ _ _ _ r h => by simp [impl_LogOk.l0] at h⟩
 | k + 1 => by
  obtain ⟨ih0, ih1⟩ := impl_LogOk.mono_l k
  refine ⟨?_, ?_⟩
  ·intro y0 y1 y2 y3
   unfold impl_LogOk.j0
   repeat' first
   | (with_reducible exact ih1 _ _ _ _)
   | (with_reducible exact LeO.refl _)
   | (with_reducible refine LeO.ite ?_ ?_)
  ·intro y0 y1 y2 y3
   unfold impl_LogOk.l0
   repeat' first
   | (with_reducible exact ih1 _ _ _ _)
   | (with_reducible exact impl_EntryOk.mono _ _ _ _)
   | (with_reducible exact LeO.refl _)
   | (with_reducible refine LeO.ite ?_ ?_)
   | (with_reducible refine LeO.bind ?_ (fun _ => ?_))
theorem impl_LogOk.mono : ∀ a0 a1 a2 k, LeO (impl_LogOk.f k a0 a1 a2) (impl_LogOk.f (k + 1) a0 a1 a2) := by
 intro a0 a1 a2 k
 obtain ⟨ih0, ih1⟩ := impl_LogOk.mono_l k
 unfold impl_LogOk.f
 repeat' first
   | (with_reducible exact ih0 _ _ _ _)
   | (with_reducible exact LeO.refl _)
   | (with_reducible refine LeO.ite ?_ ?_)
   | (with_reducible refine LeO.bind ?_ (fun _ => ?_))
set_option maxHeartbeats 8000000 in
set_option maxRecDepth 100000 in
theorem impl_LogOk.calls (k : Nat) (a0_0 : Int) (a0_1 : Int) (A0_2 : Option Addr) (c0_2 : Nat) (l0_2 : List (S135)) (r : Bool) (w : World) (hr0_2 : Kd.C k135 w A0_2 l0_2.length l0_2) (hc0_2 : l0_2.length ≤ c0_2) (h : impl_LogOk.f k a0_0 a0_1 l0_2 = some r) :
  Calls Try.prog 105 #[.agg #[.int .i64 a0_0, .int .i64 a0_1, .slice A0_2 l0_2.length c0_2]] w fun e w' => e = .returned (.bool r) ∧ Below w.heap.size w w' := by
 have hu59 := Try.underlying59
 have hu135 := Try.underlying135
 have HR0_2 := Aside0.mk hr0_2
 have HC0_2 := Aside0.mk hc0_2
 clear hr0_2 hc0_2
 have HB := mk_ (Below.refl w.heap.size w)
 have H : ((impl_within.f a0_0 0 1000000).bind fun t297 => (if t297 = true then ((impl_within.f a0_1 0 100000).bind fun t298 => (if t298 = true then (if (l0_2.length : Int) > 60 then (impl_LogOk.j0 k true a0_0 a0_1 l0_2) else (impl_LogOk.j0 k (decide ((wrap64 (a0_0 + (l0_2.length : Int))) > 1000000)) a0_0 a0_1 l0_2)) else (impl_LogOk.j0 k true a0_0 a0_1 l0_2))) else (impl_LogOk.j0 k true a0_0 a0_1 l0_2))) = some r := h
 clear h
 have HC2 := Aside0.mk H
 clear H
 go_enter Try.func105, Try.ntmps105
 go_upto_region 1 with (first | ((with_reducible refine gate_dst (N := 1) rfl ?_); (try (refine gate_guard (by rfl) ?_; dsimp only)); refine bx_ (N := 1) (cs := #[.int .i64 a0_0, .int .i64 a0_1, .slice A0_2 l0_2.length c0_2]) (t := 59) ?_; intro gb296 hg w3 hbox hb; have BK296 := mk_ (hbox); have GW296 : Aside0 (w.heap.size ≤ gb296) := bz_ hg; have GE296 := GW296; replace HB := bs_ HB hb; clear hb hbox hg))
 (try simp only [Act.put, sia_, scz_, scs_])
 go_cut [30] (fun v30 wc => ∃ (kq : Nat) (x30_1 : Bool), v30 = .bool x30_1 ∧ Aside0 (impl_LogOk.j0 kq x30_1 a0_0 a0_1 l0_2 = some r) ∧ Aside0 (kq ≤ k) ∧ Aside0 (wc.heap[gb296]? = some (.cells #[.int .i64 a0_0, .int .i64 a0_1, (.slice A0_2 l0_2.length c0_2)] 59 (0, 0))) ∧ Aside0 (Below w.heap.size w wc))
 case first =>
  have H := HC2.out
  clear HC2
  replace H := Option.bind_eq_some_iff.mp H
  obtain ⟨t297, A40, H⟩ := H
  try dsimp only at H
  have A4 := Aside0.mk A40
  clear A40
  by_cases c5 : t297 = true
  rotate_left
  ·replace c5 := Bool.eq_false_iff.mpr c5
   subst c5
   rw [if_neg (show ¬ (false = true) by decide)] at H
   have H' := Aside0.mk H
   clear H
   have hcz12_0 : w3.cell? ⟨gb296, 0, none⟩ = some (.int .i64 a0_0) := bc_ BK296 0
   have hcz12_1 : w3.cell? ⟨gb296, 1, none⟩ = some (.int .i64 a0_1) := bc_ BK296 1
   have hcz12_2 : w3.cell? ⟨gb296, 2, none⟩ = some (.slice A0_2 l0_2.length c0_2) := bc_ BK296 2
   have hfz12_0 := blk_frozen BK296.out 0
   have hfz12_1 := blk_frozen BK296.out 1
   have hfz12_2 := blk_frozen BK296.out 2
   go_wp2_with (first | ((with_reducible refine gate_callee (f := 59) rfl ?_); refine gl_ 8 Try.func59 #[.int .i64 a0_0, .int .i64 0, .int .i64 1000000] ?_; (with_reducible refine (impl_within.calls a0_0 0 1000000 false _ A4.out).mono ?_); rintro e w' ⟨rfl, ⟨nd, rfl⟩⟩; refine ⟨_, rfl, ?_⟩))
   go_meet
   case rel => exact ⟨_, (true), (by first | rfl | (simp; done) | (simp [*]; done) | (simp [bne]; done)), H', ⟨by first | omega | exact Nat.le_refl _⟩, ⟨bf_⟩, ⟨bw_ HB⟩⟩
  subst c5
  rw [if_pos rfl] at H
  replace H := Option.bind_eq_some_iff.mp H
  obtain ⟨t298, A60, H⟩ := H
  try dsimp only at H
  have A6 := Aside0.mk A60
  clear A60
  by_cases c7 : t298 = true
  rotate_left
  ·replace c7 := Bool.eq_false_iff.mpr c7
   subst c7
   rw [if_neg (show ¬ (false = true) by decide)] at H
   have H' := Aside0.mk H
   clear H
   have hcz11_0 : w3.cell? ⟨gb296, 0, none⟩ = some (.int .i64 a0_0) := bc_ BK296 0
   have hcz11_1 : w3.cell? ⟨gb296, 1, none⟩ = some (.int .i64 a0_1) := bc_ BK296 1
   have hcz11_2 : w3.cell? ⟨gb296, 2, none⟩ = some (.slice A0_2 l0_2.length c0_2) := bc_ BK296 2
   have hfz11_0 := blk_frozen BK296.out 0
   have hfz11_1 := blk_frozen BK296.out 1
   have hfz11_2 := blk_frozen BK296.out 2
   go_wp2_with (first | ((with_reducible refine gate_callee (f := 59) rfl ?_); refine gl_ 8 Try.func59 #[.int .i64 a0_0, .int .i64 0, .int .i64 1000000] ?_; (with_reducible refine (impl_within.calls a0_0 0 1000000 true _ A4.out).mono ?_); rintro e w' ⟨rfl, ⟨nd, rfl⟩⟩; refine ⟨_, rfl, ?_⟩) | (go_at_call 59; (with_reducible refine (impl_within.calls a0_1 0 100000 false _ A6.out).mono ?_); rintro e w' ⟨rfl, ⟨nd, rfl⟩⟩))
   go_meet
   case rel => exact ⟨_, (true), (by first | rfl | (simp; done) | (simp [*]; done) | (simp [bne]; done)), H', ⟨by first | omega | exact Nat.le_refl _⟩, ⟨bf_⟩, ⟨bw_ HB⟩⟩
  subst c7
  rw [if_pos rfl] at H
  by_cases c8 : (l0_2.length : Int) > 60
  rotate_left
  ·rw [if_neg c8] at H
   have c8b0 : decide (60 < (l0_2.length : Int)) = false := decide_eq_false c8
   have c8b1 : decide (60 < l0_2.length) = false := decide_eq_false (by omega)
   clear c8
   (first | rw [c8b0] | (simp only [i64_w, i32_w]; rw [c8b0]) | skip)
   have H' := Aside0.mk H
   clear H
   have hcz10_0 : w3.cell? ⟨gb296, 0, none⟩ = some (.int .i64 a0_0) := bc_ BK296 0
   have hcz10_1 : w3.cell? ⟨gb296, 1, none⟩ = some (.int .i64 a0_1) := bc_ BK296 1
   have hcz10_2 : w3.cell? ⟨gb296, 2, none⟩ = some (.slice A0_2 l0_2.length c0_2) := bc_ BK296 2
   have hfz10_0 := blk_frozen BK296.out 0
   have hfz10_1 := blk_frozen BK296.out 1
   have hfz10_2 := blk_frozen BK296.out 2
   go_wp2_with (first | ((with_reducible refine gate_callee (f := 59) rfl ?_); refine gl_ 8 Try.func59 #[.int .i64 a0_0, .int .i64 0, .int .i64 1000000] ?_; (with_reducible refine (impl_within.calls a0_0 0 1000000 true _ A4.out).mono ?_); rintro e w' ⟨rfl, ⟨nd, rfl⟩⟩; refine ⟨_, rfl, ?_⟩) | (go_at_call 59; (with_reducible refine (impl_within.calls a0_1 0 100000 true _ A6.out).mono ?_); rintro e w' ⟨rfl, ⟨nd, rfl⟩⟩))
   go_meet
   case rel => exact ⟨_, (decide ((wrap64 (a0_0 + (l0_2.length : Int))) > 1000000)), (by first | rfl | (simp; done) | (simp [*]; done) | (simp [bne]; done)), H', ⟨by first | omega | exact Nat.le_refl _⟩, ⟨bf_⟩, ⟨bw_ HB⟩⟩
  rw [if_pos c8] at H
  have c8b0 : decide (60 < (l0_2.length : Int)) = true := decide_eq_true c8
  have c8b1 : decide (60 < l0_2.length) = true := decide_eq_true (by omega)
  clear c8
  (first | rw [c8b0] | (simp only [i64_w, i32_w]; rw [c8b0]) | skip)
  have H' := Aside0.mk H
  clear H
  have hcz9_0 : w3.cell? ⟨gb296, 0, none⟩ = some (.int .i64 a0_0) := bc_ BK296 0
  have hcz9_1 : w3.cell? ⟨gb296, 1, none⟩ = some (.int .i64 a0_1) := bc_ BK296 1
  have hcz9_2 : w3.cell? ⟨gb296, 2, none⟩ = some (.slice A0_2 l0_2.length c0_2) := bc_ BK296 2
  have hfz9_0 := blk_frozen BK296.out 0
  have hfz9_1 := blk_frozen BK296.out 1
  have hfz9_2 := blk_frozen BK296.out 2
  go_wp2_with (first | ((with_reducible refine gate_callee (f := 59) rfl ?_); refine gl_ 8 Try.func59 #[.int .i64 a0_0, .int .i64 0, .int .i64 1000000] ?_; (with_reducible refine (impl_within.calls a0_0 0 1000000 true _ A4.out).mono ?_); rintro e w' ⟨rfl, ⟨nd, rfl⟩⟩; refine ⟨_, rfl, ?_⟩) | (go_at_call 59; (with_reducible refine (impl_within.calls a0_1 0 100000 true _ A6.out).mono ?_); rintro e w' ⟨rfl, ⟨nd, rfl⟩⟩))
  go_meet
  case rel => exact ⟨_, (true), (by first | rfl | (simp; done) | (simp [*]; done) | (simp [bne]; done)), H', ⟨by first | omega | exact Nat.le_refl _⟩, ⟨bf_⟩, ⟨bw_ HB⟩⟩
 case rest =>
  clear HC2
  (try clear c1); (try clear p2); (try clear c5); (try clear p6); (try clear c7); (try clear c8); (try clear c8b0); (try clear c8b1); (try clear c10); (try clear hcz10_0); (try clear hcz10_1); (try clear hcz10_2); (try clear hcz11_0); (try clear hcz11_1); (try clear hcz11_2); (try clear hcz12_0); (try clear hcz12_1); (try clear hcz12_2); (try clear hcz9_0); (try clear hcz9_1); (try clear hcz9_2); (try clear hfz10_0); (try clear hfz10_1); (try clear hfz10_2); (try clear hfz11_0); (try clear hfz11_1); (try clear hfz11_2); (try clear hfz12_0); (try clear hfz12_1); (try clear hfz12_2); (try clear hfz9_0); (try clear hfz9_1); (try clear hfz9_2)
  obtain ⟨kq, x30_1, rfl, HA, HJ1, BK296, HB⟩ := hcut
  cases kq with
  | zero => exact absurd HA.out (by simp [impl_LogOk.j0])
  | succ kj1 =>
   have H := HA.out
   clear HA
   simp only [impl_LogOk.j0] at H
   by_cases c13 : x30_1 = true
   ·subst c13
    rw [if_pos rfl] at H
    obtain rfl := Option.some.inj H
    go_wp2
    go_ret
    exact ⟨er_, bw_ HB⟩
   replace c13 := Bool.eq_false_iff.mpr c13
   subst c13
   rw [if_neg (show ¬ (false = true) by decide)] at H
   have H' := Aside0.mk H
   clear H
   have hcz14_0 : wc.cell? ⟨gb296, 0, none⟩ = some (.int .i64 a0_0) := bc_ BK296 0
   have hcz14_1 : wc.cell? ⟨gb296, 1, none⟩ = some (.int .i64 a0_1) := bc_ BK296 1
   have hcz14_2 : wc.cell? ⟨gb296, 2, none⟩ = some (.slice A0_2 l0_2.length c0_2) := bc_ BK296 2
   have hfz14_0 := blk_frozen BK296.out 0
   have hfz14_1 := blk_frozen BK296.out 1
   have hfz14_2 := blk_frozen BK296.out 2
   go_wp2
   go_loopg [3, 36] kj1 (fun kq v3 v36 w' => ∃ (x3_2 : Int) (x36_2 : Int), v3 = .int .i64 x3_2 ∧ v36 = .int .i64 x36_2 ∧ Aside0 (impl_LogOk.l0 kq x3_2 l0_2 (l0_2.length : Int) x36_2 = some r) ∧ Aside0 (kq ≤ kj1) ∧ Aside0 (w'.heap[gb296]? = some (.cells #[.int .i64 a0_0, .int .i64 a0_1, (.slice A0_2 l0_2.length c0_2)] 59 (0, 0))) ∧ Aside0 (Below w.heap.size w w'))
   case atStart => exact ⟨(a0_1), (0), (by first | rfl | (simp; done) | (simp [*]; done) | (simp [bne]; done)), (by first | rfl | (simp; done) | (simp [*]; done) | (simp [bne]; done)), H', ⟨Nat.le_refl _⟩, ⟨bf_⟩, ⟨bw_ HB⟩⟩
   case round =>
    clear H'
    (try clear c1); (try clear p2); (try clear c5); (try clear p6); (try clear c7); (try clear c8); (try clear c8b0); (try clear c8b1); (try clear c10); (try clear c13); (try clear hcz10_0); (try clear hcz10_1); (try clear hcz10_2); (try clear hcz11_0); (try clear hcz11_1); (try clear hcz11_2); (try clear hcz12_0); (try clear hcz12_1); (try clear hcz12_2); (try clear hcz14_0); (try clear hcz14_1); (try clear hcz14_2); (try clear hcz9_0); (try clear hcz9_1); (try clear hcz9_2); (try clear hfz10_0); (try clear hfz10_1); (try clear hfz10_2); (try clear hfz11_0); (try clear hfz11_1); (try clear hfz11_2); (try clear hfz12_0); (try clear hfz12_1); (try clear hfz12_2); (try clear hfz14_0); (try clear hfz14_1); (try clear hfz14_2); (try clear hfz9_0); (try clear hfz9_1); (try clear hfz9_2); (try clear p2); (try clear p6)
    obtain ⟨x3_2, x36_2, rfl, rfl, HA, HK2, BK296, HB⟩ := hrel
    cases gk with
    | zero => exact absurd HA.out (by simp [impl_LogOk.l0])
    | succ k2 =>
     have H := HA.out
     clear HA
     simp only [impl_LogOk.l0] at H
     by_cases c15 : x36_2 < (l0_2.length : Int)
     rotate_left
     ·rw [if_neg c15] at H
      have c15b0 : decide (x36_2 < (l0_2.length : Int)) = false := decide_eq_false c15
      clear c15
      obtain rfl := Option.some.inj H
      go_wp2
      go_ret
      exact ⟨er_, bw_ HB⟩
     rw [if_pos c15] at H
     have c15b0 : decide (x36_2 < (l0_2.length : Int)) = true := decide_eq_true c15
     clear c15
     by_cases c16 : 0 ≤ x36_2
     rotate_left
     ·rw [if_neg c16] at H
      exact absurd H (by simp)
     rw [if_pos c16] at H
     have c16b0 : decide (0 ≤ x36_2) = true := decide_eq_true c16
     clear c16
     by_cases c17 : x36_2 < (l0_2.length : Int)
     rotate_left
     ·rw [if_neg c17] at H
      exact absurd H (by simp)
     rw [if_pos c17] at H
     have c17b0 : decide (x36_2 < (l0_2.length : Int)) = true := decide_eq_true c17
     clear c17
     replace H := Option.bind_eq_some_iff.mp H
     obtain ⟨t301, A180, H⟩ := H
     try dsimp only at H
     have A18 := Aside0.mk A180
     clear A180
     by_cases c19 : t301 = true
     rotate_left
     ·replace c19 := Bool.eq_false_iff.mpr c19
      subst c19
      rw [if_neg (show ¬ (false = true) by decide)] at H
      obtain rfl := Option.some.inj H
      have p299 : 0 ≤ (x36_2 : Int) := od_
      have q299 : x36_2 < (l0_2.length : Int) := od_
      obtain ⟨ad299, e299, hx299_0, hx299_1, hx299_2⟩ := at_T135 HR0_2.out x36_2 p299 q299
      cases e299
      replace hx299_0 := hc_ HB hx299_0
      replace hx299_1 := hc_ HB hx299_1
      replace hx299_2 := hc_ HB hx299_2
      replace p299 := eq_true p299
      replace q299 := eq_true q299
      go_wp2_with (first | ((with_reducible refine gate_dst (N := 5) rfl ?_); (try (refine gate_guard (by rfl) ?_; dsimp only)); refine bx_ (N := 5) (cs := #[.int .i64 0, .int .i64 0, .string (⟨#[]⟩ : ByteArray)]) (t := 135) ?_; intro gb300 hg w31 hbox hb; have BK300 := mk_ (hbox); have GW300 : Aside0 (w.heap.size ≤ gb300) := bz_ hg; have GE300 := GW300; have NB296_300 := bl_ BK296 hg; have NB300_296 := bg_ BK296 hg; replace BK296 := bb_ BK296 hb; replace HB := bs_ HB hb; clear hb hbox hg; obtain ⟨hnb32, hnc32⟩ := ns_ NB300_296; obtain ⟨hcz33_0, hcz33_1, hcz33_2, hfz33_0, hfz33_1, hfz33_2⟩ := b3_ BK300) | ((with_reducible refine gate_callee (f := 121) rfl ?_); refine gl_ 41 Try.func121 #[.agg #[.int .i64 ((rd_T135 l0_2 x36_2).f0), .int .i64 ((rd_T135 l0_2 x36_2).f1), .string ((rd_T135 l0_2 x36_2).f2)]] ?_; (with_reducible refine (impl_EntryOk.calls k2 ((rd_T135 l0_2 x36_2).f0) ((rd_T135 l0_2 x36_2).f1) ((rd_T135 l0_2 x36_2).f2) false _ A18.out).mono ?_); rintro e w34 ⟨rfl, hb⟩; refine ⟨_, rfl, ?_⟩; replace BK296 := mk_ (blk_below (g := gb296) (o := .cells #[.int .i64 a0_0, .int .i64 a0_1, .slice (some ad299) l0_2.length c0_2] 59 (0, 0)) bf_ hb); replace BK300 := mk_ (blk_below (g := gb300) (o := .cells #[.int .i64 ((rd_T135 l0_2 x36_2).f0), .int .i64 ((rd_T135 l0_2 x36_2).f1), .string ((rd_T135 l0_2 x36_2).f2)] 135 (0, 0)) bu_ hb); replace HB := bs_ HB hb; (try clear hb)))
      go_ret
      exact ⟨er_, bw_ HB⟩
     subst c19
     rw [if_pos rfl] at H
     by_cases c20 : ((rd_T135 l0_2 x36_2).f0) < x3_2
     ·rw [if_pos c20] at H
      have c20b0 : decide (((rd_T135 l0_2 x36_2).f0) < x3_2) = true := decide_eq_true c20
      clear c20
      obtain rfl := Option.some.inj H
      have p299 : 0 ≤ (x36_2 : Int) := od_
      have q299 : x36_2 < (l0_2.length : Int) := od_
      obtain ⟨ad299, e299, hx299_0, hx299_1, hx299_2⟩ := at_T135 HR0_2.out x36_2 p299 q299
      cases e299
      replace hx299_0 := hc_ HB hx299_0
      replace hx299_1 := hc_ HB hx299_1
      replace hx299_2 := hc_ HB hx299_2
      replace p299 := eq_true p299
      replace q299 := eq_true q299
      go_wp2_with (first | ((with_reducible refine gate_dst (N := 5) rfl ?_); (try (refine gate_guard (by rfl) ?_; dsimp only)); refine bx_ (N := 5) (cs := #[.int .i64 0, .int .i64 0, .string (⟨#[]⟩ : ByteArray)]) (t := 135) ?_; intro gb300 hg w21 hbox hb; have BK300 := mk_ (hbox); have GW300 : Aside0 (w.heap.size ≤ gb300) := bz_ hg; have GE300 := GW300; have NB296_300 := bl_ BK296 hg; have NB300_296 := bg_ BK296 hg; replace BK296 := bb_ BK296 hb; replace HB := bs_ HB hb; clear hb hbox hg; obtain ⟨hnb22, hnc22⟩ := ns_ NB300_296; obtain ⟨hcz23_0, hcz23_1, hcz23_2, hfz23_0, hfz23_1, hfz23_2⟩ := b3_ BK300) | ((with_reducible refine gate_callee (f := 121) rfl ?_); refine gl_ 41 Try.func121 #[.agg #[.int .i64 ((rd_T135 l0_2 x36_2).f0), .int .i64 ((rd_T135 l0_2 x36_2).f1), .string ((rd_T135 l0_2 x36_2).f2)]] ?_; (with_reducible refine (impl_EntryOk.calls k2 ((rd_T135 l0_2 x36_2).f0) ((rd_T135 l0_2 x36_2).f1) ((rd_T135 l0_2 x36_2).f2) true _ A18.out).mono ?_); rintro e w24 ⟨rfl, hb⟩; refine ⟨_, rfl, ?_⟩; replace BK296 := mk_ (blk_below (g := gb296) (o := .cells #[.int .i64 a0_0, .int .i64 a0_1, .slice (some ad299) l0_2.length c0_2] 59 (0, 0)) bf_ hb); replace BK300 := mk_ (blk_below (g := gb300) (o := .cells #[.int .i64 ((rd_T135 l0_2 x36_2).f0), .int .i64 ((rd_T135 l0_2 x36_2).f1), .string ((rd_T135 l0_2 x36_2).f2)] 135 (0, 0)) bu_ hb); replace HB := bs_ HB hb; (try clear hb); obtain ⟨hcz25_0, hcz25_1, hcz25_2, hfz25_0, hfz25_1, hfz25_2⟩ := b3_ BK300))
      go_ret
      exact ⟨er_, bw_ HB⟩
     rw [if_neg c20] at H
     have c20b0 : decide (((rd_T135 l0_2 x36_2).f0) < x3_2) = false := decide_eq_false c20
     clear c20
     have H' := Aside0.mk H
     clear H
     have p299 : 0 ≤ (x36_2 : Int) := od_
     have q299 : x36_2 < (l0_2.length : Int) := od_
     obtain ⟨ad299, e299, hx299_0, hx299_1, hx299_2⟩ := at_T135 HR0_2.out x36_2 p299 q299
     cases e299
     replace hx299_0 := hc_ HB hx299_0
     replace hx299_1 := hc_ HB hx299_1
     replace hx299_2 := hc_ HB hx299_2
     replace p299 := eq_true p299
     replace q299 := eq_true q299
     go_wp2_with (first | ((with_reducible refine gate_dst (N := 5) rfl ?_); (try (refine gate_guard (by rfl) ?_; dsimp only)); refine bx_ (N := 5) (cs := #[.int .i64 0, .int .i64 0, .string (⟨#[]⟩ : ByteArray)]) (t := 135) ?_; intro gb300 hg w26 hbox hb; have BK300 := mk_ (hbox); have GW300 : Aside0 (w.heap.size ≤ gb300) := bz_ hg; have GE300 := GW300; have NB296_300 := bl_ BK296 hg; have NB300_296 := bg_ BK296 hg; replace BK296 := bb_ BK296 hb; replace HB := bs_ HB hb; clear hb hbox hg; obtain ⟨hnb27, hnc27⟩ := ns_ NB300_296; obtain ⟨hcz28_0, hcz28_1, hcz28_2, hfz28_0, hfz28_1, hfz28_2⟩ := b3_ BK300) | ((with_reducible refine gate_callee (f := 121) rfl ?_); refine gl_ 41 Try.func121 #[.agg #[.int .i64 ((rd_T135 l0_2 x36_2).f0), .int .i64 ((rd_T135 l0_2 x36_2).f1), .string ((rd_T135 l0_2 x36_2).f2)]] ?_; (with_reducible refine (impl_EntryOk.calls k2 ((rd_T135 l0_2 x36_2).f0) ((rd_T135 l0_2 x36_2).f1) ((rd_T135 l0_2 x36_2).f2) true _ A18.out).mono ?_); rintro e w29 ⟨rfl, hb⟩; refine ⟨_, rfl, ?_⟩; replace BK296 := mk_ (blk_below (g := gb296) (o := .cells #[.int .i64 a0_0, .int .i64 a0_1, .slice (some ad299) l0_2.length c0_2] 59 (0, 0)) bf_ hb); replace BK300 := mk_ (blk_below (g := gb300) (o := .cells #[.int .i64 ((rd_T135 l0_2 x36_2).f0), .int .i64 ((rd_T135 l0_2 x36_2).f1), .string ((rd_T135 l0_2 x36_2).f2)] 135 (0, 0)) bu_ hb); replace HB := bs_ HB hb; (try clear hb); obtain ⟨hcz30_0, hcz30_1, hcz30_2, hfz30_0, hfz30_1, hfz30_2⟩ := b3_ BK300))
     go_roundg k2
     case measure => have := HJ1.out; have := HK2.out; omega
     case rel => exact ⟨((rd_T135 l0_2 x36_2).f0), (wrap64 (x36_2 + 1)), (by first | rfl | (simp; done) | (simp [*]; done) | (simp [bne]; done)), (by first | rfl | (simp; done) | (simp [*]; done) | (simp [bne]; done)), H', ⟨by have := HJ1.out; have := HK2.out; omega⟩, ⟨bf_⟩, ⟨bw_ HB⟩⟩

/-! ### impl_JournalOk: function 70 -/
def impl_JournalOk.f (k : Nat) (a0_0 : Int) (a0_1 : Int) (a0_2 : Int) (a0_3 : Int) (a0_4 : Int) (l0_5 : List (S135)) : Option (Bool) := (impl_within.f a0_0 0 999).bind fun t303 => (if t303 = true then ((impl_within.f a0_1 0 100000).bind fun t304 => (if t304 = true then ((impl_within.f a0_2 0 4).bind fun t305 => (if t305 = true then ((impl_LogOk.f k a0_3 a0_4 l0_5).bind fun t306 => (some t306)) else (some false))) else (some false))) else (some false))
theorem impl_JournalOk.mono : ∀ a0 a1 a2 a3 a4 a5 k, LeO (impl_JournalOk.f k a0 a1 a2 a3 a4 a5) (impl_JournalOk.f (k + 1) a0 a1 a2 a3 a4 a5) := by
 intro a0 a1 a2 a3 a4 a5 k
 unfold impl_JournalOk.f
 repeat' first
   | (with_reducible exact impl_LogOk.mono _ _ _ _)
   | (with_reducible exact LeO.refl _)
   | (with_reducible refine LeO.ite ?_ ?_)
   | (with_reducible refine LeO.bind ?_ (fun _ => ?_))
set_option maxHeartbeats 8000000 in
set_option maxRecDepth 100000 in
theorem impl_JournalOk.calls (k : Nat) (a0_0 : Int) (a0_1 : Int) (a0_2 : Int) (a0_3 : Int) (a0_4 : Int) (A0_5 : Option Addr) (c0_5 : Nat) (l0_5 : List (S135)) (r : Bool) (w : World) (hr0_5 : Kd.C k135 w A0_5 l0_5.length l0_5) (hc0_5 : l0_5.length ≤ c0_5) (h : impl_JournalOk.f k a0_0 a0_1 a0_2 a0_3 a0_4 l0_5 = some r) :
  Calls Try.prog 70 #[.agg #[.int .i64 a0_0, .int .i64 a0_1, .int .i64 a0_2, .int .i64 a0_3, .int .i64 a0_4, .slice A0_5 l0_5.length c0_5]] w fun e w' => e = .returned (.bool r) ∧ Below w.heap.size w w' := by
 have hu61 := Try.underlying61
 have hu59 := Try.underlying59
 have HR0_5 := Aside0.mk hr0_5
 have HC0_5 := Aside0.mk hc0_5
 clear hr0_5 hc0_5
 have HB := mk_ (Below.refl w.heap.size w)
 have H : ((impl_within.f a0_0 0 999).bind fun t303 => (if t303 = true then ((impl_within.f a0_1 0 100000).bind fun t304 => (if t304 = true then ((impl_within.f a0_2 0 4).bind fun t305 => (if t305 = true then ((impl_LogOk.f k a0_3 a0_4 l0_5).bind fun t306 => (some t306)) else (some false))) else (some false))) else (some false))) = some r := h
 clear h
 replace H := Option.bind_eq_some_iff.mp H
 obtain ⟨t303, A20, H⟩ := H
 try dsimp only at H
 have A2 := Aside0.mk A20
 clear A20
 by_cases c3 : t303 = true
 rotate_left
 ·replace c3 := Bool.eq_false_iff.mpr c3
  subst c3
  rw [if_neg (show ¬ (false = true) by decide)] at H
  obtain rfl := Option.some.inj H
  go_enter Try.func70, Try.ntmps70
  go_wp2_with (first | ((with_reducible refine gate_dst (N := 1) rfl ?_); refine bx_ (N := 1) (cs := #[.int .i64 a0_0, .int .i64 a0_1, .int .i64 a0_2, .int .i64 a0_3, .int .i64 a0_4, .slice A0_5 l0_5.length c0_5]) (t := 61) ?_; intro gb302 hg w16 hbox hb; have BK302 := mk_ (hbox); have GW302 : Aside0 (w.heap.size ≤ gb302) := bz_ hg; have GE302 := GW302; replace HB := bs_ HB hb; clear hb hbox hg; obtain ⟨hcz17_0, hcz17_1, hcz17_2, hcz17_3, hcz17_4, hcz17_5, hfz17_0, hfz17_1, hfz17_2, hfz17_3, hfz17_4, hfz17_5⟩ := b6_ BK302) | ((with_reducible refine gate_callee (f := 59) rfl ?_); refine gl_ 5 Try.func59 #[.int .i64 a0_0, .int .i64 0, .int .i64 999] ?_; (with_reducible refine (impl_within.calls a0_0 0 999 false _ A2.out).mono ?_); rintro e w' ⟨rfl, ⟨nd, rfl⟩⟩; refine ⟨_, rfl, ?_⟩))
  go_ret
  exact ⟨er_, bw_ HB⟩
 subst c3
 rw [if_pos rfl] at H
 replace H := Option.bind_eq_some_iff.mp H
 obtain ⟨t304, A40, H⟩ := H
 try dsimp only at H
 have A4 := Aside0.mk A40
 clear A40
 by_cases c5 : t304 = true
 rotate_left
 ·replace c5 := Bool.eq_false_iff.mpr c5
  subst c5
  rw [if_neg (show ¬ (false = true) by decide)] at H
  obtain rfl := Option.some.inj H
  go_enter Try.func70, Try.ntmps70
  go_wp2_with (first | ((with_reducible refine gate_dst (N := 1) rfl ?_); refine bx_ (N := 1) (cs := #[.int .i64 a0_0, .int .i64 a0_1, .int .i64 a0_2, .int .i64 a0_3, .int .i64 a0_4, .slice A0_5 l0_5.length c0_5]) (t := 61) ?_; intro gb302 hg w14 hbox hb; have BK302 := mk_ (hbox); have GW302 : Aside0 (w.heap.size ≤ gb302) := bz_ hg; have GE302 := GW302; replace HB := bs_ HB hb; clear hb hbox hg; obtain ⟨hcz15_0, hcz15_1, hcz15_2, hcz15_3, hcz15_4, hcz15_5, hfz15_0, hfz15_1, hfz15_2, hfz15_3, hfz15_4, hfz15_5⟩ := b6_ BK302) | ((with_reducible refine gate_callee (f := 59) rfl ?_); refine gl_ 5 Try.func59 #[.int .i64 a0_0, .int .i64 0, .int .i64 999] ?_; (with_reducible refine (impl_within.calls a0_0 0 999 true _ A2.out).mono ?_); rintro e w' ⟨rfl, ⟨nd, rfl⟩⟩; refine ⟨_, rfl, ?_⟩) | (go_at_call 59; (with_reducible refine (impl_within.calls a0_1 0 100000 false _ A4.out).mono ?_); rintro e w' ⟨rfl, ⟨nd, rfl⟩⟩))
  go_ret
  exact ⟨er_, bw_ HB⟩
 subst c5
 rw [if_pos rfl] at H
 replace H := Option.bind_eq_some_iff.mp H
 obtain ⟨t305, A60, H⟩ := H
 try dsimp only at H
 have A6 := Aside0.mk A60
 clear A60
 by_cases c7 : t305 = true
 rotate_left
 ·replace c7 := Bool.eq_false_iff.mpr c7
  subst c7
  rw [if_neg (show ¬ (false = true) by decide)] at H
  obtain rfl := Option.some.inj H
  go_enter Try.func70, Try.ntmps70
  go_wp2_with (first | ((with_reducible refine gate_dst (N := 1) rfl ?_); refine bx_ (N := 1) (cs := #[.int .i64 a0_0, .int .i64 a0_1, .int .i64 a0_2, .int .i64 a0_3, .int .i64 a0_4, .slice A0_5 l0_5.length c0_5]) (t := 61) ?_; intro gb302 hg w12 hbox hb; have BK302 := mk_ (hbox); have GW302 : Aside0 (w.heap.size ≤ gb302) := bz_ hg; have GE302 := GW302; replace HB := bs_ HB hb; clear hb hbox hg; obtain ⟨hcz13_0, hcz13_1, hcz13_2, hcz13_3, hcz13_4, hcz13_5, hfz13_0, hfz13_1, hfz13_2, hfz13_3, hfz13_4, hfz13_5⟩ := b6_ BK302) | ((with_reducible refine gate_callee (f := 59) rfl ?_); refine gl_ 5 Try.func59 #[.int .i64 a0_0, .int .i64 0, .int .i64 999] ?_; (with_reducible refine (impl_within.calls a0_0 0 999 true _ A2.out).mono ?_); rintro e w' ⟨rfl, ⟨nd, rfl⟩⟩; refine ⟨_, rfl, ?_⟩) | (go_at_call 59; (with_reducible refine (impl_within.calls a0_1 0 100000 true _ A4.out).mono ?_); rintro e w' ⟨rfl, ⟨nd, rfl⟩⟩) | (go_at_call 59; (with_reducible refine (impl_within.calls a0_2 0 4 false _ A6.out).mono ?_); rintro e w' ⟨rfl, ⟨nd, rfl⟩⟩))
  go_ret
  exact ⟨er_, bw_ HB⟩
 subst c7
 rw [if_pos rfl] at H
 replace H := Option.bind_eq_some_iff.mp H
 obtain ⟨t306, A80, H⟩ := H
 try dsimp only at H
 have A8 := Aside0.mk A80
 clear A80
 obtain rfl := Option.some.inj H
 go_enter Try.func70, Try.ntmps70
 go_wp2_with (first | ((with_reducible refine gate_dst (N := 1) rfl ?_); refine bx_ (N := 1) (cs := #[.int .i64 a0_0, .int .i64 a0_1, .int .i64 a0_2, .int .i64 a0_3, .int .i64 a0_4, .slice A0_5 l0_5.length c0_5]) (t := 61) ?_; intro gb302 hg w9 hbox hb; have BK302 := mk_ (hbox); have GW302 : Aside0 (w.heap.size ≤ gb302) := bz_ hg; have GE302 := GW302; replace HB := bs_ HB hb; clear hb hbox hg; obtain ⟨hcz10_0, hcz10_1, hcz10_2, hcz10_3, hcz10_4, hcz10_5, hfz10_0, hfz10_1, hfz10_2, hfz10_3, hfz10_4, hfz10_5⟩ := b6_ BK302) | ((with_reducible refine gate_callee (f := 59) rfl ?_); refine gl_ 5 Try.func59 #[.int .i64 a0_0, .int .i64 0, .int .i64 999] ?_; (with_reducible refine (impl_within.calls a0_0 0 999 true _ A2.out).mono ?_); rintro e w' ⟨rfl, ⟨nd, rfl⟩⟩; refine ⟨_, rfl, ?_⟩) | (go_at_call 59; (with_reducible refine (impl_within.calls a0_1 0 100000 true _ A4.out).mono ?_); rintro e w' ⟨rfl, ⟨nd, rfl⟩⟩) | (go_at_call 59; (with_reducible refine (impl_within.calls a0_2 0 4 true _ A6.out).mono ?_); rintro e w' ⟨rfl, ⟨nd, rfl⟩⟩) | (go_at_call 105; (with_reducible refine (impl_LogOk.calls k a0_3 a0_4 _ _ l0_5 t306 _ ?side1 ?side2 A8.out).mono ?_); (case side1 => repeat (first | exact (Kd.C_below HR0_5.out (bw_ HB)) | (with_reducible refine Kd.C_alloc ?_ _) | (with_reducible refine Kd.C_drewN ?_ _) | (with_reducible refine Kd.C_drew ?_))); (case side2 => exact HC0_5.out); rintro e w11 ⟨rfl, hb⟩; replace BK302 := bb_ BK302 hb; replace HB := bs_ HB hb; (try clear hb)))
 go_ret
 exact ⟨er_, bw_ HB⟩

/-! ### impl_ReadEntry: function 108 -/
def impl_ReadEntry.j0 : Nat → ByteArray → Int → Bool → ByteArray → Int → Bool → Int → Int → ByteArray → Option (Int × Int × Int × ByteArray × Bool)
 | 0, _, _, _, _, _, _, _, _, _ => none
 | k + 1, x0, x7, x28, x309000, x309001, x309002, x326000, x326001, x326002 => if x28 = true then (some (0, 0, 0, (⟨#[]⟩ : ByteArray), false)) else (if 0 ≤ x309001 then (if x309001 ≤ (x0.size : Int) then ((impl_EntryOk.f k x326000 x326001 (x0.extract (x309001 : Int).toNat x0.size)).bind fun t326 => (if t326 = true then ((impl_within.f x7 1 1000000).bind fun t327 => (if t327 = true then (some (x7, x326000, x326001, x0.extract (x309001 : Int).toNat x0.size, true)) else (some (0, 0, 0, (⟨#[]⟩ : ByteArray), false)))) else (some (0, 0, 0, (⟨#[]⟩ : ByteArray), false)))) else (none)) else (none))
def impl_ReadEntry.f (k : Nat) (a0 : ByteArray) : Option (Int × Int × Int × ByteArray × Bool) := (impl_reader_byte.f a0 0 false).bind fun bt309 => ((impl_reader_num.f k bt309.2.1 bt309.2.2.1 bt309.2.2.2).bind fun bt313 => ((impl_reader_num.f k bt313.2.1 bt313.2.2.1 bt313.2.2.2).bind fun bt317 => ((impl_reader_byte.f bt317.2.1 bt317.2.2.1 bt317.2.2.2).bind fun bt321 => (if bt321.2.2.2 = true then (impl_ReadEntry.j0 k a0 bt313.1 true bt321.2.1 bt321.2.2.1 bt321.2.2.2 bt317.1 bt321.1 (⟨#[]⟩ : ByteArray)) else (impl_ReadEntry.j0 k a0 bt313.1 (bt309.1 != 69) bt321.2.1 bt321.2.2.1 bt321.2.2.2 bt317.1 bt321.1 (⟨#[]⟩ : ByteArray))))))
theorem impl_ReadEntry.mono_l : ∀ k, (∀ y0 y1 y2 y3 y4 y5 y6 y7 y8, LeO (impl_ReadEntry.j0 k y0 y1 y2 y3 y4 y5 y6 y7 y8) (impl_ReadEntry.j0 (k + 1) y0 y1 y2 y3 y4 y5 y6 y7 y8))
 | 0 => fun _ _ _ _ _ _ _ _ _ r h => by simp [impl_ReadEntry.j0] at h
 | k + 1 => by
  have ih0 := impl_ReadEntry.mono_l k
  ·intro y0 y1 y2 y3 y4 y5 y6 y7 y8
   unfold impl_ReadEntry.j0
   repeat' first
   | (with_reducible exact impl_EntryOk.mono _ _ _ _)
   | (with_reducible exact LeO.refl _)
   | (with_reducible refine LeO.ite ?_ ?_)
   | (with_reducible refine LeO.bind ?_ (fun _ => ?_))
theorem impl_ReadEntry.mono : ∀ a0 k, LeO (impl_ReadEntry.f k a0) (impl_ReadEntry.f (k + 1) a0) := by
 intro a0 k
 have ih0 := impl_ReadEntry.mono_l k
 unfold impl_ReadEntry.f
 repeat' first
   | (with_reducible exact ih0 _ _ _ _ _ _ _ _ _)
   | (with_reducible exact impl_reader_num.mono _ _ _ _)
   | (with_reducible exact LeO.refl _)
   | (with_reducible refine LeO.ite ?_ ?_)
   | (with_reducible refine LeO.bind ?_ (fun _ => ?_))
set_option maxHeartbeats 8000000 in
set_option maxRecDepth 100000 in
theorem impl_ReadEntry.calls (k : Nat) (a0 : ByteArray) (r1 : Int) (r2 : Int) (r3 : Int) (r4 : ByteArray) (r5 : Bool) (w : World) (h : impl_ReadEntry.f k a0 = some (r1, r2, r3, r4, r5)) :
  Calls Try.prog 108 #[.string a0] w fun e w' => e = .returned (.tuple #[.int .i64 r1, .agg #[.int .i64 r2, .int .i64 r3, .string r4], .bool r5]) ∧ Below w.heap.size w w' := by
 have hu135 := Try.underlying135
 have hu145 := Try.underlying145
 have HB := mk_ (Below.refl w.heap.size w)
 have H : ((impl_reader_byte.f a0 0 false).bind fun bt309 => ((impl_reader_num.f k bt309.2.1 bt309.2.2.1 bt309.2.2.2).bind fun bt313 => ((impl_reader_num.f k bt313.2.1 bt313.2.2.1 bt313.2.2.2).bind fun bt317 => ((impl_reader_byte.f bt317.2.1 bt317.2.2.1 bt317.2.2.2).bind fun bt321 => (if bt321.2.2.2 = true then (impl_ReadEntry.j0 k a0 bt313.1 true bt321.2.1 bt321.2.2.1 bt321.2.2.2 bt317.1 bt321.1 (⟨#[]⟩ : ByteArray)) else (impl_ReadEntry.j0 k a0 bt313.1 (bt309.1 != 69) bt321.2.1 bt321.2.2.1 bt321.2.2.2 bt317.1 bt321.1 (⟨#[]⟩ : ByteArray))))))) = some (r1, r2, r3, r4, r5) := h
 clear h
 replace H := Option.bind_eq_some_iff.mp H
 obtain ⟨⟨t309, t310, t311, t312⟩, A20, H⟩ := H
 try dsimp only at H
 have A2 := Aside0.mk A20
 clear A20
 replace H := Option.bind_eq_some_iff.mp H
 obtain ⟨⟨t313, t314, t315, t316⟩, A30, H⟩ := H
 try dsimp only at H
 have A3 := Aside0.mk A30
 clear A30
 replace H := Option.bind_eq_some_iff.mp H
 obtain ⟨⟨t317, t318, t319, t320⟩, A40, H⟩ := H
 try dsimp only at H
 have A4 := Aside0.mk A40
 clear A40
 replace H := Option.bind_eq_some_iff.mp H
 obtain ⟨⟨t321, t322, t323, t324⟩, A50, H⟩ := H
 try dsimp only at H
 have A5 := Aside0.mk A50
 clear A50
 have HC6 := Aside0.mk H
 clear H
 go_enter Try.func108, Try.ntmps108
 go_upto_region 5 with (first | ((with_reducible refine gate_dst (N := 3) rfl ?_); refine bx_ (N := 3) (cs := #[.int .i64 0, .int .i64 0, .string (⟨#[]⟩ : ByteArray)]) (t := 135) ?_; intro gb307 hg w7 hbox hb; have BK307 := mk_ (hbox); have GW307 : Aside0 (w.heap.size ≤ gb307) := bz_ hg; have GE307 := GW307; replace HB := bs_ HB hb; clear hb hbox hg) | ((with_reducible refine gate_dst (N := 11) rfl ?_); refine bx_ (N := 11) (cs := #[.string a0, .int .i64 0, .bool false]) (t := 145) ?_; intro gb308 hg w8 hbox hb; have GW308 : Aside0 (w.heap.size ≤ gb308) := bz_ hg; have GE308 := GW308; have NB307_308 := bl_ BK307 hg; have NB308_307 := bg_ BK307 hg; have HI308 := mk_ ((⟨hbox, (by rw [hg]; exact (below_size (bw_ HB)) : w.heap.size ≤ gb308)⟩ : IsS145 w w8 gb308 a0 0 false)); replace BK307 := bb_ BK307 hb; replace HB := bs_ HB hb; clear hb hbox hg) | ((with_reducible refine gate_callee (f := 102) rfl ?_); refine gl_ 13 Try.func102 #[.pointer (some ⟨gb308, 0, none⟩)] ?_; (with_reducible refine (impl_reader_byte.calls gb308 a0 0 false t309 t310 t311 t312 w _ ?side1 ?side2 A2.out).mono ?_); (case side1 => exact IsS145.ii_ HI308); (case side2 => exact bwi_ HB (IsS145.ge HI308.out)); rintro e w9 ⟨rfl, hi, hb, hk⟩; refine ⟨_, rfl, ?_⟩; replace BK307 := kz_ BK307 hk NB307_308; replace HB := mk_ (hb); replace HI308 := mk_ (hi); (try clear hb); (try clear hk); (try clear hi)) | ((with_reducible refine gate_callee (f := 103) rfl ?_); refine gl_ 15 Try.func103 #[.pointer (some ⟨gb308, 0, none⟩)] ?_; (with_reducible refine (impl_reader_num.calls k gb308 t310 t311 t312 t313 t314 t315 t316 w _ ?side1 ?side2 A3.out).mono ?_); (case side1 => exact IsS145.ii_ HI308); (case side2 => exact bwi_ HB (IsS145.ge HI308.out)); rintro e w10 ⟨rfl, hi, hb, hk⟩; refine ⟨_, rfl, ?_⟩; replace BK307 := kz_ BK307 hk NB307_308; replace HB := mk_ (hb); replace HI308 := mk_ (hi); (try clear hb); (try clear hk); (try clear hi)) | ((with_reducible refine gate_callee (f := 103) rfl ?_); refine gl_ 17 Try.func103 #[.pointer (some ⟨gb308, 0, none⟩)] ?_; (with_reducible refine (impl_reader_num.calls k gb308 t314 t315 t316 t317 t318 t319 t320 w _ ?side1 ?side2 A4.out).mono ?_); (case side1 => exact IsS145.ii_ HI308); (case side2 => exact bwi_ HB (IsS145.ge HI308.out)); rintro e w11 ⟨rfl, hi, hb, hk⟩; refine ⟨_, rfl, ?_⟩; replace BK307 := kz_ BK307 hk NB307_308; replace HB := mk_ (hb); replace HI308 := mk_ (hi); (try clear hb); (try clear hk); (try clear hi)) | ((with_reducible refine gate_callee (f := 102) rfl ?_); refine gl_ 19 Try.func102 #[.pointer (some ⟨gb308, 0, none⟩)] ?_; (with_reducible refine (impl_reader_byte.calls gb308 t318 t319 t320 t321 t322 t323 t324 w _ ?side1 ?side2 A5.out).mono ?_); (case side1 => exact IsS145.ii_ HI308); (case side2 => exact bwi_ HB (IsS145.ge HI308.out)); rintro e w12 ⟨rfl, hi, hb, hk⟩; refine ⟨_, rfl, ?_⟩; replace BK307 := kz_ BK307 hk NB307_308; replace HB := mk_ (hb); replace HI308 := mk_ (hi); (try clear hb); (try clear hk); (try clear hi)) | ((with_reducible refine gate_dst (N := 8) rfl ?_); refine bx_ (N := 8) (cs := #[.int .i64 0, .int .i64 0, .string (⟨#[]⟩ : ByteArray)]) (t := 135) ?_; intro gb325 hg w13 hbox hb; have n1_ := mk_ (IsS145.below (IsS145.ii_ HI308) hb); have n2_ := mk_ (below_step (bwi_ HB (IsS145.ge HI308.out)) hb); have n3_ := mk_ (hbox); have n4_ := mk_ ((by rw [hg]; exact (below_size (bwi_ HB (IsS145.ge HI308.out))) : w.heap.size ≤ gb325)); have n5_ := mk_ ((by rw [hg]; exact (below_size (bwi_ HB (IsS145.ge HI308.out))) : w.heap.size ≤ gb325)); have n6_ : Aside0 (gb307 ≠ gb325) := bl_ BK307 hg; have n7_ : Aside0 (gb325 ≠ gb307) := bg_ BK307 hg; have n8_ := mk_ ((by rw [hg]; exact Nat.ne_of_lt (IsS145.lt (show IsS145 w _ gb308 t322 t323 t324 from IsS145.ii_ HI308)) : gb308 ≠ gb325)); have n9_ := mk_ ((by rw [hg]; exact Nat.ne_of_gt (IsS145.lt (show IsS145 w _ gb308 t322 t323 t324 from IsS145.ii_ HI308)) : gb325 ≠ gb308)); clear HI308; clear HB; have HI308 := n1_; have HB := n2_; have BK325 := n3_; have GW325 := n4_; have GE325 := n5_; have NB307_325 := n6_; have NB325_307 := n7_; have NB308_325 := n8_; have NB325_308 := n9_; clear n1_ n2_ n3_ n4_ n5_ n6_ n7_ n8_ n9_; replace BK307 := bb_ BK307 hb; clear hb hbox hg; obtain ⟨hnb14, hnc14⟩ := ns_ NB325_307; obtain ⟨hnb15, hnc15⟩ := ns_ NB325_308; obtain ⟨hcz16_0, hcz16_1, hcz16_2, hfz16_0, hfz16_1, hfz16_2⟩ := b3_ BK325))
 (try simp only [Act.put, sia_, scz_, scs_])
 go_cut [28] (fun v28 wc => ∃ (kq : Nat) (x28_5 : Bool), v28 = .bool x28_5 ∧ Aside0 (impl_ReadEntry.j0 kq a0 t313 x28_5 t322 t323 t324 t317 t321 (⟨#[]⟩ : ByteArray) = some (r1, r2, r3, r4, r5)) ∧ Aside0 (kq ≤ k) ∧ Aside0 (wc.heap[gb307]? = some (.cells #[.int .i64 0, .int .i64 0, .string (⟨#[]⟩ : ByteArray)] 135 (0, 0))) ∧ Aside0 (wc.heap[gb325]? = some (.cells #[.int .i64 t317, .int .i64 t321, .string (⟨#[]⟩ : ByteArray)] 135 (0, 0))) ∧ Aside0 (IsS145 w wc gb308 t322 t323 t324) ∧ Aside0 (Below w.heap.size w wc))
 case first =>
  have H := HC6.out
  clear HC6
  by_cases c17 : t324 = true
  ·subst c17
   rw [if_pos rfl] at H
   have H' := Aside0.mk H
   clear H
   obtain ⟨HGz18, hgz18⟩ := HI308.out
   have hcz18_0 := cellS145_0 HGz18
   have hcz18_1 := cellS145_1 HGz18
   have hcz18_2 := cellS145_2 HGz18
   have hfz18_0 := blk_frozen HGz18 0
   have hfz18_1 := blk_frozen HGz18 1
   have hfz18_2 := blk_frozen HGz18 2
   clear HGz18 hgz18
   go_wp2
   go_meet
   case rel => exact ⟨_, (true), (by first | rfl | (simp; done) | (simp [*]; done) | (simp [bne]; done)), H', ⟨by first | omega | exact Nat.le_refl _⟩, ⟨bf_⟩, ⟨bu_⟩, ⟨IsS145.ii_ HI308⟩, ⟨bwi_ HB (IsS145.ge HI308.out)⟩⟩
  replace c17 := Bool.eq_false_iff.mpr c17
  subst c17
  rw [if_neg (show ¬ (false = true) by decide)] at H
  have H' := Aside0.mk H
  clear H
  obtain ⟨HGz19, hgz19⟩ := HI308.out
  have hcz19_0 := cellS145_0 HGz19
  have hcz19_1 := cellS145_1 HGz19
  have hcz19_2 := cellS145_2 HGz19
  have hfz19_0 := blk_frozen HGz19 0
  have hfz19_1 := blk_frozen HGz19 1
  have hfz19_2 := blk_frozen HGz19 2
  clear HGz19 hgz19
  go_wp2
  go_meet
  case rel => exact ⟨_, ((t309 != 69)), (by first | rfl | (simp; done) | (simp [*]; done) | (simp [bne]; done)), H', ⟨by first | omega | exact Nat.le_refl _⟩, ⟨bf_⟩, ⟨bu_⟩, ⟨IsS145.ii_ HI308⟩, ⟨bwi_ HB (IsS145.ge HI308.out)⟩⟩
 case rest =>
  clear HC6
  (try clear c1); (try clear p2); (try clear c10); (try clear c14); (try clear c15); (try clear c17); (try clear hcz16_0); (try clear hcz16_1); (try clear hcz16_2); (try clear hcz18_0); (try clear hcz18_1); (try clear hcz18_2); (try clear hcz19_0); (try clear hcz19_1); (try clear hcz19_2); (try clear hfz16_0); (try clear hfz16_1); (try clear hfz16_2); (try clear hfz18_0); (try clear hfz18_1); (try clear hfz18_2); (try clear hfz19_0); (try clear hfz19_1); (try clear hfz19_2)
  obtain ⟨kq, x28_5, rfl, HA, HJ5, BK307, BK325, HI308, HB⟩ := hcut
  cases kq with
  | zero => exact absurd HA.out (by simp [impl_ReadEntry.j0])
  | succ kj5 =>
   have H := HA.out
   clear HA
   simp only [impl_ReadEntry.j0] at H
   by_cases c20 : x28_5 = true
   ·subst c20
    rw [if_pos rfl] at H
    simp only [Option.some.injEq, Prod.mk.injEq] at H
    obtain ⟨rfl, rfl, rfl, rfl, rfl⟩ := H
    obtain ⟨hnb21, hnc21⟩ := ns_ NB307_325
    obtain ⟨hnb22, hnc22⟩ := ns_ NB307_308
    have hcz23_0 : wc.cell? ⟨gb307, 0, none⟩ = some (.int .i64 0) := bc_ BK307 0
    have hcz23_1 : wc.cell? ⟨gb307, 1, none⟩ = some (.int .i64 0) := bc_ BK307 1
    have hcz23_2 : wc.cell? ⟨gb307, 2, none⟩ = some (.string (⟨#[]⟩ : ByteArray)) := bc_ BK307 2
    have hfz23_0 := blk_frozen BK307.out 0
    have hfz23_1 := blk_frozen BK307.out 1
    have hfz23_2 := blk_frozen BK307.out 2
    go_wp2
    refine bodyPost_ret (results_list (rs := [.tmp 2, .cell 3 135, .tmp 4]) rfl (by simp) (.tmp (.cell gb307 135 #[.int .i64 0, .int .i64 0, .string (⟨#[]⟩ : ByteArray)] (0, 0) _ rfl bu_ Try.underlying135 rfl (by kernel_rfl) (.tmp .nil)))) rfl ?_
    exact ⟨er_, bwi_ HB (IsS145.ge HI308.out)⟩
   replace c20 := Bool.eq_false_iff.mpr c20
   subst c20
   rw [if_neg (show ¬ (false = true) by decide)] at H
   by_cases c24 : 0 ≤ t323
   rotate_left
   ·rw [if_neg c24] at H
    exact absurd H (by simp)
   rw [if_pos c24] at H
   have c24b0 := eq_true c24
   have c24b1 : decide (0 ≤ t323) = true := decide_eq_true c24
   clear c24
   by_cases c25 : t323 ≤ (a0.size : Int)
   rotate_left
   ·rw [if_neg c25] at H
    exact absurd H (by simp)
   rw [if_pos c25] at H
   have c25b0 := eq_true c25
   have c25b1 : decide (t323 ≤ (a0.size : Int)) = true := decide_eq_true c25
   clear c25
   replace H := Option.bind_eq_some_iff.mp H
   obtain ⟨t326, A260, H⟩ := H
   try dsimp only at H
   have A26 := Aside0.mk A260
   clear A260
   by_cases c27 : t326 = true
   rotate_left
   ·replace c27 := Bool.eq_false_iff.mpr c27
    subst c27
    rw [if_neg (show ¬ (false = true) by decide)] at H
    simp only [Option.some.injEq, Prod.mk.injEq] at H
    obtain ⟨rfl, rfl, rfl, rfl, rfl⟩ := H
    obtain ⟨HGz46, hgz46⟩ := HI308.out
    have hcz46_0 := cellS145_0 HGz46
    have hcz46_1 := cellS145_1 HGz46
    have hcz46_2 := cellS145_2 HGz46
    have hfz46_0 := blk_frozen HGz46 0
    have hfz46_1 := blk_frozen HGz46 1
    have hfz46_2 := blk_frozen HGz46 2
    clear HGz46 hgz46
    obtain ⟨hnb47, hnc47⟩ := ns_ NB325_307
    obtain ⟨hnb48, hnc48⟩ := ns_ NB325_308
    have hcz49_0 : wc.cell? ⟨gb325, 0, none⟩ = some (.int .i64 t317) := bc_ BK325 0
    have hcz49_1 : wc.cell? ⟨gb325, 1, none⟩ = some (.int .i64 t321) := bc_ BK325 1
    have hcz49_2 : wc.cell? ⟨gb325, 2, none⟩ = some (.string (⟨#[]⟩ : ByteArray)) := bc_ BK325 2
    have hfz49_0 := blk_frozen BK325.out 0
    have hfz49_1 := blk_frozen BK325.out 1
    have hfz49_2 := blk_frozen BK325.out 2
    go_wp2_with (first | ((with_reducible refine gate_callee (f := 121) rfl ?_); refine gl_ 38 Try.func121 #[.agg #[.int .i64 t317, .int .i64 t321, .string (a0.extract (t323 : Int).toNat a0.size)]] ?_; (with_reducible refine (impl_EntryOk.calls kj5 t317 t321 (a0.extract (t323 : Int).toNat a0.size) false _ A26.out).mono ?_); rintro e w50 ⟨rfl, hb⟩; refine ⟨_, rfl, ?_⟩; have n0_ := mk_ (blk_below (g := gb307) (o := .cells #[.int .i64 0, .int .i64 0, .string (⟨#[]⟩ : ByteArray)] 135 (0, 0)) bf_ hb); have n1_ := mk_ (blk_below (g := gb325) (o := .cells #[.int .i64 t317, .int .i64 t321, .string (a0.extract (t323 : Int).toNat a0.size)] 135 (0, 0)) bu_ hb); have n2_ := mk_ (IsS145.below (show IsS145 w (wc.setCell ⟨gb325, 2, none⟩ (.string (a0.extract (t323 : Int).toNat a0.size))) gb308 t322 t323 t324 from IsS145.ii_ HI308) hb); have n3_ := mk_ (below_step (bwi_ HB (IsS145.ge HI308.out)) hb); clear BK307; clear BK325; clear HI308; clear HB; have BK307 := n0_; have BK325 := n1_; have HI308 := n2_; have HB := n3_; clear n0_ n1_ n2_ n3_; (try clear hb); obtain ⟨hnb51, hnc51⟩ := ns_ NB307_308; obtain ⟨hcz52_0, hcz52_1, hcz52_2, hfz52_0, hfz52_1, hfz52_2⟩ := b3_ BK307))
    refine bodyPost_ret (results_list (rs := [.tmp 2, .cell 3 135, .tmp 4]) rfl (by simp) (.tmp (.cell gb307 135 #[.int .i64 0, .int .i64 0, .string (⟨#[]⟩ : ByteArray)] (0, 0) _ rfl bu_ Try.underlying135 rfl (by kernel_rfl) (.tmp .nil)))) rfl ?_
    exact ⟨er_, bwi_ HB (IsS145.ge HI308.out)⟩
   subst c27
   rw [if_pos rfl] at H
   replace H := Option.bind_eq_some_iff.mp H
   obtain ⟨t327, A280, H⟩ := H
   try dsimp only at H
   have A28 := Aside0.mk A280
   clear A280
   by_cases c29 : t327 = true
   rotate_left
   ·replace c29 := Bool.eq_false_iff.mpr c29
    subst c29
    rw [if_neg (show ¬ (false = true) by decide)] at H
    simp only [Option.some.injEq, Prod.mk.injEq] at H
    obtain ⟨rfl, rfl, rfl, rfl, rfl⟩ := H
    obtain ⟨HGz39, hgz39⟩ := HI308.out
    have hcz39_0 := cellS145_0 HGz39
    have hcz39_1 := cellS145_1 HGz39
    have hcz39_2 := cellS145_2 HGz39
    have hfz39_0 := blk_frozen HGz39 0
    have hfz39_1 := blk_frozen HGz39 1
    have hfz39_2 := blk_frozen HGz39 2
    clear HGz39 hgz39
    obtain ⟨hnb40, hnc40⟩ := ns_ NB325_307
    obtain ⟨hnb41, hnc41⟩ := ns_ NB325_308
    have hcz42_0 : wc.cell? ⟨gb325, 0, none⟩ = some (.int .i64 t317) := bc_ BK325 0
    have hcz42_1 : wc.cell? ⟨gb325, 1, none⟩ = some (.int .i64 t321) := bc_ BK325 1
    have hcz42_2 : wc.cell? ⟨gb325, 2, none⟩ = some (.string (⟨#[]⟩ : ByteArray)) := bc_ BK325 2
    have hfz42_0 := blk_frozen BK325.out 0
    have hfz42_1 := blk_frozen BK325.out 1
    have hfz42_2 := blk_frozen BK325.out 2
    go_wp2_with (first | ((with_reducible refine gate_callee (f := 121) rfl ?_); refine gl_ 38 Try.func121 #[.agg #[.int .i64 t317, .int .i64 t321, .string (a0.extract (t323 : Int).toNat a0.size)]] ?_; (with_reducible refine (impl_EntryOk.calls kj5 t317 t321 (a0.extract (t323 : Int).toNat a0.size) true _ A26.out).mono ?_); rintro e w43 ⟨rfl, hb⟩; refine ⟨_, rfl, ?_⟩; have n0_ := mk_ (blk_below (g := gb307) (o := .cells #[.int .i64 0, .int .i64 0, .string (⟨#[]⟩ : ByteArray)] 135 (0, 0)) bf_ hb); have n1_ := mk_ (blk_below (g := gb325) (o := .cells #[.int .i64 t317, .int .i64 t321, .string (a0.extract (t323 : Int).toNat a0.size)] 135 (0, 0)) bu_ hb); have n2_ := mk_ (IsS145.below (show IsS145 w (wc.setCell ⟨gb325, 2, none⟩ (.string (a0.extract (t323 : Int).toNat a0.size))) gb308 t322 t323 t324 from IsS145.ii_ HI308) hb); have n3_ := mk_ (below_step (bwi_ HB (IsS145.ge HI308.out)) hb); clear BK307; clear BK325; clear HI308; clear HB; have BK307 := n0_; have BK325 := n1_; have HI308 := n2_; have HB := n3_; clear n0_ n1_ n2_ n3_; (try clear hb)) | (go_at_call 59; (with_reducible refine (impl_within.calls t313 1 1000000 false _ A28.out).mono ?_); rintro e w' ⟨rfl, ⟨nd, rfl⟩⟩; (try (rw [drewN_self w43]; generalize hq_ : World.drewN w43 _ = w43; have n0_ : Aside0 (w43.heap[gb307]? = some (.cells #[.int .i64 0, .int .i64 0, .string (⟨#[]⟩ : ByteArray)] 135 (0, 0))) := ⟨by rw [← hq_]; exact (bp_ BK307)⟩; have n1_ : Aside0 (w43.heap[gb325]? = some (.cells #[.int .i64 t317, .int .i64 t321, .string (a0.extract (t323 : Int).toNat a0.size)] 135 (0, 0))) := ⟨by rw [← hq_]; exact (bp_ BK325)⟩; have n2_ : Aside0 (IsS145 w w43 gb308 t322 t323 t324) := ⟨by rw [← hq_]; exact (IsS145.ii_ HI308)⟩; have n3_ : Aside0 (Below w.heap.size w w43) := ⟨by rw [← hq_]; exact (bwi_ HB (IsS145.ge HI308.out))⟩; clear BK307 BK325 HI308 HB hq_; have BK307 := n0_; have BK325 := n1_; have HI308 := n2_; have HB := n3_; clear n0_ n1_ n2_ n3_)); obtain ⟨hnb44, hnc44⟩ := ns_ NB307_308; obtain ⟨hcz45_0, hcz45_1, hcz45_2, hfz45_0, hfz45_1, hfz45_2⟩ := b3_ BK307))
    refine bodyPost_ret (results_list (rs := [.tmp 2, .cell 3 135, .tmp 4]) rfl (by simp) (.tmp (.cell gb307 135 #[.int .i64 0, .int .i64 0, .string (⟨#[]⟩ : ByteArray)] (0, 0) _ rfl bu_ Try.underlying135 rfl (by kernel_rfl) (.tmp .nil)))) rfl ?_
    exact ⟨er_, bwi_ HB (IsS145.ge HI308.out)⟩
   subst c29
   rw [if_pos rfl] at H
   simp only [Option.some.injEq, Prod.mk.injEq] at H
   obtain ⟨rfl, rfl, rfl, rfl, rfl⟩ := H
   obtain ⟨HGz30, hgz30⟩ := HI308.out
   have hcz30_0 := cellS145_0 HGz30
   have hcz30_1 := cellS145_1 HGz30
   have hcz30_2 := cellS145_2 HGz30
   have hfz30_0 := blk_frozen HGz30 0
   have hfz30_1 := blk_frozen HGz30 1
   have hfz30_2 := blk_frozen HGz30 2
   clear HGz30 hgz30
   obtain ⟨hnb31, hnc31⟩ := ns_ NB325_307
   obtain ⟨hnb32, hnc32⟩ := ns_ NB325_308
   have hcz33_0 : wc.cell? ⟨gb325, 0, none⟩ = some (.int .i64 t317) := bc_ BK325 0
   have hcz33_1 : wc.cell? ⟨gb325, 1, none⟩ = some (.int .i64 t321) := bc_ BK325 1
   have hcz33_2 : wc.cell? ⟨gb325, 2, none⟩ = some (.string (⟨#[]⟩ : ByteArray)) := bc_ BK325 2
   have hfz33_0 := blk_frozen BK325.out 0
   have hfz33_1 := blk_frozen BK325.out 1
   have hfz33_2 := blk_frozen BK325.out 2
   try go_wp2_with (first | ((with_reducible refine gate_callee (f := 121) rfl ?_); refine gl_ 38 Try.func121 #[.agg #[.int .i64 t317, .int .i64 t321, .string (a0.extract (t323 : Int).toNat a0.size)]] ?_; (with_reducible refine (impl_EntryOk.calls kj5 t317 t321 (a0.extract (t323 : Int).toNat a0.size) true _ A26.out).mono ?_); rintro e w34 ⟨rfl, hb⟩; refine ⟨_, rfl, ?_⟩; have n0_ := mk_ (blk_below (g := gb307) (o := .cells #[.int .i64 0, .int .i64 0, .string (⟨#[]⟩ : ByteArray)] 135 (0, 0)) bf_ hb); have n1_ := mk_ (blk_below (g := gb325) (o := .cells #[.int .i64 t317, .int .i64 t321, .string (a0.extract (t323 : Int).toNat a0.size)] 135 (0, 0)) bu_ hb); have n2_ := mk_ (IsS145.below (show IsS145 w (wc.setCell ⟨gb325, 2, none⟩ (.string (a0.extract (t323 : Int).toNat a0.size))) gb308 t322 t323 t324 from IsS145.ii_ HI308) hb); have n3_ := mk_ (below_step (bwi_ HB (IsS145.ge HI308.out)) hb); clear BK307; clear BK325; clear HI308; clear HB; have BK307 := n0_; have BK325 := n1_; have HI308 := n2_; have HB := n3_; clear n0_ n1_ n2_ n3_; (try clear hb)) | (go_at_call 59; (with_reducible refine (impl_within.calls t313 1 1000000 true _ A28.out).mono ?_); rintro e w' ⟨rfl, ⟨nd, rfl⟩⟩; (try (rw [drewN_self w34]; generalize hq_ : World.drewN w34 _ = w34; have n0_ : Aside0 (w34.heap[gb307]? = some (.cells #[.int .i64 0, .int .i64 0, .string (⟨#[]⟩ : ByteArray)] 135 (0, 0))) := ⟨by rw [← hq_]; exact (bp_ BK307)⟩; have n1_ : Aside0 (w34.heap[gb325]? = some (.cells #[.int .i64 t317, .int .i64 t321, .string (a0.extract (t323 : Int).toNat a0.size)] 135 (0, 0))) := ⟨by rw [← hq_]; exact (bp_ BK325)⟩; have n2_ : Aside0 (IsS145 w w34 gb308 t322 t323 t324) := ⟨by rw [← hq_]; exact (IsS145.ii_ HI308)⟩; have n3_ : Aside0 (Below w.heap.size w w34) := ⟨by rw [← hq_]; exact (bwi_ HB (IsS145.ge HI308.out))⟩; clear BK307 BK325 HI308 HB hq_; have BK307 := n0_; have BK325 := n1_; have HI308 := n2_; have HB := n3_; clear n0_ n1_ n2_ n3_))))
   have n2_ := mk_ (IsS145.drew HI308.out)
   clear HI308; have HI308 := n2_; clear n2_; replace BK307 := kd_ BK307; replace BK325 := kd_ BK325; replace HB := wd_ HB
   refine start_ (n := 5) (S := fun w' => w'.cell? ⟨gb325, 0, none⟩ = some (.int .i64 t317) ∧ w'.cell? ⟨gb325, 1, none⟩ = some (.int .i64 t321) ∧ w'.cell? ⟨gb325, 2, none⟩ = some (.string (a0.extract (t323 : Int).toNat a0.size))) (ds := []) #[false, false, false, false, false] (by kernel_rfl) rfl rfl ⟨bc_ BK325 0, bc_ BK325 1, bc_ BK325 2⟩ (fun hHeld => ?_)
   generalize w34.drew = w35 at BK307 BK325 HI308 HB hHeld ⊢
   refine pv_ 0 46 ?_
   refine pv_ 2 2 ?_
   refine tv_ 1 47 hHeld ?_
   refine one_ (i := 3) (N := none) #[true, true, true, true, false] rfl rfl (by kernel_rfl) (by decide) (fun K hK => ?_)
   have hs36 : w35.cell? ⟨gb307, 0, none⟩ = some (.int .i64 0) := bc_ BK307 0
   have hfs36 := blk_frozen BK307.out 0
   have hns36_1 := NB325_307.out
   have hms36_1 := NB307_325.out
   have hs37 : w35.cell? ⟨gb307, 1, none⟩ = some (.int .i64 0) := bc_ BK307 1
   have hfs37 := blk_frozen BK307.out 1
   have hns37_1 := NB325_307.out
   have hms37_1 := NB307_325.out
   have hs38 : w35.cell? ⟨gb307, 2, none⟩ = some (.string (⟨#[]⟩ : ByteArray)) := bc_ BK307 2
   have hfs38 := blk_frozen BK307.out 2
   have hns38_1 := NB325_307.out
   have hms38_1 := NB307_325.out
   refine skip_ (w1 := ?_) (by rfl) rfl ?_ ?_
   rotate_left
   ·go_simp
    rfl
   refine hK.out _ _ ⟨((cell_far (p := ⟨gb307, _, none⟩) NB325_307.out _).trans (((cell_far (p := ⟨gb307, _, none⟩) NB325_307.out _).trans (((cell_far (p := ⟨gb307, _, none⟩) NB325_307.out _).trans (hHeld.1)))))), ((cell_far (p := ⟨gb307, _, none⟩) NB325_307.out _).trans (((cell_far (p := ⟨gb307, _, none⟩) NB325_307.out _).trans (((cell_far (p := ⟨gb307, _, none⟩) NB325_307.out _).trans (hHeld.2.1)))))), ((cell_far (p := ⟨gb307, _, none⟩) NB325_307.out _).trans (((cell_far (p := ⟨gb307, _, none⟩) NB325_307.out _).trans (((cell_far (p := ⟨gb307, _, none⟩) NB325_307.out _).trans (hHeld.2.2))))))⟩ (fun hHeld => ?_)
   clear hK K
   refine pv_ 4 4 ?_
   refine done_ (by kernel_rfl) ?_
   try go_wp2
   refine bodyPost_ret (results_list (rs := [.tmp 2, .cell 3 135, .tmp 4]) rfl (by simp) (.tmp (.cell gb307 135 #[.int .i64 t317, .int .i64 t321, .string (a0.extract (t323 : Int).toNat a0.size)] (0, 0) _ rfl bu_ Try.underlying135 rfl (by kernel_rfl) (.tmp .nil)))) rfl ?_
   exact ⟨er_, bwi_ HB (IsS145.ge HI308.out)⟩

/-! ### impl_last: function 123 -/
def impl_last.f (a0_0 : Int) (a0_1 : Int) (l0_2 : List (S135)) : Option (Int) := some (wrap64 (a0_0 + (l0_2.length : Int)))
set_option maxHeartbeats 8000000 in
set_option maxRecDepth 100000 in
theorem impl_last.calls (a0_0 : Int) (a0_1 : Int) (A0_2 : Option Addr) (c0_2 : Nat) (l0_2 : List (S135)) (r : Int) (w : World) (hr0_2 : Kd.C k135 w A0_2 l0_2.length l0_2) (hc0_2 : l0_2.length ≤ c0_2) (h : impl_last.f a0_0 a0_1 l0_2 = some r) :
  Calls Try.prog 123 #[.agg #[.int .i64 a0_0, .int .i64 a0_1, .slice A0_2 l0_2.length c0_2]] w fun e w' => e = .returned (.int .i64 r) ∧ Below w.heap.size w w' := by
 have hu59 := Try.underlying59
 have HR0_2 := Aside0.mk hr0_2
 have HC0_2 := Aside0.mk hc0_2
 clear hr0_2 hc0_2
 have HB := mk_ (Below.refl w.heap.size w)
 have H : (some (wrap64 (a0_0 + (l0_2.length : Int)))) = some r := h
 clear h
 obtain rfl := Option.some.inj H
 go_enter Try.func123, Try.ntmps123
 go_wp2_with (first | ((with_reducible refine gate_dst (N := 1) rfl ?_); refine bx_ (N := 1) (cs := #[.int .i64 a0_0, .int .i64 a0_1, .slice A0_2 l0_2.length c0_2]) (t := 59) ?_; intro gb328 hg w2 hbox hb; have BK328 := mk_ (hbox); have GW328 : Aside0 (w.heap.size ≤ gb328) := bz_ hg; have GE328 := GW328; replace HB := bs_ HB hb; clear hb hbox hg; obtain ⟨hcz3_0, hcz3_1, hcz3_2, hfz3_0, hfz3_1, hfz3_2⟩ := b3_ BK328))
 go_ret
 exact ⟨er_, bw_ HB⟩

/-! ### impl_copyLog: function 124 -/
def impl_copyLog.f (a0_0 : Int) (a0_1 : Int) (l0_2 : List (S135)) : Option (Int × Int × (List (S135))) := if ([] : List (S135)).length + l0_2.length < 4398046511104 then (some (a0_0, a0_1, (([] : List (S135)) ++ l0_2))) else (none)
set_option maxHeartbeats 8000000 in
set_option maxRecDepth 100000 in
theorem impl_copyLog.calls (a0_0 : Int) (a0_1 : Int) (A0_2 : Option Addr) (c0_2 : Nat) (l0_2 : List (S135)) (r1 : Int) (r2 : Int) (r3 : List (S135)) (w : World) (hr0_2 : Kd.C k135 w A0_2 l0_2.length l0_2) (hc0_2 : l0_2.length ≤ c0_2) (h : impl_copyLog.f a0_0 a0_1 l0_2 = some (r1, r2, r3)) :
  Calls Try.prog 124 #[.agg #[.int .i64 a0_0, .int .i64 a0_1, .slice A0_2 l0_2.length c0_2]] w fun e w' => ∃ v2_ : Value, e = .returned (.agg #[.int .i64 r1, .int .i64 r2, v2_]) ∧ Kd.R k135 135 w' w.heap.size (fun _ => True) v2_ r3 ∧ Below w.heap.size w w' := by
 have hu59 := Try.underlying59
 have HR0_2 := Aside0.mk hr0_2
 have HC0_2 := Aside0.mk hc0_2
 clear hr0_2 hc0_2
 have HB := mk_ (Below.refl w.heap.size w)
 have H : (if ([] : List (S135)).length + l0_2.length < 4398046511104 then (some (a0_0, a0_1, (([] : List (S135)) ++ l0_2))) else (none)) = some (r1, r2, r3) := h
 clear h
 by_cases c2 : ([] : List (S135)).length + l0_2.length < 4398046511104
 rotate_left
 ·rw [if_neg c2] at H
  exact absurd H (by simp)
 rw [if_pos c2] at H
 have LMc2 := Aside0.mk c2
 clear c2
 obtain ⟨y331, hy331⟩ : ∃ y_ : List (S135), y_ = (([] : List (S135)) ++ l0_2) := ⟨_, rfl⟩
 replace H : (some (a0_0, a0_1, y331)) = some (r1, r2, r3) := by first | (rw [hy331]; with_reducible exact H) | (have H2_ := (Option.bind_some _ _).symm.trans H; rw [hy331]; with_reducible exact H2_) | (have H2_ := (Option.bind_some _ _).symm.trans H; with_reducible exact H2_) | with_reducible exact H | (rw [hy331]; exact H) | exact H
 have Ny331 := Aside0.mk hy331
 clear hy331
 simp only [Option.some.injEq, Prod.mk.injEq] at H
 obtain ⟨rfl, rfl, rfl⟩ := H
 go_enter Try.func124, Try.ntmps124
 go_wp2_with (first | ((with_reducible refine gate_dst (N := 1) rfl ?_); refine bx_ (N := 1) (cs := #[.int .i64 a0_0, .int .i64 a0_1, .slice A0_2 l0_2.length c0_2]) (t := 59) ?_; intro gb329 hg w3 hbox hb; have BK329 := mk_ (hbox); have GW329 : Aside0 (w.heap.size ≤ gb329) := bz_ hg; have GE329 := GW329; replace HB := bs_ HB hb; clear hb hbox hg) | ((with_reducible refine gate_dst (N := 2) rfl ?_); refine bx_ (N := 2) (cs := #[.int .i64 0, .int .i64 0, .slice none 0 0]) (t := 59) ?_; intro gb330 hg w4 hbox hb; have BK330 := mk_ (hbox); have GW330 : Aside0 (w.heap.size ≤ gb330) := bz_ hg; have GE330 := GW330; have NB329_330 := bl_ BK329 hg; have NB330_329 := bg_ BK329 hg; replace BK329 := bb_ BK329 hb; replace HB := bs_ HB hb; clear hb hbox hg; obtain ⟨hnb5, hnc5⟩ := ns_ NB329_330; obtain ⟨hcz6_0, hcz6_1, hcz6_2, hfz6_0, hfz6_1, hfz6_2⟩ := b3_ BK329) | ((with_reducible refine gate_builtin (b := .append) (xs := #[.const (.slice none 0 0), .tmp 4]) rfl ?_); at_builtin; refine Kd.R_append_rows k135 (w0 := w) w.heap.size rfl (.const (.slice none 0 0)) (.tmp 4) 57 135 (.agg #[(.int .i64 0), (.int .i64 0), (.string ⟨#[]⟩)]) 32 rfl Try.underlying57 info135 rfl (by decide) (by omega) (.slice none 0 0) ([] : List (S135)) l0_2 _ _ _ (fun _ => True) (fun _ => False) rfl rfl ?aO ?aR (fun _ _ h => h) (fun _ h => h.elim) ?aF ?aB ?aS ?aL ?_; (case aR => exact cb_ HR0_2 HB); (case aB => exact (bw_ HB)); (case aF => exact (fun _ _ => trivial)); (case aO => exact ((Kd.R_nil _ _ _ _ (fun _ => True)))); (case aS => exact (below_size (bw_ HB))); (case aL => have := LMc2.out; omega); intro v332 w7 ho hb hg hat; rw [← Ny331.out] at ho; have HO333 := mk_ (ho); replace BK329 := mk_ (blk_grown (g := gb329) (o := .cells #[.int .i64 a0_0, .int .i64 a0_1, .slice A0_2 l0_2.length c0_2] 59 (0, 0)) (bp_ BK329) hg (by simp [Value.ownBlock])); replace BK330 := mk_ (blk_grown (g := gb330) (o := .cells #[.int .i64 0, .int .i64 0, .slice none 0 0] 59 (0, 0)) (bp_ BK330) hg (by simp [Value.ownBlock])); replace HB := mk_ (hb); clear ho hb hg hat; obtain ⟨Ao8, co8, eo8⟩ := Kd.R_slice HO333.out; subst eo8; obtain ⟨hcz9_0, hcz9_1, hcz9_2, hfz9_0, hfz9_1, hfz9_2⟩ := b3_ BK329; obtain ⟨hcz10_0, hcz10_1, hcz10_2, hfz10_0, hfz10_1, hfz10_2⟩ := b3_ BK330))
 refine bodyPost_ret (results_cell_row rfl _ _ gb330 59 #[.int .i64 a0_0, .int .i64 a0_1, .slice Ao8 y331.length co8] (0, 0) _ rfl bu_ Try.underlying59 rfl (by kernel_rfl)) rfl ?_
 exact ⟨_, er_, rq_ (Kd.R_mono (Kd.R_far (p := ⟨gb330, 2, none⟩) (Kd.R_far (p := ⟨gb330, 1, none⟩) (Kd.R_far (p := ⟨gb330, 0, none⟩) (Kd.R_far (p := ⟨gb329, 2, none⟩) (Kd.R_types (Kd.R_types HO333.out BK329.out (by decide)) BK330.out (by decide)) (fun _ hk => hk.1.2) (.slice Ao8 y331.length co8)) (fun _ hk => hk.2) (.int .i64 a0_0)) (fun _ hk => hk.2) (.int .i64 a0_1)) (fun _ hk => hk.2) (.slice Ao8 y331.length co8)) (fun _ hk => trivial)), bw_ HB⟩

end Go.Proofs.Ythbaoefbccdioaa.QFnExactReadJournal
