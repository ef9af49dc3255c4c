/- Written by this session's own program (wip/tpl/pp.py): what the law's functions come to, and that the machine's calls do just that. -/
import Derived.Test.YtgnmlgoadkhceaaDoorQFnExactSnapActsx0
import Derived.Test.YtgnmlgoadkhceaaDoorQFnExactSnapActsx6
namespace Go.Proofs.YtgnmlgoadkhceaaDoor.QFnExactSnapActs
open Go.RowKit Go.Proofs.YtgnmlgoadkhceaaDoorW.PrintWords Go.Proofs.YtgnmlgoadkhceaaDoorW.PrintLast Go.Proofs.YtgnmlgoadkhceaaDoorW.PrintMore
attribute [local go_sem] Go.Proofs.YtgnmlgoadkhceaaDoor.Sem.string_geq Go.Proofs.YtgnmlgoadkhceaaDoor.Sem.string_leq Go.Proofs.YtgnmlgoadkhceaaDoor.Sem.string_gtr
attribute [local go_sem] max2_int min2_int max_two min_two max_three min_three max_four min_four   -- for this text's walks alone
set_option linter.unusedVariables false
set_option linter.unusedSimpArgs false

/-! ### impl_SumMore: function 114 -/
mutual
def impl_SumMore.l0 : Nat → Int → ByteArray → Int → Option (Int)
 | 0, _, _, _ => none
 | k + 1, x0, x1, x5 => if x5 < (x1.size : Int) then (if 0 ≤ x5 then (impl_SumMore.l1 k (Go.bits .xor .u32 x0 ((bt x1 x5) % 4294967296)) x1 x5 0) else (none)) else (some x0)
def impl_SumMore.l1 : Nat → Int → ByteArray → Int → Int → Option (Int)
 | 0, _, _, _, _ => none
 | k + 1, x0, x1, x5, x6 => if x6 < 8 then (if (Int.tmod x0 2) = 1 then (impl_SumMore.l1 k (Go.bits .xor .u32 ((Int.tdiv x0 2) % 4294967296) 3558460437) x1 x5 (wrap64 (x6 + 1))) else (impl_SumMore.l1 k ((Int.tdiv x0 2) % 4294967296) x1 x5 (wrap64 (x6 + 1)))) else (impl_SumMore.l0 k x0 x1 (wrap64 (x5 + 1)))
end
def impl_SumMore.f (k : Nat) (a0 : Int) (a1 : ByteArray) : Option (Int) := impl_SumMore.l0 k a0 a1 0
theorem impl_SumMore.mono_l : ∀ k, (∀ y0 y1 y2, LeO (impl_SumMore.l0 k y0 y1 y2) (impl_SumMore.l0 (k + 1) y0 y1 y2)) ∧ (∀ y0 y1 y2 y3, LeO (impl_SumMore.l1 k y0 y1 y2 y3) (impl_SumMore.l1 (k + 1) y0 y1 y2 y3))
 | 0 => ⟨fun _ _ _ r h => by simp [impl_SumMore.l0] at h, fun _ _ _ _ r h => by simp [impl_SumMore.l1] at h⟩
 | k + 1 => by
  obtain ⟨ih0, ih1⟩ := impl_SumMore.mono_l k
  refine ⟨?_, ?_⟩
  ·intro y0 y1 y2
   unfold impl_SumMore.l0
   repeat' first
   | (with_reducible exact ih0 _ _ _)
   | (with_reducible exact ih1 _ _ _ _)
   | (with_reducible exact LeO.refl _)
   | (with_reducible exact LeO.none _)
   | (with_reducible refine LeO.ite ?_ ?_)
   | (with_reducible refine LeO.bind ?_ (fun _ => ?_))
   | exact ih0 _ _ _
   | exact ih1 _ _ _ _
   | exact LeO.none _
   | refine LeO.ite ?_ ?_
   | refine LeO.bind ?_ (fun _ => ?_)
  ·intro y0 y1 y2 y3
   unfold impl_SumMore.l1
   repeat' first
   | (with_reducible exact ih0 _ _ _)
   | (with_reducible exact ih1 _ _ _ _)
   | (with_reducible exact LeO.refl _)
   | (with_reducible exact LeO.none _)
   | (with_reducible refine LeO.ite ?_ ?_)
   | (with_reducible refine LeO.bind ?_ (fun _ => ?_))
   | exact ih0 _ _ _
   | exact ih1 _ _ _ _
   | exact LeO.none _
   | refine LeO.ite ?_ ?_
   | refine LeO.bind ?_ (fun _ => ?_)
theorem impl_SumMore.mono : ∀ a0 a1 k, LeO (impl_SumMore.f k a0 a1) (impl_SumMore.f (k + 1) a0 a1) := by
 intro a0 a1 k
 obtain ⟨ih0, ih1⟩ := impl_SumMore.mono_l k
 unfold impl_SumMore.f
 repeat' first
   | (with_reducible exact ih0 _ _ _)
   | (with_reducible exact ih1 _ _ _ _)
   | (with_reducible exact LeO.refl _)
   | (with_reducible exact LeO.none _)
   | (with_reducible refine LeO.ite ?_ ?_)
   | (with_reducible refine LeO.bind ?_ (fun _ => ?_))
   | exact ih0 _ _ _
   | exact ih1 _ _ _ _
   | exact LeO.none _
   | refine LeO.ite ?_ ?_
   | refine LeO.bind ?_ (fun _ => ?_)
set_option maxHeartbeats 8000000 in
set_option maxRecDepth 100000 in
theorem impl_SumMore.calls (k : Nat) (a0 : Int) (a1 : ByteArray) (r : Int) (w : World) (h : impl_SumMore.f k a0 a1 = some r) :
  Calls Tryd.prog 114 #[.int .u32 a0, .string a1] w fun e w' => e = .returned (.int .u32 r) ∧ Drawn0 w w' := by
 have H : (impl_SumMore.l0 k a0 a1 0) = some r := h
 clear h
 have H' := Aside0.mk H
 clear H
 go_enter Tryd.func114, Tryd.ntmps114
 go_wp2
 go_loopg [0, 5] k (fun kq v0 v5 w' => ∃ (x0_1 : Int) (x5_1 : Int), v0 = .int .u32 x0_1 ∧ v5 = .int .i64 x5_1 ∧ Aside0 (impl_SumMore.l0 kq x0_1 a1 x5_1 = some r) ∧ Aside0 (kq ≤ k) ∧ Drawn0 w w')
 case atStart => exact ⟨(a0), (0), (by first | rfl | (simp; done) | (simp [*]; done)), (by first | rfl | (simp; done) | (simp [*]; done)), H', ⟨Nat.le_refl _⟩, by repeat (first | exact Drawn0.refl _ | apply Drawn0.step)⟩
 case round =>
  clear H'
  try clear c1
  try clear p2
  obtain ⟨x0_1, x5_1, rfl, rfl, HA, HK1, ⟨m1, rfl⟩⟩ := hrel
  cases gk with
  | zero => exact absurd HA.out (by simp [impl_SumMore.l0])
  | succ k1 =>
   have H := HA.out
   clear HA
   simp only [impl_SumMore.l0] at H
   by_cases c3 : x5_1 < (a1.size : Int)
   ·rw [if_pos c3] at H
    have c3b0 : decide (x5_1 < (a1.size : Int)) = true := decide_eq_true c3
    clear c3
    by_cases c4 : 0 ≤ x5_1
    ·rw [if_pos c4] at H
     have c4b0 : decide (0 ≤ x5_1) = true := decide_eq_true c4
     clear c4
     have H' := Aside0.mk H
     clear H
     have p5 : 0 ≤ (x5_1 : Int) := of_decide_eq_true (by first | (with_reducible assumption) | assumption)
     have q5 : x5_1 < (a1.size : Int) := of_decide_eq_true (by first | (with_reducible assumption) | assumption)
     have hx5 := bt_at a1 x5_1
     replace p5 := eq_true p5
     replace q5 := eq_true q5
     go_wp2
     go_loopg [0, 6] k1 (fun kq v0 v6 w' => ∃ (x0_2 : Int) (x6_2 : Int), v0 = .int .u32 x0_2 ∧ v6 = .int .i64 x6_2 ∧ Aside0 (impl_SumMore.l1 kq x0_2 a1 x5_1 x6_2 = some r) ∧ Aside0 (kq ≤ k1) ∧ Drawn0 w w')
     case atStart => exact ⟨(Go.bits .xor .u32 x0_1 ((bt a1 x5_1) % 4294967296)), (0), (by first | rfl | (simp; done) | (simp [*]; done)), (by first | rfl | (simp; done) | (simp [*]; done)), H', ⟨Nat.le_refl _⟩, by repeat (first | exact Drawn0.refl _ | apply Drawn0.step)⟩
     case round =>
      clear H'
      try clear c1
      try clear p2
      try clear c3
      try clear c3b0
      try clear c4
      try clear c4b0
      try clear p5
      try clear q5
      try clear hx5
      try clear p2
      try clear p5
      try clear q5
      obtain ⟨x0_2, x6_2, rfl, rfl, HA, HK2, ⟨m2, rfl⟩⟩ := hrel
      cases gk with
      | zero => exact absurd HA.out (by simp [impl_SumMore.l1])
      | succ k2 =>
       have H := HA.out
       clear HA
       simp only [impl_SumMore.l1] at H
       by_cases c6 : x6_2 < 8
       ·rw [if_pos c6] at H
        have c6b0 : decide (x6_2 < 8) = true := decide_eq_true c6
        clear c6
        by_cases c7 : (Int.tmod x0_2 2) = 1
        ·rw [if_pos c7] at H
         have c7b0 : ((Int.tmod x0_2 2) == 1) = true := beq_iff_eq.mpr c7
         have c7b1 : ((Int.tmod x0_2 2) != 1) = false := bne_eq_false_iff_eq.mpr c7
         clear c7
         have H' := Aside0.mk H
         clear H
         go_wp2
         go_roundg k2
         case measure => have := HK1.out; have := HK2.out; omega
         case rel => exact ⟨(Go.bits .xor .u32 ((Int.tdiv x0_2 2) % 4294967296) 3558460437), (wrap64 (x6_2 + 1)), (by first | rfl | (simp; done) | (simp [*]; done)), (by first | rfl | (simp; done) | (simp [*]; done)), H', ⟨by have := HK1.out; have := HK2.out; omega⟩, by repeat (first | exact Drawn0.refl _ | apply Drawn0.step)⟩
        ·rw [if_neg c7] at H
         have c7b0 : ((Int.tmod x0_2 2) == 1) = false := beq_eq_false_iff_ne.mpr c7
         have c7b1 : ((Int.tmod x0_2 2) != 1) = true := bne_iff_ne.mpr c7
         have H' := Aside0.mk H
         clear H
         go_wp2
         go_roundg k2
         case measure => have := HK1.out; have := HK2.out; omega
         case rel => exact ⟨((Int.tdiv x0_2 2) % 4294967296), (wrap64 (x6_2 + 1)), (by first | rfl | (simp; done) | (simp [*]; done)), (by first | rfl | (simp; done) | (simp [*]; done)), H', ⟨by have := HK1.out; have := HK2.out; omega⟩, by repeat (first | exact Drawn0.refl _ | apply Drawn0.step)⟩
       ·rw [if_neg c6] at H
        have c6b0 : decide (x6_2 < 8) = false := decide_eq_false c6
        clear c6
        have H' := Aside0.mk H
        clear H
        go_wp2
        go_roundg k2
        case measure => have := HK1.out; have := HK2.out; omega
        case rel => exact ⟨(x0_2), (wrap64 (x5_1 + 1)), (by first | rfl | (simp; done) | (simp [*]; done)), (by first | rfl | (simp; done) | (simp [*]; done)), H', ⟨by have := HK1.out; have := HK2.out; omega⟩, by repeat (first | exact Drawn0.refl _ | apply Drawn0.step)⟩
    ·rw [if_neg c4] at H
     exact absurd H (by simp)
   ·rw [if_neg c3] at H
    have c3b0 : decide (x5_1 < (a1.size : Int)) = false := decide_eq_false c3
    clear c3
    obtain rfl := Option.some.inj H
    go_wp2
    go_ret
    exact ⟨by first | rfl | (simp; done) | (simp [*]; done), by repeat (first | exact Drawn0.refl _ | apply Drawn0.step)⟩

/-! ### impl_SumOf: function 101 -/
def impl_SumOf.f (k : Nat) (a0 : ByteArray) : Option (Int) := (impl_SumMore.f k 4294967295 a0).bind fun t274 => (some t274)
theorem impl_SumOf.mono : ∀ a0 k, LeO (impl_SumOf.f k a0) (impl_SumOf.f (k + 1) a0) := by
 intro a0 k
 unfold impl_SumOf.f
 repeat' first
   | (with_reducible exact impl_SumMore.mono _ _ _)
   | (with_reducible exact LeO.refl _)
   | (with_reducible exact LeO.none _)
   | (with_reducible refine LeO.ite ?_ ?_)
   | (with_reducible refine LeO.bind ?_ (fun _ => ?_))
   | exact impl_SumMore.mono _ _ _
   | exact LeO.none _
   | refine LeO.ite ?_ ?_
   | refine LeO.bind ?_ (fun _ => ?_)
set_option maxHeartbeats 8000000 in
set_option maxRecDepth 100000 in
theorem impl_SumOf.calls (k : Nat) (a0 : ByteArray) (r : Int) (w : World) (h : impl_SumOf.f k a0 = some r) :
  Calls Tryd.prog 101 #[.string a0] w fun e w' => e = .returned (.int .u32 r) ∧ Drawn0 w w' := by
 have H : ((impl_SumMore.f k 4294967295 a0).bind fun t274 => (some t274)) = some r := h
 clear h
 replace H := Option.bind_eq_some_iff.mp H
 obtain ⟨t274, A20, H⟩ := H
 replace H : (some t274) = some r := H
 have A2 := Aside0.mk A20
 clear A20
 obtain rfl := Option.some.inj H
 go_enter Tryd.func101, Tryd.ntmps101
 go_wp2_with (first | ((with_reducible refine gate_callee (f := 114) rfl ?_); refine goesL_ (some 4) rfl rfl Tryd.func114 (by kernel_rfl) rfl #[.int .u32 4294967295, .string a0] rfl (by (try simp only [List.map_toArray, List.map_cons, List.map_nil]); first | done | rfl | (simp only [List.length_drop, List.length_take]; rfl)) ?_; (with_reducible refine (impl_SumMore.calls k 4294967295 a0 t274 _ A2.out).mono ?_); rintro e w' ⟨rfl, ⟨nd, rfl⟩⟩; refine ⟨_, rfl, ?_⟩))
 go_ret
 exact ⟨by first | rfl | (simp; done) | (simp [*]; done), by repeat (first | exact Drawn0.refl _ | apply Drawn0.step)⟩

/-! ### impl_Sealed: function 86 -/
def impl_Sealed.f (k : Nat) (a0 : ByteArray) : Option (ByteArray × Bool) := if (a0.size : Int) > 20000 then (some ((⟨#[]⟩ : ByteArray), false)) else ((impl_SumOf.f k a0).bind fun t275 => ((some (([(t275 / 16777216) % 256, (t275 / 65536) % 256, (t275 / 256) % 256, (t275) % 256] : List Int) : List Int)).bind fun y276 => (if a0.size + (strOfNums y276).size ≤ 9223372036854775807 then (some (a0 ++ (strOfNums y276), true)) else (none))))
theorem impl_Sealed.mono : ∀ a0 k, LeO (impl_Sealed.f k a0) (impl_Sealed.f (k + 1) a0) := by
 intro a0 k
 unfold impl_Sealed.f
 repeat' first
   | (with_reducible exact impl_SumOf.mono _ _)
   | (with_reducible exact LeO.refl _)
   | (with_reducible exact LeO.none _)
   | (with_reducible refine LeO.ite ?_ ?_)
   | (with_reducible refine LeO.bind ?_ (fun _ => ?_))
   | exact impl_SumOf.mono _ _
   | exact LeO.none _
   | refine LeO.ite ?_ ?_
   | refine LeO.bind ?_ (fun _ => ?_)
set_option maxHeartbeats 8000000 in
set_option maxRecDepth 100000 in
theorem impl_Sealed.calls (k : Nat) (a0 : ByteArray) (r1 : ByteArray) (r2 : Bool) (w : World) (h : impl_Sealed.f k a0 = some (r1, r2)) :
  Calls Tryd.prog 86 #[.string a0] w fun e w' => e = .returned (.tuple #[.string r1, .bool r2]) ∧ Below w.heap.size w w' := by
 have HB := mk_ (Below.refl w.heap.size w)
 have H : (if (a0.size : Int) > 20000 then (some ((⟨#[]⟩ : ByteArray), false)) else ((impl_SumOf.f k a0).bind fun t275 => ((some (([(t275 / 16777216) % 256, (t275 / 65536) % 256, (t275 / 256) % 256, (t275) % 256] : List Int) : List Int)).bind fun y276 => (if a0.size + (strOfNums y276).size ≤ 9223372036854775807 then (some (a0 ++ (strOfNums y276), true)) else (none))))) = some (r1, r2) := h
 clear h
 by_cases c2 : (a0.size : Int) > 20000
 ·rw [if_pos c2] at H
  have c2b0 : decide (20000 < (a0.size : Int)) = true := decide_eq_true c2
  have c2b1 : decide (20000 < a0.size) = true := decide_eq_true (by omega)
  clear c2
  simp only [Option.some.injEq, Prod.mk.injEq] at H
  obtain ⟨rfl, rfl⟩ := H
  go_enter Tryd.func86, Tryd.ntmps86
  go_wp2
  go_ret2
  exact ⟨by first | rfl | (simp [errW_none, errW_some] <;> rfl) | (simp [*, errW_none, errW_some] <;> rfl), by repeat (first | (with_reducible first | exact HB.out | apply below_alloc | apply pw_below_drewN | apply below_drew1) | exact HB.out)⟩
 ·rw [if_neg c2] at H
  have c2b0 : decide (20000 < (a0.size : Int)) = false := decide_eq_false c2
  have c2b1 : decide (20000 < a0.size) = false := decide_eq_false (by omega)
  clear c2
  replace H := Option.bind_eq_some_iff.mp H
  obtain ⟨t275, A30, H⟩ := H
  replace H : ((some (([(t275 / 16777216) % 256, (t275 / 65536) % 256, (t275 / 256) % 256, (t275) % 256] : List Int) : List Int)).bind fun y276 => (if a0.size + (strOfNums y276).size ≤ 9223372036854775807 then (some (a0 ++ (strOfNums y276), true)) else (none))) = some (r1, r2) := H
  have A3 := Aside0.mk A30
  clear A30
  obtain ⟨y276, hy276⟩ : ∃ y_ : List Int, y_ = (([(t275 / 16777216) % 256, (t275 / 65536) % 256, (t275 / 256) % 256, (t275) % 256] : List Int)) := ⟨_, rfl⟩
  replace H : (if a0.size + (strOfNums y276).size ≤ 9223372036854775807 then (some (a0 ++ (strOfNums y276), true)) else (none)) = some (r1, r2) := by first | (rw [hy276]; with_reducible exact H) | (have H2_ := (Option.bind_some _ _).symm.trans H; rw [hy276]; with_reducible exact H2_) | (have H2_ := (Option.bind_some _ _).symm.trans H; with_reducible exact H2_) | with_reducible exact H | (rw [hy276]; exact H) | exact H
  have Ny276 := Aside0.mk hy276
  clear hy276
  by_cases c4 : a0.size + (strOfNums y276).size ≤ 9223372036854775807
  ·rw [if_pos c4] at H
   have c4b0 := eq_true c4
   have c4b1 : decide (a0.size + (strOfNums y276).size ≤ 9223372036854775807) = true := decide_eq_true c4
   try have c4b2 : (9223372036854775807 < a0.size + (strOfNums y276).size) = False := eq_false (Nat.not_lt.2 c4)
   simp only [Option.some.injEq, Prod.mk.injEq] at H
   obtain ⟨rfl, rfl⟩ := H
   go_enter Tryd.func86, Tryd.ntmps86
   go_wp2_with (first | ((with_reducible refine gate_callee (f := 101) rfl ?_); refine goesL_ (some 9) rfl rfl Tryd.func101 (by kernel_rfl) rfl #[.string a0] rfl (by (try simp only [List.map_toArray, List.map_cons, List.map_nil]); first | done | rfl | (simp only [List.length_drop, List.length_take]; rfl)) ?_; (with_reducible refine (impl_SumOf.calls k a0 t275 _ A3.out).mono ?_); rintro e w' ⟨rfl, ⟨nd, rfl⟩⟩; refine ⟨_, rfl, ?_⟩) | ((with_reducible refine gate_dst (N := 22) rfl ?_); refine Kd.R_lit (Kd.int .u8) _ 5 ?hg (N := 22) ?hd (xs := ([(t275 / 16777216) % 256, (t275 / 65536) % 256, (t275 / 256) % 256, (t275) % 256] : List Int)) (inner := [.int .u8 ((t275 / 16777216) % 256), .int .u8 ((t275 / 65536) % 256), .int .u8 ((t275 / 256) % 256), .int .u8 ((t275) % 256)]) (ok := fun _ => True) (okp := fun _ => True) ?hr ?hp (fun _ hk => hk) trivial (Below.refl _ _) (Nat.le_refl _) (by simp) ?_; (case hd => rfl); (case hg => rfl); (case hr => first | (go_simp; done) | (go_simp; rfl)); (case hp => exact (Reps.one (show Kd.M (Kd.int .u8) _ _ _ ((t275 / 16777216) % 256) [.int .u8 ((t275 / 16777216) % 256)] from rfl) (Reps.one (show Kd.M (Kd.int .u8) _ _ _ ((t275 / 65536) % 256) [.int .u8 ((t275 / 65536) % 256)] from rfl) (Reps.one (show Kd.M (Kd.int .u8) _ _ _ ((t275 / 256) % 256) [.int .u8 ((t275 / 256) % 256)] from rfl) (Reps.one (show Kd.M (Kd.int .u8) _ _ _ ((t275) % 256) [.int .u8 ((t275) % 256)] from rfl) (Reps.none _ _)))))); intro v277 w5 ho6 hb hg_ hnew_; clear hg_ hnew_; (first | rw [← Ny276.out] at ho6 | (simp only [Int.reduceToNat] at ho6; rw [← Ny276.out] at ho6)); have HO278 := mk_ (Kd.R_lower ho6 (below_size (bw_ HB))); replace HB := bs_ HB hb; clear hb ho6; have hcv7 := own_string (P := Tryd.prog) Tryd.underlying27 Tryd.underlying5 Tryd.underlying9 (Kd.own_of_R HO278.out)))
   go_ret2
   exact ⟨by first | rfl | (simp [errW_none, errW_some] <;> rfl) | (simp [*, errW_none, errW_some] <;> rfl), by repeat (first | (with_reducible first | exact HB.out | apply below_alloc | apply pw_below_drewN | apply below_drew1) | exact HB.out)⟩
  ·rw [if_neg c4] at H
   exact absurd H (by simp)

/-! ### impl_SnapText: function 59 -/
def impl_SnapText.j0 : Nat → ByteArray → Bool → Int → Int → List Int → ByteArray → Option (ByteArray × Bool)
 | 0, _, _, _, _, _, _ => none
 | k + 1, x4, x38, x280000, x280001, x280002, x280003 => if x38 = true then (some ((⟨#[]⟩ : ByteArray), false)) else ((impl_vars.f k (([x280000, x280001] : List Int))).bind fun bt287 => ((impl_ShortText.f k x4).bind fun bt289 => ((impl_ShortText.f k x280003).bind fun bt291 => (if bt287.1.size + bt289.1.size ≤ 9223372036854775807 then (if (bt287.1 ++ bt289.1).size + bt291.1.size ≤ 9223372036854775807 then ((impl_Sealed.f k ((bt287.1 ++ bt289.1) ++ bt291.1)).bind fun bt293 => (if bt293.2 = true then (if (bt293.1.size : Int) > 20000 then (some ((⟨#[]⟩ : ByteArray), false)) else (some (bt293.1, true))) else (some ((⟨#[]⟩ : ByteArray), false)))) else (none)) else (none)))))
def impl_SnapText.f (k : Nat) (a0_0 : Int) (a0_1 : Int) (l0_2 : List Int) (a0_3 : ByteArray) : Option (ByteArray × Bool) := (impl_ConfText.f k l0_2).bind fun bt280 => (if bt280.2 = true then ((impl_within.f a0_0 0 1000000).bind fun t282 => (if t282 = true then ((impl_within.f a0_1 0 100000).bind fun t283 => (if t283 = true then (impl_SnapText.j0 k bt280.1 (decide ((a0_3.size : Int) > 20000)) a0_0 a0_1 l0_2 a0_3) else (impl_SnapText.j0 k bt280.1 true a0_0 a0_1 l0_2 a0_3))) else (impl_SnapText.j0 k bt280.1 true a0_0 a0_1 l0_2 a0_3))) else (impl_SnapText.j0 k bt280.1 true a0_0 a0_1 l0_2 a0_3))
theorem impl_SnapText.mono_l : ∀ k, (∀ y0 y1 y2 y3 y4 y5, LeO (impl_SnapText.j0 k y0 y1 y2 y3 y4 y5) (impl_SnapText.j0 (k + 1) y0 y1 y2 y3 y4 y5))
 | 0 => fun _ _ _ _ _ _ r h => by simp [impl_SnapText.j0] at h
 | k + 1 => by
  have ih0 := impl_SnapText.mono_l k
  ·intro y0 y1 y2 y3 y4 y5
   unfold impl_SnapText.j0
   repeat' first
   | (with_reducible exact ih0 _ _ _ _ _ _)
   | (with_reducible exact impl_ConfText.mono _ _)
   | (with_reducible exact impl_Sealed.mono _ _)
   | (with_reducible exact impl_ShortText.mono _ _)
   | (with_reducible exact impl_vars.mono _ _)
   | (with_reducible exact LeO.refl _)
   | (with_reducible exact LeO.none _)
   | (with_reducible refine LeO.ite ?_ ?_)
   | (with_reducible refine LeO.bind ?_ (fun _ => ?_))
   | exact ih0 _ _ _ _ _ _
   | exact impl_ConfText.mono _ _
   | exact impl_Sealed.mono _ _
   | exact impl_ShortText.mono _ _
   | exact impl_vars.mono _ _
   | exact LeO.none _
   | refine LeO.ite ?_ ?_
   | refine LeO.bind ?_ (fun _ => ?_)
theorem impl_SnapText.mono : ∀ a0 a1 a2 a3 k, LeO (impl_SnapText.f k a0 a1 a2 a3) (impl_SnapText.f (k + 1) a0 a1 a2 a3) := by
 intro a0 a1 a2 a3 k
 have ih0 := impl_SnapText.mono_l k
 unfold impl_SnapText.f
 repeat' first
   | (with_reducible exact ih0 _ _ _ _ _ _)
   | (with_reducible exact impl_ConfText.mono _ _)
   | (with_reducible exact impl_Sealed.mono _ _)
   | (with_reducible exact impl_ShortText.mono _ _)
   | (with_reducible exact impl_vars.mono _ _)
   | (with_reducible exact LeO.refl _)
   | (with_reducible exact LeO.none _)
   | (with_reducible refine LeO.ite ?_ ?_)
   | (with_reducible refine LeO.bind ?_ (fun _ => ?_))
   | exact ih0 _ _ _ _ _ _
   | exact impl_ConfText.mono _ _
   | exact impl_Sealed.mono _ _
   | exact impl_ShortText.mono _ _
   | exact impl_vars.mono _ _
   | exact LeO.none _
   | refine LeO.ite ?_ ?_
   | refine LeO.bind ?_ (fun _ => ?_)
set_option maxHeartbeats 8000000 in
set_option maxRecDepth 100000 in
theorem impl_SnapText.calls (k : Nat) (a0_0 : Int) (a0_1 : Int) (A0_2 : Option Addr) (c0_2 : Nat) (l0_2 : List Int) (a0_3 : ByteArray) (r1 : ByteArray) (r2 : Bool) (w : World) (hr0_2 : Kd.C (Kd.int .i64) w A0_2 l0_2.length l0_2) (hc0_2 : l0_2.length ≤ c0_2) (h : impl_SnapText.f k a0_0 a0_1 l0_2 a0_3 = some (r1, r2)) :
  Calls Tryd.prog 59 #[.agg #[.int .i64 a0_0, .int .i64 a0_1, .slice A0_2 l0_2.length c0_2, .string a0_3]] w fun e w' => e = .returned (.tuple #[.string r1, .bool r2]) ∧ Below w.heap.size w w' := by
 have hu53 := Tryd.underlying53
 have HR0_2 := Aside0.mk hr0_2
 have HC0_2 := Aside0.mk hc0_2
 clear hr0_2 hc0_2
 have HB := mk_ (Below.refl w.heap.size w)
 have H : ((impl_ConfText.f k l0_2).bind fun bt280 => (if bt280.2 = true then ((impl_within.f a0_0 0 1000000).bind fun t282 => (if t282 = true then ((impl_within.f a0_1 0 100000).bind fun t283 => (if t283 = true then (impl_SnapText.j0 k bt280.1 (decide ((a0_3.size : Int) > 20000)) a0_0 a0_1 l0_2 a0_3) else (impl_SnapText.j0 k bt280.1 true a0_0 a0_1 l0_2 a0_3))) else (impl_SnapText.j0 k bt280.1 true a0_0 a0_1 l0_2 a0_3))) else (impl_SnapText.j0 k bt280.1 true a0_0 a0_1 l0_2 a0_3))) = some (r1, r2) := h
 clear h
 replace H := Option.bind_eq_some_iff.mp H
 obtain ⟨⟨t280, t281⟩, A20, H⟩ := H
 replace H : (if t281 = true then ((impl_within.f a0_0 0 1000000).bind fun t282 => (if t282 = true then ((impl_within.f a0_1 0 100000).bind fun t283 => (if t283 = true then (impl_SnapText.j0 k t280 (decide ((a0_3.size : Int) > 20000)) a0_0 a0_1 l0_2 a0_3) else (impl_SnapText.j0 k t280 true a0_0 a0_1 l0_2 a0_3))) else (impl_SnapText.j0 k t280 true a0_0 a0_1 l0_2 a0_3))) else (impl_SnapText.j0 k t280 true a0_0 a0_1 l0_2 a0_3)) = some (r1, r2) := H
 have A2 := Aside0.mk A20
 clear A20
 have HC3 := Aside0.mk H
 clear H
 go_enter Tryd.func59, Tryd.ntmps59
 go_upto_region 2 with (first | ((with_reducible refine gate_dst (N := 1) rfl ?_); (try (refine gate_guard (by rfl) ?_; dsimp only)); refine box_event ?hg (N := 1) ?hd (cs := #[.int .i64 a0_0, .int .i64 a0_1, .slice A0_2 l0_2.length c0_2, .string a0_3]) (t := 53) ?hr ?_; (case hd => rfl); (case hg => rfl); (case hr => first | (go_simp; done) | (go_simp; rfl)); intro gb279 hg w4 hbox hb; have BK279 := mk_ (hbox); have GW279 : Aside0 (w.heap.size ≤ gb279) := bz_ hg; have GE279 : Aside0 (w.heap.size ≤ gb279) := bz_ hg; replace HB := bs_ HB hb; clear hb hbox hg; have hcz5_0 : w4.cell? ⟨gb279, 0, none⟩ = some (.int .i64 a0_0) := bc_ BK279 0; have hcz5_1 : w4.cell? ⟨gb279, 1, none⟩ = some (.int .i64 a0_1) := bc_ BK279 1; have hcz5_2 : w4.cell? ⟨gb279, 2, none⟩ = some (.slice A0_2 l0_2.length c0_2) := bc_ BK279 2; have hcz5_3 : w4.cell? ⟨gb279, 3, none⟩ = some (.string a0_3) := bc_ BK279 3; have hfz5_0 := blk_frozen BK279.out 0; have hfz5_1 := blk_frozen BK279.out 1; have hfz5_2 := blk_frozen BK279.out 2; have hfz5_3 := blk_frozen BK279.out 3) | ((with_reducible refine gate_callee (f := 84) rfl ?_); refine goesL_ (some 16) rfl rfl Tryd.func84 (by kernel_rfl) rfl #[.slice A0_2 l0_2.length c0_2] rfl (by (try simp only [List.map_toArray, List.map_cons, List.map_nil]); first | done | rfl | (simp only [List.length_drop, List.length_take]; rfl)) ?_; (with_reducible refine (impl_ConfText.calls k _ _ l0_2 t280 t281 _ ?side1 ?side2 A2.out).mono ?_); (case side1 => repeat (first | exact (Kd.C_below HR0_2.out HB.out) | (with_reducible refine Kd.C_alloc ?_ _) | (with_reducible refine Kd.C_drewN ?_ _) | (with_reducible refine Kd.C_drew ?_))); (case side2 => exact HC0_2.out); rintro e w6 ⟨rfl, hb⟩; refine ⟨_, rfl, ?_⟩; replace BK279 := bb_ BK279 hb; replace HB := bs_ HB hb; (try clear hb)))
 (try simp only [Act.put, sia_, scz_, scs_])
 go_cut [38] (fun v38 wc => ∃ (kq : Nat) (x38_2 : Bool), v38 = .bool x38_2 ∧ Aside0 (impl_SnapText.j0 kq t280 x38_2 a0_0 a0_1 l0_2 a0_3 = some (r1, r2)) ∧ Aside0 (kq ≤ k) ∧ Aside0 (wc.heap[gb279]? = some (.cells #[.int .i64 a0_0, .int .i64 a0_1, (.slice A0_2 l0_2.length c0_2), .string a0_3] 53 (0, 0))) ∧ Aside0 (Below w.heap.size w wc))
 case first =>
  have H := HC3.out
  clear HC3
  by_cases c7 : t281 = true
  ·subst c7
   have H1 : ((impl_within.f a0_0 0 1000000).bind fun t282 => (if t282 = true then ((impl_within.f a0_1 0 100000).bind fun t283 => (if t283 = true then (impl_SnapText.j0 k t280 (decide ((a0_3.size : Int) > 20000)) a0_0 a0_1 l0_2 a0_3) else (impl_SnapText.j0 k t280 true a0_0 a0_1 l0_2 a0_3))) else (impl_SnapText.j0 k t280 true a0_0 a0_1 l0_2 a0_3))) = some (r1, r2) := by rw [if_pos rfl] at H; exact H
   clear H
   have H := H1
   clear H1
   replace H := Option.bind_eq_some_iff.mp H
   obtain ⟨t282, A80, H⟩ := H
   replace H : (if t282 = true then ((impl_within.f a0_1 0 100000).bind fun t283 => (if t283 = true then (impl_SnapText.j0 k t280 (decide ((a0_3.size : Int) > 20000)) a0_0 a0_1 l0_2 a0_3) else (impl_SnapText.j0 k t280 true a0_0 a0_1 l0_2 a0_3))) else (impl_SnapText.j0 k t280 true a0_0 a0_1 l0_2 a0_3)) = some (r1, r2) := H
   have A8 := Aside0.mk A80
   clear A80
   by_cases c9 : t282 = true
   ·subst c9
    have H1 : ((impl_within.f a0_1 0 100000).bind fun t283 => (if t283 = true then (impl_SnapText.j0 k t280 (decide ((a0_3.size : Int) > 20000)) a0_0 a0_1 l0_2 a0_3) else (impl_SnapText.j0 k t280 true a0_0 a0_1 l0_2 a0_3))) = some (r1, r2) := by rw [if_pos rfl] at H; exact H
    clear H
    have H := H1
    clear H1
    replace H := Option.bind_eq_some_iff.mp H
    obtain ⟨t283, A100, H⟩ := H
    replace H : (if t283 = true then (impl_SnapText.j0 k t280 (decide ((a0_3.size : Int) > 20000)) a0_0 a0_1 l0_2 a0_3) else (impl_SnapText.j0 k t280 true a0_0 a0_1 l0_2 a0_3)) = some (r1, r2) := H
    have A10 := Aside0.mk A100
    clear A100
    by_cases c11 : t283 = true
    ·subst c11
     have H1 : (impl_SnapText.j0 k t280 (decide ((a0_3.size : Int) > 20000)) a0_0 a0_1 l0_2 a0_3) = some (r1, r2) := by rw [if_pos rfl] at H; exact H
     clear H
     have H := H1
     clear H1
     have H' := Aside0.mk H
     clear H
     have hcz12_0 : w6.cell? ⟨gb279, 0, none⟩ = some (.int .i64 a0_0) := bc_ BK279 0
     have hcz12_1 : w6.cell? ⟨gb279, 1, none⟩ = some (.int .i64 a0_1) := bc_ BK279 1
     have hcz12_2 : w6.cell? ⟨gb279, 2, none⟩ = some (.slice A0_2 l0_2.length c0_2) := bc_ BK279 2
     have hcz12_3 : w6.cell? ⟨gb279, 3, none⟩ = some (.string a0_3) := bc_ BK279 3
     have hfz12_0 := blk_frozen BK279.out 0
     have hfz12_1 := blk_frozen BK279.out 1
     have hfz12_2 := blk_frozen BK279.out 2
     have hfz12_3 := blk_frozen BK279.out 3
     go_wp2_with (first | (go_at_call 42; (with_reducible refine (impl_within.calls a0_0 0 1000000 true _ A8.out).mono ?_); rintro e w' ⟨rfl, ⟨nd, rfl⟩⟩) | (go_at_call 42; (with_reducible refine (impl_within.calls a0_1 0 100000 true _ A10.out).mono ?_); rintro e w' ⟨rfl, ⟨nd, rfl⟩⟩))
     go_meet
     case rel => exact ⟨_, (decide ((a0_3.size : Int) > 20000)), (by first | rfl | (simp; done) | (simp [*]; done)), H', ⟨by first | omega | exact Nat.le_refl _⟩, ⟨by (with_reducible repeat (first | refine blk_drewN ?_ _ | refine blk_drew ?_ | refine blk_alloc ?_ _)); exact BK279.out⟩, ⟨by repeat (first | (with_reducible first | exact HB.out | apply below_alloc | apply pw_below_drewN | apply below_drew1 | refine below_set ?_ GE279.out) | exact HB.out)⟩⟩
    ·replace c11 := Bool.eq_false_iff.mpr c11
     subst c11
     have H1 : (impl_SnapText.j0 k t280 true a0_0 a0_1 l0_2 a0_3) = some (r1, r2) := by rw [if_neg (show ¬ (false = true) by decide)] at H; exact H
     clear H
     have H := H1
     clear H1
     have H' := Aside0.mk H
     clear H
     have hcz13_0 : w6.cell? ⟨gb279, 0, none⟩ = some (.int .i64 a0_0) := bc_ BK279 0
     have hcz13_1 : w6.cell? ⟨gb279, 1, none⟩ = some (.int .i64 a0_1) := bc_ BK279 1
     have hcz13_2 : w6.cell? ⟨gb279, 2, none⟩ = some (.slice A0_2 l0_2.length c0_2) := bc_ BK279 2
     have hcz13_3 : w6.cell? ⟨gb279, 3, none⟩ = some (.string a0_3) := bc_ BK279 3
     have hfz13_0 := blk_frozen BK279.out 0
     have hfz13_1 := blk_frozen BK279.out 1
     have hfz13_2 := blk_frozen BK279.out 2
     have hfz13_3 := blk_frozen BK279.out 3
     go_wp2_with (first | (go_at_call 42; (with_reducible refine (impl_within.calls a0_0 0 1000000 true _ A8.out).mono ?_); rintro e w' ⟨rfl, ⟨nd, rfl⟩⟩) | (go_at_call 42; (with_reducible refine (impl_within.calls a0_1 0 100000 false _ A10.out).mono ?_); rintro e w' ⟨rfl, ⟨nd, rfl⟩⟩))
     go_meet
     case rel => exact ⟨_, (true), (by first | rfl | (simp; done) | (simp [*]; done)), H', ⟨by first | omega | exact Nat.le_refl _⟩, ⟨by (with_reducible repeat (first | refine blk_drewN ?_ _ | refine blk_drew ?_ | refine blk_alloc ?_ _)); exact BK279.out⟩, ⟨by repeat (first | (with_reducible first | exact HB.out | apply below_alloc | apply pw_below_drewN | apply below_drew1 | refine below_set ?_ GE279.out) | exact HB.out)⟩⟩
   ·replace c9 := Bool.eq_false_iff.mpr c9
    subst c9
    have H1 : (impl_SnapText.j0 k t280 true a0_0 a0_1 l0_2 a0_3) = some (r1, r2) := by rw [if_neg (show ¬ (false = true) by decide)] at H; exact H
    clear H
    have H := H1
    clear H1
    have H' := Aside0.mk H
    clear H
    have hcz14_0 : w6.cell? ⟨gb279, 0, none⟩ = some (.int .i64 a0_0) := bc_ BK279 0
    have hcz14_1 : w6.cell? ⟨gb279, 1, none⟩ = some (.int .i64 a0_1) := bc_ BK279 1
    have hcz14_2 : w6.cell? ⟨gb279, 2, none⟩ = some (.slice A0_2 l0_2.length c0_2) := bc_ BK279 2
    have hcz14_3 : w6.cell? ⟨gb279, 3, none⟩ = some (.string a0_3) := bc_ BK279 3
    have hfz14_0 := blk_frozen BK279.out 0
    have hfz14_1 := blk_frozen BK279.out 1
    have hfz14_2 := blk_frozen BK279.out 2
    have hfz14_3 := blk_frozen BK279.out 3
    go_wp2_with (first | (go_at_call 42; (with_reducible refine (impl_within.calls a0_0 0 1000000 false _ A8.out).mono ?_); rintro e w' ⟨rfl, ⟨nd, rfl⟩⟩))
    go_meet
    case rel => exact ⟨_, (true), (by first | rfl | (simp; done) | (simp [*]; done)), H', ⟨by first | omega | exact Nat.le_refl _⟩, ⟨by (with_reducible repeat (first | refine blk_drewN ?_ _ | refine blk_drew ?_ | refine blk_alloc ?_ _)); exact BK279.out⟩, ⟨by repeat (first | (with_reducible first | exact HB.out | apply below_alloc | apply pw_below_drewN | apply below_drew1 | refine below_set ?_ GE279.out) | exact HB.out)⟩⟩
  ·replace c7 := Bool.eq_false_iff.mpr c7
   subst c7
   have H1 : (impl_SnapText.j0 k t280 true a0_0 a0_1 l0_2 a0_3) = some (r1, r2) := by rw [if_neg (show ¬ (false = true) by decide)] at H; exact H
   clear H
   have H := H1
   clear H1
   have H' := Aside0.mk H
   clear H
   go_wp2
   go_meet
   case rel => exact ⟨_, (true), (by first | rfl | (simp; done) | (simp [*]; done)), H', ⟨by first | omega | exact Nat.le_refl _⟩, ⟨by (with_reducible repeat (first | refine blk_drewN ?_ _ | refine blk_drew ?_ | refine blk_alloc ?_ _)); exact BK279.out⟩, ⟨by repeat (first | (with_reducible first | exact HB.out | apply below_alloc | apply pw_below_drewN | apply below_drew1 | refine below_set ?_ GE279.out) | exact HB.out)⟩⟩
 case rest =>
  clear HC3
  try clear c1
  try clear p2
  try clear c5
  try clear c7
  try clear c8
  try clear c9
  try clear c11
  try clear hcz12_0
  try clear hcz12_1
  try clear hcz12_2
  try clear hcz12_3
  try clear hcz13_0
  try clear hcz13_1
  try clear hcz13_2
  try clear hcz13_3
  try clear hcz14_0
  try clear hcz14_1
  try clear hcz14_2
  try clear hcz14_3
  try clear hcz5_0
  try clear hcz5_1
  try clear hcz5_2
  try clear hcz5_3
  try clear hfz12_0
  try clear hfz12_1
  try clear hfz12_2
  try clear hfz12_3
  try clear hfz13_0
  try clear hfz13_1
  try clear hfz13_2
  try clear hfz13_3
  try clear hfz14_0
  try clear hfz14_1
  try clear hfz14_2
  try clear hfz14_3
  try clear hfz5_0
  try clear hfz5_1
  try clear hfz5_2
  try clear hfz5_3
  obtain ⟨kq, x38_2, rfl, HA, HJ2, BK279, HB⟩ := hcut
  cases kq with
  | zero => exact absurd HA.out (by simp [impl_SnapText.j0])
  | succ kj2 =>
   have H := HA.out
   clear HA
   simp only [impl_SnapText.j0] at H
   by_cases c15 : x38_2 = true
   ·subst c15
    have H1 : (some ((⟨#[]⟩ : ByteArray), false)) = some (r1, r2) := by rw [if_pos rfl] at H; exact H
    clear H
    have H := H1
    clear H1
    simp only [Option.some.injEq, Prod.mk.injEq] at H
    obtain ⟨rfl, rfl⟩ := H
    go_wp2
    go_ret2
    exact ⟨by first | rfl | (simp [errW_none, errW_some] <;> rfl) | (simp [*, errW_none, errW_some] <;> rfl), by repeat (first | (with_reducible first | exact HB.out | apply below_alloc | apply pw_below_drewN | apply below_drew1 | refine below_set ?_ GE279.out) | exact HB.out)⟩
   ·replace c15 := Bool.eq_false_iff.mpr c15
    subst c15
    have H1 : ((impl_vars.f kj2 (([a0_0, a0_1] : List Int))).bind fun bt287 => ((impl_ShortText.f kj2 t280).bind fun bt289 => ((impl_ShortText.f kj2 a0_3).bind fun bt291 => (if bt287.1.size + bt289.1.size ≤ 9223372036854775807 then (if (bt287.1 ++ bt289.1).size + bt291.1.size ≤ 9223372036854775807 then ((impl_Sealed.f kj2 ((bt287.1 ++ bt289.1) ++ bt291.1)).bind fun bt293 => (if bt293.2 = true then (if (bt293.1.size : Int) > 20000 then (some ((⟨#[]⟩ : ByteArray), false)) else (some (bt293.1, true))) else (some ((⟨#[]⟩ : ByteArray), false)))) else (none)) else (none))))) = some (r1, r2) := by rw [if_neg (show ¬ (false = true) by decide)] at H; exact H
    clear H
    have H := H1
    clear H1
    obtain ⟨y284, hy284⟩ : ∃ y_ : List Int, y_ = (([a0_0, a0_1] : List Int)) := ⟨_, rfl⟩
    replace H : ((impl_vars.f kj2 y284).bind fun bt287 => ((impl_ShortText.f kj2 t280).bind fun bt289 => ((impl_ShortText.f kj2 a0_3).bind fun bt291 => (if bt287.1.size + bt289.1.size ≤ 9223372036854775807 then (if (bt287.1 ++ bt289.1).size + bt291.1.size ≤ 9223372036854775807 then ((impl_Sealed.f kj2 ((bt287.1 ++ bt289.1) ++ bt291.1)).bind fun bt293 => (if bt293.2 = true then (if (bt293.1.size : Int) > 20000 then (some ((⟨#[]⟩ : ByteArray), false)) else (some (bt293.1, true))) else (some ((⟨#[]⟩ : ByteArray), false)))) else (none)) else (none))))) = some (r1, r2) := by first | (rw [hy284]; with_reducible exact H) | (have H2_ := (Option.bind_some _ _).symm.trans H; rw [hy284]; with_reducible exact H2_) | (have H2_ := (Option.bind_some _ _).symm.trans H; with_reducible exact H2_) | with_reducible exact H | (rw [hy284]; exact H) | exact H
    have Ny284 := Aside0.mk hy284
    clear hy284
    replace H := Option.bind_eq_some_iff.mp H
    obtain ⟨⟨t287, t288⟩, A160, H⟩ := H
    replace H : ((impl_ShortText.f kj2 t280).bind fun bt289 => ((impl_ShortText.f kj2 a0_3).bind fun bt291 => (if t287.size + bt289.1.size ≤ 9223372036854775807 then (if (t287 ++ bt289.1).size + bt291.1.size ≤ 9223372036854775807 then ((impl_Sealed.f kj2 ((t287 ++ bt289.1) ++ bt291.1)).bind fun bt293 => (if bt293.2 = true then (if (bt293.1.size : Int) > 20000 then (some ((⟨#[]⟩ : ByteArray), false)) else (some (bt293.1, true))) else (some ((⟨#[]⟩ : ByteArray), false)))) else (none)) else (none)))) = some (r1, r2) := H
    have A16 := Aside0.mk A160
    clear A160
    replace H := Option.bind_eq_some_iff.mp H
    obtain ⟨⟨t289, t290⟩, A170, H⟩ := H
    replace H : ((impl_ShortText.f kj2 a0_3).bind fun bt291 => (if t287.size + t289.size ≤ 9223372036854775807 then (if (t287 ++ t289).size + bt291.1.size ≤ 9223372036854775807 then ((impl_Sealed.f kj2 ((t287 ++ t289) ++ bt291.1)).bind fun bt293 => (if bt293.2 = true then (if (bt293.1.size : Int) > 20000 then (some ((⟨#[]⟩ : ByteArray), false)) else (some (bt293.1, true))) else (some ((⟨#[]⟩ : ByteArray), false)))) else (none)) else (none))) = some (r1, r2) := H
    have A17 := Aside0.mk A170
    clear A170
    replace H := Option.bind_eq_some_iff.mp H
    obtain ⟨⟨t291, t292⟩, A180, H⟩ := H
    replace H : (if t287.size + t289.size ≤ 9223372036854775807 then (if (t287 ++ t289).size + t291.size ≤ 9223372036854775807 then ((impl_Sealed.f kj2 ((t287 ++ t289) ++ t291)).bind fun bt293 => (if bt293.2 = true then (if (bt293.1.size : Int) > 20000 then (some ((⟨#[]⟩ : ByteArray), false)) else (some (bt293.1, true))) else (some ((⟨#[]⟩ : ByteArray), false)))) else (none)) else (none)) = some (r1, r2) := H
    have A18 := Aside0.mk A180
    clear A180
    by_cases c19 : t287.size + t289.size ≤ 9223372036854775807
    ·rw [if_pos c19] at H
     have c19b0 := eq_true c19
     have c19b1 : decide (t287.size + t289.size ≤ 9223372036854775807) = true := decide_eq_true c19
     try have c19b2 : (9223372036854775807 < t287.size + t289.size) = False := eq_false (Nat.not_lt.2 c19)
     by_cases c20 : (t287 ++ t289).size + t291.size ≤ 9223372036854775807
     ·rw [if_pos c20] at H
      have c20b0 := eq_true c20
      have c20b1 : decide ((t287 ++ t289).size + t291.size ≤ 9223372036854775807) = true := decide_eq_true c20
      try have c20b2 : (9223372036854775807 < (t287 ++ t289).size + t291.size) = False := eq_false (Nat.not_lt.2 c20)
      have c20x0 : (9223372036854775807 < t287.size + t289.size + t291.size) = False := eq_false (by have h_ := c20; simp only [ByteArray.size_append] at h_; exact Nat.not_lt.2 h_)
      replace H := Option.bind_eq_some_iff.mp H
      obtain ⟨⟨t293, t294⟩, A210, H⟩ := H
      replace H : (if t294 = true then (if (t293.size : Int) > 20000 then (some ((⟨#[]⟩ : ByteArray), false)) else (some (t293, true))) else (some ((⟨#[]⟩ : ByteArray), false))) = some (r1, r2) := H
      have A21 := Aside0.mk A210
      clear A210
      by_cases c22 : t294 = true
      ·subst c22
       have H1 : (if (t293.size : Int) > 20000 then (some ((⟨#[]⟩ : ByteArray), false)) else (some (t293, true))) = some (r1, r2) := by rw [if_pos rfl] at H; exact H
       clear H
       have H := H1
       clear H1
       by_cases c23 : (t293.size : Int) > 20000
       ·rw [if_pos c23] at H
        have c23b0 : decide (20000 < (t293.size : Int)) = true := decide_eq_true c23
        have c23b1 : decide (20000 < t293.size) = true := decide_eq_true (by omega)
        clear c23
        simp only [Option.some.injEq, Prod.mk.injEq] at H
        obtain ⟨rfl, rfl⟩ := H
        have hcz24_0 : wc.cell? ⟨gb279, 0, none⟩ = some (.int .i64 a0_0) := bc_ BK279 0
        have hcz24_1 : wc.cell? ⟨gb279, 1, none⟩ = some (.int .i64 a0_1) := bc_ BK279 1
        have hcz24_2 : wc.cell? ⟨gb279, 2, none⟩ = some (.slice A0_2 l0_2.length c0_2) := bc_ BK279 2
        have hcz24_3 : wc.cell? ⟨gb279, 3, none⟩ = some (.string a0_3) := bc_ BK279 3
        have hfz24_0 := blk_frozen BK279.out 0
        have hfz24_1 := blk_frozen BK279.out 1
        have hfz24_2 := blk_frozen BK279.out 2
        have hfz24_3 := blk_frozen BK279.out 3
        go_wp2_with (first | ((with_reducible refine gate_dst (N := 44) rfl ?_); (try (refine gate_guard (by rfl) ?_; dsimp only)); refine Kd.R_lit (Kd.int .i64) _ 3 ?hg (N := 44) ?hd (xs := ([a0_0, a0_1] : List Int)) (inner := [.int .i64 a0_0, .int .i64 a0_1]) (ok := fun _ => True) (okp := fun _ => True) ?hr ?hp (fun _ hk => hk) trivial (Below.refl _ _) (Nat.le_refl _) (by simp) ?_; (case hd => rfl); (case hg => rfl); (case hr => first | (go_simp; done) | (go_simp; rfl)); (case hp => exact (Reps.one (show Kd.M (Kd.int .i64) _ _ _ a0_0 [.int .i64 a0_0] from rfl) (Reps.one (show Kd.M (Kd.int .i64) _ _ _ a0_1 [.int .i64 a0_1] from rfl) (Reps.none _ _)))); intro v285 w25 ho26 hb hg_ hnew_; clear hg_ hnew_; (first | rw [← Ny284.out] at ho26 | (simp only [Int.reduceToNat] at ho26; rw [← Ny284.out] at ho26)); have HO286 := mk_ (Kd.R_lower ho26 (below_size (bw_ HB))); replace BK279 := bb_ BK279 hb; replace HB := bs_ HB hb; clear hb ho26; obtain ⟨Ao27, co27, eo27⟩ := Kd.R_slice HO286.out; subst eo27) | ((with_reducible refine gate_callee (f := 85) rfl ?_); refine goesL_ (some 45) rfl rfl Tryd.func85 (by kernel_rfl) rfl #[.slice Ao27 y284.length co27] rfl (by (try simp only [List.map_toArray, List.map_cons, List.map_nil]); first | done | rfl | (simp only [List.length_drop, List.length_take]; rfl)) ?_; (with_reducible refine (impl_vars.calls kj2 _ _ y284 t287 t288 _ ?side1 ?side2 A16.out).mono ?_); (case side1 => repeat (first | exact (Kd.R_reads' HO286.out).2.2 | (with_reducible refine Kd.C_alloc ?_ _) | (with_reducible refine Kd.C_drewN ?_ _) | (with_reducible refine Kd.C_drew ?_))); (case side2 => exact (Kd.R_reads' HO286.out).2.1); rintro e w28 ⟨rfl, hb⟩; refine ⟨_, rfl, ?_⟩; replace HO286 := rb_ HO286 hb; replace BK279 := bb_ BK279 hb; replace HB := bs_ HB hb; (try clear hb); (try clear hk)) | ((with_reducible refine gate_callee (f := 22) rfl ?_); refine goesL_ (some 50) rfl rfl Tryd.func22 (by kernel_rfl) rfl #[.string t280] rfl (by (try simp only [List.map_toArray, List.map_cons, List.map_nil]); first | done | rfl | (simp only [List.length_drop, List.length_take]; rfl)) ?_; (with_reducible refine (impl_ShortText.calls kj2 t280 t289 t290 _ A17.out).mono ?_); rintro e w29 ⟨rfl, hb⟩; refine ⟨_, rfl, ?_⟩; replace HO286 := rb_ HO286 hb; replace BK279 := bb_ BK279 hb; replace HB := bs_ HB hb; (try clear hb); (try clear hk); have hcz30_0 : w29.cell? ⟨gb279, 0, none⟩ = some (.int .i64 a0_0) := bc_ BK279 0; have hcz30_1 : w29.cell? ⟨gb279, 1, none⟩ = some (.int .i64 a0_1) := bc_ BK279 1; have hcz30_2 : w29.cell? ⟨gb279, 2, none⟩ = some (.slice A0_2 l0_2.length c0_2) := bc_ BK279 2; have hcz30_3 : w29.cell? ⟨gb279, 3, none⟩ = some (.string a0_3) := bc_ BK279 3; have hfz30_0 := blk_frozen BK279.out 0; have hfz30_1 := blk_frozen BK279.out 1; have hfz30_2 := blk_frozen BK279.out 2; have hfz30_3 := blk_frozen BK279.out 3) | ((with_reducible refine gate_callee (f := 22) rfl ?_); refine goesL_ (some 56) rfl rfl Tryd.func22 (by kernel_rfl) rfl #[.string a0_3] rfl (by (try simp only [List.map_toArray, List.map_cons, List.map_nil]); first | done | rfl | (simp only [List.length_drop, List.length_take]; rfl)) ?_; (with_reducible refine (impl_ShortText.calls kj2 a0_3 t291 t292 _ A18.out).mono ?_); rintro e w31 ⟨rfl, hb⟩; refine ⟨_, rfl, ?_⟩; replace HO286 := rb_ HO286 hb; replace BK279 := bb_ BK279 hb; replace HB := bs_ HB hb; (try clear hb); (try clear hk)) | ((with_reducible refine gate_callee (f := 86) rfl ?_); refine goesL_ (some 65) rfl rfl Tryd.func86 (by kernel_rfl) rfl #[.string ((t287 ++ t289) ++ t291)] rfl (by (try simp only [List.map_toArray, List.map_cons, List.map_nil]); first | done | rfl | (simp only [List.length_drop, List.length_take]; rfl)) ?_; (with_reducible refine (impl_Sealed.calls kj2 ((t287 ++ t289) ++ t291) t293 true _ A21.out).mono ?_); rintro e w32 ⟨rfl, hb⟩; refine ⟨_, rfl, ?_⟩; replace HO286 := rb_ HO286 hb; replace BK279 := bb_ BK279 hb; replace HB := bs_ HB hb; (try clear hb); (try clear hk)))
        go_ret2
        exact ⟨by first | rfl | (simp [errW_none, errW_some] <;> rfl) | (simp [*, errW_none, errW_some] <;> rfl), by repeat (first | (with_reducible first | exact HB.out | apply below_alloc | apply pw_below_drewN | apply below_drew1 | refine below_set ?_ GE279.out) | exact HB.out)⟩
       ·rw [if_neg c23] at H
        have c23b0 : decide (20000 < (t293.size : Int)) = false := decide_eq_false c23
        have c23b1 : decide (20000 < t293.size) = false := decide_eq_false (by omega)
        clear c23
        simp only [Option.some.injEq, Prod.mk.injEq] at H
        obtain ⟨rfl, rfl⟩ := H
        have hcz33_0 : wc.cell? ⟨gb279, 0, none⟩ = some (.int .i64 a0_0) := bc_ BK279 0
        have hcz33_1 : wc.cell? ⟨gb279, 1, none⟩ = some (.int .i64 a0_1) := bc_ BK279 1
        have hcz33_2 : wc.cell? ⟨gb279, 2, none⟩ = some (.slice A0_2 l0_2.length c0_2) := bc_ BK279 2
        have hcz33_3 : wc.cell? ⟨gb279, 3, none⟩ = some (.string a0_3) := bc_ BK279 3
        have hfz33_0 := blk_frozen BK279.out 0
        have hfz33_1 := blk_frozen BK279.out 1
        have hfz33_2 := blk_frozen BK279.out 2
        have hfz33_3 := blk_frozen BK279.out 3
        go_wp2_with (first | ((with_reducible refine gate_dst (N := 44) rfl ?_); (try (refine gate_guard (by rfl) ?_; dsimp only)); refine Kd.R_lit (Kd.int .i64) _ 3 ?hg (N := 44) ?hd (xs := ([a0_0, a0_1] : List Int)) (inner := [.int .i64 a0_0, .int .i64 a0_1]) (ok := fun _ => True) (okp := fun _ => True) ?hr ?hp (fun _ hk => hk) trivial (Below.refl _ _) (Nat.le_refl _) (by simp) ?_; (case hd => rfl); (case hg => rfl); (case hr => first | (go_simp; done) | (go_simp; rfl)); (case hp => exact (Reps.one (show Kd.M (Kd.int .i64) _ _ _ a0_0 [.int .i64 a0_0] from rfl) (Reps.one (show Kd.M (Kd.int .i64) _ _ _ a0_1 [.int .i64 a0_1] from rfl) (Reps.none _ _)))); intro v285 w34 ho35 hb hg_ hnew_; clear hg_ hnew_; (first | rw [← Ny284.out] at ho35 | (simp only [Int.reduceToNat] at ho35; rw [← Ny284.out] at ho35)); have HO286 := mk_ (Kd.R_lower ho35 (below_size (bw_ HB))); replace BK279 := bb_ BK279 hb; replace HB := bs_ HB hb; clear hb ho35; obtain ⟨Ao36, co36, eo36⟩ := Kd.R_slice HO286.out; subst eo36) | ((with_reducible refine gate_callee (f := 85) rfl ?_); refine goesL_ (some 45) rfl rfl Tryd.func85 (by kernel_rfl) rfl #[.slice Ao36 y284.length co36] rfl (by (try simp only [List.map_toArray, List.map_cons, List.map_nil]); first | done | rfl | (simp only [List.length_drop, List.length_take]; rfl)) ?_; (with_reducible refine (impl_vars.calls kj2 _ _ y284 t287 t288 _ ?side1 ?side2 A16.out).mono ?_); (case side1 => repeat (first | exact (Kd.R_reads' HO286.out).2.2 | (with_reducible refine Kd.C_alloc ?_ _) | (with_reducible refine Kd.C_drewN ?_ _) | (with_reducible refine Kd.C_drew ?_))); (case side2 => exact (Kd.R_reads' HO286.out).2.1); rintro e w37 ⟨rfl, hb⟩; refine ⟨_, rfl, ?_⟩; replace HO286 := rb_ HO286 hb; replace BK279 := bb_ BK279 hb; replace HB := bs_ HB hb; (try clear hb); (try clear hk)) | ((with_reducible refine gate_callee (f := 22) rfl ?_); refine goesL_ (some 50) rfl rfl Tryd.func22 (by kernel_rfl) rfl #[.string t280] rfl (by (try simp only [List.map_toArray, List.map_cons, List.map_nil]); first | done | rfl | (simp only [List.length_drop, List.length_take]; rfl)) ?_; (with_reducible refine (impl_ShortText.calls kj2 t280 t289 t290 _ A17.out).mono ?_); rintro e w38 ⟨rfl, hb⟩; refine ⟨_, rfl, ?_⟩; replace HO286 := rb_ HO286 hb; replace BK279 := bb_ BK279 hb; replace HB := bs_ HB hb; (try clear hb); (try clear hk); have hcz39_0 : w38.cell? ⟨gb279, 0, none⟩ = some (.int .i64 a0_0) := bc_ BK279 0; have hcz39_1 : w38.cell? ⟨gb279, 1, none⟩ = some (.int .i64 a0_1) := bc_ BK279 1; have hcz39_2 : w38.cell? ⟨gb279, 2, none⟩ = some (.slice A0_2 l0_2.length c0_2) := bc_ BK279 2; have hcz39_3 : w38.cell? ⟨gb279, 3, none⟩ = some (.string a0_3) := bc_ BK279 3; have hfz39_0 := blk_frozen BK279.out 0; have hfz39_1 := blk_frozen BK279.out 1; have hfz39_2 := blk_frozen BK279.out 2; have hfz39_3 := blk_frozen BK279.out 3) | ((with_reducible refine gate_callee (f := 22) rfl ?_); refine goesL_ (some 56) rfl rfl Tryd.func22 (by kernel_rfl) rfl #[.string a0_3] rfl (by (try simp only [List.map_toArray, List.map_cons, List.map_nil]); first | done | rfl | (simp only [List.length_drop, List.length_take]; rfl)) ?_; (with_reducible refine (impl_ShortText.calls kj2 a0_3 t291 t292 _ A18.out).mono ?_); rintro e w40 ⟨rfl, hb⟩; refine ⟨_, rfl, ?_⟩; replace HO286 := rb_ HO286 hb; replace BK279 := bb_ BK279 hb; replace HB := bs_ HB hb; (try clear hb); (try clear hk)) | ((with_reducible refine gate_callee (f := 86) rfl ?_); refine goesL_ (some 65) rfl rfl Tryd.func86 (by kernel_rfl) rfl #[.string ((t287 ++ t289) ++ t291)] rfl (by (try simp only [List.map_toArray, List.map_cons, List.map_nil]); first | done | rfl | (simp only [List.length_drop, List.length_take]; rfl)) ?_; (with_reducible refine (impl_Sealed.calls kj2 ((t287 ++ t289) ++ t291) t293 true _ A21.out).mono ?_); rintro e w41 ⟨rfl, hb⟩; refine ⟨_, rfl, ?_⟩; replace HO286 := rb_ HO286 hb; replace BK279 := bb_ BK279 hb; replace HB := bs_ HB hb; (try clear hb); (try clear hk)))
        go_ret2
        exact ⟨by first | rfl | (simp [errW_none, errW_some] <;> rfl) | (simp [*, errW_none, errW_some] <;> rfl), by repeat (first | (with_reducible first | exact HB.out | apply below_alloc | apply pw_below_drewN | apply below_drew1 | refine below_set ?_ GE279.out) | exact HB.out)⟩
      ·replace c22 := Bool.eq_false_iff.mpr c22
       subst c22
       have H1 : (some ((⟨#[]⟩ : ByteArray), false)) = some (r1, r2) := by rw [if_neg (show ¬ (false = true) by decide)] at H; exact H
       clear H
       have H := H1
       clear H1
       simp only [Option.some.injEq, Prod.mk.injEq] at H
       obtain ⟨rfl, rfl⟩ := H
       have hcz42_0 : wc.cell? ⟨gb279, 0, none⟩ = some (.int .i64 a0_0) := bc_ BK279 0
       have hcz42_1 : wc.cell? ⟨gb279, 1, none⟩ = some (.int .i64 a0_1) := bc_ BK279 1
       have hcz42_2 : wc.cell? ⟨gb279, 2, none⟩ = some (.slice A0_2 l0_2.length c0_2) := bc_ BK279 2
       have hcz42_3 : wc.cell? ⟨gb279, 3, none⟩ = some (.string a0_3) := bc_ BK279 3
       have hfz42_0 := blk_frozen BK279.out 0
       have hfz42_1 := blk_frozen BK279.out 1
       have hfz42_2 := blk_frozen BK279.out 2
       have hfz42_3 := blk_frozen BK279.out 3
       go_wp2_with (first | ((with_reducible refine gate_dst (N := 44) rfl ?_); (try (refine gate_guard (by rfl) ?_; dsimp only)); refine Kd.R_lit (Kd.int .i64) _ 3 ?hg (N := 44) ?hd (xs := ([a0_0, a0_1] : List Int)) (inner := [.int .i64 a0_0, .int .i64 a0_1]) (ok := fun _ => True) (okp := fun _ => True) ?hr ?hp (fun _ hk => hk) trivial (Below.refl _ _) (Nat.le_refl _) (by simp) ?_; (case hd => rfl); (case hg => rfl); (case hr => first | (go_simp; done) | (go_simp; rfl)); (case hp => exact (Reps.one (show Kd.M (Kd.int .i64) _ _ _ a0_0 [.int .i64 a0_0] from rfl) (Reps.one (show Kd.M (Kd.int .i64) _ _ _ a0_1 [.int .i64 a0_1] from rfl) (Reps.none _ _)))); intro v285 w43 ho44 hb hg_ hnew_; clear hg_ hnew_; (first | rw [← Ny284.out] at ho44 | (simp only [Int.reduceToNat] at ho44; rw [← Ny284.out] at ho44)); have HO286 := mk_ (Kd.R_lower ho44 (below_size (bw_ HB))); replace BK279 := bb_ BK279 hb; replace HB := bs_ HB hb; clear hb ho44; obtain ⟨Ao45, co45, eo45⟩ := Kd.R_slice HO286.out; subst eo45) | ((with_reducible refine gate_callee (f := 85) rfl ?_); refine goesL_ (some 45) rfl rfl Tryd.func85 (by kernel_rfl) rfl #[.slice Ao45 y284.length co45] rfl (by (try simp only [List.map_toArray, List.map_cons, List.map_nil]); first | done | rfl | (simp only [List.length_drop, List.length_take]; rfl)) ?_; (with_reducible refine (impl_vars.calls kj2 _ _ y284 t287 t288 _ ?side1 ?side2 A16.out).mono ?_); (case side1 => repeat (first | exact (Kd.R_reads' HO286.out).2.2 | (with_reducible refine Kd.C_alloc ?_ _) | (with_reducible refine Kd.C_drewN ?_ _) | (with_reducible refine Kd.C_drew ?_))); (case side2 => exact (Kd.R_reads' HO286.out).2.1); rintro e w46 ⟨rfl, hb⟩; refine ⟨_, rfl, ?_⟩; replace HO286 := rb_ HO286 hb; replace BK279 := bb_ BK279 hb; replace HB := bs_ HB hb; (try clear hb); (try clear hk)) | ((with_reducible refine gate_callee (f := 22) rfl ?_); refine goesL_ (some 50) rfl rfl Tryd.func22 (by kernel_rfl) rfl #[.string t280] rfl (by (try simp only [List.map_toArray, List.map_cons, List.map_nil]); first | done | rfl | (simp only [List.length_drop, List.length_take]; rfl)) ?_; (with_reducible refine (impl_ShortText.calls kj2 t280 t289 t290 _ A17.out).mono ?_); rintro e w47 ⟨rfl, hb⟩; refine ⟨_, rfl, ?_⟩; replace HO286 := rb_ HO286 hb; replace BK279 := bb_ BK279 hb; replace HB := bs_ HB hb; (try clear hb); (try clear hk); have hcz48_0 : w47.cell? ⟨gb279, 0, none⟩ = some (.int .i64 a0_0) := bc_ BK279 0; have hcz48_1 : w47.cell? ⟨gb279, 1, none⟩ = some (.int .i64 a0_1) := bc_ BK279 1; have hcz48_2 : w47.cell? ⟨gb279, 2, none⟩ = some (.slice A0_2 l0_2.length c0_2) := bc_ BK279 2; have hcz48_3 : w47.cell? ⟨gb279, 3, none⟩ = some (.string a0_3) := bc_ BK279 3; have hfz48_0 := blk_frozen BK279.out 0; have hfz48_1 := blk_frozen BK279.out 1; have hfz48_2 := blk_frozen BK279.out 2; have hfz48_3 := blk_frozen BK279.out 3) | ((with_reducible refine gate_callee (f := 22) rfl ?_); refine goesL_ (some 56) rfl rfl Tryd.func22 (by kernel_rfl) rfl #[.string a0_3] rfl (by (try simp only [List.map_toArray, List.map_cons, List.map_nil]); first | done | rfl | (simp only [List.length_drop, List.length_take]; rfl)) ?_; (with_reducible refine (impl_ShortText.calls kj2 a0_3 t291 t292 _ A18.out).mono ?_); rintro e w49 ⟨rfl, hb⟩; refine ⟨_, rfl, ?_⟩; replace HO286 := rb_ HO286 hb; replace BK279 := bb_ BK279 hb; replace HB := bs_ HB hb; (try clear hb); (try clear hk)) | ((with_reducible refine gate_callee (f := 86) rfl ?_); refine goesL_ (some 65) rfl rfl Tryd.func86 (by kernel_rfl) rfl #[.string ((t287 ++ t289) ++ t291)] rfl (by (try simp only [List.map_toArray, List.map_cons, List.map_nil]); first | done | rfl | (simp only [List.length_drop, List.length_take]; rfl)) ?_; (with_reducible refine (impl_Sealed.calls kj2 ((t287 ++ t289) ++ t291) t293 false _ A21.out).mono ?_); rintro e w50 ⟨rfl, hb⟩; refine ⟨_, rfl, ?_⟩; replace HO286 := rb_ HO286 hb; replace BK279 := bb_ BK279 hb; replace HB := bs_ HB hb; (try clear hb); (try clear hk)))
       go_ret2
       exact ⟨by first | rfl | (simp [errW_none, errW_some] <;> rfl) | (simp [*, errW_none, errW_some] <;> rfl), by repeat (first | (with_reducible first | exact HB.out | apply below_alloc | apply pw_below_drewN | apply below_drew1 | refine below_set ?_ GE279.out) | exact HB.out)⟩
     ·rw [if_neg c20] at H
      exact absurd H (by simp)
    ·rw [if_neg c19] at H
     exact absurd H (by simp)

/-! ### impl_DiskOk: function 60 -/
def impl_DiskOk.l0 : Nat → List (S88) → Int → Int → List (S88) → Option (Bool)
 | 0, _, _, _, _ => none
 | k + 1, x6, x7, x8, x296000 => if x8 < x7 then (if 0 ≤ x8 then (if x8 < (x6.length : Int) then ((impl_within.f (((rd_T88 x6 x8).f0).size : Int) 1 8).bind fun t298 => (if t298 = true then (if (((rd_T88 x6 x8).f1).size : Int) > 20000 then (some false) else ((impl_within.f ((rd_T88 x6 x8).f2) 0 (((rd_T88 x6 x8).f1).size : Int)).bind fun t299 => (if t299 = true then (if x8 > 0 then (if 0 ≤ (wrap64 (x8 - 1)) then (if (wrap64 (x8 - 1)) < (x296000.length : Int) then (if ((Op.bytesLess (((rd_T88 x296000 (wrap64 (x8 - 1))).f0).toList) (((rd_T88 x6 x8).f0).toList)) = true) then (impl_DiskOk.l0 k x6 x7 (wrap64 (x8 + 1)) x296000) else (some false)) else (none)) else (none)) else (impl_DiskOk.l0 k x6 x7 (wrap64 (x8 + 1)) x296000)) else (some false)))) else (some false))) else (none)) else (none)) else (some (decide ((x296000.length : Int) ≤ 30)))
def impl_DiskOk.f (k : Nat) (l0_0 : List (S88)) : Option (Bool) := impl_DiskOk.l0 k l0_0 (l0_0.length : Int) 0 l0_0
theorem impl_DiskOk.mono_l : ∀ k, (∀ y0 y1 y2 y3, LeO (impl_DiskOk.l0 k y0 y1 y2 y3) (impl_DiskOk.l0 (k + 1) y0 y1 y2 y3))
 | 0 => fun _ _ _ _ r h => by simp [impl_DiskOk.l0] at h
 | k + 1 => by
  have ih0 := impl_DiskOk.mono_l k
  ·intro y0 y1 y2 y3
   unfold impl_DiskOk.l0
   repeat' first
   | (with_reducible exact ih0 _ _ _ _)
   | (with_reducible exact LeO.refl _)
   | (with_reducible exact LeO.none _)
   | (with_reducible refine LeO.ite ?_ ?_)
   | (with_reducible refine LeO.bind ?_ (fun _ => ?_))
   | exact ih0 _ _ _ _
   | exact LeO.none _
   | refine LeO.ite ?_ ?_
   | refine LeO.bind ?_ (fun _ => ?_)
theorem impl_DiskOk.mono : ∀ a0 k, LeO (impl_DiskOk.f k a0) (impl_DiskOk.f (k + 1) a0) := by
 intro a0 k
 have ih0 := impl_DiskOk.mono_l k
 unfold impl_DiskOk.f
 repeat' first
   | (with_reducible exact ih0 _ _ _ _)
   | (with_reducible exact LeO.refl _)
   | (with_reducible exact LeO.none _)
   | (with_reducible refine LeO.ite ?_ ?_)
   | (with_reducible refine LeO.bind ?_ (fun _ => ?_))
   | exact ih0 _ _ _ _
   | exact LeO.none _
   | refine LeO.ite ?_ ?_
   | refine LeO.bind ?_ (fun _ => ?_)
set_option maxHeartbeats 8000000 in
set_option maxRecDepth 100000 in
theorem impl_DiskOk.calls (k : Nat) (A0_0 : Option Addr) (c0_0 : Nat) (l0_0 : List (S88)) (r : Bool) (w : World) (hr0_0 : Kd.C k88 w A0_0 l0_0.length l0_0) (hc0_0 : l0_0.length ≤ c0_0) (h : impl_DiskOk.f k l0_0 = some r) :
  Calls Tryd.prog 60 #[.agg #[.slice A0_0 l0_0.length c0_0]] w fun e w' => e = .returned (.bool r) ∧ Below w.heap.size w w' := by
 have hu51 := Tryd.underlying51
 have hu88 := Tryd.underlying88
 have HR0_0 := Aside0.mk hr0_0
 have HC0_0 := Aside0.mk hc0_0
 clear hr0_0 hc0_0
 have HB := mk_ (Below.refl w.heap.size w)
 have H : (impl_DiskOk.l0 k l0_0 (l0_0.length : Int) 0 l0_0) = some r := h
 clear h
 have H' := Aside0.mk H
 clear H
 go_enter Tryd.func60, Tryd.ntmps60
 go_wp2_with (first | ((with_reducible refine gate_dst (N := 1) rfl ?_); (try (refine gate_guard (by rfl) ?_; dsimp only)); refine box_event ?hg (N := 1) ?hd (cs := #[.slice A0_0 l0_0.length c0_0]) (t := 51) ?hr ?_; (case hd => rfl); (case hg => rfl); (case hr => first | (go_simp; done) | (go_simp; rfl)); intro gb295 hg w2 hbox hb; have BK295 := mk_ (hbox); have GW295 : Aside0 (w.heap.size ≤ gb295) := bz_ hg; have GE295 : Aside0 (w.heap.size ≤ gb295) := bz_ hg; replace HB := bs_ HB hb; clear hb hbox hg; have hcz3_0 : w2.cell? ⟨gb295, 0, none⟩ = some (.slice A0_0 l0_0.length c0_0) := bc_ BK295 0; have hfz3_0 := blk_frozen BK295.out 0))
 repeat (go_quiet (first | ((with_reducible refine gate_dst (N := 1) rfl ?_); (try (refine gate_guard (by rfl) ?_; dsimp only)); refine box_event ?hg (N := 1) ?hd (cs := #[.slice A0_0 l0_0.length c0_0]) (t := 51) ?hr ?_; (case hd => rfl); (case hg => rfl); (case hr => first | (go_simp; done) | (go_simp; rfl)); intro gb295 hg w2 hbox hb; have BK295 := mk_ (hbox); have GW295 : Aside0 (w.heap.size ≤ gb295) := bz_ hg; have GE295 : Aside0 (w.heap.size ≤ gb295) := bz_ hg; replace HB := bs_ HB hb; clear hb hbox hg; have hcz3_0 : w2.cell? ⟨gb295, 0, none⟩ = some (.slice A0_0 l0_0.length c0_0) := bc_ BK295 0; have hfz3_0 := blk_frozen BK295.out 0)); try go_wp2_with (first | ((with_reducible refine gate_dst (N := 1) rfl ?_); (try (refine gate_guard (by rfl) ?_; dsimp only)); refine box_event ?hg (N := 1) ?hd (cs := #[.slice A0_0 l0_0.length c0_0]) (t := 51) ?hr ?_; (case hd => rfl); (case hg => rfl); (case hr => first | (go_simp; done) | (go_simp; rfl)); intro gb295 hg w2 hbox hb; have BK295 := mk_ (hbox); have GW295 : Aside0 (w.heap.size ≤ gb295) := bz_ hg; have GE295 : Aside0 (w.heap.size ≤ gb295) := bz_ hg; replace HB := bs_ HB hb; clear hb hbox hg; have hcz3_0 : w2.cell? ⟨gb295, 0, none⟩ = some (.slice A0_0 l0_0.length c0_0) := bc_ BK295 0; have hfz3_0 := blk_frozen BK295.out 0)))
 go_loopg [8] k (fun kq v8 w' => ∃ (x8_1 : Int), v8 = .int .i64 x8_1 ∧ Aside0 (impl_DiskOk.l0 kq l0_0 (l0_0.length : Int) x8_1 l0_0 = some r) ∧ Aside0 (kq ≤ k) ∧ Aside0 (w'.heap[gb295]? = some (.cells #[(.slice A0_0 l0_0.length c0_0)] 51 (0, 0))) ∧ Aside0 (Below w.heap.size w w'))
 case atStart => exact ⟨(0), (by first | rfl | (simp; done) | (simp [*]; done)), H', ⟨Nat.le_refl _⟩, ⟨by (with_reducible repeat (first | refine blk_drewN ?_ _ | refine blk_drew ?_ | refine blk_alloc ?_ _)); exact BK295.out⟩, ⟨by repeat (first | (with_reducible first | exact HB.out | apply below_alloc | apply pw_below_drewN | apply below_drew1 | refine below_set ?_ GE295.out) | exact HB.out)⟩⟩
 case round =>
  clear H'
  try clear p2
  try clear hcz3_0
  try clear hfz3_0
  obtain ⟨x8_1, rfl, HA, HK1, BK295, HB⟩ := hrel
  cases gk with
  | zero => exact absurd HA.out (by simp [impl_DiskOk.l0])
  | succ k1 =>
   have H := HA.out
   clear HA
   simp only [impl_DiskOk.l0] at H
   by_cases c4 : x8_1 < (l0_0.length : Int)
   ·rw [if_pos c4] at H
    have c4b0 : decide (x8_1 < (l0_0.length : Int)) = true := decide_eq_true c4
    clear c4
    by_cases c5 : 0 ≤ x8_1
    ·rw [if_pos c5] at H
     have c5b0 : decide (0 ≤ x8_1) = true := decide_eq_true c5
     clear c5
     by_cases c6 : x8_1 < (l0_0.length : Int)
     ·rw [if_pos c6] at H
      have c6b0 : decide (x8_1 < (l0_0.length : Int)) = true := decide_eq_true c6
      clear c6
      replace H := Option.bind_eq_some_iff.mp H
      obtain ⟨t298, A70, H⟩ := H
      replace H : (if t298 = true then (if (((rd_T88 l0_0 x8_1).f1).size : Int) > 20000 then (some false) else ((impl_within.f ((rd_T88 l0_0 x8_1).f2) 0 (((rd_T88 l0_0 x8_1).f1).size : Int)).bind fun t299 => (if t299 = true then (if x8_1 > 0 then (if 0 ≤ (wrap64 (x8_1 - 1)) then (if (wrap64 (x8_1 - 1)) < (l0_0.length : Int) then (if ((Op.bytesLess (((rd_T88 l0_0 (wrap64 (x8_1 - 1))).f0).toList) (((rd_T88 l0_0 x8_1).f0).toList)) = true) then (impl_DiskOk.l0 k1 l0_0 (l0_0.length : Int) (wrap64 (x8_1 + 1)) l0_0) else (some false)) else (none)) else (none)) else (impl_DiskOk.l0 k1 l0_0 (l0_0.length : Int) (wrap64 (x8_1 + 1)) l0_0)) else (some false)))) else (some false)) = some r := H
      have A7 := Aside0.mk A70
      clear A70
      by_cases c8 : t298 = true
      ·subst c8
       have H1 : (if (((rd_T88 l0_0 x8_1).f1).size : Int) > 20000 then (some false) else ((impl_within.f ((rd_T88 l0_0 x8_1).f2) 0 (((rd_T88 l0_0 x8_1).f1).size : Int)).bind fun t299 => (if t299 = true then (if x8_1 > 0 then (if 0 ≤ (wrap64 (x8_1 - 1)) then (if (wrap64 (x8_1 - 1)) < (l0_0.length : Int) then (if ((Op.bytesLess (((rd_T88 l0_0 (wrap64 (x8_1 - 1))).f0).toList) (((rd_T88 l0_0 x8_1).f0).toList)) = true) then (impl_DiskOk.l0 k1 l0_0 (l0_0.length : Int) (wrap64 (x8_1 + 1)) l0_0) else (some false)) else (none)) else (none)) else (impl_DiskOk.l0 k1 l0_0 (l0_0.length : Int) (wrap64 (x8_1 + 1)) l0_0)) else (some false)))) = some r := by rw [if_pos rfl] at H; exact H
       clear H
       have H := H1
       clear H1
       by_cases c9 : (((rd_T88 l0_0 x8_1).f1).size : Int) > 20000
       ·rw [if_pos c9] at H
        have c9b0 : decide (20000 < (((rd_T88 l0_0 x8_1).f1).size : Int)) = true := decide_eq_true c9
        have c9b1 : decide (20000 < ((rd_T88 l0_0 x8_1).f1).size) = true := decide_eq_true (by omega)
        clear c9
        obtain rfl := Option.some.inj H
        have p296 : 0 ≤ (x8_1 : Int) := of_decide_eq_true (by first | (with_reducible assumption) | assumption)
        have q296 : x8_1 < (l0_0.length : Int) := of_decide_eq_true (by first | (with_reducible assumption) | assumption)
        obtain ⟨ad296, e296, hx296_0, hx296_1, hx296_2⟩ := at_T88 HR0_0.out x8_1 p296 q296
        cases e296
        replace hx296_0 := (HB.out.cell (World.block_lt_of_cell? w _ hx296_0)).trans hx296_0
        replace hx296_1 := (HB.out.cell (World.block_lt_of_cell? w _ hx296_1)).trans hx296_1
        replace hx296_2 := (HB.out.cell (World.block_lt_of_cell? w _ hx296_2)).trans hx296_2
        replace p296 := eq_true p296
        replace q296 := eq_true q296
        go_wp2_with (first | ((with_reducible refine gate_dst (N := 4) rfl ?_); (try (refine gate_guard (by rfl) ?_; dsimp only)); refine box_event ?hg (N := 4) ?hd (cs := #[.string (⟨#[]⟩ : ByteArray), .string (⟨#[]⟩ : ByteArray), .int .i64 0]) (t := 88) ?hr ?_; (case hd => rfl); (case hg => rfl); (case hr => first | (go_simp; done) | (go_simp; rfl)); intro gb297 hg w10 hbox hb; have BK297 := mk_ (hbox); have GW297 : Aside0 (w.heap.size ≤ gb297) := bz_ hg; have GE297 : Aside0 (w.heap.size ≤ gb297) := bz_ hg; have NB295_297 : Aside0 (gb295 ≠ gb297) := bl_ BK295 hg; have NB297_295 : Aside0 (gb297 ≠ gb295) := bg_ BK295 hg; replace BK295 := bb_ BK295 hb; replace HB := bs_ HB hb; clear hb hbox hg; have hnb11 := NB297_295.out; have hnc11 := NB295_297.out; have hcz12_0 : w10.cell? ⟨gb297, 0, none⟩ = some (.string (⟨#[]⟩ : ByteArray)) := bc_ BK297 0; have hcz12_1 : w10.cell? ⟨gb297, 1, none⟩ = some (.string (⟨#[]⟩ : ByteArray)) := bc_ BK297 1; have hcz12_2 : w10.cell? ⟨gb297, 2, none⟩ = some (.int .i64 0) := bc_ BK297 2; have hfz12_0 := blk_frozen BK297.out 0; have hfz12_1 := blk_frozen BK297.out 1; have hfz12_2 := blk_frozen BK297.out 2) | (go_at_call 42; (with_reducible refine (impl_within.calls (((rd_T88 l0_0 x8_1).f0).size : Int) 1 8 true _ A7.out).mono ?_); rintro e w' ⟨rfl, ⟨nd, rfl⟩⟩; (try first | exact ⟨rfl, _, World.drewN_drewN _ _ _⟩ | exact ⟨rfl, _, Eq.trans (World.drewN_drewN _ _ _) (congrArg (World.drewN _) (Nat.add_assoc _ _ _))⟩)))
        repeat (go_quiet (first | ((with_reducible refine gate_dst (N := 4) rfl ?_); (try (refine gate_guard (by rfl) ?_; dsimp only)); refine box_event ?hg (N := 4) ?hd (cs := #[.string (⟨#[]⟩ : ByteArray), .string (⟨#[]⟩ : ByteArray), .int .i64 0]) (t := 88) ?hr ?_; (case hd => rfl); (case hg => rfl); (case hr => first | (go_simp; done) | (go_simp; rfl)); intro gb297 hg w10 hbox hb; have BK297 := mk_ (hbox); have GW297 : Aside0 (w.heap.size ≤ gb297) := bz_ hg; have GE297 : Aside0 (w.heap.size ≤ gb297) := bz_ hg; have NB295_297 : Aside0 (gb295 ≠ gb297) := bl_ BK295 hg; have NB297_295 : Aside0 (gb297 ≠ gb295) := bg_ BK295 hg; replace BK295 := bb_ BK295 hb; replace HB := bs_ HB hb; clear hb hbox hg; have hnb11 := NB297_295.out; have hnc11 := NB295_297.out; have hcz12_0 : w10.cell? ⟨gb297, 0, none⟩ = some (.string (⟨#[]⟩ : ByteArray)) := bc_ BK297 0; have hcz12_1 : w10.cell? ⟨gb297, 1, none⟩ = some (.string (⟨#[]⟩ : ByteArray)) := bc_ BK297 1; have hcz12_2 : w10.cell? ⟨gb297, 2, none⟩ = some (.int .i64 0) := bc_ BK297 2; have hfz12_0 := blk_frozen BK297.out 0; have hfz12_1 := blk_frozen BK297.out 1; have hfz12_2 := blk_frozen BK297.out 2) | (go_at_call 42; (with_reducible refine (impl_within.calls (((rd_T88 l0_0 x8_1).f0).size : Int) 1 8 true _ A7.out).mono ?_); rintro e w' ⟨rfl, ⟨nd, rfl⟩⟩; (try first | exact ⟨rfl, _, World.drewN_drewN _ _ _⟩ | exact ⟨rfl, _, Eq.trans (World.drewN_drewN _ _ _) (congrArg (World.drewN _) (Nat.add_assoc _ _ _))⟩))); try go_wp2_with (first | ((with_reducible refine gate_dst (N := 4) rfl ?_); (try (refine gate_guard (by rfl) ?_; dsimp only)); refine box_event ?hg (N := 4) ?hd (cs := #[.string (⟨#[]⟩ : ByteArray), .string (⟨#[]⟩ : ByteArray), .int .i64 0]) (t := 88) ?hr ?_; (case hd => rfl); (case hg => rfl); (case hr => first | (go_simp; done) | (go_simp; rfl)); intro gb297 hg w10 hbox hb; have BK297 := mk_ (hbox); have GW297 : Aside0 (w.heap.size ≤ gb297) := bz_ hg; have GE297 : Aside0 (w.heap.size ≤ gb297) := bz_ hg; have NB295_297 : Aside0 (gb295 ≠ gb297) := bl_ BK295 hg; have NB297_295 : Aside0 (gb297 ≠ gb295) := bg_ BK295 hg; replace BK295 := bb_ BK295 hb; replace HB := bs_ HB hb; clear hb hbox hg; have hnb11 := NB297_295.out; have hnc11 := NB295_297.out; have hcz12_0 : w10.cell? ⟨gb297, 0, none⟩ = some (.string (⟨#[]⟩ : ByteArray)) := bc_ BK297 0; have hcz12_1 : w10.cell? ⟨gb297, 1, none⟩ = some (.string (⟨#[]⟩ : ByteArray)) := bc_ BK297 1; have hcz12_2 : w10.cell? ⟨gb297, 2, none⟩ = some (.int .i64 0) := bc_ BK297 2; have hfz12_0 := blk_frozen BK297.out 0; have hfz12_1 := blk_frozen BK297.out 1; have hfz12_2 := blk_frozen BK297.out 2) | (go_at_call 42; (with_reducible refine (impl_within.calls (((rd_T88 l0_0 x8_1).f0).size : Int) 1 8 true _ A7.out).mono ?_); rintro e w' ⟨rfl, ⟨nd, rfl⟩⟩; (try first | exact ⟨rfl, _, World.drewN_drewN _ _ _⟩ | exact ⟨rfl, _, Eq.trans (World.drewN_drewN _ _ _) (congrArg (World.drewN _) (Nat.add_assoc _ _ _))⟩))))
        go_ret
        exact ⟨by first | rfl | (simp [errW_none, errW_some] <;> rfl) | (simp [*, errW_none, errW_some] <;> rfl), by repeat (first | (with_reducible first | exact HB.out | apply below_alloc | apply pw_below_drewN | apply below_drew1 | refine below_set ?_ GE295.out | refine below_set ?_ GE297.out) | exact HB.out)⟩
       ·rw [if_neg c9] at H
        have c9b0 : decide (20000 < (((rd_T88 l0_0 x8_1).f1).size : Int)) = false := decide_eq_false c9
        have c9b1 : decide (20000 < ((rd_T88 l0_0 x8_1).f1).size) = false := decide_eq_false (by omega)
        clear c9
        replace H := Option.bind_eq_some_iff.mp H
        obtain ⟨t299, A130, H⟩ := H
        replace H : (if t299 = true then (if x8_1 > 0 then (if 0 ≤ (wrap64 (x8_1 - 1)) then (if (wrap64 (x8_1 - 1)) < (l0_0.length : Int) then (if ((Op.bytesLess (((rd_T88 l0_0 (wrap64 (x8_1 - 1))).f0).toList) (((rd_T88 l0_0 x8_1).f0).toList)) = true) then (impl_DiskOk.l0 k1 l0_0 (l0_0.length : Int) (wrap64 (x8_1 + 1)) l0_0) else (some false)) else (none)) else (none)) else (impl_DiskOk.l0 k1 l0_0 (l0_0.length : Int) (wrap64 (x8_1 + 1)) l0_0)) else (some false)) = some r := H
        have A13 := Aside0.mk A130
        clear A130
        by_cases c14 : t299 = true
        ·subst c14
         have H1 : (if x8_1 > 0 then (if 0 ≤ (wrap64 (x8_1 - 1)) then (if (wrap64 (x8_1 - 1)) < (l0_0.length : Int) then (if ((Op.bytesLess (((rd_T88 l0_0 (wrap64 (x8_1 - 1))).f0).toList) (((rd_T88 l0_0 x8_1).f0).toList)) = true) then (impl_DiskOk.l0 k1 l0_0 (l0_0.length : Int) (wrap64 (x8_1 + 1)) l0_0) else (some false)) else (none)) else (none)) else (impl_DiskOk.l0 k1 l0_0 (l0_0.length : Int) (wrap64 (x8_1 + 1)) l0_0)) = some r := by rw [if_pos rfl] at H; exact H
         clear H
         have H := H1
         clear H1
         by_cases c15 : x8_1 > 0
         ·rw [if_pos c15] at H
          have c15b0 : decide (0 < x8_1) = true := decide_eq_true c15
          clear c15
          obtain ⟨ji16, hji16⟩ : ∃ j_ : Int, (wrap64 (x8_1 - 1)) = j_ := ⟨_, rfl⟩
          replace H : (if 0 ≤ (ji16) then (if (ji16) < (l0_0.length : Int) then (if ((Op.bytesLess (((rd_T88 l0_0 (ji16)).f0).toList) (((rd_T88 l0_0 x8_1).f0).toList)) = true) then (impl_DiskOk.l0 k1 l0_0 (l0_0.length : Int) (wrap64 (x8_1 + 1)) l0_0) else (some false)) else (none)) else (none)) = some r := by first | (rw [hji16] at H; exact H) | (simp only [hji16] at H ⊢; exact H)
          (try rw [hji16] at A7)
          (try rw [hji16] at A13)
          have hji16w : (IntKind.i64.wrap (x8_1 - 1)) = ji16 := (i64_w _).trans hji16
          by_cases c17 : 0 ≤ (ji16)
          ·rw [if_pos c17] at H
           have c17b0 : decide (0 ≤ (ji16)) = true := decide_eq_true c17
           clear c17
           by_cases c18 : (ji16) < (l0_0.length : Int)
           ·rw [if_pos c18] at H
            have c18b0 : decide ((ji16) < (l0_0.length : Int)) = true := decide_eq_true c18
            clear c18
            by_cases c19 : ((Op.bytesLess (((rd_T88 l0_0 (ji16)).f0).toList) (((rd_T88 l0_0 x8_1).f0).toList)) = true)
            ·rw [if_pos c19] at H
             have c19b0 : (Op.bytesLess (((rd_T88 l0_0 (ji16)).f0).toList) (((rd_T88 l0_0 x8_1).f0).toList)) = true := c19
             have c19g0 : Op.bytesLess (((rd_T88 l0_0 x8_1).f0).toList) (((rd_T88 l0_0 (ji16)).f0).toList) = false := Go.Proofs.YtgnmlgoadkhceaaDoor.Sem.less_no c19b0
             have c19g1 : ((((rd_T88 l0_0 x8_1).f0).toList) == (((rd_T88 l0_0 (ji16)).f0).toList)) = false := Go.Proofs.YtgnmlgoadkhceaaDoor.Sem.less_ne c19b0
             clear c19
             have H' := Aside0.mk H
             clear H
             have p296 : 0 ≤ (x8_1 : Int) := of_decide_eq_true (by first | (with_reducible assumption) | assumption)
             have q296 : x8_1 < (l0_0.length : Int) := of_decide_eq_true (by first | (with_reducible assumption) | assumption)
             obtain ⟨ad296, e296, hx296_0, hx296_1, hx296_2⟩ := at_T88 HR0_0.out x8_1 p296 q296
             cases e296
             replace hx296_0 := (HB.out.cell (World.block_lt_of_cell? w _ hx296_0)).trans hx296_0
             replace hx296_1 := (HB.out.cell (World.block_lt_of_cell? w _ hx296_1)).trans hx296_1
             replace hx296_2 := (HB.out.cell (World.block_lt_of_cell? w _ hx296_2)).trans hx296_2
             replace p296 := eq_true p296
             replace q296 := eq_true q296
             go_wp2_with (first | ((with_reducible refine gate_dst (N := 4) rfl ?_); (try (refine gate_guard (by rfl) ?_; dsimp only)); refine box_event ?hg (N := 4) ?hd (cs := #[.string (⟨#[]⟩ : ByteArray), .string (⟨#[]⟩ : ByteArray), .int .i64 0]) (t := 88) ?hr ?_; (case hd => rfl); (case hg => rfl); (case hr => first | (go_simp; done) | (go_simp; rfl)); intro gb297 hg w20 hbox hb; have BK297 := mk_ (hbox); have GW297 : Aside0 (w.heap.size ≤ gb297) := bz_ hg; have GE297 : Aside0 (w.heap.size ≤ gb297) := bz_ hg; have NB295_297 : Aside0 (gb295 ≠ gb297) := bl_ BK295 hg; have NB297_295 : Aside0 (gb297 ≠ gb295) := bg_ BK295 hg; replace BK295 := bb_ BK295 hb; replace HB := bs_ HB hb; clear hb hbox hg; have hnb21 := NB297_295.out; have hnc21 := NB295_297.out; have hcz22_0 : w20.cell? ⟨gb297, 0, none⟩ = some (.string (⟨#[]⟩ : ByteArray)) := bc_ BK297 0; have hcz22_1 : w20.cell? ⟨gb297, 1, none⟩ = some (.string (⟨#[]⟩ : ByteArray)) := bc_ BK297 1; have hcz22_2 : w20.cell? ⟨gb297, 2, none⟩ = some (.int .i64 0) := bc_ BK297 2; have hfz22_0 := blk_frozen BK297.out 0; have hfz22_1 := blk_frozen BK297.out 1; have hfz22_2 := blk_frozen BK297.out 2) | (go_at_call 42; (with_reducible refine (impl_within.calls (((rd_T88 l0_0 x8_1).f0).size : Int) 1 8 true _ A7.out).mono ?_); rintro e w' ⟨rfl, ⟨nd, rfl⟩⟩; (try first | exact ⟨rfl, _, World.drewN_drewN _ _ _⟩ | exact ⟨rfl, _, Eq.trans (World.drewN_drewN _ _ _) (congrArg (World.drewN _) (Nat.add_assoc _ _ _))⟩)) | (go_at_call 42; (with_reducible refine (impl_within.calls ((rd_T88 l0_0 x8_1).f2) 0 (((rd_T88 l0_0 x8_1).f1).size : Int) true _ A13.out).mono ?_); rintro e w' ⟨rfl, ⟨nd, rfl⟩⟩; (try first | exact ⟨rfl, _, World.drewN_drewN _ _ _⟩ | exact ⟨rfl, _, Eq.trans (World.drewN_drewN _ _ _) (congrArg (World.drewN _) (Nat.add_assoc _ _ _))⟩); have hcz23_0 : w20.cell? ⟨gb295, 0, none⟩ = some (.slice (some ad296) l0_0.length c0_0) := bc_ BK295 0; have hfz23_0 := blk_frozen BK295.out 0; have p300 : 0 ≤ ((ji16) : Int) := of_decide_eq_true (by first | (with_reducible assumption) | assumption); have q300 : (ji16) < (l0_0.length : Int) := of_decide_eq_true (by first | (with_reducible assumption) | assumption); obtain ⟨ad300, e300, hx300_0, hx300_1, hx300_2⟩ := at_T88 HR0_0.out (ji16) p300 q300; obtain rfl : ad296 = ad300 := (by injection e300); have hn300_0 : ad296.block ≠ gb297 := Nat.ne_of_lt (Nat.lt_of_lt_of_le (by have := World.block_lt_of_cell? _ _ hx300_0; first | rwa [add_block] at this | exact this) GW297.out); have hn300_1 : ad296.block ≠ gb297 := Nat.ne_of_lt (Nat.lt_of_lt_of_le (by have := World.block_lt_of_cell? _ _ hx300_0; first | rwa [add_block] at this | exact this) GW297.out); have hn300_2 : ad296.block ≠ gb297 := Nat.ne_of_lt (Nat.lt_of_lt_of_le (by have := World.block_lt_of_cell? _ _ hx300_0; first | rwa [add_block] at this | exact this) GW297.out); replace hx300_0 := (HB.out.cell (World.block_lt_of_cell? w _ hx300_0)).trans hx300_0; replace hx300_1 := (HB.out.cell (World.block_lt_of_cell? w _ hx300_1)).trans hx300_1; replace hx300_2 := (HB.out.cell (World.block_lt_of_cell? w _ hx300_2)).trans hx300_2; replace hx300_0 := (cell_far (p := ⟨gb297, 0, none⟩) (by first | (rw [add_block]; exact hn300_0) | (show (Addr.add _ _).block ≠ _; rw [add_block]; exact hn300_0) | exact hn300_0) (.string ((rd_T88 l0_0 x8_1).f0))).trans hx300_0; replace hx300_1 := (cell_far (p := ⟨gb297, 0, none⟩) (by first | (rw [add_block]; exact hn300_0) | (show (Addr.add _ _).block ≠ _; rw [add_block]; exact hn300_0) | exact hn300_0) (.string ((rd_T88 l0_0 x8_1).f0))).trans hx300_1; replace hx300_2 := (cell_far (p := ⟨gb297, 0, none⟩) (by first | (rw [add_block]; exact hn300_0) | (show (Addr.add _ _).block ≠ _; rw [add_block]; exact hn300_0) | exact hn300_0) (.string ((rd_T88 l0_0 x8_1).f0))).trans hx300_2; replace hx300_0 := (cell_far (p := ⟨gb297, 1, none⟩) (by first | (rw [add_block]; exact hn300_1) | (show (Addr.add _ _).block ≠ _; rw [add_block]; exact hn300_1) | exact hn300_1) (.string ((rd_T88 l0_0 x8_1).f1))).trans hx300_0; replace hx300_1 := (cell_far (p := ⟨gb297, 1, none⟩) (by first | (rw [add_block]; exact hn300_1) | (show (Addr.add _ _).block ≠ _; rw [add_block]; exact hn300_1) | exact hn300_1) (.string ((rd_T88 l0_0 x8_1).f1))).trans hx300_1; replace hx300_2 := (cell_far (p := ⟨gb297, 1, none⟩) (by first | (rw [add_block]; exact hn300_1) | (show (Addr.add _ _).block ≠ _; rw [add_block]; exact hn300_1) | exact hn300_1) (.string ((rd_T88 l0_0 x8_1).f1))).trans hx300_2; replace hx300_0 := (cell_far (p := ⟨gb297, 2, none⟩) (by first | (rw [add_block]; exact hn300_2) | (show (Addr.add _ _).block ≠ _; rw [add_block]; exact hn300_2) | exact hn300_2) (.int .i64 ((rd_T88 l0_0 x8_1).f2))).trans hx300_0; replace hx300_1 := (cell_far (p := ⟨gb297, 2, none⟩) (by first | (rw [add_block]; exact hn300_2) | (show (Addr.add _ _).block ≠ _; rw [add_block]; exact hn300_2) | exact hn300_2) (.int .i64 ((rd_T88 l0_0 x8_1).f2))).trans hx300_1; replace hx300_2 := (cell_far (p := ⟨gb297, 2, none⟩) (by first | (rw [add_block]; exact hn300_2) | (show (Addr.add _ _).block ≠ _; rw [add_block]; exact hn300_2) | exact hn300_2) (.int .i64 ((rd_T88 l0_0 x8_1).f2))).trans hx300_2; (try have hy300_0 := fun (n_ : Nat) => (show (((((w20.drewN n_).setCell ⟨gb297, 0, none⟩ (.string ((rd_T88 l0_0 x8_1).f0))).setCell ⟨gb297, 1, none⟩ (.string ((rd_T88 l0_0 x8_1).f1))).setCell ⟨gb297, 2, none⟩ (.int .i64 ((rd_T88 l0_0 x8_1).f2)))).cell? _ = some _ from hx300_0)); (try have hy300_1 := fun (n_ : Nat) => (show (((((w20.drewN n_).setCell ⟨gb297, 0, none⟩ (.string ((rd_T88 l0_0 x8_1).f0))).setCell ⟨gb297, 1, none⟩ (.string ((rd_T88 l0_0 x8_1).f1))).setCell ⟨gb297, 2, none⟩ (.int .i64 ((rd_T88 l0_0 x8_1).f2)))).cell? _ = some _ from hx300_1)); (try have hy300_2 := fun (n_ : Nat) => (show (((((w20.drewN n_).setCell ⟨gb297, 0, none⟩ (.string ((rd_T88 l0_0 x8_1).f0))).setCell ⟨gb297, 1, none⟩ (.string ((rd_T88 l0_0 x8_1).f1))).setCell ⟨gb297, 2, none⟩ (.int .i64 ((rd_T88 l0_0 x8_1).f2)))).cell? _ = some _ from hx300_2)); clear hn300_0; clear hn300_1; clear hn300_2; replace p300 := eq_true p300; replace q300 := eq_true q300))
             repeat (go_quiet (first | ((with_reducible refine gate_dst (N := 4) rfl ?_); (try (refine gate_guard (by rfl) ?_; dsimp only)); refine box_event ?hg (N := 4) ?hd (cs := #[.string (⟨#[]⟩ : ByteArray), .string (⟨#[]⟩ : ByteArray), .int .i64 0]) (t := 88) ?hr ?_; (case hd => rfl); (case hg => rfl); (case hr => first | (go_simp; done) | (go_simp; rfl)); intro gb297 hg w20 hbox hb; have BK297 := mk_ (hbox); have GW297 : Aside0 (w.heap.size ≤ gb297) := bz_ hg; have GE297 : Aside0 (w.heap.size ≤ gb297) := bz_ hg; have NB295_297 : Aside0 (gb295 ≠ gb297) := bl_ BK295 hg; have NB297_295 : Aside0 (gb297 ≠ gb295) := bg_ BK295 hg; replace BK295 := bb_ BK295 hb; replace HB := bs_ HB hb; clear hb hbox hg; have hnb21 := NB297_295.out; have hnc21 := NB295_297.out; have hcz22_0 : w20.cell? ⟨gb297, 0, none⟩ = some (.string (⟨#[]⟩ : ByteArray)) := bc_ BK297 0; have hcz22_1 : w20.cell? ⟨gb297, 1, none⟩ = some (.string (⟨#[]⟩ : ByteArray)) := bc_ BK297 1; have hcz22_2 : w20.cell? ⟨gb297, 2, none⟩ = some (.int .i64 0) := bc_ BK297 2; have hfz22_0 := blk_frozen BK297.out 0; have hfz22_1 := blk_frozen BK297.out 1; have hfz22_2 := blk_frozen BK297.out 2) | (go_at_call 42; (with_reducible refine (impl_within.calls (((rd_T88 l0_0 x8_1).f0).size : Int) 1 8 true _ A7.out).mono ?_); rintro e w' ⟨rfl, ⟨nd, rfl⟩⟩; (try first | exact ⟨rfl, _, World.drewN_drewN _ _ _⟩ | exact ⟨rfl, _, Eq.trans (World.drewN_drewN _ _ _) (congrArg (World.drewN _) (Nat.add_assoc _ _ _))⟩)) | (go_at_call 42; (with_reducible refine (impl_within.calls ((rd_T88 l0_0 x8_1).f2) 0 (((rd_T88 l0_0 x8_1).f1).size : Int) true _ A13.out).mono ?_); rintro e w' ⟨rfl, ⟨nd, rfl⟩⟩; (try first | exact ⟨rfl, _, World.drewN_drewN _ _ _⟩ | exact ⟨rfl, _, Eq.trans (World.drewN_drewN _ _ _) (congrArg (World.drewN _) (Nat.add_assoc _ _ _))⟩); have hcz23_0 : w20.cell? ⟨gb295, 0, none⟩ = some (.slice (some ad296) l0_0.length c0_0) := bc_ BK295 0; have hfz23_0 := blk_frozen BK295.out 0; have p300 : 0 ≤ ((ji16) : Int) := of_decide_eq_true (by first | (with_reducible assumption) | assumption); have q300 : (ji16) < (l0_0.length : Int) := of_decide_eq_true (by first | (with_reducible assumption) | assumption); obtain ⟨ad300, e300, hx300_0, hx300_1, hx300_2⟩ := at_T88 HR0_0.out (ji16) p300 q300; obtain rfl : ad296 = ad300 := (by injection e300); have hn300_0 : ad296.block ≠ gb297 := Nat.ne_of_lt (Nat.lt_of_lt_of_le (by have := World.block_lt_of_cell? _ _ hx300_0; first | rwa [add_block] at this | exact this) GW297.out); have hn300_1 : ad296.block ≠ gb297 := Nat.ne_of_lt (Nat.lt_of_lt_of_le (by have := World.block_lt_of_cell? _ _ hx300_0; first | rwa [add_block] at this | exact this) GW297.out); have hn300_2 : ad296.block ≠ gb297 := Nat.ne_of_lt (Nat.lt_of_lt_of_le (by have := World.block_lt_of_cell? _ _ hx300_0; first | rwa [add_block] at this | exact this) GW297.out); replace hx300_0 := (HB.out.cell (World.block_lt_of_cell? w _ hx300_0)).trans hx300_0; replace hx300_1 := (HB.out.cell (World.block_lt_of_cell? w _ hx300_1)).trans hx300_1; replace hx300_2 := (HB.out.cell (World.block_lt_of_cell? w _ hx300_2)).trans hx300_2; replace hx300_0 := (cell_far (p := ⟨gb297, 0, none⟩) (by first | (rw [add_block]; exact hn300_0) | (show (Addr.add _ _).block ≠ _; rw [add_block]; exact hn300_0) | exact hn300_0) (.string ((rd_T88 l0_0 x8_1).f0))).trans hx300_0; replace hx300_1 := (cell_far (p := ⟨gb297, 0, none⟩) (by first | (rw [add_block]; exact hn300_0) | (show (Addr.add _ _).block ≠ _; rw [add_block]; exact hn300_0) | exact hn300_0) (.string ((rd_T88 l0_0 x8_1).f0))).trans hx300_1; replace hx300_2 := (cell_far (p := ⟨gb297, 0, none⟩) (by first | (rw [add_block]; exact hn300_0) | (show (Addr.add _ _).block ≠ _; rw [add_block]; exact hn300_0) | exact hn300_0) (.string ((rd_T88 l0_0 x8_1).f0))).trans hx300_2; replace hx300_0 := (cell_far (p := ⟨gb297, 1, none⟩) (by first | (rw [add_block]; exact hn300_1) | (show (Addr.add _ _).block ≠ _; rw [add_block]; exact hn300_1) | exact hn300_1) (.string ((rd_T88 l0_0 x8_1).f1))).trans hx300_0; replace hx300_1 := (cell_far (p := ⟨gb297, 1, none⟩) (by first | (rw [add_block]; exact hn300_1) | (show (Addr.add _ _).block ≠ _; rw [add_block]; exact hn300_1) | exact hn300_1) (.string ((rd_T88 l0_0 x8_1).f1))).trans hx300_1; replace hx300_2 := (cell_far (p := ⟨gb297, 1, none⟩) (by first | (rw [add_block]; exact hn300_1) | (show (Addr.add _ _).block ≠ _; rw [add_block]; exact hn300_1) | exact hn300_1) (.string ((rd_T88 l0_0 x8_1).f1))).trans hx300_2; replace hx300_0 := (cell_far (p := ⟨gb297, 2, none⟩) (by first | (rw [add_block]; exact hn300_2) | (show (Addr.add _ _).block ≠ _; rw [add_block]; exact hn300_2) | exact hn300_2) (.int .i64 ((rd_T88 l0_0 x8_1).f2))).trans hx300_0; replace hx300_1 := (cell_far (p := ⟨gb297, 2, none⟩) (by first | (rw [add_block]; exact hn300_2) | (show (Addr.add _ _).block ≠ _; rw [add_block]; exact hn300_2) | exact hn300_2) (.int .i64 ((rd_T88 l0_0 x8_1).f2))).trans hx300_1; replace hx300_2 := (cell_far (p := ⟨gb297, 2, none⟩) (by first | (rw [add_block]; exact hn300_2) | (show (Addr.add _ _).block ≠ _; rw [add_block]; exact hn300_2) | exact hn300_2) (.int .i64 ((rd_T88 l0_0 x8_1).f2))).trans hx300_2; (try have hy300_0 := fun (n_ : Nat) => (show (((((w20.drewN n_).setCell ⟨gb297, 0, none⟩ (.string ((rd_T88 l0_0 x8_1).f0))).setCell ⟨gb297, 1, none⟩ (.string ((rd_T88 l0_0 x8_1).f1))).setCell ⟨gb297, 2, none⟩ (.int .i64 ((rd_T88 l0_0 x8_1).f2)))).cell? _ = some _ from hx300_0)); (try have hy300_1 := fun (n_ : Nat) => (show (((((w20.drewN n_).setCell ⟨gb297, 0, none⟩ (.string ((rd_T88 l0_0 x8_1).f0))).setCell ⟨gb297, 1, none⟩ (.string ((rd_T88 l0_0 x8_1).f1))).setCell ⟨gb297, 2, none⟩ (.int .i64 ((rd_T88 l0_0 x8_1).f2)))).cell? _ = some _ from hx300_1)); (try have hy300_2 := fun (n_ : Nat) => (show (((((w20.drewN n_).setCell ⟨gb297, 0, none⟩ (.string ((rd_T88 l0_0 x8_1).f0))).setCell ⟨gb297, 1, none⟩ (.string ((rd_T88 l0_0 x8_1).f1))).setCell ⟨gb297, 2, none⟩ (.int .i64 ((rd_T88 l0_0 x8_1).f2)))).cell? _ = some _ from hx300_2)); clear hn300_0; clear hn300_1; clear hn300_2; replace p300 := eq_true p300; replace q300 := eq_true q300)); try go_wp2_with (first | ((with_reducible refine gate_dst (N := 4) rfl ?_); (try (refine gate_guard (by rfl) ?_; dsimp only)); refine box_event ?hg (N := 4) ?hd (cs := #[.string (⟨#[]⟩ : ByteArray), .string (⟨#[]⟩ : ByteArray), .int .i64 0]) (t := 88) ?hr ?_; (case hd => rfl); (case hg => rfl); (case hr => first | (go_simp; done) | (go_simp; rfl)); intro gb297 hg w20 hbox hb; have BK297 := mk_ (hbox); have GW297 : Aside0 (w.heap.size ≤ gb297) := bz_ hg; have GE297 : Aside0 (w.heap.size ≤ gb297) := bz_ hg; have NB295_297 : Aside0 (gb295 ≠ gb297) := bl_ BK295 hg; have NB297_295 : Aside0 (gb297 ≠ gb295) := bg_ BK295 hg; replace BK295 := bb_ BK295 hb; replace HB := bs_ HB hb; clear hb hbox hg; have hnb21 := NB297_295.out; have hnc21 := NB295_297.out; have hcz22_0 : w20.cell? ⟨gb297, 0, none⟩ = some (.string (⟨#[]⟩ : ByteArray)) := bc_ BK297 0; have hcz22_1 : w20.cell? ⟨gb297, 1, none⟩ = some (.string (⟨#[]⟩ : ByteArray)) := bc_ BK297 1; have hcz22_2 : w20.cell? ⟨gb297, 2, none⟩ = some (.int .i64 0) := bc_ BK297 2; have hfz22_0 := blk_frozen BK297.out 0; have hfz22_1 := blk_frozen BK297.out 1; have hfz22_2 := blk_frozen BK297.out 2) | (go_at_call 42; (with_reducible refine (impl_within.calls (((rd_T88 l0_0 x8_1).f0).size : Int) 1 8 true _ A7.out).mono ?_); rintro e w' ⟨rfl, ⟨nd, rfl⟩⟩; (try first | exact ⟨rfl, _, World.drewN_drewN _ _ _⟩ | exact ⟨rfl, _, Eq.trans (World.drewN_drewN _ _ _) (congrArg (World.drewN _) (Nat.add_assoc _ _ _))⟩)) | (go_at_call 42; (with_reducible refine (impl_within.calls ((rd_T88 l0_0 x8_1).f2) 0 (((rd_T88 l0_0 x8_1).f1).size : Int) true _ A13.out).mono ?_); rintro e w' ⟨rfl, ⟨nd, rfl⟩⟩; (try first | exact ⟨rfl, _, World.drewN_drewN _ _ _⟩ | exact ⟨rfl, _, Eq.trans (World.drewN_drewN _ _ _) (congrArg (World.drewN _) (Nat.add_assoc _ _ _))⟩); have hcz23_0 : w20.cell? ⟨gb295, 0, none⟩ = some (.slice (some ad296) l0_0.length c0_0) := bc_ BK295 0; have hfz23_0 := blk_frozen BK295.out 0; have p300 : 0 ≤ ((ji16) : Int) := of_decide_eq_true (by first | (with_reducible assumption) | assumption); have q300 : (ji16) < (l0_0.length : Int) := of_decide_eq_true (by first | (with_reducible assumption) | assumption); obtain ⟨ad300, e300, hx300_0, hx300_1, hx300_2⟩ := at_T88 HR0_0.out (ji16) p300 q300; obtain rfl : ad296 = ad300 := (by injection e300); have hn300_0 : ad296.block ≠ gb297 := Nat.ne_of_lt (Nat.lt_of_lt_of_le (by have := World.block_lt_of_cell? _ _ hx300_0; first | rwa [add_block] at this | exact this) GW297.out); have hn300_1 : ad296.block ≠ gb297 := Nat.ne_of_lt (Nat.lt_of_lt_of_le (by have := World.block_lt_of_cell? _ _ hx300_0; first | rwa [add_block] at this | exact this) GW297.out); have hn300_2 : ad296.block ≠ gb297 := Nat.ne_of_lt (Nat.lt_of_lt_of_le (by have := World.block_lt_of_cell? _ _ hx300_0; first | rwa [add_block] at this | exact this) GW297.out); replace hx300_0 := (HB.out.cell (World.block_lt_of_cell? w _ hx300_0)).trans hx300_0; replace hx300_1 := (HB.out.cell (World.block_lt_of_cell? w _ hx300_1)).trans hx300_1; replace hx300_2 := (HB.out.cell (World.block_lt_of_cell? w _ hx300_2)).trans hx300_2; replace hx300_0 := (cell_far (p := ⟨gb297, 0, none⟩) (by first | (rw [add_block]; exact hn300_0) | (show (Addr.add _ _).block ≠ _; rw [add_block]; exact hn300_0) | exact hn300_0) (.string ((rd_T88 l0_0 x8_1).f0))).trans hx300_0; replace hx300_1 := (cell_far (p := ⟨gb297, 0, none⟩) (by first | (rw [add_block]; exact hn300_0) | (show (Addr.add _ _).block ≠ _; rw [add_block]; exact hn300_0) | exact hn300_0) (.string ((rd_T88 l0_0 x8_1).f0))).trans hx300_1; replace hx300_2 := (cell_far (p := ⟨gb297, 0, none⟩) (by first | (rw [add_block]; exact hn300_0) | (show (Addr.add _ _).block ≠ _; rw [add_block]; exact hn300_0) | exact hn300_0) (.string ((rd_T88 l0_0 x8_1).f0))).trans hx300_2; replace hx300_0 := (cell_far (p := ⟨gb297, 1, none⟩) (by first | (rw [add_block]; exact hn300_1) | (show (Addr.add _ _).block ≠ _; rw [add_block]; exact hn300_1) | exact hn300_1) (.string ((rd_T88 l0_0 x8_1).f1))).trans hx300_0; replace hx300_1 := (cell_far (p := ⟨gb297, 1, none⟩) (by first | (rw [add_block]; exact hn300_1) | (show (Addr.add _ _).block ≠ _; rw [add_block]; exact hn300_1) | exact hn300_1) (.string ((rd_T88 l0_0 x8_1).f1))).trans hx300_1; replace hx300_2 := (cell_far (p := ⟨gb297, 1, none⟩) (by first | (rw [add_block]; exact hn300_1) | (show (Addr.add _ _).block ≠ _; rw [add_block]; exact hn300_1) | exact hn300_1) (.string ((rd_T88 l0_0 x8_1).f1))).trans hx300_2; replace hx300_0 := (cell_far (p := ⟨gb297, 2, none⟩) (by first | (rw [add_block]; exact hn300_2) | (show (Addr.add _ _).block ≠ _; rw [add_block]; exact hn300_2) | exact hn300_2) (.int .i64 ((rd_T88 l0_0 x8_1).f2))).trans hx300_0; replace hx300_1 := (cell_far (p := ⟨gb297, 2, none⟩) (by first | (rw [add_block]; exact hn300_2) | (show (Addr.add _ _).block ≠ _; rw [add_block]; exact hn300_2) | exact hn300_2) (.int .i64 ((rd_T88 l0_0 x8_1).f2))).trans hx300_1; replace hx300_2 := (cell_far (p := ⟨gb297, 2, none⟩) (by first | (rw [add_block]; exact hn300_2) | (show (Addr.add _ _).block ≠ _; rw [add_block]; exact hn300_2) | exact hn300_2) (.int .i64 ((rd_T88 l0_0 x8_1).f2))).trans hx300_2; (try have hy300_0 := fun (n_ : Nat) => (show (((((w20.drewN n_).setCell ⟨gb297, 0, none⟩ (.string ((rd_T88 l0_0 x8_1).f0))).setCell ⟨gb297, 1, none⟩ (.string ((rd_T88 l0_0 x8_1).f1))).setCell ⟨gb297, 2, none⟩ (.int .i64 ((rd_T88 l0_0 x8_1).f2)))).cell? _ = some _ from hx300_0)); (try have hy300_1 := fun (n_ : Nat) => (show (((((w20.drewN n_).setCell ⟨gb297, 0, none⟩ (.string ((rd_T88 l0_0 x8_1).f0))).setCell ⟨gb297, 1, none⟩ (.string ((rd_T88 l0_0 x8_1).f1))).setCell ⟨gb297, 2, none⟩ (.int .i64 ((rd_T88 l0_0 x8_1).f2)))).cell? _ = some _ from hx300_1)); (try have hy300_2 := fun (n_ : Nat) => (show (((((w20.drewN n_).setCell ⟨gb297, 0, none⟩ (.string ((rd_T88 l0_0 x8_1).f0))).setCell ⟨gb297, 1, none⟩ (.string ((rd_T88 l0_0 x8_1).f1))).setCell ⟨gb297, 2, none⟩ (.int .i64 ((rd_T88 l0_0 x8_1).f2)))).cell? _ = some _ from hx300_2)); clear hn300_0; clear hn300_1; clear hn300_2; replace p300 := eq_true p300; replace q300 := eq_true q300)))
             go_roundg k1
             case measure => have := HK1.out; omega
             case rel => exact ⟨(wrap64 (x8_1 + 1)), (by first | rfl | (simp; done) | (simp [*]; done)), H', ⟨by have := HK1.out; omega⟩, ⟨by (with_reducible repeat (first | refine blk_drewN ?_ _ | refine blk_drew ?_ | refine blk_alloc ?_ _)); refine blk_far ?_ NB295_297.out _; (with_reducible repeat (first | refine blk_drewN ?_ _ | refine blk_drew ?_ | refine blk_alloc ?_ _)); refine blk_far ?_ NB295_297.out _; (with_reducible repeat (first | refine blk_drewN ?_ _ | refine blk_drew ?_ | refine blk_alloc ?_ _)); refine blk_far ?_ NB295_297.out _; (with_reducible repeat (first | refine blk_drewN ?_ _ | refine blk_drew ?_ | refine blk_alloc ?_ _)); exact BK295.out⟩, ⟨by repeat (first | (with_reducible first | exact HB.out | apply below_alloc | apply pw_below_drewN | apply below_drew1 | refine below_set ?_ GE295.out | refine below_set ?_ GE297.out) | exact HB.out)⟩⟩
            ·rw [if_neg c19] at H
             have c19b0 : (Op.bytesLess (((rd_T88 l0_0 (ji16)).f0).toList) (((rd_T88 l0_0 x8_1).f0).toList)) = false := by simpa using c19
             have c19g0 : (Op.bytesLess (((rd_T88 l0_0 x8_1).f0).toList) (((rd_T88 l0_0 (ji16)).f0).toList) || (((rd_T88 l0_0 x8_1).f0).toList) == (((rd_T88 l0_0 (ji16)).f0).toList)) = true := Go.Proofs.YtgnmlgoadkhceaaDoor.Sem.less_or c19b0
             have c19g1 : (!Op.bytesLess (((rd_T88 l0_0 x8_1).f0).toList) (((rd_T88 l0_0 (ji16)).f0).toList) && !((((rd_T88 l0_0 x8_1).f0).toList) == (((rd_T88 l0_0 (ji16)).f0).toList))) = false := Go.Proofs.YtgnmlgoadkhceaaDoor.Sem.less_and c19b0
             clear c19
             obtain rfl := Option.some.inj H
             have p296 : 0 ≤ (x8_1 : Int) := of_decide_eq_true (by first | (with_reducible assumption) | assumption)
             have q296 : x8_1 < (l0_0.length : Int) := of_decide_eq_true (by first | (with_reducible assumption) | assumption)
             obtain ⟨ad296, e296, hx296_0, hx296_1, hx296_2⟩ := at_T88 HR0_0.out x8_1 p296 q296
             cases e296
             replace hx296_0 := (HB.out.cell (World.block_lt_of_cell? w _ hx296_0)).trans hx296_0
             replace hx296_1 := (HB.out.cell (World.block_lt_of_cell? w _ hx296_1)).trans hx296_1
             replace hx296_2 := (HB.out.cell (World.block_lt_of_cell? w _ hx296_2)).trans hx296_2
             replace p296 := eq_true p296
             replace q296 := eq_true q296
             go_wp2_with (first | ((with_reducible refine gate_dst (N := 4) rfl ?_); (try (refine gate_guard (by rfl) ?_; dsimp only)); refine box_event ?hg (N := 4) ?hd (cs := #[.string (⟨#[]⟩ : ByteArray), .string (⟨#[]⟩ : ByteArray), .int .i64 0]) (t := 88) ?hr ?_; (case hd => rfl); (case hg => rfl); (case hr => first | (go_simp; done) | (go_simp; rfl)); intro gb297 hg w24 hbox hb; have BK297 := mk_ (hbox); have GW297 : Aside0 (w.heap.size ≤ gb297) := bz_ hg; have GE297 : Aside0 (w.heap.size ≤ gb297) := bz_ hg; have NB295_297 : Aside0 (gb295 ≠ gb297) := bl_ BK295 hg; have NB297_295 : Aside0 (gb297 ≠ gb295) := bg_ BK295 hg; replace BK295 := bb_ BK295 hb; replace HB := bs_ HB hb; clear hb hbox hg; have hnb25 := NB297_295.out; have hnc25 := NB295_297.out; have hcz26_0 : w24.cell? ⟨gb297, 0, none⟩ = some (.string (⟨#[]⟩ : ByteArray)) := bc_ BK297 0; have hcz26_1 : w24.cell? ⟨gb297, 1, none⟩ = some (.string (⟨#[]⟩ : ByteArray)) := bc_ BK297 1; have hcz26_2 : w24.cell? ⟨gb297, 2, none⟩ = some (.int .i64 0) := bc_ BK297 2; have hfz26_0 := blk_frozen BK297.out 0; have hfz26_1 := blk_frozen BK297.out 1; have hfz26_2 := blk_frozen BK297.out 2) | (go_at_call 42; (with_reducible refine (impl_within.calls (((rd_T88 l0_0 x8_1).f0).size : Int) 1 8 true _ A7.out).mono ?_); rintro e w' ⟨rfl, ⟨nd, rfl⟩⟩; (try first | exact ⟨rfl, _, World.drewN_drewN _ _ _⟩ | exact ⟨rfl, _, Eq.trans (World.drewN_drewN _ _ _) (congrArg (World.drewN _) (Nat.add_assoc _ _ _))⟩)) | (go_at_call 42; (with_reducible refine (impl_within.calls ((rd_T88 l0_0 x8_1).f2) 0 (((rd_T88 l0_0 x8_1).f1).size : Int) true _ A13.out).mono ?_); rintro e w' ⟨rfl, ⟨nd, rfl⟩⟩; (try first | exact ⟨rfl, _, World.drewN_drewN _ _ _⟩ | exact ⟨rfl, _, Eq.trans (World.drewN_drewN _ _ _) (congrArg (World.drewN _) (Nat.add_assoc _ _ _))⟩); have hcz27_0 : w24.cell? ⟨gb295, 0, none⟩ = some (.slice (some ad296) l0_0.length c0_0) := bc_ BK295 0; have hfz27_0 := blk_frozen BK295.out 0; have p300 : 0 ≤ ((ji16) : Int) := of_decide_eq_true (by first | (with_reducible assumption) | assumption); have q300 : (ji16) < (l0_0.length : Int) := of_decide_eq_true (by first | (with_reducible assumption) | assumption); obtain ⟨ad300, e300, hx300_0, hx300_1, hx300_2⟩ := at_T88 HR0_0.out (ji16) p300 q300; obtain rfl : ad296 = ad300 := (by injection e300); have hn300_0 : ad296.block ≠ gb297 := Nat.ne_of_lt (Nat.lt_of_lt_of_le (by have := World.block_lt_of_cell? _ _ hx300_0; first | rwa [add_block] at this | exact this) GW297.out); have hn300_1 : ad296.block ≠ gb297 := Nat.ne_of_lt (Nat.lt_of_lt_of_le (by have := World.block_lt_of_cell? _ _ hx300_0; first | rwa [add_block] at this | exact this) GW297.out); have hn300_2 : ad296.block ≠ gb297 := Nat.ne_of_lt (Nat.lt_of_lt_of_le (by have := World.block_lt_of_cell? _ _ hx300_0; first | rwa [add_block] at this | exact this) GW297.out); replace hx300_0 := (HB.out.cell (World.block_lt_of_cell? w _ hx300_0)).trans hx300_0; replace hx300_1 := (HB.out.cell (World.block_lt_of_cell? w _ hx300_1)).trans hx300_1; replace hx300_2 := (HB.out.cell (World.block_lt_of_cell? w _ hx300_2)).trans hx300_2; replace hx300_0 := (cell_far (p := ⟨gb297, 0, none⟩) (by first | (rw [add_block]; exact hn300_0) | (show (Addr.add _ _).block ≠ _; rw [add_block]; exact hn300_0) | exact hn300_0) (.string ((rd_T88 l0_0 x8_1).f0))).trans hx300_0; replace hx300_1 := (cell_far (p := ⟨gb297, 0, none⟩) (by first | (rw [add_block]; exact hn300_0) | (show (Addr.add _ _).block ≠ _; rw [add_block]; exact hn300_0) | exact hn300_0) (.string ((rd_T88 l0_0 x8_1).f0))).trans hx300_1; replace hx300_2 := (cell_far (p := ⟨gb297, 0, none⟩) (by first | (rw [add_block]; exact hn300_0) | (show (Addr.add _ _).block ≠ _; rw [add_block]; exact hn300_0) | exact hn300_0) (.string ((rd_T88 l0_0 x8_1).f0))).trans hx300_2; replace hx300_0 := (cell_far (p := ⟨gb297, 1, none⟩) (by first | (rw [add_block]; exact hn300_1) | (show (Addr.add _ _).block ≠ _; rw [add_block]; exact hn300_1) | exact hn300_1) (.string ((rd_T88 l0_0 x8_1).f1))).trans hx300_0; replace hx300_1 := (cell_far (p := ⟨gb297, 1, none⟩) (by first | (rw [add_block]; exact hn300_1) | (show (Addr.add _ _).block ≠ _; rw [add_block]; exact hn300_1) | exact hn300_1) (.string ((rd_T88 l0_0 x8_1).f1))).trans hx300_1; replace hx300_2 := (cell_far (p := ⟨gb297, 1, none⟩) (by first | (rw [add_block]; exact hn300_1) | (show (Addr.add _ _).block ≠ _; rw [add_block]; exact hn300_1) | exact hn300_1) (.string ((rd_T88 l0_0 x8_1).f1))).trans hx300_2; replace hx300_0 := (cell_far (p := ⟨gb297, 2, none⟩) (by first | (rw [add_block]; exact hn300_2) | (show (Addr.add _ _).block ≠ _; rw [add_block]; exact hn300_2) | exact hn300_2) (.int .i64 ((rd_T88 l0_0 x8_1).f2))).trans hx300_0; replace hx300_1 := (cell_far (p := ⟨gb297, 2, none⟩) (by first | (rw [add_block]; exact hn300_2) | (show (Addr.add _ _).block ≠ _; rw [add_block]; exact hn300_2) | exact hn300_2) (.int .i64 ((rd_T88 l0_0 x8_1).f2))).trans hx300_1; replace hx300_2 := (cell_far (p := ⟨gb297, 2, none⟩) (by first | (rw [add_block]; exact hn300_2) | (show (Addr.add _ _).block ≠ _; rw [add_block]; exact hn300_2) | exact hn300_2) (.int .i64 ((rd_T88 l0_0 x8_1).f2))).trans hx300_2; (try have hy300_0 := fun (n_ : Nat) => (show (((((w24.drewN n_).setCell ⟨gb297, 0, none⟩ (.string ((rd_T88 l0_0 x8_1).f0))).setCell ⟨gb297, 1, none⟩ (.string ((rd_T88 l0_0 x8_1).f1))).setCell ⟨gb297, 2, none⟩ (.int .i64 ((rd_T88 l0_0 x8_1).f2)))).cell? _ = some _ from hx300_0)); (try have hy300_1 := fun (n_ : Nat) => (show (((((w24.drewN n_).setCell ⟨gb297, 0, none⟩ (.string ((rd_T88 l0_0 x8_1).f0))).setCell ⟨gb297, 1, none⟩ (.string ((rd_T88 l0_0 x8_1).f1))).setCell ⟨gb297, 2, none⟩ (.int .i64 ((rd_T88 l0_0 x8_1).f2)))).cell? _ = some _ from hx300_1)); (try have hy300_2 := fun (n_ : Nat) => (show (((((w24.drewN n_).setCell ⟨gb297, 0, none⟩ (.string ((rd_T88 l0_0 x8_1).f0))).setCell ⟨gb297, 1, none⟩ (.string ((rd_T88 l0_0 x8_1).f1))).setCell ⟨gb297, 2, none⟩ (.int .i64 ((rd_T88 l0_0 x8_1).f2)))).cell? _ = some _ from hx300_2)); clear hn300_0; clear hn300_1; clear hn300_2; replace p300 := eq_true p300; replace q300 := eq_true q300))
             repeat (go_quiet (first | ((with_reducible refine gate_dst (N := 4) rfl ?_); (try (refine gate_guard (by rfl) ?_; dsimp only)); refine box_event ?hg (N := 4) ?hd (cs := #[.string (⟨#[]⟩ : ByteArray), .string (⟨#[]⟩ : ByteArray), .int .i64 0]) (t := 88) ?hr ?_; (case hd => rfl); (case hg => rfl); (case hr => first | (go_simp; done) | (go_simp; rfl)); intro gb297 hg w24 hbox hb; have BK297 := mk_ (hbox); have GW297 : Aside0 (w.heap.size ≤ gb297) := bz_ hg; have GE297 : Aside0 (w.heap.size ≤ gb297) := bz_ hg; have NB295_297 : Aside0 (gb295 ≠ gb297) := bl_ BK295 hg; have NB297_295 : Aside0 (gb297 ≠ gb295) := bg_ BK295 hg; replace BK295 := bb_ BK295 hb; replace HB := bs_ HB hb; clear hb hbox hg; have hnb25 := NB297_295.out; have hnc25 := NB295_297.out; have hcz26_0 : w24.cell? ⟨gb297, 0, none⟩ = some (.string (⟨#[]⟩ : ByteArray)) := bc_ BK297 0; have hcz26_1 : w24.cell? ⟨gb297, 1, none⟩ = some (.string (⟨#[]⟩ : ByteArray)) := bc_ BK297 1; have hcz26_2 : w24.cell? ⟨gb297, 2, none⟩ = some (.int .i64 0) := bc_ BK297 2; have hfz26_0 := blk_frozen BK297.out 0; have hfz26_1 := blk_frozen BK297.out 1; have hfz26_2 := blk_frozen BK297.out 2) | (go_at_call 42; (with_reducible refine (impl_within.calls (((rd_T88 l0_0 x8_1).f0).size : Int) 1 8 true _ A7.out).mono ?_); rintro e w' ⟨rfl, ⟨nd, rfl⟩⟩; (try first | exact ⟨rfl, _, World.drewN_drewN _ _ _⟩ | exact ⟨rfl, _, Eq.trans (World.drewN_drewN _ _ _) (congrArg (World.drewN _) (Nat.add_assoc _ _ _))⟩)) | (go_at_call 42; (with_reducible refine (impl_within.calls ((rd_T88 l0_0 x8_1).f2) 0 (((rd_T88 l0_0 x8_1).f1).size : Int) true _ A13.out).mono ?_); rintro e w' ⟨rfl, ⟨nd, rfl⟩⟩; (try first | exact ⟨rfl, _, World.drewN_drewN _ _ _⟩ | exact ⟨rfl, _, Eq.trans (World.drewN_drewN _ _ _) (congrArg (World.drewN _) (Nat.add_assoc _ _ _))⟩); have hcz27_0 : w24.cell? ⟨gb295, 0, none⟩ = some (.slice (some ad296) l0_0.length c0_0) := bc_ BK295 0; have hfz27_0 := blk_frozen BK295.out 0; have p300 : 0 ≤ ((ji16) : Int) := of_decide_eq_true (by first | (with_reducible assumption) | assumption); have q300 : (ji16) < (l0_0.length : Int) := of_decide_eq_true (by first | (with_reducible assumption) | assumption); obtain ⟨ad300, e300, hx300_0, hx300_1, hx300_2⟩ := at_T88 HR0_0.out (ji16) p300 q300; obtain rfl : ad296 = ad300 := (by injection e300); have hn300_0 : ad296.block ≠ gb297 := Nat.ne_of_lt (Nat.lt_of_lt_of_le (by have := World.block_lt_of_cell? _ _ hx300_0; first | rwa [add_block] at this | exact this) GW297.out); have hn300_1 : ad296.block ≠ gb297 := Nat.ne_of_lt (Nat.lt_of_lt_of_le (by have := World.block_lt_of_cell? _ _ hx300_0; first | rwa [add_block] at this | exact this) GW297.out); have hn300_2 : ad296.block ≠ gb297 := Nat.ne_of_lt (Nat.lt_of_lt_of_le (by have := World.block_lt_of_cell? _ _ hx300_0; first | rwa [add_block] at this | exact this) GW297.out); replace hx300_0 := (HB.out.cell (World.block_lt_of_cell? w _ hx300_0)).trans hx300_0; replace hx300_1 := (HB.out.cell (World.block_lt_of_cell? w _ hx300_1)).trans hx300_1; replace hx300_2 := (HB.out.cell (World.block_lt_of_cell? w _ hx300_2)).trans hx300_2; replace hx300_0 := (cell_far (p := ⟨gb297, 0, none⟩) (by first | (rw [add_block]; exact hn300_0) | (show (Addr.add _ _).block ≠ _; rw [add_block]; exact hn300_0) | exact hn300_0) (.string ((rd_T88 l0_0 x8_1).f0))).trans hx300_0; replace hx300_1 := (cell_far (p := ⟨gb297, 0, none⟩) (by first | (rw [add_block]; exact hn300_0) | (show (Addr.add _ _).block ≠ _; rw [add_block]; exact hn300_0) | exact hn300_0) (.string ((rd_T88 l0_0 x8_1).f0))).trans hx300_1; replace hx300_2 := (cell_far (p := ⟨gb297, 0, none⟩) (by first | (rw [add_block]; exact hn300_0) | (show (Addr.add _ _).block ≠ _; rw [add_block]; exact hn300_0) | exact hn300_0) (.string ((rd_T88 l0_0 x8_1).f0))).trans hx300_2; replace hx300_0 := (cell_far (p := ⟨gb297, 1, none⟩) (by first | (rw [add_block]; exact hn300_1) | (show (Addr.add _ _).block ≠ _; rw [add_block]; exact hn300_1) | exact hn300_1) (.string ((rd_T88 l0_0 x8_1).f1))).trans hx300_0; replace hx300_1 := (cell_far (p := ⟨gb297, 1, none⟩) (by first | (rw [add_block]; exact hn300_1) | (show (Addr.add _ _).block ≠ _; rw [add_block]; exact hn300_1) | exact hn300_1) (.string ((rd_T88 l0_0 x8_1).f1))).trans hx300_1; replace hx300_2 := (cell_far (p := ⟨gb297, 1, none⟩) (by first | (rw [add_block]; exact hn300_1) | (show (Addr.add _ _).block ≠ _; rw [add_block]; exact hn300_1) | exact hn300_1) (.string ((rd_T88 l0_0 x8_1).f1))).trans hx300_2; replace hx300_0 := (cell_far (p := ⟨gb297, 2, none⟩) (by first | (rw [add_block]; exact hn300_2) | (show (Addr.add _ _).block ≠ _; rw [add_block]; exact hn300_2) | exact hn300_2) (.int .i64 ((rd_T88 l0_0 x8_1).f2))).trans hx300_0; replace hx300_1 := (cell_far (p := ⟨gb297, 2, none⟩) (by first | (rw [add_block]; exact hn300_2) | (show (Addr.add _ _).block ≠ _; rw [add_block]; exact hn300_2) | exact hn300_2) (.int .i64 ((rd_T88 l0_0 x8_1).f2))).trans hx300_1; replace hx300_2 := (cell_far (p := ⟨gb297, 2, none⟩) (by first | (rw [add_block]; exact hn300_2) | (show (Addr.add _ _).block ≠ _; rw [add_block]; exact hn300_2) | exact hn300_2) (.int .i64 ((rd_T88 l0_0 x8_1).f2))).trans hx300_2; (try have hy300_0 := fun (n_ : Nat) => (show (((((w24.drewN n_).setCell ⟨gb297, 0, none⟩ (.string ((rd_T88 l0_0 x8_1).f0))).setCell ⟨gb297, 1, none⟩ (.string ((rd_T88 l0_0 x8_1).f1))).setCell ⟨gb297, 2, none⟩ (.int .i64 ((rd_T88 l0_0 x8_1).f2)))).cell? _ = some _ from hx300_0)); (try have hy300_1 := fun (n_ : Nat) => (show (((((w24.drewN n_).setCell ⟨gb297, 0, none⟩ (.string ((rd_T88 l0_0 x8_1).f0))).setCell ⟨gb297, 1, none⟩ (.string ((rd_T88 l0_0 x8_1).f1))).setCell ⟨gb297, 2, none⟩ (.int .i64 ((rd_T88 l0_0 x8_1).f2)))).cell? _ = some _ from hx300_1)); (try have hy300_2 := fun (n_ : Nat) => (show (((((w24.drewN n_).setCell ⟨gb297, 0, none⟩ (.string ((rd_T88 l0_0 x8_1).f0))).setCell ⟨gb297, 1, none⟩ (.string ((rd_T88 l0_0 x8_1).f1))).setCell ⟨gb297, 2, none⟩ (.int .i64 ((rd_T88 l0_0 x8_1).f2)))).cell? _ = some _ from hx300_2)); clear hn300_0; clear hn300_1; clear hn300_2; replace p300 := eq_true p300; replace q300 := eq_true q300)); try go_wp2_with (first | ((with_reducible refine gate_dst (N := 4) rfl ?_); (try (refine gate_guard (by rfl) ?_; dsimp only)); refine box_event ?hg (N := 4) ?hd (cs := #[.string (⟨#[]⟩ : ByteArray), .string (⟨#[]⟩ : ByteArray), .int .i64 0]) (t := 88) ?hr ?_; (case hd => rfl); (case hg => rfl); (case hr => first | (go_simp; done) | (go_simp; rfl)); intro gb297 hg w24 hbox hb; have BK297 := mk_ (hbox); have GW297 : Aside0 (w.heap.size ≤ gb297) := bz_ hg; have GE297 : Aside0 (w.heap.size ≤ gb297) := bz_ hg; have NB295_297 : Aside0 (gb295 ≠ gb297) := bl_ BK295 hg; have NB297_295 : Aside0 (gb297 ≠ gb295) := bg_ BK295 hg; replace BK295 := bb_ BK295 hb; replace HB := bs_ HB hb; clear hb hbox hg; have hnb25 := NB297_295.out; have hnc25 := NB295_297.out; have hcz26_0 : w24.cell? ⟨gb297, 0, none⟩ = some (.string (⟨#[]⟩ : ByteArray)) := bc_ BK297 0; have hcz26_1 : w24.cell? ⟨gb297, 1, none⟩ = some (.string (⟨#[]⟩ : ByteArray)) := bc_ BK297 1; have hcz26_2 : w24.cell? ⟨gb297, 2, none⟩ = some (.int .i64 0) := bc_ BK297 2; have hfz26_0 := blk_frozen BK297.out 0; have hfz26_1 := blk_frozen BK297.out 1; have hfz26_2 := blk_frozen BK297.out 2) | (go_at_call 42; (with_reducible refine (impl_within.calls (((rd_T88 l0_0 x8_1).f0).size : Int) 1 8 true _ A7.out).mono ?_); rintro e w' ⟨rfl, ⟨nd, rfl⟩⟩; (try first | exact ⟨rfl, _, World.drewN_drewN _ _ _⟩ | exact ⟨rfl, _, Eq.trans (World.drewN_drewN _ _ _) (congrArg (World.drewN _) (Nat.add_assoc _ _ _))⟩)) | (go_at_call 42; (with_reducible refine (impl_within.calls ((rd_T88 l0_0 x8_1).f2) 0 (((rd_T88 l0_0 x8_1).f1).size : Int) true _ A13.out).mono ?_); rintro e w' ⟨rfl, ⟨nd, rfl⟩⟩; (try first | exact ⟨rfl, _, World.drewN_drewN _ _ _⟩ | exact ⟨rfl, _, Eq.trans (World.drewN_drewN _ _ _) (congrArg (World.drewN _) (Nat.add_assoc _ _ _))⟩); have hcz27_0 : w24.cell? ⟨gb295, 0, none⟩ = some (.slice (some ad296) l0_0.length c0_0) := bc_ BK295 0; have hfz27_0 := blk_frozen BK295.out 0; have p300 : 0 ≤ ((ji16) : Int) := of_decide_eq_true (by first | (with_reducible assumption) | assumption); have q300 : (ji16) < (l0_0.length : Int) := of_decide_eq_true (by first | (with_reducible assumption) | assumption); obtain ⟨ad300, e300, hx300_0, hx300_1, hx300_2⟩ := at_T88 HR0_0.out (ji16) p300 q300; obtain rfl : ad296 = ad300 := (by injection e300); have hn300_0 : ad296.block ≠ gb297 := Nat.ne_of_lt (Nat.lt_of_lt_of_le (by have := World.block_lt_of_cell? _ _ hx300_0; first | rwa [add_block] at this | exact this) GW297.out); have hn300_1 : ad296.block ≠ gb297 := Nat.ne_of_lt (Nat.lt_of_lt_of_le (by have := World.block_lt_of_cell? _ _ hx300_0; first | rwa [add_block] at this | exact this) GW297.out); have hn300_2 : ad296.block ≠ gb297 := Nat.ne_of_lt (Nat.lt_of_lt_of_le (by have := World.block_lt_of_cell? _ _ hx300_0; first | rwa [add_block] at this | exact this) GW297.out); replace hx300_0 := (HB.out.cell (World.block_lt_of_cell? w _ hx300_0)).trans hx300_0; replace hx300_1 := (HB.out.cell (World.block_lt_of_cell? w _ hx300_1)).trans hx300_1; replace hx300_2 := (HB.out.cell (World.block_lt_of_cell? w _ hx300_2)).trans hx300_2; replace hx300_0 := (cell_far (p := ⟨gb297, 0, none⟩) (by first | (rw [add_block]; exact hn300_0) | (show (Addr.add _ _).block ≠ _; rw [add_block]; exact hn300_0) | exact hn300_0) (.string ((rd_T88 l0_0 x8_1).f0))).trans hx300_0; replace hx300_1 := (cell_far (p := ⟨gb297, 0, none⟩) (by first | (rw [add_block]; exact hn300_0) | (show (Addr.add _ _).block ≠ _; rw [add_block]; exact hn300_0) | exact hn300_0) (.string ((rd_T88 l0_0 x8_1).f0))).trans hx300_1; replace hx300_2 := (cell_far (p := ⟨gb297, 0, none⟩) (by first | (rw [add_block]; exact hn300_0) | (show (Addr.add _ _).block ≠ _; rw [add_block]; exact hn300_0) | exact hn300_0) (.string ((rd_T88 l0_0 x8_1).f0))).trans hx300_2; replace hx300_0 := (cell_far (p := ⟨gb297, 1, none⟩) (by first | (rw [add_block]; exact hn300_1) | (show (Addr.add _ _).block ≠ _; rw [add_block]; exact hn300_1) | exact hn300_1) (.string ((rd_T88 l0_0 x8_1).f1))).trans hx300_0; replace hx300_1 := (cell_far (p := ⟨gb297, 1, none⟩) (by first | (rw [add_block]; exact hn300_1) | (show (Addr.add _ _).block ≠ _; rw [add_block]; exact hn300_1) | exact hn300_1) (.string ((rd_T88 l0_0 x8_1).f1))).trans hx300_1; replace hx300_2 := (cell_far (p := ⟨gb297, 1, none⟩) (by first | (rw [add_block]; exact hn300_1) | (show (Addr.add _ _).block ≠ _; rw [add_block]; exact hn300_1) | exact hn300_1) (.string ((rd_T88 l0_0 x8_1).f1))).trans hx300_2; replace hx300_0 := (cell_far (p := ⟨gb297, 2, none⟩) (by first | (rw [add_block]; exact hn300_2) | (show (Addr.add _ _).block ≠ _; rw [add_block]; exact hn300_2) | exact hn300_2) (.int .i64 ((rd_T88 l0_0 x8_1).f2))).trans hx300_0; replace hx300_1 := (cell_far (p := ⟨gb297, 2, none⟩) (by first | (rw [add_block]; exact hn300_2) | (show (Addr.add _ _).block ≠ _; rw [add_block]; exact hn300_2) | exact hn300_2) (.int .i64 ((rd_T88 l0_0 x8_1).f2))).trans hx300_1; replace hx300_2 := (cell_far (p := ⟨gb297, 2, none⟩) (by first | (rw [add_block]; exact hn300_2) | (show (Addr.add _ _).block ≠ _; rw [add_block]; exact hn300_2) | exact hn300_2) (.int .i64 ((rd_T88 l0_0 x8_1).f2))).trans hx300_2; (try have hy300_0 := fun (n_ : Nat) => (show (((((w24.drewN n_).setCell ⟨gb297, 0, none⟩ (.string ((rd_T88 l0_0 x8_1).f0))).setCell ⟨gb297, 1, none⟩ (.string ((rd_T88 l0_0 x8_1).f1))).setCell ⟨gb297, 2, none⟩ (.int .i64 ((rd_T88 l0_0 x8_1).f2)))).cell? _ = some _ from hx300_0)); (try have hy300_1 := fun (n_ : Nat) => (show (((((w24.drewN n_).setCell ⟨gb297, 0, none⟩ (.string ((rd_T88 l0_0 x8_1).f0))).setCell ⟨gb297, 1, none⟩ (.string ((rd_T88 l0_0 x8_1).f1))).setCell ⟨gb297, 2, none⟩ (.int .i64 ((rd_T88 l0_0 x8_1).f2)))).cell? _ = some _ from hx300_1)); (try have hy300_2 := fun (n_ : Nat) => (show (((((w24.drewN n_).setCell ⟨gb297, 0, none⟩ (.string ((rd_T88 l0_0 x8_1).f0))).setCell ⟨gb297, 1, none⟩ (.string ((rd_T88 l0_0 x8_1).f1))).setCell ⟨gb297, 2, none⟩ (.int .i64 ((rd_T88 l0_0 x8_1).f2)))).cell? _ = some _ from hx300_2)); clear hn300_0; clear hn300_1; clear hn300_2; replace p300 := eq_true p300; replace q300 := eq_true q300)))
             go_ret
             exact ⟨by first | rfl | (simp [errW_none, errW_some] <;> rfl) | (simp only [← hji16]; first | rfl | (simp [errW_none, errW_some] <;> rfl)) | (simp [*, errW_none, errW_some] <;> rfl), by repeat (first | (with_reducible first | exact HB.out | apply below_alloc | apply pw_below_drewN | apply below_drew1 | refine below_set ?_ GE295.out | refine below_set ?_ GE297.out) | exact HB.out)⟩
           ·rw [if_neg c18] at H
            exact absurd H (by simp)
          ·rw [if_neg c17] at H
           exact absurd H (by simp)
         ·rw [if_neg c15] at H
          have c15b0 : decide (0 < x8_1) = false := decide_eq_false c15
          clear c15
          have H' := Aside0.mk H
          clear H
          have p296 : 0 ≤ (x8_1 : Int) := of_decide_eq_true (by first | (with_reducible assumption) | assumption)
          have q296 : x8_1 < (l0_0.length : Int) := of_decide_eq_true (by first | (with_reducible assumption) | assumption)
          obtain ⟨ad296, e296, hx296_0, hx296_1, hx296_2⟩ := at_T88 HR0_0.out x8_1 p296 q296
          cases e296
          replace hx296_0 := (HB.out.cell (World.block_lt_of_cell? w _ hx296_0)).trans hx296_0
          replace hx296_1 := (HB.out.cell (World.block_lt_of_cell? w _ hx296_1)).trans hx296_1
          replace hx296_2 := (HB.out.cell (World.block_lt_of_cell? w _ hx296_2)).trans hx296_2
          replace p296 := eq_true p296
          replace q296 := eq_true q296
          go_wp2_with (first | ((with_reducible refine gate_dst (N := 4) rfl ?_); (try (refine gate_guard (by rfl) ?_; dsimp only)); refine box_event ?hg (N := 4) ?hd (cs := #[.string (⟨#[]⟩ : ByteArray), .string (⟨#[]⟩ : ByteArray), .int .i64 0]) (t := 88) ?hr ?_; (case hd => rfl); (case hg => rfl); (case hr => first | (go_simp; done) | (go_simp; rfl)); intro gb297 hg w28 hbox hb; have BK297 := mk_ (hbox); have GW297 : Aside0 (w.heap.size ≤ gb297) := bz_ hg; have GE297 : Aside0 (w.heap.size ≤ gb297) := bz_ hg; have NB295_297 : Aside0 (gb295 ≠ gb297) := bl_ BK295 hg; have NB297_295 : Aside0 (gb297 ≠ gb295) := bg_ BK295 hg; replace BK295 := bb_ BK295 hb; replace HB := bs_ HB hb; clear hb hbox hg; have hnb29 := NB297_295.out; have hnc29 := NB295_297.out; have hcz30_0 : w28.cell? ⟨gb297, 0, none⟩ = some (.string (⟨#[]⟩ : ByteArray)) := bc_ BK297 0; have hcz30_1 : w28.cell? ⟨gb297, 1, none⟩ = some (.string (⟨#[]⟩ : ByteArray)) := bc_ BK297 1; have hcz30_2 : w28.cell? ⟨gb297, 2, none⟩ = some (.int .i64 0) := bc_ BK297 2; have hfz30_0 := blk_frozen BK297.out 0; have hfz30_1 := blk_frozen BK297.out 1; have hfz30_2 := blk_frozen BK297.out 2) | (go_at_call 42; (with_reducible refine (impl_within.calls (((rd_T88 l0_0 x8_1).f0).size : Int) 1 8 true _ A7.out).mono ?_); rintro e w' ⟨rfl, ⟨nd, rfl⟩⟩; (try first | exact ⟨rfl, _, World.drewN_drewN _ _ _⟩ | exact ⟨rfl, _, Eq.trans (World.drewN_drewN _ _ _) (congrArg (World.drewN _) (Nat.add_assoc _ _ _))⟩)) | (go_at_call 42; (with_reducible refine (impl_within.calls ((rd_T88 l0_0 x8_1).f2) 0 (((rd_T88 l0_0 x8_1).f1).size : Int) true _ A13.out).mono ?_); rintro e w' ⟨rfl, ⟨nd, rfl⟩⟩; (try first | exact ⟨rfl, _, World.drewN_drewN _ _ _⟩ | exact ⟨rfl, _, Eq.trans (World.drewN_drewN _ _ _) (congrArg (World.drewN _) (Nat.add_assoc _ _ _))⟩)))
          repeat (go_quiet (first | ((with_reducible refine gate_dst (N := 4) rfl ?_); (try (refine gate_guard (by rfl) ?_; dsimp only)); refine box_event ?hg (N := 4) ?hd (cs := #[.string (⟨#[]⟩ : ByteArray), .string (⟨#[]⟩ : ByteArray), .int .i64 0]) (t := 88) ?hr ?_; (case hd => rfl); (case hg => rfl); (case hr => first | (go_simp; done) | (go_simp; rfl)); intro gb297 hg w28 hbox hb; have BK297 := mk_ (hbox); have GW297 : Aside0 (w.heap.size ≤ gb297) := bz_ hg; have GE297 : Aside0 (w.heap.size ≤ gb297) := bz_ hg; have NB295_297 : Aside0 (gb295 ≠ gb297) := bl_ BK295 hg; have NB297_295 : Aside0 (gb297 ≠ gb295) := bg_ BK295 hg; replace BK295 := bb_ BK295 hb; replace HB := bs_ HB hb; clear hb hbox hg; have hnb29 := NB297_295.out; have hnc29 := NB295_297.out; have hcz30_0 : w28.cell? ⟨gb297, 0, none⟩ = some (.string (⟨#[]⟩ : ByteArray)) := bc_ BK297 0; have hcz30_1 : w28.cell? ⟨gb297, 1, none⟩ = some (.string (⟨#[]⟩ : ByteArray)) := bc_ BK297 1; have hcz30_2 : w28.cell? ⟨gb297, 2, none⟩ = some (.int .i64 0) := bc_ BK297 2; have hfz30_0 := blk_frozen BK297.out 0; have hfz30_1 := blk_frozen BK297.out 1; have hfz30_2 := blk_frozen BK297.out 2) | (go_at_call 42; (with_reducible refine (impl_within.calls (((rd_T88 l0_0 x8_1).f0).size : Int) 1 8 true _ A7.out).mono ?_); rintro e w' ⟨rfl, ⟨nd, rfl⟩⟩; (try first | exact ⟨rfl, _, World.drewN_drewN _ _ _⟩ | exact ⟨rfl, _, Eq.trans (World.drewN_drewN _ _ _) (congrArg (World.drewN _) (Nat.add_assoc _ _ _))⟩)) | (go_at_call 42; (with_reducible refine (impl_within.calls ((rd_T88 l0_0 x8_1).f2) 0 (((rd_T88 l0_0 x8_1).f1).size : Int) true _ A13.out).mono ?_); rintro e w' ⟨rfl, ⟨nd, rfl⟩⟩; (try first | exact ⟨rfl, _, World.drewN_drewN _ _ _⟩ | exact ⟨rfl, _, Eq.trans (World.drewN_drewN _ _ _) (congrArg (World.drewN _) (Nat.add_assoc _ _ _))⟩))); try go_wp2_with (first | ((with_reducible refine gate_dst (N := 4) rfl ?_); (try (refine gate_guard (by rfl) ?_; dsimp only)); refine box_event ?hg (N := 4) ?hd (cs := #[.string (⟨#[]⟩ : ByteArray), .string (⟨#[]⟩ : ByteArray), .int .i64 0]) (t := 88) ?hr ?_; (case hd => rfl); (case hg => rfl); (case hr => first | (go_simp; done) | (go_simp; rfl)); intro gb297 hg w28 hbox hb; have BK297 := mk_ (hbox); have GW297 : Aside0 (w.heap.size ≤ gb297) := bz_ hg; have GE297 : Aside0 (w.heap.size ≤ gb297) := bz_ hg; have NB295_297 : Aside0 (gb295 ≠ gb297) := bl_ BK295 hg; have NB297_295 : Aside0 (gb297 ≠ gb295) := bg_ BK295 hg; replace BK295 := bb_ BK295 hb; replace HB := bs_ HB hb; clear hb hbox hg; have hnb29 := NB297_295.out; have hnc29 := NB295_297.out; have hcz30_0 : w28.cell? ⟨gb297, 0, none⟩ = some (.string (⟨#[]⟩ : ByteArray)) := bc_ BK297 0; have hcz30_1 : w28.cell? ⟨gb297, 1, none⟩ = some (.string (⟨#[]⟩ : ByteArray)) := bc_ BK297 1; have hcz30_2 : w28.cell? ⟨gb297, 2, none⟩ = some (.int .i64 0) := bc_ BK297 2; have hfz30_0 := blk_frozen BK297.out 0; have hfz30_1 := blk_frozen BK297.out 1; have hfz30_2 := blk_frozen BK297.out 2) | (go_at_call 42; (with_reducible refine (impl_within.calls (((rd_T88 l0_0 x8_1).f0).size : Int) 1 8 true _ A7.out).mono ?_); rintro e w' ⟨rfl, ⟨nd, rfl⟩⟩; (try first | exact ⟨rfl, _, World.drewN_drewN _ _ _⟩ | exact ⟨rfl, _, Eq.trans (World.drewN_drewN _ _ _) (congrArg (World.drewN _) (Nat.add_assoc _ _ _))⟩)) | (go_at_call 42; (with_reducible refine (impl_within.calls ((rd_T88 l0_0 x8_1).f2) 0 (((rd_T88 l0_0 x8_1).f1).size : Int) true _ A13.out).mono ?_); rintro e w' ⟨rfl, ⟨nd, rfl⟩⟩; (try first | exact ⟨rfl, _, World.drewN_drewN _ _ _⟩ | exact ⟨rfl, _, Eq.trans (World.drewN_drewN _ _ _) (congrArg (World.drewN _) (Nat.add_assoc _ _ _))⟩))))
          go_roundg k1
          case measure => have := HK1.out; omega
          case rel => exact ⟨(wrap64 (x8_1 + 1)), (by first | rfl | (simp; done) | (simp [*]; done)), H', ⟨by have := HK1.out; omega⟩, ⟨by (with_reducible repeat (first | refine blk_drewN ?_ _ | refine blk_drew ?_ | refine blk_alloc ?_ _)); refine blk_far ?_ NB295_297.out _; (with_reducible repeat (first | refine blk_drewN ?_ _ | refine blk_drew ?_ | refine blk_alloc ?_ _)); refine blk_far ?_ NB295_297.out _; (with_reducible repeat (first | refine blk_drewN ?_ _ | refine blk_drew ?_ | refine blk_alloc ?_ _)); refine blk_far ?_ NB295_297.out _; (with_reducible repeat (first | refine blk_drewN ?_ _ | refine blk_drew ?_ | refine blk_alloc ?_ _)); exact BK295.out⟩, ⟨by repeat (first | (with_reducible first | exact HB.out | apply below_alloc | apply pw_below_drewN | apply below_drew1 | refine below_set ?_ GE295.out | refine below_set ?_ GE297.out) | exact HB.out)⟩⟩
        ·replace c14 := Bool.eq_false_iff.mpr c14
         subst c14
         have H1 : (some false) = some r := by rw [if_neg (show ¬ (false = true) by decide)] at H; exact H
         clear H
         have H := H1
         clear H1
         obtain rfl := Option.some.inj H
         have p296 : 0 ≤ (x8_1 : Int) := of_decide_eq_true (by first | (with_reducible assumption) | assumption)
         have q296 : x8_1 < (l0_0.length : Int) := of_decide_eq_true (by first | (with_reducible assumption) | assumption)
         obtain ⟨ad296, e296, hx296_0, hx296_1, hx296_2⟩ := at_T88 HR0_0.out x8_1 p296 q296
         cases e296
         replace hx296_0 := (HB.out.cell (World.block_lt_of_cell? w _ hx296_0)).trans hx296_0
         replace hx296_1 := (HB.out.cell (World.block_lt_of_cell? w _ hx296_1)).trans hx296_1
         replace hx296_2 := (HB.out.cell (World.block_lt_of_cell? w _ hx296_2)).trans hx296_2
         replace p296 := eq_true p296
         replace q296 := eq_true q296
         go_wp2_with (first | ((with_reducible refine gate_dst (N := 4) rfl ?_); (try (refine gate_guard (by rfl) ?_; dsimp only)); refine box_event ?hg (N := 4) ?hd (cs := #[.string (⟨#[]⟩ : ByteArray), .string (⟨#[]⟩ : ByteArray), .int .i64 0]) (t := 88) ?hr ?_; (case hd => rfl); (case hg => rfl); (case hr => first | (go_simp; done) | (go_simp; rfl)); intro gb297 hg w31 hbox hb; have BK297 := mk_ (hbox); have GW297 : Aside0 (w.heap.size ≤ gb297) := bz_ hg; have GE297 : Aside0 (w.heap.size ≤ gb297) := bz_ hg; have NB295_297 : Aside0 (gb295 ≠ gb297) := bl_ BK295 hg; have NB297_295 : Aside0 (gb297 ≠ gb295) := bg_ BK295 hg; replace BK295 := bb_ BK295 hb; replace HB := bs_ HB hb; clear hb hbox hg; have hnb32 := NB297_295.out; have hnc32 := NB295_297.out; have hcz33_0 : w31.cell? ⟨gb297, 0, none⟩ = some (.string (⟨#[]⟩ : ByteArray)) := bc_ BK297 0; have hcz33_1 : w31.cell? ⟨gb297, 1, none⟩ = some (.string (⟨#[]⟩ : ByteArray)) := bc_ BK297 1; have hcz33_2 : w31.cell? ⟨gb297, 2, none⟩ = some (.int .i64 0) := bc_ BK297 2; have hfz33_0 := blk_frozen BK297.out 0; have hfz33_1 := blk_frozen BK297.out 1; have hfz33_2 := blk_frozen BK297.out 2) | (go_at_call 42; (with_reducible refine (impl_within.calls (((rd_T88 l0_0 x8_1).f0).size : Int) 1 8 true _ A7.out).mono ?_); rintro e w' ⟨rfl, ⟨nd, rfl⟩⟩; (try first | exact ⟨rfl, _, World.drewN_drewN _ _ _⟩ | exact ⟨rfl, _, Eq.trans (World.drewN_drewN _ _ _) (congrArg (World.drewN _) (Nat.add_assoc _ _ _))⟩)) | (go_at_call 42; (with_reducible refine (impl_within.calls ((rd_T88 l0_0 x8_1).f2) 0 (((rd_T88 l0_0 x8_1).f1).size : Int) false _ A13.out).mono ?_); rintro e w' ⟨rfl, ⟨nd, rfl⟩⟩; (try first | exact ⟨rfl, _, World.drewN_drewN _ _ _⟩ | exact ⟨rfl, _, Eq.trans (World.drewN_drewN _ _ _) (congrArg (World.drewN _) (Nat.add_assoc _ _ _))⟩)))
         repeat (go_quiet (first | ((with_reducible refine gate_dst (N := 4) rfl ?_); (try (refine gate_guard (by rfl) ?_; dsimp only)); refine box_event ?hg (N := 4) ?hd (cs := #[.string (⟨#[]⟩ : ByteArray), .string (⟨#[]⟩ : ByteArray), .int .i64 0]) (t := 88) ?hr ?_; (case hd => rfl); (case hg => rfl); (case hr => first | (go_simp; done) | (go_simp; rfl)); intro gb297 hg w31 hbox hb; have BK297 := mk_ (hbox); have GW297 : Aside0 (w.heap.size ≤ gb297) := bz_ hg; have GE297 : Aside0 (w.heap.size ≤ gb297) := bz_ hg; have NB295_297 : Aside0 (gb295 ≠ gb297) := bl_ BK295 hg; have NB297_295 : Aside0 (gb297 ≠ gb295) := bg_ BK295 hg; replace BK295 := bb_ BK295 hb; replace HB := bs_ HB hb; clear hb hbox hg; have hnb32 := NB297_295.out; have hnc32 := NB295_297.out; have hcz33_0 : w31.cell? ⟨gb297, 0, none⟩ = some (.string (⟨#[]⟩ : ByteArray)) := bc_ BK297 0; have hcz33_1 : w31.cell? ⟨gb297, 1, none⟩ = some (.string (⟨#[]⟩ : ByteArray)) := bc_ BK297 1; have hcz33_2 : w31.cell? ⟨gb297, 2, none⟩ = some (.int .i64 0) := bc_ BK297 2; have hfz33_0 := blk_frozen BK297.out 0; have hfz33_1 := blk_frozen BK297.out 1; have hfz33_2 := blk_frozen BK297.out 2) | (go_at_call 42; (with_reducible refine (impl_within.calls (((rd_T88 l0_0 x8_1).f0).size : Int) 1 8 true _ A7.out).mono ?_); rintro e w' ⟨rfl, ⟨nd, rfl⟩⟩; (try first | exact ⟨rfl, _, World.drewN_drewN _ _ _⟩ | exact ⟨rfl, _, Eq.trans (World.drewN_drewN _ _ _) (congrArg (World.drewN _) (Nat.add_assoc _ _ _))⟩)) | (go_at_call 42; (with_reducible refine (impl_within.calls ((rd_T88 l0_0 x8_1).f2) 0 (((rd_T88 l0_0 x8_1).f1).size : Int) false _ A13.out).mono ?_); rintro e w' ⟨rfl, ⟨nd, rfl⟩⟩; (try first | exact ⟨rfl, _, World.drewN_drewN _ _ _⟩ | exact ⟨rfl, _, Eq.trans (World.drewN_drewN _ _ _) (congrArg (World.drewN _) (Nat.add_assoc _ _ _))⟩))); try go_wp2_with (first | ((with_reducible refine gate_dst (N := 4) rfl ?_); (try (refine gate_guard (by rfl) ?_; dsimp only)); refine box_event ?hg (N := 4) ?hd (cs := #[.string (⟨#[]⟩ : ByteArray), .string (⟨#[]⟩ : ByteArray), .int .i64 0]) (t := 88) ?hr ?_; (case hd => rfl); (case hg => rfl); (case hr => first | (go_simp; done) | (go_simp; rfl)); intro gb297 hg w31 hbox hb; have BK297 := mk_ (hbox); have GW297 : Aside0 (w.heap.size ≤ gb297) := bz_ hg; have GE297 : Aside0 (w.heap.size ≤ gb297) := bz_ hg; have NB295_297 : Aside0 (gb295 ≠ gb297) := bl_ BK295 hg; have NB297_295 : Aside0 (gb297 ≠ gb295) := bg_ BK295 hg; replace BK295 := bb_ BK295 hb; replace HB := bs_ HB hb; clear hb hbox hg; have hnb32 := NB297_295.out; have hnc32 := NB295_297.out; have hcz33_0 : w31.cell? ⟨gb297, 0, none⟩ = some (.string (⟨#[]⟩ : ByteArray)) := bc_ BK297 0; have hcz33_1 : w31.cell? ⟨gb297, 1, none⟩ = some (.string (⟨#[]⟩ : ByteArray)) := bc_ BK297 1; have hcz33_2 : w31.cell? ⟨gb297, 2, none⟩ = some (.int .i64 0) := bc_ BK297 2; have hfz33_0 := blk_frozen BK297.out 0; have hfz33_1 := blk_frozen BK297.out 1; have hfz33_2 := blk_frozen BK297.out 2) | (go_at_call 42; (with_reducible refine (impl_within.calls (((rd_T88 l0_0 x8_1).f0).size : Int) 1 8 true _ A7.out).mono ?_); rintro e w' ⟨rfl, ⟨nd, rfl⟩⟩; (try first | exact ⟨rfl, _, World.drewN_drewN _ _ _⟩ | exact ⟨rfl, _, Eq.trans (World.drewN_drewN _ _ _) (congrArg (World.drewN _) (Nat.add_assoc _ _ _))⟩)) | (go_at_call 42; (with_reducible refine (impl_within.calls ((rd_T88 l0_0 x8_1).f2) 0 (((rd_T88 l0_0 x8_1).f1).size : Int) false _ A13.out).mono ?_); rintro e w' ⟨rfl, ⟨nd, rfl⟩⟩; (try first | exact ⟨rfl, _, World.drewN_drewN _ _ _⟩ | exact ⟨rfl, _, Eq.trans (World.drewN_drewN _ _ _) (congrArg (World.drewN _) (Nat.add_assoc _ _ _))⟩))))
         go_ret
         exact ⟨by first | rfl | (simp [errW_none, errW_some] <;> rfl) | (simp [*, errW_none, errW_some] <;> rfl), by repeat (first | (with_reducible first | exact HB.out | apply below_alloc | apply pw_below_drewN | apply below_drew1 | refine below_set ?_ GE295.out | refine below_set ?_ GE297.out) | exact HB.out)⟩
      ·replace c8 := Bool.eq_false_iff.mpr c8
       subst c8
       have H1 : (some false) = some r := by rw [if_neg (show ¬ (false = true) by decide)] at H; exact H
       clear H
       have H := H1
       clear H1
       obtain rfl := Option.some.inj H
       have p296 : 0 ≤ (x8_1 : Int) := of_decide_eq_true (by first | (with_reducible assumption) | assumption)
       have q296 : x8_1 < (l0_0.length : Int) := of_decide_eq_true (by first | (with_reducible assumption) | assumption)
       obtain ⟨ad296, e296, hx296_0, hx296_1, hx296_2⟩ := at_T88 HR0_0.out x8_1 p296 q296
       cases e296
       replace hx296_0 := (HB.out.cell (World.block_lt_of_cell? w _ hx296_0)).trans hx296_0
       replace hx296_1 := (HB.out.cell (World.block_lt_of_cell? w _ hx296_1)).trans hx296_1
       replace hx296_2 := (HB.out.cell (World.block_lt_of_cell? w _ hx296_2)).trans hx296_2
       replace p296 := eq_true p296
       replace q296 := eq_true q296
       go_wp2_with (first | ((with_reducible refine gate_dst (N := 4) rfl ?_); (try (refine gate_guard (by rfl) ?_; dsimp only)); refine box_event ?hg (N := 4) ?hd (cs := #[.string (⟨#[]⟩ : ByteArray), .string (⟨#[]⟩ : ByteArray), .int .i64 0]) (t := 88) ?hr ?_; (case hd => rfl); (case hg => rfl); (case hr => first | (go_simp; done) | (go_simp; rfl)); intro gb297 hg w34 hbox hb; have BK297 := mk_ (hbox); have GW297 : Aside0 (w.heap.size ≤ gb297) := bz_ hg; have GE297 : Aside0 (w.heap.size ≤ gb297) := bz_ hg; have NB295_297 : Aside0 (gb295 ≠ gb297) := bl_ BK295 hg; have NB297_295 : Aside0 (gb297 ≠ gb295) := bg_ BK295 hg; replace BK295 := bb_ BK295 hb; replace HB := bs_ HB hb; clear hb hbox hg; have hnb35 := NB297_295.out; have hnc35 := NB295_297.out; have hcz36_0 : w34.cell? ⟨gb297, 0, none⟩ = some (.string (⟨#[]⟩ : ByteArray)) := bc_ BK297 0; have hcz36_1 : w34.cell? ⟨gb297, 1, none⟩ = some (.string (⟨#[]⟩ : ByteArray)) := bc_ BK297 1; have hcz36_2 : w34.cell? ⟨gb297, 2, none⟩ = some (.int .i64 0) := bc_ BK297 2; have hfz36_0 := blk_frozen BK297.out 0; have hfz36_1 := blk_frozen BK297.out 1; have hfz36_2 := blk_frozen BK297.out 2) | (go_at_call 42; (with_reducible refine (impl_within.calls (((rd_T88 l0_0 x8_1).f0).size : Int) 1 8 false _ A7.out).mono ?_); rintro e w' ⟨rfl, ⟨nd, rfl⟩⟩; (try first | exact ⟨rfl, _, World.drewN_drewN _ _ _⟩ | exact ⟨rfl, _, Eq.trans (World.drewN_drewN _ _ _) (congrArg (World.drewN _) (Nat.add_assoc _ _ _))⟩)))
       repeat (go_quiet (first | ((with_reducible refine gate_dst (N := 4) rfl ?_); (try (refine gate_guard (by rfl) ?_; dsimp only)); refine box_event ?hg (N := 4) ?hd (cs := #[.string (⟨#[]⟩ : ByteArray), .string (⟨#[]⟩ : ByteArray), .int .i64 0]) (t := 88) ?hr ?_; (case hd => rfl); (case hg => rfl); (case hr => first | (go_simp; done) | (go_simp; rfl)); intro gb297 hg w34 hbox hb; have BK297 := mk_ (hbox); have GW297 : Aside0 (w.heap.size ≤ gb297) := bz_ hg; have GE297 : Aside0 (w.heap.size ≤ gb297) := bz_ hg; have NB295_297 : Aside0 (gb295 ≠ gb297) := bl_ BK295 hg; have NB297_295 : Aside0 (gb297 ≠ gb295) := bg_ BK295 hg; replace BK295 := bb_ BK295 hb; replace HB := bs_ HB hb; clear hb hbox hg; have hnb35 := NB297_295.out; have hnc35 := NB295_297.out; have hcz36_0 : w34.cell? ⟨gb297, 0, none⟩ = some (.string (⟨#[]⟩ : ByteArray)) := bc_ BK297 0; have hcz36_1 : w34.cell? ⟨gb297, 1, none⟩ = some (.string (⟨#[]⟩ : ByteArray)) := bc_ BK297 1; have hcz36_2 : w34.cell? ⟨gb297, 2, none⟩ = some (.int .i64 0) := bc_ BK297 2; have hfz36_0 := blk_frozen BK297.out 0; have hfz36_1 := blk_frozen BK297.out 1; have hfz36_2 := blk_frozen BK297.out 2) | (go_at_call 42; (with_reducible refine (impl_within.calls (((rd_T88 l0_0 x8_1).f0).size : Int) 1 8 false _ A7.out).mono ?_); rintro e w' ⟨rfl, ⟨nd, rfl⟩⟩; (try first | exact ⟨rfl, _, World.drewN_drewN _ _ _⟩ | exact ⟨rfl, _, Eq.trans (World.drewN_drewN _ _ _) (congrArg (World.drewN _) (Nat.add_assoc _ _ _))⟩))); try go_wp2_with (first | ((with_reducible refine gate_dst (N := 4) rfl ?_); (try (refine gate_guard (by rfl) ?_; dsimp only)); refine box_event ?hg (N := 4) ?hd (cs := #[.string (⟨#[]⟩ : ByteArray), .string (⟨#[]⟩ : ByteArray), .int .i64 0]) (t := 88) ?hr ?_; (case hd => rfl); (case hg => rfl); (case hr => first | (go_simp; done) | (go_simp; rfl)); intro gb297 hg w34 hbox hb; have BK297 := mk_ (hbox); have GW297 : Aside0 (w.heap.size ≤ gb297) := bz_ hg; have GE297 : Aside0 (w.heap.size ≤ gb297) := bz_ hg; have NB295_297 : Aside0 (gb295 ≠ gb297) := bl_ BK295 hg; have NB297_295 : Aside0 (gb297 ≠ gb295) := bg_ BK295 hg; replace BK295 := bb_ BK295 hb; replace HB := bs_ HB hb; clear hb hbox hg; have hnb35 := NB297_295.out; have hnc35 := NB295_297.out; have hcz36_0 : w34.cell? ⟨gb297, 0, none⟩ = some (.string (⟨#[]⟩ : ByteArray)) := bc_ BK297 0; have hcz36_1 : w34.cell? ⟨gb297, 1, none⟩ = some (.string (⟨#[]⟩ : ByteArray)) := bc_ BK297 1; have hcz36_2 : w34.cell? ⟨gb297, 2, none⟩ = some (.int .i64 0) := bc_ BK297 2; have hfz36_0 := blk_frozen BK297.out 0; have hfz36_1 := blk_frozen BK297.out 1; have hfz36_2 := blk_frozen BK297.out 2) | (go_at_call 42; (with_reducible refine (impl_within.calls (((rd_T88 l0_0 x8_1).f0).size : Int) 1 8 false _ A7.out).mono ?_); rintro e w' ⟨rfl, ⟨nd, rfl⟩⟩; (try first | exact ⟨rfl, _, World.drewN_drewN _ _ _⟩ | exact ⟨rfl, _, Eq.trans (World.drewN_drewN _ _ _) (congrArg (World.drewN _) (Nat.add_assoc _ _ _))⟩))))
       go_ret
       exact ⟨by first | rfl | (simp [errW_none, errW_some] <;> rfl) | (simp [*, errW_none, errW_some] <;> rfl), by repeat (first | (with_reducible first | exact HB.out | apply below_alloc | apply pw_below_drewN | apply below_drew1 | refine below_set ?_ GE295.out | refine below_set ?_ GE297.out) | exact HB.out)⟩
     ·rw [if_neg c6] at H
      exact absurd H (by simp)
    ·rw [if_neg c5] at H
     exact absurd H (by simp)
   ·rw [if_neg c4] at H
    have c4b0 : decide (x8_1 < (l0_0.length : Int)) = false := decide_eq_false c4
    clear c4
    obtain rfl := Option.some.inj H
    have hcz37_0 : wr.cell? ⟨gb295, 0, none⟩ = some (.slice A0_0 l0_0.length c0_0) := bc_ BK295 0
    have hfz37_0 := blk_frozen BK295.out 0
    go_wp2
    repeat (go_quiet (fail); try go_wp2)
    go_ret
    exact ⟨by first | rfl | (simp [errW_none, errW_some] <;> rfl) | (simp [*, errW_none, errW_some] <;> rfl), by repeat (first | (with_reducible first | exact HB.out | apply below_alloc | apply pw_below_drewN | apply below_drew1 | refine below_set ?_ GE295.out) | exact HB.out)⟩

end Go.Proofs.YtgnmlgoadkhceaaDoor.QFnExactSnapActs
