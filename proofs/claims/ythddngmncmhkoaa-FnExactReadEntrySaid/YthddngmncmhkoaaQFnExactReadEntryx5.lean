/- Written by this session's own program (wip/tpl/pp.py): what the law's functions come to, and that the machine's calls do just that. -/
import Derived.Test.YthddngmncmhkoaaQFnExactReadEntryx0
import Derived.Test.YthddngmncmhkoaaQFnExactReadEntryx4
namespace Go.Proofs.Ythddngmncmhkoaa.QFnExactReadEntry
open Go.RowKit Go.Proofs.YthddngmncmhkoaaW.PrintWords Go.Proofs.YthddngmncmhkoaaW.PrintLast Go.Proofs.YthddngmncmhkoaaW.PrintMore
attribute [local go_sem] Go.Proofs.Ythddngmncmhkoaa.Sem.string_geq Go.Proofs.Ythddngmncmhkoaa.Sem.string_leq Go.Proofs.Ythddngmncmhkoaa.Sem.string_gtr
attribute [local go_sem] max2_int min2_int max_two min_two max_three min_three max_four min_four   -- for this text's walks alone
set_option linter.unusedVariables false
set_option linter.unusedSimpArgs false

/-! ### impl_VarText: function 90 -/
def impl_VarText.l0 : Nat → Int → List Int → Option (ByteArray × Bool)
  | 0, _, _ => none
  | k + 1, x0, x4 => if x0 > 127 then (if x4.length < 140737488355328 then (impl_VarText.l0 k (wrap64 (Int.tdiv x0 128)) (x4 ++ [(wrap64 ((Int.tmod x0 128) + 128)) % 256])) else (none)) else (if x4.length < 140737488355328 then (some (strOfNums (x4 ++ [(x0) % 256]), true)) else (none))
def impl_VarText.f (k : Nat) (a0 : Int) : Option (ByteArray × Bool) := (impl_within.f a0 0 1000000000).bind fun t187 => (if t187 = true then (impl_VarText.l0 k a0 ([] : List Int)) else (some ((⟨#[]⟩ : ByteArray), false)))
theorem impl_VarText.mono_l : ∀ k, (∀ y0 y1, LeO (impl_VarText.l0 k y0 y1) (impl_VarText.l0 (k + 1) y0 y1))
  | 0 => fun _ _ r h => by simp [impl_VarText.l0] at h
  | k + 1 => by
    have ih0 := impl_VarText.mono_l k
    · intro y0 y1
      unfold impl_VarText.l0
      repeat' first
      | (with_reducible exact ih0 _ _)
      | (with_reducible exact LeO.refl _)
      | (with_reducible exact LeO.none _)
      | (with_reducible refine LeO.ite ?_ ?_)
      | (with_reducible refine LeO.bind ?_ (fun _ => ?_))
      | exact ih0 _ _
      | exact LeO.none _
      | refine LeO.ite ?_ ?_
      | refine LeO.bind ?_ (fun _ => ?_)
theorem impl_VarText.mono : ∀ a0 k, LeO (impl_VarText.f k a0) (impl_VarText.f (k + 1) a0) := by
  intro a0 k
  have ih0 := impl_VarText.mono_l k
  unfold impl_VarText.f
  repeat' first
      | (with_reducible exact ih0 _ _)
      | (with_reducible exact LeO.refl _)
      | (with_reducible exact LeO.none _)
      | (with_reducible refine LeO.ite ?_ ?_)
      | (with_reducible refine LeO.bind ?_ (fun _ => ?_))
      | exact ih0 _ _
      | exact LeO.none _
      | refine LeO.ite ?_ ?_
      | refine LeO.bind ?_ (fun _ => ?_)
set_option maxHeartbeats 8000000 in
set_option maxRecDepth 100000 in
theorem impl_VarText.calls (k : Nat) (a0 : Int) (r1 : ByteArray) (r2 : Bool) (w : World) (h : impl_VarText.f k a0 = some (r1, r2)) :
    Calls Try.prog 90 #[.int .i64 a0] w fun e w' => e = .returned (.tuple #[.string r1, .bool r2]) ∧ Below w.heap.size w w' := by
  have HB := Aside0.mk (Below.refl w.heap.size w)
  have H : ((impl_within.f a0 0 1000000000).bind fun t187 => (if t187 = true then (impl_VarText.l0 k a0 ([] : List Int)) else (some ((⟨#[]⟩ : ByteArray), false)))) = some (r1, r2) := h
  clear h
  replace H := Option.bind_eq_some_iff.mp H
  obtain ⟨t187, A20, H⟩ := H
  replace H : (if t187 = true then (impl_VarText.l0 k a0 ([] : List Int)) else (some ((⟨#[]⟩ : ByteArray), false))) = some (r1, r2) := H
  have A2 := Aside0.mk A20
  clear A20
  by_cases c3 : t187 = true
  · subst c3
    have H1 : (impl_VarText.l0 k a0 ([] : List Int)) = some (r1, r2) := by rw [if_pos rfl] at H; exact H
    clear H
    have H := H1
    clear H1
    have H' := Aside0.mk H
    clear H
    go_enter Try.func90, Try.ntmps90
    go_wp2_with (first | ((with_reducible refine gate_callee (f := 70) rfl ?_); refine goesL_ (some 6) rfl rfl Try.func70 (by kernel_rfl) rfl #[.int .i64 a0, .int .i64 0, .int .i64 1000000000] rfl (by (try simp only [List.map_toArray, List.map_cons, List.map_nil]); first | done | rfl | (simp only [List.length_drop, List.length_take]; rfl)) ?_; (with_reducible refine (impl_within.calls a0 0 1000000000 true _ A2.out).mono ?_); rintro e w' ⟨rfl, ⟨nd, rfl⟩⟩; refine ⟨_, rfl, ?_⟩))
    go_loopg [0, 4] k (fun kq v0 v4 w' => ∃ (x0_1 : Int) (x4_1 : List Int), v0 = .int .i64 x0_1 ∧ Aside0 (impl_VarText.l0 kq x0_1 x4_1 = some (r1, r2)) ∧ Aside0 (kq ≤ k) ∧ Aside0 (Kd.R (Kd.int .u8) 5 w' w.heap.size (fun _ => True) v4 x4_1) ∧ Aside0 (Below w.heap.size w w'))
    case atStart => exact ⟨(a0), (([] : List Int)), (by first | rfl | (simp; done) | (simp [*]; done)), H', ⟨Nat.le_refl _⟩, ⟨by first | exact Kd.R_nil _ _ _ _ _ | exact Kd.N_nil _ _ _ _ _ | exact Kd.V_nil _ _ _ _ _ | exact Kd.Q_nil _ _ _ _ _ | exact Kd.S_nil _ _ _ _ _⟩, ⟨by repeat (first | (with_reducible first | exact HB.out | apply below_alloc | apply pw_below_drewN | apply below_drew1) | exact HB.out)⟩⟩
    case round =>
      clear H'
      try clear p2
      try clear c3
      obtain ⟨x0_1, x4_1, rfl, HA, HK1, HO_4, HB⟩ := hrel
      cases gk with
      | zero => exact absurd HA.out (by simp [impl_VarText.l0])
      | succ k1 =>
        have H := HA.out
        clear HA
        simp only [impl_VarText.l0] at H
        by_cases c4 : x0_1 > 127
        · rw [if_pos c4] at H
          have c4b0 : decide (127 < x0_1) = true := decide_eq_true c4
          clear c4
          by_cases c5 : x4_1.length < 140737488355328
          · rw [if_pos c5] at H
            have LMc5 := Aside0.mk c5
            clear c5
            obtain ⟨y188, hy188⟩ : ∃ y_ : List Int, y_ = (x4_1 ++ [(wrap64 ((Int.tmod x0_1 128) + 128)) % 256]) := ⟨_, rfl⟩
            replace H : (impl_VarText.l0 k1 (wrap64 (Int.tdiv x0_1 128)) y188) = some (r1, r2) := by first | (rw [hy188]; with_reducible exact H) | (have H2_ := (Option.bind_some _ _).symm.trans H; rw [hy188]; with_reducible exact H2_) | (have H2_ := (Option.bind_some _ _).symm.trans H; with_reducible exact H2_) | with_reducible exact H | (rw [hy188]; exact H) | exact H
            have Ny188 := Aside0.mk hy188
            clear hy188
            have H' := Aside0.mk H
            clear H
            go_wp2_with (first | ((with_reducible refine gate_builtin (b := .append) (xs := #[.tmp 10, .tmp 15]) rfl ?_); at_builtin; refine Kd.R_append (Kd.int .u8) (w0 := w) w.heap.size rfl (.tmp 10) (.tmp 15) 50 5 (.int .u8 0) 1 rfl Try.underlying50 info5 rfl (by decide) (by omega) u4 x4_1 ((wrap64 ((Int.tmod x0_1 128) + 128)) % 256) [.int .u8 ((wrap64 ((Int.tmod x0_1 128) + 128)) % 256)] (fun _ => True) (fun _ => False) rfl rfl ?aP (fun _ hk => hk.elim) ?aF ?aO ?aB ?aS ?aL ?_; (case aP => exact rfl); (case aB => exact (by repeat (first | (with_reducible first | exact HB.out | apply below_alloc | apply pw_below_drewN | apply below_drew1) | exact HB.out))); (case aF => exact (fun _ _ => trivial)); (case aO => exact (by (with_reducible repeat (first | apply Kd.R_alloc | apply Kd.R_drewN | apply Kd.R_drew)); exact HO_4.out)); (case aS => exact (below_size (by repeat (first | (with_reducible first | exact HB.out | apply below_alloc | apply pw_below_drewN | apply below_drew1) | exact HB.out)))); (case aL => have := LMc5.out; omega); intro v189 w6 ho hb hg hat; rw [← Ny188.out] at ho; have n0_ := Aside0.mk (hb); have n1_ := Aside0.mk (ho); clear HB; clear HO_4; have HB := n0_; have HO190 := n1_; clear n0_ n1_; clear ho hb hg hat))
            go_roundg k1
            case measure => have := HK1.out; omega
            case rel => exact ⟨(wrap64 (Int.tdiv x0_1 128)), (y188), (by first | rfl | (simp; done) | (simp [*]; done)), H', ⟨by have := HK1.out; omega⟩, ⟨by (with_reducible repeat (first | apply Kd.R_alloc | apply Kd.R_drewN | apply Kd.R_drew)); exact HO190.out⟩, ⟨by repeat (first | (with_reducible first | exact HB.out | apply below_alloc | apply pw_below_drewN | apply below_drew1) | exact HB.out)⟩⟩
          · rw [if_neg c5] at H
            exact absurd H (by simp)
        · rw [if_neg c4] at H
          have c4b0 : decide (127 < x0_1) = false := decide_eq_false c4
          clear c4
          by_cases c7 : x4_1.length < 140737488355328
          · rw [if_pos c7] at H
            have LMc7 := Aside0.mk c7
            clear c7
            obtain ⟨y191, hy191⟩ : ∃ y_ : List Int, y_ = (x4_1 ++ [(x0_1) % 256]) := ⟨_, rfl⟩
            replace H : (some (strOfNums y191, true)) = some (r1, r2) := by first | (rw [hy191]; with_reducible exact H) | (have H2_ := (Option.bind_some _ _).symm.trans H; rw [hy191]; with_reducible exact H2_) | (have H2_ := (Option.bind_some _ _).symm.trans H; with_reducible exact H2_) | with_reducible exact H | (rw [hy191]; exact H) | exact H
            have Ny191 := Aside0.mk hy191
            clear hy191
            simp only [Option.some.injEq, Prod.mk.injEq] at H
            obtain ⟨rfl, rfl⟩ := H
            go_wp2_with (first | ((with_reducible refine gate_builtin (b := .append) (xs := #[.tmp 19, .tmp 22]) rfl ?_); at_builtin; refine Kd.R_append (Kd.int .u8) (w0 := w) w.heap.size rfl (.tmp 19) (.tmp 22) 50 5 (.int .u8 0) 1 rfl Try.underlying50 info5 rfl (by decide) (by omega) u4 x4_1 ((x0_1) % 256) [.int .u8 ((x0_1) % 256)] (fun _ => True) (fun _ => False) rfl rfl ?aP (fun _ hk => hk.elim) ?aF ?aO ?aB ?aS ?aL ?_; (case aP => exact rfl); (case aB => exact (by repeat (first | (with_reducible first | exact HB.out | apply below_alloc | apply pw_below_drewN | apply below_drew1) | exact HB.out))); (case aF => exact (fun _ _ => trivial)); (case aO => exact (by (with_reducible repeat (first | apply Kd.R_alloc | apply Kd.R_drewN | apply Kd.R_drew)); exact HO_4.out)); (case aS => exact (below_size (by repeat (first | (with_reducible first | exact HB.out | apply below_alloc | apply pw_below_drewN | apply below_drew1) | exact HB.out)))); (case aL => have := LMc7.out; omega); intro v192 w8 ho hb hg hat; rw [← Ny191.out] at ho; have n0_ := Aside0.mk (hb); have n1_ := Aside0.mk (ho); clear HB; clear HO_4; have HB := n0_; have HO193 := n1_; clear n0_ n1_; clear ho hb hg hat; have hcv9 := own_string (P := Try.prog) Try.underlying50 Try.underlying5 Try.underlying9 (Kd.own_of_R HO193.out)))
            go_ret2
            exact ⟨by first | rfl | (simp [errW_none, errW_some] <;> rfl) | (simp [*, errW_none, errW_some] <;> rfl), by repeat (first | (with_reducible first | exact HB.out | apply below_alloc | apply pw_below_drewN | apply below_drew1) | exact HB.out)⟩
          · rw [if_neg c7] at H
            exact absurd H (by simp)
  · replace c3 := Bool.eq_false_iff.mpr c3
    subst c3
    have H1 : (some ((⟨#[]⟩ : ByteArray), false)) = some (r1, r2) := by rw [if_neg (show ¬ (false = true) by decide)] at H; exact H
    clear H
    have H := H1
    clear H1
    simp only [Option.some.injEq, Prod.mk.injEq] at H
    obtain ⟨rfl, rfl⟩ := H
    go_enter Try.func90, Try.ntmps90
    go_wp2_with (first | ((with_reducible refine gate_callee (f := 70) rfl ?_); refine goesL_ (some 6) rfl rfl Try.func70 (by kernel_rfl) rfl #[.int .i64 a0, .int .i64 0, .int .i64 1000000000] rfl (by (try simp only [List.map_toArray, List.map_cons, List.map_nil]); first | done | rfl | (simp only [List.length_drop, List.length_take]; rfl)) ?_; (with_reducible refine (impl_within.calls a0 0 1000000000 false _ A2.out).mono ?_); rintro e w' ⟨rfl, ⟨nd, rfl⟩⟩; refine ⟨_, rfl, ?_⟩))
    go_ret2
    exact ⟨by first | rfl | (simp [errW_none, errW_some] <;> rfl) | (simp [*, errW_none, errW_some] <;> rfl), by repeat (first | (with_reducible first | exact HB.out | apply below_alloc | apply pw_below_drewN | apply below_drew1) | exact HB.out)⟩

/-! ### impl_ReadVar: function 92 -/
mutual
def impl_ReadVar.l0 : Nat → ByteArray → Int → Int → Int → Option (Int × Int × Bool)
  | 0, _, _, _, _ => none
  | k + 1, x0, x1, x7, x8 => if x8 < 5 then (impl_ReadVar.j1 k x0 x1 x7 x8 (decide ((wrap64 (x1 + x8)) < (x0.size : Int)))) else (impl_ReadVar.j1 k x0 x1 x7 x8 false)
def impl_ReadVar.j1 : Nat → ByteArray → Int → Int → Int → Bool → Option (Int × Int × Bool)
  | 0, _, _, _, _, _ => none
  | k + 1, x0, x1, x7, x8, x26 => if x26 = true then (if 0 ≤ (wrap64 (x1 + x8)) then (if (wrap64 (x1 + x8)) < (x0.size : Int) then (if 0 ≤ (wrap64 (7 * x8)) then (if (wrap64 (bt x0 (wrap64 (x1 + x8)))) < 128 then ((impl_VarText.f k (wrap64 (x7 + (shl .i64 (Int.tmod (wrap64 (bt x0 (wrap64 (x1 + x8)))) 128) (wrap64 (7 * x8)))))).bind fun bt195 => (if bt195.2 = true then (if (bt195.1.size : Int) = (wrap64 (x8 + 1)) then (some (wrap64 (x7 + (shl .i64 (Int.tmod (wrap64 (bt x0 (wrap64 (x1 + x8)))) 128) (wrap64 (7 * x8)))), wrap64 ((wrap64 (x1 + x8)) + 1), true)) else (some (0, 0, false))) else (some (0, 0, false)))) else (impl_ReadVar.l0 k x0 x1 (wrap64 (x7 + (shl .i64 (Int.tmod (wrap64 (bt x0 (wrap64 (x1 + x8)))) 128) (wrap64 (7 * x8))))) (wrap64 (x8 + 1)))) else (none)) else (none)) else (none)) else (some (0, 0, false))
end
def impl_ReadVar.f (k : Nat) (a0 : ByteArray) (a1 : Int) : Option (Int × Int × Bool) := (impl_within.f a1 0 (a0.size : Int)).bind fun t194 => (if t194 = true then (impl_ReadVar.l0 k a0 a1 0 0) else (some (0, 0, false)))
theorem impl_ReadVar.mono_l : ∀ k, (∀ y0 y1 y2 y3, LeO (impl_ReadVar.l0 k y0 y1 y2 y3) (impl_ReadVar.l0 (k + 1) y0 y1 y2 y3)) ∧ (∀ y0 y1 y2 y3 y4, LeO (impl_ReadVar.j1 k y0 y1 y2 y3 y4) (impl_ReadVar.j1 (k + 1) y0 y1 y2 y3 y4))
  | 0 => ⟨fun _ _ _ _ r h => by simp [impl_ReadVar.l0] at h, fun _ _ _ _ _ r h => by simp [impl_ReadVar.j1] at h⟩
  | k + 1 => by
    obtain ⟨ih0, ih1⟩ := impl_ReadVar.mono_l k
    refine ⟨?_, ?_⟩
    · intro y0 y1 y2 y3
      unfold impl_ReadVar.l0
      repeat' first
      | (with_reducible exact ih0 _ _ _ _)
      | (with_reducible exact ih1 _ _ _ _ _)
      | (with_reducible exact impl_VarText.mono _ _)
      | (with_reducible exact LeO.refl _)
      | (with_reducible exact LeO.none _)
      | (with_reducible refine LeO.ite ?_ ?_)
      | (with_reducible refine LeO.bind ?_ (fun _ => ?_))
      | exact ih0 _ _ _ _
      | exact ih1 _ _ _ _ _
      | exact impl_VarText.mono _ _
      | exact LeO.none _
      | refine LeO.ite ?_ ?_
      | refine LeO.bind ?_ (fun _ => ?_)
    · intro y0 y1 y2 y3 y4
      unfold impl_ReadVar.j1
      repeat' first
      | (with_reducible exact ih0 _ _ _ _)
      | (with_reducible exact ih1 _ _ _ _ _)
      | (with_reducible exact impl_VarText.mono _ _)
      | (with_reducible exact LeO.refl _)
      | (with_reducible exact LeO.none _)
      | (with_reducible refine LeO.ite ?_ ?_)
      | (with_reducible refine LeO.bind ?_ (fun _ => ?_))
      | exact ih0 _ _ _ _
      | exact ih1 _ _ _ _ _
      | exact impl_VarText.mono _ _
      | exact LeO.none _
      | refine LeO.ite ?_ ?_
      | refine LeO.bind ?_ (fun _ => ?_)
theorem impl_ReadVar.mono : ∀ a0 a1 k, LeO (impl_ReadVar.f k a0 a1) (impl_ReadVar.f (k + 1) a0 a1) := by
  intro a0 a1 k
  obtain ⟨ih0, ih1⟩ := impl_ReadVar.mono_l k
  unfold impl_ReadVar.f
  repeat' first
      | (with_reducible exact ih0 _ _ _ _)
      | (with_reducible exact ih1 _ _ _ _ _)
      | (with_reducible exact impl_VarText.mono _ _)
      | (with_reducible exact LeO.refl _)
      | (with_reducible exact LeO.none _)
      | (with_reducible refine LeO.ite ?_ ?_)
      | (with_reducible refine LeO.bind ?_ (fun _ => ?_))
      | exact ih0 _ _ _ _
      | exact ih1 _ _ _ _ _
      | exact impl_VarText.mono _ _
      | exact LeO.none _
      | refine LeO.ite ?_ ?_
      | refine LeO.bind ?_ (fun _ => ?_)
set_option maxHeartbeats 8000000 in
set_option maxRecDepth 100000 in
theorem impl_ReadVar.calls (k : Nat) (a0 : ByteArray) (a1 : Int) (r1 : Int) (r2 : Int) (r3 : Bool) (w : World) (h : impl_ReadVar.f k a0 a1 = some (r1, r2, r3)) :
    Calls Try.prog 92 #[.string a0, .int .i64 a1] w fun e w' => e = .returned (.tuple #[.int .i64 r1, .int .i64 r2, .bool r3]) ∧ Below w.heap.size w w' := by
  have HB := Aside0.mk (Below.refl w.heap.size w)
  have H : ((impl_within.f a1 0 (a0.size : Int)).bind fun t194 => (if t194 = true then (impl_ReadVar.l0 k a0 a1 0 0) else (some (0, 0, false)))) = some (r1, r2, r3) := h
  clear h
  replace H := Option.bind_eq_some_iff.mp H
  obtain ⟨t194, A30, H⟩ := H
  replace H : (if t194 = true then (impl_ReadVar.l0 k a0 a1 0 0) else (some (0, 0, false))) = some (r1, r2, r3) := H
  have A3 := Aside0.mk A30
  clear A30
  by_cases c4 : t194 = true
  · subst c4
    have H1 : (impl_ReadVar.l0 k a0 a1 0 0) = some (r1, r2, r3) := by rw [if_pos rfl] at H; exact H
    clear H
    have H := H1
    clear H1
    have H' := Aside0.mk H
    clear H
    go_enter Try.func92, Try.ntmps92
    go_wp2_with (first | ((with_reducible refine gate_callee (f := 70) rfl ?_); refine goesL_ (some 15) rfl rfl Try.func70 (by kernel_rfl) rfl #[.int .i64 a1, .int .i64 0, .int .i64 (a0.size : Int)] rfl (by (try simp only [List.map_toArray, List.map_cons, List.map_nil]); first | done | rfl | (simp only [List.length_drop, List.length_take]; rfl)) ?_; (with_reducible refine (impl_within.calls a1 0 (a0.size : Int) true _ A3.out).mono ?_); rintro e w' ⟨rfl, ⟨nd, rfl⟩⟩; refine ⟨_, rfl, ?_⟩))
    go_loopg [7, 8] k (fun kq v7 v8 w' => ∃ (x7_1 : Int) (x8_1 : Int), v7 = .int .i64 x7_1 ∧ v8 = .int .i64 x8_1 ∧ Aside0 (impl_ReadVar.l0 kq a0 a1 x7_1 x8_1 = some (r1, r2, r3)) ∧ Aside0 (kq ≤ k) ∧ Aside0 (Below w.heap.size w w'))
    case atStart => exact ⟨(0), (0), (by first | rfl | (simp; done) | (simp [*]; done)), (by first | rfl | (simp; done) | (simp [*]; done)), H', ⟨Nat.le_refl _⟩, ⟨by repeat (first | (with_reducible first | exact HB.out | apply below_alloc | apply pw_below_drewN | apply below_drew1) | exact HB.out)⟩⟩
    case round =>
      clear H'
      try clear p2
      try clear c4
      obtain ⟨x7_1, x8_1, rfl, rfl, HA, HK1, HB⟩ := hrel
      cases gk with
      | zero => exact absurd HA.out (by simp [impl_ReadVar.l0])
      | succ k1 =>
        have H := HA.out
        clear HA
        simp only [impl_ReadVar.l0] at H
        have HC5 := Aside0.mk H
        clear H
        go_upto_region 5 with (fail)
        go_cut [26] (fun v26 wc => ∃ (kq : Nat) (x26_4 : Bool), v26 = .bool x26_4 ∧ Aside0 (impl_ReadVar.j1 kq a0 a1 x7_1 x8_1 x26_4 = some (r1, r2, r3)) ∧ Aside0 (kq ≤ k1) ∧ Aside0 (Below w.heap.size w wc))
        case first =>
          have H := HC5.out
          clear HC5
          by_cases c6 : x8_1 < 5
          · rw [if_pos c6] at H
            have c6b0 : decide (x8_1 < 5) = true := decide_eq_true c6
            clear c6
            (first | rw [c6b0] | (simp only [i64_w, i32_w]; rw [c6b0]) | skip)
            have H' := Aside0.mk H
            clear H
            go_wp2
            go_meet
            case rel => exact ⟨_, (decide ((wrap64 (a1 + x8_1)) < (a0.size : Int))), (by first | rfl | (simp; done) | (simp [*]; done)), H', ⟨by have := HK1.out; first | omega | exact Nat.le_refl _⟩, ⟨by repeat (first | (with_reducible first | exact HB.out | apply below_alloc | apply pw_below_drewN | apply below_drew1) | exact HB.out)⟩⟩
          · rw [if_neg c6] at H
            have c6b0 : decide (x8_1 < 5) = false := decide_eq_false c6
            clear c6
            (first | rw [c6b0] | (simp only [i64_w, i32_w]; rw [c6b0]) | skip)
            have H' := Aside0.mk H
            clear H
            go_wp2
            go_meet
            case rel => exact ⟨_, (false), (by first | rfl | (simp; done) | (simp [*]; done)), H', ⟨by have := HK1.out; first | omega | exact Nat.le_refl _⟩, ⟨by repeat (first | (with_reducible first | exact HB.out | apply below_alloc | apply pw_below_drewN | apply below_drew1) | exact HB.out)⟩⟩
        case rest =>
          clear HC5
          try clear p2
          try clear c4
          try clear c6
          try clear c6b0
          try clear p6
          try clear p2
          obtain ⟨kq, x26_4, rfl, HA, HJ4, HB⟩ := hcut
          cases kq with
          | zero => exact absurd HA.out (by simp [impl_ReadVar.j1])
          | succ kj4 =>
            have H := HA.out
            clear HA
            simp only [impl_ReadVar.j1] at H
            by_cases c7 : x26_4 = true
            · subst c7
              have H1 : (if 0 ≤ (wrap64 (a1 + x8_1)) then (if (wrap64 (a1 + x8_1)) < (a0.size : Int) then (if 0 ≤ (wrap64 (7 * x8_1)) then (if (wrap64 (bt a0 (wrap64 (a1 + x8_1)))) < 128 then ((impl_VarText.f kj4 (wrap64 (x7_1 + (shl .i64 (Int.tmod (wrap64 (bt a0 (wrap64 (a1 + x8_1)))) 128) (wrap64 (7 * x8_1)))))).bind fun bt195 => (if bt195.2 = true then (if (bt195.1.size : Int) = (wrap64 (x8_1 + 1)) then (some (wrap64 (x7_1 + (shl .i64 (Int.tmod (wrap64 (bt a0 (wrap64 (a1 + x8_1)))) 128) (wrap64 (7 * x8_1)))), wrap64 ((wrap64 (a1 + x8_1)) + 1), true)) else (some (0, 0, false))) else (some (0, 0, false)))) else (impl_ReadVar.l0 kj4 a0 a1 (wrap64 (x7_1 + (shl .i64 (Int.tmod (wrap64 (bt a0 (wrap64 (a1 + x8_1)))) 128) (wrap64 (7 * x8_1))))) (wrap64 (x8_1 + 1)))) else (none)) else (none)) else (none)) = some (r1, r2, r3) := by rw [if_pos rfl] at H; exact H
              clear H
              have H := H1
              clear H1
              obtain ⟨ji8, hji8⟩ : ∃ j_ : Int, (wrap64 (a1 + x8_1)) = j_ := ⟨_, rfl⟩
              replace H : (if 0 ≤ (ji8) then (if (ji8) < (a0.size : Int) then (if 0 ≤ (wrap64 (7 * x8_1)) then (if (wrap64 (bt a0 (ji8))) < 128 then ((impl_VarText.f kj4 (wrap64 (x7_1 + (shl .i64 (Int.tmod (wrap64 (bt a0 (ji8))) 128) (wrap64 (7 * x8_1)))))).bind fun bt195 => (if bt195.2 = true then (if (bt195.1.size : Int) = (wrap64 (x8_1 + 1)) then (some (wrap64 (x7_1 + (shl .i64 (Int.tmod (wrap64 (bt a0 (ji8))) 128) (wrap64 (7 * x8_1)))), wrap64 ((ji8) + 1), true)) else (some (0, 0, false))) else (some (0, 0, false)))) else (impl_ReadVar.l0 kj4 a0 a1 (wrap64 (x7_1 + (shl .i64 (Int.tmod (wrap64 (bt a0 (ji8))) 128) (wrap64 (7 * x8_1))))) (wrap64 (x8_1 + 1)))) else (none)) else (none)) else (none)) = some (r1, r2, r3) := by first | (rw [hji8] at H; exact H) | (simp only [hji8] at H ⊢; exact H)
              have hji8w : (IntKind.i64.wrap (a1 + x8_1)) = ji8 := (i64_w _).trans hji8
              by_cases c9 : 0 ≤ (ji8)
              · rw [if_pos c9] at H
                have c9b0 : decide (0 ≤ (ji8)) = true := decide_eq_true c9
                clear c9
                by_cases c10 : (ji8) < (a0.size : Int)
                · rw [if_pos c10] at H
                  have c10b0 : decide ((ji8) < (a0.size : Int)) = true := decide_eq_true c10
                  clear c10
                  obtain ⟨ji12, hji12⟩ : ∃ j_ : Int, (wrap64 (7 * x8_1)) = j_ := ⟨_, rfl⟩
                  replace H : (if 0 ≤ (ji12) then (if (wrap64 (bt a0 (ji8))) < 128 then ((impl_VarText.f kj4 (wrap64 (x7_1 + (shl .i64 (Int.tmod (wrap64 (bt a0 (ji8))) 128) (ji12))))).bind fun bt195 => (if bt195.2 = true then (if (bt195.1.size : Int) = (wrap64 (x8_1 + 1)) then (some (wrap64 (x7_1 + (shl .i64 (Int.tmod (wrap64 (bt a0 (ji8))) 128) (ji12))), wrap64 ((ji8) + 1), true)) else (some (0, 0, false))) else (some (0, 0, false)))) else (impl_ReadVar.l0 kj4 a0 a1 (wrap64 (x7_1 + (shl .i64 (Int.tmod (wrap64 (bt a0 (ji8))) 128) (ji12)))) (wrap64 (x8_1 + 1)))) else (none)) = some (r1, r2, r3) := by first | (rw [hji12] at H; exact H) | (simp only [hji12] at H ⊢; exact H)
                  have hji12w : (IntKind.i64.wrap (7 * x8_1)) = ji12 := (i64_w _).trans hji12
                  by_cases c13 : 0 ≤ (ji12)
                  · rw [if_pos c13] at H
                    have c13b0 := eq_true c13
                    have c13b1 : decide (0 ≤ (ji12)) = true := decide_eq_true c13
                    clear c13
                    obtain ⟨ji14, hji14⟩ : ∃ j_ : Int, (shl .i64 (Int.tmod (wrap64 (bt a0 (ji8))) 128) (ji12)) = j_ := ⟨_, rfl⟩
                    replace H : (if (wrap64 (bt a0 (ji8))) < 128 then ((impl_VarText.f kj4 (wrap64 (x7_1 + (ji14)))).bind fun bt195 => (if bt195.2 = true then (if (bt195.1.size : Int) = (wrap64 (x8_1 + 1)) then (some (wrap64 (x7_1 + (ji14)), wrap64 ((ji8) + 1), true)) else (some (0, 0, false))) else (some (0, 0, false)))) else (impl_ReadVar.l0 kj4 a0 a1 (wrap64 (x7_1 + (ji14))) (wrap64 (x8_1 + 1)))) = some (r1, r2, r3) := by first | (rw [hji14] at H; exact H) | (simp only [hji14] at H ⊢; exact H)
                    have hji14_ : (IntKind.i64.wrap ((Int.tmod (wrap64 (bt a0 (ji8))) 128) * 2 ^ min (ji12).toNat 64)) = ji14 := hji14
                    have hji14z : (ji12) ≤ 64 → (IntKind.i64.wrap ((Int.tmod (wrap64 (bt a0 (ji8))) 128) * 2 ^ (ji12).toNat)) = ji14 := shl_small hji14
                    have hji14y : (wrap64 ((Int.tmod (wrap64 (bt a0 (ji8))) 128) * 2 ^ min (ji12).toNat 64)) = ji14 := (i64_w _).symm.trans hji14_
                    have hji14x : (ji12) ≤ 64 → (wrap64 ((Int.tmod (wrap64 (bt a0 (ji8))) 128) * 2 ^ (ji12).toNat)) = ji14 := fun h_ => (i64_w _).symm.trans (hji14z h_)
                    by_cases c15 : (wrap64 (bt a0 (ji8))) < 128
                    · rw [if_pos c15] at H
                      have c15b0 : decide ((wrap64 (bt a0 (ji8))) < 128) = true := decide_eq_true c15
                      clear c15
                      replace H := Option.bind_eq_some_iff.mp H
                      obtain ⟨⟨t195, t196⟩, A160, H⟩ := H
                      replace H : (if t196 = true then (if (t195.size : Int) = (wrap64 (x8_1 + 1)) then (some (wrap64 (x7_1 + (ji14)), wrap64 ((ji8) + 1), true)) else (some (0, 0, false))) else (some (0, 0, false))) = some (r1, r2, r3) := H
                      have A16 := Aside0.mk A160
                      clear A160
                      by_cases c17 : t196 = true
                      · subst c17
                        have H1 : (if (t195.size : Int) = (wrap64 (x8_1 + 1)) then (some (wrap64 (x7_1 + (ji14)), wrap64 ((ji8) + 1), true)) else (some (0, 0, false))) = some (r1, r2, r3) := by rw [if_pos rfl] at H; exact H
                        clear H
                        have H := H1
                        clear H1
                        by_cases c18 : (t195.size : Int) = (wrap64 (x8_1 + 1))
                        · rw [if_pos c18] at H
                          have c18b0 : ((t195.size : Int) == (wrap64 (x8_1 + 1))) = true := beq_iff_eq.mpr c18
                          have c18b1 : ((t195.size : Int) != (wrap64 (x8_1 + 1))) = false := bne_eq_false_iff_eq.mpr c18
                          clear c18
                          simp only [Option.some.injEq, Prod.mk.injEq] at H
                          obtain ⟨rfl, rfl, rfl⟩ := H
                          have p11 : 0 ≤ ((ji8) : Int) := of_decide_eq_true (by first | (with_reducible assumption) | assumption)
                          have q11 : (ji8) < (a0.size : Int) := of_decide_eq_true (by first | (with_reducible assumption) | assumption)
                          have hx11 := bt_at a0 (ji8)
                          replace p11 := eq_true p11
                          replace q11 := eq_true q11
                          go_wp2_with (first | ((with_reducible refine gate_callee (f := 90) rfl ?_); refine goesL_ (some 46) rfl rfl Try.func90 (by kernel_rfl) rfl #[.int .i64 (wrap64 (x7_1 + (ji14)))] rfl (by (try simp only [List.map_toArray, List.map_cons, List.map_nil]); first | done | (simp only [hji14]; rfl) | rfl | (simp only [List.length_drop, List.length_take]; rfl)) ?_; (with_reducible refine (impl_VarText.calls kj4 (wrap64 (x7_1 + (ji14))) t195 true _ A16.out).mono ?_); rintro e w19 ⟨rfl, hb⟩; refine ⟨_, rfl, ?_⟩; have n0_ := Aside0.mk (below_step (by repeat (first | (with_reducible first | exact HB.out | apply below_alloc | apply pw_below_drewN | apply below_drew1) | exact HB.out)) hb); clear HB; have HB := n0_; clear n0_; (try clear hb); (try clear hb2); (try clear hk); (try clear hi)))
                          go_ret3
                          exact ⟨by first | rfl | (simp [errW_none, errW_some] <;> rfl) | (simp only [← hji8, ← hji12, ← hji14]; first | rfl | (simp [errW_none, errW_some] <;> rfl)) | (simp [*, errW_none, errW_some] <;> rfl), by repeat (first | (with_reducible first | exact HB.out | apply below_alloc | apply pw_below_drewN | apply below_drew1) | exact HB.out)⟩
                        · rw [if_neg c18] at H
                          have c18b0 : ((t195.size : Int) == (wrap64 (x8_1 + 1))) = false := beq_eq_false_iff_ne.mpr c18
                          have c18b1 : ((t195.size : Int) != (wrap64 (x8_1 + 1))) = true := bne_iff_ne.mpr c18
                          simp only [Option.some.injEq, Prod.mk.injEq] at H
                          obtain ⟨rfl, rfl, rfl⟩ := H
                          have p11 : 0 ≤ ((ji8) : Int) := of_decide_eq_true (by first | (with_reducible assumption) | assumption)
                          have q11 : (ji8) < (a0.size : Int) := of_decide_eq_true (by first | (with_reducible assumption) | assumption)
                          have hx11 := bt_at a0 (ji8)
                          replace p11 := eq_true p11
                          replace q11 := eq_true q11
                          go_wp2_with (first | ((with_reducible refine gate_callee (f := 90) rfl ?_); refine goesL_ (some 46) rfl rfl Try.func90 (by kernel_rfl) rfl #[.int .i64 (wrap64 (x7_1 + (ji14)))] rfl (by (try simp only [List.map_toArray, List.map_cons, List.map_nil]); first | done | (simp only [hji14]; rfl) | rfl | (simp only [List.length_drop, List.length_take]; rfl)) ?_; (with_reducible refine (impl_VarText.calls kj4 (wrap64 (x7_1 + (ji14))) t195 true _ A16.out).mono ?_); rintro e w20 ⟨rfl, hb⟩; refine ⟨_, rfl, ?_⟩; have n0_ := Aside0.mk (below_step (by repeat (first | (with_reducible first | exact HB.out | apply below_alloc | apply pw_below_drewN | apply below_drew1) | exact HB.out)) hb); clear HB; have HB := n0_; clear n0_; (try clear hb); (try clear hb2); (try clear hk); (try clear hi)))
                          go_ret3
                          exact ⟨by first | rfl | (simp [errW_none, errW_some] <;> rfl) | (simp only [← hji8, ← hji12, ← hji14]; first | rfl | (simp [errW_none, errW_some] <;> rfl)) | (simp [*, errW_none, errW_some] <;> rfl), by repeat (first | (with_reducible first | exact HB.out | apply below_alloc | apply pw_below_drewN | apply below_drew1) | exact HB.out)⟩
                      · replace c17 := Bool.eq_false_iff.mpr c17
                        subst c17
                        have H1 : (some (0, 0, false)) = some (r1, r2, r3) := by rw [if_neg (show ¬ (false = true) by decide)] at H; exact H
                        clear H
                        have H := H1
                        clear H1
                        simp only [Option.some.injEq, Prod.mk.injEq] at H
                        obtain ⟨rfl, rfl, rfl⟩ := H
                        have p11 : 0 ≤ ((ji8) : Int) := of_decide_eq_true (by first | (with_reducible assumption) | assumption)
                        have q11 : (ji8) < (a0.size : Int) := of_decide_eq_true (by first | (with_reducible assumption) | assumption)
                        have hx11 := bt_at a0 (ji8)
                        replace p11 := eq_true p11
                        replace q11 := eq_true q11
                        go_wp2_with (first | ((with_reducible refine gate_callee (f := 90) rfl ?_); refine goesL_ (some 46) rfl rfl Try.func90 (by kernel_rfl) rfl #[.int .i64 (wrap64 (x7_1 + (ji14)))] rfl (by (try simp only [List.map_toArray, List.map_cons, List.map_nil]); first | done | (simp only [hji14]; rfl) | rfl | (simp only [List.length_drop, List.length_take]; rfl)) ?_; (with_reducible refine (impl_VarText.calls kj4 (wrap64 (x7_1 + (ji14))) t195 false _ A16.out).mono ?_); rintro e w21 ⟨rfl, hb⟩; refine ⟨_, rfl, ?_⟩; have n0_ := Aside0.mk (below_step (by repeat (first | (with_reducible first | exact HB.out | apply below_alloc | apply pw_below_drewN | apply below_drew1) | exact HB.out)) hb); clear HB; have HB := n0_; clear n0_; (try clear hb); (try clear hb2); (try clear hk); (try clear hi)))
                        go_ret3
                        exact ⟨by first | rfl | (simp [errW_none, errW_some] <;> rfl) | (simp only [← hji8, ← hji12, ← hji14]; first | rfl | (simp [errW_none, errW_some] <;> rfl)) | (simp [*, errW_none, errW_some] <;> rfl), by repeat (first | (with_reducible first | exact HB.out | apply below_alloc | apply pw_below_drewN | apply below_drew1) | exact HB.out)⟩
                    · rw [if_neg c15] at H
                      have c15b0 : decide ((wrap64 (bt a0 (ji8))) < 128) = false := decide_eq_false c15
                      clear c15
                      have H' := Aside0.mk H
                      clear H
                      have p11 : 0 ≤ ((ji8) : Int) := of_decide_eq_true (by first | (with_reducible assumption) | assumption)
                      have q11 : (ji8) < (a0.size : Int) := of_decide_eq_true (by first | (with_reducible assumption) | assumption)
                      have hx11 := bt_at a0 (ji8)
                      replace p11 := eq_true p11
                      replace q11 := eq_true q11
                      go_wp2
                      go_roundg kj4
                      case measure => have := HK1.out; have := HJ4.out; omega
                      case rel => exact ⟨(wrap64 (x7_1 + (ji14))), (wrap64 (x8_1 + 1)), (by first | rfl | (simp; done) | (simp only [← hji14] <;> (first | rfl | simp)) | (simp [*]; done)), (by first | rfl | (simp; done) | (simp [*]; done)), H', ⟨by have := HK1.out; have := HJ4.out; omega⟩, ⟨by repeat (first | (with_reducible first | exact HB.out | apply below_alloc | apply pw_below_drewN | apply below_drew1) | exact HB.out)⟩⟩
                  · rw [if_neg c13] at H
                    exact absurd H (by simp)
                · rw [if_neg c10] at H
                  exact absurd H (by simp)
              · rw [if_neg c9] at H
                exact absurd H (by simp)
            · replace c7 := Bool.eq_false_iff.mpr c7
              subst c7
              have H1 : (some (0, 0, false)) = some (r1, r2, r3) := by rw [if_neg (show ¬ (false = true) by decide)] at H; exact H
              clear H
              have H := H1
              clear H1
              simp only [Option.some.injEq, Prod.mk.injEq] at H
              obtain ⟨rfl, rfl, rfl⟩ := H
              go_wp2
              go_ret3
              exact ⟨by first | rfl | (simp [errW_none, errW_some] <;> rfl) | (simp [*, errW_none, errW_some] <;> rfl), by repeat (first | (with_reducible first | exact HB.out | apply below_alloc | apply pw_below_drewN | apply below_drew1) | exact HB.out)⟩
  · replace c4 := Bool.eq_false_iff.mpr c4
    subst c4
    have H1 : (some (0, 0, false)) = some (r1, r2, r3) := by rw [if_neg (show ¬ (false = true) by decide)] at H; exact H
    clear H
    have H := H1
    clear H1
    simp only [Option.some.injEq, Prod.mk.injEq] at H
    obtain ⟨rfl, rfl, rfl⟩ := H
    go_enter Try.func92, Try.ntmps92
    go_wp2_with (first | ((with_reducible refine gate_callee (f := 70) rfl ?_); refine goesL_ (some 15) rfl rfl Try.func70 (by kernel_rfl) rfl #[.int .i64 a1, .int .i64 0, .int .i64 (a0.size : Int)] rfl (by (try simp only [List.map_toArray, List.map_cons, List.map_nil]); first | done | rfl | (simp only [List.length_drop, List.length_take]; rfl)) ?_; (with_reducible refine (impl_within.calls a1 0 (a0.size : Int) false _ A3.out).mono ?_); rintro e w' ⟨rfl, ⟨nd, rfl⟩⟩; refine ⟨_, rfl, ?_⟩))
    go_ret3
    exact ⟨by first | rfl | (simp [errW_none, errW_some] <;> rfl) | (simp [*, errW_none, errW_some] <;> rfl), by repeat (first | (with_reducible first | exact HB.out | apply below_alloc | apply pw_below_drewN | apply below_drew1) | exact HB.out)⟩

/-! ### impl_reader_num: function 108 -/
def impl_reader_num.f (k : Nat) (s0_0 : ByteArray) (s0_1 : Int) (s0_2 : Bool) : Option (Int × ByteArray × Int × Bool) := (impl_ReadVar.f k s0_0 s0_1).bind fun t => (if s0_2 = true then (some (0, s0_0, s0_1, true)) else (if t.2.2 = true then (some (t.1, s0_0, t.2.1, s0_2)) else (some (0, s0_0, s0_1, true))))
theorem impl_reader_num.mono : ∀ a0 a1 a2 k, LeO (impl_reader_num.f k a0 a1 a2) (impl_reader_num.f (k + 1) a0 a1 a2) :=
  fun a0 a1 a2 k => LeO.bind (impl_ReadVar.mono a0 a1 k) (fun _ => LeO.refl _)
set_option maxHeartbeats 4000000 in
set_option maxRecDepth 100000 in
theorem impl_reader_num.calls (k : Nat) (g : Nat) (s0_0 : ByteArray) (s0_1 : Int) (s0_2 : Bool) (r1 : Int) (r2 : ByteArray) (r3 : Int) (r4 : Bool) (w0 w : World) (hI : IsS140 w0 w g s0_0 s0_1 s0_2) (hB : Below w0.heap.size w0 w) (h : impl_reader_num.f k s0_0 s0_1 s0_2 = some (r1, r2, r3, r4)) :
    Calls Try.prog 108 #[.pointer (some ⟨g, 0, none⟩)] w fun e w' => e = .returned (.int .i64 r1) ∧ IsS140 w0 w' g r2 r3 r4 ∧ Below w0.heap.size w0 w' ∧ KeepBut w w' g none := by
  obtain ⟨⟨n, nx, ok⟩, ht0, hr⟩ := Option.bind_eq_some_iff.mp h
  clear h
  have HT := Aside0.mk ht0
  clear ht0
  have HI := Aside0.mk hI
  have hlt : g < w.heap.size := blk_lt hI.1
  have c0 : w.cell? ⟨g, 0, none⟩ = some (.string s0_0) := (blk_cell hI.1 0).trans rfl
  have c1 : w.cell? ⟨g, 1, none⟩ = some (.int .i64 s0_1) := (blk_cell hI.1 1).trans rfl
  clear hI
  have HB := Aside0.mk hB
  clear hB
  cases s0_2 with
  | true =>
    obtain ⟨rfl, rfl, rfl, rfl⟩ : 0 = r1 ∧ s0_0 = r2 ∧ s0_1 = r3 ∧ true = r4 := by simpa using hr
    clear hr
    go_enter Try.func108, Try.ntmps108
    go_wp2_with fail
    go_region_held3 (fun w' => w'.cell? ⟨g, 0, none⟩ = some (.string s0_0) ∧ w'.cell? ⟨g, 1, none⟩ = some (.int .i64 s0_1) ∧ g < w'.heap.size) (first | go_keep | exact ⟨(hb'.cell (p := ⟨g, 0, none⟩) hlt).trans c0, (hb'.cell (p := ⟨g, 1, none⟩) hlt).trans c1, Nat.lt_of_lt_of_le hlt hb'.size⟩) (first | (go_at_call 92; refine (impl_ReadVar.calls k s0_0 s0_1 n nx ok _ HT.out).mono ?_; rintro e w' ⟨rfl, hb'⟩))
    have HI1 := Aside0.mk ((IsS140.drew HI.out).below hb')
    have HK1 := Aside0.mk ((keep_drew (KeepBut.refl w g none)).trans (KeepBut.of_below hb' g none) (.inl rfl))
    have HB1 := Aside0.mk (below_then (below_drew1 HB.out) (below_drew1 HB.out).size hb')
    clear c0 c1 HI HB hb'
    obtain ⟨HG, hg_⟩ := HI1.out
    have d0 := cellS140_0 HG
    have d1 := cellS140_1 HG
    have d2 := cellS140_2 HG
    have e0 := blk_frozen HG 0
    have e1 := blk_frozen HG 1
    have e2 := blk_frozen HG 2
    clear HG hg_
    go_wp2
    repeat (go_quiet (fail); try go_wp2)
    go_ret
    exact ⟨rfl, by repeat (first | (with_reducible first | exact HI1.out | apply IsS140.alloc | apply IsS140.drewN | apply IsS140.drew | apply IsS140.set_0 | apply IsS140.set_1 | apply IsS140.set_2) | exact HI1.out), by repeat (first | (with_reducible first | exact HB1.out | apply below_alloc | apply pw_below_drewN | apply below_drew1 | refine below_set ?_ (IsS140.ge HI1.out)) | exact HB1.out), by repeat (first | (with_reducible first | exact HK1.out | apply KeepBut.set_ | apply keep_drewN | apply keep_drew | apply keep_alloc) | exact HK1.out)⟩
  | false =>
    cases ok with
    | true =>
      obtain ⟨rfl, rfl, rfl, rfl⟩ : n = r1 ∧ s0_0 = r2 ∧ nx = r3 ∧ false = r4 := by simpa using hr
      clear hr
      go_enter Try.func108, Try.ntmps108
      go_wp2_with fail
      go_region_held3 (fun w' => w'.cell? ⟨g, 0, none⟩ = some (.string s0_0) ∧ w'.cell? ⟨g, 1, none⟩ = some (.int .i64 s0_1) ∧ g < w'.heap.size) (first | go_keep | exact ⟨(hb'.cell (p := ⟨g, 0, none⟩) hlt).trans c0, (hb'.cell (p := ⟨g, 1, none⟩) hlt).trans c1, Nat.lt_of_lt_of_le hlt hb'.size⟩) (first | (go_at_call 92; refine (impl_ReadVar.calls k s0_0 s0_1 n nx true _ HT.out).mono ?_; rintro e w' ⟨rfl, hb'⟩))
      have HI1 := Aside0.mk ((IsS140.drew HI.out).below hb')
      have HK1 := Aside0.mk ((keep_drew (KeepBut.refl w g none)).trans (KeepBut.of_below hb' g none) (.inl rfl))
      have HB1 := Aside0.mk (below_then (below_drew1 HB.out) (below_drew1 HB.out).size hb')
      clear c0 c1 HI HB hb'
      obtain ⟨HG, hg_⟩ := HI1.out
      have d0 := cellS140_0 HG
      have d1 := cellS140_1 HG
      have d2 := cellS140_2 HG
      have e0 := blk_frozen HG 0
      have e1 := blk_frozen HG 1
      have e2 := blk_frozen HG 2
      clear HG hg_
      go_wp2
      repeat (go_quiet (fail); try go_wp2)
      go_ret
      exact ⟨rfl, by repeat (first | (with_reducible first | exact HI1.out | apply IsS140.alloc | apply IsS140.drewN | apply IsS140.drew | apply IsS140.set_0 | apply IsS140.set_1 | apply IsS140.set_2) | exact HI1.out), by repeat (first | (with_reducible first | exact HB1.out | apply below_alloc | apply pw_below_drewN | apply below_drew1 | refine below_set ?_ (IsS140.ge HI1.out)) | exact HB1.out), by repeat (first | (with_reducible first | exact HK1.out | apply KeepBut.set_ | apply keep_drewN | apply keep_drew | apply keep_alloc) | exact HK1.out)⟩
    | false =>
      obtain ⟨rfl, rfl, rfl, rfl⟩ : 0 = r1 ∧ s0_0 = r2 ∧ s0_1 = r3 ∧ true = r4 := by simpa using hr
      clear hr
      go_enter Try.func108, Try.ntmps108
      go_wp2_with fail
      go_region_held3 (fun w' => w'.cell? ⟨g, 0, none⟩ = some (.string s0_0) ∧ w'.cell? ⟨g, 1, none⟩ = some (.int .i64 s0_1) ∧ g < w'.heap.size) (first | go_keep | exact ⟨(hb'.cell (p := ⟨g, 0, none⟩) hlt).trans c0, (hb'.cell (p := ⟨g, 1, none⟩) hlt).trans c1, Nat.lt_of_lt_of_le hlt hb'.size⟩) (first | (go_at_call 92; refine (impl_ReadVar.calls k s0_0 s0_1 n nx false _ HT.out).mono ?_; rintro e w' ⟨rfl, hb'⟩))
      have HI1 := Aside0.mk ((IsS140.drew HI.out).below hb')
      have HK1 := Aside0.mk ((keep_drew (KeepBut.refl w g none)).trans (KeepBut.of_below hb' g none) (.inl rfl))
      have HB1 := Aside0.mk (below_then (below_drew1 HB.out) (below_drew1 HB.out).size hb')
      clear c0 c1 HI HB hb'
      obtain ⟨HG, hg_⟩ := HI1.out
      have d0 := cellS140_0 HG
      have d1 := cellS140_1 HG
      have d2 := cellS140_2 HG
      have e0 := blk_frozen HG 0
      have e1 := blk_frozen HG 1
      have e2 := blk_frozen HG 2
      clear HG hg_
      go_wp2
      repeat (go_quiet (fail); try go_wp2)
      go_ret
      exact ⟨rfl, by repeat (first | (with_reducible first | exact HI1.out | apply IsS140.alloc | apply IsS140.drewN | apply IsS140.drew | apply IsS140.set_0 | apply IsS140.set_1 | apply IsS140.set_2) | exact HI1.out), by repeat (first | (with_reducible first | exact HB1.out | apply below_alloc | apply pw_below_drewN | apply below_drew1 | refine below_set ?_ (IsS140.ge HI1.out)) | exact HB1.out), by repeat (first | (with_reducible first | exact HK1.out | apply KeepBut.set_ | apply keep_drewN | apply keep_drew | apply keep_alloc) | exact HK1.out)⟩

/-! ### impl_ReadEntry: function 55 -/
def impl_ReadEntry.j0 : Nat → ByteArray → Int → Bool → ByteArray → Int → Bool → Int → Int → ByteArray → Option (Int × Int × Int × ByteArray × Bool)
  | 0, _, _, _, _, _, _, _, _, _ => none
  | k + 1, x0, x7, x28, x199000, x199001, x199002, x216000, x216001, x216002 => if x28 = true then (some (0, 0, 0, (⟨#[]⟩ : ByteArray), false)) else (if 0 ≤ x199001 then (if x199001 ≤ (x0.size : Int) then ((impl_EntryOk.f k x216000 x216001 (x0.extract (x199001 : Int).toNat x0.size)).bind fun t216 => (if t216 = true then ((impl_within.f x7 1 1000000).bind fun t217 => (if t217 = true then (some (x7, x216000, x216001, x0.extract (x199001 : Int).toNat x0.size, true)) else (some (0, 0, 0, (⟨#[]⟩ : ByteArray), false)))) else (some (0, 0, 0, (⟨#[]⟩ : ByteArray), false)))) else (none)) else (none))
def impl_ReadEntry.f (k : Nat) (a0 : ByteArray) : Option (Int × Int × Int × ByteArray × Bool) := (impl_reader_byte.f a0 0 false).bind fun bt199 => ((impl_reader_num.f k bt199.2.1 bt199.2.2.1 bt199.2.2.2).bind fun bt203 => ((impl_reader_num.f k bt203.2.1 bt203.2.2.1 bt203.2.2.2).bind fun bt207 => ((impl_reader_byte.f bt207.2.1 bt207.2.2.1 bt207.2.2.2).bind fun bt211 => (if bt211.2.2.2 = true then (impl_ReadEntry.j0 k a0 bt203.1 true bt211.2.1 bt211.2.2.1 bt211.2.2.2 bt207.1 bt211.1 (⟨#[]⟩ : ByteArray)) else (impl_ReadEntry.j0 k a0 bt203.1 (bt199.1 != 69) bt211.2.1 bt211.2.2.1 bt211.2.2.2 bt207.1 bt211.1 (⟨#[]⟩ : ByteArray))))))
theorem impl_ReadEntry.mono_l : ∀ k, (∀ y0 y1 y2 y3 y4 y5 y6 y7 y8, LeO (impl_ReadEntry.j0 k y0 y1 y2 y3 y4 y5 y6 y7 y8) (impl_ReadEntry.j0 (k + 1) y0 y1 y2 y3 y4 y5 y6 y7 y8))
  | 0 => fun _ _ _ _ _ _ _ _ _ r h => by simp [impl_ReadEntry.j0] at h
  | k + 1 => by
    have ih0 := impl_ReadEntry.mono_l k
    · intro y0 y1 y2 y3 y4 y5 y6 y7 y8
      unfold impl_ReadEntry.j0
      repeat' first
      | (with_reducible exact ih0 _ _ _ _ _ _ _ _ _)
      | (with_reducible exact impl_EntryOk.mono _ _ _ _)
      | (with_reducible exact impl_reader_num.mono _ _ _ _)
      | (with_reducible exact LeO.refl _)
      | (with_reducible exact LeO.none _)
      | (with_reducible refine LeO.ite ?_ ?_)
      | (with_reducible refine LeO.bind ?_ (fun _ => ?_))
      | exact ih0 _ _ _ _ _ _ _ _ _
      | exact impl_EntryOk.mono _ _ _ _
      | exact impl_reader_num.mono _ _ _ _
      | exact LeO.none _
      | refine LeO.ite ?_ ?_
      | refine LeO.bind ?_ (fun _ => ?_)
theorem impl_ReadEntry.mono : ∀ a0 k, LeO (impl_ReadEntry.f k a0) (impl_ReadEntry.f (k + 1) a0) := by
  intro a0 k
  have ih0 := impl_ReadEntry.mono_l k
  unfold impl_ReadEntry.f
  repeat' first
      | (with_reducible exact ih0 _ _ _ _ _ _ _ _ _)
      | (with_reducible exact impl_EntryOk.mono _ _ _ _)
      | (with_reducible exact impl_reader_num.mono _ _ _ _)
      | (with_reducible exact LeO.refl _)
      | (with_reducible exact LeO.none _)
      | (with_reducible refine LeO.ite ?_ ?_)
      | (with_reducible refine LeO.bind ?_ (fun _ => ?_))
      | exact ih0 _ _ _ _ _ _ _ _ _
      | exact impl_EntryOk.mono _ _ _ _
      | exact impl_reader_num.mono _ _ _ _
      | exact LeO.none _
      | refine LeO.ite ?_ ?_
      | refine LeO.bind ?_ (fun _ => ?_)
set_option maxHeartbeats 8000000 in
set_option maxRecDepth 100000 in
theorem impl_ReadEntry.calls (k : Nat) (a0 : ByteArray) (r1 : Int) (r2 : Int) (r3 : Int) (r4 : ByteArray) (r5 : Bool) (w : World) (h : impl_ReadEntry.f k a0 = some (r1, r2, r3, r4, r5)) :
    Calls Try.prog 55 #[.string a0] w fun e w' => e = .returned (.tuple #[.int .i64 r1, .agg #[.int .i64 r2, .int .i64 r3, .string r4], .bool r5]) ∧ Below w.heap.size w w' := by
  have hu47 := Try.underlying47
  have hu140 := Try.underlying140
  have HB := Aside0.mk (Below.refl w.heap.size w)
  have H : ((impl_reader_byte.f a0 0 false).bind fun bt199 => ((impl_reader_num.f k bt199.2.1 bt199.2.2.1 bt199.2.2.2).bind fun bt203 => ((impl_reader_num.f k bt203.2.1 bt203.2.2.1 bt203.2.2.2).bind fun bt207 => ((impl_reader_byte.f bt207.2.1 bt207.2.2.1 bt207.2.2.2).bind fun bt211 => (if bt211.2.2.2 = true then (impl_ReadEntry.j0 k a0 bt203.1 true bt211.2.1 bt211.2.2.1 bt211.2.2.2 bt207.1 bt211.1 (⟨#[]⟩ : ByteArray)) else (impl_ReadEntry.j0 k a0 bt203.1 (bt199.1 != 69) bt211.2.1 bt211.2.2.1 bt211.2.2.2 bt207.1 bt211.1 (⟨#[]⟩ : ByteArray))))))) = some (r1, r2, r3, r4, r5) := h
  clear h
  replace H := Option.bind_eq_some_iff.mp H
  obtain ⟨⟨t199, t200, t201, t202⟩, A20, H⟩ := H
  replace H : ((impl_reader_num.f k t200 t201 t202).bind fun bt203 => ((impl_reader_num.f k bt203.2.1 bt203.2.2.1 bt203.2.2.2).bind fun bt207 => ((impl_reader_byte.f bt207.2.1 bt207.2.2.1 bt207.2.2.2).bind fun bt211 => (if bt211.2.2.2 = true then (impl_ReadEntry.j0 k a0 bt203.1 true bt211.2.1 bt211.2.2.1 bt211.2.2.2 bt207.1 bt211.1 (⟨#[]⟩ : ByteArray)) else (impl_ReadEntry.j0 k a0 bt203.1 (t199 != 69) bt211.2.1 bt211.2.2.1 bt211.2.2.2 bt207.1 bt211.1 (⟨#[]⟩ : ByteArray)))))) = some (r1, r2, r3, r4, r5) := H
  have A2 := Aside0.mk A20
  clear A20
  replace H := Option.bind_eq_some_iff.mp H
  obtain ⟨⟨t203, t204, t205, t206⟩, A30, H⟩ := H
  replace H : ((impl_reader_num.f k t204 t205 t206).bind fun bt207 => ((impl_reader_byte.f bt207.2.1 bt207.2.2.1 bt207.2.2.2).bind fun bt211 => (if bt211.2.2.2 = true then (impl_ReadEntry.j0 k a0 t203 true bt211.2.1 bt211.2.2.1 bt211.2.2.2 bt207.1 bt211.1 (⟨#[]⟩ : ByteArray)) else (impl_ReadEntry.j0 k a0 t203 (t199 != 69) bt211.2.1 bt211.2.2.1 bt211.2.2.2 bt207.1 bt211.1 (⟨#[]⟩ : ByteArray))))) = some (r1, r2, r3, r4, r5) := H
  have A3 := Aside0.mk A30
  clear A30
  replace H := Option.bind_eq_some_iff.mp H
  obtain ⟨⟨t207, t208, t209, t210⟩, A40, H⟩ := H
  replace H : ((impl_reader_byte.f t208 t209 t210).bind fun bt211 => (if bt211.2.2.2 = true then (impl_ReadEntry.j0 k a0 t203 true bt211.2.1 bt211.2.2.1 bt211.2.2.2 t207 bt211.1 (⟨#[]⟩ : ByteArray)) else (impl_ReadEntry.j0 k a0 t203 (t199 != 69) bt211.2.1 bt211.2.2.1 bt211.2.2.2 t207 bt211.1 (⟨#[]⟩ : ByteArray)))) = some (r1, r2, r3, r4, r5) := H
  have A4 := Aside0.mk A40
  clear A40
  replace H := Option.bind_eq_some_iff.mp H
  obtain ⟨⟨t211, t212, t213, t214⟩, A50, H⟩ := H
  replace H : (if t214 = true then (impl_ReadEntry.j0 k a0 t203 true t212 t213 t214 t207 t211 (⟨#[]⟩ : ByteArray)) else (impl_ReadEntry.j0 k a0 t203 (t199 != 69) t212 t213 t214 t207 t211 (⟨#[]⟩ : ByteArray))) = some (r1, r2, r3, r4, r5) := H
  have A5 := Aside0.mk A50
  clear A50
  have HC6 := Aside0.mk H
  clear H
  go_enter Try.func55, Try.ntmps55
  go_upto_region 5 with (first | ((with_reducible refine gate_dst (N := 3) rfl ?_); refine box_event ?hg (N := 3) ?hd (cs := #[.int .i64 0, .int .i64 0, .string (⟨#[]⟩ : ByteArray)]) (t := 47) ?hr ?_; (case hd => rfl); (case hg => rfl); (case hr => first | (go_simp; done) | (go_simp; rfl)); intro gb197 hg w7 hbox hb; have n0_ := Aside0.mk (below_step (by repeat (first | (with_reducible first | exact HB.out | apply below_alloc | apply pw_below_drewN | apply below_drew1) | exact HB.out)) hb); have n1_ := Aside0.mk (hbox); have n2_ := Aside0.mk ((by rw [hg]; exact (below_size (by repeat (first | (with_reducible first | exact HB.out | apply below_alloc | apply pw_below_drewN | apply below_drew1) | exact HB.out))) : w.heap.size ≤ gb197)); have n3_ := Aside0.mk ((by rw [hg]; exact (below_size (by repeat (first | (with_reducible first | exact HB.out | apply below_alloc | apply pw_below_drewN | apply below_drew1) | exact HB.out))) : w.heap.size ≤ gb197)); clear HB; have HB := n0_; have BK197 := n1_; have GW197 := n2_; have GE197 := n3_; clear n0_ n1_ n2_ n3_; clear hb hbox hg) | ((with_reducible refine gate_dst (N := 11) rfl ?_); refine box_event ?hg (N := 11) ?hd (cs := #[.string a0, .int .i64 0, .bool false]) (t := 140) ?hr ?_; (case hd => rfl); (case hg => rfl); (case hr => first | (go_simp; done) | (go_simp; rfl)); intro gb198 hg w8 hbox hb; have n0_ := Aside0.mk (blk_below (g := gb197) (o := .cells #[.int .i64 0, .int .i64 0, .string (⟨#[]⟩ : ByteArray)] 47 (0, 0)) (by (with_reducible repeat (first | refine blk_drewN ?_ _ | refine blk_drew ?_ | refine blk_alloc ?_ _)); exact BK197.out) hb); have n1_ := Aside0.mk (below_step (by repeat (first | (with_reducible first | exact HB.out | apply below_alloc | apply pw_below_drewN | apply below_drew1 | refine below_set ?_ GE197.out) | exact HB.out)) hb); have n2_ := Aside0.mk ((by rw [hg]; exact (below_size (by repeat (first | (with_reducible first | exact HB.out | apply below_alloc | apply pw_below_drewN | apply below_drew1 | refine below_set ?_ GE197.out) | exact HB.out))) : w.heap.size ≤ gb198)); have n3_ := Aside0.mk ((by rw [hg]; exact (below_size (by repeat (first | (with_reducible first | exact HB.out | apply below_alloc | apply pw_below_drewN | apply below_drew1 | refine below_set ?_ GE197.out) | exact HB.out))) : w.heap.size ≤ gb198)); have n4_ := Aside0.mk ((by rw [hg]; exact Nat.ne_of_lt (blk_lt (g := gb197) (o := .cells #[.int .i64 0, .int .i64 0, .string (⟨#[]⟩ : ByteArray)] 47 (0, 0)) (by (with_reducible repeat (first | refine blk_drewN ?_ _ | refine blk_drew ?_ | refine blk_alloc ?_ _)); exact BK197.out)) : gb197 ≠ gb198)); have n5_ := Aside0.mk ((by rw [hg]; exact Nat.ne_of_gt (blk_lt (g := gb197) (o := .cells #[.int .i64 0, .int .i64 0, .string (⟨#[]⟩ : ByteArray)] 47 (0, 0)) (by (with_reducible repeat (first | refine blk_drewN ?_ _ | refine blk_drew ?_ | refine blk_alloc ?_ _)); exact BK197.out)) : gb198 ≠ gb197)); have n6_ := Aside0.mk ((⟨hbox, (by rw [hg]; exact (below_size (by repeat (first | (with_reducible first | exact HB.out | apply below_alloc | apply pw_below_drewN | apply below_drew1 | refine below_set ?_ GE197.out) | exact HB.out))) : w.heap.size ≤ gb198)⟩ : IsS140 w w8 gb198 a0 0 false)); clear BK197; clear HB; have BK197 := n0_; have HB := n1_; have GW198 := n2_; have GE198 := n3_; have NB197_198 := n4_; have NB198_197 := n5_; have HI198 := n6_; clear n0_ n1_ n2_ n3_ n4_ n5_ n6_; clear hb hbox hg) | ((with_reducible refine gate_callee (f := 107) rfl ?_); refine goesL_ (some 13) rfl rfl Try.func107 (by kernel_rfl) rfl #[.pointer (some ⟨gb198, 0, none⟩)] rfl (by (try simp only [List.map_toArray, List.map_cons, List.map_nil]); first | done | rfl | (simp only [List.length_drop, List.length_take]; rfl)) ?_; (with_reducible refine (impl_reader_byte.calls gb198 a0 0 false t199 t200 t201 t202 w _ ?side1 ?side2 A2.out).mono ?_); (case side1 => repeat (first | (with_reducible first | exact HI198.out | apply IsS140.alloc | apply IsS140.drewN | apply IsS140.drew | apply IsS140.set_0 | apply IsS140.set_1 | apply IsS140.set_2 | refine IsS140.far ?_ NB198_197.out _) | exact HI198.out)); (case side2 => repeat (first | (with_reducible first | exact HB.out | apply below_alloc | apply pw_below_drewN | apply below_drew1 | refine below_set ?_ (IsS140.ge HI198.out) | refine below_set ?_ GE197.out) | exact HB.out)); rintro e w9 ⟨rfl, hi, hb, hk⟩; refine ⟨_, rfl, ?_⟩; have n0_ := Aside0.mk (KeepBut.blk hk (g' := gb197) (o := .cells #[.int .i64 0, .int .i64 0, .string (⟨#[]⟩ : ByteArray)] 47 (0, 0)) (by (with_reducible repeat (first | refine blk_drewN ?_ _ | refine blk_drew ?_ | refine blk_alloc ?_ _)); exact BK197.out) NB197_198.out (by simp)); have n1_ := Aside0.mk (hb); have n2_ := Aside0.mk (hi); clear BK197; clear HB; clear HI198; have BK197 := n0_; have HB := n1_; have HI198 := n2_; clear n0_ n1_ n2_; (try clear hb); (try clear hb2); (try clear hk); (try clear hi)) | ((with_reducible refine gate_callee (f := 108) rfl ?_); refine goesL_ (some 15) rfl rfl Try.func108 (by kernel_rfl) rfl #[.pointer (some ⟨gb198, 0, none⟩)] rfl (by (try simp only [List.map_toArray, List.map_cons, List.map_nil]); first | done | rfl | (simp only [List.length_drop, List.length_take]; rfl)) ?_; (with_reducible refine (impl_reader_num.calls k gb198 t200 t201 t202 t203 t204 t205 t206 w _ ?side1 ?side2 A3.out).mono ?_); (case side1 => repeat (first | (with_reducible first | exact HI198.out | apply IsS140.alloc | apply IsS140.drewN | apply IsS140.drew | apply IsS140.set_0 | apply IsS140.set_1 | apply IsS140.set_2 | refine IsS140.far ?_ NB198_197.out _) | exact HI198.out)); (case side2 => repeat (first | (with_reducible first | exact HB.out | apply below_alloc | apply pw_below_drewN | apply below_drew1 | refine below_set ?_ (IsS140.ge HI198.out) | refine below_set ?_ GE197.out) | exact HB.out)); rintro e w10 ⟨rfl, hi, hb, hk⟩; refine ⟨_, rfl, ?_⟩; have n0_ := Aside0.mk (KeepBut.blk hk (g' := gb197) (o := .cells #[.int .i64 0, .int .i64 0, .string (⟨#[]⟩ : ByteArray)] 47 (0, 0)) (by (with_reducible repeat (first | refine blk_drewN ?_ _ | refine blk_drew ?_ | refine blk_alloc ?_ _)); exact BK197.out) NB197_198.out (by simp)); have n1_ := Aside0.mk (hb); have n2_ := Aside0.mk (hi); clear BK197; clear HB; clear HI198; have BK197 := n0_; have HB := n1_; have HI198 := n2_; clear n0_ n1_ n2_; (try clear hb); (try clear hb2); (try clear hk); (try clear hi)) | ((with_reducible refine gate_callee (f := 108) rfl ?_); refine goesL_ (some 17) rfl rfl Try.func108 (by kernel_rfl) rfl #[.pointer (some ⟨gb198, 0, none⟩)] rfl (by (try simp only [List.map_toArray, List.map_cons, List.map_nil]); first | done | rfl | (simp only [List.length_drop, List.length_take]; rfl)) ?_; (with_reducible refine (impl_reader_num.calls k gb198 t204 t205 t206 t207 t208 t209 t210 w _ ?side1 ?side2 A4.out).mono ?_); (case side1 => repeat (first | (with_reducible first | exact HI198.out | apply IsS140.alloc | apply IsS140.drewN | apply IsS140.drew | apply IsS140.set_0 | apply IsS140.set_1 | apply IsS140.set_2 | refine IsS140.far ?_ NB198_197.out _) | exact HI198.out)); (case side2 => repeat (first | (with_reducible first | exact HB.out | apply below_alloc | apply pw_below_drewN | apply below_drew1 | refine below_set ?_ (IsS140.ge HI198.out) | refine below_set ?_ GE197.out) | exact HB.out)); rintro e w11 ⟨rfl, hi, hb, hk⟩; refine ⟨_, rfl, ?_⟩; have n0_ := Aside0.mk (KeepBut.blk hk (g' := gb197) (o := .cells #[.int .i64 0, .int .i64 0, .string (⟨#[]⟩ : ByteArray)] 47 (0, 0)) (by (with_reducible repeat (first | refine blk_drewN ?_ _ | refine blk_drew ?_ | refine blk_alloc ?_ _)); exact BK197.out) NB197_198.out (by simp)); have n1_ := Aside0.mk (hb); have n2_ := Aside0.mk (hi); clear BK197; clear HB; clear HI198; have BK197 := n0_; have HB := n1_; have HI198 := n2_; clear n0_ n1_ n2_; (try clear hb); (try clear hb2); (try clear hk); (try clear hi)) | ((with_reducible refine gate_callee (f := 107) rfl ?_); refine goesL_ (some 19) rfl rfl Try.func107 (by kernel_rfl) rfl #[.pointer (some ⟨gb198, 0, none⟩)] rfl (by (try simp only [List.map_toArray, List.map_cons, List.map_nil]); first | done | rfl | (simp only [List.length_drop, List.length_take]; rfl)) ?_; (with_reducible refine (impl_reader_byte.calls gb198 t208 t209 t210 t211 t212 t213 t214 w _ ?side1 ?side2 A5.out).mono ?_); (case side1 => repeat (first | (with_reducible first | exact HI198.out | apply IsS140.alloc | apply IsS140.drewN | apply IsS140.drew | apply IsS140.set_0 | apply IsS140.set_1 | apply IsS140.set_2 | refine IsS140.far ?_ NB198_197.out _) | exact HI198.out)); (case side2 => repeat (first | (with_reducible first | exact HB.out | apply below_alloc | apply pw_below_drewN | apply below_drew1 | refine below_set ?_ (IsS140.ge HI198.out) | refine below_set ?_ GE197.out) | exact HB.out)); rintro e w12 ⟨rfl, hi, hb, hk⟩; refine ⟨_, rfl, ?_⟩; have n0_ := Aside0.mk (KeepBut.blk hk (g' := gb197) (o := .cells #[.int .i64 0, .int .i64 0, .string (⟨#[]⟩ : ByteArray)] 47 (0, 0)) (by (with_reducible repeat (first | refine blk_drewN ?_ _ | refine blk_drew ?_ | refine blk_alloc ?_ _)); exact BK197.out) NB197_198.out (by simp)); have n1_ := Aside0.mk (hb); have n2_ := Aside0.mk (hi); clear BK197; clear HB; clear HI198; have BK197 := n0_; have HB := n1_; have HI198 := n2_; clear n0_ n1_ n2_; (try clear hb); (try clear hb2); (try clear hk); (try clear hi)) | ((with_reducible refine gate_dst (N := 8) rfl ?_); refine box_event ?hg (N := 8) ?hd (cs := #[.int .i64 0, .int .i64 0, .string (⟨#[]⟩ : ByteArray)]) (t := 47) ?hr ?_; (case hd => rfl); (case hg => rfl); (case hr => first | (go_simp; done) | (go_simp; rfl)); intro gb215 hg w13 hbox hb; have n0_ := Aside0.mk (blk_below (g := gb197) (o := .cells #[.int .i64 0, .int .i64 0, .string (⟨#[]⟩ : ByteArray)] 47 (0, 0)) (by (with_reducible repeat (first | refine blk_drewN ?_ _ | refine blk_drew ?_ | refine blk_alloc ?_ _)); exact BK197.out) hb); have n1_ := Aside0.mk (IsS140.below (by repeat (first | (with_reducible first | exact HI198.out | apply IsS140.alloc | apply IsS140.drewN | apply IsS140.drew | apply IsS140.set_0 | apply IsS140.set_1 | apply IsS140.set_2 | refine IsS140.far ?_ NB198_197.out _) | exact HI198.out)) hb); have n2_ := Aside0.mk (below_step (by repeat (first | (with_reducible first | exact HB.out | apply below_alloc | apply pw_below_drewN | apply below_drew1 | refine below_set ?_ (IsS140.ge HI198.out) | refine below_set ?_ GE197.out) | exact HB.out)) hb); have n3_ := Aside0.mk (hbox); have n4_ := Aside0.mk ((by rw [hg]; exact (below_size (by repeat (first | (with_reducible first | exact HB.out | apply below_alloc | apply pw_below_drewN | apply below_drew1 | refine below_set ?_ (IsS140.ge HI198.out) | refine below_set ?_ GE197.out) | exact HB.out))) : w.heap.size ≤ gb215)); have n5_ := Aside0.mk ((by rw [hg]; exact (below_size (by repeat (first | (with_reducible first | exact HB.out | apply below_alloc | apply pw_below_drewN | apply below_drew1 | refine below_set ?_ (IsS140.ge HI198.out) | refine below_set ?_ GE197.out) | exact HB.out))) : w.heap.size ≤ gb215)); have n6_ := Aside0.mk ((by rw [hg]; exact Nat.ne_of_lt (blk_lt (g := gb197) (o := .cells #[.int .i64 0, .int .i64 0, .string (⟨#[]⟩ : ByteArray)] 47 (0, 0)) (by (with_reducible repeat (first | refine blk_drewN ?_ _ | refine blk_drew ?_ | refine blk_alloc ?_ _)); exact BK197.out)) : gb197 ≠ gb215)); have n7_ := Aside0.mk ((by rw [hg]; exact Nat.ne_of_gt (blk_lt (g := gb197) (o := .cells #[.int .i64 0, .int .i64 0, .string (⟨#[]⟩ : ByteArray)] 47 (0, 0)) (by (with_reducible repeat (first | refine blk_drewN ?_ _ | refine blk_drew ?_ | refine blk_alloc ?_ _)); exact BK197.out)) : gb215 ≠ gb197)); have n8_ := Aside0.mk ((by rw [hg]; exact Nat.ne_of_lt (IsS140.lt (show IsS140 w _ gb198 t212 t213 t214 from by repeat (first | (with_reducible first | exact HI198.out | apply IsS140.alloc | apply IsS140.drewN | apply IsS140.drew | apply IsS140.set_0 | apply IsS140.set_1 | apply IsS140.set_2 | refine IsS140.far ?_ NB198_197.out _) | exact HI198.out))) : gb198 ≠ gb215)); have n9_ := Aside0.mk ((by rw [hg]; exact Nat.ne_of_gt (IsS140.lt (show IsS140 w _ gb198 t212 t213 t214 from by repeat (first | (with_reducible first | exact HI198.out | apply IsS140.alloc | apply IsS140.drewN | apply IsS140.drew | apply IsS140.set_0 | apply IsS140.set_1 | apply IsS140.set_2 | refine IsS140.far ?_ NB198_197.out _) | exact HI198.out))) : gb215 ≠ gb198)); clear BK197; clear HI198; clear HB; have BK197 := n0_; have HI198 := n1_; have HB := n2_; have BK215 := n3_; have GW215 := n4_; have GE215 := n5_; have NB197_215 := n6_; have NB215_197 := n7_; have NB198_215 := n8_; have NB215_198 := n9_; clear n0_ n1_ n2_ n3_ n4_ n5_ n6_ n7_ n8_ n9_; clear hb hbox hg; have hnb14 := NB215_197.out; have hnc14 := NB197_215.out; have hnb15 := NB215_198.out; have hnc15 := NB198_215.out; have hcz16_0 : w13.cell? ⟨gb215, 0, none⟩ = some (.int .i64 0) := (blk_cell BK215.out 0).trans rfl; have hcz16_1 : w13.cell? ⟨gb215, 1, none⟩ = some (.int .i64 0) := (blk_cell BK215.out 1).trans rfl; have hcz16_2 : w13.cell? ⟨gb215, 2, none⟩ = some (.string (⟨#[]⟩ : ByteArray)) := (blk_cell BK215.out 2).trans rfl; have hfz16_0 := blk_frozen BK215.out 0; have hfz16_1 := blk_frozen BK215.out 1; have hfz16_2 := blk_frozen BK215.out 2))
  (try simp only [Act.put, List.setIfInBounds_toArray, List.set_cons_zero, List.set_cons_succ])
  go_cut [28] (fun v28 wc => ∃ (kq : Nat) (x28_5 : Bool), v28 = .bool x28_5 ∧ Aside0 (impl_ReadEntry.j0 kq a0 t203 x28_5 t212 t213 t214 t207 t211 (⟨#[]⟩ : ByteArray) = some (r1, r2, r3, r4, r5)) ∧ Aside0 (kq ≤ k) ∧ Aside0 (wc.heap[gb197]? = some (.cells #[.int .i64 0, .int .i64 0, .string (⟨#[]⟩ : ByteArray)] 47 (0, 0))) ∧ Aside0 (wc.heap[gb215]? = some (.cells #[.int .i64 t207, .int .i64 t211, .string (⟨#[]⟩ : ByteArray)] 47 (0, 0))) ∧ Aside0 (IsS140 w wc gb198 t212 t213 t214) ∧ Aside0 (Below w.heap.size w wc))
  case first =>
    have H := HC6.out
    clear HC6
    by_cases c17 : t214 = true
    · subst c17
      have H1 : (impl_ReadEntry.j0 k a0 t203 true t212 t213 true t207 t211 (⟨#[]⟩ : ByteArray)) = some (r1, r2, r3, r4, r5) := by rw [if_pos rfl] at H; exact H
      clear H
      have H := H1
      clear H1
      have H' := Aside0.mk H
      clear H
      obtain ⟨HGz18, hgz18⟩ := HI198.out
      have hcz18_0 := cellS140_0 HGz18
      have hcz18_1 := cellS140_1 HGz18
      have hcz18_2 := cellS140_2 HGz18
      have hfz18_0 := blk_frozen HGz18 0
      have hfz18_1 := blk_frozen HGz18 1
      have hfz18_2 := blk_frozen HGz18 2
      clear HGz18 hgz18
      go_wp2
      go_meet
      case rel => exact ⟨_, (true), (by first | rfl | (simp; done) | (simp [*]; done)), H', ⟨by first | omega | exact Nat.le_refl _⟩, ⟨by (with_reducible repeat (first | refine blk_drewN ?_ _ | refine blk_drew ?_ | refine blk_alloc ?_ _)); refine blk_far ?_ NB197_215.out _; (with_reducible repeat (first | refine blk_drewN ?_ _ | refine blk_drew ?_ | refine blk_alloc ?_ _)); refine blk_far ?_ NB197_215.out _; (with_reducible repeat (first | refine blk_drewN ?_ _ | refine blk_drew ?_ | refine blk_alloc ?_ _)); refine blk_far ?_ NB197_215.out _; (with_reducible repeat (first | refine blk_drewN ?_ _ | refine blk_drew ?_ | refine blk_alloc ?_ _)); exact BK197.out⟩, ⟨by (with_reducible repeat (first | refine blk_drewN ?_ _ | refine blk_drew ?_ | refine blk_alloc ?_ _)); refine blk_put (cs := #[.int .i64 t207, .int .i64 t211, .string (⟨#[]⟩ : ByteArray)]) ?_ 2 _ rfl; (with_reducible repeat (first | refine blk_drewN ?_ _ | refine blk_drew ?_ | refine blk_alloc ?_ _)); refine blk_put (cs := #[.int .i64 t207, .int .i64 0, .string (⟨#[]⟩ : ByteArray)]) ?_ 1 _ rfl; (with_reducible repeat (first | refine blk_drewN ?_ _ | refine blk_drew ?_ | refine blk_alloc ?_ _)); refine blk_put (cs := #[.int .i64 0, .int .i64 0, .string (⟨#[]⟩ : ByteArray)]) ?_ 0 _ rfl; (with_reducible repeat (first | refine blk_drewN ?_ _ | refine blk_drew ?_ | refine blk_alloc ?_ _)); exact BK215.out⟩, ⟨by repeat (first | (with_reducible first | exact HI198.out | apply IsS140.alloc | apply IsS140.drewN | apply IsS140.drew | apply IsS140.set_0 | apply IsS140.set_1 | apply IsS140.set_2 | refine IsS140.far ?_ NB198_197.out _ | refine IsS140.far ?_ NB198_215.out _) | exact HI198.out)⟩, ⟨by repeat (first | (with_reducible first | exact HB.out | apply below_alloc | apply pw_below_drewN | apply below_drew1 | refine below_set ?_ (IsS140.ge HI198.out) | refine below_set ?_ GE197.out | refine below_set ?_ GE215.out) | exact HB.out)⟩⟩
    · replace c17 := Bool.eq_false_iff.mpr c17
      subst c17
      have H1 : (impl_ReadEntry.j0 k a0 t203 (t199 != 69) t212 t213 false t207 t211 (⟨#[]⟩ : ByteArray)) = some (r1, r2, r3, r4, r5) := by rw [if_neg (show ¬ (false = true) by decide)] at H; exact H
      clear H
      have H := H1
      clear H1
      have H' := Aside0.mk H
      clear H
      obtain ⟨HGz19, hgz19⟩ := HI198.out
      have hcz19_0 := cellS140_0 HGz19
      have hcz19_1 := cellS140_1 HGz19
      have hcz19_2 := cellS140_2 HGz19
      have hfz19_0 := blk_frozen HGz19 0
      have hfz19_1 := blk_frozen HGz19 1
      have hfz19_2 := blk_frozen HGz19 2
      clear HGz19 hgz19
      go_wp2
      go_meet
      case rel => exact ⟨_, ((t199 != 69)), (by first | rfl | (simp; done) | (simp [*]; done)), H', ⟨by first | omega | exact Nat.le_refl _⟩, ⟨by (with_reducible repeat (first | refine blk_drewN ?_ _ | refine blk_drew ?_ | refine blk_alloc ?_ _)); refine blk_far ?_ NB197_215.out _; (with_reducible repeat (first | refine blk_drewN ?_ _ | refine blk_drew ?_ | refine blk_alloc ?_ _)); refine blk_far ?_ NB197_215.out _; (with_reducible repeat (first | refine blk_drewN ?_ _ | refine blk_drew ?_ | refine blk_alloc ?_ _)); refine blk_far ?_ NB197_215.out _; (with_reducible repeat (first | refine blk_drewN ?_ _ | refine blk_drew ?_ | refine blk_alloc ?_ _)); exact BK197.out⟩, ⟨by (with_reducible repeat (first | refine blk_drewN ?_ _ | refine blk_drew ?_ | refine blk_alloc ?_ _)); refine blk_put (cs := #[.int .i64 t207, .int .i64 t211, .string (⟨#[]⟩ : ByteArray)]) ?_ 2 _ rfl; (with_reducible repeat (first | refine blk_drewN ?_ _ | refine blk_drew ?_ | refine blk_alloc ?_ _)); refine blk_put (cs := #[.int .i64 t207, .int .i64 0, .string (⟨#[]⟩ : ByteArray)]) ?_ 1 _ rfl; (with_reducible repeat (first | refine blk_drewN ?_ _ | refine blk_drew ?_ | refine blk_alloc ?_ _)); refine blk_put (cs := #[.int .i64 0, .int .i64 0, .string (⟨#[]⟩ : ByteArray)]) ?_ 0 _ rfl; (with_reducible repeat (first | refine blk_drewN ?_ _ | refine blk_drew ?_ | refine blk_alloc ?_ _)); exact BK215.out⟩, ⟨by repeat (first | (with_reducible first | exact HI198.out | apply IsS140.alloc | apply IsS140.drewN | apply IsS140.drew | apply IsS140.set_0 | apply IsS140.set_1 | apply IsS140.set_2 | refine IsS140.far ?_ NB198_197.out _ | refine IsS140.far ?_ NB198_215.out _) | exact HI198.out)⟩, ⟨by repeat (first | (with_reducible first | exact HB.out | apply below_alloc | apply pw_below_drewN | apply below_drew1 | refine below_set ?_ (IsS140.ge HI198.out) | refine below_set ?_ GE197.out | refine below_set ?_ GE215.out) | exact HB.out)⟩⟩
  case rest =>
    clear HC6
    try clear c1
    try clear p2
    try clear c5
    try clear c10
    try clear c14
    try clear c15
    try clear c17
    try clear hcz16_0
    try clear hcz16_1
    try clear hcz16_2
    try clear hcz18_0
    try clear hcz18_1
    try clear hcz18_2
    try clear hcz19_0
    try clear hcz19_1
    try clear hcz19_2
    try clear hfz16_0
    try clear hfz16_1
    try clear hfz16_2
    try clear hfz18_0
    try clear hfz18_1
    try clear hfz18_2
    try clear hfz19_0
    try clear hfz19_1
    try clear hfz19_2
    obtain ⟨kq, x28_5, rfl, HA, HJ5, BK197, BK215, HI198, HB⟩ := hcut
    cases kq with
    | zero => exact absurd HA.out (by simp [impl_ReadEntry.j0])
    | succ kj5 =>
      have H := HA.out
      clear HA
      simp only [impl_ReadEntry.j0] at H
      by_cases c20 : x28_5 = true
      · subst c20
        have H1 : (some (0, 0, 0, (⟨#[]⟩ : ByteArray), false)) = some (r1, r2, r3, r4, r5) := by rw [if_pos rfl] at H; exact H
        clear H
        have H := H1
        clear H1
        simp only [Option.some.injEq, Prod.mk.injEq] at H
        obtain ⟨rfl, rfl, rfl, rfl, rfl⟩ := H
        have hnb21 := NB197_215.out
        have hnc21 := NB215_197.out
        have hnb22 := NB197_198.out
        have hnc22 := NB198_197.out
        have hcz23_0 : wc.cell? ⟨gb197, 0, none⟩ = some (.int .i64 0) := (blk_cell BK197.out 0).trans rfl
        have hcz23_1 : wc.cell? ⟨gb197, 1, none⟩ = some (.int .i64 0) := (blk_cell BK197.out 1).trans rfl
        have hcz23_2 : wc.cell? ⟨gb197, 2, none⟩ = some (.string (⟨#[]⟩ : ByteArray)) := (blk_cell BK197.out 2).trans rfl
        have hfz23_0 := blk_frozen BK197.out 0
        have hfz23_1 := blk_frozen BK197.out 1
        have hfz23_2 := blk_frozen BK197.out 2
        go_wp2
        refine bodyPost_ret (results_list (rs := [.tmp 2, .cell 3 47, .tmp 4]) rfl (by simp) (.tmp (.cell gb197 47 #[.int .i64 0, .int .i64 0, .string (⟨#[]⟩ : ByteArray)] (0, 0) _ rfl (by (with_reducible repeat (first | refine blk_drewN ?_ _ | refine blk_drew ?_ | refine blk_alloc ?_ _)); refine blk_put (cs := #[.int .i64 0, .int .i64 0, .string (⟨#[]⟩ : ByteArray)]) ?_ 2 _ rfl; (with_reducible repeat (first | refine blk_drewN ?_ _ | refine blk_drew ?_ | refine blk_alloc ?_ _)); refine blk_put (cs := #[.int .i64 0, .int .i64 0, .string (⟨#[]⟩ : ByteArray)]) ?_ 1 _ rfl; (with_reducible repeat (first | refine blk_drewN ?_ _ | refine blk_drew ?_ | refine blk_alloc ?_ _)); refine blk_put (cs := #[.int .i64 0, .int .i64 0, .string (⟨#[]⟩ : ByteArray)]) ?_ 0 _ rfl; (with_reducible repeat (first | refine blk_drewN ?_ _ | refine blk_drew ?_ | refine blk_alloc ?_ _)); exact BK197.out) Try.underlying47 rfl (by kernel_rfl) (.tmp .nil)))) rfl ?_
        exact ⟨by first | rfl | (simp [errW_none, errW_some] <;> rfl) | (simp [*, errW_none, errW_some] <;> rfl), by repeat (first | (with_reducible first | exact HB.out | apply below_alloc | apply pw_below_drewN | apply below_drew1 | refine below_set ?_ (IsS140.ge HI198.out) | refine below_set ?_ GE197.out | refine below_set ?_ GE215.out) | exact HB.out)⟩
      · replace c20 := Bool.eq_false_iff.mpr c20
        subst c20
        have H1 : (if 0 ≤ t213 then (if t213 ≤ (a0.size : Int) then ((impl_EntryOk.f kj5 t207 t211 (a0.extract (t213 : Int).toNat a0.size)).bind fun t216 => (if t216 = true then ((impl_within.f t203 1 1000000).bind fun t217 => (if t217 = true then (some (t203, t207, t211, a0.extract (t213 : Int).toNat a0.size, true)) else (some (0, 0, 0, (⟨#[]⟩ : ByteArray), false)))) else (some (0, 0, 0, (⟨#[]⟩ : ByteArray), false)))) else (none)) else (none)) = some (r1, r2, r3, r4, r5) := by rw [if_neg (show ¬ (false = true) by decide)] at H; exact H
        clear H
        have H := H1
        clear H1
        by_cases c24 : 0 ≤ t213
        · rw [if_pos c24] at H
          have c24b0 := eq_true c24
          have c24b1 : decide (0 ≤ t213) = true := decide_eq_true c24
          clear c24
          by_cases c25 : t213 ≤ (a0.size : Int)
          · rw [if_pos c25] at H
            have c25b0 := eq_true c25
            have c25b1 : decide (t213 ≤ (a0.size : Int)) = true := decide_eq_true c25
            clear c25
            replace H := Option.bind_eq_some_iff.mp H
            obtain ⟨t216, A260, H⟩ := H
            replace H : (if t216 = true then ((impl_within.f t203 1 1000000).bind fun t217 => (if t217 = true then (some (t203, t207, t211, a0.extract (t213 : Int).toNat a0.size, true)) else (some (0, 0, 0, (⟨#[]⟩ : ByteArray), false)))) else (some (0, 0, 0, (⟨#[]⟩ : ByteArray), false))) = some (r1, r2, r3, r4, r5) := H
            have A26 := Aside0.mk A260
            clear A260
            by_cases c27 : t216 = true
            · subst c27
              have H1 : ((impl_within.f t203 1 1000000).bind fun t217 => (if t217 = true then (some (t203, t207, t211, a0.extract (t213 : Int).toNat a0.size, true)) else (some (0, 0, 0, (⟨#[]⟩ : ByteArray), false)))) = some (r1, r2, r3, r4, r5) := by rw [if_pos rfl] at H; exact H
              clear H
              have H := H1
              clear H1
              replace H := Option.bind_eq_some_iff.mp H
              obtain ⟨t217, A280, H⟩ := H
              replace H : (if t217 = true then (some (t203, t207, t211, a0.extract (t213 : Int).toNat a0.size, true)) else (some (0, 0, 0, (⟨#[]⟩ : ByteArray), false))) = some (r1, r2, r3, r4, r5) := H
              have A28 := Aside0.mk A280
              clear A280
              by_cases c29 : t217 = true
              · subst c29
                have H1 : (some (t203, t207, t211, a0.extract (t213 : Int).toNat a0.size, true)) = some (r1, r2, r3, r4, r5) := by rw [if_pos rfl] at H; exact H
                clear H
                have H := H1
                clear H1
                simp only [Option.some.injEq, Prod.mk.injEq] at H
                obtain ⟨rfl, rfl, rfl, rfl, rfl⟩ := H
                obtain ⟨HGz30, hgz30⟩ := HI198.out
                have hcz30_0 := cellS140_0 HGz30
                have hcz30_1 := cellS140_1 HGz30
                have hcz30_2 := cellS140_2 HGz30
                have hfz30_0 := blk_frozen HGz30 0
                have hfz30_1 := blk_frozen HGz30 1
                have hfz30_2 := blk_frozen HGz30 2
                clear HGz30 hgz30
                have hnb31 := NB215_197.out
                have hnc31 := NB197_215.out
                have hnb32 := NB215_198.out
                have hnc32 := NB198_215.out
                have hcz33_0 : wc.cell? ⟨gb215, 0, none⟩ = some (.int .i64 t207) := (blk_cell BK215.out 0).trans rfl
                have hcz33_1 : wc.cell? ⟨gb215, 1, none⟩ = some (.int .i64 t211) := (blk_cell BK215.out 1).trans rfl
                have hcz33_2 : wc.cell? ⟨gb215, 2, none⟩ = some (.string (⟨#[]⟩ : ByteArray)) := (blk_cell BK215.out 2).trans rfl
                have hfz33_0 := blk_frozen BK215.out 0
                have hfz33_1 := blk_frozen BK215.out 1
                have hfz33_2 := blk_frozen BK215.out 2
                try go_wp2_with (first | ((with_reducible refine gate_callee (f := 79) rfl ?_); refine goesL_ (some 38) rfl rfl Try.func79 (by kernel_rfl) rfl #[.agg #[.int .i64 t207, .int .i64 t211, .string (a0.extract (t213 : Int).toNat a0.size)]] rfl (by (try simp only [List.map_toArray, List.map_cons, List.map_nil]); first | done | rfl | (simp only [List.length_drop, List.length_take]; rfl)) ?_; (with_reducible refine (impl_EntryOk.calls kj5 t207 t211 (a0.extract (t213 : Int).toNat a0.size) true _ A26.out).mono ?_); rintro e w34 ⟨rfl, hb⟩; refine ⟨_, rfl, ?_⟩; have n0_ := Aside0.mk (blk_below (g := gb197) (o := .cells #[.int .i64 0, .int .i64 0, .string (⟨#[]⟩ : ByteArray)] 47 (0, 0)) (by (with_reducible repeat (first | refine blk_drewN ?_ _ | refine blk_drew ?_ | refine blk_alloc ?_ _)); refine blk_far ?_ NB197_215.out _; (with_reducible repeat (first | refine blk_drewN ?_ _ | refine blk_drew ?_ | refine blk_alloc ?_ _)); exact BK197.out) hb); have n1_ := Aside0.mk (blk_below (g := gb215) (o := .cells #[.int .i64 t207, .int .i64 t211, .string (a0.extract (t213 : Int).toNat a0.size)] 47 (0, 0)) (by (with_reducible repeat (first | refine blk_drewN ?_ _ | refine blk_drew ?_ | refine blk_alloc ?_ _)); refine blk_put (cs := #[.int .i64 t207, .int .i64 t211, .string (⟨#[]⟩ : ByteArray)]) ?_ 2 _ rfl; (with_reducible repeat (first | refine blk_drewN ?_ _ | refine blk_drew ?_ | refine blk_alloc ?_ _)); exact BK215.out) hb); have n2_ := Aside0.mk (IsS140.below (show IsS140 w (wc.setCell ⟨gb215, 2, none⟩ (.string (a0.extract (t213 : Int).toNat a0.size))) gb198 t212 t213 t214 from by repeat (first | (with_reducible first | exact HI198.out | apply IsS140.alloc | apply IsS140.drewN | apply IsS140.drew | apply IsS140.set_0 | apply IsS140.set_1 | apply IsS140.set_2 | refine IsS140.far ?_ NB198_197.out _ | refine IsS140.far ?_ NB198_215.out _) | exact HI198.out)) hb); have n3_ := Aside0.mk (below_step (by repeat (first | (with_reducible first | exact HB.out | apply below_alloc | apply pw_below_drewN | apply below_drew1 | refine below_set ?_ (IsS140.ge HI198.out) | refine below_set ?_ GE197.out | refine below_set ?_ GE215.out) | exact HB.out)) hb); clear BK197; clear BK215; clear HI198; clear HB; have BK197 := n0_; have BK215 := n1_; have HI198 := n2_; have HB := n3_; clear n0_ n1_ n2_ n3_; (try clear hb); (try clear hb2); (try clear hk); (try clear hi)) | (go_at_call 70; (with_reducible refine (impl_within.calls t203 1 1000000 true _ A28.out).mono ?_); rintro e w' ⟨rfl, ⟨nd, rfl⟩⟩; (try (rw [drewN_self w34]; generalize hq_ : World.drewN w34 _ = w34; have n0_ : Aside0 (w34.heap[gb197]? = some (.cells #[.int .i64 0, .int .i64 0, .string (⟨#[]⟩ : ByteArray)] 47 (0, 0))) := ⟨by rw [← hq_]; exact (by (with_reducible repeat (first | refine blk_drewN ?_ _ | refine blk_drew ?_ | refine blk_alloc ?_ _)); exact BK197.out)⟩; have n1_ : Aside0 (w34.heap[gb215]? = some (.cells #[.int .i64 t207, .int .i64 t211, .string (a0.extract (t213 : Int).toNat a0.size)] 47 (0, 0))) := ⟨by rw [← hq_]; exact (by (with_reducible repeat (first | refine blk_drewN ?_ _ | refine blk_drew ?_ | refine blk_alloc ?_ _)); exact BK215.out)⟩; have n2_ : Aside0 (IsS140 w w34 gb198 t212 t213 t214) := ⟨by rw [← hq_]; exact (by repeat (first | (with_reducible first | exact HI198.out | apply IsS140.alloc | apply IsS140.drewN | apply IsS140.drew | apply IsS140.set_0 | apply IsS140.set_1 | apply IsS140.set_2 | refine IsS140.far ?_ NB198_197.out _ | refine IsS140.far ?_ NB198_215.out _) | exact HI198.out))⟩; have n3_ : Aside0 (Below w.heap.size w w34) := ⟨by rw [← hq_]; exact (by repeat (first | (with_reducible first | exact HB.out | apply below_alloc | apply pw_below_drewN | apply below_drew1 | refine below_set ?_ (IsS140.ge HI198.out) | refine below_set ?_ GE197.out | refine below_set ?_ GE215.out) | exact HB.out))⟩; clear BK197 BK215 HI198 HB hq_; have BK197 := n0_; have BK215 := n1_; have HI198 := n2_; have HB := n3_; clear n0_ n1_ n2_ n3_))))
                have n0_ := Aside0.mk (blk_drew BK197.out)
                have n1_ := Aside0.mk (blk_drew BK215.out)
                have n2_ := Aside0.mk (IsS140.drew HI198.out)
                have n3_ := Aside0.mk (below_drew1 HB.out)
                clear BK197
                clear BK215
                clear HI198
                clear HB
                have BK197 := n0_
                have BK215 := n1_
                have HI198 := n2_
                have HB := n3_
                clear n0_ n1_ n2_ n3_
                refine start_ (n := 5) (S := fun w' => w'.cell? ⟨gb215, 0, none⟩ = some (.int .i64 t207) ∧ w'.cell? ⟨gb215, 1, none⟩ = some (.int .i64 t211) ∧ w'.cell? ⟨gb215, 2, none⟩ = some (.string (a0.extract (t213 : Int).toNat a0.size))) (ds := []) #[false, false, false, false, false] (by kernel_rfl) rfl rfl ⟨(blk_cell BK215.out 0).trans rfl, (blk_cell BK215.out 1).trans rfl, (blk_cell BK215.out 2).trans rfl⟩ (fun hHeld => ?_)
                generalize w34.drew = w35 at BK197 BK215 HI198 HB hHeld ⊢
                refine pure_ (i := 0) (N := some 46) (v := ?_) (a' := ?_) #[true, false, false, false, false] rfl rfl (by kernel_rfl) (fun _ _ _ h => h) (Or.inl ⟨by rfl, ?_⟩) ?_ ?_
                rotate_left
                · intro w'
                  go_simp
                  with_reducible rfl
                rotate_left
                · simp only [Act.put, List.setIfInBounds_toArray, List.set_cons_zero, List.set_cons_succ, i64_w, i32_w]
                  rfl
                refine pure_ (i := 2) (N := some 2) (v := ?_) (a' := ?_) #[true, false, true, false, false] rfl rfl (by kernel_rfl) (fun _ _ _ h => h) (Or.inl ⟨by rfl, ?_⟩) ?_ ?_
                rotate_left
                · intro w'
                  go_simp
                  with_reducible rfl
                rotate_left
                · simp only [Act.put, List.setIfInBounds_toArray, List.set_cons_zero, List.set_cons_succ, i64_w, i32_w]
                  rfl
                refine take_ (i := 1) (N := some 47) (v := ?_) (a' := ?_) #[true, true, true, false, false] rfl rfl (by kernel_rfl) (fun _ _ _ h => h) (Or.inl ⟨by rfl, ?_⟩) hHeld ?_ ?_
                rotate_left
                · rintro w' ⟨s0, s1, s2⟩
                  go_simp
                  with_reducible rfl
                rotate_left
                · simp only [Act.put, List.setIfInBounds_toArray, List.set_cons_zero, List.set_cons_succ, i64_w, i32_w]
                  rfl
                refine one_ (i := 3) (N := none) #[true, true, true, true, false] rfl rfl (by kernel_rfl) (by decide) (fun K hK => ?_)
                have hs36 : w35.cell? ⟨gb197, 0, none⟩ = some (.int .i64 0) := (blk_cell BK197.out 0).trans rfl
                have hfs36 := blk_frozen BK197.out 0
                have hns36_1 := NB215_197.out
                have hms36_1 := NB197_215.out
                have hs37 : w35.cell? ⟨gb197, 1, none⟩ = some (.int .i64 0) := (blk_cell BK197.out 1).trans rfl
                have hfs37 := blk_frozen BK197.out 1
                have hns37_1 := NB215_197.out
                have hms37_1 := NB197_215.out
                have hs38 : w35.cell? ⟨gb197, 2, none⟩ = some (.string (⟨#[]⟩ : ByteArray)) := (blk_cell BK197.out 2).trans rfl
                have hfs38 := blk_frozen BK197.out 2
                have hns38_1 := NB215_197.out
                have hms38_1 := NB197_215.out
                refine skip_ (w1 := ?_) (by rfl) rfl ?_ ?_
                rotate_left
                · go_simp
                  rfl
                refine hK.out _ _ ⟨((cell_far (p := ⟨gb197, _, none⟩) NB215_197.out _).trans (((cell_far (p := ⟨gb197, _, none⟩) NB215_197.out _).trans (((cell_far (p := ⟨gb197, _, none⟩) NB215_197.out _).trans (hHeld.1)))))), ((cell_far (p := ⟨gb197, _, none⟩) NB215_197.out _).trans (((cell_far (p := ⟨gb197, _, none⟩) NB215_197.out _).trans (((cell_far (p := ⟨gb197, _, none⟩) NB215_197.out _).trans (hHeld.2.1)))))), ((cell_far (p := ⟨gb197, _, none⟩) NB215_197.out _).trans (((cell_far (p := ⟨gb197, _, none⟩) NB215_197.out _).trans (((cell_far (p := ⟨gb197, _, none⟩) NB215_197.out _).trans (hHeld.2.2))))))⟩ (fun hHeld => ?_)
                clear hK K
                refine pure_ (i := 4) (N := some 4) (v := ?_) (a' := ?_) #[true, true, true, true, true] rfl rfl (by kernel_rfl) (fun _ _ _ h => h) (Or.inl ⟨by rfl, ?_⟩) ?_ ?_
                rotate_left
                · intro w'
                  go_simp
                  with_reducible rfl
                rotate_left
                · simp only [Act.put, List.setIfInBounds_toArray, List.set_cons_zero, List.set_cons_succ, i64_w, i32_w]
                  rfl
                refine done_ (by kernel_rfl) ?_
                try go_wp2
                refine bodyPost_ret (results_list (rs := [.tmp 2, .cell 3 47, .tmp 4]) rfl (by simp) (.tmp (.cell gb197 47 #[.int .i64 t207, .int .i64 t211, .string (a0.extract (t213 : Int).toNat a0.size)] (0, 0) _ rfl (by (with_reducible repeat (first | refine blk_drewN ?_ _ | refine blk_drew ?_ | refine blk_alloc ?_ _)); refine blk_put (cs := #[.int .i64 t207, .int .i64 t211, .string (⟨#[]⟩ : ByteArray)]) ?_ 2 _ rfl; (with_reducible repeat (first | refine blk_drewN ?_ _ | refine blk_drew ?_ | refine blk_alloc ?_ _)); refine blk_put (cs := #[.int .i64 t207, .int .i64 0, .string (⟨#[]⟩ : ByteArray)]) ?_ 1 _ rfl; (with_reducible repeat (first | refine blk_drewN ?_ _ | refine blk_drew ?_ | refine blk_alloc ?_ _)); refine blk_put (cs := #[.int .i64 0, .int .i64 0, .string (⟨#[]⟩ : ByteArray)]) ?_ 0 _ rfl; (with_reducible repeat (first | refine blk_drewN ?_ _ | refine blk_drew ?_ | refine blk_alloc ?_ _)); exact BK197.out) Try.underlying47 rfl (by kernel_rfl) (.tmp .nil)))) rfl ?_
                exact ⟨by first | rfl | (simp [errW_none, errW_some] <;> rfl) | (simp [*, errW_none, errW_some] <;> rfl), by repeat (first | (with_reducible first | exact HB.out | apply below_alloc | apply pw_below_drewN | apply below_drew1 | refine below_set ?_ (IsS140.ge HI198.out) | refine below_set ?_ GE197.out | refine below_set ?_ GE215.out) | exact HB.out)⟩
              · replace c29 := Bool.eq_false_iff.mpr c29
                subst c29
                have H1 : (some (0, 0, 0, (⟨#[]⟩ : ByteArray), false)) = some (r1, r2, r3, r4, r5) := by rw [if_neg (show ¬ (false = true) by decide)] at H; exact H
                clear H
                have H := H1
                clear H1
                simp only [Option.some.injEq, Prod.mk.injEq] at H
                obtain ⟨rfl, rfl, rfl, rfl, rfl⟩ := H
                obtain ⟨HGz39, hgz39⟩ := HI198.out
                have hcz39_0 := cellS140_0 HGz39
                have hcz39_1 := cellS140_1 HGz39
                have hcz39_2 := cellS140_2 HGz39
                have hfz39_0 := blk_frozen HGz39 0
                have hfz39_1 := blk_frozen HGz39 1
                have hfz39_2 := blk_frozen HGz39 2
                clear HGz39 hgz39
                have hnb40 := NB215_197.out
                have hnc40 := NB197_215.out
                have hnb41 := NB215_198.out
                have hnc41 := NB198_215.out
                have hcz42_0 : wc.cell? ⟨gb215, 0, none⟩ = some (.int .i64 t207) := (blk_cell BK215.out 0).trans rfl
                have hcz42_1 : wc.cell? ⟨gb215, 1, none⟩ = some (.int .i64 t211) := (blk_cell BK215.out 1).trans rfl
                have hcz42_2 : wc.cell? ⟨gb215, 2, none⟩ = some (.string (⟨#[]⟩ : ByteArray)) := (blk_cell BK215.out 2).trans rfl
                have hfz42_0 := blk_frozen BK215.out 0
                have hfz42_1 := blk_frozen BK215.out 1
                have hfz42_2 := blk_frozen BK215.out 2
                go_wp2_with (first | ((with_reducible refine gate_callee (f := 79) rfl ?_); refine goesL_ (some 38) rfl rfl Try.func79 (by kernel_rfl) rfl #[.agg #[.int .i64 t207, .int .i64 t211, .string (a0.extract (t213 : Int).toNat a0.size)]] rfl (by (try simp only [List.map_toArray, List.map_cons, List.map_nil]); first | done | rfl | (simp only [List.length_drop, List.length_take]; rfl)) ?_; (with_reducible refine (impl_EntryOk.calls kj5 t207 t211 (a0.extract (t213 : Int).toNat a0.size) true _ A26.out).mono ?_); rintro e w43 ⟨rfl, hb⟩; refine ⟨_, rfl, ?_⟩; have n0_ := Aside0.mk (blk_below (g := gb197) (o := .cells #[.int .i64 0, .int .i64 0, .string (⟨#[]⟩ : ByteArray)] 47 (0, 0)) (by (with_reducible repeat (first | refine blk_drewN ?_ _ | refine blk_drew ?_ | refine blk_alloc ?_ _)); refine blk_far ?_ NB197_215.out _; (with_reducible repeat (first | refine blk_drewN ?_ _ | refine blk_drew ?_ | refine blk_alloc ?_ _)); exact BK197.out) hb); have n1_ := Aside0.mk (blk_below (g := gb215) (o := .cells #[.int .i64 t207, .int .i64 t211, .string (a0.extract (t213 : Int).toNat a0.size)] 47 (0, 0)) (by (with_reducible repeat (first | refine blk_drewN ?_ _ | refine blk_drew ?_ | refine blk_alloc ?_ _)); refine blk_put (cs := #[.int .i64 t207, .int .i64 t211, .string (⟨#[]⟩ : ByteArray)]) ?_ 2 _ rfl; (with_reducible repeat (first | refine blk_drewN ?_ _ | refine blk_drew ?_ | refine blk_alloc ?_ _)); exact BK215.out) hb); have n2_ := Aside0.mk (IsS140.below (show IsS140 w (wc.setCell ⟨gb215, 2, none⟩ (.string (a0.extract (t213 : Int).toNat a0.size))) gb198 t212 t213 t214 from by repeat (first | (with_reducible first | exact HI198.out | apply IsS140.alloc | apply IsS140.drewN | apply IsS140.drew | apply IsS140.set_0 | apply IsS140.set_1 | apply IsS140.set_2 | refine IsS140.far ?_ NB198_197.out _ | refine IsS140.far ?_ NB198_215.out _) | exact HI198.out)) hb); have n3_ := Aside0.mk (below_step (by repeat (first | (with_reducible first | exact HB.out | apply below_alloc | apply pw_below_drewN | apply below_drew1 | refine below_set ?_ (IsS140.ge HI198.out) | refine below_set ?_ GE197.out | refine below_set ?_ GE215.out) | exact HB.out)) hb); clear BK197; clear BK215; clear HI198; clear HB; have BK197 := n0_; have BK215 := n1_; have HI198 := n2_; have HB := n3_; clear n0_ n1_ n2_ n3_; (try clear hb); (try clear hb2); (try clear hk); (try clear hi)) | (go_at_call 70; (with_reducible refine (impl_within.calls t203 1 1000000 false _ A28.out).mono ?_); rintro e w' ⟨rfl, ⟨nd, rfl⟩⟩; (try (rw [drewN_self w43]; generalize hq_ : World.drewN w43 _ = w43; have n0_ : Aside0 (w43.heap[gb197]? = some (.cells #[.int .i64 0, .int .i64 0, .string (⟨#[]⟩ : ByteArray)] 47 (0, 0))) := ⟨by rw [← hq_]; exact (by (with_reducible repeat (first | refine blk_drewN ?_ _ | refine blk_drew ?_ | refine blk_alloc ?_ _)); exact BK197.out)⟩; have n1_ : Aside0 (w43.heap[gb215]? = some (.cells #[.int .i64 t207, .int .i64 t211, .string (a0.extract (t213 : Int).toNat a0.size)] 47 (0, 0))) := ⟨by rw [← hq_]; exact (by (with_reducible repeat (first | refine blk_drewN ?_ _ | refine blk_drew ?_ | refine blk_alloc ?_ _)); exact BK215.out)⟩; have n2_ : Aside0 (IsS140 w w43 gb198 t212 t213 t214) := ⟨by rw [← hq_]; exact (by repeat (first | (with_reducible first | exact HI198.out | apply IsS140.alloc | apply IsS140.drewN | apply IsS140.drew | apply IsS140.set_0 | apply IsS140.set_1 | apply IsS140.set_2 | refine IsS140.far ?_ NB198_197.out _ | refine IsS140.far ?_ NB198_215.out _) | exact HI198.out))⟩; have n3_ : Aside0 (Below w.heap.size w w43) := ⟨by rw [← hq_]; exact (by repeat (first | (with_reducible first | exact HB.out | apply below_alloc | apply pw_below_drewN | apply below_drew1 | refine below_set ?_ (IsS140.ge HI198.out) | refine below_set ?_ GE197.out | refine below_set ?_ GE215.out) | exact HB.out))⟩; clear BK197 BK215 HI198 HB hq_; have BK197 := n0_; have BK215 := n1_; have HI198 := n2_; have HB := n3_; clear n0_ n1_ n2_ n3_)); have hnb44 := NB197_198.out; have hnc44 := NB198_197.out; have hcz45_0 : w43.cell? ⟨gb197, 0, none⟩ = some (.int .i64 0) := (blk_cell BK197.out 0).trans rfl; have hcz45_1 : w43.cell? ⟨gb197, 1, none⟩ = some (.int .i64 0) := (blk_cell BK197.out 1).trans rfl; have hcz45_2 : w43.cell? ⟨gb197, 2, none⟩ = some (.string (⟨#[]⟩ : ByteArray)) := (blk_cell BK197.out 2).trans rfl; have hfz45_0 := blk_frozen BK197.out 0; have hfz45_1 := blk_frozen BK197.out 1; have hfz45_2 := blk_frozen BK197.out 2))
                refine bodyPost_ret (results_list (rs := [.tmp 2, .cell 3 47, .tmp 4]) rfl (by simp) (.tmp (.cell gb197 47 #[.int .i64 0, .int .i64 0, .string (⟨#[]⟩ : ByteArray)] (0, 0) _ rfl (by (with_reducible repeat (first | refine blk_drewN ?_ _ | refine blk_drew ?_ | refine blk_alloc ?_ _)); refine blk_put (cs := #[.int .i64 0, .int .i64 0, .string (⟨#[]⟩ : ByteArray)]) ?_ 2 _ rfl; (with_reducible repeat (first | refine blk_drewN ?_ _ | refine blk_drew ?_ | refine blk_alloc ?_ _)); refine blk_put (cs := #[.int .i64 0, .int .i64 0, .string (⟨#[]⟩ : ByteArray)]) ?_ 1 _ rfl; (with_reducible repeat (first | refine blk_drewN ?_ _ | refine blk_drew ?_ | refine blk_alloc ?_ _)); refine blk_put (cs := #[.int .i64 0, .int .i64 0, .string (⟨#[]⟩ : ByteArray)]) ?_ 0 _ rfl; (with_reducible repeat (first | refine blk_drewN ?_ _ | refine blk_drew ?_ | refine blk_alloc ?_ _)); exact BK197.out) Try.underlying47 rfl (by kernel_rfl) (.tmp .nil)))) rfl ?_
                exact ⟨by first | rfl | (simp [errW_none, errW_some] <;> rfl) | (simp [*, errW_none, errW_some] <;> rfl), by repeat (first | (with_reducible first | exact HB.out | apply below_alloc | apply pw_below_drewN | apply below_drew1 | refine below_set ?_ (IsS140.ge HI198.out) | refine below_set ?_ GE197.out | refine below_set ?_ GE215.out) | exact HB.out)⟩
            · replace c27 := Bool.eq_false_iff.mpr c27
              subst c27
              have H1 : (some (0, 0, 0, (⟨#[]⟩ : ByteArray), false)) = some (r1, r2, r3, r4, r5) := by rw [if_neg (show ¬ (false = true) by decide)] at H; exact H
              clear H
              have H := H1
              clear H1
              simp only [Option.some.injEq, Prod.mk.injEq] at H
              obtain ⟨rfl, rfl, rfl, rfl, rfl⟩ := H
              obtain ⟨HGz46, hgz46⟩ := HI198.out
              have hcz46_0 := cellS140_0 HGz46
              have hcz46_1 := cellS140_1 HGz46
              have hcz46_2 := cellS140_2 HGz46
              have hfz46_0 := blk_frozen HGz46 0
              have hfz46_1 := blk_frozen HGz46 1
              have hfz46_2 := blk_frozen HGz46 2
              clear HGz46 hgz46
              have hnb47 := NB215_197.out
              have hnc47 := NB197_215.out
              have hnb48 := NB215_198.out
              have hnc48 := NB198_215.out
              have hcz49_0 : wc.cell? ⟨gb215, 0, none⟩ = some (.int .i64 t207) := (blk_cell BK215.out 0).trans rfl
              have hcz49_1 : wc.cell? ⟨gb215, 1, none⟩ = some (.int .i64 t211) := (blk_cell BK215.out 1).trans rfl
              have hcz49_2 : wc.cell? ⟨gb215, 2, none⟩ = some (.string (⟨#[]⟩ : ByteArray)) := (blk_cell BK215.out 2).trans rfl
              have hfz49_0 := blk_frozen BK215.out 0
              have hfz49_1 := blk_frozen BK215.out 1
              have hfz49_2 := blk_frozen BK215.out 2
              go_wp2_with (first | ((with_reducible refine gate_callee (f := 79) rfl ?_); refine goesL_ (some 38) rfl rfl Try.func79 (by kernel_rfl) rfl #[.agg #[.int .i64 t207, .int .i64 t211, .string (a0.extract (t213 : Int).toNat a0.size)]] rfl (by (try simp only [List.map_toArray, List.map_cons, List.map_nil]); first | done | rfl | (simp only [List.length_drop, List.length_take]; rfl)) ?_; (with_reducible refine (impl_EntryOk.calls kj5 t207 t211 (a0.extract (t213 : Int).toNat a0.size) false _ A26.out).mono ?_); rintro e w50 ⟨rfl, hb⟩; refine ⟨_, rfl, ?_⟩; have n0_ := Aside0.mk (blk_below (g := gb197) (o := .cells #[.int .i64 0, .int .i64 0, .string (⟨#[]⟩ : ByteArray)] 47 (0, 0)) (by (with_reducible repeat (first | refine blk_drewN ?_ _ | refine blk_drew ?_ | refine blk_alloc ?_ _)); refine blk_far ?_ NB197_215.out _; (with_reducible repeat (first | refine blk_drewN ?_ _ | refine blk_drew ?_ | refine blk_alloc ?_ _)); exact BK197.out) hb); have n1_ := Aside0.mk (blk_below (g := gb215) (o := .cells #[.int .i64 t207, .int .i64 t211, .string (a0.extract (t213 : Int).toNat a0.size)] 47 (0, 0)) (by (with_reducible repeat (first | refine blk_drewN ?_ _ | refine blk_drew ?_ | refine blk_alloc ?_ _)); refine blk_put (cs := #[.int .i64 t207, .int .i64 t211, .string (⟨#[]⟩ : ByteArray)]) ?_ 2 _ rfl; (with_reducible repeat (first | refine blk_drewN ?_ _ | refine blk_drew ?_ | refine blk_alloc ?_ _)); exact BK215.out) hb); have n2_ := Aside0.mk (IsS140.below (show IsS140 w (wc.setCell ⟨gb215, 2, none⟩ (.string (a0.extract (t213 : Int).toNat a0.size))) gb198 t212 t213 t214 from by repeat (first | (with_reducible first | exact HI198.out | apply IsS140.alloc | apply IsS140.drewN | apply IsS140.drew | apply IsS140.set_0 | apply IsS140.set_1 | apply IsS140.set_2 | refine IsS140.far ?_ NB198_197.out _ | refine IsS140.far ?_ NB198_215.out _) | exact HI198.out)) hb); have n3_ := Aside0.mk (below_step (by repeat (first | (with_reducible first | exact HB.out | apply below_alloc | apply pw_below_drewN | apply below_drew1 | refine below_set ?_ (IsS140.ge HI198.out) | refine below_set ?_ GE197.out | refine below_set ?_ GE215.out) | exact HB.out)) hb); clear BK197; clear BK215; clear HI198; clear HB; have BK197 := n0_; have BK215 := n1_; have HI198 := n2_; have HB := n3_; clear n0_ n1_ n2_ n3_; (try clear hb); (try clear hb2); (try clear hk); (try clear hi); have hnb51 := NB197_198.out; have hnc51 := NB198_197.out; have hcz52_0 : w50.cell? ⟨gb197, 0, none⟩ = some (.int .i64 0) := (blk_cell BK197.out 0).trans rfl; have hcz52_1 : w50.cell? ⟨gb197, 1, none⟩ = some (.int .i64 0) := (blk_cell BK197.out 1).trans rfl; have hcz52_2 : w50.cell? ⟨gb197, 2, none⟩ = some (.string (⟨#[]⟩ : ByteArray)) := (blk_cell BK197.out 2).trans rfl; have hfz52_0 := blk_frozen BK197.out 0; have hfz52_1 := blk_frozen BK197.out 1; have hfz52_2 := blk_frozen BK197.out 2))
              refine bodyPost_ret (results_list (rs := [.tmp 2, .cell 3 47, .tmp 4]) rfl (by simp) (.tmp (.cell gb197 47 #[.int .i64 0, .int .i64 0, .string (⟨#[]⟩ : ByteArray)] (0, 0) _ rfl (by (with_reducible repeat (first | refine blk_drewN ?_ _ | refine blk_drew ?_ | refine blk_alloc ?_ _)); refine blk_put (cs := #[.int .i64 0, .int .i64 0, .string (⟨#[]⟩ : ByteArray)]) ?_ 2 _ rfl; (with_reducible repeat (first | refine blk_drewN ?_ _ | refine blk_drew ?_ | refine blk_alloc ?_ _)); refine blk_put (cs := #[.int .i64 0, .int .i64 0, .string (⟨#[]⟩ : ByteArray)]) ?_ 1 _ rfl; (with_reducible repeat (first | refine blk_drewN ?_ _ | refine blk_drew ?_ | refine blk_alloc ?_ _)); refine blk_put (cs := #[.int .i64 0, .int .i64 0, .string (⟨#[]⟩ : ByteArray)]) ?_ 0 _ rfl; (with_reducible repeat (first | refine blk_drewN ?_ _ | refine blk_drew ?_ | refine blk_alloc ?_ _)); exact BK197.out) Try.underlying47 rfl (by kernel_rfl) (.tmp .nil)))) rfl ?_
              exact ⟨by first | rfl | (simp [errW_none, errW_some] <;> rfl) | (simp [*, errW_none, errW_some] <;> rfl), by repeat (first | (with_reducible first | exact HB.out | apply below_alloc | apply pw_below_drewN | apply below_drew1 | refine below_set ?_ (IsS140.ge HI198.out) | refine below_set ?_ GE197.out | refine below_set ?_ GE215.out) | exact HB.out)⟩
          · rw [if_neg c25] at H
            exact absurd H (by simp)
        · rw [if_neg c24] at H
          exact absurd H (by simp)

end Go.Proofs.Ythddngmncmhkoaa.QFnExactReadEntry
