/- Written by this session's own program (wip/tpl/pp.py): what the law's functions come to, and that the machine's calls do just that. -/
import Derived.Test.YtknbkjajfiediaaQFnTurnedx0
import Derived.Test.YtknbkjajfiediaaQFnTurnedx1
namespace Go.Proofs.Ytknbkjajfiediaa.QFnTurned
open Go.RowKit Go.Proofs.YtknbkjajfiediaaW.PrintWords Go.Proofs.YtknbkjajfiediaaW.PrintLast Go.Proofs.YtknbkjajfiediaaW.PrintMore
attribute [local go_sem] Go.Proofs.Ytknbkjajfiediaa.Sem.string_geq Go.Proofs.Ytknbkjajfiediaa.Sem.string_leq Go.Proofs.Ytknbkjajfiediaa.Sem.string_gtr
attribute [local go_sem] max2_int min2_int max_two min_two max_three min_three max_four min_four   -- for this text's walks alone
set_option linter.unusedVariables false
set_option linter.unusedSimpArgs false

/-! ### impl_Sealed: function 25 -/
def impl_Sealed.f (k : Nat) (a0 : ByteArray) : Option (ByteArray × Bool) := if (a0.size : Int) > 20000 then (some ((⟨#[]⟩ : ByteArray), false)) else ((impl_SumOf.f k a0).bind fun t156 => ((some (([(t156 / 16777216) % 256, (t156 / 65536) % 256, (t156 / 256) % 256, (t156) % 256] : List Int) : List Int)).bind fun y157 => (if a0.size + (strOfNums y157).size ≤ 9223372036854775807 then (some (a0 ++ (strOfNums y157), true)) else (none))))
theorem impl_Sealed.mono : ∀ a0 k, LeO (impl_Sealed.f k a0) (impl_Sealed.f (k + 1) a0) := by
  intro a0 k
  unfold impl_Sealed.f
  repeat' first
      | (with_reducible exact impl_SumOf.mono _ _)
      | (with_reducible exact LeO.refl _)
      | (with_reducible exact LeO.none _)
      | (with_reducible refine LeO.ite ?_ ?_)
      | (with_reducible refine LeO.bind ?_ (fun _ => ?_))
      | exact impl_SumOf.mono _ _
      | exact LeO.none _
      | refine LeO.ite ?_ ?_
      | refine LeO.bind ?_ (fun _ => ?_)
set_option maxHeartbeats 8000000 in
set_option maxRecDepth 100000 in
theorem impl_Sealed.calls (k : Nat) (a0 : ByteArray) (r1 : ByteArray) (r2 : Bool) (w : World) (h : impl_Sealed.f k a0 = some (r1, r2)) :
    Calls Try.prog 25 #[.string a0] w fun e w' => e = .returned (.tuple #[.string r1, .bool r2]) ∧ Below w.heap.size w w' := by
  have HB := Aside0.mk (Below.refl w.heap.size w)
  have H : (if (a0.size : Int) > 20000 then (some ((⟨#[]⟩ : ByteArray), false)) else ((impl_SumOf.f k a0).bind fun t156 => ((some (([(t156 / 16777216) % 256, (t156 / 65536) % 256, (t156 / 256) % 256, (t156) % 256] : List Int) : List Int)).bind fun y157 => (if a0.size + (strOfNums y157).size ≤ 9223372036854775807 then (some (a0 ++ (strOfNums y157), true)) else (none))))) = some (r1, r2) := h
  clear h
  by_cases c2 : (a0.size : Int) > 20000
  · rw [if_pos c2] at H
    have c2b0 : decide (20000 < (a0.size : Int)) = true := decide_eq_true c2
    have c2b1 : decide (20000 < a0.size) = true := decide_eq_true (by omega)
    clear c2
    simp only [Option.some.injEq, Prod.mk.injEq] at H
    obtain ⟨rfl, rfl⟩ := H
    go_enter Try.func25, Try.ntmps25
    go_wp2
    go_ret2
    exact ⟨by first | rfl | (simp [errW_none, errW_some] <;> rfl) | (simp [*, errW_none, errW_some] <;> rfl), by repeat (first | (with_reducible first | exact HB.out | apply below_alloc | apply pw_below_drewN | apply below_drew1) | exact HB.out)⟩
  · rw [if_neg c2] at H
    have c2b0 : decide (20000 < (a0.size : Int)) = false := decide_eq_false c2
    have c2b1 : decide (20000 < a0.size) = false := decide_eq_false (by omega)
    clear c2
    replace H := Option.bind_eq_some_iff.mp H
    obtain ⟨t156, A30, H⟩ := H
    replace H : ((some (([(t156 / 16777216) % 256, (t156 / 65536) % 256, (t156 / 256) % 256, (t156) % 256] : List Int) : List Int)).bind fun y157 => (if a0.size + (strOfNums y157).size ≤ 9223372036854775807 then (some (a0 ++ (strOfNums y157), true)) else (none))) = some (r1, r2) := H
    have A3 := Aside0.mk A30
    clear A30
    obtain ⟨y157, hy157⟩ : ∃ y_ : List Int, y_ = (([(t156 / 16777216) % 256, (t156 / 65536) % 256, (t156 / 256) % 256, (t156) % 256] : List Int)) := ⟨_, rfl⟩
    replace H : (if a0.size + (strOfNums y157).size ≤ 9223372036854775807 then (some (a0 ++ (strOfNums y157), true)) else (none)) = some (r1, r2) := by first | (rw [hy157]; with_reducible exact H) | (have H2_ := (Option.bind_some _ _).symm.trans H; rw [hy157]; with_reducible exact H2_) | (have H2_ := (Option.bind_some _ _).symm.trans H; with_reducible exact H2_) | with_reducible exact H | (rw [hy157]; exact H) | exact H
    have Ny157 := Aside0.mk hy157
    clear hy157
    by_cases c4 : a0.size + (strOfNums y157).size ≤ 9223372036854775807
    · rw [if_pos c4] at H
      have c4b0 := eq_true c4
      have c4b1 : decide (a0.size + (strOfNums y157).size ≤ 9223372036854775807) = true := decide_eq_true c4
      try have c4b2 : (9223372036854775807 < a0.size + (strOfNums y157).size) = False := eq_false (Nat.not_lt.2 c4)
      simp only [Option.some.injEq, Prod.mk.injEq] at H
      obtain ⟨rfl, rfl⟩ := H
      go_enter Try.func25, Try.ntmps25
      go_wp2_with (first | ((with_reducible refine gate_callee (f := 28) rfl ?_); refine goesL_ (some 9) rfl rfl Try.func28 (by kernel_rfl) rfl #[.string a0] rfl (by (try simp only [List.map_toArray, List.map_cons, List.map_nil]); first | done | rfl | (simp only [List.length_drop, List.length_take]; rfl)) ?_; (with_reducible refine (impl_SumOf.calls k a0 t156 _ A3.out).mono ?_); rintro e w' ⟨rfl, ⟨nd, rfl⟩⟩; refine ⟨_, rfl, ?_⟩) | ((with_reducible refine gate_dst (N := 22) rfl ?_); refine Kd.R_lit (Kd.int .u8) _ 5 ?hg (N := 22) ?hd (xs := ([(t156 / 16777216) % 256, (t156 / 65536) % 256, (t156 / 256) % 256, (t156) % 256] : List Int)) (inner := [.int .u8 ((t156 / 16777216) % 256), .int .u8 ((t156 / 65536) % 256), .int .u8 ((t156 / 256) % 256), .int .u8 ((t156) % 256)]) (ok := fun _ => True) (okp := fun _ => True) ?hr ?hp (fun _ hk => hk) trivial (Below.refl _ _) (Nat.le_refl _) (by simp) ?_; (case hd => rfl); (case hg => rfl); (case hr => first | (go_simp; done) | (go_simp; rfl)); (case hp => exact (Reps.one (show Kd.M (Kd.int .u8) _ _ _ ((t156 / 16777216) % 256) [.int .u8 ((t156 / 16777216) % 256)] from rfl) (Reps.one (show Kd.M (Kd.int .u8) _ _ _ ((t156 / 65536) % 256) [.int .u8 ((t156 / 65536) % 256)] from rfl) (Reps.one (show Kd.M (Kd.int .u8) _ _ _ ((t156 / 256) % 256) [.int .u8 ((t156 / 256) % 256)] from rfl) (Reps.one (show Kd.M (Kd.int .u8) _ _ _ ((t156) % 256) [.int .u8 ((t156) % 256)] from rfl) (Reps.none _ _)))))); intro v158 w5 ho6 hb hg_ hnew_; clear hg_ hnew_; (first | rw [← Ny157.out] at ho6 | (simp only [Int.reduceToNat] at ho6; rw [← Ny157.out] at ho6)); have n0_ := Aside0.mk (Kd.R_lower ho6 (below_size (by repeat (first | (with_reducible first | exact HB.out | apply below_alloc | apply pw_below_drewN | apply below_drew1) | exact HB.out)))); have n1_ := Aside0.mk (below_step (by repeat (first | (with_reducible first | exact HB.out | apply below_alloc | apply pw_below_drewN | apply below_drew1) | exact HB.out)) hb); clear HB; have HO159 := n0_; have HB := n1_; clear n0_ n1_; clear hb ho6; have hcv7 := own_string (P := Try.prog) Try.underlying40 Try.underlying5 Try.underlying9 (Kd.own_of_R HO159.out)))
      go_ret2
      exact ⟨by first | rfl | (simp [errW_none, errW_some] <;> rfl) | (simp [*, errW_none, errW_some] <;> rfl), by repeat (first | (with_reducible first | exact HB.out | apply below_alloc | apply pw_below_drewN | apply below_drew1) | exact HB.out)⟩
    · rw [if_neg c4] at H
      exact absurd H (by simp)

/-! ### impl_Unsealed: function 26 -/
def impl_Unsealed.f (k : Nat) (a0 : ByteArray) : Option (ByteArray × Bool) := if (a0.size : Int) < 4 then (some ((⟨#[]⟩ : ByteArray), false)) else (if 0 ≤ (wrap64 ((a0.size : Int) - 4)) then (if (wrap64 ((a0.size : Int) - 4)) ≤ (a0.size : Int) then ((impl_Sealed.f k (a0.extract 0 ((wrap64 ((a0.size : Int) - 4)) : Int).toNat)).bind fun bt160 => (if bt160.2 = true then (if bt160.1.toList = a0.toList then (some (a0.extract 0 ((wrap64 ((a0.size : Int) - 4)) : Int).toNat, true)) else (some ((⟨#[]⟩ : ByteArray), false))) else (some ((⟨#[]⟩ : ByteArray), false)))) else (none)) else (none))
theorem impl_Unsealed.mono : ∀ a0 k, LeO (impl_Unsealed.f k a0) (impl_Unsealed.f (k + 1) a0) := by
  intro a0 k
  unfold impl_Unsealed.f
  repeat' first
      | (with_reducible exact impl_Sealed.mono _ _)
      | (with_reducible exact LeO.refl _)
      | (with_reducible exact LeO.none _)
      | (with_reducible refine LeO.ite ?_ ?_)
      | (with_reducible refine LeO.bind ?_ (fun _ => ?_))
      | exact impl_Sealed.mono _ _
      | exact LeO.none _
      | refine LeO.ite ?_ ?_
      | refine LeO.bind ?_ (fun _ => ?_)
set_option maxHeartbeats 8000000 in
set_option maxRecDepth 100000 in
theorem impl_Unsealed.calls (k : Nat) (a0 : ByteArray) (r1 : ByteArray) (r2 : Bool) (w : World) (h : impl_Unsealed.f k a0 = some (r1, r2)) :
    Calls Try.prog 26 #[.string a0] w fun e w' => e = .returned (.tuple #[.string r1, .bool r2]) ∧ Below w.heap.size w w' := by
  have HB := Aside0.mk (Below.refl w.heap.size w)
  have H : (if (a0.size : Int) < 4 then (some ((⟨#[]⟩ : ByteArray), false)) else (if 0 ≤ (wrap64 ((a0.size : Int) - 4)) then (if (wrap64 ((a0.size : Int) - 4)) ≤ (a0.size : Int) then ((impl_Sealed.f k (a0.extract 0 ((wrap64 ((a0.size : Int) - 4)) : Int).toNat)).bind fun bt160 => (if bt160.2 = true then (if bt160.1.toList = a0.toList then (some (a0.extract 0 ((wrap64 ((a0.size : Int) - 4)) : Int).toNat, true)) else (some ((⟨#[]⟩ : ByteArray), false))) else (some ((⟨#[]⟩ : ByteArray), false)))) else (none)) else (none))) = some (r1, r2) := h
  clear h
  by_cases c2 : (a0.size : Int) < 4
  · rw [if_pos c2] at H
    have c2b0 : decide ((a0.size : Int) < 4) = true := decide_eq_true c2
    have c2b1 : decide (a0.size < 4) = true := decide_eq_true (by omega)
    clear c2
    simp only [Option.some.injEq, Prod.mk.injEq] at H
    obtain ⟨rfl, rfl⟩ := H
    go_enter Try.func26, Try.ntmps26
    go_wp2
    go_ret2
    exact ⟨by first | rfl | (simp [errW_none, errW_some] <;> rfl) | (simp [*, errW_none, errW_some] <;> rfl), by repeat (first | (with_reducible first | exact HB.out | apply below_alloc | apply pw_below_drewN | apply below_drew1) | exact HB.out)⟩
  · rw [if_neg c2] at H
    have c2b0 : decide ((a0.size : Int) < 4) = false := decide_eq_false c2
    have c2b1 : decide (a0.size < 4) = false := decide_eq_false (by omega)
    clear c2
    obtain ⟨ji3, hji3⟩ : ∃ j_ : Int, (wrap64 ((a0.size : Int) - 4)) = j_ := ⟨_, rfl⟩
    replace H : (if 0 ≤ (ji3) then (if (ji3) ≤ (a0.size : Int) then ((impl_Sealed.f k (a0.extract 0 ((ji3) : Int).toNat)).bind fun bt160 => (if bt160.2 = true then (if bt160.1.toList = a0.toList then (some (a0.extract 0 ((ji3) : Int).toNat, true)) else (some ((⟨#[]⟩ : ByteArray), false))) else (some ((⟨#[]⟩ : ByteArray), false)))) else (none)) else (none)) = some (r1, r2) := by first | (rw [hji3] at H; exact H) | (simp only [hji3] at H ⊢; exact H)
    have hji3w : (IntKind.i64.wrap ((a0.size : Int) - 4)) = ji3 := (i64_w _).trans hji3
    by_cases c4 : 0 ≤ (ji3)
    · rw [if_pos c4] at H
      have c4b0 := eq_true c4
      have c4b1 : decide (0 ≤ (ji3)) = true := decide_eq_true c4
      clear c4
      by_cases c5 : (ji3) ≤ (a0.size : Int)
      · rw [if_pos c5] at H
        have c5b0 := eq_true c5
        have c5b1 : decide ((ji3) ≤ (a0.size : Int)) = true := decide_eq_true c5
        clear c5
        replace H := Option.bind_eq_some_iff.mp H
        obtain ⟨⟨t160, t161⟩, A60, H⟩ := H
        replace H : (if t161 = true then (if t160.toList = a0.toList then (some (a0.extract 0 ((ji3) : Int).toNat, true)) else (some ((⟨#[]⟩ : ByteArray), false))) else (some ((⟨#[]⟩ : ByteArray), false))) = some (r1, r2) := H
        have A6 := Aside0.mk A60
        clear A60
        by_cases c7 : t161 = true
        · subst c7
          have H1 : (if t160.toList = a0.toList then (some (a0.extract 0 ((ji3) : Int).toNat, true)) else (some ((⟨#[]⟩ : ByteArray), false))) = some (r1, r2) := by rw [if_pos rfl] at H; exact H
          clear H
          have H := H1
          clear H1
          by_cases c8 : t160.toList = a0.toList
          · rw [if_pos c8] at H
            have c8b0 : (t160.toList == a0.toList) = true := beq_iff_eq.mpr c8
            have c8b1 : (t160.toList != a0.toList) = false := bne_eq_false_iff_eq.mpr c8
            clear c8
            simp only [Option.some.injEq, Prod.mk.injEq] at H
            obtain ⟨rfl, rfl⟩ := H
            go_enter Try.func26, Try.ntmps26
            go_wp2_with (first | ((with_reducible refine gate_callee (f := 25) rfl ?_); refine goesL_ (some 17) rfl rfl Try.func25 (by kernel_rfl) rfl #[.string (a0.extract 0 ((ji3) : Int).toNat)] rfl (by (try simp only [List.map_toArray, List.map_cons, List.map_nil]); first | done | (simp only [hji3]; rfl) | rfl | (simp only [List.length_drop, List.length_take]; rfl)) ?_; (with_reducible refine (impl_Sealed.calls k (a0.extract 0 ((ji3) : Int).toNat) t160 true _ A6.out).mono ?_); rintro e w9 ⟨rfl, hb⟩; refine ⟨_, rfl, ?_⟩; have n0_ := Aside0.mk (below_step (by repeat (first | (with_reducible first | exact HB.out | apply below_alloc | apply pw_below_drewN | apply below_drew1) | exact HB.out)) hb); clear HB; have HB := n0_; clear n0_; (try clear hb); (try clear hb2); (try clear hk); (try clear hi)))
            go_ret2
            exact ⟨by first | rfl | (simp [errW_none, errW_some] <;> rfl) | (simp only [← hji3]; first | rfl | (simp [errW_none, errW_some] <;> rfl)) | (simp [*, errW_none, errW_some] <;> rfl), by repeat (first | (with_reducible first | exact HB.out | apply below_alloc | apply pw_below_drewN | apply below_drew1) | exact HB.out)⟩
          · rw [if_neg c8] at H
            have c8b0 : (t160.toList == a0.toList) = false := beq_eq_false_iff_ne.mpr c8
            have c8b1 : (t160.toList != a0.toList) = true := bne_iff_ne.mpr c8
            simp only [Option.some.injEq, Prod.mk.injEq] at H
            obtain ⟨rfl, rfl⟩ := H
            go_enter Try.func26, Try.ntmps26
            go_wp2_with (first | ((with_reducible refine gate_callee (f := 25) rfl ?_); refine goesL_ (some 17) rfl rfl Try.func25 (by kernel_rfl) rfl #[.string (a0.extract 0 ((ji3) : Int).toNat)] rfl (by (try simp only [List.map_toArray, List.map_cons, List.map_nil]); first | done | (simp only [hji3]; rfl) | rfl | (simp only [List.length_drop, List.length_take]; rfl)) ?_; (with_reducible refine (impl_Sealed.calls k (a0.extract 0 ((ji3) : Int).toNat) t160 true _ A6.out).mono ?_); rintro e w10 ⟨rfl, hb⟩; refine ⟨_, rfl, ?_⟩; have n0_ := Aside0.mk (below_step (by repeat (first | (with_reducible first | exact HB.out | apply below_alloc | apply pw_below_drewN | apply below_drew1) | exact HB.out)) hb); clear HB; have HB := n0_; clear n0_; (try clear hb); (try clear hb2); (try clear hk); (try clear hi)))
            go_ret2
            exact ⟨by first | rfl | (simp [errW_none, errW_some] <;> rfl) | (simp only [← hji3]; first | rfl | (simp [errW_none, errW_some] <;> rfl)) | (simp [*, errW_none, errW_some] <;> rfl), by repeat (first | (with_reducible first | exact HB.out | apply below_alloc | apply pw_below_drewN | apply below_drew1) | exact HB.out)⟩
        · replace c7 := Bool.eq_false_iff.mpr c7
          subst c7
          have H1 : (some ((⟨#[]⟩ : ByteArray), false)) = some (r1, r2) := by rw [if_neg (show ¬ (false = true) by decide)] at H; exact H
          clear H
          have H := H1
          clear H1
          simp only [Option.some.injEq, Prod.mk.injEq] at H
          obtain ⟨rfl, rfl⟩ := H
          go_enter Try.func26, Try.ntmps26
          go_wp2_with (first | ((with_reducible refine gate_callee (f := 25) rfl ?_); refine goesL_ (some 17) rfl rfl Try.func25 (by kernel_rfl) rfl #[.string (a0.extract 0 ((ji3) : Int).toNat)] rfl (by (try simp only [List.map_toArray, List.map_cons, List.map_nil]); first | done | (simp only [hji3]; rfl) | rfl | (simp only [List.length_drop, List.length_take]; rfl)) ?_; (with_reducible refine (impl_Sealed.calls k (a0.extract 0 ((ji3) : Int).toNat) t160 false _ A6.out).mono ?_); rintro e w11 ⟨rfl, hb⟩; refine ⟨_, rfl, ?_⟩; have n0_ := Aside0.mk (below_step (by repeat (first | (with_reducible first | exact HB.out | apply below_alloc | apply pw_below_drewN | apply below_drew1) | exact HB.out)) hb); clear HB; have HB := n0_; clear n0_; (try clear hb); (try clear hb2); (try clear hk); (try clear hi)))
          go_ret2
          exact ⟨by first | rfl | (simp [errW_none, errW_some] <;> rfl) | (simp only [← hji3]; first | rfl | (simp [errW_none, errW_some] <;> rfl)) | (simp [*, errW_none, errW_some] <;> rfl), by repeat (first | (with_reducible first | exact HB.out | apply below_alloc | apply pw_below_drewN | apply below_drew1) | exact HB.out)⟩
      · rw [if_neg c5] at H
        exact absurd H (by simp)
    · rw [if_neg c4] at H
      exact absurd H (by simp)

/-! ### laws_FnTurned: function 4 -/
def laws_FnTurned.at_ (t : ByteArray) (p : List Int) : Int := Int.tmod (rd p 0) (t.size : Int)
def laws_FnTurned.by_ (p : List Int) : Int := 1 + rd p 1 % 255
def laws_FnTurned.turn (t : ByteArray) (p : List Int) : List Int := (bytesOf t).set (laws_FnTurned.at_ t p).toNat (Go.bits .xor .u8 (rd (bytesOf t) (laws_FnTurned.at_ t p)) (laws_FnTurned.by_ p))
def laws_FnTurned.good (t : ByteArray) (p : List Int) (s : ByteArray) : Bool := decide (0 ≤ rd p 0 ∧ 0 ≤ rd p 1 ∧ rd p 1 < 1000000 ∧ 2 ≤ p.length ∧ s.size ≤ 1000000 ∧ t.size = s.size + 4)
def laws_FnTurned.f (k : Nat) (l0 : List Int) : Option Bool :=
  if 1048576 < l0.length then some true else
  (spec_DrawSumOf.f k l0).bind fun s => (spec_DrawPlaces.f k l0).bind fun p => (impl_Sealed.f k s).bind fun bt => (impl_Unsealed.f k bt.1).bind fun bu =>
  if bt.2 = true then if bu.2 = true then if bu.1 = s then if laws_FnTurned.good bt.1 p s = true then
    (impl_Unsealed.f k (strOfNums (laws_FnTurned.turn bt.1 p))).bind fun bw => if bw.2 = false then
    (impl_SumOf.f k s).bind fun c => (impl_SumMore.f k c (⟨#[120]⟩ : ByteArray)).bind fun d => (impl_SumOf.f k (s ++ (⟨#[120]⟩ : ByteArray))).bind fun d2 => if d = d2 then some true else none
  else none else none else none else none else none
theorem conv_event {P : Program} {ops : Array Oper} {rest : List Oper} {o1 : Oper} {a : Act} {Q : Exit → Act → World → Prop} {W : World} {N : Tmp} (hd1 : o1.dst = some N) (hg1 : o1.guard = none) (src t e : TypeId) (x : Operand)
    (ho1 : o1.op = .convert src t x) {u : TypeDesc} (hu : P.underlying src = some u) (ht : P.underlying t = some (.slice e)) (he : P.underlying e = some (.int .u8)) (y : ByteArray) (hx : a.eval x = .string y) (hy : y.size ≤ 9223372036854775807)
    (h : ∀ (g c : Nat) (w1 : World), g = W.heap.size → ReadsInt w1 .u8 (some ⟨g, 0, none⟩) y.size (bytesOf y) → (∀ j, j < y.size → w1.frozen? ⟨g, j, none⟩ = false) → Below W.heap.size W w1 → wpList P ops Q rest (a.put (some N) (.slice (some ⟨g, 0, none⟩) y.size c)) w1) :
    wpList P ops Q (o1 :: rest) a W := by
  have hrun : (execOp a.eval o1).run P W = .ok (.value (.slice (some ⟨W.heap.size, 0, none⟩) y.size (grownCap W y.size 0 e))) (Lib.bytesWorld W e y) := by
    have hc := print_bytes src t e hu ht he y W
    unfold execOp
    simp [ho1, hx, hc, Result.andThen]
  refine Kd.event_run hg1 hrun ?_
  rw [hd1]
  refine h _ _ _ rfl (bytes_reads W e y hy) (fun j hj => ?_) (bytes_below (Below.refl _ _) (Nat.le_refl _) e y)
  have h1 : y.size ≤ (Lib.bytesCells W e y).size := by simp [Lib.bytesCells]
  simp only [World.frozen?, Lib.bytesWorld_at_new]
  simp; omega
theorem reads_set_ {W : World} {g n I : Nat} {xs : List Int} (h : ReadsInt W .u8 (some ⟨g, 0, none⟩) n xs) (v : Int) : ReadsInt (W.setCell ⟨g, I, none⟩ (.int .u8 v)) .u8 (some ⟨g, 0, none⟩) n (xs.set I v) := by
  refine ⟨by rw [List.length_set]; exact h.1, h.2.1, fun hn => ⟨_, rfl, fun j hj => ?_⟩⟩
  obtain ⟨ad, e, hc⟩ := h.2.2 hn
  cases e
  have hcj := hc j hj
  rw [add_plain] at hcj ⊢
  have hj' : j < xs.length := by rw [h.1]; exact hj
  unfold World.cell? at hcj ⊢
  by_cases e : I = j
  · subst e
    rw [List.getD_eq_getElem?_getD, List.getElem?_set_self hj']
    revert hcj
    simp only [World.setCell, Array.getElem?_modify]
    cases hg : W.heap[g]? with
    | none => simp
    | some o =>
      cases o with
      | cells cs t m =>
        simp only [Option.map_some, Bool.false_eq_true, if_false, Option.isSome_none, if_true]
        intro hx
        have hl : I < cs.size := (Array.getElem?_eq_some_iff.1 hx).1
        simp [hl]
      | _ => simp
  · rw [List.getD_eq_getElem?_getD, List.getElem?_set_ne e, ← List.getD_eq_getElem?_getD]
    revert hcj
    simp only [World.setCell, Array.getElem?_modify]
    cases hg : W.heap[g]? with
    | none => simp
    | some o => cases o <;> simp [e]
theorem laws_FnTurned.at_nat (t : ByteArray) (p : List Int) (h0 : 0 ≤ rd p 0) (ht : 0 < t.size) : ∃ I : Nat, laws_FnTurned.at_ t p = (I : Int) ∧ I < t.size ∧ Int.tmod (rd p 0) (t.size : Int) = (I : Int) := by
  refine ⟨(Int.tmod (rd p 0) (t.size : Int)).toNat, ?_, ?_, ?_⟩
  · unfold laws_FnTurned.at_; rw [Int.tmod_eq_emod_of_nonneg h0]; have := Int.emod_nonneg (rd p 0) (show (t.size : Int) ≠ 0 by omega); omega
  · rw [Int.tmod_eq_emod_of_nonneg h0]; have := Int.emod_lt_of_pos (rd p 0) (show (0 : Int) < (t.size : Int) by omega); have := Int.emod_nonneg (rd p 0) (show (t.size : Int) ≠ 0 by omega); omega
  · rw [Int.tmod_eq_emod_of_nonneg h0]; have := Int.emod_nonneg (rd p 0) (show (t.size : Int) ≠ 0 by omega); omega
set_option maxHeartbeats 8000000 in
set_option maxRecDepth 100000 in
theorem laws_FnTurned.yes (k : Nat) (A0 : Option Addr) (c0 : Nat) (l0 : List Int) (w : World) (hr0 : Kd.C (Kd.int .u8) w A0 l0.length l0) (hc0 : l0.length ≤ c0) (s t : ByteArray) (p : List Int) (u : ByteArray) (c d : Int)
    (hb : laws_big.f l0 = some false) (h1 : spec_DrawSumOf.f k l0 = some s) (h2 : spec_DrawPlaces.f k l0 = some p) (h3 : impl_Sealed.f k s = some (t, true)) (h4 : impl_Unsealed.f k t = some (s, true)) (hg : laws_FnTurned.good t p s = true)
    (h5 : impl_Unsealed.f k (strOfNums (laws_FnTurned.turn t p)) = some (u, false)) (h6 : impl_SumOf.f k s = some c) (h7 : impl_SumMore.f k c (⟨#[120]⟩ : ByteArray) = some d) (h8 : impl_SumOf.f k (s ++ (⟨#[120]⟩ : ByteArray)) = some d) :
    Calls Try.prog 4 #[.slice A0 l0.length c0] w fun e w' => e = .returned (.bool true) ∧ Below w.heap.size w w' := by
  have HR := Aside0.mk hr0
  have HC := Aside0.mk hc0
  have HG := Aside0.mk hb
  have H1 := Aside0.mk h1
  have H2 := Aside0.mk h2
  have H3 := Aside0.mk h3
  have H4 := Aside0.mk h4
  have H5 := Aside0.mk h5
  have H6 := Aside0.mk h6
  have H7 := Aside0.mk h7
  have H8 := Aside0.mk h8
  clear hr0 hc0 hb h1 h2 h3 h4 h5 h6 h7 h8
  simp only [laws_FnTurned.good, decide_eq_true_eq] at hg
  obtain ⟨hp0, hp1, hp2, hpl, hss, hts⟩ := hg
  have HB := Aside0.mk (Below.refl w.heap.size w)
  go_enter Try.func4, Try.ntmps4
  go_wp2_with (first
    | (go_at_call 22; (with_reducible refine (laws_big.calls _ _ l0 false _ HR.out HC.out HG.out).mono ?_); rintro e w1 ⟨rfl, ⟨nd, rfl⟩⟩)
    | (go_at_call 23; (with_reducible refine (spec_DrawSumOf.calls k _ _ l0 s _ (Kd.C_below HR.out (bw_ HB)) HC.out H1.out).mono ?_); rintro e w2 ⟨rfl, hb⟩; replace HB := bs_ HB hb; clear hb)
    | (go_at_call 24; (with_reducible refine (spec_DrawPlaces.calls k _ _ l0 p _ (Kd.C_below HR.out HB.out) HC.out H2.out).mono ?_); rintro e w3 ⟨v0, rfl, ho, hb⟩; have HO := Aside0.mk ho; replace HB := bs_ HB hb; clear hb ho)
    | (go_at_call 25; (with_reducible refine (impl_Sealed.calls k s t true _ H3.out).mono ?_); rintro e w4 ⟨rfl, hb⟩; replace HB := bs_ HB hb; replace HO := rb_ HO hb; clear hb)
    | (go_at_call 26; (with_reducible refine (impl_Unsealed.calls k t s true _ H4.out).mono ?_); rintro e w5 ⟨rfl, hb⟩; replace HB := bs_ HB hb; replace HO := rb_ HO hb; clear hb)
    | ((with_reducible refine gate_dst (N := 49) rfl ?_); refine conv_event (N := 49) rfl rfl 9 40 5 (.tmp 48) rfl Try.underlying9 Try.underlying40 Try.underlying5 t rfl (by omega) ?_; intro g cb W6 hg hrb hz6 hb; have HRB := Aside0.mk hrb; have HZ := Aside0.mk hz6; have HGB : Aside0 (w.heap.size ≤ g) := bz_ hg; have HOG := Aside0.mk (Kd.R_mono (Kd.R_bound HO.out) (ok' := fun k => k ≠ g) (fun k hk => by have := hk.2.2.1; omega)); replace HB := bs_ HB hb; replace HO := rb_ HOG hb; clear hb hrb hz6 hg HOG; obtain ⟨I, hI, hIz, hIe⟩ := laws_FnTurned.at_nat t p hp0 (by omega); obtain ⟨Ap, cp, ep⟩ := Kd.R_slice HO.out; subst ep; have hRp := Kd.reads_of_C (d := (0 : Int)) (h1 := fun _ => rfl) (Kd.R_reads' HO.out).2.2; obtain ⟨ad, ea, hq0⟩ := ReadsInt.at_ (k := .i64) hRp 0 (by omega) (by omega); cases ea; obtain ⟨ad', ea, hq1⟩ := ReadsInt.at_ (k := .i64) hRp 1 (by omega) (by omega); cases ea; have hne : ad.block ≠ g := HO.out.1 _ rfl; obtain ⟨adb, eb, hb0⟩ := ReadsInt.at_ (k := .u8) HRB.out (I : Int) (by omega) (by omega); cases eb; have hfz := HZ.out I hIz; have hIz' : (I : Int) < (t.size : Int) := Int.ofNat_lt.mpr hIz; have hpz : (1 : Int) < (p.length : Int) := Int.ofNat_lt.mpr (Nat.lt_of_lt_of_le (by decide) hpl); have hzp : (0 : Int) < (t.size : Int) := (Int.lt_of_le_of_lt (Int.natCast_nonneg I) hIz'); have hz : (t.size : Int) ≠ 0 := Int.ne_of_gt hzp; obtain ⟨p0, hp0e⟩ : ∃ x, x = rd p 0 := ⟨_, rfl⟩; obtain ⟨p1, hp1e⟩ : ∃ x, x = rd p 1 := ⟨_, rfl⟩; obtain ⟨b0, hb0e⟩ : ∃ x, x = rd (bytesOf t) (I : Int) := ⟨_, rfl⟩; rw [← hp0e] at hq0 hIe hp0; rw [← hp1e] at hq1 hp1 hp2; rw [← hb0e] at hb0; have HP1 := Aside0.mk hp1e; have HB0 := Aside0.mk hb0e; clear hp0e hp1e hb0e; rw [Int.toNat_natCast, add_plain] at hb0; replace hq0 : W6.cell? (ad.add 0) = some (.int .i64 p0) := hq0; replace hq1 : W6.cell? ⟨ad.block, ad.off + 1, none⟩ = some (.int .i64 p1) := hq1; replace hq0 : W6.cell? ad = some (.int .i64 p0) := hq0; have HIZ := Aside0.mk hIz; have HIA := Aside0.mk hI; have HSC : Aside0 (¬ 9223372036854775807 < s.size + 1) := ⟨by omega⟩; clear hI hts hss hIz; have HIE := Aside0.mk hIe))
  go_region
  have HT : Aside0 (ReadsInt (W6.setCell ⟨g, I, none⟩ (.int .u8 (bits .xor .u8 b0 (1 + p1 % 255)))) .u8 (some ⟨g, 0, none⟩) t.size (laws_FnTurned.turn t p)) := ⟨by
    have := reads_set_ (I := I) HRB.out (bits .xor .u8 b0 (1 + p1 % 255))
    unfold laws_FnTurned.turn laws_FnTurned.by_
    rw [HIA.out, Int.toNat_natCast, ← HP1.out, ← HB0.out]
    exact this⟩
  replace HB : Aside0 (Below w.heap.size w (W6.setCell ⟨g, I, none⟩ (.int .u8 (bits .xor .u8 b0 (1 + p1 % 255))))) := ⟨below_set HB.out HGB.out⟩
  clear hb0 hq0 hq1 hfz HRB HZ HP1 HB0 HO
  generalize W6.setCell ⟨g, I, none⟩ (.int .u8 (bits .xor .u8 b0 (1 + p1 % 255))) = W7 at *
  have hsc := HSC.out
  go_wp2_with (first
    | ((with_reducible refine gate_dst (N := 72) rfl ?_); refine Kd.event_run rfl (by go_simp; rw [string_of_reads (P := Try.prog) (w := W7.drew) (dst := 9) Try.underlying40 Try.underlying5 Try.underlying9 (show ReadsInt W7.drew .u8 (some ⟨g, 0, none⟩) t.size (laws_FnTurned.turn t p) from HT.out)]; rfl) ?_)
    | (go_at_call 26; (with_reducible refine (impl_Unsealed.calls k (strOfNums (laws_FnTurned.turn t p)) u false _ H5.out).mono ?_); rintro e w8 ⟨rfl, hb⟩; replace HB := bs_ HB hb; clear hb)
    | (go_at_call 28; (with_reducible refine (impl_SumOf.calls k s c _ H6.out).mono ?_); rintro e w9 ⟨rfl, ⟨nd, rfl⟩⟩)
    | (go_at_call 27; (with_reducible refine (impl_SumMore.calls k c (⟨#[120]⟩ : ByteArray) d _ H7.out).mono ?_); rintro e w9 ⟨rfl, ⟨nd, rfl⟩⟩)
    | (go_at_call 28; (with_reducible refine (impl_SumOf.calls k (s ++ (⟨#[120]⟩ : ByteArray)) d _ H8.out).mono ?_); rintro e w9 ⟨rfl, ⟨nd, rfl⟩⟩))
  go_ret
  exact ⟨rfl, bw_ HB⟩
theorem laws_FnTurned.calls (k : Nat) (A0 : Option Addr) (c0 : Nat) (l0 : List Int) (r : Bool) (w : World) (hr0 : Kd.C (Kd.int .u8) w A0 l0.length l0) (hc0 : l0.length ≤ c0) (h : laws_FnTurned.f k l0 = some r) :
    Calls Try.prog 4 #[.slice A0 l0.length c0] w fun e w' => e = .returned (.bool r) ∧ Below w.heap.size w w' := by
  unfold laws_FnTurned.f at h
  by_cases hb : 1048576 < l0.length
  · rw [if_pos hb] at h
    obtain rfl := Option.some.inj h
    have HG : laws_big.f l0 = some true := by unfold laws_big.f; simp; omega
    go_enter Try.func4, Try.ntmps4
    have HB := Aside0.mk (Below.refl w.heap.size w)
    go_wp2_with (first
      | (go_at_call 22; (with_reducible refine (laws_big.calls _ _ l0 true _ hr0 hc0 HG).mono ?_); rintro e w1 ⟨rfl, ⟨nd, rfl⟩⟩))
    go_ret
    exact ⟨rfl, bw_ HB⟩
  · rw [if_neg hb] at h
    have HG : laws_big.f l0 = some false := by unfold laws_big.f; simp; omega
    obtain ⟨s, h1, h⟩ := Option.bind_eq_some_iff.mp h
    obtain ⟨p, h2, h⟩ := Option.bind_eq_some_iff.mp h
    obtain ⟨⟨t, t2⟩, h3, h⟩ := Option.bind_eq_some_iff.mp h
    obtain ⟨⟨u, u2⟩, h4, h⟩ := Option.bind_eq_some_iff.mp h
    by_cases e1 : t2 = true
    rotate_left
    · rw [if_neg e1] at h; exact absurd h (by simp)
    by_cases e2 : u2 = true
    rotate_left
    · rw [if_pos e1, if_neg e2] at h; exact absurd h (by simp)
    by_cases e3 : u = s
    rotate_left
    · rw [if_pos e1, if_pos e2, if_neg e3] at h; exact absurd h (by simp)
    by_cases hg : laws_FnTurned.good t p s = true
    rotate_left
    · rw [if_pos e1, if_pos e2, if_pos e3, if_neg hg] at h; exact absurd h (by simp)
    rw [if_pos e1, if_pos e2, if_pos e3, if_pos hg] at h
    subst e1; subst e2; subst e3
    obtain ⟨⟨x, x2⟩, h5, h⟩ := Option.bind_eq_some_iff.mp h
    by_cases e5 : x2 = false
    rotate_left
    · rw [if_neg e5] at h; exact absurd h (by simp)
    rw [if_pos e5] at h
    subst e5
    obtain ⟨c, h6, h⟩ := Option.bind_eq_some_iff.mp h
    obtain ⟨d, h7, h⟩ := Option.bind_eq_some_iff.mp h
    obtain ⟨d2, h8, h⟩ := Option.bind_eq_some_iff.mp h
    by_cases e6 : d = d2
    rotate_left
    · rw [if_neg e6] at h; exact absurd h (by simp)
    rw [if_pos e6] at h
    subst e6
    obtain rfl := Option.some.inj h
    exact laws_FnTurned.yes k A0 c0 l0 w hr0 hc0 _ t p x c d HG h1 h2 h3 h4 hg h5 h6 h7 h8

end Go.Proofs.Ytknbkjajfiediaa.QFnTurned
