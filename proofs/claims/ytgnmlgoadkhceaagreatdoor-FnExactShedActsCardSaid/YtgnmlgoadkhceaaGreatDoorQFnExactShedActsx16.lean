/- Written by this session's own program (wip/tpl/pp.py): what the law's functions come to, and that the machine's calls do just that. -/
import Derived.Test.YtgnmlgoadkhceaaGreatDoorQFnExactShedActsx0
import Derived.Test.YtgnmlgoadkhceaaGreatDoorQFnExactShedActsx1
import Derived.Test.YtgnmlgoadkhceaaGreatDoorQFnExactShedActsx2
import Derived.Test.YtgnmlgoadkhceaaGreatDoorQFnExactShedActsx3
import Derived.Test.YtgnmlgoadkhceaaGreatDoorQFnExactShedActsx4
import Derived.Test.YtgnmlgoadkhceaaGreatDoorQFnExactShedActsx11
import Derived.Test.YtgnmlgoadkhceaaGreatDoorQFnExactShedActsx15
namespace Go.Proofs.YtgnmlgoadkhceaaGreatDoor.QFnExactShedActs
open Go.RowKit Go.Proofs.YtgnmlgoadkhceaaGreatDoorW.PrintWords Go.Proofs.YtgnmlgoadkhceaaGreatDoorW.PrintLast Go.Proofs.YtgnmlgoadkhceaaGreatDoorW.PrintMore
attribute [local go_sem] Go.Proofs.YtgnmlgoadkhceaaGreatDoor.Sem.string_geq Go.Proofs.YtgnmlgoadkhceaaGreatDoor.Sem.string_leq Go.Proofs.YtgnmlgoadkhceaaGreatDoor.Sem.string_gtr
attribute [local go_sem] max2_int min2_int max_two min_two max_three min_three max_four min_four   -- for this text's walks alone
set_option linter.unusedVariables false
set_option linter.unusedSimpArgs false

/-! ### impl_ShedActs: function 24 -/
def impl_ShedActs.l0 : Nat → List (S65) → List (S57) → Int → Int → Int → Int → List Int → ByteArray → Option ((List (S65)))
 | 0, _, _, _, _, _, _, _, _ => none
 | k + 1, x5, x17, x18, x19, x456000, x456001, x456002, x456003 => if x19 < x18 then (if 0 ≤ x19 then (if x19 < (x17.length : Int) then ((impl_numberOf.f ((rd_T57 x17 x19).f0) (⟨#[115]⟩ : ByteArray) 1000000).bind fun t458 => (if ((rd_T57 x17 x19).f0).toList = ([115, 43] : List UInt8) then (if x5.length < 2513169434916 then (impl_ShedActs.l0 k (x5 ++ [(⟨4, (rd_T57 x17 x19).f0, (⟨#[]⟩ : ByteArray), (⟨#[]⟩ : ByteArray)⟩ : S65)]) x17 x18 (wrap64 (x19 + 1)) x456000 x456001 x456002 x456003) else (none)) else (if t458 ≥ 0 then (if t458 = x456000 then (impl_ShedActs.l0 k x5 x17 x18 (wrap64 (x19 + 1)) x456000 x456001 x456002 x456003) else (if x5.length < 2513169434916 then (impl_ShedActs.l0 k (x5 ++ [(⟨4, (rd_T57 x17 x19).f0, (⟨#[]⟩ : ByteArray), (⟨#[]⟩ : ByteArray)⟩ : S65)]) x17 x18 (wrap64 (x19 + 1)) x456000 x456001 x456002 x456003) else (none))) else (impl_ShedActs.l0 k x5 x17 x18 (wrap64 (x19 + 1)) x456000 x456001 x456002 x456003)))) else (none)) else (none)) else (some x5)
def impl_ShedActs.f (k : Nat) (l0_0 : List (S57)) : Option ((List (S65))) := (impl_NewestSnap.f k l0_0).bind fun bt448 => (if bt448.2.2.2.2 = true then (impl_ShedActs.l0 k ([] : List (S65)) l0_0 (l0_0.length : Int) 0 bt448.1 bt448.2.1 bt448.2.2.1 bt448.2.2.2.1) else (some ([] : List (S65))))
theorem impl_ShedActs.mono_l : ∀ k, (∀ y0 y1 y2 y3 y4 y5 y6 y7, LeO (impl_ShedActs.l0 k y0 y1 y2 y3 y4 y5 y6 y7) (impl_ShedActs.l0 (k + 1) y0 y1 y2 y3 y4 y5 y6 y7))
 | 0 => fun _ _ _ _ _ _ _ _ r h => by simp [impl_ShedActs.l0] at h
 | k + 1 => by
  have ih0 := impl_ShedActs.mono_l k
  ·intro y0 y1 y2 y3 y4 y5 y6 y7
   unfold impl_ShedActs.l0
   repeat' first
   | (with_reducible exact ih0 _ _ _ _ _ _ _ _)
   | (with_reducible exact LeO.refl _)
   | (with_reducible refine LeO.ite ?_ ?_)
   | (with_reducible refine LeO.bind ?_ (fun _ => ?_))
theorem impl_ShedActs.mono : ∀ a0 k, LeO (impl_ShedActs.f k a0) (impl_ShedActs.f (k + 1) a0) := by
 intro a0 k
 have ih0 := impl_ShedActs.mono_l k
 unfold impl_ShedActs.f
 repeat' first
   | (with_reducible exact ih0 _ _ _ _ _ _ _ _)
   | (with_reducible exact impl_NewestSnap.mono _ _)
   | (with_reducible exact LeO.refl _)
   | (with_reducible refine LeO.ite ?_ ?_)
   | (with_reducible refine LeO.bind ?_ (fun _ => ?_))
set_option maxHeartbeats 8000000 in
set_option maxRecDepth 100000 in
theorem impl_ShedActs.calls (k : Nat) (A0_0 : Option Addr) (c0_0 : Nat) (l0_0 : List (S57)) (r : List (S65)) (w : World) (hT : Tab2 w) (hr0_0 : Kd.C k57 w A0_0 l0_0.length l0_0) (hc0_0 : l0_0.length ≤ c0_0) (h : impl_ShedActs.f k l0_0 = some r) :
  Calls Tryz.prog 24 #[.agg #[.slice A0_0 l0_0.length c0_0]] w fun e w' => ∃ v0_ : Value, e = .returned (v0_) ∧ Kd.R k65 65 w' w.heap.size (fun _ => True) v0_ r ∧ Below w.heap.size w w' := by
 have hu36 := Tryz.underlying36
 have hu47 := Tryz.underlying47
 have hu57 := Tryz.underlying57
 have hu65 := Tryz.underlying65
 have HR0_0 := Aside0.mk hr0_0
 have HC0_0 := Aside0.mk hc0_0
 clear hr0_0 hc0_0
 have HT := Aside0.mk hT
 clear hT
 have HB := mk_ (Below.refl w.heap.size w)
 have H : ((impl_NewestSnap.f k l0_0).bind fun bt448 => (if bt448.2.2.2.2 = true then (impl_ShedActs.l0 k ([] : List (S65)) l0_0 (l0_0.length : Int) 0 bt448.1 bt448.2.1 bt448.2.2.1 bt448.2.2.2.1) else (some ([] : List (S65))))) = some r := h
 clear h
 replace H := Option.bind_eq_some_iff.mp H
 obtain ⟨⟨t448, t449, t450, t453, t454⟩, A20, H⟩ := H
 replace H : (if t454 = true then (impl_ShedActs.l0 k ([] : List (S65)) l0_0 (l0_0.length : Int) 0 t448 t449 t450 t453) else (some ([] : List (S65)))) = some r := H
 have A2 := Aside0.mk A20
 clear A20
 by_cases c3 : t454 = true
 ·subst c3
  have H1 : (impl_ShedActs.l0 k ([] : List (S65)) l0_0 (l0_0.length : Int) 0 t448 t449 t450 t453) = some r := by rw [if_pos rfl] at H; exact H
  clear H
  have H := H1
  clear H1
  have H' := Aside0.mk H
  clear H
  go_enter Tryz.func24, Tryz.ntmps24
  go_wp2_with (first | ((with_reducible refine gate_dst (N := 1) rfl ?_); refine bx_ (N := 1) (cs := #[.slice A0_0 l0_0.length c0_0]) (t := 36) ?_; intro gb447 hg w4 hbox hb; have BK447 := mk_ (hbox); have GW447 : Aside0 (w.heap.size ≤ gb447) := bz_ hg; have GE447 := GW447; replace HB := bs_ HB hb; clear hb hbox hg; obtain ⟨hcz5_0, hfz5_0⟩ := b1_ BK447) | ((with_reducible refine gate_callee (f := 19) rfl ?_); refine goesL_ (some 11) rfl rfl Tryz.func19 (by kernel_rfl) rfl #[.agg #[.slice A0_0 l0_0.length c0_0]] rfl ga_ ?_; (with_reducible refine (impl_NewestSnap.calls k _ _ l0_0 t448 t449 t450 t453 true _ (tab22 HT HB) ?side1 ?side2 A2.out).mono ?_); (case side1 => repeat (first | exact (Kd.C_below HR0_0.out HB.out) | (with_reducible refine Kd.C_alloc ?_ _) | (with_reducible refine Kd.C_drewN ?_ _) | (with_reducible refine Kd.C_drew ?_))); (case side2 => exact HC0_0.out); rintro e w6 ⟨v451, rfl, ho0, hb⟩; refine ⟨_, rfl, ?_⟩; have HO452 := mk_ (Kd.R_lower ho0 (below_size (bw_ HB))); replace BK447 := bb_ BK447 hb; replace HB := bs_ HB hb; (try clear hb); (try clear ho0)) | ((with_reducible refine gate_dst (N := 3) rfl ?_); refine bx_ (N := 3) (cs := #[.int .i64 0, .int .i64 0, .slice none 0 0, .string (⟨#[]⟩ : ByteArray)]) (t := 47) ?_; intro gb455 hg w7 hbox hb; have BK455 := mk_ (hbox); have GW455 : Aside0 (w.heap.size ≤ gb455) := bz_ hg; have GE455 := GW455; have NB447_455 := bl_ BK447 hg; have NB455_447 := bg_ BK447 hg; replace HO452 := rb_ HO452 hb; replace BK447 := bb_ BK447 hb; replace HB := bs_ HB hb; clear hb hbox hg; have hnb8 := NB455_447.out; have hnc8 := NB447_455.out; obtain ⟨hcz9_0, hcz9_1, hcz9_2, hcz9_3, hfz9_0, hfz9_1, hfz9_2, hfz9_3⟩ := b4_ BK455; obtain ⟨Ao10, co10, eo10⟩ := Kd.R_slice HO452.out; subst eo10; obtain ⟨hcz11_0, hfz11_0⟩ := b1_ BK447))
  go_loopg [5, 19] k (fun kq v5 v19 w' => ∃ (x5_1 : List (S65)) (x19_1 : Int), v19 = .int .i64 x19_1 ∧ Aside0 (impl_ShedActs.l0 kq x5_1 l0_0 (l0_0.length : Int) x19_1 t448 t449 t450 t453 = some r) ∧ Aside0 (kq ≤ k) ∧ Aside0 (Kd.R k65 65 w' w.heap.size (fun _ => True) v5 x5_1) ∧ Aside0 (Kd.R (Kd.int .i64) 3 w' w.heap.size (fun _ => True) (.slice Ao10 t450.length co10) t450) ∧ Aside0 (w'.heap[gb447]? = some (.cells #[(.slice A0_0 l0_0.length c0_0)] 36 (0, 0))) ∧ Aside0 (w'.heap[gb455]? = some (.cells #[.int .i64 t448, .int .i64 t449, (.slice Ao10 t450.length co10), .string t453] 47 (0, 0))) ∧ Aside0 (Below w.heap.size w w'))
  case atStart => exact ⟨(([] : List (S65))), (0), (by first | rfl | (simp; done) | (simp [*]; done)), H', ⟨Nat.le_refl _⟩, ⟨by first | exact Kd.R_nil _ _ _ _ _ | exact Kd.N_nil _ _ _ _ _ | exact Kd.V_nil _ _ _ _ _ | exact Kd.Q_nil _ _ _ _ _ | exact Kd.S_nil _ _ _ _ _⟩, ⟨by (with_reducible repeat (first | apply Kd.R_alloc | apply Kd.R_drewN | apply Kd.R_drew)); exact Kd.R_mono (Kd.R_far (p := ⟨gb455, 3, none⟩) (Kd.R_far (p := ⟨gb455, 2, none⟩) (Kd.R_far (p := ⟨gb455, 1, none⟩) (Kd.R_far (p := ⟨gb455, 0, none⟩) (Kd.R_types HO452.out BK455.out (by decide)) (fun _ hk => hk.2) (.int .i64 t448)) (fun _ hk => hk.2) (.int .i64 t449)) (fun _ hk => hk.2) (.slice Ao10 t450.length co10)) (fun _ hk => hk.2) (.string t453)) (fun _ hk => trivial)⟩, ⟨bf_⟩, ⟨bu_⟩, ⟨bw_ HB⟩⟩
  case round =>
   clear H'
   try clear c1
   try clear c2
   try clear p2
   try clear c3
   try clear c8
   try clear hcz11_0
   try clear hcz5_0
   try clear hcz9_0
   try clear hcz9_1
   try clear hcz9_2
   try clear hcz9_3
   try clear hfz11_0
   try clear hfz5_0
   try clear hfz9_0
   try clear hfz9_1
   try clear hfz9_2
   try clear hfz9_3
   obtain ⟨x5_1, x19_1, rfl, HA, HK1, HO_5, HO_456002, BK447, BK455, HB⟩ := hrel
   cases gk with
   | zero => exact absurd HA.out (by simp [impl_ShedActs.l0])
   | succ k1 =>
    have H := HA.out
    clear HA
    simp only [impl_ShedActs.l0] at H
    by_cases c12 : x19_1 < (l0_0.length : Int)
    ·rw [if_pos c12] at H
     have c12b0 : decide (x19_1 < (l0_0.length : Int)) = true := decide_eq_true c12
     clear c12
     by_cases c13 : 0 ≤ x19_1
     ·rw [if_pos c13] at H
      have c13b0 : decide (0 ≤ x19_1) = true := decide_eq_true c13
      clear c13
      by_cases c14 : x19_1 < (l0_0.length : Int)
      ·rw [if_pos c14] at H
       have c14b0 : decide (x19_1 < (l0_0.length : Int)) = true := decide_eq_true c14
       clear c14
       replace H := Option.bind_eq_some_iff.mp H
       obtain ⟨t458, A150, H⟩ := H
       replace H : (if ((rd_T57 l0_0 x19_1).f0).toList = ([115, 43] : List UInt8) then (if x5_1.length < 2513169434916 then (impl_ShedActs.l0 k1 (x5_1 ++ [(⟨4, (rd_T57 l0_0 x19_1).f0, (⟨#[]⟩ : ByteArray), (⟨#[]⟩ : ByteArray)⟩ : S65)]) l0_0 (l0_0.length : Int) (wrap64 (x19_1 + 1)) t448 t449 t450 t453) else (none)) else (if t458 ≥ 0 then (if t458 = t448 then (impl_ShedActs.l0 k1 x5_1 l0_0 (l0_0.length : Int) (wrap64 (x19_1 + 1)) t448 t449 t450 t453) else (if x5_1.length < 2513169434916 then (impl_ShedActs.l0 k1 (x5_1 ++ [(⟨4, (rd_T57 l0_0 x19_1).f0, (⟨#[]⟩ : ByteArray), (⟨#[]⟩ : ByteArray)⟩ : S65)]) l0_0 (l0_0.length : Int) (wrap64 (x19_1 + 1)) t448 t449 t450 t453) else (none))) else (impl_ShedActs.l0 k1 x5_1 l0_0 (l0_0.length : Int) (wrap64 (x19_1 + 1)) t448 t449 t450 t453))) = some r := H
       have A15 := Aside0.mk A150
       clear A150
       by_cases c16 : ((rd_T57 l0_0 x19_1).f0).toList = ([115, 43] : List UInt8)
       ·rw [if_pos c16] at H
        have c16b0 : (((rd_T57 l0_0 x19_1).f0).toList == ([115, 43] : List UInt8)) = true := beq_iff_eq.mpr c16
        have c16b1 : (((rd_T57 l0_0 x19_1).f0).toList != ([115, 43] : List UInt8)) = false := bne_eq_false_iff_eq.mpr c16
        clear c16
        by_cases c17 : x5_1.length < 2513169434916
        ·rw [if_pos c17] at H
         have LMc17 := Aside0.mk c17
         clear c17
         obtain ⟨y459, hy459⟩ : ∃ y_ : List (S65), y_ = (x5_1 ++ [(⟨4, (rd_T57 l0_0 x19_1).f0, (⟨#[]⟩ : ByteArray), (⟨#[]⟩ : ByteArray)⟩ : S65)]) := ⟨_, rfl⟩
         replace H : (impl_ShedActs.l0 k1 y459 l0_0 (l0_0.length : Int) (wrap64 (x19_1 + 1)) t448 t449 t450 t453) = some r := by first | (rw [hy459]; with_reducible exact H) | (have H2_ := (Option.bind_some _ _).symm.trans H; rw [hy459]; with_reducible exact H2_) | (have H2_ := (Option.bind_some _ _).symm.trans H; with_reducible exact H2_) | with_reducible exact H | (rw [hy459]; exact H) | exact H
         have Ny459 := Aside0.mk hy459
         clear hy459
         have H' := Aside0.mk H
         clear H
         have p456 : 0 ≤ (x19_1 : Int) := od_
         have q456 : x19_1 < (l0_0.length : Int) := od_
         obtain ⟨ad456, e456, hx456_0, hx456_1, hx456_2⟩ := at_T57 HR0_0.out x19_1 p456 q456
         cases e456
         replace hx456_0 := hc_ HB hx456_0
         replace hx456_1 := hc_ HB hx456_1
         replace hx456_2 := hc_ HB hx456_2
         replace p456 := eq_true p456
         replace q456 := eq_true q456
         go_wp2_with (first | ((with_reducible refine gate_dst (N := 7) rfl ?_); refine bx_ (N := 7) (cs := #[.string (⟨#[]⟩ : ByteArray), .string (⟨#[]⟩ : ByteArray), .int .i64 0]) (t := 57) ?_; intro gb457 hg w18 hbox hb; have BK457 := mk_ (hbox); have GW457 : Aside0 (w.heap.size ≤ gb457) := bz_ hg; have GE457 := GW457; have NB447_457 := bl_ BK447 hg; have NB457_447 := bg_ BK447 hg; have NB455_457 := bl_ BK455 hg; have NB457_455 := bg_ BK455 hg; replace HO_5 := rb_ HO_5 hb; replace HO_456002 := rb_ HO_456002 hb; replace BK447 := bb_ BK447 hb; replace BK455 := bb_ BK455 hb; replace HB := bs_ HB hb; clear hb hbox hg; have hnb19 := NB457_447.out; have hnc19 := NB447_457.out; have hnb20 := NB457_455.out; have hnc20 := NB455_457.out; obtain ⟨hcz21_0, hcz21_1, hcz21_2, hfz21_0, hfz21_1, hfz21_2⟩ := b3_ BK457) | ((with_reducible refine gate_callee (f := 35) rfl ?_); refine goesL_ (some 25) rfl rfl Tryz.func35 (by kernel_rfl) rfl #[.string ((rd_T57 l0_0 x19_1).f0), .string (⟨#[115]⟩ : ByteArray), .int .i64 1000000] rfl ga_ ?_; (with_reducible refine (impl_numberOf.calls ((rd_T57 l0_0 x19_1).f0) (⟨#[115]⟩ : ByteArray) 1000000 t458 _ (tab22 HT HB) A15.out).mono ?_); rintro e w22 ⟨rfl, hb⟩; refine ⟨_, rfl, ?_⟩; replace HO_5 := mk_ (Kd.R_below (by (with_reducible repeat (first | apply Kd.R_alloc | apply Kd.R_drewN | apply Kd.R_drew)); exact (Kd.R_mono (Kd.R_far (p := ⟨gb457, 2, none⟩) (Kd.R_far (p := ⟨gb457, 1, none⟩) (Kd.R_far (p := ⟨gb457, 0, none⟩) (Kd.R_types HO_5.out BK457.out (by decide)) (fun _ hk => hk.2) (.string ((rd_T57 l0_0 x19_1).f0))) (fun _ hk => hk.2) (.string ((rd_T57 l0_0 x19_1).f1))) (fun _ hk => hk.2) (.int .i64 ((rd_T57 l0_0 x19_1).f2))) (fun _ h_ => h_.1))) hb); replace HO_456002 := mk_ (Kd.R_below (by (with_reducible repeat (first | apply Kd.R_alloc | apply Kd.R_drewN | apply Kd.R_drew)); exact (Kd.R_mono (Kd.R_far (p := ⟨gb457, 2, none⟩) (Kd.R_far (p := ⟨gb457, 1, none⟩) (Kd.R_far (p := ⟨gb457, 0, none⟩) (Kd.R_types HO_456002.out BK457.out (by decide)) (fun _ hk => hk.2) (.string ((rd_T57 l0_0 x19_1).f0))) (fun _ hk => hk.2) (.string ((rd_T57 l0_0 x19_1).f1))) (fun _ hk => hk.2) (.int .i64 ((rd_T57 l0_0 x19_1).f2))) (fun _ h_ => h_.1))) hb); replace BK447 := mk_ (blk_below (g := gb447) (o := .cells #[.slice (some ad456) l0_0.length c0_0] 36 (0, 0)) bf_ hb); replace BK455 := mk_ (blk_below (g := gb455) (o := .cells #[.int .i64 t448, .int .i64 t449, .slice Ao10 t450.length co10, .string t453] 47 (0, 0)) bf_ hb); replace BK457 := mk_ (blk_below (g := gb457) (o := .cells #[.string ((rd_T57 l0_0 x19_1).f0), .string ((rd_T57 l0_0 x19_1).f1), .int .i64 ((rd_T57 l0_0 x19_1).f2)] 57 (0, 0)) bu_ hb); replace HB := bs_ HB hb; (try clear hb); (try clear hk); obtain ⟨hcz23_0, hcz23_1, hcz23_2, hfz23_0, hfz23_1, hfz23_2⟩ := b3_ BK457) | ((with_reducible refine gate_builtin (b := .append) (xs := #[.tmp 39, .tmp 43]) rfl ?_); at_builtin; refine Kd.R_append k65 (w0 := w) w.heap.size rfl (.tmp 39) (.tmp 43) 31 65 (.agg #[(.int .i64 0), (.string ⟨#[]⟩), (.string ⟨#[]⟩), (.string ⟨#[]⟩)]) 56 rfl Tryz.underlying31 info65 rfl (by decide) (by omega) u5 x5_1 (⟨4, (rd_T57 l0_0 x19_1).f0, (⟨#[]⟩ : ByteArray), (⟨#[]⟩ : ByteArray)⟩ : S65) [.int .i64 4, .string ((rd_T57 l0_0 x19_1).f0), .string (⟨#[]⟩ : ByteArray), .string (⟨#[]⟩ : ByteArray)] (fun _ => True) (fun _ => False) rfl rfl ?aP (fun _ hk => hk.elim) ?aF ?aO ?aB ?aS ?aL ?_; (case aP => exact k65_mkM _ _ _ (⟨4, (rd_T57 l0_0 x19_1).f0, (⟨#[]⟩ : ByteArray), (⟨#[]⟩ : ByteArray)⟩ : S65)); (case aB => exact (bw_ HB)); (case aF => exact (fun _ _ => trivial)); (case aO => exact (rp_ HO_5)); (case aS => exact (below_size (bw_ HB))); (case aL => have := LMc17.out; omega); intro v460 w24 ho hb hg hat; rw [← Ny459.out] at ho; have HO461 := mk_ (ho); replace HO_456002 := mk_ (Kd.R_over' (rp_ HO_456002) (Kd.R_typed (rp_ HO_5)) (by decide) hg); replace BK447 := mk_ (blk_grown (g := gb447) (o := .cells #[.slice (some ad456) l0_0.length c0_0] 36 (0, 0)) (bp_ BK447) hg (Kd.R_ne HO_5.out BK447.out (by decide))); replace BK455 := mk_ (blk_grown (g := gb455) (o := .cells #[.int .i64 t448, .int .i64 t449, .slice Ao10 t450.length co10, .string t453] 47 (0, 0)) (bp_ BK455) hg (Kd.R_ne HO_5.out BK455.out (by decide))); replace BK457 := mk_ (blk_grown (g := gb457) (o := .cells #[.string ((rd_T57 l0_0 x19_1).f0), .string ((rd_T57 l0_0 x19_1).f1), .int .i64 ((rd_T57 l0_0 x19_1).f2)] 57 (0, 0)) (bp_ BK457) hg (Kd.R_ne HO_5.out BK457.out (by decide))); replace HB := mk_ (hb); clear HO_5; clear ho hb hg hat))
         go_roundg k1
         case measure => have := HK1.out; omega
         case rel => exact ⟨(y459), (wrap64 (x19_1 + 1)), (by first | rfl | (simp; done) | (simp [*]; done)), H', ⟨by have := HK1.out; omega⟩, ⟨by (with_reducible repeat (first | apply Kd.R_alloc | apply Kd.R_drewN | apply Kd.R_drew)); exact HO461.out⟩, ⟨by (with_reducible repeat (first | apply Kd.R_alloc | apply Kd.R_drewN | apply Kd.R_drew)); exact HO_456002.out⟩, ⟨bf_⟩, ⟨bf_⟩, ⟨bw_ HB⟩⟩
        ·rw [if_neg c17] at H
         exact absurd H (by simp)
       ·rw [if_neg c16] at H
        have c16b0 : (((rd_T57 l0_0 x19_1).f0).toList == ([115, 43] : List UInt8)) = false := beq_eq_false_iff_ne.mpr c16
        have c16b1 : (((rd_T57 l0_0 x19_1).f0).toList != ([115, 43] : List UInt8)) = true := bne_iff_ne.mpr c16
        by_cases c25 : t458 ≥ 0
        ·rw [if_pos c25] at H
         have c25b0 : decide (0 ≤ t458) = true := decide_eq_true c25
         clear c25
         by_cases c26 : t458 = t448
         ·rw [if_pos c26] at H
          have c26b0 : (t458 == t448) = true := beq_iff_eq.mpr c26
          have c26b1 : (t458 != t448) = false := bne_eq_false_iff_eq.mpr c26
          clear c26
          have H' := Aside0.mk H
          clear H
          have p456 : 0 ≤ (x19_1 : Int) := od_
          have q456 : x19_1 < (l0_0.length : Int) := od_
          obtain ⟨ad456, e456, hx456_0, hx456_1, hx456_2⟩ := at_T57 HR0_0.out x19_1 p456 q456
          cases e456
          replace hx456_0 := hc_ HB hx456_0
          replace hx456_1 := hc_ HB hx456_1
          replace hx456_2 := hc_ HB hx456_2
          replace p456 := eq_true p456
          replace q456 := eq_true q456
          go_wp2_with (first | ((with_reducible refine gate_dst (N := 7) rfl ?_); refine bx_ (N := 7) (cs := #[.string (⟨#[]⟩ : ByteArray), .string (⟨#[]⟩ : ByteArray), .int .i64 0]) (t := 57) ?_; intro gb457 hg w27 hbox hb; have BK457 := mk_ (hbox); have GW457 : Aside0 (w.heap.size ≤ gb457) := bz_ hg; have GE457 := GW457; have NB447_457 := bl_ BK447 hg; have NB457_447 := bg_ BK447 hg; have NB455_457 := bl_ BK455 hg; have NB457_455 := bg_ BK455 hg; replace HO_5 := rb_ HO_5 hb; replace HO_456002 := rb_ HO_456002 hb; replace BK447 := bb_ BK447 hb; replace BK455 := bb_ BK455 hb; replace HB := bs_ HB hb; clear hb hbox hg; have hnb28 := NB457_447.out; have hnc28 := NB447_457.out; have hnb29 := NB457_455.out; have hnc29 := NB455_457.out; obtain ⟨hcz30_0, hcz30_1, hcz30_2, hfz30_0, hfz30_1, hfz30_2⟩ := b3_ BK457) | ((with_reducible refine gate_callee (f := 35) rfl ?_); refine goesL_ (some 25) rfl rfl Tryz.func35 (by kernel_rfl) rfl #[.string ((rd_T57 l0_0 x19_1).f0), .string (⟨#[115]⟩ : ByteArray), .int .i64 1000000] rfl ga_ ?_; (with_reducible refine (impl_numberOf.calls ((rd_T57 l0_0 x19_1).f0) (⟨#[115]⟩ : ByteArray) 1000000 t458 _ (tab22 HT HB) A15.out).mono ?_); rintro e w31 ⟨rfl, hb⟩; refine ⟨_, rfl, ?_⟩; replace HO_5 := mk_ (Kd.R_below (by (with_reducible repeat (first | apply Kd.R_alloc | apply Kd.R_drewN | apply Kd.R_drew)); exact (Kd.R_mono (Kd.R_far (p := ⟨gb457, 2, none⟩) (Kd.R_far (p := ⟨gb457, 1, none⟩) (Kd.R_far (p := ⟨gb457, 0, none⟩) (Kd.R_types HO_5.out BK457.out (by decide)) (fun _ hk => hk.2) (.string ((rd_T57 l0_0 x19_1).f0))) (fun _ hk => hk.2) (.string ((rd_T57 l0_0 x19_1).f1))) (fun _ hk => hk.2) (.int .i64 ((rd_T57 l0_0 x19_1).f2))) (fun _ h_ => h_.1))) hb); replace HO_456002 := mk_ (Kd.R_below (by (with_reducible repeat (first | apply Kd.R_alloc | apply Kd.R_drewN | apply Kd.R_drew)); exact (Kd.R_mono (Kd.R_far (p := ⟨gb457, 2, none⟩) (Kd.R_far (p := ⟨gb457, 1, none⟩) (Kd.R_far (p := ⟨gb457, 0, none⟩) (Kd.R_types HO_456002.out BK457.out (by decide)) (fun _ hk => hk.2) (.string ((rd_T57 l0_0 x19_1).f0))) (fun _ hk => hk.2) (.string ((rd_T57 l0_0 x19_1).f1))) (fun _ hk => hk.2) (.int .i64 ((rd_T57 l0_0 x19_1).f2))) (fun _ h_ => h_.1))) hb); replace BK447 := mk_ (blk_below (g := gb447) (o := .cells #[.slice (some ad456) l0_0.length c0_0] 36 (0, 0)) bf_ hb); replace BK455 := mk_ (blk_below (g := gb455) (o := .cells #[.int .i64 t448, .int .i64 t449, .slice Ao10 t450.length co10, .string t453] 47 (0, 0)) bf_ hb); replace BK457 := mk_ (blk_below (g := gb457) (o := .cells #[.string ((rd_T57 l0_0 x19_1).f0), .string ((rd_T57 l0_0 x19_1).f1), .int .i64 ((rd_T57 l0_0 x19_1).f2)] 57 (0, 0)) bu_ hb); replace HB := bs_ HB hb; (try clear hb); (try clear hk); obtain ⟨hcz32_0, hcz32_1, hcz32_2, hfz32_0, hfz32_1, hfz32_2⟩ := b3_ BK457; have hnb33 := NB455_447.out; have hnc33 := NB447_455.out; obtain ⟨hcz34_0, hcz34_1, hcz34_2, hcz34_3, hfz34_0, hfz34_1, hfz34_2, hfz34_3⟩ := b4_ BK455))
          go_roundg k1
          case measure => have := HK1.out; omega
          case rel => exact ⟨(x5_1), (wrap64 (x19_1 + 1)), (by first | rfl | (simp; done) | (simp [*]; done)), H', ⟨by have := HK1.out; omega⟩, ⟨by (with_reducible repeat (first | apply Kd.R_alloc | apply Kd.R_drewN | apply Kd.R_drew)); exact HO_5.out⟩, ⟨by (with_reducible repeat (first | apply Kd.R_alloc | apply Kd.R_drewN | apply Kd.R_drew)); exact HO_456002.out⟩, ⟨bf_⟩, ⟨bf_⟩, ⟨bw_ HB⟩⟩
         ·rw [if_neg c26] at H
          have c26b0 : (t458 == t448) = false := beq_eq_false_iff_ne.mpr c26
          have c26b1 : (t458 != t448) = true := bne_iff_ne.mpr c26
          by_cases c35 : x5_1.length < 2513169434916
          ·rw [if_pos c35] at H
           have LMc35 := Aside0.mk c35
           clear c35
           obtain ⟨y462, hy462⟩ : ∃ y_ : List (S65), y_ = (x5_1 ++ [(⟨4, (rd_T57 l0_0 x19_1).f0, (⟨#[]⟩ : ByteArray), (⟨#[]⟩ : ByteArray)⟩ : S65)]) := ⟨_, rfl⟩
           replace H : (impl_ShedActs.l0 k1 y462 l0_0 (l0_0.length : Int) (wrap64 (x19_1 + 1)) t448 t449 t450 t453) = some r := by first | (rw [hy462]; with_reducible exact H) | (have H2_ := (Option.bind_some _ _).symm.trans H; rw [hy462]; with_reducible exact H2_) | (have H2_ := (Option.bind_some _ _).symm.trans H; with_reducible exact H2_) | with_reducible exact H | (rw [hy462]; exact H) | exact H
           have Ny462 := Aside0.mk hy462
           clear hy462
           have H' := Aside0.mk H
           clear H
           have p456 : 0 ≤ (x19_1 : Int) := od_
           have q456 : x19_1 < (l0_0.length : Int) := od_
           obtain ⟨ad456, e456, hx456_0, hx456_1, hx456_2⟩ := at_T57 HR0_0.out x19_1 p456 q456
           cases e456
           replace hx456_0 := hc_ HB hx456_0
           replace hx456_1 := hc_ HB hx456_1
           replace hx456_2 := hc_ HB hx456_2
           replace p456 := eq_true p456
           replace q456 := eq_true q456
           go_wp2_with (first | ((with_reducible refine gate_dst (N := 7) rfl ?_); refine bx_ (N := 7) (cs := #[.string (⟨#[]⟩ : ByteArray), .string (⟨#[]⟩ : ByteArray), .int .i64 0]) (t := 57) ?_; intro gb457 hg w36 hbox hb; have BK457 := mk_ (hbox); have GW457 : Aside0 (w.heap.size ≤ gb457) := bz_ hg; have GE457 := GW457; have NB447_457 := bl_ BK447 hg; have NB457_447 := bg_ BK447 hg; have NB455_457 := bl_ BK455 hg; have NB457_455 := bg_ BK455 hg; replace HO_5 := rb_ HO_5 hb; replace HO_456002 := rb_ HO_456002 hb; replace BK447 := bb_ BK447 hb; replace BK455 := bb_ BK455 hb; replace HB := bs_ HB hb; clear hb hbox hg; have hnb37 := NB457_447.out; have hnc37 := NB447_457.out; have hnb38 := NB457_455.out; have hnc38 := NB455_457.out; obtain ⟨hcz39_0, hcz39_1, hcz39_2, hfz39_0, hfz39_1, hfz39_2⟩ := b3_ BK457) | ((with_reducible refine gate_callee (f := 35) rfl ?_); refine goesL_ (some 25) rfl rfl Tryz.func35 (by kernel_rfl) rfl #[.string ((rd_T57 l0_0 x19_1).f0), .string (⟨#[115]⟩ : ByteArray), .int .i64 1000000] rfl ga_ ?_; (with_reducible refine (impl_numberOf.calls ((rd_T57 l0_0 x19_1).f0) (⟨#[115]⟩ : ByteArray) 1000000 t458 _ (tab22 HT HB) A15.out).mono ?_); rintro e w40 ⟨rfl, hb⟩; refine ⟨_, rfl, ?_⟩; replace HO_5 := mk_ (Kd.R_below (by (with_reducible repeat (first | apply Kd.R_alloc | apply Kd.R_drewN | apply Kd.R_drew)); exact (Kd.R_mono (Kd.R_far (p := ⟨gb457, 2, none⟩) (Kd.R_far (p := ⟨gb457, 1, none⟩) (Kd.R_far (p := ⟨gb457, 0, none⟩) (Kd.R_types HO_5.out BK457.out (by decide)) (fun _ hk => hk.2) (.string ((rd_T57 l0_0 x19_1).f0))) (fun _ hk => hk.2) (.string ((rd_T57 l0_0 x19_1).f1))) (fun _ hk => hk.2) (.int .i64 ((rd_T57 l0_0 x19_1).f2))) (fun _ h_ => h_.1))) hb); replace HO_456002 := mk_ (Kd.R_below (by (with_reducible repeat (first | apply Kd.R_alloc | apply Kd.R_drewN | apply Kd.R_drew)); exact (Kd.R_mono (Kd.R_far (p := ⟨gb457, 2, none⟩) (Kd.R_far (p := ⟨gb457, 1, none⟩) (Kd.R_far (p := ⟨gb457, 0, none⟩) (Kd.R_types HO_456002.out BK457.out (by decide)) (fun _ hk => hk.2) (.string ((rd_T57 l0_0 x19_1).f0))) (fun _ hk => hk.2) (.string ((rd_T57 l0_0 x19_1).f1))) (fun _ hk => hk.2) (.int .i64 ((rd_T57 l0_0 x19_1).f2))) (fun _ h_ => h_.1))) hb); replace BK447 := mk_ (blk_below (g := gb447) (o := .cells #[.slice (some ad456) l0_0.length c0_0] 36 (0, 0)) bf_ hb); replace BK455 := mk_ (blk_below (g := gb455) (o := .cells #[.int .i64 t448, .int .i64 t449, .slice Ao10 t450.length co10, .string t453] 47 (0, 0)) bf_ hb); replace BK457 := mk_ (blk_below (g := gb457) (o := .cells #[.string ((rd_T57 l0_0 x19_1).f0), .string ((rd_T57 l0_0 x19_1).f1), .int .i64 ((rd_T57 l0_0 x19_1).f2)] 57 (0, 0)) bu_ hb); replace HB := bs_ HB hb; (try clear hb); (try clear hk); obtain ⟨hcz41_0, hcz41_1, hcz41_2, hfz41_0, hfz41_1, hfz41_2⟩ := b3_ BK457; have hnb42 := NB455_447.out; have hnc42 := NB447_455.out; obtain ⟨hcz43_0, hcz43_1, hcz43_2, hcz43_3, hfz43_0, hfz43_1, hfz43_2, hfz43_3⟩ := b4_ BK455) | ((with_reducible refine gate_builtin (b := .append) (xs := #[.tmp 39, .tmp 43]) rfl ?_); at_builtin; refine Kd.R_append k65 (w0 := w) w.heap.size rfl (.tmp 39) (.tmp 43) 31 65 (.agg #[(.int .i64 0), (.string ⟨#[]⟩), (.string ⟨#[]⟩), (.string ⟨#[]⟩)]) 56 rfl Tryz.underlying31 info65 rfl (by decide) (by omega) u5 x5_1 (⟨4, (rd_T57 l0_0 x19_1).f0, (⟨#[]⟩ : ByteArray), (⟨#[]⟩ : ByteArray)⟩ : S65) [.int .i64 4, .string ((rd_T57 l0_0 x19_1).f0), .string (⟨#[]⟩ : ByteArray), .string (⟨#[]⟩ : ByteArray)] (fun _ => True) (fun _ => False) rfl rfl ?aP (fun _ hk => hk.elim) ?aF ?aO ?aB ?aS ?aL ?_; (case aP => exact k65_mkM _ _ _ (⟨4, (rd_T57 l0_0 x19_1).f0, (⟨#[]⟩ : ByteArray), (⟨#[]⟩ : ByteArray)⟩ : S65)); (case aB => exact (bw_ HB)); (case aF => exact (fun _ _ => trivial)); (case aO => exact (rp_ HO_5)); (case aS => exact (below_size (bw_ HB))); (case aL => have := LMc35.out; omega); intro v463 w44 ho hb hg hat; rw [← Ny462.out] at ho; have HO464 := mk_ (ho); replace HO_456002 := mk_ (Kd.R_over' (rp_ HO_456002) (Kd.R_typed (rp_ HO_5)) (by decide) hg); replace BK447 := mk_ (blk_grown (g := gb447) (o := .cells #[.slice (some ad456) l0_0.length c0_0] 36 (0, 0)) (bp_ BK447) hg (Kd.R_ne HO_5.out BK447.out (by decide))); replace BK455 := mk_ (blk_grown (g := gb455) (o := .cells #[.int .i64 t448, .int .i64 t449, .slice Ao10 t450.length co10, .string t453] 47 (0, 0)) (bp_ BK455) hg (Kd.R_ne HO_5.out BK455.out (by decide))); replace BK457 := mk_ (blk_grown (g := gb457) (o := .cells #[.string ((rd_T57 l0_0 x19_1).f0), .string ((rd_T57 l0_0 x19_1).f1), .int .i64 ((rd_T57 l0_0 x19_1).f2)] 57 (0, 0)) (bp_ BK457) hg (Kd.R_ne HO_5.out BK457.out (by decide))); replace HB := mk_ (hb); clear HO_5; clear ho hb hg hat))
           go_roundg k1
           case measure => have := HK1.out; omega
           case rel => exact ⟨(y462), (wrap64 (x19_1 + 1)), (by first | rfl | (simp; done) | (simp [*]; done)), H', ⟨by have := HK1.out; omega⟩, ⟨by (with_reducible repeat (first | apply Kd.R_alloc | apply Kd.R_drewN | apply Kd.R_drew)); exact HO464.out⟩, ⟨by (with_reducible repeat (first | apply Kd.R_alloc | apply Kd.R_drewN | apply Kd.R_drew)); exact HO_456002.out⟩, ⟨bf_⟩, ⟨bf_⟩, ⟨bw_ HB⟩⟩
          ·rw [if_neg c35] at H
           exact absurd H (by simp)
        ·rw [if_neg c25] at H
         have c25b0 : decide (0 ≤ t458) = false := decide_eq_false c25
         clear c25
         have H' := Aside0.mk H
         clear H
         have p456 : 0 ≤ (x19_1 : Int) := od_
         have q456 : x19_1 < (l0_0.length : Int) := od_
         obtain ⟨ad456, e456, hx456_0, hx456_1, hx456_2⟩ := at_T57 HR0_0.out x19_1 p456 q456
         cases e456
         replace hx456_0 := hc_ HB hx456_0
         replace hx456_1 := hc_ HB hx456_1
         replace hx456_2 := hc_ HB hx456_2
         replace p456 := eq_true p456
         replace q456 := eq_true q456
         go_wp2_with (first | ((with_reducible refine gate_dst (N := 7) rfl ?_); refine bx_ (N := 7) (cs := #[.string (⟨#[]⟩ : ByteArray), .string (⟨#[]⟩ : ByteArray), .int .i64 0]) (t := 57) ?_; intro gb457 hg w45 hbox hb; have BK457 := mk_ (hbox); have GW457 : Aside0 (w.heap.size ≤ gb457) := bz_ hg; have GE457 := GW457; have NB447_457 := bl_ BK447 hg; have NB457_447 := bg_ BK447 hg; have NB455_457 := bl_ BK455 hg; have NB457_455 := bg_ BK455 hg; replace HO_5 := rb_ HO_5 hb; replace HO_456002 := rb_ HO_456002 hb; replace BK447 := bb_ BK447 hb; replace BK455 := bb_ BK455 hb; replace HB := bs_ HB hb; clear hb hbox hg; have hnb46 := NB457_447.out; have hnc46 := NB447_457.out; have hnb47 := NB457_455.out; have hnc47 := NB455_457.out; obtain ⟨hcz48_0, hcz48_1, hcz48_2, hfz48_0, hfz48_1, hfz48_2⟩ := b3_ BK457) | ((with_reducible refine gate_callee (f := 35) rfl ?_); refine goesL_ (some 25) rfl rfl Tryz.func35 (by kernel_rfl) rfl #[.string ((rd_T57 l0_0 x19_1).f0), .string (⟨#[115]⟩ : ByteArray), .int .i64 1000000] rfl ga_ ?_; (with_reducible refine (impl_numberOf.calls ((rd_T57 l0_0 x19_1).f0) (⟨#[115]⟩ : ByteArray) 1000000 t458 _ (tab22 HT HB) A15.out).mono ?_); rintro e w49 ⟨rfl, hb⟩; refine ⟨_, rfl, ?_⟩; replace HO_5 := mk_ (Kd.R_below (by (with_reducible repeat (first | apply Kd.R_alloc | apply Kd.R_drewN | apply Kd.R_drew)); exact (Kd.R_mono (Kd.R_far (p := ⟨gb457, 2, none⟩) (Kd.R_far (p := ⟨gb457, 1, none⟩) (Kd.R_far (p := ⟨gb457, 0, none⟩) (Kd.R_types HO_5.out BK457.out (by decide)) (fun _ hk => hk.2) (.string ((rd_T57 l0_0 x19_1).f0))) (fun _ hk => hk.2) (.string ((rd_T57 l0_0 x19_1).f1))) (fun _ hk => hk.2) (.int .i64 ((rd_T57 l0_0 x19_1).f2))) (fun _ h_ => h_.1))) hb); replace HO_456002 := mk_ (Kd.R_below (by (with_reducible repeat (first | apply Kd.R_alloc | apply Kd.R_drewN | apply Kd.R_drew)); exact (Kd.R_mono (Kd.R_far (p := ⟨gb457, 2, none⟩) (Kd.R_far (p := ⟨gb457, 1, none⟩) (Kd.R_far (p := ⟨gb457, 0, none⟩) (Kd.R_types HO_456002.out BK457.out (by decide)) (fun _ hk => hk.2) (.string ((rd_T57 l0_0 x19_1).f0))) (fun _ hk => hk.2) (.string ((rd_T57 l0_0 x19_1).f1))) (fun _ hk => hk.2) (.int .i64 ((rd_T57 l0_0 x19_1).f2))) (fun _ h_ => h_.1))) hb); replace BK447 := mk_ (blk_below (g := gb447) (o := .cells #[.slice (some ad456) l0_0.length c0_0] 36 (0, 0)) bf_ hb); replace BK455 := mk_ (blk_below (g := gb455) (o := .cells #[.int .i64 t448, .int .i64 t449, .slice Ao10 t450.length co10, .string t453] 47 (0, 0)) bf_ hb); replace BK457 := mk_ (blk_below (g := gb457) (o := .cells #[.string ((rd_T57 l0_0 x19_1).f0), .string ((rd_T57 l0_0 x19_1).f1), .int .i64 ((rd_T57 l0_0 x19_1).f2)] 57 (0, 0)) bu_ hb); replace HB := bs_ HB hb; (try clear hb); (try clear hk); obtain ⟨hcz50_0, hcz50_1, hcz50_2, hfz50_0, hfz50_1, hfz50_2⟩ := b3_ BK457))
         go_roundg k1
         case measure => have := HK1.out; omega
         case rel => exact ⟨(x5_1), (wrap64 (x19_1 + 1)), (by first | rfl | (simp; done) | (simp [*]; done)), H', ⟨by have := HK1.out; omega⟩, ⟨by (with_reducible repeat (first | apply Kd.R_alloc | apply Kd.R_drewN | apply Kd.R_drew)); exact HO_5.out⟩, ⟨by (with_reducible repeat (first | apply Kd.R_alloc | apply Kd.R_drewN | apply Kd.R_drew)); exact HO_456002.out⟩, ⟨bf_⟩, ⟨bf_⟩, ⟨bw_ HB⟩⟩
      ·rw [if_neg c14] at H
       exact absurd H (by simp)
     ·rw [if_neg c13] at H
      exact absurd H (by simp)
    ·rw [if_neg c12] at H
     have c12b0 : decide (x19_1 < (l0_0.length : Int)) = false := decide_eq_false c12
     clear c12
     obtain rfl := Option.some.inj H
     go_wp2
     go_ret
     exact ⟨_, er_, by (with_reducible repeat (first | apply Kd.R_alloc | apply Kd.R_drewN | apply Kd.R_drew)); exact HO_5.out, bw_ HB⟩
 ·replace c3 := Bool.eq_false_iff.mpr c3
  subst c3
  have H1 : (some ([] : List (S65))) = some r := by rw [if_neg (show ¬ (false = true) by decide)] at H; exact H
  clear H
  have H := H1
  clear H1
  obtain rfl := Option.some.inj H
  go_enter Tryz.func24, Tryz.ntmps24
  go_wp2_with (first | ((with_reducible refine gate_dst (N := 1) rfl ?_); refine bx_ (N := 1) (cs := #[.slice A0_0 l0_0.length c0_0]) (t := 36) ?_; intro gb447 hg w51 hbox hb; have BK447 := mk_ (hbox); have GW447 : Aside0 (w.heap.size ≤ gb447) := bz_ hg; have GE447 := GW447; replace HB := bs_ HB hb; clear hb hbox hg; obtain ⟨hcz52_0, hfz52_0⟩ := b1_ BK447) | ((with_reducible refine gate_callee (f := 19) rfl ?_); refine goesL_ (some 11) rfl rfl Tryz.func19 (by kernel_rfl) rfl #[.agg #[.slice A0_0 l0_0.length c0_0]] rfl ga_ ?_; (with_reducible refine (impl_NewestSnap.calls k _ _ l0_0 t448 t449 t450 t453 false _ (tab22 HT HB) ?side1 ?side2 A2.out).mono ?_); (case side1 => repeat (first | exact (Kd.C_below HR0_0.out HB.out) | (with_reducible refine Kd.C_alloc ?_ _) | (with_reducible refine Kd.C_drewN ?_ _) | (with_reducible refine Kd.C_drew ?_))); (case side2 => exact HC0_0.out); rintro e w53 ⟨v451, rfl, ho0, hb⟩; refine ⟨_, rfl, ?_⟩; have HO452 := mk_ (Kd.R_lower ho0 (below_size (bw_ HB))); replace BK447 := bb_ BK447 hb; replace HB := bs_ HB hb; (try clear hb); (try clear ho0)) | ((with_reducible refine gate_dst (N := 3) rfl ?_); refine bx_ (N := 3) (cs := #[.int .i64 0, .int .i64 0, .slice none 0 0, .string (⟨#[]⟩ : ByteArray)]) (t := 47) ?_; intro gb455 hg w54 hbox hb; have BK455 := mk_ (hbox); have GW455 : Aside0 (w.heap.size ≤ gb455) := bz_ hg; have GE455 := GW455; have NB447_455 := bl_ BK447 hg; have NB455_447 := bg_ BK447 hg; replace HO452 := rb_ HO452 hb; replace BK447 := bb_ BK447 hb; replace HB := bs_ HB hb; clear hb hbox hg; have hnb55 := NB455_447.out; have hnc55 := NB447_455.out; obtain ⟨hcz56_0, hcz56_1, hcz56_2, hcz56_3, hfz56_0, hfz56_1, hfz56_2, hfz56_3⟩ := b4_ BK455; obtain ⟨Ao57, co57, eo57⟩ := Kd.R_slice HO452.out; subst eo57))
  go_ret
  exact ⟨_, er_, by first | exact Kd.R_nil _ _ _ _ _ | exact Kd.N_nil _ _ _ _ _ | exact Kd.V_nil _ _ _ _ _ | exact Kd.Q_nil _ _ _ _ _ | exact Kd.S_nil _ _ _ _ _, bw_ HB⟩

/-! ### laws_FnExactShedActs: function 5 -/
def laws_FnExactShedActs.j0 : Nat → List (S65) → List (S65) → Bool → List (S82) → Option (Bool)
 | 0, _, _, _, _ => none
 | k + 1, x4, x6, x42, x466000 => if x42 = true then (none) else ((laws_markActS.f k x6 1).bind fun bt488 => ((laws_heldActS.f k bt488.2 1).bind fun t490 => (if t490 < 0 then (none) else (if t490 = bt488.1 then ((laws_toDisk.f k x466000).bind fun t491 => ((impl_ShedActs.f k t491).bind fun t494 => ((laws_eqActS.f k t494 x4).bind fun t497 => (if t497 = true then ((laws_heldActS.f k bt488.2 1).bind fun t498 => (if t498 < 0 then (none) else (if t498 = bt488.1 then (some true) else (none)))) else (none))))) else (none)))))
def laws_FnExactShedActs.f (k : Nat) (l0_0 : List (S82)) : Option (Bool) := (laws_szDisk.f k l0_0 1048576).bind fun t466 => (if t466 < 0 then (some true) else ((laws_toDisk.f k l0_0).bind fun t467 => ((spec_ShedActs.f k t467).bind fun t470 => ((laws_toDisk.f k l0_0).bind fun t473 => ((impl_ShedActs.f k t473).bind fun t477 => ((laws_eqActS.f k t477 t470).bind fun t480 => (if t480 = true then ((laws_toDisk.f k l0_0).bind fun t481 => ((laws_eqDisk.f k t473 t481).bind fun t484 => (if t484 = true then ((laws_markDisk.f k t473 1).bind fun bt485 => (if bt485.1 < 0 then (none) else ((laws_eqActS.f k t477 t470).bind fun t487 => (laws_FnExactShedActs.j0 k t470 t477 (!t487) l0_0)))) else (none)))) else (none))))))))
theorem laws_FnExactShedActs.mono_l : ∀ k, (∀ y0 y1 y2 y3, LeO (laws_FnExactShedActs.j0 k y0 y1 y2 y3) (laws_FnExactShedActs.j0 (k + 1) y0 y1 y2 y3))
 | 0 => fun _ _ _ _ r h => by simp [laws_FnExactShedActs.j0] at h
 | k + 1 => by
  have ih0 := laws_FnExactShedActs.mono_l k
  ·intro y0 y1 y2 y3
   unfold laws_FnExactShedActs.j0
   repeat' first
   | (with_reducible exact impl_ShedActs.mono _ _)
   | (with_reducible exact laws_eqActS.mono _ _ _)
   | (with_reducible exact laws_heldActS.mono _ _ _)
   | (with_reducible exact laws_markActS.mono _ _ _)
   | (with_reducible exact laws_toDisk.mono _ _)
   | (with_reducible exact LeO.refl _)
   | (with_reducible refine LeO.ite ?_ ?_)
   | (with_reducible refine LeO.bind ?_ (fun _ => ?_))
theorem laws_FnExactShedActs.mono : ∀ a0 k, LeO (laws_FnExactShedActs.f k a0) (laws_FnExactShedActs.f (k + 1) a0) := by
 intro a0 k
 have ih0 := laws_FnExactShedActs.mono_l k
 unfold laws_FnExactShedActs.f
 repeat' first
   | (with_reducible exact ih0 _ _ _ _)
   | (with_reducible exact impl_ShedActs.mono _ _)
   | (with_reducible exact laws_eqActS.mono _ _ _)
   | (with_reducible exact laws_eqDisk.mono _ _ _)
   | (with_reducible exact laws_markDisk.mono _ _ _)
   | (with_reducible exact laws_szDisk.mono _ _ _)
   | (with_reducible exact laws_toDisk.mono _ _)
   | (with_reducible exact spec_ShedActs.mono _ _)
   | (with_reducible exact LeO.refl _)
   | (with_reducible refine LeO.ite ?_ ?_)
   | (with_reducible refine LeO.bind ?_ (fun _ => ?_))
set_option maxHeartbeats 8000000 in
set_option maxRecDepth 100000 in
theorem laws_FnExactShedActs.calls (k : Nat) (A0_0 : Option Addr) (c0_0 : Nat) (l0_0 : List (S82)) (r : Bool) (w : World) (hT : Tab2 w) (hr0_0 : Kd.C k82 w A0_0 l0_0.length l0_0) (hc0_0 : l0_0.length ≤ c0_0) (h : laws_FnExactShedActs.f k l0_0 = some r) :
  Calls Tryz.prog 5 #[.agg #[.slice A0_0 l0_0.length c0_0]] w fun e w' => e = .returned (.bool r) ∧ Below w.heap.size w w' := by
 have hu24 := Tryz.underlying24
 have hu36 := Tryz.underlying36
 have HR0_0 := Aside0.mk hr0_0
 have HC0_0 := Aside0.mk hc0_0
 clear hr0_0 hc0_0
 have HT := Aside0.mk hT
 clear hT
 have HB := mk_ (Below.refl w.heap.size w)
 have H : ((laws_szDisk.f k l0_0 1048576).bind fun t466 => (if t466 < 0 then (some true) else ((laws_toDisk.f k l0_0).bind fun t467 => ((spec_ShedActs.f k t467).bind fun t470 => ((laws_toDisk.f k l0_0).bind fun t473 => ((impl_ShedActs.f k t473).bind fun t477 => ((laws_eqActS.f k t477 t470).bind fun t480 => (if t480 = true then ((laws_toDisk.f k l0_0).bind fun t481 => ((laws_eqDisk.f k t473 t481).bind fun t484 => (if t484 = true then ((laws_markDisk.f k t473 1).bind fun bt485 => (if bt485.1 < 0 then (none) else ((laws_eqActS.f k t477 t470).bind fun t487 => (laws_FnExactShedActs.j0 k t470 t477 (!t487) l0_0)))) else (none)))) else (none))))))))) = some r := h
 clear h
 replace H := Option.bind_eq_some_iff.mp H
 obtain ⟨t466, A20, H⟩ := H
 replace H : (if t466 < 0 then (some true) else ((laws_toDisk.f k l0_0).bind fun t467 => ((spec_ShedActs.f k t467).bind fun t470 => ((laws_toDisk.f k l0_0).bind fun t473 => ((impl_ShedActs.f k t473).bind fun t477 => ((laws_eqActS.f k t477 t470).bind fun t480 => (if t480 = true then ((laws_toDisk.f k l0_0).bind fun t481 => ((laws_eqDisk.f k t473 t481).bind fun t484 => (if t484 = true then ((laws_markDisk.f k t473 1).bind fun bt485 => (if bt485.1 < 0 then (none) else ((laws_eqActS.f k t477 t470).bind fun t487 => (laws_FnExactShedActs.j0 k t470 t477 (!t487) l0_0)))) else (none)))) else (none)))))))) = some r := H
 have A2 := Aside0.mk A20
 clear A20
 by_cases c3 : t466 < 0
 ·rw [if_pos c3] at H
  have c3b0 : decide (t466 < 0) = true := decide_eq_true c3
  clear c3
  obtain rfl := Option.some.inj H
  go_enter Tryz.func5, Tryz.ntmps5
  go_wp2_with (first | ((with_reducible refine gate_dst (N := 1) rfl ?_); refine bx_ (N := 1) (cs := #[.slice A0_0 l0_0.length c0_0]) (t := 24) ?_; intro gb465 hg w4 hbox hb; have BK465 := mk_ (hbox); have GW465 : Aside0 (w.heap.size ≤ gb465) := bz_ hg; have GE465 := GW465; replace HB := bs_ HB hb; clear hb hbox hg; obtain ⟨hcz5_0, hfz5_0⟩ := b1_ BK465) | ((with_reducible refine gate_callee (f := 6) rfl ?_); refine goesL_ (some 13) rfl rfl Tryz.func6 (by kernel_rfl) rfl #[.agg #[.slice A0_0 l0_0.length c0_0], .int .i64 1048576] rfl ga_ ?_; (with_reducible refine (laws_szDisk.calls k _ _ l0_0 1048576 t466 _ ?side1 ?side2 A2.out).mono ?_); (case side1 => repeat (first | exact (Kd.C_below HR0_0.out HB.out) | (with_reducible refine Kd.C_alloc ?_ _) | (with_reducible refine Kd.C_drewN ?_ _) | (with_reducible refine Kd.C_drew ?_))); (case side2 => exact HC0_0.out); rintro e w6 ⟨rfl, hb⟩; refine ⟨_, rfl, ?_⟩; replace BK465 := bb_ BK465 hb; replace HB := bs_ HB hb; (try clear hb)))
  go_ret
  exact ⟨er_, bw_ HB⟩
 ·rw [if_neg c3] at H
  have c3b0 : decide (t466 < 0) = false := decide_eq_false c3
  clear c3
  replace H := Option.bind_eq_some_iff.mp H
  obtain ⟨t467, A70, H⟩ := H
  replace H : ((spec_ShedActs.f k t467).bind fun t470 => ((laws_toDisk.f k l0_0).bind fun t473 => ((impl_ShedActs.f k t473).bind fun t477 => ((laws_eqActS.f k t477 t470).bind fun t480 => (if t480 = true then ((laws_toDisk.f k l0_0).bind fun t481 => ((laws_eqDisk.f k t473 t481).bind fun t484 => (if t484 = true then ((laws_markDisk.f k t473 1).bind fun bt485 => (if bt485.1 < 0 then (none) else ((laws_eqActS.f k t477 t470).bind fun t487 => (laws_FnExactShedActs.j0 k t470 t477 (!t487) l0_0)))) else (none)))) else (none)))))) = some r := H
  have A7 := Aside0.mk A70
  clear A70
  replace H := Option.bind_eq_some_iff.mp H
  obtain ⟨t470, A80, H⟩ := H
  replace H : ((laws_toDisk.f k l0_0).bind fun t473 => ((impl_ShedActs.f k t473).bind fun t477 => ((laws_eqActS.f k t477 t470).bind fun t480 => (if t480 = true then ((laws_toDisk.f k l0_0).bind fun t481 => ((laws_eqDisk.f k t473 t481).bind fun t484 => (if t484 = true then ((laws_markDisk.f k t473 1).bind fun bt485 => (if bt485.1 < 0 then (none) else ((laws_eqActS.f k t477 t470).bind fun t487 => (laws_FnExactShedActs.j0 k t470 t477 (!t487) l0_0)))) else (none)))) else (none))))) = some r := H
  have A8 := Aside0.mk A80
  clear A80
  replace H := Option.bind_eq_some_iff.mp H
  obtain ⟨t473, A90, H⟩ := H
  replace H : ((impl_ShedActs.f k t473).bind fun t477 => ((laws_eqActS.f k t477 t470).bind fun t480 => (if t480 = true then ((laws_toDisk.f k l0_0).bind fun t481 => ((laws_eqDisk.f k t473 t481).bind fun t484 => (if t484 = true then ((laws_markDisk.f k t473 1).bind fun bt485 => (if bt485.1 < 0 then (none) else ((laws_eqActS.f k t477 t470).bind fun t487 => (laws_FnExactShedActs.j0 k t470 t477 (!t487) l0_0)))) else (none)))) else (none)))) = some r := H
  have A9 := Aside0.mk A90
  clear A90
  replace H := Option.bind_eq_some_iff.mp H
  obtain ⟨t477, A100, H⟩ := H
  replace H : ((laws_eqActS.f k t477 t470).bind fun t480 => (if t480 = true then ((laws_toDisk.f k l0_0).bind fun t481 => ((laws_eqDisk.f k t473 t481).bind fun t484 => (if t484 = true then ((laws_markDisk.f k t473 1).bind fun bt485 => (if bt485.1 < 0 then (none) else ((laws_eqActS.f k t477 t470).bind fun t487 => (laws_FnExactShedActs.j0 k t470 t477 (!t487) l0_0)))) else (none)))) else (none))) = some r := H
  have A10 := Aside0.mk A100
  clear A100
  replace H := Option.bind_eq_some_iff.mp H
  obtain ⟨t480, A110, H⟩ := H
  replace H : (if t480 = true then ((laws_toDisk.f k l0_0).bind fun t481 => ((laws_eqDisk.f k t473 t481).bind fun t484 => (if t484 = true then ((laws_markDisk.f k t473 1).bind fun bt485 => (if bt485.1 < 0 then (none) else ((laws_eqActS.f k t477 t470).bind fun t487 => (laws_FnExactShedActs.j0 k t470 t477 (!t487) l0_0)))) else (none)))) else (none)) = some r := H
  have A11 := Aside0.mk A110
  clear A110
  by_cases c12 : t480 = true
  ·subst c12
   have H1 : ((laws_toDisk.f k l0_0).bind fun t481 => ((laws_eqDisk.f k t473 t481).bind fun t484 => (if t484 = true then ((laws_markDisk.f k t473 1).bind fun bt485 => (if bt485.1 < 0 then (none) else ((laws_eqActS.f k t477 t470).bind fun t487 => (laws_FnExactShedActs.j0 k t470 t477 (!t487) l0_0)))) else (none)))) = some r := by rw [if_pos rfl] at H; exact H
   clear H
   have H := H1
   clear H1
   replace H := Option.bind_eq_some_iff.mp H
   obtain ⟨t481, A130, H⟩ := H
   replace H : ((laws_eqDisk.f k t473 t481).bind fun t484 => (if t484 = true then ((laws_markDisk.f k t473 1).bind fun bt485 => (if bt485.1 < 0 then (none) else ((laws_eqActS.f k t477 t470).bind fun t487 => (laws_FnExactShedActs.j0 k t470 t477 (!t487) l0_0)))) else (none))) = some r := H
   have A13 := Aside0.mk A130
   clear A130
   replace H := Option.bind_eq_some_iff.mp H
   obtain ⟨t484, A140, H⟩ := H
   replace H : (if t484 = true then ((laws_markDisk.f k t473 1).bind fun bt485 => (if bt485.1 < 0 then (none) else ((laws_eqActS.f k t477 t470).bind fun t487 => (laws_FnExactShedActs.j0 k t470 t477 (!t487) l0_0)))) else (none)) = some r := H
   have A14 := Aside0.mk A140
   clear A140
   by_cases c15 : t484 = true
   ·subst c15
    have H1 : ((laws_markDisk.f k t473 1).bind fun bt485 => (if bt485.1 < 0 then (none) else ((laws_eqActS.f k t477 t470).bind fun t487 => (laws_FnExactShedActs.j0 k t470 t477 (!t487) l0_0)))) = some r := by rw [if_pos rfl] at H; exact H
    clear H
    have H := H1
    clear H1
    replace H := Option.bind_eq_some_iff.mp H
    obtain ⟨⟨t485, t486⟩, A160, H⟩ := H
    replace H : (if t485 < 0 then (none) else ((laws_eqActS.f k t477 t470).bind fun t487 => (laws_FnExactShedActs.j0 k t470 t477 (!t487) l0_0))) = some r := H
    have A16 := Aside0.mk A160
    clear A160
    have HC17 := Aside0.mk H
    clear H
    go_enter Tryz.func5, Tryz.ntmps5
    try go_wp2_with (first | ((with_reducible refine gate_dst (N := 1) rfl ?_); refine bx_ (N := 1) (cs := #[.slice A0_0 l0_0.length c0_0]) (t := 24) ?_; intro gb465 hg w18 hbox hb; have BK465 := mk_ (hbox); have GW465 : Aside0 (w.heap.size ≤ gb465) := bz_ hg; have GE465 := GW465; replace HB := bs_ HB hb; clear hb hbox hg; obtain ⟨hcz19_0, hfz19_0⟩ := b1_ BK465) | ((with_reducible refine gate_callee (f := 6) rfl ?_); refine goesL_ (some 13) rfl rfl Tryz.func6 (by kernel_rfl) rfl #[.agg #[.slice A0_0 l0_0.length c0_0], .int .i64 1048576] rfl ga_ ?_; (with_reducible refine (laws_szDisk.calls k _ _ l0_0 1048576 t466 _ ?side1 ?side2 A2.out).mono ?_); (case side1 => repeat (first | exact (Kd.C_below HR0_0.out HB.out) | (with_reducible refine Kd.C_alloc ?_ _) | (with_reducible refine Kd.C_drewN ?_ _) | (with_reducible refine Kd.C_drew ?_))); (case side2 => exact HC0_0.out); rintro e w20 ⟨rfl, hb⟩; refine ⟨_, rfl, ?_⟩; replace BK465 := bb_ BK465 hb; replace HB := bs_ HB hb; (try clear hb); (try clear hk); obtain ⟨hcz21_0, hfz21_0⟩ := b1_ BK465) | ((with_reducible refine gate_callee (f := 8) rfl ?_); refine goesL_ (some 17) rfl rfl Tryz.func8 (by kernel_rfl) rfl #[.agg #[.slice A0_0 l0_0.length c0_0]] rfl ga_ ?_; (with_reducible refine (laws_toDisk.calls k _ _ l0_0 t467 _ ?side1 ?side2 A7.out).mono ?_); (case side1 => repeat (first | exact (Kd.C_below HR0_0.out HB.out) | (with_reducible refine Kd.C_alloc ?_ _) | (with_reducible refine Kd.C_drewN ?_ _) | (with_reducible refine Kd.C_drew ?_))); (case side2 => exact HC0_0.out); rintro e w22 ⟨v468, rfl, ho0, hb⟩; refine ⟨_, rfl, ?_⟩; have HO469 := mk_ (Kd.R_lower ho0 (below_size (bw_ HB))); replace BK465 := bb_ BK465 hb; replace HB := bs_ HB hb; (try clear hb); (try clear hk); (try clear ho0); obtain ⟨Ao23, co23, eo23⟩ := Kd.R_slice HO469.out; subst eo23) | ((with_reducible refine gate_callee (f := 23) rfl ?_); refine goesL_ (some 18) rfl rfl Tryz.func23 (by kernel_rfl) rfl #[.agg #[.slice Ao23 t467.length co23]] rfl ga_ ?_; (with_reducible refine (spec_ShedActs.calls k _ _ t467 t470 _ ?side1 ?side2 A8.out).mono ?_); (case side1 => repeat (first | exact (Kd.R_reads' HO469.out).2.2 | (with_reducible refine Kd.C_alloc ?_ _) | (with_reducible refine Kd.C_drewN ?_ _) | (with_reducible refine Kd.C_drew ?_))); (case side2 => exact (Kd.R_reads' HO469.out).2.1); rintro e w24 ⟨v471, rfl, ho0, hb⟩; refine ⟨_, rfl, ?_⟩; have HO472 := mk_ (Kd.R_lower ho0 (below_size (bw_ HB))); replace HO469 := rb_ HO469 hb; replace BK465 := bb_ BK465 hb; replace HB := bs_ HB hb; (try clear hb); (try clear hk); (try clear ho0); obtain ⟨hcz25_0, hfz25_0⟩ := b1_ BK465) | ((with_reducible refine gate_callee (f := 8) rfl ?_); refine goesL_ (some 20) rfl rfl Tryz.func8 (by kernel_rfl) rfl #[.agg #[.slice A0_0 l0_0.length c0_0]] rfl ga_ ?_; (with_reducible refine (laws_toDisk.calls k _ _ l0_0 t473 _ ?side1 ?side2 A9.out).mono ?_); (case side1 => repeat (first | exact (Kd.C_below HR0_0.out HB.out) | (with_reducible refine Kd.C_alloc ?_ _) | (with_reducible refine Kd.C_drewN ?_ _) | (with_reducible refine Kd.C_drew ?_))); (case side2 => exact HC0_0.out); rintro e w26 ⟨v474, rfl, ho0, hb⟩; refine ⟨_, rfl, ?_⟩; have HO475 := mk_ (Kd.R_lower (Kd.R_new' ho0 (Kd.R_lt (rp_ HO469))) (below_size (bw_ HB))); replace HO469 := mk_ (Kd.R_elder' (rp_ HO469) (Kd.R_base ho0) hb); replace HO472 := rb_ HO472 hb; replace BK465 := bb_ BK465 hb; replace HB := bs_ HB hb; (try clear hb); (try clear hk); (try clear ho0)) | ((with_reducible refine gate_dst (N := 5) rfl ?_); refine bx_ (N := 5) (cs := #[.slice none 0 0]) (t := 36) ?_; intro gb476 hg w27 hbox hb; have BK476 := mk_ (hbox); have GW476 : Aside0 (w.heap.size ≤ gb476) := bz_ hg; have GE476 := GW476; have NB465_476 := bl_ BK465 hg; have NB476_465 := bg_ BK465 hg; replace HO469 := rb_ HO469 hb; replace HO472 := rb_ HO472 hb; replace HO475 := rb_ HO475 hb; replace BK465 := bb_ BK465 hb; replace HB := bs_ HB hb; clear hb hbox hg; obtain ⟨Ao28, co28, eo28⟩ := Kd.R_slice HO475.out; subst eo28; have hnb29 := NB476_465.out; have hnc29 := NB465_476.out; obtain ⟨hcz30_0, hfz30_0⟩ := b1_ BK476) | ((with_reducible refine gate_callee (f := 24) rfl ?_); refine goesL_ (some 22) rfl rfl Tryz.func24 (by kernel_rfl) rfl #[.agg #[.slice Ao28 t473.length co28]] rfl ga_ ?_; (with_reducible refine (impl_ShedActs.calls k _ _ t473 t477 _ (tab22 HT HB) ?side1 ?side2 A10.out).mono ?_); (case side1 => refine (Kd.R_reads' (e := 57) (base := w.heap.size) (ok := fun k_ => (True ∧ some k_ ≠ (.slice Ao23 t467.length co23 : Value).ownBlock)) (n := t473.length) (c := co28) ?_).2.2; exact (by (with_reducible repeat (first | apply Kd.R_alloc | apply Kd.R_drewN | apply Kd.R_drew)); exact (Kd.R_mono (Kd.R_far (p := ⟨gb476, 0, none⟩) (Kd.R_types HO475.out BK476.out (by decide)) (fun _ hk => hk.2) (.slice Ao28 t473.length co28)) (fun _ h_ => h_.1)))); (case side2 => exact (Kd.R_reads' HO475.out).2.1); rintro e w31 ⟨v478, rfl, ho0, hb⟩; refine ⟨_, rfl, ?_⟩; have HO479 := mk_ (Kd.R_lower (Kd.R_new' ho0 (Kd.R_lt (by (with_reducible repeat (first | apply Kd.R_alloc | apply Kd.R_drewN | apply Kd.R_drew)); exact (Kd.R_mono (Kd.R_far (p := ⟨gb476, 0, none⟩) (Kd.R_types HO472.out BK476.out (by decide)) (fun _ hk => hk.2) (.slice Ao28 t473.length co28)) (fun _ h_ => h_.1))))) (below_size (bw_ HB))); replace HO469 := mk_ (Kd.R_below (by (with_reducible repeat (first | apply Kd.R_alloc | apply Kd.R_drewN | apply Kd.R_drew)); exact (Kd.R_mono (Kd.R_far (p := ⟨gb476, 0, none⟩) (Kd.R_types HO469.out BK476.out (by decide)) (fun _ hk => hk.2) (.slice Ao28 t473.length co28)) (fun _ h_ => h_.1))) hb); replace HO472 := mk_ (Kd.R_elder' (by (with_reducible repeat (first | apply Kd.R_alloc | apply Kd.R_drewN | apply Kd.R_drew)); exact (Kd.R_mono (Kd.R_far (p := ⟨gb476, 0, none⟩) (Kd.R_types HO472.out BK476.out (by decide)) (fun _ hk => hk.2) (.slice Ao28 t473.length co28)) (fun _ h_ => h_.1))) (Kd.R_base ho0) hb); replace HO475 := mk_ (Kd.R_below (by (with_reducible repeat (first | apply Kd.R_alloc | apply Kd.R_drewN | apply Kd.R_drew)); exact (Kd.R_mono (Kd.R_far (p := ⟨gb476, 0, none⟩) (Kd.R_types HO475.out BK476.out (by decide)) (fun _ hk => hk.2) (.slice Ao28 t473.length co28)) (fun _ h_ => h_.1))) hb); replace BK465 := mk_ (blk_below (g := gb465) (o := .cells #[.slice A0_0 l0_0.length c0_0] 24 (0, 0)) bf_ hb); replace BK476 := mk_ (blk_below (g := gb476) (o := .cells #[.slice Ao28 t473.length co28] 36 (0, 0)) bu_ hb); replace HB := bs_ HB hb; (try clear hb); (try clear hk); (try clear ho0); obtain ⟨Ao32, co32, eo32⟩ := Kd.R_slice HO479.out; subst eo32; obtain ⟨Ao33, co33, eo33⟩ := Kd.R_slice HO472.out; subst eo33) | ((with_reducible refine gate_callee (f := 11) rfl ?_); refine goesL_ (some 25) rfl rfl Tryz.func11 (by kernel_rfl) rfl #[.slice Ao32 t477.length co32, .slice Ao33 t470.length co33] rfl ga_ ?_; (with_reducible refine (laws_eqActS.calls k _ _ t477 _ _ t470 true _ ?side1 ?side2 ?side3 ?side4 A11.out).mono ?_); (case side1 => repeat (first | exact (Kd.R_reads' HO479.out).2.2 | (with_reducible refine Kd.C_alloc ?_ _) | (with_reducible refine Kd.C_drewN ?_ _) | (with_reducible refine Kd.C_drew ?_))); (case side2 => exact (Kd.R_reads' HO479.out).2.1); (case side3 => repeat (first | exact (Kd.R_reads' HO472.out).2.2 | (with_reducible refine Kd.C_alloc ?_ _) | (with_reducible refine Kd.C_drewN ?_ _) | (with_reducible refine Kd.C_drew ?_))); (case side4 => exact (Kd.R_reads' HO472.out).2.1); rintro e w34 ⟨rfl, hb⟩; refine ⟨_, rfl, ?_⟩; replace HO469 := rb_ HO469 hb; replace HO472 := rb_ HO472 hb; replace HO475 := rb_ HO475 hb; replace HO479 := rb_ HO479 hb; replace BK465 := bb_ BK465 hb; replace BK476 := bb_ BK476 hb; replace HB := bs_ HB hb; (try clear hb); (try clear hk)))
    have n0_ := mk_ (Kd.R_drew HO469.out)
    have n1_ := mk_ (Kd.R_drew HO472.out)
    have n2_ := mk_ (Kd.R_drew HO475.out)
    have n3_ := mk_ (Kd.R_drew HO479.out)
    have n4_ := mk_ (blk_drew BK465.out)
    have n5_ := mk_ (blk_drew BK476.out)
    have n6_ := mk_ (below_drew1 HB.out)
    clear HO469; clear HO472; clear HO475; clear HO479; clear BK465; clear BK476; clear HB; have HO469 := n0_; have HO472 := n1_; have HO475 := n2_; have HO479 := n3_; have BK465 := n4_; have BK476 := n5_; have HB := n6_; clear n0_ n1_ n2_ n3_ n4_ n5_ n6_
    refine start_ (n := 5) (S := fun w' => w'.cell? ⟨gb476, 0, none⟩ = some (.slice Ao28 t473.length co28) ∧ w'.cell? ⟨gb465, 0, none⟩ = some (.slice A0_0 l0_0.length c0_0)) (ds := []) #[false, false, false, false, false] (by kernel_rfl) rfl rfl ⟨bc_ BK476 0, bc_ BK465 0⟩ (fun hHeld => ?_)
    generalize w34.drew = w35 at HO469 HO472 HO475 HO479 BK465 BK476 HB hHeld ⊢
    refine take_ (i := 0) (N := some 27) (v := ?_) (a' := ?_) #[true, false, false, false, false] rfl rfl (by kernel_rfl) (fun _ _ _ h => h) (Or.inl ⟨by rfl, ?_⟩) hHeld ?_ ?_
    rotate_left
    ·rintro w' ⟨s0, s1⟩
     go_simp
     with_reducible rfl
    rotate_left
    ·simp only [Act.put, sia_, scz_, scs_, i64_w, i32_w]
     rfl
    refine take_ (i := 1) (N := some 28) (v := ?_) (a' := ?_) #[true, true, false, false, false] rfl rfl (by kernel_rfl) (fun _ _ _ h => h) (Or.inl ⟨by rfl, ?_⟩) hHeld ?_ ?_
    rotate_left
    ·rintro w' ⟨s0, s1⟩
     go_simp
     with_reducible rfl
    rotate_left
    ·simp only [Act.put, sia_, scz_, scs_, i64_w, i32_w]
     rfl
    refine one_ (i := 2) (N := some 29) #[true, true, true, false, false] rfl rfl (by kernel_rfl) (by decide) (fun K hK => ?_)
    refine goes_ Tryz.func8 (by kernel_rfl) rfl #[.agg #[.slice A0_0 l0_0.length c0_0]] (by rfl) rfl rfl ga_ ?_
    with_reducible refine (laws_toDisk.calls k _ _ l0_0 t481 _ ?side1 ?side2 A13.out).mono ?_
    (case side1 => repeat (first | exact (Kd.C_below HR0_0.out HB.out) | (with_reducible refine Kd.C_alloc ?_ _) | (with_reducible refine Kd.C_drewN ?_ _) | (with_reducible refine Kd.C_drew ?_)))
    (case side2 => exact HC0_0.out)
    rintro e w36 ⟨v482, rfl, ho0, hb⟩
    refine ⟨_, rfl, ?_⟩
    have n0_ := mk_ (Kd.R_elder' (rp_ HO469) (Kd.R_base ho0) hb)
    have n1_ := rb_ HO472 hb
    have n2_ := mk_ (Kd.R_elder' (rp_ HO475) (Kd.R_base ho0) hb)
    have n3_ := rb_ HO479 hb
    have n4_ := mk_ (Kd.R_lower (Kd.R_new' (Kd.R_new' ho0 (Kd.R_lt (rp_ HO469))) (Kd.R_lt (rp_ HO475))) (below_size (bw_ HB)))
    have n5_ := bb_ BK465 hb; have n6_ := bb_ BK476 hb
    have n7_ := bs_ HB hb
    clear HO469; clear HO472; clear HO475; clear HO479; clear BK465; clear BK476; clear HB; have HO469 := n0_; have HO472 := n1_; have HO475 := n2_; have HO479 := n3_; have HO483 := n4_; have BK465 := n5_; have BK476 := n6_; have HB := n7_; clear n0_ n1_ n2_ n3_ n4_ n5_ n6_ n7_; (try clear hb); (try clear hb2); (try clear hk); (try clear hi); (try clear ho0)
    obtain ⟨Ao37, co37, eo37⟩ := Kd.R_slice HO483.out
    (first | subst eo37 | (injection eo37 with f1_ f2_ f3_; have f4_ := f1_.symm; have f5_ := f3_.symm; clear f1_ f2_ f3_; subst f4_; subst f5_))
    refine hK.out _ _ ⟨bc_ BK476 0, bc_ BK465 0⟩ (fun hHeld => ?_)
    clear hK K
    refine norm_ (a' := ?_) ?_ ?_
    rotate_left
    ·show Act.put _ (some 29) _ = _
     simp only [Act.put, sia_, scz_, scs_, i64_w, i32_w]
     rfl
    refine one_ (i := 3) (N := some 30) #[true, true, true, true, false] rfl rfl (by kernel_rfl) (by decide) (fun K hK => ?_)
    refine goes_ Tryz.func12 (by kernel_rfl) rfl #[.agg #[.slice Ao28 t473.length co28], .agg #[.slice Ao37 t481.length co37]] (by rfl) rfl rfl ga_ ?_
    with_reducible refine (laws_eqDisk.calls k _ _ t473 _ _ t481 true _ ?side1 ?side2 ?side3 ?side4 A14.out).mono ?_
    (case side1 => repeat (first | exact (Kd.R_reads' HO475.out).2.2 | (with_reducible refine Kd.C_alloc ?_ _) | (with_reducible refine Kd.C_drewN ?_ _) | (with_reducible refine Kd.C_drew ?_)))
    (case side2 => exact (Kd.R_reads' HO475.out).2.1)
    (case side3 => repeat (first | exact (Kd.R_reads' HO483.out).2.2 | (with_reducible refine Kd.C_alloc ?_ _) | (with_reducible refine Kd.C_drewN ?_ _) | (with_reducible refine Kd.C_drew ?_)))
    (case side4 => exact (Kd.R_reads' HO483.out).2.1)
    rintro e w38 ⟨rfl, hb⟩
    refine ⟨_, rfl, ?_⟩
    have n0_ := rb_ HO469 hb
    have n1_ := rb_ HO472 hb
    have n2_ := rb_ HO475 hb
    have n3_ := rb_ HO479 hb
    have n4_ := rb_ HO483 hb
    have n5_ := bb_ BK465 hb; have n6_ := bb_ BK476 hb
    have n7_ := bs_ HB hb
    clear HO469; clear HO472; clear HO475; clear HO479; clear HO483; clear BK465; clear BK476; clear HB; have HO469 := n0_; have HO472 := n1_; have HO475 := n2_; have HO479 := n3_; have HO483 := n4_; have BK465 := n5_; have BK476 := n6_; have HB := n7_; clear n0_ n1_ n2_ n3_ n4_ n5_ n6_ n7_; (try clear hb); (try clear hb2); (try clear hk); (try clear hi)
    refine hK.out _ _ ⟨bc_ BK476 0, bc_ BK465 0⟩ (fun hHeld => ?_)
    clear hK K
    refine norm_ (a' := ?_) ?_ ?_
    rotate_left
    ·show Act.put _ (some 30) _ = _
     simp only [Act.put, sia_, scz_, scs_, i64_w, i32_w]
     rfl
    refine pure_ (i := 4) (N := some 31) (v := ?_) (a' := ?_) #[true, true, true, true, true] rfl rfl (by kernel_rfl) (fun _ _ _ h => h) (Or.inl ⟨by rfl, ?_⟩) ?_ ?_
    rotate_left
    ·intro w'
     go_simp
     with_reducible rfl
    rotate_left
    ·simp only [Act.put, sia_, scz_, scs_, i64_w, i32_w]
     rfl
    refine done_ (by kernel_rfl) ?_
    have hcz39_0 : w38.cell? ⟨gb476, 0, none⟩ = some (.slice Ao28 t473.length co28) := bc_ BK476 0
    have hfz39_0 := blk_frozen BK476.out 0
    go_upto_region 14 with (first | ((with_reducible refine gate_callee (f := 13) rfl ?_); refine goesL_ (some 34) rfl rfl Tryz.func13 (by kernel_rfl) rfl #[.agg #[.slice Ao28 t473.length co28], .int .i64 1] rfl ga_ ?_; (with_reducible refine (laws_markDisk.calls k (fun k_ => some k_ = (.slice Ao28 t473.length co28 : Value).ownBlock) (.slice Ao28 t473.length co28) t473 1 t485 t486 w _ ?side1 ?side2 A16.out).mono ?_); (case side1 => exact bw_ HB); (case side2 => exact Kd.R_tight rfl HO475.out); rintro e w40 ⟨rfl, hy0, hb, hkp⟩; refine ⟨_, rfl, ?_⟩; have n0_ := mk_ (blk_kept (bp_ BK465) hkp (fun hs_ => (fun e_ => (Kd.R_ne HO475.out BK465.out (by decide)) e_) hs_)); have n1_ := mk_ (Kd.R_mono (ok' := fun k_ => some k_ ≠ (.slice Ao28 t473.length co28 : Value).ownBlock ∧ some k_ ≠ (.slice Ao37 t481.length co37 : Value).ownBlock) (Kd.R_keptB (HO469.out) hkp (fun k_ hk_ hs_ => (hk_.1.2) hs_)) (fun k_ hk_ => ⟨hk_.1.1.2, hk_.1.2⟩)); have n2_ := mk_ (Kd.R_mono (ok' := fun k_ => some k_ ≠ (.slice Ao32 t477.length co32 : Value).ownBlock) (Kd.R_keptB ((Kd.R_apart' HO472.out (Kd.R_typed HO475.out) (by decide))) hkp (fun k_ hk_ hs_ => (hk_.2) hs_)) (fun k_ hk_ => hk_.1.1.2)); have n3_ := mk_ (Kd.R_reok rfl hy0 (fun k_ e_ => HO475.out.1 k_ e_)); have n4_ := mk_ (blk_kept (bp_ BK476) hkp (fun hs_ => (fun e_ => (Kd.R_ne HO475.out BK476.out (by decide)) e_) hs_)); have n5_ := mk_ (Kd.R_mono (ok' := fun k_ => some k_ ≠ (.slice Ao33 t470.length co33 : Value).ownBlock) (Kd.R_keptB ((Kd.R_apart' HO479.out (Kd.R_typed HO475.out) (by decide))) hkp (fun k_ hk_ hs_ => (hk_.2) hs_)) (fun k_ hk_ => hk_.1.1.2)); have n6_ := mk_ (Kd.R_mono (ok' := fun k_ => some k_ ≠ (.slice Ao23 t467.length co23 : Value).ownBlock ∧ some k_ ≠ (.slice Ao28 t473.length co28 : Value).ownBlock) (Kd.R_keptB (HO483.out) hkp (fun k_ hk_ hs_ => (hk_.2) hs_)) (fun k_ hk_ => ⟨hk_.1.1.2, hk_.1.2⟩)); have n7_ := mk_ (hb); clear BK465; clear HO469; clear HO472; clear HO475; clear BK476; clear HO479; clear HO483; clear HB; have BK465 := n0_; have HO469 := n1_; have HO472 := n2_; have HO475 := n3_; have BK476 := n4_; have HO479 := n5_; have HO483 := n6_; have HB := n7_; clear n0_ n1_ n2_ n3_ n4_ n5_ n6_ n7_; (try clear hb); (try clear hkp); (try clear hy0)))
    (try simp only [Act.put, sia_, scz_, scs_])
    go_cut [42] (fun v42 wc => ∃ (kq : Nat) (x42_16 : Bool), v42 = .bool x42_16 ∧ Aside0 (laws_FnExactShedActs.j0 kq t470 t477 x42_16 l0_0 = some r) ∧ Aside0 (kq ≤ k) ∧ Aside0 (Kd.R k65 65 wc w.heap.size (fun k_ => some k_ ≠ ((.slice Ao32 t477.length co32) : Value).ownBlock) (.slice Ao33 t470.length co33) t470) ∧ Aside0 (Kd.R k65 65 wc w.heap.size (fun k_ => some k_ ≠ ((.slice Ao33 t470.length co33) : Value).ownBlock) (.slice Ao32 t477.length co32) t477) ∧ Aside0 (Kd.R k57 57 wc w.heap.size (fun _ => True) (.slice Ao28 t473.length co28) t486) ∧ Aside0 (wc.heap[gb465]? = some (.cells #[(.slice A0_0 l0_0.length c0_0)] 24 (0, 0))) ∧ Aside0 (wc.heap[gb476]? = some (.cells #[(.slice Ao28 t473.length co28)] 36 (0, 0))) ∧ Aside0 (Below w.heap.size w wc))
    case first =>
     have H := HC17.out
     clear HC17
     by_cases c41 : t485 < 0
     ·rw [if_pos c41] at H
      exact absurd H (by simp)
     ·rw [if_neg c41] at H
      have c41b0 : decide (t485 < 0) = false := decide_eq_false c41
      clear c41
      (first | rw [c41b0] | (simp only [i64_w, i32_w]; rw [c41b0]) | skip)
      replace H := Option.bind_eq_some_iff.mp H
      obtain ⟨t487, A420, H⟩ := H
      replace H : (laws_FnExactShedActs.j0 k t470 t477 (!t487) l0_0) = some r := H
      have A42 := Aside0.mk A420
      clear A420
      have H' := Aside0.mk H
      clear H
      go_wp2_with (first | (go_at_call 11; (with_reducible refine (laws_eqActS.calls k _ _ t477 _ _ t470 t487 _ ?side1 ?side2 ?side3 ?side4 A42.out).mono ?_); (case side1 => repeat (first | exact (Kd.R_reads' HO479.out).2.2 | (with_reducible refine Kd.C_alloc ?_ _) | (with_reducible refine Kd.C_drewN ?_ _) | (with_reducible refine Kd.C_drew ?_))); (case side2 => exact (Kd.R_reads' HO479.out).2.1); (case side3 => repeat (first | exact (Kd.R_reads' HO472.out).2.2 | (with_reducible refine Kd.C_alloc ?_ _) | (with_reducible refine Kd.C_drewN ?_ _) | (with_reducible refine Kd.C_drew ?_))); (case side4 => exact (Kd.R_reads' HO472.out).2.1); rintro e w43 ⟨rfl, hb⟩; replace HO469 := rb_ HO469 hb; replace HO472 := rb_ HO472 hb; replace HO475 := rb_ HO475 hb; replace HO479 := rb_ HO479 hb; replace HO483 := rb_ HO483 hb; replace BK465 := bb_ BK465 hb; replace BK476 := bb_ BK476 hb; replace HB := bs_ HB hb; (try clear hb)))
      go_meet
      case rel => exact ⟨_, (!t487), (by first | rfl | (simp; done) | (simp [*]; done)), H', ⟨by first | omega | exact Nat.le_refl _⟩, ⟨by (with_reducible repeat (first | apply Kd.R_alloc | apply Kd.R_drewN | apply Kd.R_drew)); exact HO472.out⟩, ⟨by (with_reducible repeat (first | apply Kd.R_alloc | apply Kd.R_drewN | apply Kd.R_drew)); exact HO479.out⟩, ⟨by (with_reducible repeat (first | apply Kd.R_alloc | apply Kd.R_drewN | apply Kd.R_drew)); exact Kd.R_mono HO475.out (fun _ hk => trivial)⟩, ⟨bf_⟩, ⟨bf_⟩, ⟨bw_ HB⟩⟩
    case rest =>
     clear HC17
     try clear c1
     try clear c2
     try clear p2
     try clear c3
     try clear c3b0
     try clear c4
     try clear c5
     try clear c6
     try clear c8
     try clear c11
     try clear c12
     try clear c13
     try clear c15
     try clear c23
     try clear c24
     try clear c29
     try clear c41
     try clear c41b0
     try clear hcz19_0
     try clear hcz21_0
     try clear hcz25_0
     try clear hcz30_0
     try clear hcz39_0
     try clear hcz5_0
     try clear hfz19_0
     try clear hfz21_0
     try clear hfz25_0
     try clear hfz30_0
     try clear hfz39_0
     try clear hfz5_0
     obtain ⟨kq, x42_16, rfl, HA, HJ16, HO_4, HO_6, HO_477000, BK465, BK476, HB⟩ := hcut
     have hl477000_16 := (Kd.R_reads' HO_477000.out).1
     rw [hl477000_16] at HO_477000
     (try simp only [hl477000_16])
     (try simp only [hl477000_16] at BK465)
     (try simp only [hl477000_16] at BK476)
     (try simp only [hl477000_16] at HO_4)
     (try simp only [hl477000_16] at HO_6)
     cases kq with
     | zero => exact absurd HA.out (by simp [laws_FnExactShedActs.j0])
     | succ kj16 =>
      have H := HA.out
      clear HA
      simp only [laws_FnExactShedActs.j0] at H
      by_cases c44 : x42_16 = true
      ·subst c44
       have H1 : (none) = some r := by rw [if_pos rfl] at H; exact H
       clear H
       have H := H1
       clear H1
       exact absurd H (by simp)
      ·replace c44 := Bool.eq_false_iff.mpr c44
       subst c44
       have H1 : ((laws_markActS.f kj16 t477 1).bind fun bt488 => ((laws_heldActS.f kj16 bt488.2 1).bind fun t490 => (if t490 < 0 then (none) else (if t490 = bt488.1 then ((laws_toDisk.f kj16 l0_0).bind fun t491 => ((impl_ShedActs.f kj16 t491).bind fun t494 => ((laws_eqActS.f kj16 t494 t470).bind fun t497 => (if t497 = true then ((laws_heldActS.f kj16 bt488.2 1).bind fun t498 => (if t498 < 0 then (none) else (if t498 = bt488.1 then (some true) else (none)))) else (none))))) else (none))))) = some r := by rw [if_neg (show ¬ (false = true) by decide)] at H; exact H
       clear H
       have H := H1
       clear H1
       replace H := Option.bind_eq_some_iff.mp H
       obtain ⟨⟨t488, t489⟩, A450, H⟩ := H
       replace H : ((laws_heldActS.f kj16 t489 1).bind fun t490 => (if t490 < 0 then (none) else (if t490 = t488 then ((laws_toDisk.f kj16 l0_0).bind fun t491 => ((impl_ShedActs.f kj16 t491).bind fun t494 => ((laws_eqActS.f kj16 t494 t470).bind fun t497 => (if t497 = true then ((laws_heldActS.f kj16 t489 1).bind fun t498 => (if t498 < 0 then (none) else (if t498 = t488 then (some true) else (none)))) else (none))))) else (none)))) = some r := H
       have A45 := Aside0.mk A450
       clear A450
       replace H := Option.bind_eq_some_iff.mp H
       obtain ⟨t490, A460, H⟩ := H
       replace H : (if t490 < 0 then (none) else (if t490 = t488 then ((laws_toDisk.f kj16 l0_0).bind fun t491 => ((impl_ShedActs.f kj16 t491).bind fun t494 => ((laws_eqActS.f kj16 t494 t470).bind fun t497 => (if t497 = true then ((laws_heldActS.f kj16 t489 1).bind fun t498 => (if t498 < 0 then (none) else (if t498 = t488 then (some true) else (none)))) else (none))))) else (none))) = some r := H
       have A46 := Aside0.mk A460
       clear A460
       by_cases c47 : t490 < 0
       ·rw [if_pos c47] at H
        exact absurd H (by simp)
       ·rw [if_neg c47] at H
        have c47b0 : decide (t490 < 0) = false := decide_eq_false c47
        clear c47
        by_cases c48 : t490 = t488
        ·rw [if_pos c48] at H
         have c48b0 : (t490 == t488) = true := beq_iff_eq.mpr c48
         have c48b1 : (t490 != t488) = false := bne_eq_false_iff_eq.mpr c48
         clear c48
         replace H := Option.bind_eq_some_iff.mp H
         obtain ⟨t491, A490, H⟩ := H
         replace H : ((impl_ShedActs.f kj16 t491).bind fun t494 => ((laws_eqActS.f kj16 t494 t470).bind fun t497 => (if t497 = true then ((laws_heldActS.f kj16 t489 1).bind fun t498 => (if t498 < 0 then (none) else (if t498 = t488 then (some true) else (none)))) else (none)))) = some r := H
         have A49 := Aside0.mk A490
         clear A490
         replace H := Option.bind_eq_some_iff.mp H
         obtain ⟨t494, A500, H⟩ := H
         replace H : ((laws_eqActS.f kj16 t494 t470).bind fun t497 => (if t497 = true then ((laws_heldActS.f kj16 t489 1).bind fun t498 => (if t498 < 0 then (none) else (if t498 = t488 then (some true) else (none)))) else (none))) = some r := H
         have A50 := Aside0.mk A500
         clear A500
         replace H := Option.bind_eq_some_iff.mp H
         obtain ⟨t497, A510, H⟩ := H
         replace H : (if t497 = true then ((laws_heldActS.f kj16 t489 1).bind fun t498 => (if t498 < 0 then (none) else (if t498 = t488 then (some true) else (none)))) else (none)) = some r := H
         have A51 := Aside0.mk A510
         clear A510
         by_cases c52 : t497 = true
         ·subst c52
          have H1 : ((laws_heldActS.f kj16 t489 1).bind fun t498 => (if t498 < 0 then (none) else (if t498 = t488 then (some true) else (none)))) = some r := by rw [if_pos rfl] at H; exact H
          clear H
          have H := H1
          clear H1
          replace H := Option.bind_eq_some_iff.mp H
          obtain ⟨t498, A530, H⟩ := H
          replace H : (if t498 < 0 then (none) else (if t498 = t488 then (some true) else (none))) = some r := H
          have A53 := Aside0.mk A530
          clear A530
          by_cases c54 : t498 < 0
          ·rw [if_pos c54] at H
           exact absurd H (by simp)
          ·rw [if_neg c54] at H
           have c54b0 : decide (t498 < 0) = false := decide_eq_false c54
           clear c54
           by_cases c55 : t498 = t488
           ·rw [if_pos c55] at H
            have c55b0 : (t498 == t488) = true := beq_iff_eq.mpr c55
            have c55b1 : (t498 != t488) = false := bne_eq_false_iff_eq.mpr c55
            clear c55
            obtain rfl := Option.some.inj H
            go_wp2_with (first | ((with_reducible refine gate_callee (f := 15) rfl ?_); refine goesL_ (some 45) rfl rfl Tryz.func15 (by kernel_rfl) rfl #[.slice Ao32 t477.length co32, .int .i64 1] rfl ga_ ?_; (with_reducible refine (laws_markActS.calls kj16 (fun k_ => some k_ = (.slice Ao32 t477.length co32 : Value).ownBlock) (.slice Ao32 t477.length co32) t477 1 t488 t489 w _ ?side1 ?side2 A45.out).mono ?_); (case side1 => exact bw_ HB); (case side2 => exact Kd.R_tight rfl HO_6.out); rintro e w56 ⟨rfl, hy0, hb, hkp⟩; refine ⟨_, rfl, ?_⟩; have n0_ := mk_ (Kd.R_mono (ok' := fun k_ => some k_ ≠ (.slice Ao32 t477.length co32 : Value).ownBlock) (Kd.R_keptB (HO_4.out) hkp (fun k_ hk_ hs_ => (hk_) hs_)) (fun k_ hk_ => hk_.1)); have n1_ := mk_ (Kd.R_reok rfl hy0 (fun k_ e_ => HO_6.out.1 k_ e_)); have n2_ := mk_ (Kd.R_mono (ok' := fun k_ => True) (Kd.R_keptB ((Kd.R_apart' HO_477000.out (Kd.R_typed HO_6.out) (by decide))) hkp (fun k_ hk_ hs_ => (hk_.2) hs_)) (fun k_ hk_ => trivial)); have n3_ := mk_ (blk_kept (bp_ BK465) hkp (fun hs_ => (fun e_ => (Kd.R_ne HO_6.out BK465.out (by decide)) e_) hs_)); have n4_ := mk_ (blk_kept (bp_ BK476) hkp (fun hs_ => (fun e_ => (Kd.R_ne HO_6.out BK476.out (by decide)) e_) hs_)); have n5_ := mk_ (hb); clear HO_4; clear HO_6; clear HO_477000; clear BK465; clear BK476; clear HB; have HO_4 := n0_; have HO_6 := n1_; have HO_477000 := n2_; have BK465 := n3_; have BK476 := n4_; have HB := n5_; clear n0_ n1_ n2_ n3_ n4_ n5_; (try clear hb); (try clear hkp); (try clear hy0)) | ((with_reducible refine gate_callee (f := 17) rfl ?_); refine goesL_ (some 48) rfl rfl Tryz.func17 (by kernel_rfl) rfl #[.slice Ao32 t489.length co32, .int .i64 1] rfl (by (try simp only [List.map_toArray, List.map_cons, List.map_nil]); first | done | (rw [show t489.length = t477.length from (Kd.R_reads' HO_6.out).1.symm] <;> rfl) | rfl | (simp only [List.length_drop, List.length_take]; rfl)) ?_; (with_reducible refine (laws_heldActS.calls kj16 _ _ t489 1 t490 _ ?side1 ?side2 A46.out).mono ?_); (case side1 => repeat (first | exact (Kd.R_reads' HO_6.out).2.2 | (with_reducible refine Kd.C_alloc ?_ _) | (with_reducible refine Kd.C_drewN ?_ _) | (with_reducible refine Kd.C_drew ?_))); (case side2 => rw [show t489.length = t477.length from (Kd.R_reads' HO_6.out).1.symm]; exact (Kd.R_reads' HO_6.out).2.1); rintro e w57 ⟨rfl, hb⟩; refine ⟨_, rfl, ?_⟩; replace HO_4 := rb_ HO_4 hb; replace HO_6 := rb_ HO_6 hb; replace HO_477000 := rb_ HO_477000 hb; replace BK465 := bb_ BK465 hb; replace BK476 := bb_ BK476 hb; replace HB := bs_ HB hb; (try clear hb); have hnb58 := NB465_476.out; have hnc58 := NB476_465.out; obtain ⟨hcz59_0, hfz59_0⟩ := b1_ BK465) | ((with_reducible refine gate_callee (f := 8) rfl ?_); refine goesL_ (some 55) rfl rfl Tryz.func8 (by kernel_rfl) rfl #[.agg #[.slice A0_0 l0_0.length c0_0]] rfl ga_ ?_; (with_reducible refine (laws_toDisk.calls kj16 _ _ l0_0 t491 _ ?side1 ?side2 A49.out).mono ?_); (case side1 => repeat (first | exact (Kd.C_below HR0_0.out HB.out) | (with_reducible refine Kd.C_alloc ?_ _) | (with_reducible refine Kd.C_drewN ?_ _) | (with_reducible refine Kd.C_drew ?_))); (case side2 => exact HC0_0.out); rintro e w60 ⟨v492, rfl, ho0, hb⟩; refine ⟨_, rfl, ?_⟩; have HO493 := mk_ (Kd.R_lower (Kd.R_new' ho0 (Kd.R_lt (rp_ HO_477000))) (below_size (bw_ HB))); replace HO_4 := rb_ HO_4 hb; replace HO_6 := rb_ HO_6 hb; replace HO_477000 := mk_ (Kd.R_elder' (rp_ HO_477000) (Kd.R_base ho0) hb); replace BK465 := bb_ BK465 hb; replace BK476 := bb_ BK476 hb; replace HB := bs_ HB hb; (try clear hb); (try clear ho0); obtain ⟨Ao61, co61, eo61⟩ := Kd.R_slice HO493.out; subst eo61) | ((with_reducible refine gate_callee (f := 24) rfl ?_); refine goesL_ (some 56) rfl rfl Tryz.func24 (by kernel_rfl) rfl #[.agg #[.slice Ao61 t491.length co61]] rfl ga_ ?_; (with_reducible refine (impl_ShedActs.calls kj16 _ _ t491 t494 _ (tab22 HT HB) ?side1 ?side2 A50.out).mono ?_); (case side1 => repeat (first | exact (Kd.R_reads' HO493.out).2.2 | (with_reducible refine Kd.C_alloc ?_ _) | (with_reducible refine Kd.C_drewN ?_ _) | (with_reducible refine Kd.C_drew ?_))); (case side2 => exact (Kd.R_reads' HO493.out).2.1); rintro e w62 ⟨v495, rfl, ho0, hb⟩; refine ⟨_, rfl, ?_⟩; have HO496 := mk_ (Kd.R_lower (Kd.R_new' (Kd.R_new' ho0 (Kd.R_lt (rp_ HO_4))) (Kd.R_lt (rp_ HO_6))) (below_size (bw_ HB))); replace HO_4 := mk_ (Kd.R_elder' (rp_ HO_4) (Kd.R_base ho0) hb); replace HO_6 := mk_ (Kd.R_elder' (rp_ HO_6) (Kd.R_base ho0) hb); replace HO_477000 := rb_ HO_477000 hb; replace HO493 := rb_ HO493 hb; replace BK465 := bb_ BK465 hb; replace BK476 := bb_ BK476 hb; replace HB := bs_ HB hb; (try clear hb); (try clear ho0); obtain ⟨Ao63, co63, eo63⟩ := Kd.R_slice HO496.out; subst eo63) | ((with_reducible refine gate_callee (f := 11) rfl ?_); refine goesL_ (some 59) rfl rfl Tryz.func11 (by kernel_rfl) rfl #[.slice Ao63 t494.length co63, .slice Ao33 t470.length co33] rfl ga_ ?_; (with_reducible refine (laws_eqActS.calls kj16 _ _ t494 _ _ t470 true _ ?side1 ?side2 ?side3 ?side4 A51.out).mono ?_); (case side1 => repeat (first | exact (Kd.R_reads' HO496.out).2.2 | (with_reducible refine Kd.C_alloc ?_ _) | (with_reducible refine Kd.C_drewN ?_ _) | (with_reducible refine Kd.C_drew ?_))); (case side2 => exact (Kd.R_reads' HO496.out).2.1); (case side3 => repeat (first | exact (Kd.R_reads' HO_4.out).2.2 | (with_reducible refine Kd.C_alloc ?_ _) | (with_reducible refine Kd.C_drewN ?_ _) | (with_reducible refine Kd.C_drew ?_))); (case side4 => exact (Kd.R_reads' HO_4.out).2.1); rintro e w64 ⟨rfl, hb⟩; refine ⟨_, rfl, ?_⟩; replace HO_4 := rb_ HO_4 hb; replace HO_6 := rb_ HO_6 hb; replace HO_477000 := rb_ HO_477000 hb; replace HO493 := rb_ HO493 hb; replace HO496 := rb_ HO496 hb; replace BK465 := bb_ BK465 hb; replace BK476 := bb_ BK476 hb; replace HB := bs_ HB hb; (try clear hb)) | ((with_reducible refine gate_callee (f := 17) rfl ?_); refine goesL_ (some 63) rfl rfl Tryz.func17 (by kernel_rfl) rfl #[.slice Ao32 t489.length co32, .int .i64 1] rfl (by (try simp only [List.map_toArray, List.map_cons, List.map_nil]); first | done | (rw [show t489.length = t477.length from (Kd.R_reads' HO_6.out).1.symm] <;> rfl) | rfl | (simp only [List.length_drop, List.length_take]; rfl)) ?_; (with_reducible refine (laws_heldActS.calls kj16 _ _ t489 1 t498 _ ?side1 ?side2 A53.out).mono ?_); (case side1 => repeat (first | exact (Kd.R_reads' HO_6.out).2.2 | (with_reducible refine Kd.C_alloc ?_ _) | (with_reducible refine Kd.C_drewN ?_ _) | (with_reducible refine Kd.C_drew ?_))); (case side2 => rw [show t489.length = t477.length from (Kd.R_reads' HO_6.out).1.symm]; exact (Kd.R_reads' HO_6.out).2.1); rintro e w65 ⟨rfl, hb⟩; refine ⟨_, rfl, ?_⟩; replace HO_4 := rb_ HO_4 hb; replace HO_6 := rb_ HO_6 hb; replace HO_477000 := rb_ HO_477000 hb; replace HO493 := rb_ HO493 hb; replace HO496 := rb_ HO496 hb; replace BK465 := bb_ BK465 hb; replace BK476 := bb_ BK476 hb; replace HB := bs_ HB hb; (try clear hb)))
            go_ret
            exact ⟨er_, bw_ HB⟩
           ·rw [if_neg c55] at H
            exact absurd H (by simp)
         ·replace c52 := Bool.eq_false_iff.mpr c52
          subst c52
          have H1 : (none) = some r := by rw [if_neg (show ¬ (false = true) by decide)] at H; exact H
          clear H
          have H := H1
          clear H1
          exact absurd H (by simp)
        ·rw [if_neg c48] at H
         exact absurd H (by simp)
   ·replace c15 := Bool.eq_false_iff.mpr c15
    subst c15
    have H1 : (none) = some r := by rw [if_neg (show ¬ (false = true) by decide)] at H; exact H
    clear H
    have H := H1
    clear H1
    exact absurd H (by simp)
  ·replace c12 := Bool.eq_false_iff.mpr c12
   subst c12
   have H1 : (none) = some r := by rw [if_neg (show ¬ (false = true) by decide)] at H; exact H
   clear H
   have H := H1
   clear H1
   exact absurd H (by simp)

end Go.Proofs.YtgnmlgoadkhceaaGreatDoor.QFnExactShedActs
