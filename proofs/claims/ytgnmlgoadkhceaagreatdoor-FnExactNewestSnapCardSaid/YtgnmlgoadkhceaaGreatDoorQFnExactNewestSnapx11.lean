/- Written by this session's own program (wip/tpl/pp.py): what the law's functions come to, and that the machine's calls do just that. -/
import Derived.Test.YtgnmlgoadkhceaaGreatDoorQFnExactNewestSnapx0
import Derived.Test.YtgnmlgoadkhceaaGreatDoorQFnExactNewestSnapx8
import Derived.Test.YtgnmlgoadkhceaaGreatDoorQFnExactNewestSnapx9
import Derived.Test.YtgnmlgoadkhceaaGreatDoorQFnExactNewestSnapx10
namespace Go.Proofs.YtgnmlgoadkhceaaGreatDoor.QFnExactNewestSnap
open Go.RowKit Go.Proofs.YtgnmlgoadkhceaaGreatDoorW.PrintWords Go.Proofs.YtgnmlgoadkhceaaGreatDoorW.PrintLast Go.Proofs.YtgnmlgoadkhceaaGreatDoorW.PrintMore
attribute [local go_sem] Go.Proofs.YtgnmlgoadkhceaaGreatDoor.Sem.string_geq Go.Proofs.YtgnmlgoadkhceaaGreatDoor.Sem.string_leq Go.Proofs.YtgnmlgoadkhceaaGreatDoor.Sem.string_gtr
attribute [local go_sem] max2_int min2_int max_two min_two max_three min_three max_four min_four   -- for this text's walks alone
set_option linter.unusedVariables false
set_option linter.unusedSimpArgs false

/-! ### impl_reader_text: function 93 -/
def impl_reader_text.f (k : Nat) (s0_0 : ByteArray) (s0_1 : Int) (s0_2 : Bool) : Option (ByteArray × ByteArray × Int × Bool) := (impl_ReadShort.f k s0_0 s0_1).bind fun t => (if s0_2 = true then (some ((⟨#[]⟩ : ByteArray), s0_0, s0_1, true)) else (if t.2.2 = true then (some (t.1, s0_0, t.2.1, s0_2)) else (some ((⟨#[]⟩ : ByteArray), s0_0, s0_1, true))))
theorem impl_reader_text.mono : ∀ a0 a1 a2 k, LeO (impl_reader_text.f k a0 a1 a2) (impl_reader_text.f (k + 1) a0 a1 a2) :=
 fun a0 a1 a2 k => LeO.bind (impl_ReadShort.mono a0 a1 k) (fun _ => LeO.refl _)
set_option maxHeartbeats 4000000 in
set_option maxRecDepth 100000 in
theorem impl_reader_text.calls (k : Nat) (g : Nat) (s0_0 : ByteArray) (s0_1 : Int) (s0_2 : Bool) (r1 : ByteArray) (r2 : ByteArray) (r3 : Int) (r4 : Bool) (w0 w : World) (hI : IsS118 w0 w g s0_0 s0_1 s0_2) (hB : Below w0.heap.size w0 w) (h : impl_reader_text.f k s0_0 s0_1 s0_2 = some (r1, r2, r3, r4)) :
  Calls Tryz.prog 93 #[.pointer (some ⟨g, 0, none⟩)] w fun e w' => e = .returned (.string r1) ∧ IsS118 w0 w' g r2 r3 r4 ∧ Below w0.heap.size w0 w' ∧ KeepBut w w' g none := by
 obtain ⟨⟨n, nx, ok⟩, ht0, hr⟩ := Option.bind_eq_some_iff.mp h
 clear h
 have HT := Aside0.mk ht0
 clear ht0
 have HI := Aside0.mk hI
 have hlt : g < w.heap.size := blk_lt hI.1
 have c0 : w.cell? ⟨g, 0, none⟩ = some (.string s0_0) := (blk_cell hI.1 0).trans rfl
 have c1 : w.cell? ⟨g, 1, none⟩ = some (.int .i64 s0_1) := (blk_cell hI.1 1).trans rfl
 clear hI
 have HB := Aside0.mk hB
 clear hB
 cases s0_2 with
 | true =>
  obtain ⟨rfl, rfl, rfl, rfl⟩ : (⟨#[]⟩ : ByteArray) = r1 ∧ s0_0 = r2 ∧ s0_1 = r3 ∧ true = r4 := by simpa using hr
  clear hr
  go_enter Tryz.func93, Tryz.ntmps93
  go_wp2_with fail
  go_region_held3 (fun w' => w'.cell? ⟨g, 0, none⟩ = some (.string s0_0) ∧ w'.cell? ⟨g, 1, none⟩ = some (.int .i64 s0_1) ∧ g < w'.heap.size) (first | go_keep | exact ⟨(hb'.cell (p := ⟨g, 0, none⟩) hlt).trans c0, (hb'.cell (p := ⟨g, 1, none⟩) hlt).trans c1, Nat.lt_of_lt_of_le hlt hb'.size⟩) (first | (go_at_call 129; refine (impl_ReadShort.calls k s0_0 s0_1 n nx ok _ HT.out).mono ?_; rintro e w' ⟨rfl, hb'⟩))
  have HI1 := mk_ ((IsS118.drew HI.out).below hb')
  have HK1 := mk_ ((keep_drew (KeepBut.refl w g none)).trans (KeepBut.of_below hb' g none) (.inl rfl))
  have HB1 := mk_ (below_then (below_drew1 HB.out) (below_drew1 HB.out).size hb')
  clear c0 c1 HI HB hb'
  obtain ⟨HG, hg_⟩ := HI1.out
  have d0 := cellS118_0 HG
  have d1 := cellS118_1 HG
  have d2 := cellS118_2 HG
  have e0 := blk_frozen HG 0
  have e1 := blk_frozen HG 1
  have e2 := blk_frozen HG 2
  clear HG hg_
  go_wp2
  go_ret
  exact ⟨rfl, IsS118.ii_ HI1, bwi_ HB1 (IsS118.ge HI1.out), by repeat (first | (with_reducible first | exact HK1.out | apply KeepBut.set_ | apply keep_drewN | apply keep_drew | apply keep_alloc) | exact HK1.out)⟩
 | false =>
  cases ok with
  | true =>
   obtain ⟨rfl, rfl, rfl, rfl⟩ : n = r1 ∧ s0_0 = r2 ∧ nx = r3 ∧ false = r4 := by simpa using hr
   clear hr
   go_enter Tryz.func93, Tryz.ntmps93
   go_wp2_with fail
   go_region_held3 (fun w' => w'.cell? ⟨g, 0, none⟩ = some (.string s0_0) ∧ w'.cell? ⟨g, 1, none⟩ = some (.int .i64 s0_1) ∧ g < w'.heap.size) (first | go_keep | exact ⟨(hb'.cell (p := ⟨g, 0, none⟩) hlt).trans c0, (hb'.cell (p := ⟨g, 1, none⟩) hlt).trans c1, Nat.lt_of_lt_of_le hlt hb'.size⟩) (first | (go_at_call 129; refine (impl_ReadShort.calls k s0_0 s0_1 n nx true _ HT.out).mono ?_; rintro e w' ⟨rfl, hb'⟩))
   have HI1 := mk_ ((IsS118.drew HI.out).below hb')
   have HK1 := mk_ ((keep_drew (KeepBut.refl w g none)).trans (KeepBut.of_below hb' g none) (.inl rfl))
   have HB1 := mk_ (below_then (below_drew1 HB.out) (below_drew1 HB.out).size hb')
   clear c0 c1 HI HB hb'
   obtain ⟨HG, hg_⟩ := HI1.out
   have d0 := cellS118_0 HG
   have d1 := cellS118_1 HG
   have d2 := cellS118_2 HG
   have e0 := blk_frozen HG 0
   have e1 := blk_frozen HG 1
   have e2 := blk_frozen HG 2
   clear HG hg_
   go_wp2
   go_ret
   exact ⟨rfl, IsS118.ii_ HI1, bwi_ HB1 (IsS118.ge HI1.out), by repeat (first | (with_reducible first | exact HK1.out | apply KeepBut.set_ | apply keep_drewN | apply keep_drew | apply keep_alloc) | exact HK1.out)⟩
  | false =>
   obtain ⟨rfl, rfl, rfl, rfl⟩ : (⟨#[]⟩ : ByteArray) = r1 ∧ s0_0 = r2 ∧ s0_1 = r3 ∧ true = r4 := by simpa using hr
   clear hr
   go_enter Tryz.func93, Tryz.ntmps93
   go_wp2_with fail
   go_region_held3 (fun w' => w'.cell? ⟨g, 0, none⟩ = some (.string s0_0) ∧ w'.cell? ⟨g, 1, none⟩ = some (.int .i64 s0_1) ∧ g < w'.heap.size) (first | go_keep | exact ⟨(hb'.cell (p := ⟨g, 0, none⟩) hlt).trans c0, (hb'.cell (p := ⟨g, 1, none⟩) hlt).trans c1, Nat.lt_of_lt_of_le hlt hb'.size⟩) (first | (go_at_call 129; refine (impl_ReadShort.calls k s0_0 s0_1 n nx false _ HT.out).mono ?_; rintro e w' ⟨rfl, hb'⟩))
   have HI1 := mk_ ((IsS118.drew HI.out).below hb')
   have HK1 := mk_ ((keep_drew (KeepBut.refl w g none)).trans (KeepBut.of_below hb' g none) (.inl rfl))
   have HB1 := mk_ (below_then (below_drew1 HB.out) (below_drew1 HB.out).size hb')
   clear c0 c1 HI HB hb'
   obtain ⟨HG, hg_⟩ := HI1.out
   have d0 := cellS118_0 HG
   have d1 := cellS118_1 HG
   have d2 := cellS118_2 HG
   have e0 := blk_frozen HG 0
   have e1 := blk_frozen HG 1
   have e2 := blk_frozen HG 2
   clear HG hg_
   go_wp2
   go_ret
   exact ⟨rfl, IsS118.ii_ HI1, bwi_ HB1 (IsS118.ge HI1.out), by repeat (first | (with_reducible first | exact HK1.out | apply KeepBut.set_ | apply keep_drewN | apply keep_drew | apply keep_alloc) | exact HK1.out)⟩

/-! ### impl_ConfText: function 130 -/
def impl_ConfText.l0 : Nat → List Int → List Int → Int → Int → Option (ByteArray × Bool)
 | 0, _, _, _, _ => none
 | k + 1, x4, x10, x11, x12 => if x12 < x11 then (if 0 ≤ x12 then (if x12 < (x10.length : Int) then (if x4.length < 140737488355328 then (impl_ConfText.l0 k (x4 ++ [(rd x10 x12) % 256]) x10 x11 (wrap64 (x12 + 1))) else (none)) else (none)) else (none)) else (some (strOfNums x4, true))
def impl_ConfText.f (k : Nat) (l0 : List Int) : Option (ByteArray × Bool) := (impl_ConfOk.f k l0).bind fun t316 => (if t316 = true then (impl_ConfText.l0 k ([] : List Int) l0 (l0.length : Int) 0) else (some ((⟨#[]⟩ : ByteArray), false)))
theorem impl_ConfText.mono_l : ∀ k, (∀ y0 y1 y2 y3, LeO (impl_ConfText.l0 k y0 y1 y2 y3) (impl_ConfText.l0 (k + 1) y0 y1 y2 y3))
 | 0 => fun _ _ _ _ r h => by simp [impl_ConfText.l0] at h
 | k + 1 => by
  have ih0 := impl_ConfText.mono_l k
  ·intro y0 y1 y2 y3
   unfold impl_ConfText.l0
   repeat' first
   | (with_reducible exact ih0 _ _ _ _)
   | (with_reducible exact impl_ConfOk.mono _ _)
   | (with_reducible exact LeO.refl _)
   | (with_reducible exact LeO.none _)
   | (with_reducible refine LeO.ite ?_ ?_)
   | (with_reducible refine LeO.bind ?_ (fun _ => ?_))
   | exact ih0 _ _ _ _
   | exact impl_ConfOk.mono _ _
   | exact LeO.none _
   | refine LeO.ite ?_ ?_
   | refine LeO.bind ?_ (fun _ => ?_)
theorem impl_ConfText.mono : ∀ a0 k, LeO (impl_ConfText.f k a0) (impl_ConfText.f (k + 1) a0) := by
 intro a0 k
 have ih0 := impl_ConfText.mono_l k
 unfold impl_ConfText.f
 repeat' first
   | (with_reducible exact ih0 _ _ _ _)
   | (with_reducible exact impl_ConfOk.mono _ _)
   | (with_reducible exact LeO.refl _)
   | (with_reducible exact LeO.none _)
   | (with_reducible refine LeO.ite ?_ ?_)
   | (with_reducible refine LeO.bind ?_ (fun _ => ?_))
   | exact ih0 _ _ _ _
   | exact impl_ConfOk.mono _ _
   | exact LeO.none _
   | refine LeO.ite ?_ ?_
   | refine LeO.bind ?_ (fun _ => ?_)
set_option maxHeartbeats 8000000 in
set_option maxRecDepth 100000 in
theorem impl_ConfText.calls (k : Nat) (A0 : Option Addr) (c0 : Nat) (l0 : List Int) (r1 : ByteArray) (r2 : Bool) (w : World) (hr0 : Kd.C (Kd.int .i64) w A0 l0.length l0) (hc0 : l0.length ≤ c0) (h : impl_ConfText.f k l0 = some (r1, r2)) :
  Calls Tryz.prog 130 #[.slice A0 l0.length c0] w fun e w' => e = .returned (.tuple #[.string r1, .bool r2]) ∧ Below w.heap.size w w' := by
 have HR0 := Aside0.mk hr0
 have HC0 := Aside0.mk hc0
 clear hr0 hc0
 have HB := mk_ (Below.refl w.heap.size w)
 have H : ((impl_ConfOk.f k l0).bind fun t316 => (if t316 = true then (impl_ConfText.l0 k ([] : List Int) l0 (l0.length : Int) 0) else (some ((⟨#[]⟩ : ByteArray), false)))) = some (r1, r2) := h
 clear h
 replace H := Option.bind_eq_some_iff.mp H
 obtain ⟨t316, A20, H⟩ := H
 replace H : (if t316 = true then (impl_ConfText.l0 k ([] : List Int) l0 (l0.length : Int) 0) else (some ((⟨#[]⟩ : ByteArray), false))) = some (r1, r2) := H
 have A2 := Aside0.mk A20
 clear A20
 by_cases c3 : t316 = true
 ·subst c3
  have H1 : (impl_ConfText.l0 k ([] : List Int) l0 (l0.length : Int) 0) = some (r1, r2) := by rw [if_pos rfl] at H; exact H
  clear H
  have H := H1
  clear H1
  have H' := Aside0.mk H
  clear H
  go_enter Tryz.func130, Tryz.ntmps130
  go_wp2_with (first | ((with_reducible refine gate_callee (f := 128) rfl ?_); refine goesL_ (some 8) rfl rfl Tryz.func128 (by kernel_rfl) rfl #[.slice A0 l0.length c0] rfl ga_ ?_; (with_reducible refine (impl_ConfOk.calls k _ _ l0 true _ ?side1 ?side2 A2.out).mono ?_); (case side1 => repeat (first | exact HR0.out | (with_reducible refine Kd.C_alloc ?_ _) | (with_reducible refine Kd.C_drewN ?_ _) | (with_reducible refine Kd.C_drew ?_))); (case side2 => exact HC0.out); rintro e w' ⟨rfl, ⟨nd, rfl⟩⟩; refine ⟨_, rfl, ?_⟩))
  go_loopg [4, 12] k (fun kq v4 v12 w' => ∃ (x4_1 : List Int) (x12_1 : Int), v12 = .int .i64 x12_1 ∧ Aside0 (impl_ConfText.l0 kq x4_1 l0 (l0.length : Int) x12_1 = some (r1, r2)) ∧ Aside0 (kq ≤ k) ∧ Aside0 (Kd.R (Kd.int .u8) 5 w' w.heap.size (fun _ => True) v4 x4_1) ∧ Aside0 (Below w.heap.size w w'))
  case atStart => exact ⟨(([] : List Int)), (0), (by first | rfl | (simp; done) | (simp [*]; done)), H', ⟨Nat.le_refl _⟩, ⟨by first | exact Kd.R_nil _ _ _ _ _ | exact Kd.N_nil _ _ _ _ _ | exact Kd.V_nil _ _ _ _ _ | exact Kd.Q_nil _ _ _ _ _ | exact Kd.S_nil _ _ _ _ _⟩, ⟨bw_ HB⟩⟩
  case round =>
   clear H'
   try clear c1
   try clear p2
   try clear c3
   obtain ⟨x4_1, x12_1, rfl, HA, HK1, HO_4, HB⟩ := hrel
   cases gk with
   | zero => exact absurd HA.out (by simp [impl_ConfText.l0])
   | succ k1 =>
    have H := HA.out
    clear HA
    simp only [impl_ConfText.l0] at H
    by_cases c4 : x12_1 < (l0.length : Int)
    ·rw [if_pos c4] at H
     have c4b0 : decide (x12_1 < (l0.length : Int)) = true := decide_eq_true c4
     clear c4
     by_cases c5 : 0 ≤ x12_1
     ·rw [if_pos c5] at H
      have c5b0 : decide (0 ≤ x12_1) = true := decide_eq_true c5
      clear c5
      by_cases c6 : x12_1 < (l0.length : Int)
      ·rw [if_pos c6] at H
       have c6b0 : decide (x12_1 < (l0.length : Int)) = true := decide_eq_true c6
       clear c6
       by_cases c7 : x4_1.length < 140737488355328
       ·rw [if_pos c7] at H
        have LMc7 := Aside0.mk c7
        clear c7
        obtain ⟨y318, hy318⟩ : ∃ y_ : List Int, y_ = (x4_1 ++ [(rd l0 x12_1) % 256]) := ⟨_, rfl⟩
        replace H : (impl_ConfText.l0 k1 y318 l0 (l0.length : Int) (wrap64 (x12_1 + 1))) = some (r1, r2) := by first | (rw [hy318]; with_reducible exact H) | (have H2_ := (Option.bind_some _ _).symm.trans H; rw [hy318]; with_reducible exact H2_) | (have H2_ := (Option.bind_some _ _).symm.trans H; with_reducible exact H2_) | with_reducible exact H | (rw [hy318]; exact H) | exact H
        have Ny318 := Aside0.mk hy318
        clear hy318
        have H' := Aside0.mk H
        clear H
        have p317 : 0 ≤ (x12_1 : Int) := of_decide_eq_true (by first | (with_reducible assumption) | assumption)
        have q317 : x12_1 < (l0.length : Int) := of_decide_eq_true (by first | (with_reducible assumption) | assumption)
        obtain ⟨ad317, e317, hx317_0⟩ := Kd.at_int HR0.out x12_1 p317 q317
        cases e317
        replace hx317_0 := (HB.out.cell (World.block_lt_of_cell? w _ hx317_0)).trans hx317_0
        replace p317 := eq_true p317
        replace q317 := eq_true q317
        go_wp2_with (first | ((with_reducible refine gate_builtin (b := .append) (xs := #[.tmp 16, .tmp 19]) rfl ?_); at_builtin; refine Kd.R_append (Kd.int .u8) (w0 := w) w.heap.size rfl (.tmp 16) (.tmp 19) 107 5 (.int .u8 0) 1 rfl Tryz.underlying107 info5 rfl (by decide) (by omega) u4 x4_1 ((rd l0 x12_1) % 256) [.int .u8 ((rd l0 x12_1) % 256)] (fun _ => True) (fun _ => False) rfl rfl ?aP (fun _ hk => hk.elim) ?aF ?aO ?aB ?aS ?aL ?_; (case aP => exact rfl); (case aB => exact (bw_ HB)); (case aF => exact (fun _ _ => trivial)); (case aO => exact (rp_ HO_4)); (case aS => exact (below_size (bw_ HB))); (case aL => have := LMc7.out; omega); intro v319 w8 ho hb hg hat; rw [← Ny318.out] at ho; have HO320 := mk_ (ho); replace HB := mk_ (hb); clear HO_4; clear ho hb hg hat))
        go_roundg k1
        case measure => have := HK1.out; omega
        case rel => exact ⟨(y318), (wrap64 (x12_1 + 1)), (by first | rfl | (simp; done) | (simp [*]; done)), H', ⟨by have := HK1.out; omega⟩, ⟨by (with_reducible repeat (first | apply Kd.R_alloc | apply Kd.R_drewN | apply Kd.R_drew)); exact HO320.out⟩, ⟨bw_ HB⟩⟩
       ·rw [if_neg c7] at H
        exact absurd H (by simp)
      ·rw [if_neg c6] at H
       exact absurd H (by simp)
     ·rw [if_neg c5] at H
      exact absurd H (by simp)
    ·rw [if_neg c4] at H
     have c4b0 : decide (x12_1 < (l0.length : Int)) = false := decide_eq_false c4
     clear c4
     simp only [Option.some.injEq, Prod.mk.injEq] at H
     obtain ⟨rfl, rfl⟩ := H
     have hcv9 := own_string (P := Tryz.prog) Tryz.underlying107 Tryz.underlying5 Tryz.underlying9 (Kd.own_of_R HO_4.out)
     go_wp2
     go_ret2
     exact ⟨er_, bw_ HB⟩
 ·replace c3 := Bool.eq_false_iff.mpr c3
  subst c3
  have H1 : (some ((⟨#[]⟩ : ByteArray), false)) = some (r1, r2) := by rw [if_neg (show ¬ (false = true) by decide)] at H; exact H
  clear H
  have H := H1
  clear H1
  simp only [Option.some.injEq, Prod.mk.injEq] at H
  obtain ⟨rfl, rfl⟩ := H
  go_enter Tryz.func130, Tryz.ntmps130
  go_wp2_with (first | ((with_reducible refine gate_callee (f := 128) rfl ?_); refine goesL_ (some 8) rfl rfl Tryz.func128 (by kernel_rfl) rfl #[.slice A0 l0.length c0] rfl ga_ ?_; (with_reducible refine (impl_ConfOk.calls k _ _ l0 false _ ?side1 ?side2 A2.out).mono ?_); (case side1 => repeat (first | exact HR0.out | (with_reducible refine Kd.C_alloc ?_ _) | (with_reducible refine Kd.C_drewN ?_ _) | (with_reducible refine Kd.C_drew ?_))); (case side2 => exact HC0.out); rintro e w' ⟨rfl, ⟨nd, rfl⟩⟩; refine ⟨_, rfl, ?_⟩))
  go_ret2
  exact ⟨er_, bw_ HB⟩

/-! ### impl_vars: function 131 -/
def impl_vars.l0 : Nat → List Int → List Int → Int → Int → Option (ByteArray × Bool)
 | 0, _, _, _, _ => none
 | k + 1, x4, x9, x10, x11 => if x11 < x10 then (if 0 ≤ x11 then (if x11 < (x9.length : Int) then ((impl_VarText.f k (rd x9 x11)).bind fun bt322 => (if bt322.2 = true then (if x4.length + bt322.1.size < 140737488355328 then (impl_vars.l0 k (x4 ++ bytesOf bt322.1) x9 x10 (wrap64 (x11 + 1))) else (none)) else (some ((⟨#[]⟩ : ByteArray), false)))) else (none)) else (none)) else (some (strOfNums x4, true))
def impl_vars.f (k : Nat) (l0 : List Int) : Option (ByteArray × Bool) := impl_vars.l0 k ([] : List Int) l0 (l0.length : Int) 0
theorem impl_vars.mono_l : ∀ k, (∀ y0 y1 y2 y3, LeO (impl_vars.l0 k y0 y1 y2 y3) (impl_vars.l0 (k + 1) y0 y1 y2 y3))
 | 0 => fun _ _ _ _ r h => by simp [impl_vars.l0] at h
 | k + 1 => by
  have ih0 := impl_vars.mono_l k
  ·intro y0 y1 y2 y3
   unfold impl_vars.l0
   repeat' first
   | (with_reducible exact ih0 _ _ _ _)
   | (with_reducible exact impl_VarText.mono _ _)
   | (with_reducible exact LeO.refl _)
   | (with_reducible exact LeO.none _)
   | (with_reducible refine LeO.ite ?_ ?_)
   | (with_reducible refine LeO.bind ?_ (fun _ => ?_))
   | exact ih0 _ _ _ _
   | exact impl_VarText.mono _ _
   | exact LeO.none _
   | refine LeO.ite ?_ ?_
   | refine LeO.bind ?_ (fun _ => ?_)
theorem impl_vars.mono : ∀ a0 k, LeO (impl_vars.f k a0) (impl_vars.f (k + 1) a0) := by
 intro a0 k
 have ih0 := impl_vars.mono_l k
 unfold impl_vars.f
 repeat' first
   | (with_reducible exact ih0 _ _ _ _)
   | (with_reducible exact impl_VarText.mono _ _)
   | (with_reducible exact LeO.refl _)
   | (with_reducible exact LeO.none _)
   | (with_reducible refine LeO.ite ?_ ?_)
   | (with_reducible refine LeO.bind ?_ (fun _ => ?_))
   | exact ih0 _ _ _ _
   | exact impl_VarText.mono _ _
   | exact LeO.none _
   | refine LeO.ite ?_ ?_
   | refine LeO.bind ?_ (fun _ => ?_)
set_option maxHeartbeats 8000000 in
set_option maxRecDepth 100000 in
theorem impl_vars.calls (k : Nat) (A0 : Option Addr) (c0 : Nat) (l0 : List Int) (r1 : ByteArray) (r2 : Bool) (w : World) (hr0 : Kd.C (Kd.int .i64) w A0 l0.length l0) (hc0 : l0.length ≤ c0) (h : impl_vars.f k l0 = some (r1, r2)) :
  Calls Tryz.prog 131 #[.slice A0 l0.length c0] w fun e w' => e = .returned (.tuple #[.string r1, .bool r2]) ∧ Below w.heap.size w w' := by
 have HR0 := Aside0.mk hr0
 have HC0 := Aside0.mk hc0
 clear hr0 hc0
 have HB := mk_ (Below.refl w.heap.size w)
 have H : (impl_vars.l0 k ([] : List Int) l0 (l0.length : Int) 0) = some (r1, r2) := h
 clear h
 have H' := Aside0.mk H
 clear H
 go_enter Tryz.func131, Tryz.ntmps131
 go_wp2
 go_loopg [4, 11] k (fun kq v4 v11 w' => ∃ (x4_1 : List Int) (x11_1 : Int), v11 = .int .i64 x11_1 ∧ Aside0 (impl_vars.l0 kq x4_1 l0 (l0.length : Int) x11_1 = some (r1, r2)) ∧ Aside0 (kq ≤ k) ∧ Aside0 (Kd.R (Kd.int .u8) 5 w' w.heap.size (fun _ => True) v4 x4_1) ∧ Aside0 (Below w.heap.size w w'))
 case atStart => exact ⟨(([] : List Int)), (0), (by first | rfl | (simp; done) | (simp [*]; done)), H', ⟨Nat.le_refl _⟩, ⟨by first | exact Kd.R_nil _ _ _ _ _ | exact Kd.N_nil _ _ _ _ _ | exact Kd.V_nil _ _ _ _ _ | exact Kd.Q_nil _ _ _ _ _ | exact Kd.S_nil _ _ _ _ _⟩, ⟨bw_ HB⟩⟩
 case round =>
  clear H'
  try clear c1
  obtain ⟨x4_1, x11_1, rfl, HA, HK1, HO_4, HB⟩ := hrel
  cases gk with
  | zero => exact absurd HA.out (by simp [impl_vars.l0])
  | succ k1 =>
   have H := HA.out
   clear HA
   simp only [impl_vars.l0] at H
   by_cases c2 : x11_1 < (l0.length : Int)
   ·rw [if_pos c2] at H
    have c2b0 : decide (x11_1 < (l0.length : Int)) = true := decide_eq_true c2
    clear c2
    by_cases c3 : 0 ≤ x11_1
    ·rw [if_pos c3] at H
     have c3b0 : decide (0 ≤ x11_1) = true := decide_eq_true c3
     clear c3
     by_cases c4 : x11_1 < (l0.length : Int)
     ·rw [if_pos c4] at H
      have c4b0 : decide (x11_1 < (l0.length : Int)) = true := decide_eq_true c4
      clear c4
      replace H := Option.bind_eq_some_iff.mp H
      obtain ⟨⟨t322, t323⟩, A50, H⟩ := H
      replace H : (if t323 = true then (if x4_1.length + t322.size < 140737488355328 then (impl_vars.l0 k1 (x4_1 ++ bytesOf t322) l0 (l0.length : Int) (wrap64 (x11_1 + 1))) else (none)) else (some ((⟨#[]⟩ : ByteArray), false))) = some (r1, r2) := H
      have A5 := Aside0.mk A50
      clear A50
      by_cases c6 : t323 = true
      ·subst c6
       have H1 : (if x4_1.length + t322.size < 140737488355328 then (impl_vars.l0 k1 (x4_1 ++ bytesOf t322) l0 (l0.length : Int) (wrap64 (x11_1 + 1))) else (none)) = some (r1, r2) := by rw [if_pos rfl] at H; exact H
       clear H
       have H := H1
       clear H1
       by_cases c7 : x4_1.length + t322.size < 140737488355328
       ·rw [if_pos c7] at H
        have LMc7 := Aside0.mk c7
        clear c7
        obtain ⟨y324, hy324⟩ : ∃ y_ : List Int, y_ = (x4_1 ++ bytesOf t322) := ⟨_, rfl⟩
        replace H : (impl_vars.l0 k1 y324 l0 (l0.length : Int) (wrap64 (x11_1 + 1))) = some (r1, r2) := by first | (rw [hy324]; with_reducible exact H) | (have H2_ := (Option.bind_some _ _).symm.trans H; rw [hy324]; with_reducible exact H2_) | (have H2_ := (Option.bind_some _ _).symm.trans H; with_reducible exact H2_) | with_reducible exact H | (rw [hy324]; exact H) | exact H
        have Ny324 := Aside0.mk hy324
        clear hy324
        have H' := Aside0.mk H
        clear H
        have p321 : 0 ≤ (x11_1 : Int) := of_decide_eq_true (by first | (with_reducible assumption) | assumption)
        have q321 : x11_1 < (l0.length : Int) := of_decide_eq_true (by first | (with_reducible assumption) | assumption)
        obtain ⟨ad321, e321, hx321_0⟩ := Kd.at_int HR0.out x11_1 p321 q321
        cases e321
        replace hx321_0 := (HB.out.cell (World.block_lt_of_cell? w _ hx321_0)).trans hx321_0
        replace p321 := eq_true p321
        replace q321 := eq_true q321
        go_wp2_with (first | ((with_reducible refine gate_callee (f := 116) rfl ?_); refine goesL_ (some 17) rfl rfl Tryz.func116 (by kernel_rfl) rfl #[.int .i64 (rd l0 x11_1)] rfl ga_ ?_; (with_reducible refine (impl_VarText.calls k1 (rd l0 x11_1) t322 true _ A5.out).mono ?_); rintro e w8 ⟨rfl, hb⟩; refine ⟨_, rfl, ?_⟩; replace HO_4 := rb_ HO_4 hb; replace HB := bs_ HB hb; (try clear hb)) | (at_builtin; refine print_append_str (w0 := w) w.heap.size rfl (.tmp 22) _ 107 9 5 rfl Tryz.underlying107 Tryz.underlying9 info5 u4 x4_1 t322 rfl rfl ?aO ?aB ?aS ?aL ?_; (case aB => exact (bw_ HB)); (case aO => exact (Kd.own_of_R (rp_ HO_4))); (case aS => exact (below_size (bw_ HB))); (case aL => have := LMc7.out; omega); intro v325 w9 ho0 hb hg; have ho := Kd.R_of_own (h1 := fun _ => rfl) (ok := fun _ => True) ho0 (fun _ _ => trivial); clear ho0; have hat := True.intro; rw [← Ny324.out] at ho; change Kd.R (Kd.int .u8) 5 w9 w.heap.size (fun _ => True) v325 y324 at ho; have HO326 := mk_ (ho); replace HB := mk_ (hb); clear HO_4; clear ho hb hg hat))
        go_roundg k1
        case measure => have := HK1.out; omega
        case rel => exact ⟨(y324), (wrap64 (x11_1 + 1)), (by first | rfl | (simp; done) | (simp [*]; done)), H', ⟨by have := HK1.out; omega⟩, ⟨by (with_reducible repeat (first | apply Kd.R_alloc | apply Kd.R_drewN | apply Kd.R_drew)); exact HO326.out⟩, ⟨bw_ HB⟩⟩
       ·rw [if_neg c7] at H
        exact absurd H (by simp)
      ·replace c6 := Bool.eq_false_iff.mpr c6
       subst c6
       have H1 : (some ((⟨#[]⟩ : ByteArray), false)) = some (r1, r2) := by rw [if_neg (show ¬ (false = true) by decide)] at H; exact H
       clear H
       have H := H1
       clear H1
       simp only [Option.some.injEq, Prod.mk.injEq] at H
       obtain ⟨rfl, rfl⟩ := H
       have p321 : 0 ≤ (x11_1 : Int) := of_decide_eq_true (by first | (with_reducible assumption) | assumption)
       have q321 : x11_1 < (l0.length : Int) := of_decide_eq_true (by first | (with_reducible assumption) | assumption)
       obtain ⟨ad321, e321, hx321_0⟩ := Kd.at_int HR0.out x11_1 p321 q321
       cases e321
       replace hx321_0 := (HB.out.cell (World.block_lt_of_cell? w _ hx321_0)).trans hx321_0
       replace p321 := eq_true p321
       replace q321 := eq_true q321
       go_wp2_with (first | ((with_reducible refine gate_callee (f := 116) rfl ?_); refine goesL_ (some 17) rfl rfl Tryz.func116 (by kernel_rfl) rfl #[.int .i64 (rd l0 x11_1)] rfl ga_ ?_; (with_reducible refine (impl_VarText.calls k1 (rd l0 x11_1) t322 false _ A5.out).mono ?_); rintro e w10 ⟨rfl, hb⟩; refine ⟨_, rfl, ?_⟩; replace HO_4 := rb_ HO_4 hb; replace HB := bs_ HB hb; (try clear hb)))
       go_ret2
       exact ⟨er_, bw_ HB⟩
     ·rw [if_neg c4] at H
      exact absurd H (by simp)
    ·rw [if_neg c3] at H
     exact absurd H (by simp)
   ·rw [if_neg c2] at H
    have c2b0 : decide (x11_1 < (l0.length : Int)) = false := decide_eq_false c2
    clear c2
    simp only [Option.some.injEq, Prod.mk.injEq] at H
    obtain ⟨rfl, rfl⟩ := H
    have hcv11 := own_string (P := Tryz.prog) Tryz.underlying107 Tryz.underlying5 Tryz.underlying9 (Kd.own_of_R HO_4.out)
    go_wp2
    go_ret2
    exact ⟨er_, bw_ HB⟩

/-! ### impl_ShortText: function 132 -/
def impl_ShortText.f (k : Nat) (a0 : ByteArray) : Option (ByteArray × Bool) := if (a0.size : Int) > 20000 then (some ((⟨#[]⟩ : ByteArray), false)) else ((impl_VarText.f k (a0.size : Int)).bind fun bt327 => (if bt327.1.size + a0.size ≤ 9223372036854775807 then (some (bt327.1 ++ a0, true)) else (none)))
theorem impl_ShortText.mono : ∀ a0 k, LeO (impl_ShortText.f k a0) (impl_ShortText.f (k + 1) a0) := by
 intro a0 k
 unfold impl_ShortText.f
 repeat' first
   | (with_reducible exact impl_VarText.mono _ _)
   | (with_reducible exact LeO.refl _)
   | (with_reducible exact LeO.none _)
   | (with_reducible refine LeO.ite ?_ ?_)
   | (with_reducible refine LeO.bind ?_ (fun _ => ?_))
   | exact impl_VarText.mono _ _
   | exact LeO.none _
   | refine LeO.ite ?_ ?_
   | refine LeO.bind ?_ (fun _ => ?_)
set_option maxHeartbeats 8000000 in
set_option maxRecDepth 100000 in
theorem impl_ShortText.calls (k : Nat) (a0 : ByteArray) (r1 : ByteArray) (r2 : Bool) (w : World) (h : impl_ShortText.f k a0 = some (r1, r2)) :
  Calls Tryz.prog 132 #[.string a0] w fun e w' => e = .returned (.tuple #[.string r1, .bool r2]) ∧ Below w.heap.size w w' := by
 have HB := mk_ (Below.refl w.heap.size w)
 have H : (if (a0.size : Int) > 20000 then (some ((⟨#[]⟩ : ByteArray), false)) else ((impl_VarText.f k (a0.size : Int)).bind fun bt327 => (if bt327.1.size + a0.size ≤ 9223372036854775807 then (some (bt327.1 ++ a0, true)) else (none)))) = some (r1, r2) := h
 clear h
 by_cases c2 : (a0.size : Int) > 20000
 ·rw [if_pos c2] at H
  have c2b0 : decide (20000 < (a0.size : Int)) = true := decide_eq_true c2
  have c2b1 : decide (20000 < a0.size) = true := decide_eq_true (by omega)
  clear c2
  simp only [Option.some.injEq, Prod.mk.injEq] at H
  obtain ⟨rfl, rfl⟩ := H
  go_enter Tryz.func132, Tryz.ntmps132
  go_wp2
  go_ret2
  exact ⟨er_, bw_ HB⟩
 ·rw [if_neg c2] at H
  have c2b0 : decide (20000 < (a0.size : Int)) = false := decide_eq_false c2
  have c2b1 : decide (20000 < a0.size) = false := decide_eq_false (by omega)
  clear c2
  replace H := Option.bind_eq_some_iff.mp H
  obtain ⟨⟨t327, t328⟩, A30, H⟩ := H
  replace H : (if t327.size + a0.size ≤ 9223372036854775807 then (some (t327 ++ a0, true)) else (none)) = some (r1, r2) := H
  have A3 := Aside0.mk A30
  clear A30
  by_cases c4 : t327.size + a0.size ≤ 9223372036854775807
  ·rw [if_pos c4] at H
   have c4b0 := eq_true c4
   have c4b1 : decide (t327.size + a0.size ≤ 9223372036854775807) = true := decide_eq_true c4
   try have c4b2 : (9223372036854775807 < t327.size + a0.size) = False := eq_false (Nat.not_lt.2 c4)
   simp only [Option.some.injEq, Prod.mk.injEq] at H
   obtain ⟨rfl, rfl⟩ := H
   go_enter Tryz.func132, Tryz.ntmps132
   go_wp2_with (first | ((with_reducible refine gate_callee (f := 116) rfl ?_); refine goesL_ (some 12) rfl rfl Tryz.func116 (by kernel_rfl) rfl #[.int .i64 (a0.size : Int)] rfl ga_ ?_; (with_reducible refine (impl_VarText.calls k (a0.size : Int) t327 t328 _ A3.out).mono ?_); rintro e w5 ⟨rfl, hb⟩; refine ⟨_, rfl, ?_⟩; replace HB := bs_ HB hb; (try clear hb)))
   go_ret2
   exact ⟨er_, bw_ HB⟩
  ·rw [if_neg c4] at H
   exact absurd H (by simp)

/-! ### impl_SnapText: function 94 -/
def impl_SnapText.j0 : Nat → ByteArray → Bool → Int → Int → List Int → ByteArray → Option (ByteArray × Bool)
 | 0, _, _, _, _, _, _ => none
 | k + 1, x4, x38, x330000, x330001, x330002, x330003 => if x38 = true then (some ((⟨#[]⟩ : ByteArray), false)) else ((impl_vars.f k (([x330000, x330001] : List Int))).bind fun bt337 => ((impl_ShortText.f k x4).bind fun bt339 => ((impl_ShortText.f k x330003).bind fun bt341 => (if bt337.1.size + bt339.1.size ≤ 9223372036854775807 then (if (bt337.1 ++ bt339.1).size + bt341.1.size ≤ 9223372036854775807 then ((impl_Sealed.f k ((bt337.1 ++ bt339.1) ++ bt341.1)).bind fun bt343 => (if bt343.2 = true then (if (bt343.1.size : Int) > 20000 then (some ((⟨#[]⟩ : ByteArray), false)) else (some (bt343.1, true))) else (some ((⟨#[]⟩ : ByteArray), false)))) else (none)) else (none)))))
def impl_SnapText.f (k : Nat) (a0_0 : Int) (a0_1 : Int) (l0_2 : List Int) (a0_3 : ByteArray) : Option (ByteArray × Bool) := (impl_ConfText.f k l0_2).bind fun bt330 => (if bt330.2 = true then ((impl_within.f a0_0 0 1000000).bind fun t332 => (if t332 = true then ((impl_within.f a0_1 0 100000).bind fun t333 => (if t333 = true then (impl_SnapText.j0 k bt330.1 (decide ((a0_3.size : Int) > 20000)) a0_0 a0_1 l0_2 a0_3) else (impl_SnapText.j0 k bt330.1 true a0_0 a0_1 l0_2 a0_3))) else (impl_SnapText.j0 k bt330.1 true a0_0 a0_1 l0_2 a0_3))) else (impl_SnapText.j0 k bt330.1 true a0_0 a0_1 l0_2 a0_3))
theorem impl_SnapText.mono_l : ∀ k, (∀ y0 y1 y2 y3 y4 y5, LeO (impl_SnapText.j0 k y0 y1 y2 y3 y4 y5) (impl_SnapText.j0 (k + 1) y0 y1 y2 y3 y4 y5))
 | 0 => fun _ _ _ _ _ _ r h => by simp [impl_SnapText.j0] at h
 | k + 1 => by
  have ih0 := impl_SnapText.mono_l k
  ·intro y0 y1 y2 y3 y4 y5
   unfold impl_SnapText.j0
   repeat' first
   | (with_reducible exact ih0 _ _ _ _ _ _)
   | (with_reducible exact impl_ConfText.mono _ _)
   | (with_reducible exact impl_Sealed.mono _ _)
   | (with_reducible exact impl_ShortText.mono _ _)
   | (with_reducible exact impl_vars.mono _ _)
   | (with_reducible exact LeO.refl _)
   | (with_reducible exact LeO.none _)
   | (with_reducible refine LeO.ite ?_ ?_)
   | (with_reducible refine LeO.bind ?_ (fun _ => ?_))
   | exact ih0 _ _ _ _ _ _
   | exact impl_ConfText.mono _ _
   | exact impl_Sealed.mono _ _
   | exact impl_ShortText.mono _ _
   | exact impl_vars.mono _ _
   | exact LeO.none _
   | refine LeO.ite ?_ ?_
   | refine LeO.bind ?_ (fun _ => ?_)
theorem impl_SnapText.mono : ∀ a0 a1 a2 a3 k, LeO (impl_SnapText.f k a0 a1 a2 a3) (impl_SnapText.f (k + 1) a0 a1 a2 a3) := by
 intro a0 a1 a2 a3 k
 have ih0 := impl_SnapText.mono_l k
 unfold impl_SnapText.f
 repeat' first
   | (with_reducible exact ih0 _ _ _ _ _ _)
   | (with_reducible exact impl_ConfText.mono _ _)
   | (with_reducible exact impl_Sealed.mono _ _)
   | (with_reducible exact impl_ShortText.mono _ _)
   | (with_reducible exact impl_vars.mono _ _)
   | (with_reducible exact LeO.refl _)
   | (with_reducible exact LeO.none _)
   | (with_reducible refine LeO.ite ?_ ?_)
   | (with_reducible refine LeO.bind ?_ (fun _ => ?_))
   | exact ih0 _ _ _ _ _ _
   | exact impl_ConfText.mono _ _
   | exact impl_Sealed.mono _ _
   | exact impl_ShortText.mono _ _
   | exact impl_vars.mono _ _
   | exact LeO.none _
   | refine LeO.ite ?_ ?_
   | refine LeO.bind ?_ (fun _ => ?_)
set_option maxHeartbeats 8000000 in
set_option maxRecDepth 100000 in
theorem impl_SnapText.calls (k : Nat) (a0_0 : Int) (a0_1 : Int) (A0_2 : Option Addr) (c0_2 : Nat) (l0_2 : List Int) (a0_3 : ByteArray) (r1 : ByteArray) (r2 : Bool) (w : World) (hr0_2 : Kd.C (Kd.int .i64) w A0_2 l0_2.length l0_2) (hc0_2 : l0_2.length ≤ c0_2) (h : impl_SnapText.f k a0_0 a0_1 l0_2 a0_3 = some (r1, r2)) :
  Calls Tryz.prog 94 #[.agg #[.int .i64 a0_0, .int .i64 a0_1, .slice A0_2 l0_2.length c0_2, .string a0_3]] w fun e w' => e = .returned (.tuple #[.string r1, .bool r2]) ∧ Below w.heap.size w w' := by
 have hu47 := Tryz.underlying47
 have HR0_2 := Aside0.mk hr0_2
 have HC0_2 := Aside0.mk hc0_2
 clear hr0_2 hc0_2
 have HB := mk_ (Below.refl w.heap.size w)
 have H : ((impl_ConfText.f k l0_2).bind fun bt330 => (if bt330.2 = true then ((impl_within.f a0_0 0 1000000).bind fun t332 => (if t332 = true then ((impl_within.f a0_1 0 100000).bind fun t333 => (if t333 = true then (impl_SnapText.j0 k bt330.1 (decide ((a0_3.size : Int) > 20000)) a0_0 a0_1 l0_2 a0_3) else (impl_SnapText.j0 k bt330.1 true a0_0 a0_1 l0_2 a0_3))) else (impl_SnapText.j0 k bt330.1 true a0_0 a0_1 l0_2 a0_3))) else (impl_SnapText.j0 k bt330.1 true a0_0 a0_1 l0_2 a0_3))) = some (r1, r2) := h
 clear h
 replace H := Option.bind_eq_some_iff.mp H
 obtain ⟨⟨t330, t331⟩, A20, H⟩ := H
 replace H : (if t331 = true then ((impl_within.f a0_0 0 1000000).bind fun t332 => (if t332 = true then ((impl_within.f a0_1 0 100000).bind fun t333 => (if t333 = true then (impl_SnapText.j0 k t330 (decide ((a0_3.size : Int) > 20000)) a0_0 a0_1 l0_2 a0_3) else (impl_SnapText.j0 k t330 true a0_0 a0_1 l0_2 a0_3))) else (impl_SnapText.j0 k t330 true a0_0 a0_1 l0_2 a0_3))) else (impl_SnapText.j0 k t330 true a0_0 a0_1 l0_2 a0_3)) = some (r1, r2) := H
 have A2 := Aside0.mk A20
 clear A20
 have HC3 := Aside0.mk H
 clear H
 go_enter Tryz.func94, Tryz.ntmps94
 go_upto_region 2 with (first | ((with_reducible refine gate_dst (N := 1) rfl ?_); (try (refine gate_guard (by rfl) ?_; dsimp only)); refine box_event ?hg (N := 1) ?hd (cs := #[.int .i64 a0_0, .int .i64 a0_1, .slice A0_2 l0_2.length c0_2, .string a0_3]) (t := 47) ?hr ?_; (case hd => rfl); (case hg => rfl); (case hr => first | (go_simp; done) | (go_simp; rfl)); intro gb329 hg w4 hbox hb; have BK329 := mk_ (hbox); have GW329 : Aside0 (w.heap.size ≤ gb329) := bz_ hg; have GE329 : Aside0 (w.heap.size ≤ gb329) := bz_ hg; replace HB := bs_ HB hb; clear hb hbox hg; have hcz5_0 : w4.cell? ⟨gb329, 0, none⟩ = some (.int .i64 a0_0) := bc_ BK329 0; have hcz5_1 : w4.cell? ⟨gb329, 1, none⟩ = some (.int .i64 a0_1) := bc_ BK329 1; have hcz5_2 : w4.cell? ⟨gb329, 2, none⟩ = some (.slice A0_2 l0_2.length c0_2) := bc_ BK329 2; have hcz5_3 : w4.cell? ⟨gb329, 3, none⟩ = some (.string a0_3) := bc_ BK329 3; have hfz5_0 := blk_frozen BK329.out 0; have hfz5_1 := blk_frozen BK329.out 1; have hfz5_2 := blk_frozen BK329.out 2; have hfz5_3 := blk_frozen BK329.out 3) | ((with_reducible refine gate_callee (f := 130) rfl ?_); refine goesL_ (some 16) rfl rfl Tryz.func130 (by kernel_rfl) rfl #[.slice A0_2 l0_2.length c0_2] rfl ga_ ?_; (with_reducible refine (impl_ConfText.calls k _ _ l0_2 t330 t331 _ ?side1 ?side2 A2.out).mono ?_); (case side1 => repeat (first | exact (Kd.C_below HR0_2.out HB.out) | (with_reducible refine Kd.C_alloc ?_ _) | (with_reducible refine Kd.C_drewN ?_ _) | (with_reducible refine Kd.C_drew ?_))); (case side2 => exact HC0_2.out); rintro e w6 ⟨rfl, hb⟩; refine ⟨_, rfl, ?_⟩; replace BK329 := bb_ BK329 hb; replace HB := bs_ HB hb; (try clear hb)))
 (try simp only [Act.put, sia_, scz_, scs_])
 go_cut [38] (fun v38 wc => ∃ (kq : Nat) (x38_2 : Bool), v38 = .bool x38_2 ∧ Aside0 (impl_SnapText.j0 kq t330 x38_2 a0_0 a0_1 l0_2 a0_3 = some (r1, r2)) ∧ Aside0 (kq ≤ k) ∧ Aside0 (wc.heap[gb329]? = some (.cells #[.int .i64 a0_0, .int .i64 a0_1, (.slice A0_2 l0_2.length c0_2), .string a0_3] 47 (0, 0))) ∧ Aside0 (Below w.heap.size w wc))
 case first =>
  have H := HC3.out
  clear HC3
  by_cases c7 : t331 = true
  ·subst c7
   have H1 : ((impl_within.f a0_0 0 1000000).bind fun t332 => (if t332 = true then ((impl_within.f a0_1 0 100000).bind fun t333 => (if t333 = true then (impl_SnapText.j0 k t330 (decide ((a0_3.size : Int) > 20000)) a0_0 a0_1 l0_2 a0_3) else (impl_SnapText.j0 k t330 true a0_0 a0_1 l0_2 a0_3))) else (impl_SnapText.j0 k t330 true a0_0 a0_1 l0_2 a0_3))) = some (r1, r2) := by rw [if_pos rfl] at H; exact H
   clear H
   have H := H1
   clear H1
   replace H := Option.bind_eq_some_iff.mp H
   obtain ⟨t332, A80, H⟩ := H
   replace H : (if t332 = true then ((impl_within.f a0_1 0 100000).bind fun t333 => (if t333 = true then (impl_SnapText.j0 k t330 (decide ((a0_3.size : Int) > 20000)) a0_0 a0_1 l0_2 a0_3) else (impl_SnapText.j0 k t330 true a0_0 a0_1 l0_2 a0_3))) else (impl_SnapText.j0 k t330 true a0_0 a0_1 l0_2 a0_3)) = some (r1, r2) := H
   have A8 := Aside0.mk A80
   clear A80
   by_cases c9 : t332 = true
   ·subst c9
    have H1 : ((impl_within.f a0_1 0 100000).bind fun t333 => (if t333 = true then (impl_SnapText.j0 k t330 (decide ((a0_3.size : Int) > 20000)) a0_0 a0_1 l0_2 a0_3) else (impl_SnapText.j0 k t330 true a0_0 a0_1 l0_2 a0_3))) = some (r1, r2) := by rw [if_pos rfl] at H; exact H
    clear H
    have H := H1
    clear H1
    replace H := Option.bind_eq_some_iff.mp H
    obtain ⟨t333, A100, H⟩ := H
    replace H : (if t333 = true then (impl_SnapText.j0 k t330 (decide ((a0_3.size : Int) > 20000)) a0_0 a0_1 l0_2 a0_3) else (impl_SnapText.j0 k t330 true a0_0 a0_1 l0_2 a0_3)) = some (r1, r2) := H
    have A10 := Aside0.mk A100
    clear A100
    by_cases c11 : t333 = true
    ·subst c11
     have H1 : (impl_SnapText.j0 k t330 (decide ((a0_3.size : Int) > 20000)) a0_0 a0_1 l0_2 a0_3) = some (r1, r2) := by rw [if_pos rfl] at H; exact H
     clear H
     have H := H1
     clear H1
     have H' := Aside0.mk H
     clear H
     have hcz12_0 : w6.cell? ⟨gb329, 0, none⟩ = some (.int .i64 a0_0) := bc_ BK329 0
     have hcz12_1 : w6.cell? ⟨gb329, 1, none⟩ = some (.int .i64 a0_1) := bc_ BK329 1
     have hcz12_2 : w6.cell? ⟨gb329, 2, none⟩ = some (.slice A0_2 l0_2.length c0_2) := bc_ BK329 2
     have hcz12_3 : w6.cell? ⟨gb329, 3, none⟩ = some (.string a0_3) := bc_ BK329 3
     have hfz12_0 := blk_frozen BK329.out 0
     have hfz12_1 := blk_frozen BK329.out 1
     have hfz12_2 := blk_frozen BK329.out 2
     have hfz12_3 := blk_frozen BK329.out 3
     go_wp2_with (first | (go_at_call 70; (with_reducible refine (impl_within.calls a0_0 0 1000000 true _ A8.out).mono ?_); rintro e w' ⟨rfl, ⟨nd, rfl⟩⟩) | (go_at_call 70; (with_reducible refine (impl_within.calls a0_1 0 100000 true _ A10.out).mono ?_); rintro e w' ⟨rfl, ⟨nd, rfl⟩⟩))
     go_meet
     case rel => exact ⟨_, (decide ((a0_3.size : Int) > 20000)), (by first | rfl | (simp; done) | (simp [*]; done)), H', ⟨by first | omega | exact Nat.le_refl _⟩, ⟨bf_⟩, ⟨bw_ HB⟩⟩
    ·replace c11 := Bool.eq_false_iff.mpr c11
     subst c11
     have H1 : (impl_SnapText.j0 k t330 true a0_0 a0_1 l0_2 a0_3) = some (r1, r2) := by rw [if_neg (show ¬ (false = true) by decide)] at H; exact H
     clear H
     have H := H1
     clear H1
     have H' := Aside0.mk H
     clear H
     have hcz13_0 : w6.cell? ⟨gb329, 0, none⟩ = some (.int .i64 a0_0) := bc_ BK329 0
     have hcz13_1 : w6.cell? ⟨gb329, 1, none⟩ = some (.int .i64 a0_1) := bc_ BK329 1
     have hcz13_2 : w6.cell? ⟨gb329, 2, none⟩ = some (.slice A0_2 l0_2.length c0_2) := bc_ BK329 2
     have hcz13_3 : w6.cell? ⟨gb329, 3, none⟩ = some (.string a0_3) := bc_ BK329 3
     have hfz13_0 := blk_frozen BK329.out 0
     have hfz13_1 := blk_frozen BK329.out 1
     have hfz13_2 := blk_frozen BK329.out 2
     have hfz13_3 := blk_frozen BK329.out 3
     go_wp2_with (first | (go_at_call 70; (with_reducible refine (impl_within.calls a0_0 0 1000000 true _ A8.out).mono ?_); rintro e w' ⟨rfl, ⟨nd, rfl⟩⟩) | (go_at_call 70; (with_reducible refine (impl_within.calls a0_1 0 100000 false _ A10.out).mono ?_); rintro e w' ⟨rfl, ⟨nd, rfl⟩⟩))
     go_meet
     case rel => exact ⟨_, (true), (by first | rfl | (simp; done) | (simp [*]; done)), H', ⟨by first | omega | exact Nat.le_refl _⟩, ⟨bf_⟩, ⟨bw_ HB⟩⟩
   ·replace c9 := Bool.eq_false_iff.mpr c9
    subst c9
    have H1 : (impl_SnapText.j0 k t330 true a0_0 a0_1 l0_2 a0_3) = some (r1, r2) := by rw [if_neg (show ¬ (false = true) by decide)] at H; exact H
    clear H
    have H := H1
    clear H1
    have H' := Aside0.mk H
    clear H
    have hcz14_0 : w6.cell? ⟨gb329, 0, none⟩ = some (.int .i64 a0_0) := bc_ BK329 0
    have hcz14_1 : w6.cell? ⟨gb329, 1, none⟩ = some (.int .i64 a0_1) := bc_ BK329 1
    have hcz14_2 : w6.cell? ⟨gb329, 2, none⟩ = some (.slice A0_2 l0_2.length c0_2) := bc_ BK329 2
    have hcz14_3 : w6.cell? ⟨gb329, 3, none⟩ = some (.string a0_3) := bc_ BK329 3
    have hfz14_0 := blk_frozen BK329.out 0
    have hfz14_1 := blk_frozen BK329.out 1
    have hfz14_2 := blk_frozen BK329.out 2
    have hfz14_3 := blk_frozen BK329.out 3
    go_wp2_with (first | (go_at_call 70; (with_reducible refine (impl_within.calls a0_0 0 1000000 false _ A8.out).mono ?_); rintro e w' ⟨rfl, ⟨nd, rfl⟩⟩))
    go_meet
    case rel => exact ⟨_, (true), (by first | rfl | (simp; done) | (simp [*]; done)), H', ⟨by first | omega | exact Nat.le_refl _⟩, ⟨bf_⟩, ⟨bw_ HB⟩⟩
  ·replace c7 := Bool.eq_false_iff.mpr c7
   subst c7
   have H1 : (impl_SnapText.j0 k t330 true a0_0 a0_1 l0_2 a0_3) = some (r1, r2) := by rw [if_neg (show ¬ (false = true) by decide)] at H; exact H
   clear H
   have H := H1
   clear H1
   have H' := Aside0.mk H
   clear H
   go_wp2
   go_meet
   case rel => exact ⟨_, (true), (by first | rfl | (simp; done) | (simp [*]; done)), H', ⟨by first | omega | exact Nat.le_refl _⟩, ⟨bf_⟩, ⟨bw_ HB⟩⟩
 case rest =>
  clear HC3
  try clear c1
  try clear p2
  try clear c7
  try clear c9
  try clear c11
  try clear c13
  try clear hcz12_0
  try clear hcz12_1
  try clear hcz12_2
  try clear hcz12_3
  try clear hcz13_0
  try clear hcz13_1
  try clear hcz13_2
  try clear hcz13_3
  try clear hcz14_0
  try clear hcz14_1
  try clear hcz14_2
  try clear hcz14_3
  try clear hcz5_0
  try clear hcz5_1
  try clear hcz5_2
  try clear hcz5_3
  try clear hfz12_0
  try clear hfz12_1
  try clear hfz12_2
  try clear hfz12_3
  try clear hfz13_0
  try clear hfz13_1
  try clear hfz13_2
  try clear hfz13_3
  try clear hfz14_0
  try clear hfz14_1
  try clear hfz14_2
  try clear hfz14_3
  try clear hfz5_0
  try clear hfz5_1
  try clear hfz5_2
  try clear hfz5_3
  obtain ⟨kq, x38_2, rfl, HA, HJ2, BK329, HB⟩ := hcut
  cases kq with
  | zero => exact absurd HA.out (by simp [impl_SnapText.j0])
  | succ kj2 =>
   have H := HA.out
   clear HA
   simp only [impl_SnapText.j0] at H
   by_cases c15 : x38_2 = true
   ·subst c15
    have H1 : (some ((⟨#[]⟩ : ByteArray), false)) = some (r1, r2) := by rw [if_pos rfl] at H; exact H
    clear H
    have H := H1
    clear H1
    simp only [Option.some.injEq, Prod.mk.injEq] at H
    obtain ⟨rfl, rfl⟩ := H
    go_wp2
    go_ret2
    exact ⟨er_, bw_ HB⟩
   ·replace c15 := Bool.eq_false_iff.mpr c15
    subst c15
    have H1 : ((impl_vars.f kj2 (([a0_0, a0_1] : List Int))).bind fun bt337 => ((impl_ShortText.f kj2 t330).bind fun bt339 => ((impl_ShortText.f kj2 a0_3).bind fun bt341 => (if bt337.1.size + bt339.1.size ≤ 9223372036854775807 then (if (bt337.1 ++ bt339.1).size + bt341.1.size ≤ 9223372036854775807 then ((impl_Sealed.f kj2 ((bt337.1 ++ bt339.1) ++ bt341.1)).bind fun bt343 => (if bt343.2 = true then (if (bt343.1.size : Int) > 20000 then (some ((⟨#[]⟩ : ByteArray), false)) else (some (bt343.1, true))) else (some ((⟨#[]⟩ : ByteArray), false)))) else (none)) else (none))))) = some (r1, r2) := by rw [if_neg (show ¬ (false = true) by decide)] at H; exact H
    clear H
    have H := H1
    clear H1
    obtain ⟨y334, hy334⟩ : ∃ y_ : List Int, y_ = (([a0_0, a0_1] : List Int)) := ⟨_, rfl⟩
    replace H : ((impl_vars.f kj2 y334).bind fun bt337 => ((impl_ShortText.f kj2 t330).bind fun bt339 => ((impl_ShortText.f kj2 a0_3).bind fun bt341 => (if bt337.1.size + bt339.1.size ≤ 9223372036854775807 then (if (bt337.1 ++ bt339.1).size + bt341.1.size ≤ 9223372036854775807 then ((impl_Sealed.f kj2 ((bt337.1 ++ bt339.1) ++ bt341.1)).bind fun bt343 => (if bt343.2 = true then (if (bt343.1.size : Int) > 20000 then (some ((⟨#[]⟩ : ByteArray), false)) else (some (bt343.1, true))) else (some ((⟨#[]⟩ : ByteArray), false)))) else (none)) else (none))))) = some (r1, r2) := by first | (rw [hy334]; with_reducible exact H) | (have H2_ := (Option.bind_some _ _).symm.trans H; rw [hy334]; with_reducible exact H2_) | (have H2_ := (Option.bind_some _ _).symm.trans H; with_reducible exact H2_) | with_reducible exact H | (rw [hy334]; exact H) | exact H
    have Ny334 := Aside0.mk hy334
    clear hy334
    replace H := Option.bind_eq_some_iff.mp H
    obtain ⟨⟨t337, t338⟩, A160, H⟩ := H
    replace H : ((impl_ShortText.f kj2 t330).bind fun bt339 => ((impl_ShortText.f kj2 a0_3).bind fun bt341 => (if t337.size + bt339.1.size ≤ 9223372036854775807 then (if (t337 ++ bt339.1).size + bt341.1.size ≤ 9223372036854775807 then ((impl_Sealed.f kj2 ((t337 ++ bt339.1) ++ bt341.1)).bind fun bt343 => (if bt343.2 = true then (if (bt343.1.size : Int) > 20000 then (some ((⟨#[]⟩ : ByteArray), false)) else (some (bt343.1, true))) else (some ((⟨#[]⟩ : ByteArray), false)))) else (none)) else (none)))) = some (r1, r2) := H
    have A16 := Aside0.mk A160
    clear A160
    replace H := Option.bind_eq_some_iff.mp H
    obtain ⟨⟨t339, t340⟩, A170, H⟩ := H
    replace H : ((impl_ShortText.f kj2 a0_3).bind fun bt341 => (if t337.size + t339.size ≤ 9223372036854775807 then (if (t337 ++ t339).size + bt341.1.size ≤ 9223372036854775807 then ((impl_Sealed.f kj2 ((t337 ++ t339) ++ bt341.1)).bind fun bt343 => (if bt343.2 = true then (if (bt343.1.size : Int) > 20000 then (some ((⟨#[]⟩ : ByteArray), false)) else (some (bt343.1, true))) else (some ((⟨#[]⟩ : ByteArray), false)))) else (none)) else (none))) = some (r1, r2) := H
    have A17 := Aside0.mk A170
    clear A170
    replace H := Option.bind_eq_some_iff.mp H
    obtain ⟨⟨t341, t342⟩, A180, H⟩ := H
    replace H : (if t337.size + t339.size ≤ 9223372036854775807 then (if (t337 ++ t339).size + t341.size ≤ 9223372036854775807 then ((impl_Sealed.f kj2 ((t337 ++ t339) ++ t341)).bind fun bt343 => (if bt343.2 = true then (if (bt343.1.size : Int) > 20000 then (some ((⟨#[]⟩ : ByteArray), false)) else (some (bt343.1, true))) else (some ((⟨#[]⟩ : ByteArray), false)))) else (none)) else (none)) = some (r1, r2) := H
    have A18 := Aside0.mk A180
    clear A180
    by_cases c19 : t337.size + t339.size ≤ 9223372036854775807
    ·rw [if_pos c19] at H
     have c19b0 := eq_true c19
     have c19b1 : decide (t337.size + t339.size ≤ 9223372036854775807) = true := decide_eq_true c19
     try have c19b2 : (9223372036854775807 < t337.size + t339.size) = False := eq_false (Nat.not_lt.2 c19)
     by_cases c20 : (t337 ++ t339).size + t341.size ≤ 9223372036854775807
     ·rw [if_pos c20] at H
      have c20b0 := eq_true c20
      have c20b1 : decide ((t337 ++ t339).size + t341.size ≤ 9223372036854775807) = true := decide_eq_true c20
      try have c20b2 : (9223372036854775807 < (t337 ++ t339).size + t341.size) = False := eq_false (Nat.not_lt.2 c20)
      have c20x0 : (9223372036854775807 < t337.size + t339.size + t341.size) = False := eq_false (by have h_ := c20; simp only [ByteArray.size_append] at h_; exact Nat.not_lt.2 h_)
      replace H := Option.bind_eq_some_iff.mp H
      obtain ⟨⟨t343, t344⟩, A210, H⟩ := H
      replace H : (if t344 = true then (if (t343.size : Int) > 20000 then (some ((⟨#[]⟩ : ByteArray), false)) else (some (t343, true))) else (some ((⟨#[]⟩ : ByteArray), false))) = some (r1, r2) := H
      have A21 := Aside0.mk A210
      clear A210
      by_cases c22 : t344 = true
      ·subst c22
       have H1 : (if (t343.size : Int) > 20000 then (some ((⟨#[]⟩ : ByteArray), false)) else (some (t343, true))) = some (r1, r2) := by rw [if_pos rfl] at H; exact H
       clear H
       have H := H1
       clear H1
       by_cases c23 : (t343.size : Int) > 20000
       ·rw [if_pos c23] at H
        have c23b0 : decide (20000 < (t343.size : Int)) = true := decide_eq_true c23
        have c23b1 : decide (20000 < t343.size) = true := decide_eq_true (by omega)
        clear c23
        simp only [Option.some.injEq, Prod.mk.injEq] at H
        obtain ⟨rfl, rfl⟩ := H
        have hcz24_0 : wc.cell? ⟨gb329, 0, none⟩ = some (.int .i64 a0_0) := bc_ BK329 0
        have hcz24_1 : wc.cell? ⟨gb329, 1, none⟩ = some (.int .i64 a0_1) := bc_ BK329 1
        have hcz24_2 : wc.cell? ⟨gb329, 2, none⟩ = some (.slice A0_2 l0_2.length c0_2) := bc_ BK329 2
        have hcz24_3 : wc.cell? ⟨gb329, 3, none⟩ = some (.string a0_3) := bc_ BK329 3
        have hfz24_0 := blk_frozen BK329.out 0
        have hfz24_1 := blk_frozen BK329.out 1
        have hfz24_2 := blk_frozen BK329.out 2
        have hfz24_3 := blk_frozen BK329.out 3
        go_wp2_with (first | ((with_reducible refine gate_dst (N := 44) rfl ?_); (try (refine gate_guard (by rfl) ?_; dsimp only)); refine Kd.R_lit (Kd.int .i64) _ 3 ?hg (N := 44) ?hd (xs := ([a0_0, a0_1] : List Int)) (inner := [.int .i64 a0_0, .int .i64 a0_1]) (ok := fun _ => True) (okp := fun _ => True) ?hr ?hp (fun _ hk => hk) trivial (Below.refl _ _) (Nat.le_refl _) (by simp) ?_; (case hd => rfl); (case hg => rfl); (case hr => first | (go_simp; done) | (go_simp; rfl)); (case hp => exact (Reps.one (show Kd.M (Kd.int .i64) _ _ _ a0_0 [.int .i64 a0_0] from rfl) (Reps.one (show Kd.M (Kd.int .i64) _ _ _ a0_1 [.int .i64 a0_1] from rfl) (Reps.none _ _)))); intro v335 w25 ho26 hb hg_ hnew_; clear hg_ hnew_; (first | rw [← Ny334.out] at ho26 | (simp only [Int.reduceToNat] at ho26; rw [← Ny334.out] at ho26)); have HO336 := mk_ (Kd.R_lower ho26 (below_size (bw_ HB))); replace BK329 := bb_ BK329 hb; replace HB := bs_ HB hb; clear hb ho26; obtain ⟨Ao27, co27, eo27⟩ := Kd.R_slice HO336.out; subst eo27) | ((with_reducible refine gate_callee (f := 131) rfl ?_); refine goesL_ (some 45) rfl rfl Tryz.func131 (by kernel_rfl) rfl #[.slice Ao27 y334.length co27] rfl ga_ ?_; (with_reducible refine (impl_vars.calls kj2 _ _ y334 t337 t338 _ ?side1 ?side2 A16.out).mono ?_); (case side1 => repeat (first | exact (Kd.R_reads' HO336.out).2.2 | (with_reducible refine Kd.C_alloc ?_ _) | (with_reducible refine Kd.C_drewN ?_ _) | (with_reducible refine Kd.C_drew ?_))); (case side2 => exact (Kd.R_reads' HO336.out).2.1); rintro e w28 ⟨rfl, hb⟩; refine ⟨_, rfl, ?_⟩; replace HO336 := rb_ HO336 hb; replace BK329 := bb_ BK329 hb; replace HB := bs_ HB hb; (try clear hb); (try clear hk)) | ((with_reducible refine gate_callee (f := 132) rfl ?_); refine goesL_ (some 50) rfl rfl Tryz.func132 (by kernel_rfl) rfl #[.string t330] rfl ga_ ?_; (with_reducible refine (impl_ShortText.calls kj2 t330 t339 t340 _ A17.out).mono ?_); rintro e w29 ⟨rfl, hb⟩; refine ⟨_, rfl, ?_⟩; replace HO336 := rb_ HO336 hb; replace BK329 := bb_ BK329 hb; replace HB := bs_ HB hb; (try clear hb); (try clear hk); have hcz30_0 : w29.cell? ⟨gb329, 0, none⟩ = some (.int .i64 a0_0) := bc_ BK329 0; have hcz30_1 : w29.cell? ⟨gb329, 1, none⟩ = some (.int .i64 a0_1) := bc_ BK329 1; have hcz30_2 : w29.cell? ⟨gb329, 2, none⟩ = some (.slice A0_2 l0_2.length c0_2) := bc_ BK329 2; have hcz30_3 : w29.cell? ⟨gb329, 3, none⟩ = some (.string a0_3) := bc_ BK329 3; have hfz30_0 := blk_frozen BK329.out 0; have hfz30_1 := blk_frozen BK329.out 1; have hfz30_2 := blk_frozen BK329.out 2; have hfz30_3 := blk_frozen BK329.out 3) | ((with_reducible refine gate_callee (f := 132) rfl ?_); refine goesL_ (some 56) rfl rfl Tryz.func132 (by kernel_rfl) rfl #[.string a0_3] rfl ga_ ?_; (with_reducible refine (impl_ShortText.calls kj2 a0_3 t341 t342 _ A18.out).mono ?_); rintro e w31 ⟨rfl, hb⟩; refine ⟨_, rfl, ?_⟩; replace HO336 := rb_ HO336 hb; replace BK329 := bb_ BK329 hb; replace HB := bs_ HB hb; (try clear hb); (try clear hk)) | ((with_reducible refine gate_callee (f := 127) rfl ?_); refine goesL_ (some 65) rfl rfl Tryz.func127 (by kernel_rfl) rfl #[.string ((t337 ++ t339) ++ t341)] rfl ga_ ?_; (with_reducible refine (impl_Sealed.calls kj2 ((t337 ++ t339) ++ t341) t343 true _ A21.out).mono ?_); rintro e w32 ⟨rfl, hb⟩; refine ⟨_, rfl, ?_⟩; replace HO336 := rb_ HO336 hb; replace BK329 := bb_ BK329 hb; replace HB := bs_ HB hb; (try clear hb); (try clear hk)))
        go_ret2
        exact ⟨er_, bw_ HB⟩
       ·rw [if_neg c23] at H
        have c23b0 : decide (20000 < (t343.size : Int)) = false := decide_eq_false c23
        have c23b1 : decide (20000 < t343.size) = false := decide_eq_false (by omega)
        clear c23
        simp only [Option.some.injEq, Prod.mk.injEq] at H
        obtain ⟨rfl, rfl⟩ := H
        have hcz33_0 : wc.cell? ⟨gb329, 0, none⟩ = some (.int .i64 a0_0) := bc_ BK329 0
        have hcz33_1 : wc.cell? ⟨gb329, 1, none⟩ = some (.int .i64 a0_1) := bc_ BK329 1
        have hcz33_2 : wc.cell? ⟨gb329, 2, none⟩ = some (.slice A0_2 l0_2.length c0_2) := bc_ BK329 2
        have hcz33_3 : wc.cell? ⟨gb329, 3, none⟩ = some (.string a0_3) := bc_ BK329 3
        have hfz33_0 := blk_frozen BK329.out 0
        have hfz33_1 := blk_frozen BK329.out 1
        have hfz33_2 := blk_frozen BK329.out 2
        have hfz33_3 := blk_frozen BK329.out 3
        go_wp2_with (first | ((with_reducible refine gate_dst (N := 44) rfl ?_); (try (refine gate_guard (by rfl) ?_; dsimp only)); refine Kd.R_lit (Kd.int .i64) _ 3 ?hg (N := 44) ?hd (xs := ([a0_0, a0_1] : List Int)) (inner := [.int .i64 a0_0, .int .i64 a0_1]) (ok := fun _ => True) (okp := fun _ => True) ?hr ?hp (fun _ hk => hk) trivial (Below.refl _ _) (Nat.le_refl _) (by simp) ?_; (case hd => rfl); (case hg => rfl); (case hr => first | (go_simp; done) | (go_simp; rfl)); (case hp => exact (Reps.one (show Kd.M (Kd.int .i64) _ _ _ a0_0 [.int .i64 a0_0] from rfl) (Reps.one (show Kd.M (Kd.int .i64) _ _ _ a0_1 [.int .i64 a0_1] from rfl) (Reps.none _ _)))); intro v335 w34 ho35 hb hg_ hnew_; clear hg_ hnew_; (first | rw [← Ny334.out] at ho35 | (simp only [Int.reduceToNat] at ho35; rw [← Ny334.out] at ho35)); have HO336 := mk_ (Kd.R_lower ho35 (below_size (bw_ HB))); replace BK329 := bb_ BK329 hb; replace HB := bs_ HB hb; clear hb ho35; obtain ⟨Ao36, co36, eo36⟩ := Kd.R_slice HO336.out; subst eo36) | ((with_reducible refine gate_callee (f := 131) rfl ?_); refine goesL_ (some 45) rfl rfl Tryz.func131 (by kernel_rfl) rfl #[.slice Ao36 y334.length co36] rfl ga_ ?_; (with_reducible refine (impl_vars.calls kj2 _ _ y334 t337 t338 _ ?side1 ?side2 A16.out).mono ?_); (case side1 => repeat (first | exact (Kd.R_reads' HO336.out).2.2 | (with_reducible refine Kd.C_alloc ?_ _) | (with_reducible refine Kd.C_drewN ?_ _) | (with_reducible refine Kd.C_drew ?_))); (case side2 => exact (Kd.R_reads' HO336.out).2.1); rintro e w37 ⟨rfl, hb⟩; refine ⟨_, rfl, ?_⟩; replace HO336 := rb_ HO336 hb; replace BK329 := bb_ BK329 hb; replace HB := bs_ HB hb; (try clear hb); (try clear hk)) | ((with_reducible refine gate_callee (f := 132) rfl ?_); refine goesL_ (some 50) rfl rfl Tryz.func132 (by kernel_rfl) rfl #[.string t330] rfl ga_ ?_; (with_reducible refine (impl_ShortText.calls kj2 t330 t339 t340 _ A17.out).mono ?_); rintro e w38 ⟨rfl, hb⟩; refine ⟨_, rfl, ?_⟩; replace HO336 := rb_ HO336 hb; replace BK329 := bb_ BK329 hb; replace HB := bs_ HB hb; (try clear hb); (try clear hk); have hcz39_0 : w38.cell? ⟨gb329, 0, none⟩ = some (.int .i64 a0_0) := bc_ BK329 0; have hcz39_1 : w38.cell? ⟨gb329, 1, none⟩ = some (.int .i64 a0_1) := bc_ BK329 1; have hcz39_2 : w38.cell? ⟨gb329, 2, none⟩ = some (.slice A0_2 l0_2.length c0_2) := bc_ BK329 2; have hcz39_3 : w38.cell? ⟨gb329, 3, none⟩ = some (.string a0_3) := bc_ BK329 3; have hfz39_0 := blk_frozen BK329.out 0; have hfz39_1 := blk_frozen BK329.out 1; have hfz39_2 := blk_frozen BK329.out 2; have hfz39_3 := blk_frozen BK329.out 3) | ((with_reducible refine gate_callee (f := 132) rfl ?_); refine goesL_ (some 56) rfl rfl Tryz.func132 (by kernel_rfl) rfl #[.string a0_3] rfl ga_ ?_; (with_reducible refine (impl_ShortText.calls kj2 a0_3 t341 t342 _ A18.out).mono ?_); rintro e w40 ⟨rfl, hb⟩; refine ⟨_, rfl, ?_⟩; replace HO336 := rb_ HO336 hb; replace BK329 := bb_ BK329 hb; replace HB := bs_ HB hb; (try clear hb); (try clear hk)) | ((with_reducible refine gate_callee (f := 127) rfl ?_); refine goesL_ (some 65) rfl rfl Tryz.func127 (by kernel_rfl) rfl #[.string ((t337 ++ t339) ++ t341)] rfl ga_ ?_; (with_reducible refine (impl_Sealed.calls kj2 ((t337 ++ t339) ++ t341) t343 true _ A21.out).mono ?_); rintro e w41 ⟨rfl, hb⟩; refine ⟨_, rfl, ?_⟩; replace HO336 := rb_ HO336 hb; replace BK329 := bb_ BK329 hb; replace HB := bs_ HB hb; (try clear hb); (try clear hk)))
        go_ret2
        exact ⟨er_, bw_ HB⟩
      ·replace c22 := Bool.eq_false_iff.mpr c22
       subst c22
       have H1 : (some ((⟨#[]⟩ : ByteArray), false)) = some (r1, r2) := by rw [if_neg (show ¬ (false = true) by decide)] at H; exact H
       clear H
       have H := H1
       clear H1
       simp only [Option.some.injEq, Prod.mk.injEq] at H
       obtain ⟨rfl, rfl⟩ := H
       have hcz42_0 : wc.cell? ⟨gb329, 0, none⟩ = some (.int .i64 a0_0) := bc_ BK329 0
       have hcz42_1 : wc.cell? ⟨gb329, 1, none⟩ = some (.int .i64 a0_1) := bc_ BK329 1
       have hcz42_2 : wc.cell? ⟨gb329, 2, none⟩ = some (.slice A0_2 l0_2.length c0_2) := bc_ BK329 2
       have hcz42_3 : wc.cell? ⟨gb329, 3, none⟩ = some (.string a0_3) := bc_ BK329 3
       have hfz42_0 := blk_frozen BK329.out 0
       have hfz42_1 := blk_frozen BK329.out 1
       have hfz42_2 := blk_frozen BK329.out 2
       have hfz42_3 := blk_frozen BK329.out 3
       go_wp2_with (first | ((with_reducible refine gate_dst (N := 44) rfl ?_); (try (refine gate_guard (by rfl) ?_; dsimp only)); refine Kd.R_lit (Kd.int .i64) _ 3 ?hg (N := 44) ?hd (xs := ([a0_0, a0_1] : List Int)) (inner := [.int .i64 a0_0, .int .i64 a0_1]) (ok := fun _ => True) (okp := fun _ => True) ?hr ?hp (fun _ hk => hk) trivial (Below.refl _ _) (Nat.le_refl _) (by simp) ?_; (case hd => rfl); (case hg => rfl); (case hr => first | (go_simp; done) | (go_simp; rfl)); (case hp => exact (Reps.one (show Kd.M (Kd.int .i64) _ _ _ a0_0 [.int .i64 a0_0] from rfl) (Reps.one (show Kd.M (Kd.int .i64) _ _ _ a0_1 [.int .i64 a0_1] from rfl) (Reps.none _ _)))); intro v335 w43 ho44 hb hg_ hnew_; clear hg_ hnew_; (first | rw [← Ny334.out] at ho44 | (simp only [Int.reduceToNat] at ho44; rw [← Ny334.out] at ho44)); have HO336 := mk_ (Kd.R_lower ho44 (below_size (bw_ HB))); replace BK329 := bb_ BK329 hb; replace HB := bs_ HB hb; clear hb ho44; obtain ⟨Ao45, co45, eo45⟩ := Kd.R_slice HO336.out; subst eo45) | ((with_reducible refine gate_callee (f := 131) rfl ?_); refine goesL_ (some 45) rfl rfl Tryz.func131 (by kernel_rfl) rfl #[.slice Ao45 y334.length co45] rfl ga_ ?_; (with_reducible refine (impl_vars.calls kj2 _ _ y334 t337 t338 _ ?side1 ?side2 A16.out).mono ?_); (case side1 => repeat (first | exact (Kd.R_reads' HO336.out).2.2 | (with_reducible refine Kd.C_alloc ?_ _) | (with_reducible refine Kd.C_drewN ?_ _) | (with_reducible refine Kd.C_drew ?_))); (case side2 => exact (Kd.R_reads' HO336.out).2.1); rintro e w46 ⟨rfl, hb⟩; refine ⟨_, rfl, ?_⟩; replace HO336 := rb_ HO336 hb; replace BK329 := bb_ BK329 hb; replace HB := bs_ HB hb; (try clear hb); (try clear hk)) | ((with_reducible refine gate_callee (f := 132) rfl ?_); refine goesL_ (some 50) rfl rfl Tryz.func132 (by kernel_rfl) rfl #[.string t330] rfl ga_ ?_; (with_reducible refine (impl_ShortText.calls kj2 t330 t339 t340 _ A17.out).mono ?_); rintro e w47 ⟨rfl, hb⟩; refine ⟨_, rfl, ?_⟩; replace HO336 := rb_ HO336 hb; replace BK329 := bb_ BK329 hb; replace HB := bs_ HB hb; (try clear hb); (try clear hk); have hcz48_0 : w47.cell? ⟨gb329, 0, none⟩ = some (.int .i64 a0_0) := bc_ BK329 0; have hcz48_1 : w47.cell? ⟨gb329, 1, none⟩ = some (.int .i64 a0_1) := bc_ BK329 1; have hcz48_2 : w47.cell? ⟨gb329, 2, none⟩ = some (.slice A0_2 l0_2.length c0_2) := bc_ BK329 2; have hcz48_3 : w47.cell? ⟨gb329, 3, none⟩ = some (.string a0_3) := bc_ BK329 3; have hfz48_0 := blk_frozen BK329.out 0; have hfz48_1 := blk_frozen BK329.out 1; have hfz48_2 := blk_frozen BK329.out 2; have hfz48_3 := blk_frozen BK329.out 3) | ((with_reducible refine gate_callee (f := 132) rfl ?_); refine goesL_ (some 56) rfl rfl Tryz.func132 (by kernel_rfl) rfl #[.string a0_3] rfl ga_ ?_; (with_reducible refine (impl_ShortText.calls kj2 a0_3 t341 t342 _ A18.out).mono ?_); rintro e w49 ⟨rfl, hb⟩; refine ⟨_, rfl, ?_⟩; replace HO336 := rb_ HO336 hb; replace BK329 := bb_ BK329 hb; replace HB := bs_ HB hb; (try clear hb); (try clear hk)) | ((with_reducible refine gate_callee (f := 127) rfl ?_); refine goesL_ (some 65) rfl rfl Tryz.func127 (by kernel_rfl) rfl #[.string ((t337 ++ t339) ++ t341)] rfl ga_ ?_; (with_reducible refine (impl_Sealed.calls kj2 ((t337 ++ t339) ++ t341) t343 false _ A21.out).mono ?_); rintro e w50 ⟨rfl, hb⟩; refine ⟨_, rfl, ?_⟩; replace HO336 := rb_ HO336 hb; replace BK329 := bb_ BK329 hb; replace HB := bs_ HB hb; (try clear hb); (try clear hk)))
       go_ret2
       exact ⟨er_, bw_ HB⟩
     ·rw [if_neg c20] at H
      exact absurd H (by simp)
    ·rw [if_neg c19] at H
     exact absurd H (by simp)

/-! ### impl_ReadSnap: function 50 -/
def impl_ReadSnap.f (k : Nat) (a0 : ByteArray) : Option (Int × Int × List Int × ByteArray × Bool) := (impl_Unsealed.f k a0).bind fun bt346 => (if bt346.2 = true then ((impl_reader_num.f k bt346.1 0 false).bind fun bt349 => ((impl_reader_num.f k bt349.2.1 bt349.2.2.1 bt349.2.2.2).bind fun bt353 => ((impl_reader_text.f k bt353.2.1 bt353.2.2.1 bt353.2.2.2).bind fun bt358 => ((impl_ReadConf.f k bt358.1).bind fun bt362 => ((impl_reader_text.f k bt358.2.1 bt358.2.2.1 bt358.2.2.2).bind fun bt366 => ((impl_SnapText.f k bt349.1 bt353.1 bt362.1 bt366.1).bind fun bt370 => (if bt366.2.2.2 = true then (some (0, 0, ([] : List Int), (⟨#[]⟩ : ByteArray), false)) else (if bt370.2 = true then (if bt370.1.toList = a0.toList then (some (bt349.1, bt353.1, bt362.1, bt366.1, true)) else (some (0, 0, ([] : List Int), (⟨#[]⟩ : ByteArray), false))) else (some (0, 0, ([] : List Int), (⟨#[]⟩ : ByteArray), false)))))))))) else (some (0, 0, ([] : List Int), (⟨#[]⟩ : ByteArray), false)))
theorem impl_ReadSnap.mono : ∀ a0 k, LeO (impl_ReadSnap.f k a0) (impl_ReadSnap.f (k + 1) a0) := by
 intro a0 k
 unfold impl_ReadSnap.f
 repeat' first
   | (with_reducible exact impl_ReadConf.mono _ _)
   | (with_reducible exact impl_SnapText.mono _ _ _ _ _)
   | (with_reducible exact impl_Unsealed.mono _ _)
   | (with_reducible exact impl_reader_num.mono _ _ _ _)
   | (with_reducible exact impl_reader_text.mono _ _ _ _)
   | (with_reducible exact LeO.refl _)
   | (with_reducible exact LeO.none _)
   | (with_reducible refine LeO.ite ?_ ?_)
   | (with_reducible refine LeO.bind ?_ (fun _ => ?_))
   | exact impl_ReadConf.mono _ _
   | exact impl_SnapText.mono _ _ _ _ _
   | exact impl_Unsealed.mono _ _
   | exact impl_reader_num.mono _ _ _ _
   | exact impl_reader_text.mono _ _ _ _
   | exact LeO.none _
   | refine LeO.ite ?_ ?_
   | refine LeO.bind ?_ (fun _ => ?_)
set_option maxHeartbeats 8000000 in
set_option maxRecDepth 100000 in
theorem impl_ReadSnap.calls (k : Nat) (a0 : ByteArray) (r1 : Int) (r2 : Int) (r3 : List Int) (r4 : ByteArray) (r5 : Bool) (w : World) (h : impl_ReadSnap.f k a0 = some (r1, r2, r3, r4, r5)) :
  Calls Tryz.prog 50 #[.string a0] w fun e w' => ∃ v2_ : Value, e = .returned (.tuple #[.agg #[.int .i64 r1, .int .i64 r2, v2_, .string r4], .bool r5]) ∧ Kd.R (Kd.int .i64) 3 w' w.heap.size (fun _ => True) v2_ r3 ∧ Below w.heap.size w w' := by
 have hu47 := Tryz.underlying47
 have hu118 := Tryz.underlying118
 have HB := mk_ (Below.refl w.heap.size w)
 have H : ((impl_Unsealed.f k a0).bind fun bt346 => (if bt346.2 = true then ((impl_reader_num.f k bt346.1 0 false).bind fun bt349 => ((impl_reader_num.f k bt349.2.1 bt349.2.2.1 bt349.2.2.2).bind fun bt353 => ((impl_reader_text.f k bt353.2.1 bt353.2.2.1 bt353.2.2.2).bind fun bt358 => ((impl_ReadConf.f k bt358.1).bind fun bt362 => ((impl_reader_text.f k bt358.2.1 bt358.2.2.1 bt358.2.2.2).bind fun bt366 => ((impl_SnapText.f k bt349.1 bt353.1 bt362.1 bt366.1).bind fun bt370 => (if bt366.2.2.2 = true then (some (0, 0, ([] : List Int), (⟨#[]⟩ : ByteArray), false)) else (if bt370.2 = true then (if bt370.1.toList = a0.toList then (some (bt349.1, bt353.1, bt362.1, bt366.1, true)) else (some (0, 0, ([] : List Int), (⟨#[]⟩ : ByteArray), false))) else (some (0, 0, ([] : List Int), (⟨#[]⟩ : ByteArray), false)))))))))) else (some (0, 0, ([] : List Int), (⟨#[]⟩ : ByteArray), false)))) = some (r1, r2, r3, r4, r5) := h
 clear h
 replace H := Option.bind_eq_some_iff.mp H
 obtain ⟨⟨t346, t347⟩, A20, H⟩ := H
 replace H : (if t347 = true then ((impl_reader_num.f k t346 0 false).bind fun bt349 => ((impl_reader_num.f k bt349.2.1 bt349.2.2.1 bt349.2.2.2).bind fun bt353 => ((impl_reader_text.f k bt353.2.1 bt353.2.2.1 bt353.2.2.2).bind fun bt358 => ((impl_ReadConf.f k bt358.1).bind fun bt362 => ((impl_reader_text.f k bt358.2.1 bt358.2.2.1 bt358.2.2.2).bind fun bt366 => ((impl_SnapText.f k bt349.1 bt353.1 bt362.1 bt366.1).bind fun bt370 => (if bt366.2.2.2 = true then (some (0, 0, ([] : List Int), (⟨#[]⟩ : ByteArray), false)) else (if bt370.2 = true then (if bt370.1.toList = a0.toList then (some (bt349.1, bt353.1, bt362.1, bt366.1, true)) else (some (0, 0, ([] : List Int), (⟨#[]⟩ : ByteArray), false))) else (some (0, 0, ([] : List Int), (⟨#[]⟩ : ByteArray), false)))))))))) else (some (0, 0, ([] : List Int), (⟨#[]⟩ : ByteArray), false))) = some (r1, r2, r3, r4, r5) := H
 have A2 := Aside0.mk A20
 clear A20
 by_cases c3 : t347 = true
 ·subst c3
  have H1 : ((impl_reader_num.f k t346 0 false).bind fun bt349 => ((impl_reader_num.f k bt349.2.1 bt349.2.2.1 bt349.2.2.2).bind fun bt353 => ((impl_reader_text.f k bt353.2.1 bt353.2.2.1 bt353.2.2.2).bind fun bt358 => ((impl_ReadConf.f k bt358.1).bind fun bt362 => ((impl_reader_text.f k bt358.2.1 bt358.2.2.1 bt358.2.2.2).bind fun bt366 => ((impl_SnapText.f k bt349.1 bt353.1 bt362.1 bt366.1).bind fun bt370 => (if bt366.2.2.2 = true then (some (0, 0, ([] : List Int), (⟨#[]⟩ : ByteArray), false)) else (if bt370.2 = true then (if bt370.1.toList = a0.toList then (some (bt349.1, bt353.1, bt362.1, bt366.1, true)) else (some (0, 0, ([] : List Int), (⟨#[]⟩ : ByteArray), false))) else (some (0, 0, ([] : List Int), (⟨#[]⟩ : ByteArray), false)))))))))) = some (r1, r2, r3, r4, r5) := by rw [if_pos rfl] at H; exact H
  clear H
  have H := H1
  clear H1
  replace H := Option.bind_eq_some_iff.mp H
  obtain ⟨⟨t349, t350, t351, t352⟩, A40, H⟩ := H
  replace H : ((impl_reader_num.f k t350 t351 t352).bind fun bt353 => ((impl_reader_text.f k bt353.2.1 bt353.2.2.1 bt353.2.2.2).bind fun bt358 => ((impl_ReadConf.f k bt358.1).bind fun bt362 => ((impl_reader_text.f k bt358.2.1 bt358.2.2.1 bt358.2.2.2).bind fun bt366 => ((impl_SnapText.f k t349 bt353.1 bt362.1 bt366.1).bind fun bt370 => (if bt366.2.2.2 = true then (some (0, 0, ([] : List Int), (⟨#[]⟩ : ByteArray), false)) else (if bt370.2 = true then (if bt370.1.toList = a0.toList then (some (t349, bt353.1, bt362.1, bt366.1, true)) else (some (0, 0, ([] : List Int), (⟨#[]⟩ : ByteArray), false))) else (some (0, 0, ([] : List Int), (⟨#[]⟩ : ByteArray), false))))))))) = some (r1, r2, r3, r4, r5) := H
  have A4 := Aside0.mk A40
  clear A40
  replace H := Option.bind_eq_some_iff.mp H
  obtain ⟨⟨t353, t354, t355, t356⟩, A50, H⟩ := H
  replace H : ((impl_reader_text.f k t354 t355 t356).bind fun bt358 => ((impl_ReadConf.f k bt358.1).bind fun bt362 => ((impl_reader_text.f k bt358.2.1 bt358.2.2.1 bt358.2.2.2).bind fun bt366 => ((impl_SnapText.f k t349 t353 bt362.1 bt366.1).bind fun bt370 => (if bt366.2.2.2 = true then (some (0, 0, ([] : List Int), (⟨#[]⟩ : ByteArray), false)) else (if bt370.2 = true then (if bt370.1.toList = a0.toList then (some (t349, t353, bt362.1, bt366.1, true)) else (some (0, 0, ([] : List Int), (⟨#[]⟩ : ByteArray), false))) else (some (0, 0, ([] : List Int), (⟨#[]⟩ : ByteArray), false)))))))) = some (r1, r2, r3, r4, r5) := H
  have A5 := Aside0.mk A50
  clear A50
  replace H := Option.bind_eq_some_iff.mp H
  obtain ⟨⟨t358, t359, t360, t361⟩, A60, H⟩ := H
  replace H : ((impl_ReadConf.f k t358).bind fun bt362 => ((impl_reader_text.f k t359 t360 t361).bind fun bt366 => ((impl_SnapText.f k t349 t353 bt362.1 bt366.1).bind fun bt370 => (if bt366.2.2.2 = true then (some (0, 0, ([] : List Int), (⟨#[]⟩ : ByteArray), false)) else (if bt370.2 = true then (if bt370.1.toList = a0.toList then (some (t349, t353, bt362.1, bt366.1, true)) else (some (0, 0, ([] : List Int), (⟨#[]⟩ : ByteArray), false))) else (some (0, 0, ([] : List Int), (⟨#[]⟩ : ByteArray), false))))))) = some (r1, r2, r3, r4, r5) := H
  have A6 := Aside0.mk A60
  clear A60
  replace H := Option.bind_eq_some_iff.mp H
  obtain ⟨⟨t362, t363⟩, A70, H⟩ := H
  replace H : ((impl_reader_text.f k t359 t360 t361).bind fun bt366 => ((impl_SnapText.f k t349 t353 t362 bt366.1).bind fun bt370 => (if bt366.2.2.2 = true then (some (0, 0, ([] : List Int), (⟨#[]⟩ : ByteArray), false)) else (if bt370.2 = true then (if bt370.1.toList = a0.toList then (some (t349, t353, t362, bt366.1, true)) else (some (0, 0, ([] : List Int), (⟨#[]⟩ : ByteArray), false))) else (some (0, 0, ([] : List Int), (⟨#[]⟩ : ByteArray), false)))))) = some (r1, r2, r3, r4, r5) := H
  have A7 := Aside0.mk A70
  clear A70
  replace H := Option.bind_eq_some_iff.mp H
  obtain ⟨⟨t366, t367, t368, t369⟩, A80, H⟩ := H
  replace H : ((impl_SnapText.f k t349 t353 t362 t366).bind fun bt370 => (if t369 = true then (some (0, 0, ([] : List Int), (⟨#[]⟩ : ByteArray), false)) else (if bt370.2 = true then (if bt370.1.toList = a0.toList then (some (t349, t353, t362, t366, true)) else (some (0, 0, ([] : List Int), (⟨#[]⟩ : ByteArray), false))) else (some (0, 0, ([] : List Int), (⟨#[]⟩ : ByteArray), false))))) = some (r1, r2, r3, r4, r5) := H
  have A8 := Aside0.mk A80
  clear A80
  replace H := Option.bind_eq_some_iff.mp H
  obtain ⟨⟨t370, t371⟩, A90, H⟩ := H
  replace H : (if t369 = true then (some (0, 0, ([] : List Int), (⟨#[]⟩ : ByteArray), false)) else (if t371 = true then (if t370.toList = a0.toList then (some (t349, t353, t362, t366, true)) else (some (0, 0, ([] : List Int), (⟨#[]⟩ : ByteArray), false))) else (some (0, 0, ([] : List Int), (⟨#[]⟩ : ByteArray), false)))) = some (r1, r2, r3, r4, r5) := H
  have A9 := Aside0.mk A90
  clear A90
  by_cases c10 : t369 = true
  ·subst c10
   have H1 : (some (0, 0, ([] : List Int), (⟨#[]⟩ : ByteArray), false)) = some (r1, r2, r3, r4, r5) := by rw [if_pos rfl] at H; exact H
   clear H
   have H := H1
   clear H1
   simp only [Option.some.injEq, Prod.mk.injEq] at H
   obtain ⟨rfl, rfl, rfl, rfl, rfl⟩ := H
   go_enter Tryz.func50, Tryz.ntmps50
   go_wp2_with (first | ((with_reducible refine gate_dst (N := 2) rfl ?_); refine box_event ?hg (N := 2) ?hd (cs := #[.int .i64 0, .int .i64 0, .slice none 0 0, .string (⟨#[]⟩ : ByteArray)]) (t := 47) ?hr ?_; (case hd => rfl); (case hg => rfl); (case hr => first | (go_simp; done) | (go_simp; rfl)); intro gb345 hg w11 hbox hb; have BK345 := mk_ (hbox); have GW345 : Aside0 (w.heap.size ≤ gb345) := bz_ hg; have GE345 : Aside0 (w.heap.size ≤ gb345) := bz_ hg; replace HB := bs_ HB hb; clear hb hbox hg) | ((with_reducible refine gate_callee (f := 90) rfl ?_); refine goesL_ (some 12) rfl rfl Tryz.func90 (by kernel_rfl) rfl #[.string a0] rfl ga_ ?_; (with_reducible refine (impl_Unsealed.calls k a0 t346 true _ A2.out).mono ?_); rintro e w12 ⟨rfl, hb⟩; refine ⟨_, rfl, ?_⟩; replace BK345 := bb_ BK345 hb; replace HB := bs_ HB hb; (try clear hb); (try clear hk); (try clear hi)) | ((with_reducible refine gate_dst (N := 20) rfl ?_); refine box_event ?hg (N := 20) ?hd (cs := #[.string t346, .int .i64 0, .bool false]) (t := 118) ?hr ?_; (case hd => rfl); (case hg => rfl); (case hr => first | (go_simp; done) | (go_simp; rfl)); intro gb348 hg w13 hbox hb; have GW348 : Aside0 (w.heap.size ≤ gb348) := bz_ hg; have GE348 : Aside0 (w.heap.size ≤ gb348) := bz_ hg; have NB345_348 : Aside0 (gb345 ≠ gb348) := bl_ BK345 hg; have NB348_345 : Aside0 (gb348 ≠ gb345) := bg_ BK345 hg; have HI348 := mk_ ((⟨hbox, (by rw [hg]; exact (below_size (bw_ HB)) : w.heap.size ≤ gb348)⟩ : IsS118 w w13 gb348 t346 0 false)); replace BK345 := bb_ BK345 hb; replace HB := bs_ HB hb; clear hb hbox hg) | ((with_reducible refine gate_callee (f := 91) rfl ?_); refine goesL_ (some 22) rfl rfl Tryz.func91 (by kernel_rfl) rfl #[.pointer (some ⟨gb348, 0, none⟩)] rfl ga_ ?_; (with_reducible refine (impl_reader_num.calls k gb348 t346 0 false t349 t350 t351 t352 w _ ?side1 ?side2 A4.out).mono ?_); (case side1 => exact IsS118.ii_ HI348); (case side2 => exact bwi_ HB (IsS118.ge HI348.out)); rintro e w14 ⟨rfl, hi, hb, hk⟩; refine ⟨_, rfl, ?_⟩; replace BK345 := mk_ (KeepBut.blk hk (g' := gb345) (o := .cells #[.int .i64 0, .int .i64 0, .slice none 0 0, .string (⟨#[]⟩ : ByteArray)] 47 (0, 0)) (bp_ BK345) NB345_348.out (by simp)); replace HB := mk_ (hb); replace HI348 := mk_ (hi); (try clear hb); (try clear hk); (try clear hi)) | ((with_reducible refine gate_callee (f := 91) rfl ?_); refine goesL_ (some 24) rfl rfl Tryz.func91 (by kernel_rfl) rfl #[.pointer (some ⟨gb348, 0, none⟩)] rfl ga_ ?_; (with_reducible refine (impl_reader_num.calls k gb348 t350 t351 t352 t353 t354 t355 t356 w _ ?side1 ?side2 A5.out).mono ?_); (case side1 => exact IsS118.ii_ HI348); (case side2 => exact bwi_ HB (IsS118.ge HI348.out)); rintro e w15 ⟨rfl, hi, hb, hk⟩; refine ⟨_, rfl, ?_⟩; replace BK345 := mk_ (KeepBut.blk hk (g' := gb345) (o := .cells #[.int .i64 0, .int .i64 0, .slice none 0 0, .string (⟨#[]⟩ : ByteArray)] 47 (0, 0)) (bp_ BK345) NB345_348.out (by simp)); replace HB := mk_ (hb); replace HI348 := mk_ (hi); (try clear hb); (try clear hk); (try clear hi)) | ((with_reducible refine gate_dst (N := 7) rfl ?_); refine box_event ?hg (N := 7) ?hd (cs := #[.int .i64 0, .int .i64 0, .slice none 0 0, .string (⟨#[]⟩ : ByteArray)]) (t := 47) ?hr ?_; (case hd => rfl); (case hg => rfl); (case hr => first | (go_simp; done) | (go_simp; rfl)); intro gb357 hg w16 hbox hb; have n0_ := bb_ BK345 hb; have n1_ := mk_ (IsS118.below (IsS118.ii_ HI348) hb); have n2_ := mk_ (below_step (bwi_ HB (IsS118.ge HI348.out)) hb); have n3_ := mk_ (hbox); have n4_ := mk_ ((by rw [hg]; exact (below_size (bwi_ HB (IsS118.ge HI348.out))) : w.heap.size ≤ gb357)); have n5_ := mk_ ((by rw [hg]; exact (below_size (bwi_ HB (IsS118.ge HI348.out))) : w.heap.size ≤ gb357)); have n6_ : Aside0 (gb345 ≠ gb357) := bl_ BK345 hg; have n7_ : Aside0 (gb357 ≠ gb345) := bg_ BK345 hg; have n8_ := mk_ ((by rw [hg]; exact Nat.ne_of_lt (IsS118.lt (show IsS118 w _ gb348 t354 t355 t356 from IsS118.ii_ HI348)) : gb348 ≠ gb357)); have n9_ := mk_ ((by rw [hg]; exact Nat.ne_of_gt (IsS118.lt (show IsS118 w _ gb348 t354 t355 t356 from IsS118.ii_ HI348)) : gb357 ≠ gb348)); clear BK345; clear HI348; clear HB; have BK345 := n0_; have HI348 := n1_; have HB := n2_; have BK357 := n3_; have GW357 := n4_; have GE357 := n5_; have NB345_357 := n6_; have NB357_345 := n7_; have NB348_357 := n8_; have NB357_348 := n9_; clear n0_ n1_ n2_ n3_ n4_ n5_ n6_ n7_ n8_ n9_; clear hb hbox hg; have hnb17 := NB357_345.out; have hnc17 := NB345_357.out; have hnb18 := NB357_348.out; have hnc18 := NB348_357.out; have hcz19_0 : w16.cell? ⟨gb357, 0, none⟩ = some (.int .i64 0) := bc_ BK357 0; have hcz19_1 : w16.cell? ⟨gb357, 1, none⟩ = some (.int .i64 0) := bc_ BK357 1; have hcz19_2 : w16.cell? ⟨gb357, 2, none⟩ = some (.slice none 0 0) := bc_ BK357 2; have hcz19_3 : w16.cell? ⟨gb357, 3, none⟩ = some (.string (⟨#[]⟩ : ByteArray)) := bc_ BK357 3; have hfz19_0 := blk_frozen BK357.out 0; have hfz19_1 := blk_frozen BK357.out 1; have hfz19_2 := blk_frozen BK357.out 2; have hfz19_3 := blk_frozen BK357.out 3) | ((with_reducible refine gate_callee (f := 93) rfl ?_); refine goesL_ (some 28) rfl rfl Tryz.func93 (by kernel_rfl) rfl #[.pointer (some ⟨gb348, 0, none⟩)] rfl ga_ ?_; (with_reducible refine (impl_reader_text.calls k gb348 t354 t355 t356 t358 t359 t360 t361 w _ ?side1 ?side2 A6.out).mono ?_); (case side1 => exact IsS118.ii_ HI348); (case side2 => exact bwi_ HB (IsS118.ge HI348.out)); rintro e w20 ⟨rfl, hi, hb, hk⟩; refine ⟨_, rfl, ?_⟩; replace BK345 := mk_ (KeepBut.blk hk (g' := gb345) (o := .cells #[.int .i64 0, .int .i64 0, .slice none 0 0, .string (⟨#[]⟩ : ByteArray)] 47 (0, 0)) bf_ NB345_348.out (by simp)); replace BK357 := mk_ (KeepBut.blk hk (g' := gb357) (o := .cells #[.int .i64 t349, .int .i64 t353, .slice none 0 0, .string (⟨#[]⟩ : ByteArray)] 47 (0, 0)) bu_ NB357_348.out (by simp)); replace HB := mk_ (hb); replace HI348 := mk_ (hi); (try clear hb); (try clear hk); (try clear hi)) | ((with_reducible refine gate_callee (f := 92) rfl ?_); refine goesL_ (some 29) rfl rfl Tryz.func92 (by kernel_rfl) rfl #[.string t358] rfl ga_ ?_; (with_reducible refine (impl_ReadConf.calls k t358 t362 t363 _ A7.out).mono ?_); rintro e w21 ⟨v364, rfl, ho0, hb⟩; refine ⟨_, rfl, ?_⟩; have n0_ := mk_ (Kd.R_lower ho0 (below_size (bwi_ HB (IsS118.ge HI348.out)))); have n1_ := bb_ BK345 hb; have n2_ := mk_ (IsS118.below (IsS118.ii_ HI348) hb); have n3_ := bb_ BK357 hb; have n4_ := mk_ (below_step (bwi_ HB (IsS118.ge HI348.out)) hb); clear BK345; clear HI348; clear BK357; clear HB; have HO365 := n0_; have BK345 := n1_; have HI348 := n2_; have BK357 := n3_; have HB := n4_; clear n0_ n1_ n2_ n3_ n4_; (try clear hb); (try clear hk); (try clear hi); (try clear ho0); obtain ⟨Ao22, co22, eo22⟩ := Kd.R_slice HO365.out; subst eo22; have hcz23_0 : w21.cell? ⟨gb357, 0, none⟩ = some (.int .i64 t349) := bc_ BK357 0; have hcz23_1 : w21.cell? ⟨gb357, 1, none⟩ = some (.int .i64 t353) := bc_ BK357 1; have hcz23_2 : w21.cell? ⟨gb357, 2, none⟩ = some (.slice none 0 0) := bc_ BK357 2; have hcz23_3 : w21.cell? ⟨gb357, 3, none⟩ = some (.string (⟨#[]⟩ : ByteArray)) := bc_ BK357 3; have hfz23_0 := blk_frozen BK357.out 0; have hfz23_1 := blk_frozen BK357.out 1; have hfz23_2 := blk_frozen BK357.out 2; have hfz23_3 := blk_frozen BK357.out 3) | ((with_reducible refine gate_callee (f := 93) rfl ?_); refine goesL_ (some 34) rfl rfl Tryz.func93 (by kernel_rfl) rfl #[.pointer (some ⟨gb348, 0, none⟩)] rfl ga_ ?_; (with_reducible refine (impl_reader_text.calls k gb348 t359 t360 t361 t366 t367 t368 true w _ ?side1 ?side2 A8.out).mono ?_); (case side1 => exact IsS118.ii_ HI348); (case side2 => exact bwi_ HB (IsS118.ge HI348.out)); rintro e w24 ⟨rfl, hi, hb, hk⟩; refine ⟨_, rfl, ?_⟩; have n0_ := mk_ (KeepBut.blk hk (g' := gb345) (o := .cells #[.int .i64 0, .int .i64 0, .slice none 0 0, .string (⟨#[]⟩ : ByteArray)] 47 (0, 0)) bf_ NB345_348.out (by simp)); have n1_ := mk_ (KeepBut.blk hk (g' := gb357) (o := .cells #[.int .i64 t349, .int .i64 t353, .slice Ao22 t362.length co22, .string (⟨#[]⟩ : ByteArray)] 47 (0, 0)) bu_ NB357_348.out (by simp)); have n2_ := mk_ (Kd.R_mono (Kd.R_keep (IsS118.apart (show IsS118 w _ gb348 t359 t360 t361 from IsS118.ii_ HI348) (by (with_reducible repeat (first | apply Kd.R_alloc | apply Kd.R_drewN | apply Kd.R_drew)); exact (Kd.R_mono (Kd.R_far (p := ⟨gb357, 2, none⟩) (Kd.R_types HO365.out BK357.out (by decide)) (fun _ hk => hk.2) (.slice Ao22 t362.length co22)) (fun _ h_ => h_.1))) (by decide)) hk (fun _ h => h.2)) (fun _ h => h.1)); have n3_ := mk_ (hb); have n4_ := mk_ (hi); clear BK345; clear BK357; clear HO365; clear HB; clear HI348; have BK345 := n0_; have BK357 := n1_; have HO365 := n2_; have HB := n3_; have HI348 := n4_; clear n0_ n1_ n2_ n3_ n4_; (try clear hb); (try clear hk); (try clear hi); have hcz25_0 : w24.cell? ⟨gb357, 0, none⟩ = some (.int .i64 t349) := bc_ BK357 0; have hcz25_1 : w24.cell? ⟨gb357, 1, none⟩ = some (.int .i64 t353) := bc_ BK357 1; have hcz25_2 : w24.cell? ⟨gb357, 2, none⟩ = some (.slice Ao22 t362.length co22) := bc_ BK357 2; have hcz25_3 : w24.cell? ⟨gb357, 3, none⟩ = some (.string (⟨#[]⟩ : ByteArray)) := bc_ BK357 3; have hfz25_0 := blk_frozen BK357.out 0; have hfz25_1 := blk_frozen BK357.out 1; have hfz25_2 := blk_frozen BK357.out 2; have hfz25_3 := blk_frozen BK357.out 3) | ((with_reducible refine gate_callee (f := 94) rfl ?_); refine goesL_ (some 38) rfl rfl Tryz.func94 (by kernel_rfl) rfl #[.agg #[.int .i64 t349, .int .i64 t353, .slice Ao22 t362.length co22, .string t366]] rfl ga_ ?_; (with_reducible refine (impl_SnapText.calls k t349 t353 _ _ t362 t366 t370 t371 _ ?side1 ?side2 A9.out).mono ?_); (case side1 => refine (Kd.R_reads' (e := 3) (base := w.heap.size) (ok := fun k_ => True) (n := t362.length) (c := co22) ?_).2.2; exact (by (with_reducible repeat (first | apply Kd.R_alloc | apply Kd.R_drewN | apply Kd.R_drew)); exact (Kd.R_mono (Kd.R_far (p := ⟨gb357, 3, none⟩) (Kd.R_types HO365.out BK357.out (by decide)) (fun _ hk => hk.2) (.string t366)) (fun _ h_ => h_.1)))); (case side2 => exact (Kd.R_reads' HO365.out).2.1); rintro e w26 ⟨rfl, hb⟩; refine ⟨_, rfl, ?_⟩; have n0_ := mk_ (Kd.R_below (by (with_reducible repeat (first | apply Kd.R_alloc | apply Kd.R_drewN | apply Kd.R_drew)); exact (Kd.R_mono (Kd.R_far (p := ⟨gb357, 3, none⟩) (Kd.R_types HO365.out BK357.out (by decide)) (fun _ hk => hk.2) (.string t366)) (fun _ h_ => h_.1))) hb); have n1_ := mk_ (blk_below (g := gb345) (o := .cells #[.int .i64 0, .int .i64 0, .slice none 0 0, .string (⟨#[]⟩ : ByteArray)] 47 (0, 0)) bf_ hb); have n2_ := mk_ (IsS118.below (show IsS118 w (w24.setCell ⟨gb357, 3, none⟩ (.string t366)) gb348 t367 t368 true from IsS118.ii_ HI348) hb); have n3_ := mk_ (blk_below (g := gb357) (o := .cells #[.int .i64 t349, .int .i64 t353, .slice Ao22 t362.length co22, .string t366] 47 (0, 0)) bu_ hb); have n4_ := mk_ (below_step (bwi_ HB (IsS118.ge HI348.out)) hb); clear HO365; clear BK345; clear HI348; clear BK357; clear HB; have HO365 := n0_; have BK345 := n1_; have HI348 := n2_; have BK357 := n3_; have HB := n4_; clear n0_ n1_ n2_ n3_ n4_; (try clear hb); (try clear hk); (try clear hi); obtain ⟨HGz27, hgz27⟩ := HI348.out; have hcz27_0 := cellS118_0 HGz27; have hcz27_1 := cellS118_1 HGz27; have hcz27_2 := cellS118_2 HGz27; have hfz27_0 := blk_frozen HGz27 0; have hfz27_1 := blk_frozen HGz27 1; have hfz27_2 := blk_frozen HGz27 2; clear HGz27 hgz27; have hnb28 := NB345_348.out; have hnc28 := NB348_345.out; have hcz29_0 : w26.cell? ⟨gb345, 0, none⟩ = some (.int .i64 0) := bc_ BK345 0; have hcz29_1 : w26.cell? ⟨gb345, 1, none⟩ = some (.int .i64 0) := bc_ BK345 1; have hcz29_2 : w26.cell? ⟨gb345, 2, none⟩ = some (.slice none 0 0) := bc_ BK345 2; have hcz29_3 : w26.cell? ⟨gb345, 3, none⟩ = some (.string (⟨#[]⟩ : ByteArray)) := bc_ BK345 3; have hfz29_0 := blk_frozen BK345.out 0; have hfz29_1 := blk_frozen BK345.out 1; have hfz29_2 := blk_frozen BK345.out 2; have hfz29_3 := blk_frozen BK345.out 3))
   refine bodyPost_ret (results_ct rfl _ _ gb345 47 #[.int .i64 0, .int .i64 0, .slice none 0 0, .string (⟨#[]⟩ : ByteArray)] (0, 0) _ rfl bu_ Tryz.underlying47 rfl (by kernel_rfl)) rfl ?_
   exact ⟨_, er_, by first | exact Kd.R_nil _ _ _ _ _ | exact Kd.N_nil _ _ _ _ _ | exact Kd.V_nil _ _ _ _ _ | exact Kd.Q_nil _ _ _ _ _ | exact Kd.S_nil _ _ _ _ _, bwi_ HB (IsS118.ge HI348.out)⟩
  ·replace c10 := Bool.eq_false_iff.mpr c10
   subst c10
   have H1 : (if t371 = true then (if t370.toList = a0.toList then (some (t349, t353, t362, t366, true)) else (some (0, 0, ([] : List Int), (⟨#[]⟩ : ByteArray), false))) else (some (0, 0, ([] : List Int), (⟨#[]⟩ : ByteArray), false))) = some (r1, r2, r3, r4, r5) := by rw [if_neg (show ¬ (false = true) by decide)] at H; exact H
   clear H
   have H := H1
   clear H1
   by_cases c30 : t371 = true
   ·subst c30
    have H1 : (if t370.toList = a0.toList then (some (t349, t353, t362, t366, true)) else (some (0, 0, ([] : List Int), (⟨#[]⟩ : ByteArray), false))) = some (r1, r2, r3, r4, r5) := by rw [if_pos rfl] at H; exact H
    clear H
    have H := H1
    clear H1
    by_cases c31 : t370.toList = a0.toList
    ·rw [if_pos c31] at H
     have c31b0 : (t370.toList == a0.toList) = true := beq_iff_eq.mpr c31
     have c31b1 : (t370.toList != a0.toList) = false := bne_eq_false_iff_eq.mpr c31
     clear c31
     simp only [Option.some.injEq, Prod.mk.injEq] at H
     obtain ⟨rfl, rfl, rfl, rfl, rfl⟩ := H
     go_enter Tryz.func50, Tryz.ntmps50
     go_wp2_with (first | ((with_reducible refine gate_dst (N := 2) rfl ?_); refine box_event ?hg (N := 2) ?hd (cs := #[.int .i64 0, .int .i64 0, .slice none 0 0, .string (⟨#[]⟩ : ByteArray)]) (t := 47) ?hr ?_; (case hd => rfl); (case hg => rfl); (case hr => first | (go_simp; done) | (go_simp; rfl)); intro gb345 hg w32 hbox hb; have BK345 := mk_ (hbox); have GW345 : Aside0 (w.heap.size ≤ gb345) := bz_ hg; have GE345 : Aside0 (w.heap.size ≤ gb345) := bz_ hg; replace HB := bs_ HB hb; clear hb hbox hg) | ((with_reducible refine gate_callee (f := 90) rfl ?_); refine goesL_ (some 12) rfl rfl Tryz.func90 (by kernel_rfl) rfl #[.string a0] rfl ga_ ?_; (with_reducible refine (impl_Unsealed.calls k a0 t346 true _ A2.out).mono ?_); rintro e w33 ⟨rfl, hb⟩; refine ⟨_, rfl, ?_⟩; replace BK345 := bb_ BK345 hb; replace HB := bs_ HB hb; (try clear hb); (try clear hk); (try clear hi)) | ((with_reducible refine gate_dst (N := 20) rfl ?_); refine box_event ?hg (N := 20) ?hd (cs := #[.string t346, .int .i64 0, .bool false]) (t := 118) ?hr ?_; (case hd => rfl); (case hg => rfl); (case hr => first | (go_simp; done) | (go_simp; rfl)); intro gb348 hg w34 hbox hb; have GW348 : Aside0 (w.heap.size ≤ gb348) := bz_ hg; have GE348 : Aside0 (w.heap.size ≤ gb348) := bz_ hg; have NB345_348 : Aside0 (gb345 ≠ gb348) := bl_ BK345 hg; have NB348_345 : Aside0 (gb348 ≠ gb345) := bg_ BK345 hg; have HI348 := mk_ ((⟨hbox, (by rw [hg]; exact (below_size (bw_ HB)) : w.heap.size ≤ gb348)⟩ : IsS118 w w34 gb348 t346 0 false)); replace BK345 := bb_ BK345 hb; replace HB := bs_ HB hb; clear hb hbox hg) | ((with_reducible refine gate_callee (f := 91) rfl ?_); refine goesL_ (some 22) rfl rfl Tryz.func91 (by kernel_rfl) rfl #[.pointer (some ⟨gb348, 0, none⟩)] rfl ga_ ?_; (with_reducible refine (impl_reader_num.calls k gb348 t346 0 false t349 t350 t351 t352 w _ ?side1 ?side2 A4.out).mono ?_); (case side1 => exact IsS118.ii_ HI348); (case side2 => exact bwi_ HB (IsS118.ge HI348.out)); rintro e w35 ⟨rfl, hi, hb, hk⟩; refine ⟨_, rfl, ?_⟩; replace BK345 := mk_ (KeepBut.blk hk (g' := gb345) (o := .cells #[.int .i64 0, .int .i64 0, .slice none 0 0, .string (⟨#[]⟩ : ByteArray)] 47 (0, 0)) (bp_ BK345) NB345_348.out (by simp)); replace HB := mk_ (hb); replace HI348 := mk_ (hi); (try clear hb); (try clear hk); (try clear hi)) | ((with_reducible refine gate_callee (f := 91) rfl ?_); refine goesL_ (some 24) rfl rfl Tryz.func91 (by kernel_rfl) rfl #[.pointer (some ⟨gb348, 0, none⟩)] rfl ga_ ?_; (with_reducible refine (impl_reader_num.calls k gb348 t350 t351 t352 t353 t354 t355 t356 w _ ?side1 ?side2 A5.out).mono ?_); (case side1 => exact IsS118.ii_ HI348); (case side2 => exact bwi_ HB (IsS118.ge HI348.out)); rintro e w36 ⟨rfl, hi, hb, hk⟩; refine ⟨_, rfl, ?_⟩; replace BK345 := mk_ (KeepBut.blk hk (g' := gb345) (o := .cells #[.int .i64 0, .int .i64 0, .slice none 0 0, .string (⟨#[]⟩ : ByteArray)] 47 (0, 0)) (bp_ BK345) NB345_348.out (by simp)); replace HB := mk_ (hb); replace HI348 := mk_ (hi); (try clear hb); (try clear hk); (try clear hi)) | ((with_reducible refine gate_dst (N := 7) rfl ?_); refine box_event ?hg (N := 7) ?hd (cs := #[.int .i64 0, .int .i64 0, .slice none 0 0, .string (⟨#[]⟩ : ByteArray)]) (t := 47) ?hr ?_; (case hd => rfl); (case hg => rfl); (case hr => first | (go_simp; done) | (go_simp; rfl)); intro gb357 hg w37 hbox hb; have n0_ := bb_ BK345 hb; have n1_ := mk_ (IsS118.below (IsS118.ii_ HI348) hb); have n2_ := mk_ (below_step (bwi_ HB (IsS118.ge HI348.out)) hb); have n3_ := mk_ (hbox); have n4_ := mk_ ((by rw [hg]; exact (below_size (bwi_ HB (IsS118.ge HI348.out))) : w.heap.size ≤ gb357)); have n5_ := mk_ ((by rw [hg]; exact (below_size (bwi_ HB (IsS118.ge HI348.out))) : w.heap.size ≤ gb357)); have n6_ : Aside0 (gb345 ≠ gb357) := bl_ BK345 hg; have n7_ : Aside0 (gb357 ≠ gb345) := bg_ BK345 hg; have n8_ := mk_ ((by rw [hg]; exact Nat.ne_of_lt (IsS118.lt (show IsS118 w _ gb348 t354 t355 t356 from IsS118.ii_ HI348)) : gb348 ≠ gb357)); have n9_ := mk_ ((by rw [hg]; exact Nat.ne_of_gt (IsS118.lt (show IsS118 w _ gb348 t354 t355 t356 from IsS118.ii_ HI348)) : gb357 ≠ gb348)); clear BK345; clear HI348; clear HB; have BK345 := n0_; have HI348 := n1_; have HB := n2_; have BK357 := n3_; have GW357 := n4_; have GE357 := n5_; have NB345_357 := n6_; have NB357_345 := n7_; have NB348_357 := n8_; have NB357_348 := n9_; clear n0_ n1_ n2_ n3_ n4_ n5_ n6_ n7_ n8_ n9_; clear hb hbox hg; have hnb38 := NB357_345.out; have hnc38 := NB345_357.out; have hnb39 := NB357_348.out; have hnc39 := NB348_357.out; have hcz40_0 : w37.cell? ⟨gb357, 0, none⟩ = some (.int .i64 0) := bc_ BK357 0; have hcz40_1 : w37.cell? ⟨gb357, 1, none⟩ = some (.int .i64 0) := bc_ BK357 1; have hcz40_2 : w37.cell? ⟨gb357, 2, none⟩ = some (.slice none 0 0) := bc_ BK357 2; have hcz40_3 : w37.cell? ⟨gb357, 3, none⟩ = some (.string (⟨#[]⟩ : ByteArray)) := bc_ BK357 3; have hfz40_0 := blk_frozen BK357.out 0; have hfz40_1 := blk_frozen BK357.out 1; have hfz40_2 := blk_frozen BK357.out 2; have hfz40_3 := blk_frozen BK357.out 3) | ((with_reducible refine gate_callee (f := 93) rfl ?_); refine goesL_ (some 28) rfl rfl Tryz.func93 (by kernel_rfl) rfl #[.pointer (some ⟨gb348, 0, none⟩)] rfl ga_ ?_; (with_reducible refine (impl_reader_text.calls k gb348 t354 t355 t356 t358 t359 t360 t361 w _ ?side1 ?side2 A6.out).mono ?_); (case side1 => exact IsS118.ii_ HI348); (case side2 => exact bwi_ HB (IsS118.ge HI348.out)); rintro e w41 ⟨rfl, hi, hb, hk⟩; refine ⟨_, rfl, ?_⟩; replace BK345 := mk_ (KeepBut.blk hk (g' := gb345) (o := .cells #[.int .i64 0, .int .i64 0, .slice none 0 0, .string (⟨#[]⟩ : ByteArray)] 47 (0, 0)) bf_ NB345_348.out (by simp)); replace BK357 := mk_ (KeepBut.blk hk (g' := gb357) (o := .cells #[.int .i64 t349, .int .i64 t353, .slice none 0 0, .string (⟨#[]⟩ : ByteArray)] 47 (0, 0)) bu_ NB357_348.out (by simp)); replace HB := mk_ (hb); replace HI348 := mk_ (hi); (try clear hb); (try clear hk); (try clear hi)) | ((with_reducible refine gate_callee (f := 92) rfl ?_); refine goesL_ (some 29) rfl rfl Tryz.func92 (by kernel_rfl) rfl #[.string t358] rfl ga_ ?_; (with_reducible refine (impl_ReadConf.calls k t358 t362 t363 _ A7.out).mono ?_); rintro e w42 ⟨v364, rfl, ho0, hb⟩; refine ⟨_, rfl, ?_⟩; have n0_ := mk_ (Kd.R_lower ho0 (below_size (bwi_ HB (IsS118.ge HI348.out)))); have n1_ := bb_ BK345 hb; have n2_ := mk_ (IsS118.below (IsS118.ii_ HI348) hb); have n3_ := bb_ BK357 hb; have n4_ := mk_ (below_step (bwi_ HB (IsS118.ge HI348.out)) hb); clear BK345; clear HI348; clear BK357; clear HB; have HO365 := n0_; have BK345 := n1_; have HI348 := n2_; have BK357 := n3_; have HB := n4_; clear n0_ n1_ n2_ n3_ n4_; (try clear hb); (try clear hk); (try clear hi); (try clear ho0); obtain ⟨Ao43, co43, eo43⟩ := Kd.R_slice HO365.out; subst eo43; have hcz44_0 : w42.cell? ⟨gb357, 0, none⟩ = some (.int .i64 t349) := bc_ BK357 0; have hcz44_1 : w42.cell? ⟨gb357, 1, none⟩ = some (.int .i64 t353) := bc_ BK357 1; have hcz44_2 : w42.cell? ⟨gb357, 2, none⟩ = some (.slice none 0 0) := bc_ BK357 2; have hcz44_3 : w42.cell? ⟨gb357, 3, none⟩ = some (.string (⟨#[]⟩ : ByteArray)) := bc_ BK357 3; have hfz44_0 := blk_frozen BK357.out 0; have hfz44_1 := blk_frozen BK357.out 1; have hfz44_2 := blk_frozen BK357.out 2; have hfz44_3 := blk_frozen BK357.out 3) | ((with_reducible refine gate_callee (f := 93) rfl ?_); refine goesL_ (some 34) rfl rfl Tryz.func93 (by kernel_rfl) rfl #[.pointer (some ⟨gb348, 0, none⟩)] rfl ga_ ?_; (with_reducible refine (impl_reader_text.calls k gb348 t359 t360 t361 t366 t367 t368 false w _ ?side1 ?side2 A8.out).mono ?_); (case side1 => exact IsS118.ii_ HI348); (case side2 => exact bwi_ HB (IsS118.ge HI348.out)); rintro e w45 ⟨rfl, hi, hb, hk⟩; refine ⟨_, rfl, ?_⟩; have n0_ := mk_ (KeepBut.blk hk (g' := gb345) (o := .cells #[.int .i64 0, .int .i64 0, .slice none 0 0, .string (⟨#[]⟩ : ByteArray)] 47 (0, 0)) bf_ NB345_348.out (by simp)); have n1_ := mk_ (KeepBut.blk hk (g' := gb357) (o := .cells #[.int .i64 t349, .int .i64 t353, .slice Ao43 t362.length co43, .string (⟨#[]⟩ : ByteArray)] 47 (0, 0)) bu_ NB357_348.out (by simp)); have n2_ := mk_ (Kd.R_mono (Kd.R_keep (IsS118.apart (show IsS118 w _ gb348 t359 t360 t361 from IsS118.ii_ HI348) (by (with_reducible repeat (first | apply Kd.R_alloc | apply Kd.R_drewN | apply Kd.R_drew)); exact (Kd.R_mono (Kd.R_far (p := ⟨gb357, 2, none⟩) (Kd.R_types HO365.out BK357.out (by decide)) (fun _ hk => hk.2) (.slice Ao43 t362.length co43)) (fun _ h_ => h_.1))) (by decide)) hk (fun _ h => h.2)) (fun _ h => h.1)); have n3_ := mk_ (hb); have n4_ := mk_ (hi); clear BK345; clear BK357; clear HO365; clear HB; clear HI348; have BK345 := n0_; have BK357 := n1_; have HO365 := n2_; have HB := n3_; have HI348 := n4_; clear n0_ n1_ n2_ n3_ n4_; (try clear hb); (try clear hk); (try clear hi); have hcz46_0 : w45.cell? ⟨gb357, 0, none⟩ = some (.int .i64 t349) := bc_ BK357 0; have hcz46_1 : w45.cell? ⟨gb357, 1, none⟩ = some (.int .i64 t353) := bc_ BK357 1; have hcz46_2 : w45.cell? ⟨gb357, 2, none⟩ = some (.slice Ao43 t362.length co43) := bc_ BK357 2; have hcz46_3 : w45.cell? ⟨gb357, 3, none⟩ = some (.string (⟨#[]⟩ : ByteArray)) := bc_ BK357 3; have hfz46_0 := blk_frozen BK357.out 0; have hfz46_1 := blk_frozen BK357.out 1; have hfz46_2 := blk_frozen BK357.out 2; have hfz46_3 := blk_frozen BK357.out 3) | ((with_reducible refine gate_callee (f := 94) rfl ?_); refine goesL_ (some 38) rfl rfl Tryz.func94 (by kernel_rfl) rfl #[.agg #[.int .i64 t349, .int .i64 t353, .slice Ao43 t362.length co43, .string t366]] rfl ga_ ?_; (with_reducible refine (impl_SnapText.calls k t349 t353 _ _ t362 t366 t370 true _ ?side1 ?side2 A9.out).mono ?_); (case side1 => refine (Kd.R_reads' (e := 3) (base := w.heap.size) (ok := fun k_ => True) (n := t362.length) (c := co43) ?_).2.2; exact (by (with_reducible repeat (first | apply Kd.R_alloc | apply Kd.R_drewN | apply Kd.R_drew)); exact (Kd.R_mono (Kd.R_far (p := ⟨gb357, 3, none⟩) (Kd.R_types HO365.out BK357.out (by decide)) (fun _ hk => hk.2) (.string t366)) (fun _ h_ => h_.1)))); (case side2 => exact (Kd.R_reads' HO365.out).2.1); rintro e w47 ⟨rfl, hb⟩; refine ⟨_, rfl, ?_⟩; have n0_ := mk_ (Kd.R_below (by (with_reducible repeat (first | apply Kd.R_alloc | apply Kd.R_drewN | apply Kd.R_drew)); exact (Kd.R_mono (Kd.R_far (p := ⟨gb357, 3, none⟩) (Kd.R_types HO365.out BK357.out (by decide)) (fun _ hk => hk.2) (.string t366)) (fun _ h_ => h_.1))) hb); have n1_ := mk_ (blk_below (g := gb345) (o := .cells #[.int .i64 0, .int .i64 0, .slice none 0 0, .string (⟨#[]⟩ : ByteArray)] 47 (0, 0)) bf_ hb); have n2_ := mk_ (IsS118.below (show IsS118 w (w45.setCell ⟨gb357, 3, none⟩ (.string t366)) gb348 t367 t368 false from IsS118.ii_ HI348) hb); have n3_ := mk_ (blk_below (g := gb357) (o := .cells #[.int .i64 t349, .int .i64 t353, .slice Ao43 t362.length co43, .string t366] 47 (0, 0)) bu_ hb); have n4_ := mk_ (below_step (bwi_ HB (IsS118.ge HI348.out)) hb); clear HO365; clear BK345; clear HI348; clear BK357; clear HB; have HO365 := n0_; have BK345 := n1_; have HI348 := n2_; have BK357 := n3_; have HB := n4_; clear n0_ n1_ n2_ n3_ n4_; (try clear hb); (try clear hk); (try clear hi); obtain ⟨HGz48, hgz48⟩ := HI348.out; have hcz48_0 := cellS118_0 HGz48; have hcz48_1 := cellS118_1 HGz48; have hcz48_2 := cellS118_2 HGz48; have hfz48_0 := blk_frozen HGz48 0; have hfz48_1 := blk_frozen HGz48 1; have hfz48_2 := blk_frozen HGz48 2; clear HGz48 hgz48; have hcz49_0 : w47.cell? ⟨gb357, 0, none⟩ = some (.int .i64 t349) := bc_ BK357 0; have hcz49_1 : w47.cell? ⟨gb357, 1, none⟩ = some (.int .i64 t353) := bc_ BK357 1; have hcz49_2 : w47.cell? ⟨gb357, 2, none⟩ = some (.slice Ao43 t362.length co43) := bc_ BK357 2; have hcz49_3 : w47.cell? ⟨gb357, 3, none⟩ = some (.string t366) := bc_ BK357 3; have hfz49_0 := blk_frozen BK357.out 0; have hfz49_1 := blk_frozen BK357.out 1; have hfz49_2 := blk_frozen BK357.out 2; have hfz49_3 := blk_frozen BK357.out 3; have hnb50 := NB345_348.out; have hnc50 := NB348_345.out; have hcz51_0 : w47.cell? ⟨gb345, 0, none⟩ = some (.int .i64 0) := bc_ BK345 0; have hcz51_1 : w47.cell? ⟨gb345, 1, none⟩ = some (.int .i64 0) := bc_ BK345 1; have hcz51_2 : w47.cell? ⟨gb345, 2, none⟩ = some (.slice none 0 0) := bc_ BK345 2; have hcz51_3 : w47.cell? ⟨gb345, 3, none⟩ = some (.string (⟨#[]⟩ : ByteArray)) := bc_ BK345 3; have hfz51_0 := blk_frozen BK345.out 0; have hfz51_1 := blk_frozen BK345.out 1; have hfz51_2 := blk_frozen BK345.out 2; have hfz51_3 := blk_frozen BK345.out 3))
     refine bodyPost_ret (results_ct rfl _ _ gb345 47 #[.int .i64 t349, .int .i64 t353, .slice Ao43 t362.length co43, .string t366] (0, 0) _ rfl bu_ Tryz.underlying47 rfl (by kernel_rfl)) rfl ?_
     exact ⟨_, er_, by (with_reducible repeat (first | apply Kd.R_alloc | apply Kd.R_drewN | apply Kd.R_drew)); exact Kd.R_mono (Kd.R_far (p := ⟨gb345, 3, none⟩) (Kd.R_far (p := ⟨gb345, 2, none⟩) (Kd.R_far (p := ⟨gb345, 1, none⟩) (Kd.R_far (p := ⟨gb345, 0, none⟩) (Kd.R_types HO365.out BK345.out (by decide)) (fun _ hk => hk.2) (.int .i64 t349)) (fun _ hk => hk.2) (.int .i64 t353)) (fun _ hk => hk.2) (.slice Ao43 t362.length co43)) (fun _ hk => hk.2) (.string t366)) (fun _ hk => trivial), bwi_ HB (IsS118.ge HI348.out)⟩
    ·rw [if_neg c31] at H
     have c31b0 : (t370.toList == a0.toList) = false := beq_eq_false_iff_ne.mpr c31
     have c31b1 : (t370.toList != a0.toList) = true := bne_iff_ne.mpr c31
     simp only [Option.some.injEq, Prod.mk.injEq] at H
     obtain ⟨rfl, rfl, rfl, rfl, rfl⟩ := H
     go_enter Tryz.func50, Tryz.ntmps50
     go_wp2_with (first | ((with_reducible refine gate_dst (N := 2) rfl ?_); refine box_event ?hg (N := 2) ?hd (cs := #[.int .i64 0, .int .i64 0, .slice none 0 0, .string (⟨#[]⟩ : ByteArray)]) (t := 47) ?hr ?_; (case hd => rfl); (case hg => rfl); (case hr => first | (go_simp; done) | (go_simp; rfl)); intro gb345 hg w52 hbox hb; have BK345 := mk_ (hbox); have GW345 : Aside0 (w.heap.size ≤ gb345) := bz_ hg; have GE345 : Aside0 (w.heap.size ≤ gb345) := bz_ hg; replace HB := bs_ HB hb; clear hb hbox hg) | ((with_reducible refine gate_callee (f := 90) rfl ?_); refine goesL_ (some 12) rfl rfl Tryz.func90 (by kernel_rfl) rfl #[.string a0] rfl ga_ ?_; (with_reducible refine (impl_Unsealed.calls k a0 t346 true _ A2.out).mono ?_); rintro e w53 ⟨rfl, hb⟩; refine ⟨_, rfl, ?_⟩; replace BK345 := bb_ BK345 hb; replace HB := bs_ HB hb; (try clear hb); (try clear hk); (try clear hi)) | ((with_reducible refine gate_dst (N := 20) rfl ?_); refine box_event ?hg (N := 20) ?hd (cs := #[.string t346, .int .i64 0, .bool false]) (t := 118) ?hr ?_; (case hd => rfl); (case hg => rfl); (case hr => first | (go_simp; done) | (go_simp; rfl)); intro gb348 hg w54 hbox hb; have GW348 : Aside0 (w.heap.size ≤ gb348) := bz_ hg; have GE348 : Aside0 (w.heap.size ≤ gb348) := bz_ hg; have NB345_348 : Aside0 (gb345 ≠ gb348) := bl_ BK345 hg; have NB348_345 : Aside0 (gb348 ≠ gb345) := bg_ BK345 hg; have HI348 := mk_ ((⟨hbox, (by rw [hg]; exact (below_size (bw_ HB)) : w.heap.size ≤ gb348)⟩ : IsS118 w w54 gb348 t346 0 false)); replace BK345 := bb_ BK345 hb; replace HB := bs_ HB hb; clear hb hbox hg) | ((with_reducible refine gate_callee (f := 91) rfl ?_); refine goesL_ (some 22) rfl rfl Tryz.func91 (by kernel_rfl) rfl #[.pointer (some ⟨gb348, 0, none⟩)] rfl ga_ ?_; (with_reducible refine (impl_reader_num.calls k gb348 t346 0 false t349 t350 t351 t352 w _ ?side1 ?side2 A4.out).mono ?_); (case side1 => exact IsS118.ii_ HI348); (case side2 => exact bwi_ HB (IsS118.ge HI348.out)); rintro e w55 ⟨rfl, hi, hb, hk⟩; refine ⟨_, rfl, ?_⟩; replace BK345 := mk_ (KeepBut.blk hk (g' := gb345) (o := .cells #[.int .i64 0, .int .i64 0, .slice none 0 0, .string (⟨#[]⟩ : ByteArray)] 47 (0, 0)) (bp_ BK345) NB345_348.out (by simp)); replace HB := mk_ (hb); replace HI348 := mk_ (hi); (try clear hb); (try clear hk); (try clear hi)) | ((with_reducible refine gate_callee (f := 91) rfl ?_); refine goesL_ (some 24) rfl rfl Tryz.func91 (by kernel_rfl) rfl #[.pointer (some ⟨gb348, 0, none⟩)] rfl ga_ ?_; (with_reducible refine (impl_reader_num.calls k gb348 t350 t351 t352 t353 t354 t355 t356 w _ ?side1 ?side2 A5.out).mono ?_); (case side1 => exact IsS118.ii_ HI348); (case side2 => exact bwi_ HB (IsS118.ge HI348.out)); rintro e w56 ⟨rfl, hi, hb, hk⟩; refine ⟨_, rfl, ?_⟩; replace BK345 := mk_ (KeepBut.blk hk (g' := gb345) (o := .cells #[.int .i64 0, .int .i64 0, .slice none 0 0, .string (⟨#[]⟩ : ByteArray)] 47 (0, 0)) (bp_ BK345) NB345_348.out (by simp)); replace HB := mk_ (hb); replace HI348 := mk_ (hi); (try clear hb); (try clear hk); (try clear hi)) | ((with_reducible refine gate_dst (N := 7) rfl ?_); refine box_event ?hg (N := 7) ?hd (cs := #[.int .i64 0, .int .i64 0, .slice none 0 0, .string (⟨#[]⟩ : ByteArray)]) (t := 47) ?hr ?_; (case hd => rfl); (case hg => rfl); (case hr => first | (go_simp; done) | (go_simp; rfl)); intro gb357 hg w57 hbox hb; have n0_ := bb_ BK345 hb; have n1_ := mk_ (IsS118.below (IsS118.ii_ HI348) hb); have n2_ := mk_ (below_step (bwi_ HB (IsS118.ge HI348.out)) hb); have n3_ := mk_ (hbox); have n4_ := mk_ ((by rw [hg]; exact (below_size (bwi_ HB (IsS118.ge HI348.out))) : w.heap.size ≤ gb357)); have n5_ := mk_ ((by rw [hg]; exact (below_size (bwi_ HB (IsS118.ge HI348.out))) : w.heap.size ≤ gb357)); have n6_ : Aside0 (gb345 ≠ gb357) := bl_ BK345 hg; have n7_ : Aside0 (gb357 ≠ gb345) := bg_ BK345 hg; have n8_ := mk_ ((by rw [hg]; exact Nat.ne_of_lt (IsS118.lt (show IsS118 w _ gb348 t354 t355 t356 from IsS118.ii_ HI348)) : gb348 ≠ gb357)); have n9_ := mk_ ((by rw [hg]; exact Nat.ne_of_gt (IsS118.lt (show IsS118 w _ gb348 t354 t355 t356 from IsS118.ii_ HI348)) : gb357 ≠ gb348)); clear BK345; clear HI348; clear HB; have BK345 := n0_; have HI348 := n1_; have HB := n2_; have BK357 := n3_; have GW357 := n4_; have GE357 := n5_; have NB345_357 := n6_; have NB357_345 := n7_; have NB348_357 := n8_; have NB357_348 := n9_; clear n0_ n1_ n2_ n3_ n4_ n5_ n6_ n7_ n8_ n9_; clear hb hbox hg; have hnb58 := NB357_345.out; have hnc58 := NB345_357.out; have hnb59 := NB357_348.out; have hnc59 := NB348_357.out; have hcz60_0 : w57.cell? ⟨gb357, 0, none⟩ = some (.int .i64 0) := bc_ BK357 0; have hcz60_1 : w57.cell? ⟨gb357, 1, none⟩ = some (.int .i64 0) := bc_ BK357 1; have hcz60_2 : w57.cell? ⟨gb357, 2, none⟩ = some (.slice none 0 0) := bc_ BK357 2; have hcz60_3 : w57.cell? ⟨gb357, 3, none⟩ = some (.string (⟨#[]⟩ : ByteArray)) := bc_ BK357 3; have hfz60_0 := blk_frozen BK357.out 0; have hfz60_1 := blk_frozen BK357.out 1; have hfz60_2 := blk_frozen BK357.out 2; have hfz60_3 := blk_frozen BK357.out 3) | ((with_reducible refine gate_callee (f := 93) rfl ?_); refine goesL_ (some 28) rfl rfl Tryz.func93 (by kernel_rfl) rfl #[.pointer (some ⟨gb348, 0, none⟩)] rfl ga_ ?_; (with_reducible refine (impl_reader_text.calls k gb348 t354 t355 t356 t358 t359 t360 t361 w _ ?side1 ?side2 A6.out).mono ?_); (case side1 => exact IsS118.ii_ HI348); (case side2 => exact bwi_ HB (IsS118.ge HI348.out)); rintro e w61 ⟨rfl, hi, hb, hk⟩; refine ⟨_, rfl, ?_⟩; replace BK345 := mk_ (KeepBut.blk hk (g' := gb345) (o := .cells #[.int .i64 0, .int .i64 0, .slice none 0 0, .string (⟨#[]⟩ : ByteArray)] 47 (0, 0)) bf_ NB345_348.out (by simp)); replace BK357 := mk_ (KeepBut.blk hk (g' := gb357) (o := .cells #[.int .i64 t349, .int .i64 t353, .slice none 0 0, .string (⟨#[]⟩ : ByteArray)] 47 (0, 0)) bu_ NB357_348.out (by simp)); replace HB := mk_ (hb); replace HI348 := mk_ (hi); (try clear hb); (try clear hk); (try clear hi)) | ((with_reducible refine gate_callee (f := 92) rfl ?_); refine goesL_ (some 29) rfl rfl Tryz.func92 (by kernel_rfl) rfl #[.string t358] rfl ga_ ?_; (with_reducible refine (impl_ReadConf.calls k t358 t362 t363 _ A7.out).mono ?_); rintro e w62 ⟨v364, rfl, ho0, hb⟩; refine ⟨_, rfl, ?_⟩; have n0_ := mk_ (Kd.R_lower ho0 (below_size (bwi_ HB (IsS118.ge HI348.out)))); have n1_ := bb_ BK345 hb; have n2_ := mk_ (IsS118.below (IsS118.ii_ HI348) hb); have n3_ := bb_ BK357 hb; have n4_ := mk_ (below_step (bwi_ HB (IsS118.ge HI348.out)) hb); clear BK345; clear HI348; clear BK357; clear HB; have HO365 := n0_; have BK345 := n1_; have HI348 := n2_; have BK357 := n3_; have HB := n4_; clear n0_ n1_ n2_ n3_ n4_; (try clear hb); (try clear hk); (try clear hi); (try clear ho0); obtain ⟨Ao63, co63, eo63⟩ := Kd.R_slice HO365.out; subst eo63; have hcz64_0 : w62.cell? ⟨gb357, 0, none⟩ = some (.int .i64 t349) := bc_ BK357 0; have hcz64_1 : w62.cell? ⟨gb357, 1, none⟩ = some (.int .i64 t353) := bc_ BK357 1; have hcz64_2 : w62.cell? ⟨gb357, 2, none⟩ = some (.slice none 0 0) := bc_ BK357 2; have hcz64_3 : w62.cell? ⟨gb357, 3, none⟩ = some (.string (⟨#[]⟩ : ByteArray)) := bc_ BK357 3; have hfz64_0 := blk_frozen BK357.out 0; have hfz64_1 := blk_frozen BK357.out 1; have hfz64_2 := blk_frozen BK357.out 2; have hfz64_3 := blk_frozen BK357.out 3) | ((with_reducible refine gate_callee (f := 93) rfl ?_); refine goesL_ (some 34) rfl rfl Tryz.func93 (by kernel_rfl) rfl #[.pointer (some ⟨gb348, 0, none⟩)] rfl ga_ ?_; (with_reducible refine (impl_reader_text.calls k gb348 t359 t360 t361 t366 t367 t368 false w _ ?side1 ?side2 A8.out).mono ?_); (case side1 => exact IsS118.ii_ HI348); (case side2 => exact bwi_ HB (IsS118.ge HI348.out)); rintro e w65 ⟨rfl, hi, hb, hk⟩; refine ⟨_, rfl, ?_⟩; have n0_ := mk_ (KeepBut.blk hk (g' := gb345) (o := .cells #[.int .i64 0, .int .i64 0, .slice none 0 0, .string (⟨#[]⟩ : ByteArray)] 47 (0, 0)) bf_ NB345_348.out (by simp)); have n1_ := mk_ (KeepBut.blk hk (g' := gb357) (o := .cells #[.int .i64 t349, .int .i64 t353, .slice Ao63 t362.length co63, .string (⟨#[]⟩ : ByteArray)] 47 (0, 0)) bu_ NB357_348.out (by simp)); have n2_ := mk_ (Kd.R_mono (Kd.R_keep (IsS118.apart (show IsS118 w _ gb348 t359 t360 t361 from IsS118.ii_ HI348) (by (with_reducible repeat (first | apply Kd.R_alloc | apply Kd.R_drewN | apply Kd.R_drew)); exact (Kd.R_mono (Kd.R_far (p := ⟨gb357, 2, none⟩) (Kd.R_types HO365.out BK357.out (by decide)) (fun _ hk => hk.2) (.slice Ao63 t362.length co63)) (fun _ h_ => h_.1))) (by decide)) hk (fun _ h => h.2)) (fun _ h => h.1)); have n3_ := mk_ (hb); have n4_ := mk_ (hi); clear BK345; clear BK357; clear HO365; clear HB; clear HI348; have BK345 := n0_; have BK357 := n1_; have HO365 := n2_; have HB := n3_; have HI348 := n4_; clear n0_ n1_ n2_ n3_ n4_; (try clear hb); (try clear hk); (try clear hi); have hcz66_0 : w65.cell? ⟨gb357, 0, none⟩ = some (.int .i64 t349) := bc_ BK357 0; have hcz66_1 : w65.cell? ⟨gb357, 1, none⟩ = some (.int .i64 t353) := bc_ BK357 1; have hcz66_2 : w65.cell? ⟨gb357, 2, none⟩ = some (.slice Ao63 t362.length co63) := bc_ BK357 2; have hcz66_3 : w65.cell? ⟨gb357, 3, none⟩ = some (.string (⟨#[]⟩ : ByteArray)) := bc_ BK357 3; have hfz66_0 := blk_frozen BK357.out 0; have hfz66_1 := blk_frozen BK357.out 1; have hfz66_2 := blk_frozen BK357.out 2; have hfz66_3 := blk_frozen BK357.out 3) | ((with_reducible refine gate_callee (f := 94) rfl ?_); refine goesL_ (some 38) rfl rfl Tryz.func94 (by kernel_rfl) rfl #[.agg #[.int .i64 t349, .int .i64 t353, .slice Ao63 t362.length co63, .string t366]] rfl ga_ ?_; (with_reducible refine (impl_SnapText.calls k t349 t353 _ _ t362 t366 t370 true _ ?side1 ?side2 A9.out).mono ?_); (case side1 => refine (Kd.R_reads' (e := 3) (base := w.heap.size) (ok := fun k_ => True) (n := t362.length) (c := co63) ?_).2.2; exact (by (with_reducible repeat (first | apply Kd.R_alloc | apply Kd.R_drewN | apply Kd.R_drew)); exact (Kd.R_mono (Kd.R_far (p := ⟨gb357, 3, none⟩) (Kd.R_types HO365.out BK357.out (by decide)) (fun _ hk => hk.2) (.string t366)) (fun _ h_ => h_.1)))); (case side2 => exact (Kd.R_reads' HO365.out).2.1); rintro e w67 ⟨rfl, hb⟩; refine ⟨_, rfl, ?_⟩; have n0_ := mk_ (Kd.R_below (by (with_reducible repeat (first | apply Kd.R_alloc | apply Kd.R_drewN | apply Kd.R_drew)); exact (Kd.R_mono (Kd.R_far (p := ⟨gb357, 3, none⟩) (Kd.R_types HO365.out BK357.out (by decide)) (fun _ hk => hk.2) (.string t366)) (fun _ h_ => h_.1))) hb); have n1_ := mk_ (blk_below (g := gb345) (o := .cells #[.int .i64 0, .int .i64 0, .slice none 0 0, .string (⟨#[]⟩ : ByteArray)] 47 (0, 0)) bf_ hb); have n2_ := mk_ (IsS118.below (show IsS118 w (w65.setCell ⟨gb357, 3, none⟩ (.string t366)) gb348 t367 t368 false from IsS118.ii_ HI348) hb); have n3_ := mk_ (blk_below (g := gb357) (o := .cells #[.int .i64 t349, .int .i64 t353, .slice Ao63 t362.length co63, .string t366] 47 (0, 0)) bu_ hb); have n4_ := mk_ (below_step (bwi_ HB (IsS118.ge HI348.out)) hb); clear HO365; clear BK345; clear HI348; clear BK357; clear HB; have HO365 := n0_; have BK345 := n1_; have HI348 := n2_; have BK357 := n3_; have HB := n4_; clear n0_ n1_ n2_ n3_ n4_; (try clear hb); (try clear hk); (try clear hi); obtain ⟨HGz68, hgz68⟩ := HI348.out; have hcz68_0 := cellS118_0 HGz68; have hcz68_1 := cellS118_1 HGz68; have hcz68_2 := cellS118_2 HGz68; have hfz68_0 := blk_frozen HGz68 0; have hfz68_1 := blk_frozen HGz68 1; have hfz68_2 := blk_frozen HGz68 2; clear HGz68 hgz68; have hnb69 := NB345_348.out; have hnc69 := NB348_345.out; have hcz70_0 : w67.cell? ⟨gb345, 0, none⟩ = some (.int .i64 0) := bc_ BK345 0; have hcz70_1 : w67.cell? ⟨gb345, 1, none⟩ = some (.int .i64 0) := bc_ BK345 1; have hcz70_2 : w67.cell? ⟨gb345, 2, none⟩ = some (.slice none 0 0) := bc_ BK345 2; have hcz70_3 : w67.cell? ⟨gb345, 3, none⟩ = some (.string (⟨#[]⟩ : ByteArray)) := bc_ BK345 3; have hfz70_0 := blk_frozen BK345.out 0; have hfz70_1 := blk_frozen BK345.out 1; have hfz70_2 := blk_frozen BK345.out 2; have hfz70_3 := blk_frozen BK345.out 3))
     refine bodyPost_ret (results_ct rfl _ _ gb345 47 #[.int .i64 0, .int .i64 0, .slice none 0 0, .string (⟨#[]⟩ : ByteArray)] (0, 0) _ rfl bu_ Tryz.underlying47 rfl (by kernel_rfl)) rfl ?_
     exact ⟨_, er_, by first | exact Kd.R_nil _ _ _ _ _ | exact Kd.N_nil _ _ _ _ _ | exact Kd.V_nil _ _ _ _ _ | exact Kd.Q_nil _ _ _ _ _ | exact Kd.S_nil _ _ _ _ _, bwi_ HB (IsS118.ge HI348.out)⟩
   ·replace c30 := Bool.eq_false_iff.mpr c30
    subst c30
    have H1 : (some (0, 0, ([] : List Int), (⟨#[]⟩ : ByteArray), false)) = some (r1, r2, r3, r4, r5) := by rw [if_neg (show ¬ (false = true) by decide)] at H; exact H
    clear H
    have H := H1
    clear H1
    simp only [Option.some.injEq, Prod.mk.injEq] at H
    obtain ⟨rfl, rfl, rfl, rfl, rfl⟩ := H
    go_enter Tryz.func50, Tryz.ntmps50
    go_wp2_with (first | ((with_reducible refine gate_dst (N := 2) rfl ?_); refine box_event ?hg (N := 2) ?hd (cs := #[.int .i64 0, .int .i64 0, .slice none 0 0, .string (⟨#[]⟩ : ByteArray)]) (t := 47) ?hr ?_; (case hd => rfl); (case hg => rfl); (case hr => first | (go_simp; done) | (go_simp; rfl)); intro gb345 hg w71 hbox hb; have BK345 := mk_ (hbox); have GW345 : Aside0 (w.heap.size ≤ gb345) := bz_ hg; have GE345 : Aside0 (w.heap.size ≤ gb345) := bz_ hg; replace HB := bs_ HB hb; clear hb hbox hg) | ((with_reducible refine gate_callee (f := 90) rfl ?_); refine goesL_ (some 12) rfl rfl Tryz.func90 (by kernel_rfl) rfl #[.string a0] rfl ga_ ?_; (with_reducible refine (impl_Unsealed.calls k a0 t346 true _ A2.out).mono ?_); rintro e w72 ⟨rfl, hb⟩; refine ⟨_, rfl, ?_⟩; replace BK345 := bb_ BK345 hb; replace HB := bs_ HB hb; (try clear hb); (try clear hk); (try clear hi)) | ((with_reducible refine gate_dst (N := 20) rfl ?_); refine box_event ?hg (N := 20) ?hd (cs := #[.string t346, .int .i64 0, .bool false]) (t := 118) ?hr ?_; (case hd => rfl); (case hg => rfl); (case hr => first | (go_simp; done) | (go_simp; rfl)); intro gb348 hg w73 hbox hb; have GW348 : Aside0 (w.heap.size ≤ gb348) := bz_ hg; have GE348 : Aside0 (w.heap.size ≤ gb348) := bz_ hg; have NB345_348 : Aside0 (gb345 ≠ gb348) := bl_ BK345 hg; have NB348_345 : Aside0 (gb348 ≠ gb345) := bg_ BK345 hg; have HI348 := mk_ ((⟨hbox, (by rw [hg]; exact (below_size (bw_ HB)) : w.heap.size ≤ gb348)⟩ : IsS118 w w73 gb348 t346 0 false)); replace BK345 := bb_ BK345 hb; replace HB := bs_ HB hb; clear hb hbox hg) | ((with_reducible refine gate_callee (f := 91) rfl ?_); refine goesL_ (some 22) rfl rfl Tryz.func91 (by kernel_rfl) rfl #[.pointer (some ⟨gb348, 0, none⟩)] rfl ga_ ?_; (with_reducible refine (impl_reader_num.calls k gb348 t346 0 false t349 t350 t351 t352 w _ ?side1 ?side2 A4.out).mono ?_); (case side1 => exact IsS118.ii_ HI348); (case side2 => exact bwi_ HB (IsS118.ge HI348.out)); rintro e w74 ⟨rfl, hi, hb, hk⟩; refine ⟨_, rfl, ?_⟩; replace BK345 := mk_ (KeepBut.blk hk (g' := gb345) (o := .cells #[.int .i64 0, .int .i64 0, .slice none 0 0, .string (⟨#[]⟩ : ByteArray)] 47 (0, 0)) (bp_ BK345) NB345_348.out (by simp)); replace HB := mk_ (hb); replace HI348 := mk_ (hi); (try clear hb); (try clear hk); (try clear hi)) | ((with_reducible refine gate_callee (f := 91) rfl ?_); refine goesL_ (some 24) rfl rfl Tryz.func91 (by kernel_rfl) rfl #[.pointer (some ⟨gb348, 0, none⟩)] rfl ga_ ?_; (with_reducible refine (impl_reader_num.calls k gb348 t350 t351 t352 t353 t354 t355 t356 w _ ?side1 ?side2 A5.out).mono ?_); (case side1 => exact IsS118.ii_ HI348); (case side2 => exact bwi_ HB (IsS118.ge HI348.out)); rintro e w75 ⟨rfl, hi, hb, hk⟩; refine ⟨_, rfl, ?_⟩; replace BK345 := mk_ (KeepBut.blk hk (g' := gb345) (o := .cells #[.int .i64 0, .int .i64 0, .slice none 0 0, .string (⟨#[]⟩ : ByteArray)] 47 (0, 0)) (bp_ BK345) NB345_348.out (by simp)); replace HB := mk_ (hb); replace HI348 := mk_ (hi); (try clear hb); (try clear hk); (try clear hi)) | ((with_reducible refine gate_dst (N := 7) rfl ?_); refine box_event ?hg (N := 7) ?hd (cs := #[.int .i64 0, .int .i64 0, .slice none 0 0, .string (⟨#[]⟩ : ByteArray)]) (t := 47) ?hr ?_; (case hd => rfl); (case hg => rfl); (case hr => first | (go_simp; done) | (go_simp; rfl)); intro gb357 hg w76 hbox hb; have n0_ := bb_ BK345 hb; have n1_ := mk_ (IsS118.below (IsS118.ii_ HI348) hb); have n2_ := mk_ (below_step (bwi_ HB (IsS118.ge HI348.out)) hb); have n3_ := mk_ (hbox); have n4_ := mk_ ((by rw [hg]; exact (below_size (bwi_ HB (IsS118.ge HI348.out))) : w.heap.size ≤ gb357)); have n5_ := mk_ ((by rw [hg]; exact (below_size (bwi_ HB (IsS118.ge HI348.out))) : w.heap.size ≤ gb357)); have n6_ : Aside0 (gb345 ≠ gb357) := bl_ BK345 hg; have n7_ : Aside0 (gb357 ≠ gb345) := bg_ BK345 hg; have n8_ := mk_ ((by rw [hg]; exact Nat.ne_of_lt (IsS118.lt (show IsS118 w _ gb348 t354 t355 t356 from IsS118.ii_ HI348)) : gb348 ≠ gb357)); have n9_ := mk_ ((by rw [hg]; exact Nat.ne_of_gt (IsS118.lt (show IsS118 w _ gb348 t354 t355 t356 from IsS118.ii_ HI348)) : gb357 ≠ gb348)); clear BK345; clear HI348; clear HB; have BK345 := n0_; have HI348 := n1_; have HB := n2_; have BK357 := n3_; have GW357 := n4_; have GE357 := n5_; have NB345_357 := n6_; have NB357_345 := n7_; have NB348_357 := n8_; have NB357_348 := n9_; clear n0_ n1_ n2_ n3_ n4_ n5_ n6_ n7_ n8_ n9_; clear hb hbox hg; have hnb77 := NB357_345.out; have hnc77 := NB345_357.out; have hnb78 := NB357_348.out; have hnc78 := NB348_357.out; have hcz79_0 : w76.cell? ⟨gb357, 0, none⟩ = some (.int .i64 0) := bc_ BK357 0; have hcz79_1 : w76.cell? ⟨gb357, 1, none⟩ = some (.int .i64 0) := bc_ BK357 1; have hcz79_2 : w76.cell? ⟨gb357, 2, none⟩ = some (.slice none 0 0) := bc_ BK357 2; have hcz79_3 : w76.cell? ⟨gb357, 3, none⟩ = some (.string (⟨#[]⟩ : ByteArray)) := bc_ BK357 3; have hfz79_0 := blk_frozen BK357.out 0; have hfz79_1 := blk_frozen BK357.out 1; have hfz79_2 := blk_frozen BK357.out 2; have hfz79_3 := blk_frozen BK357.out 3) | ((with_reducible refine gate_callee (f := 93) rfl ?_); refine goesL_ (some 28) rfl rfl Tryz.func93 (by kernel_rfl) rfl #[.pointer (some ⟨gb348, 0, none⟩)] rfl ga_ ?_; (with_reducible refine (impl_reader_text.calls k gb348 t354 t355 t356 t358 t359 t360 t361 w _ ?side1 ?side2 A6.out).mono ?_); (case side1 => exact IsS118.ii_ HI348); (case side2 => exact bwi_ HB (IsS118.ge HI348.out)); rintro e w80 ⟨rfl, hi, hb, hk⟩; refine ⟨_, rfl, ?_⟩; replace BK345 := mk_ (KeepBut.blk hk (g' := gb345) (o := .cells #[.int .i64 0, .int .i64 0, .slice none 0 0, .string (⟨#[]⟩ : ByteArray)] 47 (0, 0)) bf_ NB345_348.out (by simp)); replace BK357 := mk_ (KeepBut.blk hk (g' := gb357) (o := .cells #[.int .i64 t349, .int .i64 t353, .slice none 0 0, .string (⟨#[]⟩ : ByteArray)] 47 (0, 0)) bu_ NB357_348.out (by simp)); replace HB := mk_ (hb); replace HI348 := mk_ (hi); (try clear hb); (try clear hk); (try clear hi)) | ((with_reducible refine gate_callee (f := 92) rfl ?_); refine goesL_ (some 29) rfl rfl Tryz.func92 (by kernel_rfl) rfl #[.string t358] rfl ga_ ?_; (with_reducible refine (impl_ReadConf.calls k t358 t362 t363 _ A7.out).mono ?_); rintro e w81 ⟨v364, rfl, ho0, hb⟩; refine ⟨_, rfl, ?_⟩; have n0_ := mk_ (Kd.R_lower ho0 (below_size (bwi_ HB (IsS118.ge HI348.out)))); have n1_ := bb_ BK345 hb; have n2_ := mk_ (IsS118.below (IsS118.ii_ HI348) hb); have n3_ := bb_ BK357 hb; have n4_ := mk_ (below_step (bwi_ HB (IsS118.ge HI348.out)) hb); clear BK345; clear HI348; clear BK357; clear HB; have HO365 := n0_; have BK345 := n1_; have HI348 := n2_; have BK357 := n3_; have HB := n4_; clear n0_ n1_ n2_ n3_ n4_; (try clear hb); (try clear hk); (try clear hi); (try clear ho0); obtain ⟨Ao82, co82, eo82⟩ := Kd.R_slice HO365.out; subst eo82; have hcz83_0 : w81.cell? ⟨gb357, 0, none⟩ = some (.int .i64 t349) := bc_ BK357 0; have hcz83_1 : w81.cell? ⟨gb357, 1, none⟩ = some (.int .i64 t353) := bc_ BK357 1; have hcz83_2 : w81.cell? ⟨gb357, 2, none⟩ = some (.slice none 0 0) := bc_ BK357 2; have hcz83_3 : w81.cell? ⟨gb357, 3, none⟩ = some (.string (⟨#[]⟩ : ByteArray)) := bc_ BK357 3; have hfz83_0 := blk_frozen BK357.out 0; have hfz83_1 := blk_frozen BK357.out 1; have hfz83_2 := blk_frozen BK357.out 2; have hfz83_3 := blk_frozen BK357.out 3) | ((with_reducible refine gate_callee (f := 93) rfl ?_); refine goesL_ (some 34) rfl rfl Tryz.func93 (by kernel_rfl) rfl #[.pointer (some ⟨gb348, 0, none⟩)] rfl ga_ ?_; (with_reducible refine (impl_reader_text.calls k gb348 t359 t360 t361 t366 t367 t368 false w _ ?side1 ?side2 A8.out).mono ?_); (case side1 => exact IsS118.ii_ HI348); (case side2 => exact bwi_ HB (IsS118.ge HI348.out)); rintro e w84 ⟨rfl, hi, hb, hk⟩; refine ⟨_, rfl, ?_⟩; have n0_ := mk_ (KeepBut.blk hk (g' := gb345) (o := .cells #[.int .i64 0, .int .i64 0, .slice none 0 0, .string (⟨#[]⟩ : ByteArray)] 47 (0, 0)) bf_ NB345_348.out (by simp)); have n1_ := mk_ (KeepBut.blk hk (g' := gb357) (o := .cells #[.int .i64 t349, .int .i64 t353, .slice Ao82 t362.length co82, .string (⟨#[]⟩ : ByteArray)] 47 (0, 0)) bu_ NB357_348.out (by simp)); have n2_ := mk_ (Kd.R_mono (Kd.R_keep (IsS118.apart (show IsS118 w _ gb348 t359 t360 t361 from IsS118.ii_ HI348) (by (with_reducible repeat (first | apply Kd.R_alloc | apply Kd.R_drewN | apply Kd.R_drew)); exact (Kd.R_mono (Kd.R_far (p := ⟨gb357, 2, none⟩) (Kd.R_types HO365.out BK357.out (by decide)) (fun _ hk => hk.2) (.slice Ao82 t362.length co82)) (fun _ h_ => h_.1))) (by decide)) hk (fun _ h => h.2)) (fun _ h => h.1)); have n3_ := mk_ (hb); have n4_ := mk_ (hi); clear BK345; clear BK357; clear HO365; clear HB; clear HI348; have BK345 := n0_; have BK357 := n1_; have HO365 := n2_; have HB := n3_; have HI348 := n4_; clear n0_ n1_ n2_ n3_ n4_; (try clear hb); (try clear hk); (try clear hi); have hcz85_0 : w84.cell? ⟨gb357, 0, none⟩ = some (.int .i64 t349) := bc_ BK357 0; have hcz85_1 : w84.cell? ⟨gb357, 1, none⟩ = some (.int .i64 t353) := bc_ BK357 1; have hcz85_2 : w84.cell? ⟨gb357, 2, none⟩ = some (.slice Ao82 t362.length co82) := bc_ BK357 2; have hcz85_3 : w84.cell? ⟨gb357, 3, none⟩ = some (.string (⟨#[]⟩ : ByteArray)) := bc_ BK357 3; have hfz85_0 := blk_frozen BK357.out 0; have hfz85_1 := blk_frozen BK357.out 1; have hfz85_2 := blk_frozen BK357.out 2; have hfz85_3 := blk_frozen BK357.out 3) | ((with_reducible refine gate_callee (f := 94) rfl ?_); refine goesL_ (some 38) rfl rfl Tryz.func94 (by kernel_rfl) rfl #[.agg #[.int .i64 t349, .int .i64 t353, .slice Ao82 t362.length co82, .string t366]] rfl ga_ ?_; (with_reducible refine (impl_SnapText.calls k t349 t353 _ _ t362 t366 t370 false _ ?side1 ?side2 A9.out).mono ?_); (case side1 => refine (Kd.R_reads' (e := 3) (base := w.heap.size) (ok := fun k_ => True) (n := t362.length) (c := co82) ?_).2.2; exact (by (with_reducible repeat (first | apply Kd.R_alloc | apply Kd.R_drewN | apply Kd.R_drew)); exact (Kd.R_mono (Kd.R_far (p := ⟨gb357, 3, none⟩) (Kd.R_types HO365.out BK357.out (by decide)) (fun _ hk => hk.2) (.string t366)) (fun _ h_ => h_.1)))); (case side2 => exact (Kd.R_reads' HO365.out).2.1); rintro e w86 ⟨rfl, hb⟩; refine ⟨_, rfl, ?_⟩; have n0_ := mk_ (Kd.R_below (by (with_reducible repeat (first | apply Kd.R_alloc | apply Kd.R_drewN | apply Kd.R_drew)); exact (Kd.R_mono (Kd.R_far (p := ⟨gb357, 3, none⟩) (Kd.R_types HO365.out BK357.out (by decide)) (fun _ hk => hk.2) (.string t366)) (fun _ h_ => h_.1))) hb); have n1_ := mk_ (blk_below (g := gb345) (o := .cells #[.int .i64 0, .int .i64 0, .slice none 0 0, .string (⟨#[]⟩ : ByteArray)] 47 (0, 0)) bf_ hb); have n2_ := mk_ (IsS118.below (show IsS118 w (w84.setCell ⟨gb357, 3, none⟩ (.string t366)) gb348 t367 t368 false from IsS118.ii_ HI348) hb); have n3_ := mk_ (blk_below (g := gb357) (o := .cells #[.int .i64 t349, .int .i64 t353, .slice Ao82 t362.length co82, .string t366] 47 (0, 0)) bu_ hb); have n4_ := mk_ (below_step (bwi_ HB (IsS118.ge HI348.out)) hb); clear HO365; clear BK345; clear HI348; clear BK357; clear HB; have HO365 := n0_; have BK345 := n1_; have HI348 := n2_; have BK357 := n3_; have HB := n4_; clear n0_ n1_ n2_ n3_ n4_; (try clear hb); (try clear hk); (try clear hi); obtain ⟨HGz87, hgz87⟩ := HI348.out; have hcz87_0 := cellS118_0 HGz87; have hcz87_1 := cellS118_1 HGz87; have hcz87_2 := cellS118_2 HGz87; have hfz87_0 := blk_frozen HGz87 0; have hfz87_1 := blk_frozen HGz87 1; have hfz87_2 := blk_frozen HGz87 2; clear HGz87 hgz87; have hnb88 := NB345_348.out; have hnc88 := NB348_345.out; have hcz89_0 : w86.cell? ⟨gb345, 0, none⟩ = some (.int .i64 0) := bc_ BK345 0; have hcz89_1 : w86.cell? ⟨gb345, 1, none⟩ = some (.int .i64 0) := bc_ BK345 1; have hcz89_2 : w86.cell? ⟨gb345, 2, none⟩ = some (.slice none 0 0) := bc_ BK345 2; have hcz89_3 : w86.cell? ⟨gb345, 3, none⟩ = some (.string (⟨#[]⟩ : ByteArray)) := bc_ BK345 3; have hfz89_0 := blk_frozen BK345.out 0; have hfz89_1 := blk_frozen BK345.out 1; have hfz89_2 := blk_frozen BK345.out 2; have hfz89_3 := blk_frozen BK345.out 3))
    refine bodyPost_ret (results_ct rfl _ _ gb345 47 #[.int .i64 0, .int .i64 0, .slice none 0 0, .string (⟨#[]⟩ : ByteArray)] (0, 0) _ rfl bu_ Tryz.underlying47 rfl (by kernel_rfl)) rfl ?_
    exact ⟨_, er_, by first | exact Kd.R_nil _ _ _ _ _ | exact Kd.N_nil _ _ _ _ _ | exact Kd.V_nil _ _ _ _ _ | exact Kd.Q_nil _ _ _ _ _ | exact Kd.S_nil _ _ _ _ _, bwi_ HB (IsS118.ge HI348.out)⟩
 ·replace c3 := Bool.eq_false_iff.mpr c3
  subst c3
  have H1 : (some (0, 0, ([] : List Int), (⟨#[]⟩ : ByteArray), false)) = some (r1, r2, r3, r4, r5) := by rw [if_neg (show ¬ (false = true) by decide)] at H; exact H
  clear H
  have H := H1
  clear H1
  simp only [Option.some.injEq, Prod.mk.injEq] at H
  obtain ⟨rfl, rfl, rfl, rfl, rfl⟩ := H
  go_enter Tryz.func50, Tryz.ntmps50
  go_wp2_with (first | ((with_reducible refine gate_dst (N := 2) rfl ?_); refine box_event ?hg (N := 2) ?hd (cs := #[.int .i64 0, .int .i64 0, .slice none 0 0, .string (⟨#[]⟩ : ByteArray)]) (t := 47) ?hr ?_; (case hd => rfl); (case hg => rfl); (case hr => first | (go_simp; done) | (go_simp; rfl)); intro gb345 hg w90 hbox hb; have BK345 := mk_ (hbox); have GW345 : Aside0 (w.heap.size ≤ gb345) := bz_ hg; have GE345 : Aside0 (w.heap.size ≤ gb345) := bz_ hg; replace HB := bs_ HB hb; clear hb hbox hg) | ((with_reducible refine gate_callee (f := 90) rfl ?_); refine goesL_ (some 12) rfl rfl Tryz.func90 (by kernel_rfl) rfl #[.string a0] rfl ga_ ?_; (with_reducible refine (impl_Unsealed.calls k a0 t346 false _ A2.out).mono ?_); rintro e w91 ⟨rfl, hb⟩; refine ⟨_, rfl, ?_⟩; replace BK345 := bb_ BK345 hb; replace HB := bs_ HB hb; (try clear hb); have hcz92_0 : w91.cell? ⟨gb345, 0, none⟩ = some (.int .i64 0) := bc_ BK345 0; have hcz92_1 : w91.cell? ⟨gb345, 1, none⟩ = some (.int .i64 0) := bc_ BK345 1; have hcz92_2 : w91.cell? ⟨gb345, 2, none⟩ = some (.slice none 0 0) := bc_ BK345 2; have hcz92_3 : w91.cell? ⟨gb345, 3, none⟩ = some (.string (⟨#[]⟩ : ByteArray)) := bc_ BK345 3; have hfz92_0 := blk_frozen BK345.out 0; have hfz92_1 := blk_frozen BK345.out 1; have hfz92_2 := blk_frozen BK345.out 2; have hfz92_3 := blk_frozen BK345.out 3))
  refine bodyPost_ret (results_ct rfl _ _ gb345 47 #[.int .i64 0, .int .i64 0, .slice none 0 0, .string (⟨#[]⟩ : ByteArray)] (0, 0) _ rfl bu_ Tryz.underlying47 rfl (by kernel_rfl)) rfl ?_
  exact ⟨_, er_, by first | exact Kd.R_nil _ _ _ _ _ | exact Kd.N_nil _ _ _ _ _ | exact Kd.V_nil _ _ _ _ _ | exact Kd.Q_nil _ _ _ _ _ | exact Kd.S_nil _ _ _ _ _, bw_ HB⟩

end Go.Proofs.YtgnmlgoadkhceaaGreatDoor.QFnExactNewestSnap
