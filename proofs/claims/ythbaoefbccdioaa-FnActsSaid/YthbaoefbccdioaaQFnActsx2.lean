/- Written by this session's own program (wip/tpl/pp.py): what the law's functions come to, and that the machine's calls do just that. -/
import Derived.Test.YthbaoefbccdioaaTMPack
import Derived.Test.YthbaoefbccdioaaQFnActsx0
namespace Go.Proofs.Ythbaoefbccdioaa.QFnActs
open Go.RowKit Go.Proofs.YthbaoefbccdioaaW.PrintWords Go.Proofs.YthbaoefbccdioaaW.PrintLast Go.Proofs.YthbaoefbccdioaaW.PrintMore
attribute [local go_sem] Go.Proofs.Ythbaoefbccdioaa.Sem.string_geq Go.Proofs.Ythbaoefbccdioaa.Sem.string_leq Go.Proofs.Ythbaoefbccdioaa.Sem.string_gtr
attribute [local go_sem] max2_int min2_int max_two min_two max_three min_three max_four min_four   -- for this text's walks alone
set_option linter.unusedVariables false
set_option linter.unusedSimpArgs false

/-! ### impl_File_78: function 78 -/
set_option maxHeartbeats 4000000 in
set_option maxRecDepth 100000 in
/-- slices.IndexFunc over files, with whatever function value answers 'p' and leaves what was as it was. -/
theorem fileIndexFunc (p : S76 → Bool) (g : Nat) (lb : Array Value) (eg : ∀ args w, (callFunc g args).run Try.prog w = .ok (.enter g args) w) (A0 : Option Addr) (c0 : Nat) (l0 : List S76) (w : World)
  (hr0 : Kd.C k76 w A0 l0.length l0) (hc0 : l0.length ≤ c0)
  (hp : ∀ (W : World) (x : S76), Below w.heap.size w W → Calls Try.prog g (#[.agg #[.string x.f0, .string x.f1, .int .i64 x.f2]] ++ lb) W fun e w' => e = .returned (.bool (p x)) ∧ Below W.heap.size W w') :
  Calls Try.prog 78 #[.slice A0 l0.length c0, .func (.func g) #[] lb] w fun e w' => e = .returned (.int .i64 (M.idxP p l0 0)) ∧ Below w.heap.size w w' := by
 have hu := Try.underlying76
 have HR0 := Aside0.mk hr0
 have hlen := hr0.2.1
 have HP := Aside0.mk hp
 have HC0 := Aside0.mk hc0
 clear hr0 hc0 hp
 generalize hn : l0.length = n at *
 have HN := Aside0.mk hn
 clear hn
 go_enter Try.func78, Try.ntmps78
 go_wp2
 go_loopg [5, 8] n (fun gg _ s8 wr => ∃ kk : Nat, kk ≤ n ∧ n - kk ≤ gg ∧ s8 = .int .i64 kk ∧ Aside0 (Below w.heap.size w wr) ∧ Aside0 (M.idxP p l0 0 = M.idxP p (l0.drop kk) kk))
 case atStart => exact ⟨0, Nat.zero_le _, by omega, rfl, ⟨Below.refl _ w⟩, ⟨rfl⟩⟩
 case round =>
  obtain ⟨kk, hkk, hg, rfl, HB, HA⟩ := hrel
  by_cases hlt : kk < n
  ·have hltz : (kk : Int) < (n : Int) := by omega
   have hl0 : kk < l0.length := by rw [HN.out]; exact hlt
   obtain ⟨ad, e0, hx0, hx1, hx2⟩ := at_T76 HR0.out (kk : Int) (by omega) (by omega)
   cases e0
   simp only [Int.toNat_natCast] at hx0 hx1 hx2
   replace hx0 := hc_ HB hx0
   replace hx1 := hc_ HB hx1
   replace hx2 := hc_ HB hx2
   have hdrop : M.idxP p (l0.drop kk) kk = if p (rd_T76 l0 (kk : Int)) = true then (kk : Int) else M.idxP p (l0.drop (kk + 1)) ((kk + 1 : Nat) : Int) := by
    rw [List.drop_eq_getElem_cons hl0]
    have : rd_T76 l0 (kk : Int) = l0[kk] := by simp [rd_T76, List.getD_eq_getElem?_getD, List.getElem?_eq_getElem hl0]
    rw [this]; rfl
   have HD := Aside0.mk hdrop
   clear hdrop hl0
   generalize rd_T76 l0 (kk : Int) = x at *
   have hcall := HP.out wr x HB.out
   cases hq : p x with
   | true =>
    rw [hq] at hcall
    have HQ := Aside0.mk hq
    clear hq
    go_wp2_with (go_at_fn g; refine hcall.mono ?_; rintro e w' ⟨rfl, hb'⟩)
    go_ret
    refine ⟨?_, below_then HB.out HB.out.size hb'⟩
    rw [HA.out, HD.out, if_pos HQ.out]
    rfl
   | false =>
    rw [hq] at hcall
    have HQ := Aside0.mk hq
    clear hq
    go_wp2_with (go_at_fn g; refine hcall.mono ?_; rintro e w' ⟨rfl, hb'⟩)
    go_roundg (n - (kk + 1))
    case measure => omega
    case rel =>
     refine ⟨kk + 1, by omega, by omega, by go_num, ⟨below_then HB.out HB.out.size hb'⟩, ⟨?_⟩⟩
     rw [HA.out, HD.out, if_neg (by rw [HQ.out]; simp)]
  ·have hltz : ¬ (kk : Int) < (n : Int) := by omega
   go_wp2
   go_ret
   refine ⟨?_, HB.out⟩
   rw [HA.out, List.drop_of_length_le (by rw [HN.out]; omega)]
   rfl

/-! ### impl_fileAt: function 44 -/
def impl_fileAt.f (l0_0 : List S76) (a1 : ByteArray) : Option Int := some (M.idxP (fun x : S76 => x.f0.toList == a1.toList) l0_0 0)
set_option maxHeartbeats 4000000 in
set_option maxRecDepth 100000 in
theorem impl_fileAt.one (x0 x1 : ByteArray) (x2 : Int) (B : Nat) (s : ByteArray) (w : World) (hB : B < w.heap.size) (hc : w.cell? ⟨B, 0, none⟩ = some (.string s)) :
  Calls Try.prog 79 #[.agg #[.string x0, .string x1, .int .i64 x2], .pointer (some ⟨B, 0, none⟩)] w fun e w' => e = .returned (.bool (x0.toList == s.toList)) ∧ Below w.heap.size w w' := by
 have hu := Try.underlying76
 go_enter Try.func79, Try.ntmps79
 go_wp2
 go_ret
 exact ⟨rfl, by repeat (first | exact Below.refl _ _ | apply below_alloc | apply pw_below_drewN | apply below_drew1)⟩
set_option maxHeartbeats 4000000 in
set_option maxRecDepth 100000 in
theorem impl_fileAt.calls (A0_0 : Option Addr) (c0_0 : Nat) (l0_0 : List S76) (a1 : ByteArray) (r : Int) (w : World) (hr0_0 : Kd.C k76 w A0_0 l0_0.length l0_0) (hc0_0 : l0_0.length ≤ c0_0) (h : impl_fileAt.f l0_0 a1 = some r) :
  Calls Try.prog 44 #[.agg #[.slice A0_0 l0_0.length c0_0], .string a1] w fun e w' => e = .returned (.int .i64 r) ∧ Below w.heap.size w w' := by
 obtain rfl := Option.some.inj h
 clear h
 have hu := Try.underlying31
 have HR := Aside0.mk hr0_0
 have HC := Aside0.mk hc0_0
 clear hr0_0 hc0_0
 have eg : ∀ args w, (callFunc 79 args).run Try.prog w = .ok (.enter 79 args) w := enters_of Try.func79 (by kernel_rfl) rfl
 have hB2 : Below w.heap.size w ((w.alloc (.cells #[.slice A0_0 l0_0.length c0_0] 31)).alloc (.cells #[.string a1] 9)) := below_alloc (below_alloc (Below.refl _ _) _) _
 have hone : ∀ (W : World) (x : S76), Below ((w.alloc (.cells #[.slice A0_0 l0_0.length c0_0] 31)).alloc (.cells #[.string a1] 9)).heap.size ((w.alloc (.cells #[.slice A0_0 l0_0.length c0_0] 31)).alloc (.cells #[.string a1] 9)) W →
   Calls Try.prog 79 (#[.agg #[.string x.f0, .string x.f1, .int .i64 x.f2]] ++ #[.pointer (some ⟨w.heap.size + 1, 0, none⟩)]) W fun e w' => e = .returned (.bool (x.f0.toList == a1.toList)) ∧ Below W.heap.size W w' := by
  intro W x hB
  have hb : ((w.alloc (.cells #[.slice A0_0 l0_0.length c0_0] 31)).alloc (.cells #[.string a1] 9)).heap[w.heap.size + 1]? = some (.cells #[.string a1] 9 (0, 0)) := by
   simpa using heap_alloc_new (w.alloc (.cells #[.slice A0_0 l0_0.length c0_0] 31)) (.cells #[.string a1] 9)
  have hlt : w.heap.size + 1 < ((w.alloc (.cells #[.slice A0_0 l0_0.length c0_0] 31)).alloc (.cells #[.string a1] 9)).heap.size := blk_lt hb
  exact impl_fileAt.one x.f0 x.f1 x.f2 (w.heap.size + 1) a1 W (Nat.lt_of_lt_of_le hlt hB.size) ((hB.cell (p := ⟨w.heap.size + 1, 0, none⟩) hlt).trans ((blk_cell hb 0).trans rfl))
 have HX := mk_ (fileIndexFunc (fun x : S76 => x.f0.toList == a1.toList) 79 #[.pointer (some ⟨w.heap.size + 1, 0, none⟩)] eg A0_0 c0_0 l0_0 _ (Kd.C_alloc (Kd.C_alloc HR.out _) _) HC.out hone)
 clear hone eg
 have HB2 := Aside0.mk hB2
 clear hB2
 go_enter Try.func44, Try.ntmps44
 go_wp2_with (go_at_call 78; refine HX.out.mono ?_; rintro e w' ⟨rfl, hb'⟩)
 go_ret
 exact ⟨rfl, below_then HB2.out HB2.out.size hb'⟩

/-! ### impl_within: function 59 -/
def impl_within.f (a0 : Int) (a1 : Int) (a2 : Int) : Option (Bool) := if a0 ≥ a1 then (some (decide (a0 ≤ a2))) else (some false)
set_option maxHeartbeats 8000000 in
set_option maxRecDepth 100000 in
theorem impl_within.calls (a0 : Int) (a1 : Int) (a2 : Int) (r : Bool) (w : World) (h : impl_within.f a0 a1 a2 = some r) :
  Calls Try.prog 59 #[.int .i64 a0, .int .i64 a1, .int .i64 a2] w fun e w' => e = .returned (.bool r) ∧ Drawn0 w w' := by
 have H : (if a0 ≥ a1 then (some (decide (a0 ≤ a2))) else (some false)) = some r := h
 clear h
 by_cases c4 : a0 ≥ a1
 rotate_left
 ·rw [if_neg c4] at H
  have c4b0 : decide (a1 ≤ a0) = false := decide_eq_false c4
  clear c4
  obtain rfl := Option.some.inj H
  go_enter Try.func59, Try.ntmps59
  go_wp2
  go_ret
  exact ⟨by first | rfl | (simp; done) | (simp [*]; done) | (simp [bne]; done), by repeat (first | exact Drawn0.refl _ | apply Drawn0.step)⟩
 rw [if_pos c4] at H
 have c4b0 : decide (a1 ≤ a0) = true := decide_eq_true c4
 clear c4
 obtain rfl := Option.some.inj H
 go_enter Try.func59, Try.ntmps59
 go_wp2
 go_ret
 exact ⟨by first | rfl | (simp; done) | (simp [*]; done) | (simp [bne]; done), by repeat (first | exact Drawn0.refl _ | apply Drawn0.step)⟩

/-! ### impl_DiskOk: function 45 -/
def impl_DiskOk.l0 : Nat → List (S76) → Int → Int → List (S76) → Option (Bool)
 | 0, _, _, _, _ => none
 | k + 1, x6, x7, x8, x102000 => if x8 < x7 then (if 0 ≤ x8 then (if x8 < (x6.length : Int) then ((impl_within.f (((rd_T76 x6 x8).f0).size : Int) 1 8).bind fun t104 => (if t104 = true then (if (((rd_T76 x6 x8).f1).size : Int) > 20000 then (some false) else ((impl_within.f ((rd_T76 x6 x8).f2) 0 (((rd_T76 x6 x8).f1).size : Int)).bind fun t105 => (if t105 = true then (if x8 > 0 then (if 0 ≤ (wrap64 (x8 - 1)) then (if (wrap64 (x8 - 1)) < (x102000.length : Int) then (if ((Op.bytesLess (((rd_T76 x102000 (wrap64 (x8 - 1))).f0).toList) (((rd_T76 x6 x8).f0).toList)) = true) then (impl_DiskOk.l0 k x6 x7 (wrap64 (x8 + 1)) x102000) else (some false)) else (none)) else (none)) else (impl_DiskOk.l0 k x6 x7 (wrap64 (x8 + 1)) x102000)) else (some false)))) else (some false))) else (none)) else (none)) else (some (decide ((x102000.length : Int) ≤ 30)))
def impl_DiskOk.f (k : Nat) (l0_0 : List (S76)) : Option (Bool) := impl_DiskOk.l0 k l0_0 (l0_0.length : Int) 0 l0_0
theorem impl_DiskOk.mono_l : ∀ k, (∀ y0 y1 y2 y3, LeO (impl_DiskOk.l0 k y0 y1 y2 y3) (impl_DiskOk.l0 (k + 1) y0 y1 y2 y3))
 | 0 => fun _ _ _ _ r h => by simp [impl_DiskOk.l0] at h
 | k + 1 => by
  have ih0 := impl_DiskOk.mono_l k
  ·intro y0 y1 y2 y3
   unfold impl_DiskOk.l0
   repeat' first
   | (with_reducible exact ih0 _ _ _ _)
   | (with_reducible exact LeO.refl _)
   | (with_reducible refine LeO.ite ?_ ?_)
   | (with_reducible refine LeO.bind ?_ (fun _ => ?_))
theorem impl_DiskOk.mono : ∀ a0 k, LeO (impl_DiskOk.f k a0) (impl_DiskOk.f (k + 1) a0) := by
 intro a0 k
 have ih0 := impl_DiskOk.mono_l k
 unfold impl_DiskOk.f
 repeat' first
   | (with_reducible exact ih0 _ _ _ _)
set_option maxHeartbeats 8000000 in
set_option maxRecDepth 100000 in
theorem impl_DiskOk.calls (k : Nat) (A0_0 : Option Addr) (c0_0 : Nat) (l0_0 : List (S76)) (r : Bool) (w : World) (hr0_0 : Kd.C k76 w A0_0 l0_0.length l0_0) (hc0_0 : l0_0.length ≤ c0_0) (h : impl_DiskOk.f k l0_0 = some r) :
  Calls Try.prog 45 #[.agg #[.slice A0_0 l0_0.length c0_0]] w fun e w' => e = .returned (.bool r) ∧ Below w.heap.size w w' := by
 have hu31 := Try.underlying31
 have hu76 := Try.underlying76
 have HR0_0 := Aside0.mk hr0_0
 have HC0_0 := Aside0.mk hc0_0
 clear hr0_0 hc0_0
 have HB := mk_ (Below.refl w.heap.size w)
 have H : (impl_DiskOk.l0 k l0_0 (l0_0.length : Int) 0 l0_0) = some r := h
 clear h
 have H' := Aside0.mk H
 clear H
 go_enter Try.func45, Try.ntmps45
 go_wp2_with (first | ((with_reducible refine gate_dst (N := 1) rfl ?_); (try (refine gate_guard (by rfl) ?_; dsimp only)); refine bx_ (N := 1) (cs := #[.slice A0_0 l0_0.length c0_0]) (t := 31) ?_; intro gb101 hg w2 hbox hb; have BK101 := mk_ (hbox); have GW101 : Aside0 (w.heap.size ≤ gb101) := bz_ hg; have GE101 := GW101; replace HB := bs_ HB hb; clear hb hbox hg; obtain ⟨hcz3_0, hfz3_0⟩ := b1_ BK101))
 go_loopg [8] k (fun kq v8 w' => ∃ (x8_1 : Int), v8 = .int .i64 x8_1 ∧ Aside0 (impl_DiskOk.l0 kq l0_0 (l0_0.length : Int) x8_1 l0_0 = some r) ∧ Aside0 (kq ≤ k) ∧ Aside0 (w'.heap[gb101]? = some (.cells #[(.slice A0_0 l0_0.length c0_0)] 31 (0, 0))) ∧ Aside0 (Below w.heap.size w w'))
 case atStart => exact ⟨(0), (by first | rfl | (simp; done) | (simp [*]; done) | (simp [bne]; done)), H', ⟨Nat.le_refl _⟩, ⟨bf_⟩, ⟨bw_ HB⟩⟩
 case round =>
  clear H'
  (try clear p2); (try clear hcz3_0); (try clear hfz3_0)
  obtain ⟨x8_1, rfl, HA, HK1, BK101, HB⟩ := hrel
  cases gk with
  | zero => exact absurd HA.out (by simp [impl_DiskOk.l0])
  | succ k1 =>
   have H := HA.out
   clear HA
   simp only [impl_DiskOk.l0] at H
   by_cases c4 : x8_1 < (l0_0.length : Int)
   rotate_left
   ·rw [if_neg c4] at H
    have c4b0 : decide (x8_1 < (l0_0.length : Int)) = false := decide_eq_false c4
    clear c4
    obtain rfl := Option.some.inj H
    have hcz37_0 : wr.cell? ⟨gb101, 0, none⟩ = some (.slice A0_0 l0_0.length c0_0) := bc_ BK101 0
    have hfz37_0 := blk_frozen BK101.out 0
    go_wp2
    go_ret
    exact ⟨er_, bw_ HB⟩
   rw [if_pos c4] at H
   have c4b0 : decide (x8_1 < (l0_0.length : Int)) = true := decide_eq_true c4
   clear c4
   by_cases c5 : 0 ≤ x8_1
   rotate_left
   ·rw [if_neg c5] at H
    exact absurd H (by simp)
   rw [if_pos c5] at H
   have c5b0 : decide (0 ≤ x8_1) = true := decide_eq_true c5
   clear c5
   by_cases c6 : x8_1 < (l0_0.length : Int)
   rotate_left
   ·rw [if_neg c6] at H
    exact absurd H (by simp)
   rw [if_pos c6] at H
   have c6b0 : decide (x8_1 < (l0_0.length : Int)) = true := decide_eq_true c6
   clear c6
   replace H := Option.bind_eq_some_iff.mp H
   obtain ⟨t104, A70, H⟩ := H
   try dsimp only at H
   have A7 := Aside0.mk A70
   clear A70
   by_cases c8 : t104 = true
   rotate_left
   ·replace c8 := Bool.eq_false_iff.mpr c8
    subst c8
    rw [if_neg (show ¬ (false = true) by decide)] at H
    obtain rfl := Option.some.inj H
    have p102 : 0 ≤ (x8_1 : Int) := od_
    have q102 : x8_1 < (l0_0.length : Int) := od_
    obtain ⟨ad102, e102, hx102_0, hx102_1, hx102_2⟩ := at_T76 HR0_0.out x8_1 p102 q102
    cases e102
    replace hx102_0 := hc_ HB hx102_0
    replace hx102_1 := hc_ HB hx102_1
    replace hx102_2 := hc_ HB hx102_2
    replace p102 := eq_true p102
    replace q102 := eq_true q102
    go_wp2_with (first | ((with_reducible refine gate_dst (N := 4) rfl ?_); (try (refine gate_guard (by rfl) ?_; dsimp only)); refine bx_ (N := 4) (cs := #[.string (⟨#[]⟩ : ByteArray), .string (⟨#[]⟩ : ByteArray), .int .i64 0]) (t := 76) ?_; intro gb103 hg w34 hbox hb; have BK103 := mk_ (hbox); have GW103 : Aside0 (w.heap.size ≤ gb103) := bz_ hg; have GE103 := GW103; have NB101_103 := bl_ BK101 hg; have NB103_101 := bg_ BK101 hg; replace BK101 := bb_ BK101 hb; replace HB := bs_ HB hb; clear hb hbox hg; obtain ⟨hnb35, hnc35⟩ := ns_ NB103_101; obtain ⟨hcz36_0, hcz36_1, hcz36_2, hfz36_0, hfz36_1, hfz36_2⟩ := b3_ BK103))
    repeat (go_quiet (first | (go_at_call 59; (with_reducible refine (impl_within.calls (((rd_T76 l0_0 x8_1).f0).size : Int) 1 8 false _ A7.out).mono ?_); rintro e w' ⟨rfl, ⟨nd, rfl⟩⟩; (try first | exact ⟨rfl, _, World.drewN_drewN _ _ _⟩ | exact ⟨rfl, _, Eq.trans (World.drewN_drewN _ _ _) (congrArg (World.drewN _) (Nat.add_assoc _ _ _))⟩))); try go_wp2_with fail)
    go_ret
    exact ⟨er_, bw_ HB⟩
   subst c8
   rw [if_pos rfl] at H
   by_cases c9 : (((rd_T76 l0_0 x8_1).f1).size : Int) > 20000
   ·rw [if_pos c9] at H
    have c9b0 : decide (20000 < (((rd_T76 l0_0 x8_1).f1).size : Int)) = true := decide_eq_true c9
    have c9b1 : decide (20000 < ((rd_T76 l0_0 x8_1).f1).size) = true := decide_eq_true (by omega)
    clear c9
    obtain rfl := Option.some.inj H
    have p102 : 0 ≤ (x8_1 : Int) := od_
    have q102 : x8_1 < (l0_0.length : Int) := od_
    obtain ⟨ad102, e102, hx102_0, hx102_1, hx102_2⟩ := at_T76 HR0_0.out x8_1 p102 q102
    cases e102
    replace hx102_0 := hc_ HB hx102_0
    replace hx102_1 := hc_ HB hx102_1
    replace hx102_2 := hc_ HB hx102_2
    replace p102 := eq_true p102
    replace q102 := eq_true q102
    go_wp2_with (first | ((with_reducible refine gate_dst (N := 4) rfl ?_); (try (refine gate_guard (by rfl) ?_; dsimp only)); refine bx_ (N := 4) (cs := #[.string (⟨#[]⟩ : ByteArray), .string (⟨#[]⟩ : ByteArray), .int .i64 0]) (t := 76) ?_; intro gb103 hg w10 hbox hb; have BK103 := mk_ (hbox); have GW103 : Aside0 (w.heap.size ≤ gb103) := bz_ hg; have GE103 := GW103; have NB101_103 := bl_ BK101 hg; have NB103_101 := bg_ BK101 hg; replace BK101 := bb_ BK101 hb; replace HB := bs_ HB hb; clear hb hbox hg; obtain ⟨hnb11, hnc11⟩ := ns_ NB103_101; obtain ⟨hcz12_0, hcz12_1, hcz12_2, hfz12_0, hfz12_1, hfz12_2⟩ := b3_ BK103))
    repeat (go_quiet (first | (go_at_call 59; (with_reducible refine (impl_within.calls (((rd_T76 l0_0 x8_1).f0).size : Int) 1 8 true _ A7.out).mono ?_); rintro e w' ⟨rfl, ⟨nd, rfl⟩⟩; (try first | exact ⟨rfl, _, World.drewN_drewN _ _ _⟩ | exact ⟨rfl, _, Eq.trans (World.drewN_drewN _ _ _) (congrArg (World.drewN _) (Nat.add_assoc _ _ _))⟩))); try go_wp2_with fail)
    go_ret
    exact ⟨er_, bw_ HB⟩
   rw [if_neg c9] at H
   have c9b0 : decide (20000 < (((rd_T76 l0_0 x8_1).f1).size : Int)) = false := decide_eq_false c9
   have c9b1 : decide (20000 < ((rd_T76 l0_0 x8_1).f1).size) = false := decide_eq_false (by omega)
   clear c9
   replace H := Option.bind_eq_some_iff.mp H
   obtain ⟨t105, A130, H⟩ := H
   try dsimp only at H
   have A13 := Aside0.mk A130
   clear A130
   by_cases c14 : t105 = true
   rotate_left
   ·replace c14 := Bool.eq_false_iff.mpr c14
    subst c14
    rw [if_neg (show ¬ (false = true) by decide)] at H
    obtain rfl := Option.some.inj H
    have p102 : 0 ≤ (x8_1 : Int) := od_
    have q102 : x8_1 < (l0_0.length : Int) := od_
    obtain ⟨ad102, e102, hx102_0, hx102_1, hx102_2⟩ := at_T76 HR0_0.out x8_1 p102 q102
    cases e102
    replace hx102_0 := hc_ HB hx102_0
    replace hx102_1 := hc_ HB hx102_1
    replace hx102_2 := hc_ HB hx102_2
    replace p102 := eq_true p102
    replace q102 := eq_true q102
    go_wp2_with (first | ((with_reducible refine gate_dst (N := 4) rfl ?_); (try (refine gate_guard (by rfl) ?_; dsimp only)); refine bx_ (N := 4) (cs := #[.string (⟨#[]⟩ : ByteArray), .string (⟨#[]⟩ : ByteArray), .int .i64 0]) (t := 76) ?_; intro gb103 hg w31 hbox hb; have BK103 := mk_ (hbox); have GW103 : Aside0 (w.heap.size ≤ gb103) := bz_ hg; have GE103 := GW103; have NB101_103 := bl_ BK101 hg; have NB103_101 := bg_ BK101 hg; replace BK101 := bb_ BK101 hb; replace HB := bs_ HB hb; clear hb hbox hg; obtain ⟨hnb32, hnc32⟩ := ns_ NB103_101; obtain ⟨hcz33_0, hcz33_1, hcz33_2, hfz33_0, hfz33_1, hfz33_2⟩ := b3_ BK103))
    repeat (go_quiet (first | (go_at_call 59; (with_reducible refine (impl_within.calls (((rd_T76 l0_0 x8_1).f0).size : Int) 1 8 true _ A7.out).mono ?_); rintro e w' ⟨rfl, ⟨nd, rfl⟩⟩; (try first | exact ⟨rfl, _, World.drewN_drewN _ _ _⟩ | exact ⟨rfl, _, Eq.trans (World.drewN_drewN _ _ _) (congrArg (World.drewN _) (Nat.add_assoc _ _ _))⟩)) | (go_at_call 59; (with_reducible refine (impl_within.calls ((rd_T76 l0_0 x8_1).f2) 0 (((rd_T76 l0_0 x8_1).f1).size : Int) false _ A13.out).mono ?_); rintro e w' ⟨rfl, ⟨nd, rfl⟩⟩; (try first | exact ⟨rfl, _, World.drewN_drewN _ _ _⟩ | exact ⟨rfl, _, Eq.trans (World.drewN_drewN _ _ _) (congrArg (World.drewN _) (Nat.add_assoc _ _ _))⟩))); try go_wp2_with fail)
    go_ret
    exact ⟨er_, bw_ HB⟩
   subst c14
   rw [if_pos rfl] at H
   by_cases c15 : x8_1 > 0
   rotate_left
   ·rw [if_neg c15] at H
    have c15b0 : decide (0 < x8_1) = false := decide_eq_false c15
    clear c15
    have H' := Aside0.mk H
    clear H
    have p102 : 0 ≤ (x8_1 : Int) := od_
    have q102 : x8_1 < (l0_0.length : Int) := od_
    obtain ⟨ad102, e102, hx102_0, hx102_1, hx102_2⟩ := at_T76 HR0_0.out x8_1 p102 q102
    cases e102
    replace hx102_0 := hc_ HB hx102_0
    replace hx102_1 := hc_ HB hx102_1
    replace hx102_2 := hc_ HB hx102_2
    replace p102 := eq_true p102
    replace q102 := eq_true q102
    go_wp2_with (first | ((with_reducible refine gate_dst (N := 4) rfl ?_); (try (refine gate_guard (by rfl) ?_; dsimp only)); refine bx_ (N := 4) (cs := #[.string (⟨#[]⟩ : ByteArray), .string (⟨#[]⟩ : ByteArray), .int .i64 0]) (t := 76) ?_; intro gb103 hg w28 hbox hb; have BK103 := mk_ (hbox); have GW103 : Aside0 (w.heap.size ≤ gb103) := bz_ hg; have GE103 := GW103; have NB101_103 := bl_ BK101 hg; have NB103_101 := bg_ BK101 hg; replace BK101 := bb_ BK101 hb; replace HB := bs_ HB hb; clear hb hbox hg; obtain ⟨hnb29, hnc29⟩ := ns_ NB103_101; obtain ⟨hcz30_0, hcz30_1, hcz30_2, hfz30_0, hfz30_1, hfz30_2⟩ := b3_ BK103))
    repeat (go_quiet (first | (go_at_call 59; (with_reducible refine (impl_within.calls (((rd_T76 l0_0 x8_1).f0).size : Int) 1 8 true _ A7.out).mono ?_); rintro e w' ⟨rfl, ⟨nd, rfl⟩⟩; (try first | exact ⟨rfl, _, World.drewN_drewN _ _ _⟩ | exact ⟨rfl, _, Eq.trans (World.drewN_drewN _ _ _) (congrArg (World.drewN _) (Nat.add_assoc _ _ _))⟩)) | (go_at_call 59; (with_reducible refine (impl_within.calls ((rd_T76 l0_0 x8_1).f2) 0 (((rd_T76 l0_0 x8_1).f1).size : Int) true _ A13.out).mono ?_); rintro e w' ⟨rfl, ⟨nd, rfl⟩⟩; (try first | exact ⟨rfl, _, World.drewN_drewN _ _ _⟩ | exact ⟨rfl, _, Eq.trans (World.drewN_drewN _ _ _) (congrArg (World.drewN _) (Nat.add_assoc _ _ _))⟩))); try go_wp2_with fail)
    go_roundg k1
    case measure => have := HK1.out; omega
    case rel => exact ⟨(wrap64 (x8_1 + 1)), (by first | rfl | (simp; done) | (simp [*]; done) | (simp [bne]; done)), H', ⟨by have := HK1.out; omega⟩, ⟨bf_⟩, ⟨bw_ HB⟩⟩
   rw [if_pos c15] at H
   have c15b0 : decide (0 < x8_1) = true := decide_eq_true c15
   clear c15
   obtain ⟨ji16, hji16⟩ : ∃ j_ : Int, (wrap64 (x8_1 - 1)) = j_ := ⟨_, rfl⟩
   replace H : (if 0 ≤ (ji16) then (if (ji16) < (l0_0.length : Int) then (if ((Op.bytesLess (((rd_T76 l0_0 (ji16)).f0).toList) (((rd_T76 l0_0 x8_1).f0).toList)) = true) then (impl_DiskOk.l0 k1 l0_0 (l0_0.length : Int) (wrap64 (x8_1 + 1)) l0_0) else (some false)) else (none)) else (none)) = some r := by first | (rw [hji16] at H; exact H) | (simp only [hji16] at H ⊢; exact H)
   (try rw [hji16] at A7)
   (try rw [hji16] at A13)
   have hji16w : (IntKind.i64.wrap (x8_1 - 1)) = ji16 := (i64_w _).trans hji16
   by_cases c17 : 0 ≤ (ji16)
   rotate_left
   ·rw [if_neg c17] at H
    exact absurd H (by simp)
   rw [if_pos c17] at H
   have c17b0 : decide (0 ≤ (ji16)) = true := decide_eq_true c17
   clear c17
   by_cases c18 : (ji16) < (l0_0.length : Int)
   rotate_left
   ·rw [if_neg c18] at H
    exact absurd H (by simp)
   rw [if_pos c18] at H
   have c18b0 : decide ((ji16) < (l0_0.length : Int)) = true := decide_eq_true c18
   clear c18
   by_cases c19 : ((Op.bytesLess (((rd_T76 l0_0 (ji16)).f0).toList) (((rd_T76 l0_0 x8_1).f0).toList)) = true)
   rotate_left
   ·rw [if_neg c19] at H
    have c19b0 : (Op.bytesLess (((rd_T76 l0_0 (ji16)).f0).toList) (((rd_T76 l0_0 x8_1).f0).toList)) = false := by simpa using c19
    have c19g0 : (Op.bytesLess (((rd_T76 l0_0 x8_1).f0).toList) (((rd_T76 l0_0 (ji16)).f0).toList) || (((rd_T76 l0_0 x8_1).f0).toList) == (((rd_T76 l0_0 (ji16)).f0).toList)) = true := Go.Proofs.Ythbaoefbccdioaa.Sem.less_or c19b0
    have c19g1 : (!Op.bytesLess (((rd_T76 l0_0 x8_1).f0).toList) (((rd_T76 l0_0 (ji16)).f0).toList) && !((((rd_T76 l0_0 x8_1).f0).toList) == (((rd_T76 l0_0 (ji16)).f0).toList))) = false := Go.Proofs.Ythbaoefbccdioaa.Sem.less_and c19b0
    clear c19
    obtain rfl := Option.some.inj H
    have p102 : 0 ≤ (x8_1 : Int) := od_
    have q102 : x8_1 < (l0_0.length : Int) := od_
    obtain ⟨ad102, e102, hx102_0, hx102_1, hx102_2⟩ := at_T76 HR0_0.out x8_1 p102 q102
    cases e102
    replace hx102_0 := hc_ HB hx102_0
    replace hx102_1 := hc_ HB hx102_1
    replace hx102_2 := hc_ HB hx102_2
    replace p102 := eq_true p102
    replace q102 := eq_true q102
    go_wp2_with (first | ((with_reducible refine gate_dst (N := 4) rfl ?_); (try (refine gate_guard (by rfl) ?_; dsimp only)); refine bx_ (N := 4) (cs := #[.string (⟨#[]⟩ : ByteArray), .string (⟨#[]⟩ : ByteArray), .int .i64 0]) (t := 76) ?_; intro gb103 hg w24 hbox hb; have BK103 := mk_ (hbox); have GW103 : Aside0 (w.heap.size ≤ gb103) := bz_ hg; have GE103 := GW103; have NB101_103 := bl_ BK101 hg; have NB103_101 := bg_ BK101 hg; replace BK101 := bb_ BK101 hb; replace HB := bs_ HB hb; clear hb hbox hg; obtain ⟨hnb25, hnc25⟩ := ns_ NB103_101; obtain ⟨hcz26_0, hcz26_1, hcz26_2, hfz26_0, hfz26_1, hfz26_2⟩ := b3_ BK103))
    repeat (go_quiet (first | (go_at_call 59; (with_reducible refine (impl_within.calls (((rd_T76 l0_0 x8_1).f0).size : Int) 1 8 true _ A7.out).mono ?_); rintro e w' ⟨rfl, ⟨nd, rfl⟩⟩; (try first | exact ⟨rfl, _, World.drewN_drewN _ _ _⟩ | exact ⟨rfl, _, Eq.trans (World.drewN_drewN _ _ _) (congrArg (World.drewN _) (Nat.add_assoc _ _ _))⟩)) | (go_at_call 59; (with_reducible refine (impl_within.calls ((rd_T76 l0_0 x8_1).f2) 0 (((rd_T76 l0_0 x8_1).f1).size : Int) true _ A13.out).mono ?_); rintro e w' ⟨rfl, ⟨nd, rfl⟩⟩; (try first | exact ⟨rfl, _, World.drewN_drewN _ _ _⟩ | exact ⟨rfl, _, Eq.trans (World.drewN_drewN _ _ _) (congrArg (World.drewN _) (Nat.add_assoc _ _ _))⟩); obtain ⟨hcz27_0, hfz27_0⟩ := b1_ BK101; have p106 : 0 ≤ ((ji16) : Int) := od_; have q106 : (ji16) < (l0_0.length : Int) := od_; obtain ⟨ad106, e106, hx106_0, hx106_1, hx106_2⟩ := at_T76 HR0_0.out (ji16) p106 q106; obtain rfl : ad102 = ad106 := (by injection e106); have hn106_0 : ad102.block ≠ gb103 := Nat.ne_of_lt (Nat.lt_of_lt_of_le (by have := World.block_lt_of_cell? _ _ hx106_0; first | rwa [add_block] at this | exact this) GW103.out); have hn106_1 : ad102.block ≠ gb103 := Nat.ne_of_lt (Nat.lt_of_lt_of_le (by have := World.block_lt_of_cell? _ _ hx106_0; first | rwa [add_block] at this | exact this) GW103.out); have hn106_2 : ad102.block ≠ gb103 := Nat.ne_of_lt (Nat.lt_of_lt_of_le (by have := World.block_lt_of_cell? _ _ hx106_0; first | rwa [add_block] at this | exact this) GW103.out); replace hx106_0 := hc_ HB hx106_0; replace hx106_1 := hc_ HB hx106_1; replace hx106_2 := hc_ HB hx106_2; replace hx106_0 := (cell_far (p := ⟨gb103, 0, none⟩) ab_ (.string ((rd_T76 l0_0 x8_1).f0))).trans hx106_0; replace hx106_1 := (cell_far (p := ⟨gb103, 0, none⟩) ab_ (.string ((rd_T76 l0_0 x8_1).f0))).trans hx106_1; replace hx106_2 := (cell_far (p := ⟨gb103, 0, none⟩) ab_ (.string ((rd_T76 l0_0 x8_1).f0))).trans hx106_2; replace hx106_0 := (cell_far (p := ⟨gb103, 1, none⟩) ab_ (.string ((rd_T76 l0_0 x8_1).f1))).trans hx106_0; replace hx106_1 := (cell_far (p := ⟨gb103, 1, none⟩) ab_ (.string ((rd_T76 l0_0 x8_1).f1))).trans hx106_1; replace hx106_2 := (cell_far (p := ⟨gb103, 1, none⟩) ab_ (.string ((rd_T76 l0_0 x8_1).f1))).trans hx106_2; replace hx106_0 := (cell_far (p := ⟨gb103, 2, none⟩) ab_ (.int .i64 ((rd_T76 l0_0 x8_1).f2))).trans hx106_0; replace hx106_1 := (cell_far (p := ⟨gb103, 2, none⟩) ab_ (.int .i64 ((rd_T76 l0_0 x8_1).f2))).trans hx106_1; replace hx106_2 := (cell_far (p := ⟨gb103, 2, none⟩) ab_ (.int .i64 ((rd_T76 l0_0 x8_1).f2))).trans hx106_2; (try have hy106_0 := fun (n_ : Nat) => (show (((((w24.drewN n_).setCell ⟨gb103, 0, none⟩ (.string ((rd_T76 l0_0 x8_1).f0))).setCell ⟨gb103, 1, none⟩ (.string ((rd_T76 l0_0 x8_1).f1))).setCell ⟨gb103, 2, none⟩ (.int .i64 ((rd_T76 l0_0 x8_1).f2)))).cell? _ = some _ from hx106_0)); (try have hy106_1 := fun (n_ : Nat) => (show (((((w24.drewN n_).setCell ⟨gb103, 0, none⟩ (.string ((rd_T76 l0_0 x8_1).f0))).setCell ⟨gb103, 1, none⟩ (.string ((rd_T76 l0_0 x8_1).f1))).setCell ⟨gb103, 2, none⟩ (.int .i64 ((rd_T76 l0_0 x8_1).f2)))).cell? _ = some _ from hx106_1)); (try have hy106_2 := fun (n_ : Nat) => (show (((((w24.drewN n_).setCell ⟨gb103, 0, none⟩ (.string ((rd_T76 l0_0 x8_1).f0))).setCell ⟨gb103, 1, none⟩ (.string ((rd_T76 l0_0 x8_1).f1))).setCell ⟨gb103, 2, none⟩ (.int .i64 ((rd_T76 l0_0 x8_1).f2)))).cell? _ = some _ from hx106_2)); clear hn106_0; clear hn106_1; clear hn106_2; replace p106 := eq_true p106; replace q106 := eq_true q106)); try go_wp2_with fail)
    go_ret
    exact ⟨by first | rfl | (simp [errW_none, errW_some] <;> rfl) | (simp only [← hji16]; first | rfl | (simp [errW_none, errW_some] <;> rfl)) | (simp [*, errW_none, errW_some] <;> rfl), bw_ HB⟩
   rw [if_pos c19] at H
   have c19b0 : (Op.bytesLess (((rd_T76 l0_0 (ji16)).f0).toList) (((rd_T76 l0_0 x8_1).f0).toList)) = true := c19
   have c19g0 : Op.bytesLess (((rd_T76 l0_0 x8_1).f0).toList) (((rd_T76 l0_0 (ji16)).f0).toList) = false := Go.Proofs.Ythbaoefbccdioaa.Sem.less_no c19b0
   have c19g1 : ((((rd_T76 l0_0 x8_1).f0).toList) == (((rd_T76 l0_0 (ji16)).f0).toList)) = false := Go.Proofs.Ythbaoefbccdioaa.Sem.less_ne c19b0
   clear c19
   have H' := Aside0.mk H
   clear H
   have p102 : 0 ≤ (x8_1 : Int) := od_
   have q102 : x8_1 < (l0_0.length : Int) := od_
   obtain ⟨ad102, e102, hx102_0, hx102_1, hx102_2⟩ := at_T76 HR0_0.out x8_1 p102 q102
   cases e102
   replace hx102_0 := hc_ HB hx102_0
   replace hx102_1 := hc_ HB hx102_1
   replace hx102_2 := hc_ HB hx102_2
   replace p102 := eq_true p102
   replace q102 := eq_true q102
   go_wp2_with (first | ((with_reducible refine gate_dst (N := 4) rfl ?_); (try (refine gate_guard (by rfl) ?_; dsimp only)); refine bx_ (N := 4) (cs := #[.string (⟨#[]⟩ : ByteArray), .string (⟨#[]⟩ : ByteArray), .int .i64 0]) (t := 76) ?_; intro gb103 hg w20 hbox hb; have BK103 := mk_ (hbox); have GW103 : Aside0 (w.heap.size ≤ gb103) := bz_ hg; have GE103 := GW103; have NB101_103 := bl_ BK101 hg; have NB103_101 := bg_ BK101 hg; replace BK101 := bb_ BK101 hb; replace HB := bs_ HB hb; clear hb hbox hg; obtain ⟨hnb21, hnc21⟩ := ns_ NB103_101; obtain ⟨hcz22_0, hcz22_1, hcz22_2, hfz22_0, hfz22_1, hfz22_2⟩ := b3_ BK103))
   repeat (go_quiet (first | (go_at_call 59; (with_reducible refine (impl_within.calls (((rd_T76 l0_0 x8_1).f0).size : Int) 1 8 true _ A7.out).mono ?_); rintro e w' ⟨rfl, ⟨nd, rfl⟩⟩; (try first | exact ⟨rfl, _, World.drewN_drewN _ _ _⟩ | exact ⟨rfl, _, Eq.trans (World.drewN_drewN _ _ _) (congrArg (World.drewN _) (Nat.add_assoc _ _ _))⟩)) | (go_at_call 59; (with_reducible refine (impl_within.calls ((rd_T76 l0_0 x8_1).f2) 0 (((rd_T76 l0_0 x8_1).f1).size : Int) true _ A13.out).mono ?_); rintro e w' ⟨rfl, ⟨nd, rfl⟩⟩; (try first | exact ⟨rfl, _, World.drewN_drewN _ _ _⟩ | exact ⟨rfl, _, Eq.trans (World.drewN_drewN _ _ _) (congrArg (World.drewN _) (Nat.add_assoc _ _ _))⟩); obtain ⟨hcz23_0, hfz23_0⟩ := b1_ BK101; have p106 : 0 ≤ ((ji16) : Int) := od_; have q106 : (ji16) < (l0_0.length : Int) := od_; obtain ⟨ad106, e106, hx106_0, hx106_1, hx106_2⟩ := at_T76 HR0_0.out (ji16) p106 q106; obtain rfl : ad102 = ad106 := (by injection e106); have hn106_0 : ad102.block ≠ gb103 := Nat.ne_of_lt (Nat.lt_of_lt_of_le (by have := World.block_lt_of_cell? _ _ hx106_0; first | rwa [add_block] at this | exact this) GW103.out); have hn106_1 : ad102.block ≠ gb103 := Nat.ne_of_lt (Nat.lt_of_lt_of_le (by have := World.block_lt_of_cell? _ _ hx106_0; first | rwa [add_block] at this | exact this) GW103.out); have hn106_2 : ad102.block ≠ gb103 := Nat.ne_of_lt (Nat.lt_of_lt_of_le (by have := World.block_lt_of_cell? _ _ hx106_0; first | rwa [add_block] at this | exact this) GW103.out); replace hx106_0 := hc_ HB hx106_0; replace hx106_1 := hc_ HB hx106_1; replace hx106_2 := hc_ HB hx106_2; replace hx106_0 := (cell_far (p := ⟨gb103, 0, none⟩) ab_ (.string ((rd_T76 l0_0 x8_1).f0))).trans hx106_0; replace hx106_1 := (cell_far (p := ⟨gb103, 0, none⟩) ab_ (.string ((rd_T76 l0_0 x8_1).f0))).trans hx106_1; replace hx106_2 := (cell_far (p := ⟨gb103, 0, none⟩) ab_ (.string ((rd_T76 l0_0 x8_1).f0))).trans hx106_2; replace hx106_0 := (cell_far (p := ⟨gb103, 1, none⟩) ab_ (.string ((rd_T76 l0_0 x8_1).f1))).trans hx106_0; replace hx106_1 := (cell_far (p := ⟨gb103, 1, none⟩) ab_ (.string ((rd_T76 l0_0 x8_1).f1))).trans hx106_1; replace hx106_2 := (cell_far (p := ⟨gb103, 1, none⟩) ab_ (.string ((rd_T76 l0_0 x8_1).f1))).trans hx106_2; replace hx106_0 := (cell_far (p := ⟨gb103, 2, none⟩) ab_ (.int .i64 ((rd_T76 l0_0 x8_1).f2))).trans hx106_0; replace hx106_1 := (cell_far (p := ⟨gb103, 2, none⟩) ab_ (.int .i64 ((rd_T76 l0_0 x8_1).f2))).trans hx106_1; replace hx106_2 := (cell_far (p := ⟨gb103, 2, none⟩) ab_ (.int .i64 ((rd_T76 l0_0 x8_1).f2))).trans hx106_2; (try have hy106_0 := fun (n_ : Nat) => (show (((((w20.drewN n_).setCell ⟨gb103, 0, none⟩ (.string ((rd_T76 l0_0 x8_1).f0))).setCell ⟨gb103, 1, none⟩ (.string ((rd_T76 l0_0 x8_1).f1))).setCell ⟨gb103, 2, none⟩ (.int .i64 ((rd_T76 l0_0 x8_1).f2)))).cell? _ = some _ from hx106_0)); (try have hy106_1 := fun (n_ : Nat) => (show (((((w20.drewN n_).setCell ⟨gb103, 0, none⟩ (.string ((rd_T76 l0_0 x8_1).f0))).setCell ⟨gb103, 1, none⟩ (.string ((rd_T76 l0_0 x8_1).f1))).setCell ⟨gb103, 2, none⟩ (.int .i64 ((rd_T76 l0_0 x8_1).f2)))).cell? _ = some _ from hx106_1)); (try have hy106_2 := fun (n_ : Nat) => (show (((((w20.drewN n_).setCell ⟨gb103, 0, none⟩ (.string ((rd_T76 l0_0 x8_1).f0))).setCell ⟨gb103, 1, none⟩ (.string ((rd_T76 l0_0 x8_1).f1))).setCell ⟨gb103, 2, none⟩ (.int .i64 ((rd_T76 l0_0 x8_1).f2)))).cell? _ = some _ from hx106_2)); clear hn106_0; clear hn106_1; clear hn106_2; replace p106 := eq_true p106; replace q106 := eq_true q106)); try go_wp2_with fail)
   go_roundg k1
   case measure => have := HK1.out; omega
   case rel => exact ⟨(wrap64 (x8_1 + 1)), (by first | rfl | (simp; done) | (simp [*]; done) | (simp [bne]; done)), H', ⟨by have := HK1.out; omega⟩, ⟨bf_⟩, ⟨bw_ HB⟩⟩

/-! ### impl_copyDisk: function 46 -/
def impl_copyDisk.f (l0_0 : List (S76)) : Option ((List (S76))) := if ([] : List (S76)).length + l0_0.length < 3518437208883 then (some (([] : List (S76)) ++ l0_0)) else (none)
set_option maxHeartbeats 8000000 in
set_option maxRecDepth 100000 in
theorem impl_copyDisk.calls (A0_0 : Option Addr) (c0_0 : Nat) (l0_0 : List (S76)) (r : List (S76)) (w : World) (hr0_0 : Kd.C k76 w A0_0 l0_0.length l0_0) (hc0_0 : l0_0.length ≤ c0_0) (h : impl_copyDisk.f l0_0 = some r) :
  Calls Try.prog 46 #[.agg #[.slice A0_0 l0_0.length c0_0]] w fun e w' => ∃ v0_ : Value, e = .returned (.agg #[v0_]) ∧ Kd.R k76 76 w' w.heap.size (fun _ => True) v0_ r ∧ Below w.heap.size w w' := by
 have hu31 := Try.underlying31
 have HR0_0 := Aside0.mk hr0_0
 have HC0_0 := Aside0.mk hc0_0
 clear hr0_0 hc0_0
 have HB := mk_ (Below.refl w.heap.size w)
 have H : (if ([] : List (S76)).length + l0_0.length < 3518437208883 then (some (([] : List (S76)) ++ l0_0)) else (none)) = some r := h
 clear h
 by_cases c2 : ([] : List (S76)).length + l0_0.length < 3518437208883
 rotate_left
 ·rw [if_neg c2] at H
  exact absurd H (by simp)
 rw [if_pos c2] at H
 have LMc2 := Aside0.mk c2
 clear c2
 obtain ⟨y109, hy109⟩ : ∃ y_ : List (S76), y_ = (([] : List (S76)) ++ l0_0) := ⟨_, rfl⟩
 replace H : (some y109) = some r := by first | (rw [hy109]; with_reducible exact H) | (have H2_ := (Option.bind_some _ _).symm.trans H; rw [hy109]; with_reducible exact H2_) | (have H2_ := (Option.bind_some _ _).symm.trans H; with_reducible exact H2_) | with_reducible exact H | (rw [hy109]; exact H) | exact H
 have Ny109 := Aside0.mk hy109
 clear hy109
 obtain rfl := Option.some.inj H
 go_enter Try.func46, Try.ntmps46
 go_wp2_with (first | ((with_reducible refine gate_dst (N := 1) rfl ?_); refine bx_ (N := 1) (cs := #[.slice A0_0 l0_0.length c0_0]) (t := 31) ?_; intro gb107 hg w3 hbox hb; have BK107 := mk_ (hbox); have GW107 : Aside0 (w.heap.size ≤ gb107) := bz_ hg; have GE107 := GW107; replace HB := bs_ HB hb; clear hb hbox hg) | ((with_reducible refine gate_dst (N := 2) rfl ?_); refine bx_ (N := 2) (cs := #[.slice none 0 0]) (t := 31) ?_; intro gb108 hg w4 hbox hb; have BK108 := mk_ (hbox); have GW108 : Aside0 (w.heap.size ≤ gb108) := bz_ hg; have GE108 := GW108; have NB107_108 := bl_ BK107 hg; have NB108_107 := bg_ BK107 hg; replace BK107 := bb_ BK107 hb; replace HB := bs_ HB hb; clear hb hbox hg; obtain ⟨hnb5, hnc5⟩ := ns_ NB107_108; obtain ⟨hcz6_0, hfz6_0⟩ := b1_ BK107) | ((with_reducible refine gate_builtin (b := .append) (xs := #[.const (.slice none 0 0), .tmp 4]) rfl ?_); at_builtin; refine Kd.R_append_rows k76 (w0 := w) w.heap.size rfl (.const (.slice none 0 0)) (.tmp 4) 29 76 (.agg #[(.string ⟨#[]⟩), (.string ⟨#[]⟩), (.int .i64 0)]) 40 rfl Try.underlying29 info76 rfl (by decide) (by omega) (.slice none 0 0) ([] : List (S76)) l0_0 _ _ _ (fun _ => True) (fun _ => False) rfl rfl ?aO ?aR (fun _ _ h => h) (fun _ h => h.elim) ?aF ?aB ?aS ?aL ?_; (case aR => exact cb_ HR0_0 HB); (case aB => exact (bw_ HB)); (case aF => exact (fun _ _ => trivial)); (case aO => exact ((Kd.R_nil _ _ _ _ (fun _ => True)))); (case aS => exact (below_size (bw_ HB))); (case aL => have := LMc2.out; omega); intro v110 w7 ho hb hg hat; rw [← Ny109.out] at ho; have HO111 := mk_ (ho); replace BK107 := mk_ (blk_grown (g := gb107) (o := .cells #[.slice A0_0 l0_0.length c0_0] 31 (0, 0)) (bp_ BK107) hg (by simp [Value.ownBlock])); replace BK108 := mk_ (blk_grown (g := gb108) (o := .cells #[.slice none 0 0] 31 (0, 0)) (bp_ BK108) hg (by simp [Value.ownBlock])); replace HB := mk_ (hb); clear ho hb hg hat; obtain ⟨Ao8, co8, eo8⟩ := Kd.R_slice HO111.out; subst eo8; obtain ⟨hcz9_0, hfz9_0⟩ := b1_ BK108))
 refine bodyPost_ret (results_cell_row rfl _ _ gb108 31 #[.slice Ao8 y109.length co8] (0, 0) _ rfl bu_ Try.underlying31 rfl (by kernel_rfl)) rfl ?_
 exact ⟨_, er_, rq_ (rt_ HO111 BK108 0 (.slice Ao8 y109.length co8)), bw_ HB⟩

/-! ### impl_File_48: function 48 -/
def enc76 (x : S76) : List Value := [.string x.f0, .string x.f1, .int .i64 x.f2]
theorem own76 {w : World} {base : Nat} {ok : Nat → Prop} {v : Value} {l : List S76} (h : k76.R 76 w base ok v l) : w.ownsRow base 76 3 v l.length (l.flatMap enc76) := Ins.own_of_Rk (fun h => k76_openM h) h
theorem R76 {w : World} {base : Nat} {ok : Nat → Prop} {v : Value} {l : List S76} (hok : ∀ k, v.ownBlock = some k → ok k) (h : w.ownsRow base 76 3 v l.length (l.flatMap enc76)) : k76.R 76 w base ok v l := Ins.Rk_of_own (fun w base ok x => k76_mkM w base ok x) (fun _ => rfl) hok h
theorem one76 (l : List S76) : ∀ u ∈ l.flatMap enc76, u.oneCell' = true := by
 intro u hu
 obtain ⟨x, _, hx⟩ := List.mem_flatMap.1 hu
 simp only [enc76, List.mem_cons, List.not_mem_nil, or_false] at hx
 rcases hx with rfl | rfl | rfl <;> rfl
theorem len76 (l : List S76) : (l.flatMap enc76).length = l.length * 3 := Ins.fl_len (enc := enc76) (fun _ => rfl) l
set_option maxHeartbeats 4000000 in
set_option maxRecDepth 100000 in
theorem fileDelete (base g cap i : Nat) (l : List S76) (w : World) (hi : i < l.length) (hl : l.length < 3518437208883)
  (h : w.ownsRow base 76 3 (.slice (some ⟨g, 0, none⟩) l.length cap) l.length (l.flatMap enc76)) :
  Calls Try.prog 48 #[.slice (some ⟨g, 0, none⟩) l.length cap, .int .i64 i, .int .i64 ((i : Int) + 1)] w fun e w' =>
   e = .returned (.slice (some ⟨g, 0, none⟩) (l.length - 1) cap) ∧ w'.ownsRow base 76 3 (.slice (some ⟨g, 0, none⟩) (l.length - 1) cap) (l.length - 1) ((l.take i ++ l.drop (i + 1)).flatMap enc76) ∧ w.grownBy w' (some g) := by
 have hu29 := Try.underlying29
 have hu76 := Try.underlying76
 obtain ⟨t1, t2, t3, hnc, hcm, hb, hgl⟩ := Ins.own_there h
 have hcut := Ins.own_cut (w := w.drew) (enc := enc76) (fun _ => rfl) hi h
 obtain ⟨m, hm⟩ : ∃ m, l.length = i + 1 + m := ⟨l.length - (i + 1), by omega⟩
 obtain ⟨news, hnews⟩ : ∃ news, news = (l.drop (i + 1)).flatMap enc76 := ⟨_, rfl⟩
 have hlen : news.length = m * 3 := by rw [hnews, len76, List.length_drop, hm]; congr 1; omega
 have hget : ∀ t u, news[t]? = some u → w.cell? ⟨g, (i + 1) * 3 + t, none⟩ = some u := fun t u hu => by
  refine t3 _ _ ?_
  rw [hnews, ← Ins.fl_drop (enc := enc76) (sz := 3) (fun _ => rfl), List.getElem?_drop] at hu
  exact hu
 obtain ⟨A, hA, hsrc⟩ : ∃ A : Addr, (if cap = i + 1 then some (⟨g, 0, none⟩ : Addr) else some ⟨g, (i + 1) * 3, none⟩) = some A ∧ Aside0 (∀ t u, news[t]? = some u → w.drew.cell? (A.add t) = some u) := by
  by_cases hc : cap = i + 1
  ·refine ⟨⟨g, 0, none⟩, by simp [hc], ⟨fun t u hu => ?_⟩⟩
   have h0 : news.length = 0 := by rw [hlen]; omega
   rw [List.length_eq_zero_iff.1 h0] at hu
   simp at hu
  ·exact ⟨⟨g, (i + 1) * 3, none⟩, by simp [hc], ⟨fun t u hu => by rw [Addr.add_lit]; exact hget t u hu⟩⟩
 have s1 := Aside0.mk hlen
 have s2 : Aside0 (∀ u ∈ news, u.oneCell' = true) := ⟨by rw [hnews]; exact one76 _⟩
 have s3 : Aside0 (∀ t, t < news.length → (w.drew.cell? ⟨g, 0 + i * 3 + t, none⟩).isSome = true ∧ w.drew.frozen? ⟨g, 0 + i * 3 + t, none⟩ = false) := ⟨fun t ht => by
  rw [hlen] at ht
  refine ⟨t1 _ ?_, t2 _⟩
  have : (i + 1 + m) * 3 ≤ cap * 3 := Nat.mul_le_mul_right _ (by omega)
  omega⟩
 obtain ⟨i0, hi0, hz0, hz1, hz2⟩ := info_parts info76
 obtain ⟨W1, hW1⟩ : ∃ W1, W1 = w.drew.setCells g (0 + i * 3) news := ⟨_, rfl⟩
 have hcap0 : (cap : Int) ≤ 9223372036854775807 := by unfold maxLen at hcm; omega
 rw [Nat.zero_add] at hW1
 rw [← hnews, ← hW1] at hcut
 obtain ⟨u1, u2, _⟩ := Ins.own_there hcut.1
 obtain ⟨zs, hzs⟩ : ∃ zs : List Value, zs = [.string ⟨#[]⟩, .string ⟨#[]⟩, .int .i64 0] := ⟨_, rfl⟩
 have hzl : zs.length = 3 := by rw [hzs]; rfl
 have hfit : (i + m) * 3 + zs.length ≤ cap * 3 := by
  have : (i + 1 + m) * 3 ≤ cap * 3 := Nat.mul_le_mul_right _ (by omega)
  rw [hzl]; omega
 have hcl : ∀ ty, (Builtin.clear_ #[29] ty #[.slice (some ⟨g, (i + m) * 3, none⟩) (i + 1 + m - (i + m)) (cap - (i + m))]).run Try.prog (w.drew.setCells g (i * 3) news) = .ok (.tuple #[]) ((w.drew.setCells g (i * 3) news).setCells g ((i + m) * 3) zs) := fun ty => by
  rw [← hW1]
  refine Ins.run_clear_sz W1 29 76 ty (.agg #[.string ⟨#[]⟩, .string ⟨#[]⟩, .int .i64 0]) hu29 (fun w => by simp [zeroValue, typeInfo, hi0, hz0]) g ((i + m) * 3) _ _ zs (by omega) ?_ (fun j hj => u1 _ (by omega)) (fun j hj => u2 _) (by rw [hzs]; decide)
  rw [hzs, show i + 1 + m - (i + m) = 1 from by omega]
  exact (Ins.zero_fl (enc := enc76) (sz := 3) (z0 := z76) (fun _ => rfl) (by decide) rfl 1).trans rfl
 have hl1 : l.length - 1 = i + m := by omega
 rw [hl1] at hcut
 have hbe := Ins.own_behind hcut.1 zs hfit
 have HC := Aside0.mk hcut
 have HE := Aside0.mk hbe
 have X := Aside0.mk hW1
 have HM := Aside0.mk hm
 have HG := Aside0.mk h
 have hq1 : (i : Int) + 1 + (m : Int) ≤ (cap : Int) := by omega
 have hq2 : 0 ≤ (i : Int) + 1 + (m : Int) := by omega
 have hq3 : i ≤ cap := by omega
 have hq4 : i + 1 ≤ cap := by omega
 have hq5 : (0 : Int) ≤ (i : Int) + 1 := by omega
 have hq6 : (i : Int) + 1 ≤ (i : Int) + 1 + (m : Int) := by omega
 have hq7 : (i : Int) + (m : Int) ≤ (i : Int) + 1 + (m : Int) := by omega
 have hq8 : (0 : Int) ≤ (i : Int) + (m : Int) := by omega
 have hq9 : ¬ (cap = i + m) := by omega
 clear hcut hget h t1 t2 t3 hlen hnews hW1 hm hnc hl hi hbe hfit hzl hzs u1 u2 hl1
 rw [HM.out] at *
 go_enter Try.func48, Try.ntmps48
 go_wp2_with fail
 go_region_law (refine step_append_room rfl (.tmp 22) (.tmp 25) 29 rfl 76 i0 3 hu29 hi0 hz1 g 0 i cap (by simp [Act.eval, Act.put]) A m (cap - (i + 1)) news (by simp [Act.eval, Act.put]) s1.out hsrc.out s2.out (by omega) s3.out ?_)
 go_wp2
 go_ret
 refine ⟨by rw [show i + 1 + m - 1 = i + m from by omega]; rfl, ?_⟩
 rw [show i + 1 + m - 1 = i + m from by omega]
 have h1 := HC.out
 have h2 := HE.out
 rw [X.out] at h1 h2
 exact ⟨h2.1, ⟨h2.2.os.trans h1.2.os, h2.2.tape.trans h1.2.tape, h2.2.output.trans h1.2.output, Nat.le_trans h1.2.size h2.2.size, fun k hk hne => (h2.2.block k (Nat.lt_of_lt_of_le hk h1.2.size) hne).trans (h1.2.block k hk hne)⟩⟩

/-! ### impl_File_81: function 81 -/
set_option maxHeartbeats 4000000 in
set_option maxRecDepth 100000 in
theorem fileInsert_end (base : Nat) (ok : Nat → Prop) (A : Option Addr) (c vb : Nat) (l : List S76) (x : S76) (w : World) (hl : l.length < 3518437208000) (h : k76.R 76 w base ok (.slice A l.length c) l) (hb : base ≤ w.heap.size) (hfresh : ∀ k, w.heap.size ≤ k → ok k)
  (hx : w.heap[vb]? = some (.cells #[.string x.f0, .string x.f1, .int .i64 x.f2] 76 (0, 0))) :
  Calls Try.prog 81 #[.slice A l.length c, .int .i64 l.length, .slice (some ⟨vb, 0, none⟩) 1 1] w fun e w' => ∃ v', e = .returned v' ∧ k76.R 76 w' base ok v' (l ++ [x]) ∧ w.grownBy w' (Value.slice A l.length c).ownBlock ∧ (v'.ownBlock = (Value.slice A l.length c).ownBlock ∨ ∃ b, v'.ownBlock = some b ∧ w.heap.size ≤ b) := by
 have hu29 := Try.underlying29
 have hu76 := Try.underlying76
 have hR : ReadsRow (fun (p : S76) (cs : List Value) => cs = enc76 p) k76.sz w (some ⟨vb, 0, none⟩) 1 [x] := by
  refine ⟨rfl, by omega, fun _ => ⟨⟨vb, 0, none⟩, rfl, fun j p hj => ?_⟩⟩
  cases j with
  | zero =>
   obtain rfl : x = p := by simpa using hj
   refine ⟨enc76 x, rfl, rfl, fun q u hu => ?_⟩
   rw [Addr.add_lit, blk_cell hx]
   have e : (#[Value.string x.f0, Value.string x.f1, Value.int IntKind.i64 x.f2] : Array Value)[0 + (0 * k76.sz + q)]? = (enc76 x)[q]? := by
    rw [Nat.zero_mul, Nat.zero_add, Nat.zero_add]; simp [enc76]
   rw [e]; exact hu
  | succ j => simp at hj
 have hhi : l.length ≤ c := (Kd.R_reads' h).2.1
 have HR := Aside0.mk hR
 have HO := Aside0.mk h
 have HB := Aside0.mk hb
 have HF := Aside0.mk hfresh
 have HL := Aside0.mk hl
 clear hR h hb hfresh hx hl
 generalize hn : l.length = n at *
 have HN := Aside0.mk hn
 clear hn
 obtain ⟨ob, hob⟩ : ∃ ob, ob = (Value.slice A n c).ownBlock := ⟨_, rfl⟩
 rw [← hob]
 have HOB := Aside0.mk hob
 clear hob
 go_enter Try.func81, Try.ntmps81
 go_wp2_with (at_builtin; refine Kd.R_append_rows k76 (w0 := w) base rfl (.tmp 23) (.tmp 24) 29 76 (.agg #[(.string ⟨#[]⟩), (.string ⟨#[]⟩), (.int .i64 0)]) 40 rfl hu29 info76 rfl (by decide) (by omega) (.slice A n c) l [x] _ _ _ ok (fun _ => False) rfl rfl HO.out HR.out (fun p cs h => by rw [h]; exact k76_mkM _ _ _ p) (fun _ h => h.elim) HF.out (Below.refl _ _) HB.out (by rw [HN.out]; have := HL.out; omega) ?_; intro v1 w1 h1 h2 h3 h4; rw [← HOB.out] at h3 h4)
 all_goals (go_ret; exact ⟨_, rfl, h1, h3, h4⟩)
set_option maxHeartbeats 4000000 in
set_option maxRecDepth 100000 in
theorem fileInsert_shift (base g cap i vb : Nat) (l : List S76) (x : S76) (w : World) (hi : i < l.length) (hl : l.length < 3518437208000) (hroom : l.length + 1 ≤ cap)
  (h : w.ownsRow base 76 3 (.slice (some ⟨g, 0, none⟩) l.length cap) l.length (l.flatMap enc76)) (hx : w.heap[vb]? = some (.cells #[.string x.f0, .string x.f1, .int .i64 x.f2] 76 (0, 0))) (hvb : vb ≠ g) :
  Calls Try.prog 81 #[.slice (some ⟨g, 0, none⟩) l.length cap, .int .i64 i, .slice (some ⟨vb, 0, none⟩) 1 1] w fun e w' =>
   e = .returned (.slice (some ⟨g, 0, none⟩) (l.length + 1) cap) ∧ w'.ownsRow base 76 3 (.slice (some ⟨g, 0, none⟩) (l.length + 1) cap) (l.length + 1) ((l.take i ++ x :: l.drop i).flatMap enc76) ∧ w.grownBy w' (some g) := by
 have hu29 := Try.underlying29
 have hu76 := Try.underlying76
 obtain ⟨t1, t2, t3, hnc, hcm, hb, hgl⟩ := Ins.own_there h
 obtain ⟨i0, hi0, hz0, hz1, hz2⟩ := info_parts info76
 have hsz : (Try.prog.info? 76).map (·.size) = some 3 := by rw [hi0]; simp [hz1]
 obtain ⟨cur, hcur⟩ : ∃ cur, w.heap[g]? = some (.cells cur 76 (0, 0)) := by
  rcases h.2 with ⟨hv, _⟩ | ⟨g', cap', cur, hv, hb, hh, _⟩
  ·cases hv
  ·injection hv with ha _ _; injection ha with ha; injection ha with hg; subst hg; exact ⟨cur, hh⟩
 have hcz : cur.size ≠ 0 := by
  intro e
  have := t1 0 (by omega)
  rw [blk_cell hcur, Array.getElem?_eq_none (by omega)] at this
  simp at this
 have hov : ∀ lb cb, (callFunc 113 #[.slice (some ⟨vb, 0, none⟩) 1 1, .slice (some ⟨g, (i + 1) * 3, none⟩) lb cb]).run Try.prog w = .ok (.value (.bool false)) w := fun lb cb => by
  rw [run_callFunc_extern Try.func113 (by kernel_rfl) (by kernel_rfl) (by kernel_rfl) (e := Extern.SlicesOverlaps.overlaps #[29, 29] #[4]) (by kernel_rfl),
   Lib.run_overlaps_apart w 29 4 76 hu29 3 (fun w => by simp [sizeOf, typeInfo, hi0, hz1]) ⟨vb, 0, none⟩ ⟨g, (i + 1) * 3, none⟩ 1 1 lb cb hvb 76 76 3 cur.size (by unfold World.shape?; rw [hx]; rfl) (by unfold World.shape?; rw [hcur]) hcz (blk_frozen hx 0) (blk_frozen hx 3)]
  rfl
 have hlen : ((l.drop i).flatMap enc76).length = (l.length - i) * 3 := by rw [len76, List.length_drop]
 have hcap3 : (l.length + 1) * 3 ≤ cap * 3 := Nat.mul_le_mul_right _ hroom
 have hsp1 := Ins.own_shift (w := w.drew) (enc := enc76) (fun _ => rfl) hi hroom h
 have hlen2 : (l.take (i + 1) ++ l.drop i).length = l.length + 1 := by rw [List.length_append, List.length_take, List.length_drop]; omega
 obtain ⟨W1, hW1⟩ : ∃ W1, W1 = w.drew.setCells g ((i + 1) * 3) ((l.drop i).flatMap enc76) := ⟨_, rfl⟩
 have hcp1 : ∀ ty dc sc, (Builtin.copy_ #[29, 29] ty #[.slice (some ⟨g, (i + 1) * 3, none⟩) (l.length - i) dc, .slice (some ⟨g, i * 3, none⟩) (l.length + 1 - i) sc]).run Try.prog w.drew = .ok (goInt ((l.length - i : Nat) : Int)) W1 := fun ty dc sc => by
  rw [hW1]
  exact Ins.run_copy_sz w.drew 29 29 ty 76 g ((i + 1) * 3) (l.length - i) dc ⟨g, i * 3, none⟩ (l.length + 1 - i) sc ((l.drop i).flatMap enc76) 3 (l.length - i) hu29 hsz (by simp only [Nat.min_def]; split <;> omega) hlen
   (fun j v hj => by rw [Addr.add_lit]; refine t3 _ v ?_; rw [← Ins.fl_drop (enc := enc76) (sz := 3) (fun _ => rfl), List.getElem?_drop] at hj; exact hj)
   (fun j hj => by rw [hlen] at hj; refine t1 _ ?_; omega) (fun j hj => t2 _) (one76 _)
 rw [← hW1] at hsp1
 have hsp2 : W1.ownsRow base 76 3 (.slice (some ⟨g, 0, none⟩) (l.take (i + 1) ++ l.drop i).length cap) (l.take (i + 1) ++ l.drop i).length ((l.take (i + 1) ++ l.drop i).flatMap enc76) := by rw [hlen2]; exact hsp1.1
 have hov2 := Ins.own_over (enc := enc76) (fun _ => rfl) (i := i) (by rw [hlen2]; omega) x hsp2
 rw [hlen2, Ins.ins_list l i hi x] at hov2
 obtain ⟨u1, u2, u3, _⟩ := Ins.own_there hsp1.1
 have hxW : W1.heap[vb]? = some (.cells #[.string x.f0, .string x.f1, .int .i64 x.f2] 76 (0, 0)) := (hsp1.2.block vb (blk_lt hx) (by simpa using hvb)).trans hx
 have hcp2 : ∀ ty dc, (Builtin.copy_ #[29, 29] ty #[.slice (some ⟨g, i * 3, none⟩) (l.length + 1 - i) dc, .slice (some ⟨vb, 0, none⟩) 1 1]).run Try.prog W1 = .ok (goInt 1) (W1.setCells g (i * 3) (enc76 x)) := fun ty dc =>
  Ins.run_copy_sz W1 29 29 ty 76 g (i * 3) (l.length + 1 - i) dc ⟨vb, 0, none⟩ 1 1 (enc76 x) 3 1 hu29 hsz (by simp only [Nat.min_def]; split <;> omega) rfl
   (fun j v hj => by
    rw [Addr.add_lit, blk_cell hxW, Nat.zero_add, ← hj]
    simp [enc76])
   (fun j hj => by have e : (enc76 x).length = 3 := rfl; rw [e] at hj; refine u1 _ ?_; omega) (fun j hj => u2 _) (fun v hv => one76 [x] v (by simpa using hv))
 have HE : Aside0 ((W1.setCells g (i * 3) (enc76 x)).ownsRow base 76 3 (.slice (some ⟨g, 0, none⟩) (l.length + 1) cap) (l.length + 1) ((l.take i ++ x :: l.drop i).flatMap enc76) ∧ w.grownBy (W1.setCells g (i * 3) (enc76 x)) (some g)) := ⟨hov2.1, ⟨hov2.2.os.trans hsp1.2.os, hov2.2.tape.trans hsp1.2.tape, hov2.2.output.trans hsp1.2.output, Nat.le_trans hsp1.2.size hov2.2.size, fun k hk hne => (hov2.2.block k (Nat.lt_of_lt_of_le hk hsp1.2.size) hne).trans (hsp1.2.block k hk hne)⟩⟩
 have hq1 : ¬ (l.length : Int) + 1 ≤ (i : Int) := by omega
 have hq2 : ¬ ((i : Int) = (l.length : Int)) := by omega
 have hq3 : ¬ ((cap : Int) < (l.length : Int) + 1) := by omega
 have hq4 : (l.length : Int) + 1 ≤ (cap : Int) := by omega
 have hq5 : (i : Int) ≤ (l.length : Int) := by omega
 have hq6 : (i : Int) + 1 ≤ (l.length : Int) + 1 := by omega
 have hq7 : (0 : Int) ≤ (i : Int) + 1 := by omega
 have hq8 : ¬ (cap = i + 1) := by omega
 have hq9 : ¬ (cap = i) := by omega
 have hq10 : (i : Int) ≤ (l.length : Int) + 1 := by omega
 have hq11 : (0 : Int) ≤ (l.length : Int) + 1 := by omega
 have hw1 : IntKind.i64.wrap ((l.length : Int) + 1) = (l.length : Int) + 1 := by rw [IntKind.wrap_i64]; omega
 have hw2 : IntKind.i64.wrap ((i : Int) + 1) = (i : Int) + 1 := by rw [IntKind.wrap_i64]; omega
 clear h hsp1 hsp2 hov2 u1 u2 u3 hxW hx t1 t2 t3 hlen hlen2 hcap3 hW1 hcur hcz
 generalize l.length = n at *
 go_enter Try.func81, Try.ntmps81
 go_wp2_with (simp only [hov])
 go_region_law (refine step_copy_runI rfl _ _ 29 29 rfl _ _ (by simp [Act.eval, Act.put]) (by simp [Act.eval, Act.put]) (hcp1 _ _ _) ?_)
 go_wp2_with (at_builtin; refine wpList_copy_runI _ rfl _ _ 29 29 rfl _ _ rfl rfl (hcp2 _ _) ?_)
 go_ret
 exact ⟨rfl, HE.out⟩
set_option maxHeartbeats 4000000 in
set_option maxRecDepth 100000 in
theorem fileInsert_grow (base g cap i vb : Nat) (l : List S76) (x : S76) (w : World) (hi : i < l.length) (hl : l.length < 3518437208000) (hroom : cap < l.length + 1) (hbs : base ≤ w.heap.size)
  (h : w.ownsRow base 76 3 (.slice (some ⟨g, 0, none⟩) l.length cap) l.length (l.flatMap enc76)) (hx : w.heap[vb]? = some (.cells #[.string x.f0, .string x.f1, .int .i64 x.f2] 76 (0, 0))) :
  Calls Try.prog 81 #[.slice (some ⟨g, 0, none⟩) l.length cap, .int .i64 i, .slice (some ⟨vb, 0, none⟩) 1 1] w fun e w' => ∃ G,
   e = .returned (.slice (some ⟨w.heap.size, 0, none⟩) (l.length + 1) G) ∧ w'.ownsRow base 76 3 (.slice (some ⟨w.heap.size, 0, none⟩) (l.length + 1) G) (l.length + 1) ((l.take i ++ x :: l.drop i).flatMap enc76) ∧ w.grownBy w' (some g) := by
 have hu29 := Try.underlying29
 have hu76 := Try.underlying76
 have hu3 : Try.prog.underlying 3 = some (.int .i64) := Try.underlying3
 obtain ⟨t1, t2, t3, hnc, hcm, hb, hgl⟩ := Ins.own_there h
 obtain ⟨i0, hi0, hz0, hz1, hz2⟩ := info_parts info76
 have hsz : (Try.prog.info? 76).map (·.size) = some 3 := by rw [hi0]; simp [hz1]
 have hol : ((l.take i).flatMap enc76).length = i * 3 := by rw [len76, List.length_take, Nat.min_eq_left (by omega)]
 have hold : (Builtin.firstCells i0.size i (.slice (some ⟨g, 0, none⟩) i cap)).run Try.prog w.drew = .ok ((l.take i).flatMap enc76).toArray w.drew := by
  rw [hz1]
  exact run_firstCells_some w.drew 3 i ⟨g, 0, none⟩ i cap _ hol (fun j v hj => by
   rw [Addr.add_lit, Nat.zero_add]
   refine t3 _ v ?_
   rw [← Ins.fl_take (enc := enc76) (sz := 3) (fun _ => rfl), List.getElem?_take] at hj
   split at hj
   ·exact hj
   ·cases hj)
 have hkk : (l.length : Int) + 1 - (i : Int) = ((l.length + 1 - i : Nat) : Int) := by omega
 have hik : i + (l.length + 1 - i) = l.length + 1 := by omega
 obtain ⟨z, hz⟩ : ∃ z : Value, z = .agg #[.string ⟨#[]⟩, .string ⟨#[]⟩, .int .i64 0] := ⟨_, rfl⟩
 have hzc : z.cells.toList = enc76 z76 := by rw [hz]; rfl
 have hz0' : i0.zero = some z := by rw [hz]; exact hz0
 have hrz : ∀ ty, (Builtin.append_ #[29, 3] ty #[.slice (some ⟨g, 0, none⟩) i cap, .int .i64 ((l.length : Int) + 1 - (i : Int))]).run Try.prog w =
   .ok (.slice (some ⟨w.heap.size, 0, none⟩) (l.length + 1) (grownCap w (l.length + 1) cap 76)) (w.drew.alloc (.cells (((l.take i).flatMap enc76).toArray ++ Builtin.zeroCells z.cells (l.length + 1 - i) ++ Builtin.zeroCells z.cells (grownCap w (l.length + 1) cap 76 - (l.length + 1))) 76)) := fun ty => by
  have h := Lib.run_append_grow_zeros (P := Try.prog) w 29 3 ty 76 i0 z .i64 .i64 hu29 hu3 hi0 hz0' (some ⟨g, 0, none⟩) i cap ((l.take i).flatMap enc76) hold (l.length + 1 - i) (by omega) (by omega) (by omega) (by omega) (by rw [hz2]; omega) (by rw [hz2, hik]; exact growslice_fits hroom (by omega))
  rw [hik] at h
  rw [hkk]
  exact h
 obtain ⟨G, hG⟩ : ∃ G, G = grownCap w (l.length + 1) cap 76 := ⟨_, rfl⟩
 rw [← hG] at hrz
 have hGn : l.length + 1 ≤ G := by rw [hG]; exact grownCap_ge w _ _ _
 have hGm : G ≤ maxLen := by rw [hG]; exact grownCap_le_maxLen w (l.length + 1) cap 76 (by unfold maxLen; omega)
 obtain ⟨L0, hL0⟩ : ∃ L0 : List S76, L0 = l.take i ++ List.replicate (l.length + 1 - i) z76 := ⟨_, rfl⟩
 have hL0l : L0.length = l.length + 1 := by rw [hL0, List.length_append, List.length_take, List.length_replicate]; omega
 have hown0 := Ins.own_grown (w := w.drew) (base := base) (e := 76) (enc := enc76) (sz := 3) (z := z) (z0 := z76) (fun _ => rfl) (by decide) hzc (l.take i) (l.length + 1 - i) (l.length + 1) G (by rw [List.length_take]; omega) hGn hGm hbs
 rw [← hL0] at hown0
 obtain ⟨ROW, hROW⟩ : ∃ ROW : Array Value, ROW = ((l.take i).flatMap enc76).toArray ++ Builtin.zeroCells z.cells (l.length + 1 - i) ++ Builtin.zeroCells z.cells (G - (l.length + 1)) := ⟨_, rfl⟩
 rw [← hROW] at hrz hown0
 obtain ⟨NB, hNB⟩ : ∃ NB, NB = w.heap.size := ⟨_, rfl⟩
 have hown1 : ((w.alloc (.cells ROW 76)).drew).ownsRow base 76 3 (.slice (some ⟨NB, 0, none⟩) L0.length G) L0.length (L0.flatMap enc76) := by rw [hL0l, hNB]; exact hown0
 have hown2 := Ins.own_over (enc := enc76) (fun _ => rfl) (i := i) (by rw [hL0l]; omega) x hown1
 obtain ⟨W2, hW2⟩ : ∃ W2, W2 = ((w.alloc (.cells ROW 76)).drew.setCells NB (i * 3) (enc76 x)).drew := ⟨_, rfl⟩
 have hown3 : W2.ownsRow base 76 3 (.slice (some ⟨NB, 0, none⟩) (L0.set i x).length G) (L0.set i x).length ((L0.set i x).flatMap enc76) := by rw [hW2, List.length_set]; exact hown2.1
 have hown4 := Ins.own_tail (enc := enc76) (fun _ => rfl) (j := i + 1) (l.drop i) (by rw [List.length_set, hL0l, List.length_drop]; omega) hown3
 rw [List.length_set, hL0l, hL0, Ins.ins_grown l i _ hi (by omega) x z76] at hown4
 have hgw : w.grownBy ((w.alloc (.cells ROW 76)).drew) (some g) := by
  have := World.grownBy_alloc w (.cells ROW 76) (some g)
  exact ⟨this.os, this.tape, this.output, this.size, this.block⟩
 have hNl : NB < (w.alloc (.cells ROW 76)).heap.size := by rw [hNB]; exact blk_lt (blk_new w _)
 have hstep : ∀ (W : World) (o : Nat) (vs : List Value), w.grownBy W (some g) → w.grownBy (W.setCells NB o vs) (some g) := fun W o vs hg => by
  obtain ⟨s1, s2, s3, s4⟩ := setCells_same NB vs o W
  exact ⟨s1.trans hg.os, s2.trans hg.tape, s3.trans hg.output, by rw [s4]; exact hg.size, fun k hk hne => (setCells_far vs o k (by omega)).trans (hg.block k hk hne)⟩
 have hg2 : w.grownBy W2 (some g) := by
  have := hstep _ (i * 3) (enc76 x) hgw
  rw [hW2]
  exact ⟨this.os, this.tape, this.output, this.size, this.block⟩
 have hg2' : W2.heap[g]? = w.heap[g]? := by
  rw [hW2]
  show (((w.alloc (.cells ROW 76)).drew.setCells NB (i * 3) (enc76 x))).heap[g]? = _
  rw [setCells_far (enc76 x) (i * 3) g (by omega)]
  exact Below.heap_alloc w _ g hgl
 have hg4 := hstep W2 ((i + 1) * 3) ((l.drop i).flatMap enc76) hg2
 obtain ⟨u1, u2, u3, _⟩ := Ins.own_there hown1
 obtain ⟨y1, y2, y3, _⟩ := Ins.own_there hown3
 have hcap3 : (l.length + 1) * 3 ≤ G * 3 := Nat.mul_le_mul_right _ hGn
 have hvN : vb ≠ NB := by have := blk_lt hx; omega
 have hgN : g ≠ NB := by omega
 have hxW : (w.alloc (.cells ROW 76)).heap[vb]? = some (.cells #[.string x.f0, .string x.f1, .int .i64 x.f2] 76 (0, 0)) := blk_alloc hx _
 have hcA : ∀ (W : World), (∀ a, W.cell? a = (w.alloc (.cells ROW 76)).drew.cell? a) → (∀ a, W.frozen? a = (w.alloc (.cells ROW 76)).drew.frozen? a) → ∀ ty dc, (Builtin.copy_ #[29, 29] ty #[.slice (some ⟨NB, i * 3, none⟩) (l.length + 1 - i) dc, .slice (some ⟨vb, 0, none⟩) 1 1]).run Try.prog W = .ok (goInt 1) (W.setCells NB (i * 3) (enc76 x)) := fun W hWc hWf ty dc =>
  Ins.run_copy_sz W 29 29 ty 76 NB (i * 3) (l.length + 1 - i) dc ⟨vb, 0, none⟩ 1 1 (enc76 x) 3 1 hu29 hsz (by simp only [Nat.min_def]; split <;> omega) rfl
   (fun j v hj => by
    rw [Addr.add_lit, hWc]
    show (w.alloc (.cells ROW 76)).cell? _ = _
    rw [blk_cell hxW, Nat.zero_add, ← hj]
    simp [enc76])
   (fun j hj => by have e : (enc76 x).length = 3 := rfl; rw [e] at hj; rw [hWc]; refine u1 _ ?_; omega) (fun j hj => by rw [hWf]; exact u2 _) (fun v hv => one76 [x] v (by simpa using hv))
 have hlen : ((l.drop i).flatMap enc76).length = (l.length - i) * 3 := by rw [len76, List.length_drop]
 have hcB : ∀ ty dc sc, (Builtin.copy_ #[29, 29] ty #[.slice (some ⟨NB, (i + 1) * 3, none⟩) (l.length - i) dc, .slice (some ⟨g, i * 3, none⟩) (l.length - i) sc]).run Try.prog W2 = .ok (goInt ((l.length - i : Nat) : Int)) (W2.setCells NB ((i + 1) * 3) ((l.drop i).flatMap enc76)) := fun ty dc sc =>
  Ins.run_copy_sz W2 29 29 ty 76 NB ((i + 1) * 3) (l.length - i) dc ⟨g, i * 3, none⟩ (l.length - i) sc ((l.drop i).flatMap enc76) 3 (l.length - i) hu29 hsz (by simp only [Nat.min_def]; split <;> omega) hlen
   (fun j v hj => by
    rw [Addr.add_lit, World.cell?_of_block (a := ⟨g, i * 3 + j, none⟩) hg2']
    refine t3 _ v ?_
    rw [← Ins.fl_drop (enc := enc76) (sz := 3) (fun _ => rfl), List.getElem?_drop] at hj
    exact hj)
   (fun j hj => by rw [hlen] at hj; refine y1 _ ?_; omega) (fun j hj => y2 _) (one76 _)
 have HE := Aside0.mk hown4.1
 have HG4 := Aside0.mk hg4
 have HW2 := Aside0.mk hW2
 have hq2 : ¬ ((i : Int) = (l.length : Int)) := by omega
 have hq3 : (cap : Int) < (l.length : Int) + 1 := by omega
 have hq5 : (i : Int) ≤ (l.length : Int) := by omega
 have hq6 : (i : Int) + 1 ≤ (l.length : Int) + 1 := by omega
 have hq7 : (0 : Int) ≤ (i : Int) + 1 := by omega
 have hq8 : ¬ (G = i + 1) := by omega
 have hq9 : ¬ (G = i) := by omega
 have hq10 : (i : Int) ≤ (l.length : Int) + 1 := by omega
 have hq12 : ¬ (cap = i) := by omega
 have hq13 : i ≤ cap := by omega
 have hq14 : (0 : Int) ≤ (l.length : Int) + 1 - (i : Int) := by omega
 have hw1 : IntKind.i64.wrap ((l.length : Int) + 1) = (l.length : Int) + 1 := by rw [IntKind.wrap_i64]; omega
 have hw2 : IntKind.i64.wrap ((i : Int) + 1) = (i : Int) + 1 := by rw [IntKind.wrap_i64]; omega
 have hw3 : IntKind.i64.wrap ((l.length : Int) + 1 - (i : Int)) = (l.length : Int) + 1 - (i : Int) := by rw [IntKind.wrap_i64]; omega
 clear h hx t1 t2 t3 hlen hg2' hg2 hg4 hstep hown1 hown2 hown3 hown4 hown0 u1 u2 u3 y1 y2 y3 hcap3 hgw hW2 hxW hROW hkk hold hol hik hL0 hL0l hG hz0' hzc
 generalize l.length = n at *
 subst hNB
 have hcA1 : ∀ ty dc, (Builtin.copy_ #[29, 29] ty #[.slice (some ⟨w.heap.size, i * 3, none⟩) (n + 1 - i) dc, .slice (some ⟨vb, 0, none⟩) 1 1]).run Try.prog ((w.alloc (.cells ROW 76)).drew) = .ok (goInt 1) ((w.alloc (.cells ROW 76)).drew.setCells w.heap.size (i * 3) (enc76 x)) := hcA _ (fun _ => rfl) (fun _ => rfl)
 clear hcA
 rw [HW2.out] at hcB
 go_enter Try.func81, Try.ntmps81
 go_wp2_with (first
  | (at_builtin; refine Lib.wpList_append_run _ rfl _ _ _ _ rfl _ _ rfl rfl _ _ (hrz _) ?_))
 go_region_law (refine step_copy_runI rfl _ _ 29 29 rfl _ _ (by simp [Act.eval, Act.put]) (by simp [Act.eval, Act.put]) (hcB _ _ _) ?_)
 go_wp2
 go_ret
 have h1 := HE.out
 have h2 := HG4.out
 rw [HW2.out] at h1 h2
 exact ⟨G, rfl, h1, h2⟩
theorem own_slice76 {w : World} {base : Nat} {ok : Nat → Prop} {v : Value} {l : List S76} (h : k76.R 76 w base ok v l) (hp : 0 < l.length) : ∃ g cap, v = .slice (some ⟨g, 0, none⟩) l.length cap := by
 obtain ⟨g, cap, e, _⟩ := Kd.R_form h hp
 exact ⟨g, cap, e⟩
theorem fileInsert (base : Nat) (ok : Nat → Prop) (v : Value) (l : List S76) (x : S76) (i vb : Nat) (w : World) (hi : i ≤ l.length) (hl : l.length < 3518437208000) (h : k76.R 76 w base ok v l) (hbs : base ≤ w.heap.size) (hfresh : ∀ k, w.heap.size ≤ k → ok k)
  (hx : w.heap[vb]? = some (.cells #[.string x.f0, .string x.f1, .int .i64 x.f2] 76 (0, 0))) (hvb : some vb ≠ v.ownBlock) :
  Calls Try.prog 81 #[v, .int .i64 i, .slice (some ⟨vb, 0, none⟩) 1 1] w fun e w' => ∃ v', e = .returned v' ∧ k76.R 76 w' base ok v' (l.take i ++ x :: l.drop i) ∧ w.grownBy w' v.ownBlock ∧ (v'.ownBlock = v.ownBlock ∨ ∃ b, v'.ownBlock = some b ∧ w.heap.size ≤ b) := by
 have hlen : (l.take i ++ x :: l.drop i).length = l.length + 1 := by rw [List.length_append, List.length_cons, List.length_take, List.length_drop]; omega
 by_cases he : i = l.length
 ·subst he
  obtain ⟨A, c, rfl⟩ := Kd.R_slice h
  rw [List.take_of_length_le (Nat.le_refl _), List.drop_of_length_le (Nat.le_refl _)]
  exact fileInsert_end base ok A c vb l x w hl h hbs hfresh hx
 ·have hi' : i < l.length := by omega
  obtain ⟨g, cap, rfl⟩ := own_slice76 h (by omega)
  have hvg : vb ≠ g := fun e => hvb (by rw [e]; rfl)
  by_cases hr : l.length + 1 ≤ cap
  ·refine (fileInsert_shift base g cap i vb l x w hi' hl hr (own76 h) hx hvg).mono ?_
   rintro e w' ⟨rfl, h1, h2⟩
   refine ⟨_, rfl, R76 (fun k hk => h.1 k hk) ?_, h2, .inl rfl⟩
   rw [hlen]; exact h1
  ·refine (fileInsert_grow base g cap i vb l x w hi' hl (by omega) hbs (own76 h) hx).mono ?_
   rintro e w' ⟨G, rfl, h1, h2⟩
   refine ⟨_, rfl, R76 (fun k hk => ?_) ?_, h2, .inr ⟨_, rfl, Nat.le_refl _⟩⟩
   ·have : w.heap.size = k := Option.some.inj hk
    exact hfresh k (by omega)
   ·rw [hlen]; exact h1

end Go.Proofs.Ythbaoefbccdioaa.QFnActs
