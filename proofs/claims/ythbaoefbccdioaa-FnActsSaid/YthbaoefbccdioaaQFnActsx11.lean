/- Written by this session's own program (wip/tpl/pp.py): what the law's functions come to, and that the machine's calls do just that. -/
import Derived.Test.YthbaoefbccdioaaTMPack
import Derived.Test.YthbaoefbccdioaaQFnActsx0
import Derived.Test.YthbaoefbccdioaaQFnActsx5
import Derived.Test.YthbaoefbccdioaaQFnActsx9
import Derived.Test.YthbaoefbccdioaaQFnActsx10
namespace Go.Proofs.Ythbaoefbccdioaa.QFnActs
open Go.RowKit Go.Proofs.YthbaoefbccdioaaW.PrintWords Go.Proofs.YthbaoefbccdioaaW.PrintLast Go.Proofs.YthbaoefbccdioaaW.PrintMore
attribute [local go_sem] Go.Proofs.Ythbaoefbccdioaa.Sem.string_geq Go.Proofs.Ythbaoefbccdioaa.Sem.string_leq Go.Proofs.Ythbaoefbccdioaa.Sem.string_gtr
attribute [local go_sem] max2_int min2_int max_two min_two max_three min_three max_four min_four   -- for this text's walks alone
set_option linter.unusedVariables false
set_option linter.unusedSimpArgs false

/-! ### spec_l03Disk: function 55 -/
mutual
def spec_l03Disk.l0 : Nat → Int → List Int → Int → Int → List (S76) → Option ((List (S76)) × Int × Int)
 | 0, _, _, _, _, _ => none
 | k + 1, x4, x1000, x1001, x1002, x259000 => (spec_l01Below.f x1000 x1001 x1002 6).bind fun bt259 => (if x4 < bt259.1 then ((spec_l01Below.f x1000 bt259.2.1 bt259.2.2 9).bind fun bt262 => ((spec_l01Text.f k x1000 bt262.2.1 bt262.2.2 bt262.1).bind fun bt265 => ((spec_l03Named.f x1000 bt265.2.1 bt265.2.2).bind fun bt268 => ((spec_l01Below.f x1000 bt268.2.1 bt268.2.2 (wrap64 ((bt265.1.size : Int) + 1))).bind fun bt271 => ((spec_l03Put.f k x259000 bt268.1 bt265.1 bt271.1).bind fun t274 => (spec_l03Disk.l0 k (wrap64 (x4 + 1)) x1000 bt271.2.1 bt271.2.2 t274)))))) else (if (x259000.length : Int) = 0 then (some (x259000, bt259.2.1, bt259.2.2)) else ((spec_l01Below.f x1000 bt259.2.1 bt259.2.2 (x259000.length : Int)).bind fun bt277 => ((spec_l01Below.f x1000 bt277.2.1 bt277.2.2 40).bind fun bt280 => (if bt280.1 = 0 then (if 0 ≤ bt277.1 then (if bt277.1 < (x259000.length : Int) then ((spec_l01PickInt.f x1000 bt280.2.1 bt280.2.2 (([(-1), wrap64 ((((rd_T76 x259000 bt277.1).f1).size : Int) + 1)] : List Int))).bind fun bt287 => (some ((x259000.set (bt277.1 : Int).toNat (⟨(rd_T76 x259000 bt277.1).f0, (rd_T76 x259000 bt277.1).f1, bt287.1⟩ : S76)), bt287.2.1, bt287.2.2))) else (none)) else (none)) else (if bt280.1 = 1 then (if 0 ≤ bt277.1 then (if bt277.1 < (x259000.length : Int) then (if x259000.length < 3518437208883 then (some ((x259000 ++ [(⟨(rd_T76 x259000 bt277.1).f0, (rd_T76 x259000 bt277.1).f1, (rd_T76 x259000 bt277.1).f2⟩ : S76)]), bt280.2.1, bt280.2.2)) else (none)) else (none)) else (none)) else (if bt280.1 = 2 then ((spec_l01Pick.f x1000 bt280.2.1 bt280.2.2 (([(⟨#[]⟩ : ByteArray), (⟨#[49, 50, 51, 52, 53, 54, 55, 56]⟩ : ByteArray), (⟨#[49, 50, 51, 52, 53, 54, 55, 56, 57]⟩ : ByteArray)] : List ByteArray))).bind fun bt298 => (if 0 ≤ bt277.1 then (if bt277.1 < (x259000.length : Int) then (some ((x259000.set (bt277.1 : Int).toNat (⟨bt298.1, (rd_T76 x259000 bt277.1).f1, (rd_T76 x259000 bt277.1).f2⟩ : S76)), bt298.2.1, bt298.2.2)) else (none)) else (none))) else (if bt280.1 = 3 then (spec_l03Disk.l1 k 0 x1000 bt280.2.1 bt280.2.2 (([] : List (S76)))) else (if bt280.1 = 4 then ((spec_l01Below.f x1000 bt280.2.1 bt280.2.2 3).bind fun bt312 => ((spec_l01Long.f k (wrap64 (19999 + bt312.1)) 65).bind fun t315 => (if 0 ≤ bt277.1 then (if bt277.1 < (x259000.length : Int) then (some ((x259000.set (bt277.1 : Int).toNat (⟨(rd_T76 x259000 bt277.1).f0, t315, (rd_T76 x259000 bt277.1).f2⟩ : S76)), bt312.2.1, bt312.2.2)) else (none)) else (none)))) else (some (x259000, bt280.2.1, bt280.2.2)))))))))))
def spec_l03Disk.l1 : Nat → Int → List Int → Int → Int → List (S76) → Option ((List (S76)) × Int × Int)
 | 0, _, _, _, _, _ => none
 | k + 1, x7, x1000, x1001, x1002, x259000 => (spec_l01Below.f x1000 x1001 x1002 2).bind fun bt305 => (if x7 < (wrap64 (30 + bt305.1)) then ((spec_Decimal.f k (wrap64 (100 + x7))).bind fun t308 => (if 1 + t308.size ≤ 9223372036854775807 then (if x259000.length < 3518437208883 then (spec_l03Disk.l1 k (wrap64 (x7 + 1)) x1000 bt305.2.1 bt305.2.2 (x259000 ++ [(⟨(⟨#[102]⟩ : ByteArray) ++ t308, (⟨#[]⟩ : ByteArray), 0⟩ : S76)])) else (none)) else (none))) else (some (x259000, bt305.2.1, bt305.2.2)))
end
def spec_l03Disk.f (k : Nat) (s0_0 : List Int) (s0_1 : Int) (s0_2 : Int) : Option ((List (S76)) × Int × Int) := spec_l03Disk.l0 k 0 s0_0 s0_1 s0_2 ([] : List (S76))
theorem spec_l03Disk.mono_l : ∀ k, (∀ y0 y1 y2 y3 y4, LeO (spec_l03Disk.l0 k y0 y1 y2 y3 y4) (spec_l03Disk.l0 (k + 1) y0 y1 y2 y3 y4)) ∧ (∀ y0 y1 y2 y3 y4, LeO (spec_l03Disk.l1 k y0 y1 y2 y3 y4) (spec_l03Disk.l1 (k + 1) y0 y1 y2 y3 y4))
 | 0 => ⟨fun _ _ _ _ _ r h => by simp [spec_l03Disk.l0] at h, fun _ _ _ _ _ r h => by simp [spec_l03Disk.l1] at h⟩
 | k + 1 => by
  obtain ⟨ih0, ih1⟩ := spec_l03Disk.mono_l k
  refine ⟨?_, ?_⟩
  ·intro y0 y1 y2 y3 y4
   unfold spec_l03Disk.l0
   repeat' first
   | (with_reducible exact ih0 _ _ _ _ _)
   | (with_reducible exact ih1 _ _ _ _ _)
   | (with_reducible exact spec_l01Long.mono _ _ _)
   | (with_reducible exact spec_l01Text.mono _ _ _ _ _)
   | (with_reducible exact spec_l03Put.mono _ _ _ _ _)
   | (with_reducible exact LeO.refl _)
   | (with_reducible refine LeO.ite ?_ ?_)
   | (with_reducible refine LeO.bind ?_ (fun _ => ?_))
  ·intro y0 y1 y2 y3 y4
   unfold spec_l03Disk.l1
   repeat' first
   | (with_reducible exact ih1 _ _ _ _ _)
   | (with_reducible exact spec_Decimal.mono _ _)
   | (with_reducible exact LeO.refl _)
   | (with_reducible refine LeO.ite ?_ ?_)
   | (with_reducible refine LeO.bind ?_ (fun _ => ?_))
theorem spec_l03Disk.mono : ∀ a0 a1 a2 k, LeO (spec_l03Disk.f k a0 a1 a2) (spec_l03Disk.f (k + 1) a0 a1 a2) := by
 intro a0 a1 a2 k
 obtain ⟨ih0, ih1⟩ := spec_l03Disk.mono_l k
 unfold spec_l03Disk.f
 repeat' first
   | (with_reducible exact ih0 _ _ _ _ _)
def spec_l03Disk.T6 : Bool × List (List Nat × List Nat) := (true, [([], []), ([], []), ([1], [1]), ([], []), ([], []), ([], []), ([5], [5]), ([6], [6]), ([4, 7, 2], [4, 7]), ([2, 3, 8], [2, 3, 8]), ([0, 9, 8], [0, 9]), ([10, 10, 0, 1, 2, 3, 4, 5, 6, 7, 8, 9, 10], [10])])
def spec_l03Disk.B6 : List Nat := [0, 0, 2, 0, 0, 0, 32, 96, 246, 510, 1023, 2047]
theorem spec_l03Disk.tab6 : rtab .any (opsOf Try.f55 6) = spec_l03Disk.T6 := by kernel_rfl
theorem spec_l03Disk.bits6 : waitsOk spec_l03Disk.T6.2 spec_l03Disk.B6 = true := by kernel_rfl
def spec_l03Disk.T12 : Bool × List (List Nat × List Nat) := (true, [([], []), ([0], [0]), ([], []), ([], []), ([], []), ([4], [4]), ([], []), ([5, 6], [5, 6]), ([7], [7]), ([8], [8]), ([9], [9]), ([10], [10]), ([11], [11]), ([3, 12], [3, 12]), ([1, 2, 0, 1, 2, 3, 4, 5, 6, 7, 8, 9, 10, 11, 12, 13], [1, 2]), ([14, 0, 1, 2, 3, 4, 5, 6, 7, 8, 9, 10, 11, 12, 13], [14]), ([15, 13, 13, 0, 1, 2, 3, 4, 5, 6, 7, 8, 9, 10, 11, 12, 13], [13, 15])])
def spec_l03Disk.B12 : List Nat := [0, 1, 0, 0, 0, 16, 0, 112, 240, 496, 1008, 2032, 4080, 8184, 16383, 32767, 65535]
theorem spec_l03Disk.tab12 : rtab .any (opsOf Try.f55 12) = spec_l03Disk.T12 := by kernel_rfl
theorem spec_l03Disk.bits12 : waitsOk spec_l03Disk.T12.2 spec_l03Disk.B12 = true := by kernel_rfl
def spec_l03Disk.T14 : Bool × List (List Nat × List Nat) := (true, [([], []), ([0], [0]), ([], []), ([2], [2]), ([], []), ([3, 4], [3, 4]), ([5], [5]), ([6], [6]), ([1, 7], [1, 7]), ([0, 1, 2, 3, 4, 5, 6, 7, 8], []), ([9, 8, 8, 0, 1, 2, 3, 4, 5, 6, 7, 8], [8, 9])])
def spec_l03Disk.B14 : List Nat := [0, 1, 0, 4, 0, 28, 60, 124, 255, 511, 1023]
theorem spec_l03Disk.tab14 : rtab .any (opsOf Try.f55 14) = spec_l03Disk.T14 := by kernel_rfl
theorem spec_l03Disk.bits14 : waitsOk spec_l03Disk.T14.2 spec_l03Disk.B14 = true := by kernel_rfl
def spec_l03Disk.T16 : Bool × List (List Nat × List Nat) := (true, [([], []), ([0], [0]), ([], []), ([], []), ([], []), ([3, 4], [3, 4]), ([1, 2, 0, 1, 2, 3, 4, 5], [1, 2]), ([6, 0, 1, 2, 3, 4, 5], [6]), ([7, 5, 5, 0, 1, 2, 3, 4, 5], [5, 7])])
def spec_l03Disk.B16 : List Nat := [0, 1, 0, 0, 0, 24, 63, 127, 255]
theorem spec_l03Disk.tab16 : rtab .any (opsOf Try.f55 16) = spec_l03Disk.T16 := by kernel_rfl
theorem spec_l03Disk.bits16 : waitsOk spec_l03Disk.T16.2 spec_l03Disk.B16 = true := by kernel_rfl
def spec_l03Disk.T22 : Bool × List (List Nat × List Nat) := (true, [([], []), ([0], [0]), ([], []), ([2], [2]), ([3], [3]), ([4], [4]), ([5], [5]), ([6], [6]), ([1, 7, 4], [1, 7]), ([0, 1, 2, 3, 4, 5, 6, 7, 8], []), ([9, 8, 8, 0, 1, 2, 3, 4, 5, 6, 7, 8], [8, 9])])
def spec_l03Disk.B22 : List Nat := [0, 1, 0, 4, 12, 28, 60, 124, 255, 511, 1023]
theorem spec_l03Disk.tab22 : rtab .any (opsOf Try.f55 22) = spec_l03Disk.T22 := by kernel_rfl
theorem spec_l03Disk.bits22 : waitsOk spec_l03Disk.T22.2 spec_l03Disk.B22 = true := by kernel_rfl
def spec_l03Disk.T24 : Bool × List (List Nat × List Nat) := (true, [([], []), ([0], [0]), ([], []), ([], []), ([3], [3]), ([4], [4]), ([5, 4], [5]), ([1, 2, 0, 1, 2, 3, 4, 5, 6], [1, 2]), ([7, 0, 1, 2, 3, 4, 5, 6], [7]), ([8, 6, 6, 0, 1, 2, 3, 4, 5, 6], [6, 8])])
def spec_l03Disk.B24 : List Nat := [0, 1, 0, 0, 8, 24, 56, 127, 255, 511]
theorem spec_l03Disk.tab24 : rtab .any (opsOf Try.f55 24) = spec_l03Disk.T24 := by kernel_rfl
theorem spec_l03Disk.bits24 : waitsOk spec_l03Disk.T24.2 spec_l03Disk.B24 = true := by kernel_rfl
set_option maxHeartbeats 8000000 in
set_option maxRecDepth 100000 in
theorem spec_l03Disk.calls (k : Nat) (g : Nat) (s0_0 : List Int) (s0_1 : Int) (s0_2 : Int) (r1 : List (S76)) (r2 : Int) (r3 : Int) (w0 w : World) (hI : IsS119 w0 w g s0_0 s0_1 s0_2) (hB : Below w0.heap.size w0 w) (h : spec_l03Disk.f k s0_0 s0_1 s0_2 = some (r1, r2, r3)) :
  Calls Try.prog 55 #[.pointer (some ⟨g, 0, none⟩)] w fun e w' => ∃ v0_ : Value, e = .returned (.agg #[v0_]) ∧ Kd.R k76 76 w' w.heap.size (fun _ => True) v0_ r1 ∧ IsS119 w0 w' g s0_0 r2 r3 ∧ Below w0.heap.size w0 w' ∧ KeepBut w w' g none := by
 have hu31 := Try.underlying31
 have hu76 := Try.underlying76
 have HI0 := Aside0.mk hI
 have HK := mk_ (KeepBut.refl w g none)
 have HL := Aside0.mk hB.size
 clear hI
 have HW0 := Aside0.mk hB.size
 have HB := Aside0.mk hB
 clear hB
 have H : (spec_l03Disk.l0 k 0 s0_0 s0_1 s0_2 ([] : List (S76))) = some (r1, r2, r3) := h
 clear h
 have H' := Aside0.mk H
 clear H
 go_enter Try.func55, Try.ntmps55
 go_wp2_with (first | ((with_reducible refine gate_dst (N := 2) rfl ?_); refine bx_ (N := 2) (cs := #[.slice none 0 0]) (t := 31) ?_; intro gb257 hg w2 hbox hb; have n0_ := mk_ (IsS119.below (IsS119.ii_ HI0) hb); have n1_ := mk_ (KeepBut.trans (kb_ HK) (KeepBut.of_below hb g none) (.inl rfl)); have n2_ := mk_ (below_step (bwi_ HB (IsS119.ge HI0.out)) hb); have n3_ := mk_ (hbox); have n4_ := mk_ ((by rw [hg]; exact (keep_size (w := w) (g := g) (row := none) (kb_ HK)) : w.heap.size ≤ gb257)); have n5_ := mk_ ((Nat.le_trans HW0.out (by rw [hg]; exact (keep_size (w := w) (g := g) (row := none) (kb_ HK)) : w.heap.size ≤ gb257) : w0.heap.size ≤ gb257)); have n6_ := mk_ ((by rw [hg]; exact Nat.ne_of_lt (IsS119.lt (show IsS119 w0 _ g s0_0 s0_1 s0_2 from IsS119.ii_ HI0)) : g ≠ gb257)); have n7_ := mk_ ((by rw [hg]; exact Nat.ne_of_gt (IsS119.lt (show IsS119 w0 _ g s0_0 s0_1 s0_2 from IsS119.ii_ HI0)) : gb257 ≠ g)); clear HI0; clear HK; clear HB; have HI0 := n0_; have HK := n1_; have HB := n2_; have BK257 := n3_; have GW257 := n4_; have GE257 := n5_; have NB0_257 := n6_; have NB257_0 := n7_; clear n0_ n1_ n2_ n3_ n4_ n5_ n6_ n7_; clear hb hbox hg) | ((with_reducible refine gate_dst (N := 3) rfl ?_); refine bx_ (N := 3) (cs := #[.slice none 0 0]) (t := 31) ?_; intro gb258 hg w3 hbox hb; have n0_ := mk_ (IsS119.below (IsS119.ii_ HI0) hb); have n2_ := mk_ (KeepBut.trans (kb_ HK) (KeepBut.of_below hb g none) (.inl rfl)); have n3_ := mk_ (below_step (bwi_ HB (IsS119.ge HI0.out)) hb); have n4_ := mk_ (hbox); have n5_ := mk_ ((by rw [hg]; exact (keep_size (w := w) (g := g) (row := none) (kb_ HK)) : w.heap.size ≤ gb258)); have n6_ := mk_ ((Nat.le_trans HW0.out (by rw [hg]; exact (keep_size (w := w) (g := g) (row := none) (kb_ HK)) : w.heap.size ≤ gb258) : w0.heap.size ≤ gb258)); have n7_ : Aside0 (gb257 ≠ gb258) := bl_ BK257 hg; have n8_ : Aside0 (gb258 ≠ gb257) := bg_ BK257 hg; have n9_ := mk_ ((by rw [hg]; exact Nat.ne_of_lt (IsS119.lt (show IsS119 w0 _ g s0_0 s0_1 s0_2 from IsS119.ii_ HI0)) : g ≠ gb258)); have n10_ := mk_ ((by rw [hg]; exact Nat.ne_of_gt (IsS119.lt (show IsS119 w0 _ g s0_0 s0_1 s0_2 from IsS119.ii_ HI0)) : gb258 ≠ g)); clear HI0; clear HK; clear HB; have HI0 := n0_; have HK := n2_; have HB := n3_; have BK258 := n4_; have GW258 := n5_; have GE258 := n6_; have NB257_258 := n7_; have NB258_257 := n8_; have NB0_258 := n9_; have NB258_0 := n10_; clear n0_ n2_ n3_ n4_ n5_ n6_ n7_ n8_ n9_ n10_; replace BK257 := bb_ BK257 hb; clear hb hbox hg; obtain ⟨hnb4, hnc4⟩ := ns_ NB258_257; obtain ⟨hnb5, hnc5⟩ := ns_ NB258_0; obtain ⟨hcz6_0, hfz6_0⟩ := b1_ BK258))
 go_loopg [4] k (fun kq v4 w' => ∃ (x4_1 : Int) (x1001_1 : Int) (x1002_1 : Int) (x259000_1 : List (S76)) (u259000 : Value), v4 = .int .i64 x4_1 ∧ Aside0 (spec_l03Disk.l0 kq x4_1 s0_0 x1001_1 x1002_1 x259000_1 = some (r1, r2, r3)) ∧ Aside0 (kq ≤ k) ∧ Aside0 (Kd.R k76 76 w' w.heap.size (fun _ => True) u259000 x259000_1) ∧ Aside0 (w'.heap[gb257]? = some (.cells #[(.slice none 0 0)] 31 (0, 0))) ∧ Aside0 (w'.heap[gb258]? = some (.cells #[u259000] 31 (0, 0))) ∧ Aside0 (IsS119 w0 w' g s0_0 x1001_1 x1002_1) ∧ Aside0 (KeepBut w w' g none) ∧ Aside0 (Below w0.heap.size w0 w'))
 case atStart => exact ⟨(0), (s0_1), (s0_2), (([] : List (S76))), (.slice none 0 0), (by first | rfl | (simp; done) | (simp [*]; done) | (simp [bne]; done)), H', ⟨Nat.le_refl _⟩, ⟨by first | exact Kd.R_nil _ _ _ _ _ | exact Kd.N_nil _ _ _ _ _ | exact Kd.V_nil _ _ _ _ _ | exact Kd.Q_nil _ _ _ _ _ | exact Kd.S_nil _ _ _ _ _⟩, ⟨bf_⟩, ⟨bu_⟩, ⟨IsS119.ii_ HI0⟩, ⟨kb_ HK⟩, ⟨bwi_ HB (IsS119.ge HI0.out)⟩⟩
 case round =>
  clear H'
  (try clear p2); (try clear c4); (try clear c5); (try clear hcz6_0); (try clear hfz6_0)
  obtain ⟨x4_1, x1001_1, x1002_1, x259000_1, u259000, rfl, HA, HK1, HO_259000, BK257, BK258, HI0, HK, HB⟩ := hrel
  cases gk with
  | zero => exact absurd HA.out (by simp [spec_l03Disk.l0])
  | succ k1 =>
   have H := HA.out
   clear HA
   simp only [spec_l03Disk.l0] at H
   replace H := Option.bind_eq_some_iff.mp H
   obtain ⟨⟨t259, t260, t261⟩, A70, H⟩ := H
   try dsimp only at H
   have A7 := Aside0.mk A70
   clear A70
   by_cases c8 : x4_1 < t259
   ·rw [if_pos c8] at H
    have c8b0 : decide (x4_1 < t259) = true := decide_eq_true c8
    clear c8
    replace H := Option.bind_eq_some_iff.mp H
    obtain ⟨⟨t262, t263, t264⟩, A90, H⟩ := H
    try dsimp only at H
    have A9 := Aside0.mk A90
    clear A90
    replace H := Option.bind_eq_some_iff.mp H
    obtain ⟨⟨t265, t266, t267⟩, A100, H⟩ := H
    try dsimp only at H
    have A10 := Aside0.mk A100
    clear A100
    replace H := Option.bind_eq_some_iff.mp H
    obtain ⟨⟨t268, t269, t270⟩, A110, H⟩ := H
    try dsimp only at H
    have A11 := Aside0.mk A110
    clear A110
    replace H := Option.bind_eq_some_iff.mp H
    obtain ⟨⟨t271, t272, t273⟩, A120, H⟩ := H
    try dsimp only at H
    have A12 := Aside0.mk A120
    clear A120
    replace H := Option.bind_eq_some_iff.mp H
    obtain ⟨t274, A130, H⟩ := H
    try dsimp only at H
    have A13 := Aside0.mk A130
    clear A130
    have H' := Aside0.mk H
    clear H
    try go_wp2_with (first | ((with_reducible refine gate_callee (f := 83) rfl ?_); refine gl_ 11 Try.func83 #[.pointer (some ⟨g, 0, none⟩), .int .i64 6] ?_; (with_reducible refine (spec_l01Below.calls g s0_0 x1001_1 x1002_1 6 t259 t260 t261 w0 _ ?side1 ?side2 A7.out).mono ?_); (case side1 => exact IsS119.ii_ HI0); (case side2 => exact bwi_ HB (IsS119.ge HI0.out)); rintro e w14 ⟨rfl, hi, hb, hk⟩; refine ⟨_, rfl, ?_⟩; replace HO_259000 := mk_ (Kd.R_mono (Kd.R_keep (IsS119.apart (show IsS119 w0 _ g s0_0 x1001_1 x1002_1 from IsS119.ii_ HI0) (rp_ HO_259000) (by decide)) hk (fun _ h => h.2)) (fun _ h => h.1)); replace BK257 := kz_ BK257 hk NB257_0; replace BK258 := kz_ BK258 hk NB258_0; replace HK := mk_ (KeepBut.trans (kb_ HK) hk (.inl rfl)); replace HB := mk_ (hb); replace HI0 := mk_ (hi); (try clear hb); (try clear hk); (try clear hi)) | ((with_reducible refine gate_callee (f := 83) rfl ?_); refine gl_ 17 Try.func83 #[.pointer (some ⟨g, 0, none⟩), .int .i64 9] ?_; (with_reducible refine (spec_l01Below.calls g s0_0 t260 t261 9 t262 t263 t264 w0 _ ?side1 ?side2 A9.out).mono ?_); (case side1 => exact IsS119.ii_ HI0); (case side2 => exact bwi_ HB (IsS119.ge HI0.out)); rintro e w15 ⟨rfl, hi, hb, hk⟩; refine ⟨_, rfl, ?_⟩; replace HO_259000 := mk_ (Kd.R_mono (Kd.R_keep (IsS119.apart (show IsS119 w0 _ g s0_0 t260 t261 from IsS119.ii_ HI0) (rp_ HO_259000) (by decide)) hk (fun _ h => h.2)) (fun _ h => h.1)); replace BK257 := kz_ BK257 hk NB257_0; replace BK258 := kz_ BK258 hk NB258_0; replace HK := mk_ (KeepBut.trans (kb_ HK) hk (.inl rfl)); replace HB := mk_ (hb); replace HI0 := mk_ (hi); (try clear hb); (try clear hk); (try clear hi)) | ((with_reducible refine gate_callee (f := 84) rfl ?_); refine gl_ 18 Try.func84 #[.pointer (some ⟨g, 0, none⟩), .int .i64 t262] ?_; (with_reducible refine (spec_l01Text.calls k1 g s0_0 t263 t264 t262 t265 t266 t267 w0 _ ?side1 ?side2 A10.out).mono ?_); (case side1 => exact IsS119.ii_ HI0); (case side2 => exact bwi_ HB (IsS119.ge HI0.out)); rintro e w16 ⟨rfl, hi, hb, hk⟩; refine ⟨_, rfl, ?_⟩; replace HO_259000 := mk_ (Kd.R_mono (Kd.R_keep (IsS119.apart (show IsS119 w0 _ g s0_0 t263 t264 from IsS119.ii_ HI0) (rp_ HO_259000) (by decide)) hk (fun _ h => h.2)) (fun _ h => h.1)); replace BK257 := kz_ BK257 hk NB257_0; replace BK258 := kz_ BK258 hk NB258_0; replace HK := mk_ (KeepBut.trans (kb_ HK) hk (.inl rfl)); replace HB := mk_ (hb); replace HI0 := mk_ (hi); (try clear hb); (try clear hk); (try clear hi)))
    have n3_ := mk_ (IsS119.drew HI0.out)
    have n4_ := mk_ (keep_drew HK.out)
    clear HI0; clear HK; have HI0 := n3_; have HK := n4_; clear n3_ n4_; replace HO_259000 := rd_ HO_259000; replace BK257 := kd_ BK257; replace BK258 := kd_ BK258; replace HB := wd_ HB
    refine start_ (n := 12) (S := fun w' => w'.cell? ⟨gb258, 0, none⟩ = some (u259000)) (ds := [11]) #[false, false, false, false, false, false, false, false, false, false, false, false] (by kernel_rfl) rfl rfl (bc_ BK258 0) (fun hHeld => ?_); refine with_tabW spec_l03Disk.tab6 spec_l03Disk.bits6 (fun HT_ HW_ => ?_)
    generalize w16.drew = w17 at HO_259000 BK257 BK258 HI0 HK HB hHeld ⊢
    refine pv_ 1 20 ?_
    refine pv_ 3 22 ?_
    refine pv_ 4 23 ?_
    refine pv_ 5 24 ?_
    refine pv_ 6 25 ?_
    refine pv_ 7 26 ?_
    refine take_ (i := 0) (N := some 19) (v := ?_) (a' := ?_) #[true, true, false, true, true, true, true, true, false, false, false, false] rfl rfl (take_ofW HT_.out HW_.out (by kernel_rfl)) (fun _ _ _ h => h) (Or.inl ⟨by rfl, ?_⟩) hHeld ?_ ?_
    rotate_left
    ·intro w' s0
     go_simp
     with_reducible rfl
    rotate_left
    ·simp only [Act.put, sia_, scz_, scs_, i64_w, i32_w]
     rfl
    refine one_ (i := 2) (N := some 21) #[true, true, true, true, true, true, true, true, false, false, false, false] rfl rfl (one_of HT_.out (by kernel_rfl)) (by decide) (fun K hK => ?_)
    refine goes_ Try.func85 (by kernel_rfl) rfl #[.pointer (some ⟨g, 0, none⟩)] (by rfl) rfl rfl ga_ ?_
    with_reducible refine (spec_l03Named.calls g s0_0 t266 t267 t268 t269 t270 w0 _ ?side1 ?side2 A11.out).mono ?_
    (case side1 => exact IsS119.ii_ HI0)
    (case side2 => exact bwi_ HB (IsS119.ge HI0.out))
    rintro e w18 ⟨rfl, hi, hb, hk⟩
    refine ⟨_, rfl, ?_⟩
    have n0_ := mk_ (Kd.R_mono (Kd.R_keep (IsS119.apart (show IsS119 w0 _ g s0_0 t266 t267 from IsS119.ii_ HI0) (rp_ HO_259000) (by decide)) hk (fun _ h => h.2)) (fun _ h => h.1))
    have n1_ := mk_ (KeepBut.blk hk (g' := gb257) (o := .cells #[.slice none 0 0] 31 (0, 0)) (bp_ BK257) NB257_0.out (by simp))
    have n2_ := mk_ (KeepBut.blk hk (g' := gb258) (o := .cells #[u259000] 31 (0, 0)) (bp_ BK258) NB258_0.out (by simp))
    have n3_ := mk_ (KeepBut.trans (kb_ HK) hk (.inl rfl))
    have n4_ := mk_ (hb)
    have n5_ := mk_ (hi)
    clear HO_259000; clear BK257; clear BK258; clear HK; clear HB; clear HI0; have HO_259000 := n0_; have BK257 := n1_; have BK258 := n2_; have HK := n3_; have HB := n4_; have HI0 := n5_; clear n0_ n1_ n2_ n3_ n4_ n5_; (try clear hb); (try clear hb2); (try clear hk); (try clear hi)
    refine hK.out _ _ (bc_ BK258 0) (fun hHeld => ?_)
    clear hK K
    refine norm_ (a' := ?_) ?_ ?_
    rotate_left
    ·show Act.put _ (some 21) _ = _
     simp only [Act.put, sia_, scz_, scs_, i64_w, i32_w]
     rfl
    refine one_ (i := 8) (N := some 27) #[true, true, true, true, true, true, true, true, true, false, false, false] rfl rfl (one_of HT_.out (by kernel_rfl)) (by decide) (fun K hK => ?_)
    refine goes_ Try.func83 (by kernel_rfl) rfl #[.pointer (some ⟨g, 0, none⟩), .int .i64 (wrap64 ((t265.size : Int) + 1))] (by rfl) rfl rfl ga_ ?_
    with_reducible refine (spec_l01Below.calls g s0_0 t269 t270 (wrap64 ((t265.size : Int) + 1)) t271 t272 t273 w0 _ ?side1 ?side2 A12.out).mono ?_
    (case side1 => exact IsS119.ii_ HI0)
    (case side2 => exact bwi_ HB (IsS119.ge HI0.out))
    rintro e w19 ⟨rfl, hi, hb, hk⟩
    refine ⟨_, rfl, ?_⟩
    have n0_ := mk_ (Kd.R_mono (Kd.R_keep (IsS119.apart (show IsS119 w0 _ g s0_0 t269 t270 from IsS119.ii_ HI0) (rp_ HO_259000) (by decide)) hk (fun _ h => h.2)) (fun _ h => h.1))
    have n1_ := mk_ (KeepBut.blk hk (g' := gb257) (o := .cells #[.slice none 0 0] 31 (0, 0)) (bp_ BK257) NB257_0.out (by simp))
    have n2_ := mk_ (KeepBut.blk hk (g' := gb258) (o := .cells #[u259000] 31 (0, 0)) (bp_ BK258) NB258_0.out (by simp))
    have n3_ := mk_ (KeepBut.trans (kb_ HK) hk (.inl rfl))
    have n4_ := mk_ (hb)
    have n5_ := mk_ (hi)
    clear HO_259000; clear BK257; clear BK258; clear HK; clear HB; clear HI0; have HO_259000 := n0_; have BK257 := n1_; have BK258 := n2_; have HK := n3_; have HB := n4_; have HI0 := n5_; clear n0_ n1_ n2_ n3_ n4_ n5_; (try clear hb); (try clear hb2); (try clear hk); (try clear hi)
    obtain ⟨Ao20, co20, eo20⟩ := Kd.R_slice HO_259000.out
    (first | subst eo20 | (injection eo20 with f1_ f2_ f3_; have f4_ := f1_.symm; have f5_ := f3_.symm; clear f1_ f2_ f3_; subst f4_; subst f5_))
    refine hK.out _ _ (bc_ BK258 0) (fun hHeld => ?_)
    clear hK K
    refine norm_ (a' := ?_) ?_ ?_
    rotate_left
    ·show Act.put _ (some 27) _ = _
     simp only [Act.put, sia_, scz_, scs_, i64_w, i32_w]
     rfl
    refine pv_ 9 28 ?_
    refine one_ (i := 10) (N := some 29) #[true, true, true, true, true, true, true, true, true, true, true, false] rfl rfl (one_of HT_.out (by kernel_rfl)) (by decide) (fun K hK => ?_)
    refine goes_ Try.func41 (by kernel_rfl) rfl #[.agg #[.slice Ao20 x259000_1.length co20], .agg #[.string t268, .string t265, .int .i64 t271]] (by rfl) rfl rfl ga_ ?_
    with_reducible refine (spec_l03Put.calls k1 _ _ x259000_1 t268 t265 t271 t274 _ ?side1 ?side2 A13.out).mono ?_
    (case side1 => exact cr_ HO_259000)
    (case side2 => exact (Kd.R_reads' HO_259000.out).2.1)
    rintro e w21 ⟨v275, rfl, ho0, hb⟩
    refine ⟨_, rfl, ?_⟩
    have n0_ := mk_ (Kd.R_elder' (rp_ HO_259000) (Kd.R_base ho0) hb)
    have n1_ := mk_ (Kd.R_lower (Kd.R_new' ho0 (Kd.R_lt (rp_ HO_259000))) (keep_size (w := w) (g := g) (row := none) (kb_ HK)))
    have n4_ := mk_ (IsS119.below (IsS119.ii_ HI0) hb)
    have n5_ := mk_ (KeepBut.trans (kb_ HK) (KeepBut.of_below hb g none) (.inl rfl))
    have n6_ := mk_ (below_step (bwi_ HB (IsS119.ge HI0.out)) hb)
    clear HO_259000; clear HI0; clear HK; clear HB; have HO_259000 := n0_; have HO276 := n1_; have HI0 := n4_; have HK := n5_; have HB := n6_; clear n0_ n1_ n4_ n5_ n6_; replace BK257 := bb_ BK257 hb; replace BK258 := bb_ BK258 hb; (try clear hb); (try clear hb2); (try clear hk); (try clear hi); (try clear ho0)
    obtain ⟨Ao22, co22, eo22⟩ := Kd.R_slice HO276.out
    (first | subst eo22 | (injection eo22 with f1_ f2_ f3_; have f4_ := f1_.symm; have f5_ := f3_.symm; clear f1_ f2_ f3_; subst f4_; subst f5_))
    refine hK.out _ _ (bc_ BK258 0) (fun hHeld => ?_)
    clear hK K
    refine norm_ (a' := ?_) ?_ ?_
    rotate_left
    ·show Act.put _ (some 29) _ = _
     simp only [Act.put, sia_, scz_, scs_, i64_w, i32_w]
     rfl
    refine last_ (i := 11) (N := none) #[true, true, true, true, true, true, true, true, true, true, true, true] rfl rfl (one_of HT_.out (by kernel_rfl)) (by decide) (fun K hK => ?_)
    have hs23 : w21.cell? ⟨gb258, 0, none⟩ = some (.slice Ao20 x259000_1.length co20) := bc_ BK258 0
    have hfs23 := blk_frozen BK258.out 0
    have hns23_0 := NB257_258.out
    have hms23_0 := NB258_257.out
    refine skip_ (w1 := ?_) (by rfl) rfl ?_ ?_
    rotate_left
    ·go_simp
     rfl
    refine hK.out _ _ ?_
    clear hK K
    refine done_ (done_of HT_.out (by kernel_rfl)) ?_
    try go_wp2
    go_roundg k1
    case measure => have := HK1.out; omega
    case rel => exact ⟨(wrap64 (x4_1 + 1)), (t272), (t273), (t274), (.slice Ao22 t274.length co22), (by first | rfl | (simp; done) | (simp [*]; done) | (simp [bne]; done)), H', ⟨by have := HK1.out; omega⟩, ⟨rq_ (rt_ HO276 BK258 0 (.slice Ao22 t274.length co22))⟩, ⟨bf_⟩, ⟨bu_⟩, ⟨IsS119.ii_ HI0⟩, ⟨kb_ HK⟩, ⟨bwi_ HB (IsS119.ge HI0.out)⟩⟩
   rw [if_neg c8] at H
   have c8b0 : decide (x4_1 < t259) = false := decide_eq_false c8
   clear c8
   by_cases c24 : (x259000_1.length : Int) = 0
   ·rw [if_pos c24] at H
    have c24b0 : ((x259000_1.length : Int) == 0) = true := beq_iff_eq.mpr c24
    have c24b1 : ((x259000_1.length : Int) != 0) = false := bne_eq_false_iff_eq.mpr c24
    clear c24
    simp only [Option.some.injEq, Prod.mk.injEq] at H
    obtain ⟨rfl, rfl, rfl⟩ := H
    go_wp2_with (first | ((with_reducible refine gate_callee (f := 83) rfl ?_); refine gl_ 11 Try.func83 #[.pointer (some ⟨g, 0, none⟩), .int .i64 6] ?_; (with_reducible refine (spec_l01Below.calls g s0_0 x1001_1 x1002_1 6 t259 t260 t261 w0 _ ?side1 ?side2 A7.out).mono ?_); (case side1 => exact IsS119.ii_ HI0); (case side2 => exact bwi_ HB (IsS119.ge HI0.out)); rintro e w25 ⟨rfl, hi, hb, hk⟩; refine ⟨_, rfl, ?_⟩; replace HO_259000 := mk_ (Kd.R_mono (Kd.R_keep (IsS119.apart (show IsS119 w0 _ g s0_0 x1001_1 x1002_1 from IsS119.ii_ HI0) (rp_ HO_259000) (by decide)) hk (fun _ h => h.2)) (fun _ h => h.1)); replace BK257 := kz_ BK257 hk NB257_0; replace BK258 := kz_ BK258 hk NB258_0; replace HK := mk_ (KeepBut.trans (kb_ HK) hk (.inl rfl)); replace HB := mk_ (hb); replace HI0 := mk_ (hi); (try clear hb); (try clear hk); (try clear hi); obtain ⟨hnb26, hnc26⟩ := ns_ NB258_257; obtain ⟨hnb27, hnc27⟩ := ns_ NB258_0; obtain ⟨hcz28_0, hfz28_0⟩ := b1_ BK258; obtain ⟨Ao29, co29, eo29⟩ := Kd.R_slice HO_259000.out; subst eo29; obtain ⟨hnb30, hnc30⟩ := ns_ NB257_0; obtain ⟨hcz31_0, hfz31_0⟩ := b1_ BK257))
    refine bodyPost_ret (results_cell_row rfl _ _ gb257 31 #[.slice Ao29 x259000_1.length co29] (0, 0) _ rfl bu_ Try.underlying31 rfl (by kernel_rfl)) rfl ?_
    exact ⟨_, er_, rq_ (rt_ HO_259000 BK257 0 (.slice Ao29 x259000_1.length co29)), IsS119.ii_ HI0, bwi_ HB (IsS119.ge HI0.out), kb_ HK⟩
   rw [if_neg c24] at H
   have c24b0 : ((x259000_1.length : Int) == 0) = false := beq_eq_false_iff_ne.mpr c24
   have c24b1 : ((x259000_1.length : Int) != 0) = true := bne_iff_ne.mpr c24
   have c24b2 : ¬ (x259000_1 = []) := fun h_ => c24 (by rw [h_]; rfl)
   replace H := Option.bind_eq_some_iff.mp H
   obtain ⟨⟨t277, t278, t279⟩, A320, H⟩ := H
   try dsimp only at H
   have A32 := Aside0.mk A320
   clear A320
   replace H := Option.bind_eq_some_iff.mp H
   obtain ⟨⟨t280, t281, t282⟩, A330, H⟩ := H
   try dsimp only at H
   have A33 := Aside0.mk A330
   clear A330
   by_cases c34 : t280 = 0
   ·rw [if_pos c34] at H
    have c34b0 : (t280 == 0) = true := beq_iff_eq.mpr c34
    have c34b1 : (t280 != 0) = false := bne_eq_false_iff_eq.mpr c34
    clear c34
    by_cases c35 : 0 ≤ t277
    rotate_left
    ·rw [if_neg c35] at H
     exact absurd H (by simp)
    rw [if_pos c35] at H
    have c35b0 : decide (0 ≤ t277) = true := decide_eq_true c35
    clear c35
    by_cases c36 : t277 < (x259000_1.length : Int)
    rotate_left
    ·rw [if_neg c36] at H
     exact absurd H (by simp)
    rw [if_pos c36] at H
    have c36b0 : decide (t277 < (x259000_1.length : Int)) = true := decide_eq_true c36
    clear c36
    obtain ⟨y284, hy284⟩ : ∃ y_ : List Int, y_ = (([(-1), wrap64 ((((rd_T76 x259000_1 t277).f1).size : Int) + 1)] : List Int)) := ⟨_, rfl⟩
    replace H : ((spec_l01PickInt.f s0_0 t281 t282 y284).bind fun bt287 => (some ((x259000_1.set (t277 : Int).toNat (⟨(rd_T76 x259000_1 t277).f0, (rd_T76 x259000_1 t277).f1, bt287.1⟩ : S76)), bt287.2.1, bt287.2.2))) = some (r1, r2, r3) := by first | (rw [hy284]; with_reducible exact H) | (have H2_ := (Option.bind_some _ _).symm.trans H; rw [hy284]; with_reducible exact H2_) | (have H2_ := (Option.bind_some _ _).symm.trans H; with_reducible exact H2_) | with_reducible exact H | (rw [hy284]; exact H) | exact H
    have Ny284 := Aside0.mk hy284
    clear hy284
    replace H := Option.bind_eq_some_iff.mp H
    obtain ⟨⟨t287, t288, t289⟩, A370, H⟩ := H
    try dsimp only at H
    have A37 := Aside0.mk A370
    clear A370
    obtain ⟨y290, hy290⟩ : ∃ y_ : List (S76), y_ = (x259000_1.set (t277 : Int).toNat (⟨(rd_T76 x259000_1 t277).f0, (rd_T76 x259000_1 t277).f1, t287⟩ : S76)) := ⟨_, rfl⟩
    replace H : (some (y290, t288, t289)) = some (r1, r2, r3) := by first | (rw [hy290]; with_reducible exact H) | (have H2_ := (Option.bind_some _ _).symm.trans H; rw [hy290]; with_reducible exact H2_) | (have H2_ := (Option.bind_some _ _).symm.trans H; with_reducible exact H2_) | with_reducible exact H | (rw [hy290]; exact H) | exact H
    have Ny290 := Aside0.mk hy290
    clear hy290
    simp only [Option.some.injEq, Prod.mk.injEq] at H
    obtain ⟨rfl, rfl, rfl⟩ := H
    try go_wp2_with (first | ((with_reducible refine gate_callee (f := 83) rfl ?_); refine gl_ 11 Try.func83 #[.pointer (some ⟨g, 0, none⟩), .int .i64 6] ?_; (with_reducible refine (spec_l01Below.calls g s0_0 x1001_1 x1002_1 6 t259 t260 t261 w0 _ ?side1 ?side2 A7.out).mono ?_); (case side1 => exact IsS119.ii_ HI0); (case side2 => exact bwi_ HB (IsS119.ge HI0.out)); rintro e w39 ⟨rfl, hi, hb, hk⟩; refine ⟨_, rfl, ?_⟩; replace HO_259000 := mk_ (Kd.R_mono (Kd.R_keep (IsS119.apart (show IsS119 w0 _ g s0_0 x1001_1 x1002_1 from IsS119.ii_ HI0) (rp_ HO_259000) (by decide)) hk (fun _ h => h.2)) (fun _ h => h.1)); replace BK257 := kz_ BK257 hk NB257_0; replace BK258 := kz_ BK258 hk NB258_0; replace HK := mk_ (KeepBut.trans (kb_ HK) hk (.inl rfl)); replace HB := mk_ (hb); replace HI0 := mk_ (hi); (try clear hb); (try clear hk); (try clear hi); obtain ⟨hnb40, hnc40⟩ := ns_ NB258_257; obtain ⟨hnb41, hnc41⟩ := ns_ NB258_0; obtain ⟨hcz42_0, hfz42_0⟩ := b1_ BK258; obtain ⟨Ao43, co43, eo43⟩ := Kd.R_slice HO_259000.out; subst eo43) | ((with_reducible refine gate_callee (f := 83) rfl ?_); refine gl_ 39 Try.func83 #[.pointer (some ⟨g, 0, none⟩), .int .i64 (x259000_1.length : Int)] ?_; (with_reducible refine (spec_l01Below.calls g s0_0 t260 t261 (x259000_1.length : Int) t277 t278 t279 w0 _ ?side1 ?side2 A32.out).mono ?_); (case side1 => exact IsS119.ii_ HI0); (case side2 => exact bwi_ HB (IsS119.ge HI0.out)); rintro e w44 ⟨rfl, hi, hb, hk⟩; refine ⟨_, rfl, ?_⟩; replace HO_259000 := mk_ (Kd.R_mono (Kd.R_keep (IsS119.apart (show IsS119 w0 _ g s0_0 t260 t261 from IsS119.ii_ HI0) (rp_ HO_259000) (by decide)) hk (fun _ h => h.2)) (fun _ h => h.1)); replace BK257 := kz_ BK257 hk NB257_0; replace BK258 := kz_ BK258 hk NB258_0; replace HK := mk_ (KeepBut.trans (kb_ HK) hk (.inl rfl)); replace HB := mk_ (hb); replace HI0 := mk_ (hi); (try clear hb); (try clear hk); (try clear hi)) | ((with_reducible refine gate_callee (f := 83) rfl ?_); refine gl_ 41 Try.func83 #[.pointer (some ⟨g, 0, none⟩), .int .i64 40] ?_; (with_reducible refine (spec_l01Below.calls g s0_0 t278 t279 40 t280 t281 t282 w0 _ ?side1 ?side2 A33.out).mono ?_); (case side1 => exact IsS119.ii_ HI0); (case side2 => exact bwi_ HB (IsS119.ge HI0.out)); rintro e w45 ⟨rfl, hi, hb, hk⟩; refine ⟨_, rfl, ?_⟩; replace HO_259000 := mk_ (Kd.R_mono (Kd.R_keep (IsS119.apart (show IsS119 w0 _ g s0_0 t278 t279 from IsS119.ii_ HI0) (rp_ HO_259000) (by decide)) hk (fun _ h => h.2)) (fun _ h => h.1)); replace BK257 := kz_ BK257 hk NB257_0; replace BK258 := kz_ BK258 hk NB258_0; replace HK := mk_ (KeepBut.trans (kb_ HK) hk (.inl rfl)); replace HB := mk_ (hb); replace HI0 := mk_ (hi); (try clear hb); (try clear hk); (try clear hi)))
    have n3_ := mk_ (IsS119.drew HI0.out)
    have n4_ := mk_ (keep_drew HK.out)
    clear HI0; clear HK; have HI0 := n3_; have HK := n4_; clear n3_ n4_; replace HO_259000 := rd_ HO_259000; replace BK257 := kd_ BK257; replace BK258 := kd_ BK258; replace HB := wd_ HB
    have p283 : 0 ≤ (t277 : Int) := od_
    have q283 : t277 < (x259000_1.length : Int) := od_
    obtain ⟨ad283, e283, hx283_0, hx283_1, hx283_2⟩ := at_T76 (Kd.R_reads' HO_259000.out).2.2 t277 p283 q283
    cases e283
    replace p283 := eq_true p283
    replace q283 := eq_true q283
    refine start_ (n := 17) (S := fun w' => w'.cell? ⟨gb258, 0, none⟩ = some (.slice (some ad283) x259000_1.length co43) ∧ w'.cell? (ad283.add ((t277).toNat * 3)) = some (.string ((rd_T76 x259000_1 t277).f0)) ∧ w'.cell? ⟨(ad283.add ((t277).toNat * 3)).block, (ad283.add ((t277).toNat * 3)).off + 1, none⟩ = some (.string ((rd_T76 x259000_1 t277).f1)) ∧ w'.cell? ⟨(ad283.add ((t277).toNat * 3)).block, (ad283.add ((t277).toNat * 3)).off + 2, none⟩ = some (.int .i64 ((rd_T76 x259000_1 t277).f2))) (ds := [16]) #[false, false, false, false, false, false, false, false, false, false, false, false, false, false, false, false, false] (by kernel_rfl) rfl rfl ⟨bc_ BK258 0, hx283_0, hx283_1, hx283_2⟩ (fun hHeld => ?_); refine with_tabW spec_l03Disk.tab12 spec_l03Disk.bits12 (fun HT_ HW_ => ?_)
    generalize w45.drew = w46 at HO_259000 BK257 BK258 HI0 HK HB hx283_0 hx283_1 hx283_2 hHeld ⊢
    refine pv_ 0 44 ?_
    refine pv_ 2 46 ?_
    refine pv_ 3 47 ?_
    refine pv_ 4 48 ?_
    refine pv_ 6 50 ?_
    refine tv_ 1 45 hHeld ?_
    refine tv_ 5 49 hHeld ?_
    refine pv_ 7 51 ?_
    refine pv_ 8 52 ?_
    refine tv_ 9 53 hHeld ?_
    refine pv_ 10 54 ?_
    refine pv_ 11 55 ?_
    refine one_ (i := 12) (N := some 56) #[true, true, true, true, true, true, true, true, true, true, true, true, true, false, false, false, false] rfl rfl (one_of HT_.out (by kernel_rfl)) (by decide) (fun K hK => ?_)
    refine Kd.R_lit_step (Kd.int .i64) _ 3 ?hg (N := 56) ?hd (xs := ([(-1), wrap64 ((((rd_T76 x259000_1 t277).f1).size : Int) + 1)] : List Int)) (inner := [.int .i64 (-1), .int .i64 (wrap64 ((((rd_T76 x259000_1 t277).f1).size : Int) + 1))]) (ok := fun _ => True) (okp := fun _ => True) ?hr ?hp (fun _ hk => hk) trivial (Below.refl _ _) (Nat.le_refl _) (by simp) ?_; (case hd => rfl); (case hg => rfl); (case hr => first | (go_simp; done) | (go_simp; rfl)); (case hp => exact (Reps.one (show Kd.M (Kd.int .i64) _ _ _ (-1) [.int .i64 (-1)] from rfl) (Reps.one (show Kd.M (Kd.int .i64) _ _ _ (wrap64 ((((rd_T76 x259000_1 t277).f1).size : Int) + 1)) [.int .i64 (wrap64 ((((rd_T76 x259000_1 t277).f1).size : Int) + 1))] from rfl) (Reps.none _ _))))
    intro v285 w47 ho48 hb hg_ hnew_
    have HS1_ := (hb.cell (World.block_lt_of_cell? _ _ (hHeld.2.1))).trans (hHeld.2.1)
    have HS2_ := (hb.cell (World.block_lt_of_cell? _ _ (hHeld.2.2.1))).trans (hHeld.2.2.1)
    have HS3_ := (hb.cell (World.block_lt_of_cell? _ _ (hHeld.2.2.2))).trans (hHeld.2.2.2)
    clear hg_ hnew_
    (first | rw [← Ny284.out] at ho48 | (simp only [Int.reduceToNat] at ho48; rw [← Ny284.out] at ho48))
    have n1_ := mk_ (Kd.R_lower ho48 (keep_size (w := w) (g := g) (row := none) (kb_ HK)))
    have n4_ := mk_ (IsS119.below (IsS119.ii_ HI0) hb)
    have n5_ := mk_ (KeepBut.trans (kb_ HK) (KeepBut.of_below hb g none) (.inl rfl))
    have n6_ := mk_ (below_step (bwi_ HB (IsS119.ge HI0.out)) hb)
    clear HI0; clear HK; clear HB; have HO286 := n1_; have HI0 := n4_; have HK := n5_; have HB := n6_; clear n1_ n4_ n5_ n6_; replace HO_259000 := rb_ HO_259000 hb; replace BK257 := bb_ BK257 hb; replace BK258 := bb_ BK258 hb; clear hb ho48
    obtain ⟨Ao49, co49, eo49⟩ := Kd.R_slice HO286.out
    (first | subst eo49 | (injection eo49 with f1_ f2_ f3_; have f4_ := f1_.symm; have f5_ := f3_.symm; clear f1_ f2_ f3_; subst f4_; subst f5_))
    refine hK.out _ _ ⟨bc_ BK258 0, HS1_, HS2_, HS3_⟩ (fun hHeld => ?_)
    clear hK K
    refine norm_ (a' := ?_) ?_ ?_
    rotate_left
    ·show Act.put _ (some 56) _ = _
     simp only [Act.put, sia_, scz_, scs_, i64_w, i32_w]
     rfl
    refine one_ (i := 13) (N := some 57) #[true, true, true, true, true, true, true, true, true, true, true, true, true, true, false, false, false] rfl rfl (one_of HT_.out (by kernel_rfl)) (by decide) (fun K hK => ?_)
    refine goes_ Try.func86 (by kernel_rfl) rfl #[.pointer (some ⟨g, 0, none⟩), .slice Ao49 y284.length co49] (by rfl) rfl rfl ga_ ?_
    with_reducible refine (spec_l01PickInt.calls g s0_0 t281 t282 _ _ y284 t287 t288 t289 w0 _ ?side1 ?side2 ?side3 ?side4 ?side5 A37.out).mono ?_
    (case side1 => exact IsS119.ii_ HI0)
    (case side2 => exact bwi_ HB (IsS119.ge HI0.out))
    (case side3 => exact cr_ HO286)
    (case side4 => exact (Kd.R_reads' HO286.out).2.1)
    (case side5 => exact far_slice (IsS119.own_ne HI0.out HO286.out (by decide)))
    rintro e w50 ⟨rfl, hi, hb, hk⟩
    have HS1_ := keep_cell hk (hHeld.2.1) (by first | (rw [add_block]; exact Kd.own_blk (IsS119.own_ne HI0.out HO_259000.out (by decide))) | (show (Addr.add _ _).block ≠ _; rw [add_block]; exact Kd.own_blk (IsS119.own_ne HI0.out HO_259000.out (by decide))) | exact Kd.own_blk (IsS119.own_ne HI0.out HO_259000.out (by decide)))
    have HS2_ := keep_cell hk (hHeld.2.2.1) (by first | (rw [add_block]; exact Kd.own_blk (IsS119.own_ne HI0.out HO_259000.out (by decide))) | (show (Addr.add _ _).block ≠ _; rw [add_block]; exact Kd.own_blk (IsS119.own_ne HI0.out HO_259000.out (by decide))) | exact Kd.own_blk (IsS119.own_ne HI0.out HO_259000.out (by decide)))
    have HS3_ := keep_cell hk (hHeld.2.2.2) (by first | (rw [add_block]; exact Kd.own_blk (IsS119.own_ne HI0.out HO_259000.out (by decide))) | (show (Addr.add _ _).block ≠ _; rw [add_block]; exact Kd.own_blk (IsS119.own_ne HI0.out HO_259000.out (by decide))) | exact Kd.own_blk (IsS119.own_ne HI0.out HO_259000.out (by decide)))
    refine ⟨_, rfl, ?_⟩
    have n0_ := mk_ (Kd.R_mono (Kd.R_keep (IsS119.apart (show IsS119 w0 _ g s0_0 t281 t282 from IsS119.ii_ HI0) (rp_ HO_259000) (by decide)) hk (fun _ h => h.2)) (fun _ h => h.1))
    have n1_ := mk_ (KeepBut.blk hk (g' := gb257) (o := .cells #[.slice none 0 0] 31 (0, 0)) (bp_ BK257) NB257_0.out (by simp))
    have n2_ := mk_ (KeepBut.blk hk (g' := gb258) (o := .cells #[.slice (some ad283) x259000_1.length co43] 31 (0, 0)) (bp_ BK258) NB258_0.out (by simp))
    have n3_ := mk_ (Kd.R_mono (Kd.R_keep (IsS119.apart (show IsS119 w0 _ g s0_0 t281 t282 from IsS119.ii_ HI0) (rp_ HO286) (by decide)) hk (fun _ h => h.2)) (fun _ h => h.1))
    have n4_ := mk_ (KeepBut.trans (kb_ HK) hk (.inl rfl))
    have n5_ := mk_ (hb)
    have n6_ := mk_ (hi)
    clear HO_259000; clear BK257; clear BK258; clear HO286; clear HK; clear HB; clear HI0; have HO_259000 := n0_; have BK257 := n1_; have BK258 := n2_; have HO286 := n3_; have HK := n4_; have HB := n5_; have HI0 := n6_; clear n0_ n1_ n2_ n3_ n4_ n5_ n6_; (try clear hb); (try clear hb2); (try clear hk); (try clear hi)
    have p38 : 0 ≤ (t277 : Int) := od_
    have q38 : (t277 : Int) < ((x259000_1.length : Int) : Int) := od_
    obtain ⟨go38, co38, eo38, gb38, gl38, cl38, HG38⟩ := Kd.R_form HO_259000.out (by omega)
    (first | cases eo38 | (injection eo38 with ea_ en_ ec_; (first | subst ea_ | (injection ea_ with ea_; subst ea_)); subst ec_; clear en_))
    have GB38 := Aside0.mk gb38
    have GG38 := Aside0.mk HG38
    clear gb38 gl38 HG38
    (first | simp only [add_plain] at hx283_0 | skip)
    (first | simp only [add_plain] at hx283_1 | skip)
    (first | simp only [add_plain] at hx283_2 | skip)
    obtain ⟨ce38, hcl38, hM38, hcc38, hfr38⟩ := Kd.R_elem HO_259000.out z76 (t277 : Int) p38 q38
    obtain rfl := k76_openM hM38
    have hx38_0 : World.cell? _ ⟨go38, (t277 : Int).toNat * 3, none⟩ = some (.string ((rd_T76 x259000_1 t277).f0)) := hcc38 0 _ rfl
    have hx38_1 : World.cell? _ ⟨go38, (t277 : Int).toNat * 3 + 1, none⟩ = some (.string ((rd_T76 x259000_1 t277).f1)) := hcc38 1 _ rfl
    have hx38_2 : World.cell? _ ⟨go38, (t277 : Int).toNat * 3 + 2, none⟩ = some (.int .i64 ((rd_T76 x259000_1 t277).f2)) := hcc38 2 _ rfl
    have hf38_0 : World.frozen? _ ⟨go38, (t277 : Int).toNat * 3, none⟩ = false := hfr38 0
    have hf38_1 : World.frozen? _ ⟨go38, (t277 : Int).toNat * 3 + 1, none⟩ = false := hfr38 1
    have hf38_2 : World.frozen? _ ⟨go38, (t277 : Int).toNat * 3 + 2, none⟩ = false := hfr38 2
    clear hcl38 hcc38 hfr38 hM38
    replace p38 := eq_true p38
    replace q38 := eq_true q38
    have HN0_go38 := mk_ (show g ≠ go38 from by have h_ := IsS119.own_ne HI0.out HO_259000.out (by decide); intro e_; exact h_ (by rw [e_]; rfl))
    obtain ⟨ce51, hcl51, hM51, hcc51, hfr51⟩ := Kd.R_elem HO_259000.out z76 (t277 : Int) (od_) (by have h_ : (t277 : Int) < ((x259000_1.length : Int) : Int) := od_; first | exact h_ | (have e_ := (Kd.R_reads' HO_259000.out).1; omega) | simpa using h_)
    obtain rfl := k76_openM hM51
    have HP51 := (Kd.R_seg HO_259000.out (t277 : Int) (od_) (by have h_ : (t277 : Int) < ((x259000_1.length : Int) : Int) := od_; first | exact h_ | (have e_ := (Kd.R_reads' HO_259000.out).1; omega) | simpa using h_) (seg := [.int .i64 t287]) (j := 2) hcl51 hcc51 (show 3 ≤ 3 from by decide) (x' := (⟨(rd_T76 x259000_1 t277).f0, (rd_T76 x259000_1 t277).f1, t287⟩ : S76)) (k76_mkM _ _ _ (⟨(rd_T76 x259000_1 t277).f0, (rd_T76 x259000_1 t277).f1, t287⟩ : S76) ) (fun _ hk => hk)).1
    rw [← Ny290.out] at HP51
    have HQ51 := Aside0.mk HP51
    clear hcl51 hcc51 hfr51 hM51 HP51
    refine hK.out _ _ ⟨bc_ BK258 0, HS1_, HS2_, HS3_⟩ (fun hHeld => ?_)
    clear hK K
    refine norm_ (a' := ?_) ?_ ?_
    rotate_left
    ·show Act.put _ (some 57) _ = _
     simp only [Act.put, sia_, scz_, scs_, i64_w, i32_w]
     rfl
    refine pv_ 14 58 ?_
    refine pv_ 15 59 ?_
    refine last_ (i := 16) (N := none) #[true, true, true, true, true, true, true, true, true, true, true, true, true, true, true, true, true] rfl rfl (one_of HT_.out (by kernel_rfl)) (by decide) (fun K hK => ?_)
    refine skip_ (w1 := ?_) (by rfl) rfl ?_ ?_
    rotate_left
    ·go_simp
     rfl
    refine hK.out _ _ ?_
    clear hK K
    refine done_ (done_of HT_.out (by kernel_rfl)) ?_
    have n0_ : Aside0 (Kd.R k76 76 (w50.setCell ⟨go38, (t277 : Int).toNat * 3 + 2, none⟩ (.int .i64 t287)) w.heap.size (fun _ => True) (.slice (some ⟨go38, 0, none⟩) x259000_1.length co43) y290) := ⟨rq_ HQ51.out⟩
    have n1_ : Aside0 (Kd.R (Kd.int .i64) 3 (w50.setCell ⟨go38, (t277 : Int).toNat * 3 + 2, none⟩ (.int .i64 t287)) w.heap.size (fun _ => True) (.slice Ao49 y284.length co49) y284) := ⟨rq_ (Kd.R_mono (Kd.R_far (p := ⟨go38, (t277 : Int).toNat * 3 + 2, none⟩) (Kd.R_types HO286.out GG38.out (by decide)) (fun _ hk => hk.2) (.int .i64 t287)) (fun _ hk => trivial))⟩
    have n2_ : Aside0 ((w50.setCell ⟨go38, (t277 : Int).toNat * 3 + 2, none⟩ (.int .i64 t287)).heap[gb257]? = some (.cells #[.slice none 0 0] 31 (0, 0))) := ⟨by (with_reducible repeat (first | refine blk_drewN ?_ _ | refine blk_drew ?_ | refine blk_alloc ?_ _)); refine blk_far ?_ (by have h_ := Kd.R_ne HO_259000.out BK257.out (by decide); intro e_; exact h_ (by rw [e_]; rfl)) _; (with_reducible repeat (first | refine blk_drewN ?_ _ | refine blk_drew ?_ | refine blk_alloc ?_ _)); exact BK257.out⟩
    have n3_ : Aside0 ((w50.setCell ⟨go38, (t277 : Int).toNat * 3 + 2, none⟩ (.int .i64 t287)).heap[gb258]? = some (.cells #[.slice (some ⟨go38, 0, none⟩) x259000_1.length co43] 31 (0, 0))) := ⟨by (with_reducible repeat (first | refine blk_drewN ?_ _ | refine blk_drew ?_ | refine blk_alloc ?_ _)); refine blk_far ?_ (by have h_ := Kd.R_ne HO_259000.out BK258.out (by decide); intro e_; exact h_ (by rw [e_]; rfl)) _; (with_reducible repeat (first | refine blk_drewN ?_ _ | refine blk_drew ?_ | refine blk_alloc ?_ _)); exact BK258.out⟩
    have n4_ : Aside0 (IsS119 w0 (w50.setCell ⟨go38, (t277 : Int).toNat * 3 + 2, none⟩ (.int .i64 t287)) g s0_0 t288 t289) := ⟨by repeat (first | (with_reducible first | exact HI0.out | apply IsS119.alloc | apply IsS119.drewN | apply IsS119.drew | apply IsS119.set_1 | apply IsS119.set_2 | refine IsS119.far ?_ HN0_go38.out _ | refine IsS119.far ?_ NB0_257.out _ | refine IsS119.far ?_ NB0_258.out _) | exact HI0.out)⟩
    have n5_ : Aside0 (KeepBut w (w50.setCell ⟨go38, (t277 : Int).toNat * 3 + 2, none⟩ (.int .i64 t287)) g none) := ⟨by repeat (first | (with_reducible first | exact HK.out | apply KeepBut.set_ | apply keep_drewN | apply keep_drew | apply keep_alloc | refine keep_far ?_ GB38.out _ | refine keep_far ?_ GW257.out _ | refine keep_far ?_ GW258.out _) | exact HK.out)⟩
    have n6_ : Aside0 (Below w0.heap.size w0 (w50.setCell ⟨go38, (t277 : Int).toNat * 3 + 2, none⟩ (.int .i64 t287))) := ⟨by repeat (first | (with_reducible first | exact HB.out | apply below_alloc | apply pw_below_drewN | apply below_drew1 | refine below_set ?_ (Nat.le_trans HL.out GB38.out) | refine below_set ?_ (IsS119.ge HI0.out) | refine below_set ?_ GE257.out | refine below_set ?_ GE258.out) | exact HB.out)⟩
    (try clear HO_259000); (try clear HO286); (try clear BK257); (try clear BK258); (try clear HI0); (try clear HK); (try clear HB)
    generalize (w50.setCell ⟨go38, (t277 : Int).toNat * 3 + 2, none⟩ (.int .i64 t287)) = w52 at n0_ n1_ n2_ n3_ n4_ n5_ n6_ ⊢
    have HO_259000 := n0_; have HO286 := n1_; have BK257 := n2_; have BK258 := n3_; have HI0 := n4_; have HK := n5_; have HB := n6_; clear n0_ n1_ n2_ n3_ n4_ n5_ n6_
    have hcz53_0 : w52.cell? ⟨gb258, 0, none⟩ = some (.slice (some ⟨go38, 0, none⟩) x259000_1.length co43) := bc_ BK258 0
    have hfz53_0 := blk_frozen BK258.out 0
    obtain ⟨hnb54, hnc54⟩ := ns_ NB257_0
    have hcz55_0 : w52.cell? ⟨gb257, 0, none⟩ = some (.slice none 0 0) := bc_ BK257 0
    have hfz55_0 := blk_frozen BK257.out 0
    try go_wp2
    refine bodyPost_ret (results_cell_row rfl _ _ gb257 31 #[.slice (some ⟨go38, 0, none⟩) x259000_1.length co43] (0, 0) _ rfl bu_ Try.underlying31 rfl (by kernel_rfl)) rfl ?_
    exact ⟨_, er_, rq_ (Kd.R_mono (Kd.R_far (p := ⟨gb257, 0, none⟩) (Kd.R_types HO_259000.out BK257.out (by decide)) (fun _ hk => hk.2) (.slice (some ⟨go38, 0, none⟩) x259000_1.length co43)) (fun _ hk => trivial)), IsS119.ii_ HI0, bwi_ HB (IsS119.ge HI0.out), kb_ HK⟩
   rw [if_neg c34] at H
   have c34b0 : (t280 == 0) = false := beq_eq_false_iff_ne.mpr c34
   have c34b1 : (t280 != 0) = true := bne_iff_ne.mpr c34
   by_cases c56 : t280 = 1
   ·rw [if_pos c56] at H
    have c56b0 : (t280 == 1) = true := beq_iff_eq.mpr c56
    have c56b1 : (t280 != 1) = false := bne_eq_false_iff_eq.mpr c56
    clear c56
    by_cases c57 : 0 ≤ t277
    rotate_left
    ·rw [if_neg c57] at H
     exact absurd H (by simp)
    rw [if_pos c57] at H
    have c57b0 : decide (0 ≤ t277) = true := decide_eq_true c57
    clear c57
    by_cases c58 : t277 < (x259000_1.length : Int)
    rotate_left
    ·rw [if_neg c58] at H
     exact absurd H (by simp)
    rw [if_pos c58] at H
    have c58b0 : decide (t277 < (x259000_1.length : Int)) = true := decide_eq_true c58
    clear c58
    by_cases c59 : x259000_1.length < 3518437208883
    rotate_left
    ·rw [if_neg c59] at H
     exact absurd H (by simp)
    rw [if_pos c59] at H
    have LMc59 := Aside0.mk c59
    clear c59
    obtain ⟨y292, hy292⟩ : ∃ y_ : List (S76), y_ = (x259000_1 ++ [(⟨(rd_T76 x259000_1 t277).f0, (rd_T76 x259000_1 t277).f1, (rd_T76 x259000_1 t277).f2⟩ : S76)]) := ⟨_, rfl⟩
    replace H : (some (y292, t281, t282)) = some (r1, r2, r3) := by first | (rw [hy292]; with_reducible exact H) | (have H2_ := (Option.bind_some _ _).symm.trans H; rw [hy292]; with_reducible exact H2_) | (have H2_ := (Option.bind_some _ _).symm.trans H; with_reducible exact H2_) | with_reducible exact H | (rw [hy292]; exact H) | exact H
    have Ny292 := Aside0.mk hy292
    clear hy292
    simp only [Option.some.injEq, Prod.mk.injEq] at H
    obtain ⟨rfl, rfl, rfl⟩ := H
    try go_wp2_with (first | ((with_reducible refine gate_callee (f := 83) rfl ?_); refine gl_ 11 Try.func83 #[.pointer (some ⟨g, 0, none⟩), .int .i64 6] ?_; (with_reducible refine (spec_l01Below.calls g s0_0 x1001_1 x1002_1 6 t259 t260 t261 w0 _ ?side1 ?side2 A7.out).mono ?_); (case side1 => exact IsS119.ii_ HI0); (case side2 => exact bwi_ HB (IsS119.ge HI0.out)); rintro e w60 ⟨rfl, hi, hb, hk⟩; refine ⟨_, rfl, ?_⟩; replace HO_259000 := mk_ (Kd.R_mono (Kd.R_keep (IsS119.apart (show IsS119 w0 _ g s0_0 x1001_1 x1002_1 from IsS119.ii_ HI0) (rp_ HO_259000) (by decide)) hk (fun _ h => h.2)) (fun _ h => h.1)); replace BK257 := kz_ BK257 hk NB257_0; replace BK258 := kz_ BK258 hk NB258_0; replace HK := mk_ (KeepBut.trans (kb_ HK) hk (.inl rfl)); replace HB := mk_ (hb); replace HI0 := mk_ (hi); (try clear hb); (try clear hk); (try clear hi); obtain ⟨hnb61, hnc61⟩ := ns_ NB258_257; obtain ⟨hnb62, hnc62⟩ := ns_ NB258_0; obtain ⟨hcz63_0, hfz63_0⟩ := b1_ BK258; obtain ⟨Ao64, co64, eo64⟩ := Kd.R_slice HO_259000.out; subst eo64) | ((with_reducible refine gate_callee (f := 83) rfl ?_); refine gl_ 39 Try.func83 #[.pointer (some ⟨g, 0, none⟩), .int .i64 (x259000_1.length : Int)] ?_; (with_reducible refine (spec_l01Below.calls g s0_0 t260 t261 (x259000_1.length : Int) t277 t278 t279 w0 _ ?side1 ?side2 A32.out).mono ?_); (case side1 => exact IsS119.ii_ HI0); (case side2 => exact bwi_ HB (IsS119.ge HI0.out)); rintro e w65 ⟨rfl, hi, hb, hk⟩; refine ⟨_, rfl, ?_⟩; replace HO_259000 := mk_ (Kd.R_mono (Kd.R_keep (IsS119.apart (show IsS119 w0 _ g s0_0 t260 t261 from IsS119.ii_ HI0) (rp_ HO_259000) (by decide)) hk (fun _ h => h.2)) (fun _ h => h.1)); replace BK257 := kz_ BK257 hk NB257_0; replace BK258 := kz_ BK258 hk NB258_0; replace HK := mk_ (KeepBut.trans (kb_ HK) hk (.inl rfl)); replace HB := mk_ (hb); replace HI0 := mk_ (hi); (try clear hb); (try clear hk); (try clear hi)) | ((with_reducible refine gate_callee (f := 83) rfl ?_); refine gl_ 41 Try.func83 #[.pointer (some ⟨g, 0, none⟩), .int .i64 40] ?_; (with_reducible refine (spec_l01Below.calls g s0_0 t278 t279 40 t280 t281 t282 w0 _ ?side1 ?side2 A33.out).mono ?_); (case side1 => exact IsS119.ii_ HI0); (case side2 => exact bwi_ HB (IsS119.ge HI0.out)); rintro e w66 ⟨rfl, hi, hb, hk⟩; refine ⟨_, rfl, ?_⟩; replace HO_259000 := mk_ (Kd.R_mono (Kd.R_keep (IsS119.apart (show IsS119 w0 _ g s0_0 t278 t279 from IsS119.ii_ HI0) (rp_ HO_259000) (by decide)) hk (fun _ h => h.2)) (fun _ h => h.1)); replace BK257 := kz_ BK257 hk NB257_0; replace BK258 := kz_ BK258 hk NB258_0; replace HK := mk_ (KeepBut.trans (kb_ HK) hk (.inl rfl)); replace HB := mk_ (hb); replace HI0 := mk_ (hi); (try clear hb); (try clear hk); (try clear hi)))
    have n3_ := mk_ (IsS119.drew HI0.out)
    have n4_ := mk_ (keep_drew HK.out)
    clear HI0; clear HK; have HI0 := n3_; have HK := n4_; clear n3_ n4_; replace HO_259000 := rd_ HO_259000; replace BK257 := kd_ BK257; replace BK258 := kd_ BK258; replace HB := wd_ HB
    have p291 : 0 ≤ (t277 : Int) := od_
    have q291 : t277 < (x259000_1.length : Int) := od_
    obtain ⟨ad291, e291, hx291_0, hx291_1, hx291_2⟩ := at_T76 (Kd.R_reads' HO_259000.out).2.2 t277 p291 q291
    cases e291
    replace p291 := eq_true p291
    replace q291 := eq_true q291
    refine start_ (n := 11) (S := fun w' => w'.cell? ⟨gb258, 0, none⟩ = some (.slice (some ad291) x259000_1.length co64) ∧ w'.cell? (ad291.add ((t277).toNat * 3)) = some (.string ((rd_T76 x259000_1 t277).f0)) ∧ w'.cell? ⟨(ad291.add ((t277).toNat * 3)).block, (ad291.add ((t277).toNat * 3)).off + 1, none⟩ = some (.string ((rd_T76 x259000_1 t277).f1)) ∧ w'.cell? ⟨(ad291.add ((t277).toNat * 3)).block, (ad291.add ((t277).toNat * 3)).off + 2, none⟩ = some (.int .i64 ((rd_T76 x259000_1 t277).f2))) (ds := [8, 10]) #[false, false, false, false, false, false, false, false, false, false, false] (by kernel_rfl) rfl rfl ⟨bc_ BK258 0, hx291_0, hx291_1, hx291_2⟩ (fun hHeld => ?_); refine with_tabW spec_l03Disk.tab14 spec_l03Disk.bits14 (fun HT_ HW_ => ?_)
    generalize w66.drew = w67 at HO_259000 BK257 BK258 HI0 HK HB hx291_0 hx291_1 hx291_2 hHeld ⊢
    refine pv_ 0 62 ?_
    refine pv_ 2 64 ?_
    refine pv_ 4 66 ?_
    refine tv_ 1 63 hHeld ?_
    refine tv_ 3 65 hHeld ?_
    refine pv_ 5 67 ?_
    refine tv_ 6 68 hHeld ?_
    refine one_ (i := 7) (N := some 69) #[true, true, true, true, true, true, true, true, false, false, false] rfl rfl (one_of HT_.out (by kernel_rfl)) (by decide) (fun K hK => ?_)
    refine value_ (w1 := ?_) (v := ?_) (by rfl) rfl ?_ ?_
    rotate_left 2
    ·go_simp
     constructor
     ·rfl
     ·rfl
    refine hK.out _ _ ⟨(blk_cell (blk_alloc BK258.out _) 0).trans rfl, (World.cell?_alloc_lt _ _ _ (World.block_lt_of_cell? _ _ (hHeld.2.1))).trans (hHeld.2.1), (World.cell?_alloc_lt _ _ _ (World.block_lt_of_cell? _ _ (hHeld.2.2.1))).trans (hHeld.2.2.1), (World.cell?_alloc_lt _ _ _ (World.block_lt_of_cell? _ _ (hHeld.2.2.2))).trans (hHeld.2.2.2)⟩ (fun hHeld => ?_)
    clear hK K
    refine norm_ (a' := ?_) ?_ ?_
    rotate_left
    ·show Act.put _ (some 69) _ = _
     simp only [Act.put, sia_, scz_, scs_, i64_w, i32_w]
     rfl
    refine last_ (i := 8) (N := some 70) #[true, true, true, true, true, true, true, true, true, false, false] rfl rfl (one_of HT_.out (by kernel_rfl)) (by decide) (fun K hK => ?_)
    refine Kd.R_append_step k76 w.heap.size (by rfl) (.tmp 63) (.tmp 69) 29 76 (.agg #[(.string ⟨#[]⟩), (.string ⟨#[]⟩), (.int .i64 0)]) 40 rfl Try.underlying29 info76 rfl (by decide) (by omega) (.slice (some ad291) x259000_1.length co64) x259000_1 (⟨(rd_T76 x259000_1 t277).f0, (rd_T76 x259000_1 t277).f1, (rd_T76 x259000_1 t277).f2⟩ : S76) [.string ((rd_T76 x259000_1 t277).f0), .string ((rd_T76 x259000_1 t277).f1), .int .i64 ((rd_T76 x259000_1 t277).f2)] (fun _ => True) (fun _ => False) rfl rfl ?aP (fun _ hk => hk.elim) ?aF ?aO (Below.refl _ _) ?aS ?aL ?_
    (case aP => exact k76_mkM _ _ _ (⟨(rd_T76 x259000_1 t277).f0, (rd_T76 x259000_1 t277).f1, (rd_T76 x259000_1 t277).f2⟩ : S76))
    (case aF => exact (fun _ _ => trivial))
    (case aO => exact (rp_ HO_259000))
    (case aS => exact (keep_size (w := w) (g := g) (row := none) (kb_ HK)))
    (case aL => have := LMc59.out; omega)
    intro v293 w68 ho hb hg hat
    rw [← Ny292.out] at ho
    have n0_ := mk_ (blk_grown (g := gb257) (o := .cells #[.slice none 0 0] 31 (0, 0)) (bp_ BK257) hg (Kd.R_ne HO_259000.out BK257.out (by decide)))
    have n1_ := mk_ (blk_grown (g := gb258) (o := .cells #[.slice (some ad291) x259000_1.length co64] 31 (0, 0)) (bp_ BK258) hg (Kd.R_ne HO_259000.out BK258.out (by decide)))
    have n2_ := mk_ (IsS119.grown (IsS119.ii_ HI0) hg (IsS119.own_ne HI0.out HO_259000.out (by decide)))
    have n3_ := mk_ (below_weaken (bwi_ HB (IsS119.ge HI0.out)) HL.out hb)
    have n4_ := mk_ (KeepBut.trans (kb_ HK) (KeepBut.of_grown hg g) (Kd.R_base2 HO_259000.out))
    have n5_ := mk_ (ho)
    clear BK257; clear BK258; clear HI0; clear HB; clear HK; clear HO_259000; have BK257 := n0_; have BK258 := n1_; have HI0 := n2_; have HB := n3_; have HK := n4_; have HO294 := n5_; clear n0_ n1_ n2_ n3_ n4_ n5_; clear ho hb hg hat
    obtain ⟨Ao69, co69, eo69⟩ := Kd.R_slice HO294.out
    (first | subst eo69 | (injection eo69 with f1_ f2_ f3_; have f4_ := f1_.symm; have f5_ := f3_.symm; clear f1_ f2_ f3_; subst f4_; subst f5_))
    refine hK.out _ _ ?_
    clear hK K
    refine norm_ (a' := ?_) ?_ ?_
    rotate_left
    ·show Act.put _ (some 70) _ = _
     simp only [Act.put, sia_, scz_, scs_, i64_w, i32_w]
     rfl
    refine pv_ 9 71 ?_
    refine last_ (i := 10) (N := none) #[true, true, true, true, true, true, true, true, true, true, true] rfl rfl (one_of HT_.out (by kernel_rfl)) (by decide) (fun K hK => ?_)
    have hs70 : w68.cell? ⟨gb258, 0, none⟩ = some (.slice (some ad291) x259000_1.length co64) := bc_ BK258 0
    have hfs70 := blk_frozen BK258.out 0
    have hns70_0 := NB257_258.out
    have hms70_0 := NB258_257.out
    refine skip_ (w1 := ?_) (by rfl) rfl ?_ ?_
    rotate_left
    ·go_simp
     rfl
    refine hK.out _ _ ?_
    clear hK K
    refine done_ (done_of HT_.out (by kernel_rfl)) ?_
    have hcz71_0 : w68.cell? ⟨gb258, 0, none⟩ = some (.slice (some ad291) x259000_1.length co64) := bc_ BK258 0
    have hfz71_0 := blk_frozen BK258.out 0
    obtain ⟨hnb72, hnc72⟩ := ns_ NB257_0
    have hcz73_0 : w68.cell? ⟨gb257, 0, none⟩ = some (.slice none 0 0) := bc_ BK257 0
    have hfz73_0 := blk_frozen BK257.out 0
    try go_wp2
    refine bodyPost_ret (results_cell_row rfl _ _ gb257 31 #[.slice Ao69 y292.length co69] (0, 0) _ rfl bu_ Try.underlying31 rfl (by kernel_rfl)) rfl ?_
    exact ⟨_, er_, rq_ (Kd.R_mono (Kd.R_far (p := ⟨gb257, 0, none⟩) (Kd.R_far (p := ⟨gb258, 0, none⟩) (Kd.R_types (Kd.R_types HO294.out BK258.out (by decide)) BK257.out (by decide)) (fun _ hk => hk.1.2) (.slice Ao69 y292.length co69)) (fun _ hk => hk.2) (.slice Ao69 y292.length co69)) (fun _ hk => trivial)), IsS119.ii_ HI0, bwi_ HB (IsS119.ge HI0.out), kb_ HK⟩
   rw [if_neg c56] at H
   have c56b0 : (t280 == 1) = false := beq_eq_false_iff_ne.mpr c56
   have c56b1 : (t280 != 1) = true := bne_iff_ne.mpr c56
   by_cases c74 : t280 = 2
   ·rw [if_pos c74] at H
    have c74b0 : (t280 == 2) = true := beq_iff_eq.mpr c74
    have c74b1 : (t280 != 2) = false := bne_eq_false_iff_eq.mpr c74
    clear c74
    obtain ⟨y295, hy295⟩ : ∃ y_ : List ByteArray, y_ = (([(⟨#[]⟩ : ByteArray), (⟨#[49, 50, 51, 52, 53, 54, 55, 56]⟩ : ByteArray), (⟨#[49, 50, 51, 52, 53, 54, 55, 56, 57]⟩ : ByteArray)] : List ByteArray)) := ⟨_, rfl⟩
    replace H : ((spec_l01Pick.f s0_0 t281 t282 y295).bind fun bt298 => (if 0 ≤ t277 then (if t277 < (x259000_1.length : Int) then (some ((x259000_1.set (t277 : Int).toNat (⟨bt298.1, (rd_T76 x259000_1 t277).f1, (rd_T76 x259000_1 t277).f2⟩ : S76)), bt298.2.1, bt298.2.2)) else (none)) else (none))) = some (r1, r2, r3) := by first | (rw [hy295]; with_reducible exact H) | (have H2_ := (Option.bind_some _ _).symm.trans H; rw [hy295]; with_reducible exact H2_) | (have H2_ := (Option.bind_some _ _).symm.trans H; with_reducible exact H2_) | with_reducible exact H | (rw [hy295]; exact H) | exact H
    have Ny295 := Aside0.mk hy295
    clear hy295
    replace H := Option.bind_eq_some_iff.mp H
    obtain ⟨⟨t298, t299, t300⟩, A750, H⟩ := H
    try dsimp only at H
    have A75 := Aside0.mk A750
    clear A750
    by_cases c76 : 0 ≤ t277
    rotate_left
    ·rw [if_neg c76] at H
     exact absurd H (by simp)
    rw [if_pos c76] at H
    have c76b0 : decide (0 ≤ t277) = true := decide_eq_true c76
    clear c76
    by_cases c77 : t277 < (x259000_1.length : Int)
    rotate_left
    ·rw [if_neg c77] at H
     exact absurd H (by simp)
    rw [if_pos c77] at H
    have c77b0 : decide (t277 < (x259000_1.length : Int)) = true := decide_eq_true c77
    clear c77
    obtain ⟨y301, hy301⟩ : ∃ y_ : List (S76), y_ = (x259000_1.set (t277 : Int).toNat (⟨t298, (rd_T76 x259000_1 t277).f1, (rd_T76 x259000_1 t277).f2⟩ : S76)) := ⟨_, rfl⟩
    replace H : (some (y301, t299, t300)) = some (r1, r2, r3) := by first | (rw [hy301]; with_reducible exact H) | (have H2_ := (Option.bind_some _ _).symm.trans H; rw [hy301]; with_reducible exact H2_) | (have H2_ := (Option.bind_some _ _).symm.trans H; with_reducible exact H2_) | with_reducible exact H | (rw [hy301]; exact H) | exact H
    have Ny301 := Aside0.mk hy301
    clear hy301
    simp only [Option.some.injEq, Prod.mk.injEq] at H
    obtain ⟨rfl, rfl, rfl⟩ := H
    try go_wp2_with (first | ((with_reducible refine gate_callee (f := 83) rfl ?_); refine gl_ 11 Try.func83 #[.pointer (some ⟨g, 0, none⟩), .int .i64 6] ?_; (with_reducible refine (spec_l01Below.calls g s0_0 x1001_1 x1002_1 6 t259 t260 t261 w0 _ ?side1 ?side2 A7.out).mono ?_); (case side1 => exact IsS119.ii_ HI0); (case side2 => exact bwi_ HB (IsS119.ge HI0.out)); rintro e w79 ⟨rfl, hi, hb, hk⟩; refine ⟨_, rfl, ?_⟩; replace HO_259000 := mk_ (Kd.R_mono (Kd.R_keep (IsS119.apart (show IsS119 w0 _ g s0_0 x1001_1 x1002_1 from IsS119.ii_ HI0) (rp_ HO_259000) (by decide)) hk (fun _ h => h.2)) (fun _ h => h.1)); replace BK257 := kz_ BK257 hk NB257_0; replace BK258 := kz_ BK258 hk NB258_0; replace HK := mk_ (KeepBut.trans (kb_ HK) hk (.inl rfl)); replace HB := mk_ (hb); replace HI0 := mk_ (hi); (try clear hb); (try clear hk); (try clear hi); obtain ⟨hnb80, hnc80⟩ := ns_ NB258_257; obtain ⟨hnb81, hnc81⟩ := ns_ NB258_0; obtain ⟨hcz82_0, hfz82_0⟩ := b1_ BK258; obtain ⟨Ao83, co83, eo83⟩ := Kd.R_slice HO_259000.out; subst eo83) | ((with_reducible refine gate_callee (f := 83) rfl ?_); refine gl_ 39 Try.func83 #[.pointer (some ⟨g, 0, none⟩), .int .i64 (x259000_1.length : Int)] ?_; (with_reducible refine (spec_l01Below.calls g s0_0 t260 t261 (x259000_1.length : Int) t277 t278 t279 w0 _ ?side1 ?side2 A32.out).mono ?_); (case side1 => exact IsS119.ii_ HI0); (case side2 => exact bwi_ HB (IsS119.ge HI0.out)); rintro e w84 ⟨rfl, hi, hb, hk⟩; refine ⟨_, rfl, ?_⟩; replace HO_259000 := mk_ (Kd.R_mono (Kd.R_keep (IsS119.apart (show IsS119 w0 _ g s0_0 t260 t261 from IsS119.ii_ HI0) (rp_ HO_259000) (by decide)) hk (fun _ h => h.2)) (fun _ h => h.1)); replace BK257 := kz_ BK257 hk NB257_0; replace BK258 := kz_ BK258 hk NB258_0; replace HK := mk_ (KeepBut.trans (kb_ HK) hk (.inl rfl)); replace HB := mk_ (hb); replace HI0 := mk_ (hi); (try clear hb); (try clear hk); (try clear hi)) | ((with_reducible refine gate_callee (f := 83) rfl ?_); refine gl_ 41 Try.func83 #[.pointer (some ⟨g, 0, none⟩), .int .i64 40] ?_; (with_reducible refine (spec_l01Below.calls g s0_0 t278 t279 40 t280 t281 t282 w0 _ ?side1 ?side2 A33.out).mono ?_); (case side1 => exact IsS119.ii_ HI0); (case side2 => exact bwi_ HB (IsS119.ge HI0.out)); rintro e w85 ⟨rfl, hi, hb, hk⟩; refine ⟨_, rfl, ?_⟩; replace HO_259000 := mk_ (Kd.R_mono (Kd.R_keep (IsS119.apart (show IsS119 w0 _ g s0_0 t278 t279 from IsS119.ii_ HI0) (rp_ HO_259000) (by decide)) hk (fun _ h => h.2)) (fun _ h => h.1)); replace BK257 := kz_ BK257 hk NB257_0; replace BK258 := kz_ BK258 hk NB258_0; replace HK := mk_ (KeepBut.trans (kb_ HK) hk (.inl rfl)); replace HB := mk_ (hb); replace HI0 := mk_ (hi); (try clear hb); (try clear hk); (try clear hi)))
    have n3_ := mk_ (IsS119.drew HI0.out)
    have n4_ := mk_ (keep_drew HK.out)
    clear HI0; clear HK; have HI0 := n3_; have HK := n4_; clear n3_ n4_; replace HO_259000 := rd_ HO_259000; replace BK257 := kd_ BK257; replace BK258 := kd_ BK258; replace HB := wd_ HB
    refine start_ (n := 9) (S := fun w' => w'.cell? ⟨gb258, 0, none⟩ = some (.slice Ao83 x259000_1.length co83)) (ds := [8]) #[false, false, false, false, false, false, false, false, false] (by kernel_rfl) rfl rfl (bc_ BK258 0) (fun hHeld => ?_); refine with_tabW spec_l03Disk.tab16 spec_l03Disk.bits16 (fun HT_ HW_ => ?_)
    generalize w85.drew = w86 at HO_259000 BK257 BK258 HI0 HK HB hHeld ⊢
    refine pv_ 0 74 ?_
    refine pv_ 2 76 ?_
    refine pv_ 3 77 ?_
    refine take_ (i := 1) (N := some 75) (v := ?_) (a' := ?_) #[true, true, true, true, false, false, false, false, false] rfl rfl (take_ofW HT_.out HW_.out (by kernel_rfl)) (fun _ _ _ h => h) (Or.inl ⟨by rfl, ?_⟩) hHeld ?_ ?_
    rotate_left
    ·intro w' s0
     go_simp
     with_reducible rfl
    rotate_left
    ·simp only [Act.put, sia_, scz_, scs_, i64_w, i32_w]
     rfl
    refine one_ (i := 4) (N := some 78) #[true, true, true, true, true, false, false, false, false] rfl rfl (one_of HT_.out (by kernel_rfl)) (by decide) (fun K hK => ?_)
    refine Kd.R_lit_step Kd.string _ 9 ?hg (N := 78) ?hd (xs := ([(⟨#[]⟩ : ByteArray), (⟨#[49, 50, 51, 52, 53, 54, 55, 56]⟩ : ByteArray), (⟨#[49, 50, 51, 52, 53, 54, 55, 56, 57]⟩ : ByteArray)] : List ByteArray)) (inner := [.string (⟨#[]⟩ : ByteArray), .string (⟨#[49, 50, 51, 52, 53, 54, 55, 56]⟩ : ByteArray), .string (⟨#[49, 50, 51, 52, 53, 54, 55, 56, 57]⟩ : ByteArray)]) (ok := fun _ => True) (okp := fun _ => True) ?hr ?hp (fun _ hk => hk) trivial (Below.refl _ _) (Nat.le_refl _) (by simp) ?_; (case hd => rfl); (case hg => rfl); (case hr => first | (go_simp; done) | (go_simp; rfl)); (case hp => exact (Reps.one (show Kd.M Kd.string _ _ _ (⟨#[]⟩ : ByteArray) [.string (⟨#[]⟩ : ByteArray)] from rfl) (Reps.one (show Kd.M Kd.string _ _ _ (⟨#[49, 50, 51, 52, 53, 54, 55, 56]⟩ : ByteArray) [.string (⟨#[49, 50, 51, 52, 53, 54, 55, 56]⟩ : ByteArray)] from rfl) (Reps.one (show Kd.M Kd.string _ _ _ (⟨#[49, 50, 51, 52, 53, 54, 55, 56, 57]⟩ : ByteArray) [.string (⟨#[49, 50, 51, 52, 53, 54, 55, 56, 57]⟩ : ByteArray)] from rfl) (Reps.none _ _)))))
    intro v296 w87 ho88 hb hg_ hnew_
    clear hg_ hnew_
    (first | rw [← Ny295.out] at ho88 | (simp only [Int.reduceToNat] at ho88; rw [← Ny295.out] at ho88))
    have n1_ := mk_ (Kd.R_lower ho88 (keep_size (w := w) (g := g) (row := none) (kb_ HK)))
    have n4_ := mk_ (IsS119.below (IsS119.ii_ HI0) hb)
    have n5_ := mk_ (KeepBut.trans (kb_ HK) (KeepBut.of_below hb g none) (.inl rfl))
    have n6_ := mk_ (below_step (bwi_ HB (IsS119.ge HI0.out)) hb)
    clear HI0; clear HK; clear HB; have HO297 := n1_; have HI0 := n4_; have HK := n5_; have HB := n6_; clear n1_ n4_ n5_ n6_; replace HO_259000 := rb_ HO_259000 hb; replace BK257 := bb_ BK257 hb; replace BK258 := bb_ BK258 hb; clear hb ho88
    obtain ⟨Ao89, co89, eo89⟩ := Kd.R_slice HO297.out
    (first | subst eo89 | (injection eo89 with f1_ f2_ f3_; have f4_ := f1_.symm; have f5_ := f3_.symm; clear f1_ f2_ f3_; subst f4_; subst f5_))
    refine hK.out _ _ (bc_ BK258 0) (fun hHeld => ?_)
    clear hK K
    refine norm_ (a' := ?_) ?_ ?_
    rotate_left
    ·show Act.put _ (some 78) _ = _
     simp only [Act.put, sia_, scz_, scs_, i64_w, i32_w]
     rfl
    refine one_ (i := 5) (N := some 79) #[true, true, true, true, true, true, false, false, false] rfl rfl (one_of HT_.out (by kernel_rfl)) (by decide) (fun K hK => ?_)
    refine goes_ Try.func87 (by kernel_rfl) rfl #[.pointer (some ⟨g, 0, none⟩), .slice Ao89 y295.length co89] (by rfl) rfl rfl ga_ ?_
    with_reducible refine (spec_l01Pick.calls g s0_0 t281 t282 _ _ y295 t298 t299 t300 w0 _ ?side1 ?side2 ?side3 ?side4 ?side5 A75.out).mono ?_
    (case side1 => exact IsS119.ii_ HI0)
    (case side2 => exact bwi_ HB (IsS119.ge HI0.out))
    (case side3 => exact cr_ HO297)
    (case side4 => exact (Kd.R_reads' HO297.out).2.1)
    (case side5 => exact far_slice (IsS119.own_ne HI0.out HO297.out (by decide)))
    rintro e w90 ⟨rfl, hi, hb, hk⟩
    refine ⟨_, rfl, ?_⟩
    have n0_ := mk_ (Kd.R_mono (Kd.R_keep (IsS119.apart (show IsS119 w0 _ g s0_0 t281 t282 from IsS119.ii_ HI0) (rp_ HO_259000) (by decide)) hk (fun _ h => h.2)) (fun _ h => h.1))
    have n1_ := mk_ (KeepBut.blk hk (g' := gb257) (o := .cells #[.slice none 0 0] 31 (0, 0)) (bp_ BK257) NB257_0.out (by simp))
    have n2_ := mk_ (KeepBut.blk hk (g' := gb258) (o := .cells #[.slice Ao83 x259000_1.length co83] 31 (0, 0)) (bp_ BK258) NB258_0.out (by simp))
    have n3_ := mk_ (Kd.R_mono (Kd.R_keep (IsS119.apart (show IsS119 w0 _ g s0_0 t281 t282 from IsS119.ii_ HI0) (rp_ HO297) (by decide)) hk (fun _ h => h.2)) (fun _ h => h.1))
    have n4_ := mk_ (KeepBut.trans (kb_ HK) hk (.inl rfl))
    have n5_ := mk_ (hb)
    have n6_ := mk_ (hi)
    clear HO_259000; clear BK257; clear BK258; clear HO297; clear HK; clear HB; clear HI0; have HO_259000 := n0_; have BK257 := n1_; have BK258 := n2_; have HO297 := n3_; have HK := n4_; have HB := n5_; have HI0 := n6_; clear n0_ n1_ n2_ n3_ n4_ n5_ n6_; (try clear hb); (try clear hb2); (try clear hk); (try clear hi)
    have p78 : 0 ≤ (t277 : Int) := od_
    have q78 : (t277 : Int) < ((x259000_1.length : Int) : Int) := od_
    obtain ⟨go78, co78, eo78, gb78, gl78, cl78, HG78⟩ := Kd.R_form HO_259000.out (by omega)
    (first | cases eo78 | (injection eo78 with ea_ en_ ec_; (first | subst ea_ | (injection ea_ with ea_; subst ea_)); subst ec_; clear en_))
    have GB78 := Aside0.mk gb78
    have GG78 := Aside0.mk HG78
    clear gb78 gl78 HG78
    obtain ⟨ce78, hcl78, hM78, hcc78, hfr78⟩ := Kd.R_elem HO_259000.out z76 (t277 : Int) p78 q78
    obtain rfl := k76_openM hM78
    have hx78_0 : World.cell? _ ⟨go78, (t277 : Int).toNat * 3, none⟩ = some (.string ((rd_T76 x259000_1 t277).f0)) := hcc78 0 _ rfl
    have hx78_1 : World.cell? _ ⟨go78, (t277 : Int).toNat * 3 + 1, none⟩ = some (.string ((rd_T76 x259000_1 t277).f1)) := hcc78 1 _ rfl
    have hx78_2 : World.cell? _ ⟨go78, (t277 : Int).toNat * 3 + 2, none⟩ = some (.int .i64 ((rd_T76 x259000_1 t277).f2)) := hcc78 2 _ rfl
    have hf78_0 : World.frozen? _ ⟨go78, (t277 : Int).toNat * 3, none⟩ = false := hfr78 0
    have hf78_1 : World.frozen? _ ⟨go78, (t277 : Int).toNat * 3 + 1, none⟩ = false := hfr78 1
    have hf78_2 : World.frozen? _ ⟨go78, (t277 : Int).toNat * 3 + 2, none⟩ = false := hfr78 2
    clear hcl78 hcc78 hfr78 hM78
    replace p78 := eq_true p78
    replace q78 := eq_true q78
    have HN0_go78 := mk_ (show g ≠ go78 from by have h_ := IsS119.own_ne HI0.out HO_259000.out (by decide); intro e_; exact h_ (by rw [e_]; rfl))
    obtain ⟨ce91, hcl91, hM91, hcc91, hfr91⟩ := Kd.R_elem HO_259000.out z76 (t277 : Int) (od_) (by have h_ : (t277 : Int) < ((x259000_1.length : Int) : Int) := od_; first | exact h_ | (have e_ := (Kd.R_reads' HO_259000.out).1; omega) | simpa using h_)
    obtain rfl := k76_openM hM91
    have HP91 := (Kd.R_seg HO_259000.out (t277 : Int) (od_) (by have h_ : (t277 : Int) < ((x259000_1.length : Int) : Int) := od_; first | exact h_ | (have e_ := (Kd.R_reads' HO_259000.out).1; omega) | simpa using h_) (seg := [.string t298]) (j := 0) hcl91 hcc91 (show 1 ≤ 3 from by decide) (x' := (⟨t298, (rd_T76 x259000_1 t277).f1, (rd_T76 x259000_1 t277).f2⟩ : S76)) (k76_mkM _ _ _ (⟨t298, (rd_T76 x259000_1 t277).f1, (rd_T76 x259000_1 t277).f2⟩ : S76) ) (fun _ hk => hk)).1
    rw [← Ny301.out] at HP91
    have HQ91 := Aside0.mk HP91
    clear hcl91 hcc91 hfr91 hM91 HP91
    refine hK.out _ _ (bc_ BK258 0) (fun hHeld => ?_)
    clear hK K
    refine norm_ (a' := ?_) ?_ ?_
    rotate_left
    ·show Act.put _ (some 79) _ = _
     simp only [Act.put, sia_, scz_, scs_, i64_w, i32_w]
     rfl
    refine pv_ 6 80 ?_
    refine pv_ 7 81 ?_
    refine last_ (i := 8) (N := none) #[true, true, true, true, true, true, true, true, true] rfl rfl (one_of HT_.out (by kernel_rfl)) (by decide) (fun K hK => ?_)
    refine skip_ (w1 := ?_) (by rfl) rfl ?_ ?_
    rotate_left
    ·go_simp
     rfl
    refine hK.out _ _ ?_
    clear hK K
    refine done_ (done_of HT_.out (by kernel_rfl)) ?_
    have n0_ : Aside0 (Kd.R k76 76 (w90.setCell ⟨go78, (t277 : Int).toNat * 3, none⟩ (.string t298)) w.heap.size (fun _ => True) (.slice (some ⟨go78, 0, none⟩) x259000_1.length co83) y301) := ⟨rq_ HQ91.out⟩
    have n1_ : Aside0 (Kd.R Kd.string 9 (w90.setCell ⟨go78, (t277 : Int).toNat * 3, none⟩ (.string t298)) w.heap.size (fun _ => True) (.slice Ao89 y295.length co89) y295) := ⟨rq_ (Kd.R_mono (Kd.R_far (p := ⟨go78, (t277 : Int).toNat * 3, none⟩) (Kd.R_types HO297.out GG78.out (by decide)) (fun _ hk => hk.2) (.string t298)) (fun _ hk => trivial))⟩
    have n2_ : Aside0 ((w90.setCell ⟨go78, (t277 : Int).toNat * 3, none⟩ (.string t298)).heap[gb257]? = some (.cells #[.slice none 0 0] 31 (0, 0))) := ⟨by (with_reducible repeat (first | refine blk_drewN ?_ _ | refine blk_drew ?_ | refine blk_alloc ?_ _)); refine blk_far ?_ (by have h_ := Kd.R_ne HO_259000.out BK257.out (by decide); intro e_; exact h_ (by rw [e_]; rfl)) _; (with_reducible repeat (first | refine blk_drewN ?_ _ | refine blk_drew ?_ | refine blk_alloc ?_ _)); exact BK257.out⟩
    have n3_ : Aside0 ((w90.setCell ⟨go78, (t277 : Int).toNat * 3, none⟩ (.string t298)).heap[gb258]? = some (.cells #[.slice (some ⟨go78, 0, none⟩) x259000_1.length co83] 31 (0, 0))) := ⟨by (with_reducible repeat (first | refine blk_drewN ?_ _ | refine blk_drew ?_ | refine blk_alloc ?_ _)); refine blk_far ?_ (by have h_ := Kd.R_ne HO_259000.out BK258.out (by decide); intro e_; exact h_ (by rw [e_]; rfl)) _; (with_reducible repeat (first | refine blk_drewN ?_ _ | refine blk_drew ?_ | refine blk_alloc ?_ _)); exact BK258.out⟩
    have n4_ : Aside0 (IsS119 w0 (w90.setCell ⟨go78, (t277 : Int).toNat * 3, none⟩ (.string t298)) g s0_0 t299 t300) := ⟨by repeat (first | (with_reducible first | exact HI0.out | apply IsS119.alloc | apply IsS119.drewN | apply IsS119.drew | apply IsS119.set_1 | apply IsS119.set_2 | refine IsS119.far ?_ HN0_go78.out _ | refine IsS119.far ?_ NB0_257.out _ | refine IsS119.far ?_ NB0_258.out _) | exact HI0.out)⟩
    have n5_ : Aside0 (KeepBut w (w90.setCell ⟨go78, (t277 : Int).toNat * 3, none⟩ (.string t298)) g none) := ⟨by repeat (first | (with_reducible first | exact HK.out | apply KeepBut.set_ | apply keep_drewN | apply keep_drew | apply keep_alloc | refine keep_far ?_ GB78.out _ | refine keep_far ?_ GW257.out _ | refine keep_far ?_ GW258.out _) | exact HK.out)⟩
    have n6_ : Aside0 (Below w0.heap.size w0 (w90.setCell ⟨go78, (t277 : Int).toNat * 3, none⟩ (.string t298))) := ⟨by repeat (first | (with_reducible first | exact HB.out | apply below_alloc | apply pw_below_drewN | apply below_drew1 | refine below_set ?_ (Nat.le_trans HL.out GB78.out) | refine below_set ?_ (IsS119.ge HI0.out) | refine below_set ?_ GE257.out | refine below_set ?_ GE258.out) | exact HB.out)⟩
    (try clear HO_259000); (try clear HO297); (try clear BK257); (try clear BK258); (try clear HI0); (try clear HK); (try clear HB)
    generalize (w90.setCell ⟨go78, (t277 : Int).toNat * 3, none⟩ (.string t298)) = w92 at n0_ n1_ n2_ n3_ n4_ n5_ n6_ ⊢
    have HO_259000 := n0_; have HO297 := n1_; have BK257 := n2_; have BK258 := n3_; have HI0 := n4_; have HK := n5_; have HB := n6_; clear n0_ n1_ n2_ n3_ n4_ n5_ n6_
    have hcz93_0 : w92.cell? ⟨gb258, 0, none⟩ = some (.slice (some ⟨go78, 0, none⟩) x259000_1.length co83) := bc_ BK258 0
    have hfz93_0 := blk_frozen BK258.out 0
    obtain ⟨hnb94, hnc94⟩ := ns_ NB257_0
    have hcz95_0 : w92.cell? ⟨gb257, 0, none⟩ = some (.slice none 0 0) := bc_ BK257 0
    have hfz95_0 := blk_frozen BK257.out 0
    try go_wp2
    refine bodyPost_ret (results_cell_row rfl _ _ gb257 31 #[.slice (some ⟨go78, 0, none⟩) x259000_1.length co83] (0, 0) _ rfl bu_ Try.underlying31 rfl (by kernel_rfl)) rfl ?_
    exact ⟨_, er_, rq_ (Kd.R_mono (Kd.R_far (p := ⟨gb257, 0, none⟩) (Kd.R_types HO_259000.out BK257.out (by decide)) (fun _ hk => hk.2) (.slice (some ⟨go78, 0, none⟩) x259000_1.length co83)) (fun _ hk => trivial)), IsS119.ii_ HI0, bwi_ HB (IsS119.ge HI0.out), kb_ HK⟩
   rw [if_neg c74] at H
   have c74b0 : (t280 == 2) = false := beq_eq_false_iff_ne.mpr c74
   have c74b1 : (t280 != 2) = true := bne_iff_ne.mpr c74
   by_cases c96 : t280 = 3
   rotate_left
   ·rw [if_neg c96] at H
    have c96b0 : (t280 == 3) = false := beq_eq_false_iff_ne.mpr c96
    have c96b1 : (t280 != 3) = true := bne_iff_ne.mpr c96
    by_cases c126 : t280 = 4
    rotate_left
    ·rw [if_neg c126] at H
     have c126b0 : (t280 == 4) = false := beq_eq_false_iff_ne.mpr c126
     have c126b1 : (t280 != 4) = true := bne_iff_ne.mpr c126
     simp only [Option.some.injEq, Prod.mk.injEq] at H
     obtain ⟨rfl, rfl, rfl⟩ := H
     go_wp2_with (first | ((with_reducible refine gate_callee (f := 83) rfl ?_); refine gl_ 11 Try.func83 #[.pointer (some ⟨g, 0, none⟩), .int .i64 6] ?_; (with_reducible refine (spec_l01Below.calls g s0_0 x1001_1 x1002_1 6 t259 t260 t261 w0 _ ?side1 ?side2 A7.out).mono ?_); (case side1 => exact IsS119.ii_ HI0); (case side2 => exact bwi_ HB (IsS119.ge HI0.out)); rintro e w147 ⟨rfl, hi, hb, hk⟩; refine ⟨_, rfl, ?_⟩; replace HO_259000 := mk_ (Kd.R_mono (Kd.R_keep (IsS119.apart (show IsS119 w0 _ g s0_0 x1001_1 x1002_1 from IsS119.ii_ HI0) (rp_ HO_259000) (by decide)) hk (fun _ h => h.2)) (fun _ h => h.1)); replace BK257 := kz_ BK257 hk NB257_0; replace BK258 := kz_ BK258 hk NB258_0; replace HK := mk_ (KeepBut.trans (kb_ HK) hk (.inl rfl)); replace HB := mk_ (hb); replace HI0 := mk_ (hi); (try clear hb); (try clear hk); (try clear hi); obtain ⟨hnb148, hnc148⟩ := ns_ NB258_257; obtain ⟨hnb149, hnc149⟩ := ns_ NB258_0; obtain ⟨hcz150_0, hfz150_0⟩ := b1_ BK258; obtain ⟨Ao151, co151, eo151⟩ := Kd.R_slice HO_259000.out; subst eo151) | ((with_reducible refine gate_callee (f := 83) rfl ?_); refine gl_ 39 Try.func83 #[.pointer (some ⟨g, 0, none⟩), .int .i64 (x259000_1.length : Int)] ?_; (with_reducible refine (spec_l01Below.calls g s0_0 t260 t261 (x259000_1.length : Int) t277 t278 t279 w0 _ ?side1 ?side2 A32.out).mono ?_); (case side1 => exact IsS119.ii_ HI0); (case side2 => exact bwi_ HB (IsS119.ge HI0.out)); rintro e w152 ⟨rfl, hi, hb, hk⟩; refine ⟨_, rfl, ?_⟩; replace HO_259000 := mk_ (Kd.R_mono (Kd.R_keep (IsS119.apart (show IsS119 w0 _ g s0_0 t260 t261 from IsS119.ii_ HI0) (rp_ HO_259000) (by decide)) hk (fun _ h => h.2)) (fun _ h => h.1)); replace BK257 := kz_ BK257 hk NB257_0; replace BK258 := kz_ BK258 hk NB258_0; replace HK := mk_ (KeepBut.trans (kb_ HK) hk (.inl rfl)); replace HB := mk_ (hb); replace HI0 := mk_ (hi); (try clear hb); (try clear hk); (try clear hi)) | ((with_reducible refine gate_callee (f := 83) rfl ?_); refine gl_ 41 Try.func83 #[.pointer (some ⟨g, 0, none⟩), .int .i64 40] ?_; (with_reducible refine (spec_l01Below.calls g s0_0 t278 t279 40 t280 t281 t282 w0 _ ?side1 ?side2 A33.out).mono ?_); (case side1 => exact IsS119.ii_ HI0); (case side2 => exact bwi_ HB (IsS119.ge HI0.out)); rintro e w153 ⟨rfl, hi, hb, hk⟩; refine ⟨_, rfl, ?_⟩; replace HO_259000 := mk_ (Kd.R_mono (Kd.R_keep (IsS119.apart (show IsS119 w0 _ g s0_0 t278 t279 from IsS119.ii_ HI0) (rp_ HO_259000) (by decide)) hk (fun _ h => h.2)) (fun _ h => h.1)); replace BK257 := kz_ BK257 hk NB257_0; replace BK258 := kz_ BK258 hk NB258_0; replace HK := mk_ (KeepBut.trans (kb_ HK) hk (.inl rfl)); replace HB := mk_ (hb); replace HI0 := mk_ (hi); (try clear hb); (try clear hk); (try clear hi); obtain ⟨hcz154_0, hfz154_0⟩ := b1_ BK258; obtain ⟨hnb155, hnc155⟩ := ns_ NB257_0; obtain ⟨hcz156_0, hfz156_0⟩ := b1_ BK257))
     refine bodyPost_ret (results_cell_row rfl _ _ gb257 31 #[.slice Ao151 x259000_1.length co151] (0, 0) _ rfl bu_ Try.underlying31 rfl (by kernel_rfl)) rfl ?_
     exact ⟨_, er_, rq_ (rt_ HO_259000 BK257 0 (.slice Ao151 x259000_1.length co151)), IsS119.ii_ HI0, bwi_ HB (IsS119.ge HI0.out), kb_ HK⟩
    rw [if_pos c126] at H
    have c126b0 : (t280 == 4) = true := beq_iff_eq.mpr c126
    have c126b1 : (t280 != 4) = false := bne_eq_false_iff_eq.mpr c126
    clear c126
    replace H := Option.bind_eq_some_iff.mp H
    obtain ⟨⟨t312, t313, t314⟩, A1270, H⟩ := H
    try dsimp only at H
    have A127 := Aside0.mk A1270
    clear A1270
    replace H := Option.bind_eq_some_iff.mp H
    obtain ⟨t315, A1280, H⟩ := H
    try dsimp only at H
    have A128 := Aside0.mk A1280
    clear A1280
    by_cases c129 : 0 ≤ t277
    rotate_left
    ·rw [if_neg c129] at H
     exact absurd H (by simp)
    rw [if_pos c129] at H
    have c129b0 : decide (0 ≤ t277) = true := decide_eq_true c129
    clear c129
    by_cases c130 : t277 < (x259000_1.length : Int)
    rotate_left
    ·rw [if_neg c130] at H
     exact absurd H (by simp)
    rw [if_pos c130] at H
    have c130b0 : decide (t277 < (x259000_1.length : Int)) = true := decide_eq_true c130
    clear c130
    obtain ⟨y316, hy316⟩ : ∃ y_ : List (S76), y_ = (x259000_1.set (t277 : Int).toNat (⟨(rd_T76 x259000_1 t277).f0, t315, (rd_T76 x259000_1 t277).f2⟩ : S76)) := ⟨_, rfl⟩
    replace H : (some (y316, t313, t314)) = some (r1, r2, r3) := by first | (rw [hy316]; with_reducible exact H) | (have H2_ := (Option.bind_some _ _).symm.trans H; rw [hy316]; with_reducible exact H2_) | (have H2_ := (Option.bind_some _ _).symm.trans H; with_reducible exact H2_) | with_reducible exact H | (rw [hy316]; exact H) | exact H
    have Ny316 := Aside0.mk hy316
    clear hy316
    simp only [Option.some.injEq, Prod.mk.injEq] at H
    obtain ⟨rfl, rfl, rfl⟩ := H
    try go_wp2_with (first | ((with_reducible refine gate_callee (f := 83) rfl ?_); refine gl_ 11 Try.func83 #[.pointer (some ⟨g, 0, none⟩), .int .i64 6] ?_; (with_reducible refine (spec_l01Below.calls g s0_0 x1001_1 x1002_1 6 t259 t260 t261 w0 _ ?side1 ?side2 A7.out).mono ?_); (case side1 => exact IsS119.ii_ HI0); (case side2 => exact bwi_ HB (IsS119.ge HI0.out)); rintro e w132 ⟨rfl, hi, hb, hk⟩; refine ⟨_, rfl, ?_⟩; replace HO_259000 := mk_ (Kd.R_mono (Kd.R_keep (IsS119.apart (show IsS119 w0 _ g s0_0 x1001_1 x1002_1 from IsS119.ii_ HI0) (rp_ HO_259000) (by decide)) hk (fun _ h => h.2)) (fun _ h => h.1)); replace BK257 := kz_ BK257 hk NB257_0; replace BK258 := kz_ BK258 hk NB258_0; replace HK := mk_ (KeepBut.trans (kb_ HK) hk (.inl rfl)); replace HB := mk_ (hb); replace HI0 := mk_ (hi); (try clear hb); (try clear hk); (try clear hi); obtain ⟨hnb133, hnc133⟩ := ns_ NB258_257; obtain ⟨hnb134, hnc134⟩ := ns_ NB258_0; obtain ⟨hcz135_0, hfz135_0⟩ := b1_ BK258; obtain ⟨Ao136, co136, eo136⟩ := Kd.R_slice HO_259000.out; subst eo136) | ((with_reducible refine gate_callee (f := 83) rfl ?_); refine gl_ 39 Try.func83 #[.pointer (some ⟨g, 0, none⟩), .int .i64 (x259000_1.length : Int)] ?_; (with_reducible refine (spec_l01Below.calls g s0_0 t260 t261 (x259000_1.length : Int) t277 t278 t279 w0 _ ?side1 ?side2 A32.out).mono ?_); (case side1 => exact IsS119.ii_ HI0); (case side2 => exact bwi_ HB (IsS119.ge HI0.out)); rintro e w137 ⟨rfl, hi, hb, hk⟩; refine ⟨_, rfl, ?_⟩; replace HO_259000 := mk_ (Kd.R_mono (Kd.R_keep (IsS119.apart (show IsS119 w0 _ g s0_0 t260 t261 from IsS119.ii_ HI0) (rp_ HO_259000) (by decide)) hk (fun _ h => h.2)) (fun _ h => h.1)); replace BK257 := kz_ BK257 hk NB257_0; replace BK258 := kz_ BK258 hk NB258_0; replace HK := mk_ (KeepBut.trans (kb_ HK) hk (.inl rfl)); replace HB := mk_ (hb); replace HI0 := mk_ (hi); (try clear hb); (try clear hk); (try clear hi)) | ((with_reducible refine gate_callee (f := 83) rfl ?_); refine gl_ 41 Try.func83 #[.pointer (some ⟨g, 0, none⟩), .int .i64 40] ?_; (with_reducible refine (spec_l01Below.calls g s0_0 t278 t279 40 t280 t281 t282 w0 _ ?side1 ?side2 A33.out).mono ?_); (case side1 => exact IsS119.ii_ HI0); (case side2 => exact bwi_ HB (IsS119.ge HI0.out)); rintro e w138 ⟨rfl, hi, hb, hk⟩; refine ⟨_, rfl, ?_⟩; replace HO_259000 := mk_ (Kd.R_mono (Kd.R_keep (IsS119.apart (show IsS119 w0 _ g s0_0 t278 t279 from IsS119.ii_ HI0) (rp_ HO_259000) (by decide)) hk (fun _ h => h.2)) (fun _ h => h.1)); replace BK257 := kz_ BK257 hk NB257_0; replace BK258 := kz_ BK258 hk NB258_0; replace HK := mk_ (KeepBut.trans (kb_ HK) hk (.inl rfl)); replace HB := mk_ (hb); replace HI0 := mk_ (hi); (try clear hb); (try clear hk); (try clear hi)))
    have n3_ := mk_ (IsS119.drew HI0.out)
    have n4_ := mk_ (keep_drew HK.out)
    clear HI0; clear HK; have HI0 := n3_; have HK := n4_; clear n3_ n4_; replace HO_259000 := rd_ HO_259000; replace BK257 := kd_ BK257; replace BK258 := kd_ BK258; replace HB := wd_ HB
    refine start_ (n := 10) (S := fun w' => w'.cell? ⟨gb258, 0, none⟩ = some (.slice Ao136 x259000_1.length co136)) (ds := [9]) #[false, false, false, false, false, false, false, false, false, false] (by kernel_rfl) rfl rfl (bc_ BK258 0) (fun hHeld => ?_); refine with_tabW spec_l03Disk.tab24 spec_l03Disk.bits24 (fun HT_ HW_ => ?_)
    generalize w138.drew = w139 at HO_259000 BK257 BK258 HI0 HK HB hHeld ⊢
    refine pv_ 0 105 ?_
    refine pv_ 2 107 ?_
    refine pv_ 3 108 ?_
    refine take_ (i := 1) (N := some 106) (v := ?_) (a' := ?_) #[true, true, true, true, false, false, false, false, false, false] rfl rfl (take_ofW HT_.out HW_.out (by kernel_rfl)) (fun _ _ _ h => h) (Or.inl ⟨by rfl, ?_⟩) hHeld ?_ ?_
    rotate_left
    ·intro w' s0
     go_simp
     with_reducible rfl
    rotate_left
    ·simp only [Act.put, sia_, scz_, scs_, i64_w, i32_w]
     rfl
    refine one_ (i := 4) (N := some 109) #[true, true, true, true, true, false, false, false, false, false] rfl rfl (one_of HT_.out (by kernel_rfl)) (by decide) (fun K hK => ?_)
    refine goes_ Try.func83 (by kernel_rfl) rfl #[.pointer (some ⟨g, 0, none⟩), .int .i64 3] (by rfl) rfl rfl ga_ ?_
    with_reducible refine (spec_l01Below.calls g s0_0 t281 t282 3 t312 t313 t314 w0 _ ?side1 ?side2 A127.out).mono ?_
    (case side1 => exact IsS119.ii_ HI0)
    (case side2 => exact bwi_ HB (IsS119.ge HI0.out))
    rintro e w140 ⟨rfl, hi, hb, hk⟩
    refine ⟨_, rfl, ?_⟩
    have n0_ := mk_ (Kd.R_mono (Kd.R_keep (IsS119.apart (show IsS119 w0 _ g s0_0 t281 t282 from IsS119.ii_ HI0) (rp_ HO_259000) (by decide)) hk (fun _ h => h.2)) (fun _ h => h.1))
    have n1_ := mk_ (KeepBut.blk hk (g' := gb257) (o := .cells #[.slice none 0 0] 31 (0, 0)) (bp_ BK257) NB257_0.out (by simp))
    have n2_ := mk_ (KeepBut.blk hk (g' := gb258) (o := .cells #[.slice Ao136 x259000_1.length co136] 31 (0, 0)) (bp_ BK258) NB258_0.out (by simp))
    have n3_ := mk_ (KeepBut.trans (kb_ HK) hk (.inl rfl))
    have n4_ := mk_ (hb)
    have n5_ := mk_ (hi)
    clear HO_259000; clear BK257; clear BK258; clear HK; clear HB; clear HI0; have HO_259000 := n0_; have BK257 := n1_; have BK258 := n2_; have HK := n3_; have HB := n4_; have HI0 := n5_; clear n0_ n1_ n2_ n3_ n4_ n5_; (try clear hb); (try clear hb2); (try clear hk); (try clear hi)
    refine hK.out _ _ (bc_ BK258 0) (fun hHeld => ?_)
    clear hK K
    refine norm_ (a' := ?_) ?_ ?_
    rotate_left
    ·show Act.put _ (some 109) _ = _
     simp only [Act.put, sia_, scz_, scs_, i64_w, i32_w]
     rfl
    refine pv_ 5 110 ?_
    refine one_ (i := 6) (N := some 111) #[true, true, true, true, true, true, true, false, false, false] rfl rfl (one_of HT_.out (by kernel_rfl)) (by decide) (fun K hK => ?_)
    refine goes_ Try.func89 (by kernel_rfl) rfl #[.int .i64 (wrap64 (19999 + t312)), .int .u8 65] (by rfl) rfl rfl ga_ ?_
    with_reducible refine (spec_l01Long.calls k1 (wrap64 (19999 + t312)) 65 t315 _ A128.out).mono ?_
    rintro e w141 ⟨rfl, hb⟩
    refine ⟨_, rfl, ?_⟩
    have n3_ := mk_ (IsS119.below (IsS119.ii_ HI0) hb)
    have n4_ := mk_ (KeepBut.trans (kb_ HK) (KeepBut.of_below hb g none) (.inl rfl))
    have n5_ := mk_ (below_step (bwi_ HB (IsS119.ge HI0.out)) hb)
    clear HI0; clear HK; clear HB; have HI0 := n3_; have HK := n4_; have HB := n5_; clear n3_ n4_ n5_; replace HO_259000 := rb_ HO_259000 hb; replace BK257 := bb_ BK257 hb; replace BK258 := bb_ BK258 hb; (try clear hb); (try clear hb2); (try clear hk); (try clear hi)
    have p131 : 0 ≤ (t277 : Int) := od_
    have q131 : (t277 : Int) < ((x259000_1.length : Int) : Int) := od_
    obtain ⟨go131, co131, eo131, gb131, gl131, cl131, HG131⟩ := Kd.R_form HO_259000.out (by omega)
    (first | cases eo131 | (injection eo131 with ea_ en_ ec_; (first | subst ea_ | (injection ea_ with ea_; subst ea_)); subst ec_; clear en_))
    have GB131 := Aside0.mk gb131
    have GG131 := Aside0.mk HG131
    clear gb131 gl131 HG131
    obtain ⟨ce131, hcl131, hM131, hcc131, hfr131⟩ := Kd.R_elem HO_259000.out z76 (t277 : Int) p131 q131
    obtain rfl := k76_openM hM131
    have hx131_0 : World.cell? _ ⟨go131, (t277 : Int).toNat * 3, none⟩ = some (.string ((rd_T76 x259000_1 t277).f0)) := hcc131 0 _ rfl
    have hx131_1 : World.cell? _ ⟨go131, (t277 : Int).toNat * 3 + 1, none⟩ = some (.string ((rd_T76 x259000_1 t277).f1)) := hcc131 1 _ rfl
    have hx131_2 : World.cell? _ ⟨go131, (t277 : Int).toNat * 3 + 2, none⟩ = some (.int .i64 ((rd_T76 x259000_1 t277).f2)) := hcc131 2 _ rfl
    have hf131_0 : World.frozen? _ ⟨go131, (t277 : Int).toNat * 3, none⟩ = false := hfr131 0
    have hf131_1 : World.frozen? _ ⟨go131, (t277 : Int).toNat * 3 + 1, none⟩ = false := hfr131 1
    have hf131_2 : World.frozen? _ ⟨go131, (t277 : Int).toNat * 3 + 2, none⟩ = false := hfr131 2
    clear hcl131 hcc131 hfr131 hM131
    replace p131 := eq_true p131
    replace q131 := eq_true q131
    have HN0_go131 := mk_ (show g ≠ go131 from by have h_ := IsS119.own_ne HI0.out HO_259000.out (by decide); intro e_; exact h_ (by rw [e_]; rfl))
    obtain ⟨ce142, hcl142, hM142, hcc142, hfr142⟩ := Kd.R_elem HO_259000.out z76 (t277 : Int) (od_) (by have h_ : (t277 : Int) < ((x259000_1.length : Int) : Int) := od_; first | exact h_ | (have e_ := (Kd.R_reads' HO_259000.out).1; omega) | simpa using h_)
    obtain rfl := k76_openM hM142
    have HP142 := (Kd.R_seg HO_259000.out (t277 : Int) (od_) (by have h_ : (t277 : Int) < ((x259000_1.length : Int) : Int) := od_; first | exact h_ | (have e_ := (Kd.R_reads' HO_259000.out).1; omega) | simpa using h_) (seg := [.string t315]) (j := 1) hcl142 hcc142 (show 2 ≤ 3 from by decide) (x' := (⟨(rd_T76 x259000_1 t277).f0, t315, (rd_T76 x259000_1 t277).f2⟩ : S76)) (k76_mkM _ _ _ (⟨(rd_T76 x259000_1 t277).f0, t315, (rd_T76 x259000_1 t277).f2⟩ : S76) ) (fun _ hk => hk)).1
    rw [← Ny316.out] at HP142
    have HQ142 := Aside0.mk HP142
    clear hcl142 hcc142 hfr142 hM142 HP142
    refine hK.out _ _ (bc_ BK258 0) (fun hHeld => ?_)
    clear hK K
    refine norm_ (a' := ?_) ?_ ?_
    rotate_left
    ·show Act.put _ (some 111) _ = _
     simp only [Act.put, sia_, scz_, scs_, i64_w, i32_w]
     rfl
    refine pv_ 7 112 ?_
    refine pv_ 8 113 ?_
    refine last_ (i := 9) (N := none) #[true, true, true, true, true, true, true, true, true, true] rfl rfl (one_of HT_.out (by kernel_rfl)) (by decide) (fun K hK => ?_)
    refine skip_ (w1 := ?_) (by rfl) rfl ?_ ?_
    rotate_left
    ·go_simp
     rfl
    refine hK.out _ _ ?_
    clear hK K
    refine done_ (done_of HT_.out (by kernel_rfl)) ?_
    have n0_ : Aside0 (Kd.R k76 76 (w141.setCell ⟨go131, (t277 : Int).toNat * 3 + 1, none⟩ (.string t315)) w.heap.size (fun _ => True) (.slice (some ⟨go131, 0, none⟩) x259000_1.length co136) y316) := ⟨rq_ HQ142.out⟩
    have n1_ : Aside0 ((w141.setCell ⟨go131, (t277 : Int).toNat * 3 + 1, none⟩ (.string t315)).heap[gb257]? = some (.cells #[.slice none 0 0] 31 (0, 0))) := ⟨by (with_reducible repeat (first | refine blk_drewN ?_ _ | refine blk_drew ?_ | refine blk_alloc ?_ _)); refine blk_far ?_ (by have h_ := Kd.R_ne HO_259000.out BK257.out (by decide); intro e_; exact h_ (by rw [e_]; rfl)) _; (with_reducible repeat (first | refine blk_drewN ?_ _ | refine blk_drew ?_ | refine blk_alloc ?_ _)); exact BK257.out⟩
    have n2_ : Aside0 ((w141.setCell ⟨go131, (t277 : Int).toNat * 3 + 1, none⟩ (.string t315)).heap[gb258]? = some (.cells #[.slice (some ⟨go131, 0, none⟩) x259000_1.length co136] 31 (0, 0))) := ⟨by (with_reducible repeat (first | refine blk_drewN ?_ _ | refine blk_drew ?_ | refine blk_alloc ?_ _)); refine blk_far ?_ (by have h_ := Kd.R_ne HO_259000.out BK258.out (by decide); intro e_; exact h_ (by rw [e_]; rfl)) _; (with_reducible repeat (first | refine blk_drewN ?_ _ | refine blk_drew ?_ | refine blk_alloc ?_ _)); exact BK258.out⟩
    have n3_ : Aside0 (IsS119 w0 (w141.setCell ⟨go131, (t277 : Int).toNat * 3 + 1, none⟩ (.string t315)) g s0_0 t313 t314) := ⟨by repeat (first | (with_reducible first | exact HI0.out | apply IsS119.alloc | apply IsS119.drewN | apply IsS119.drew | apply IsS119.set_1 | apply IsS119.set_2 | refine IsS119.far ?_ HN0_go131.out _ | refine IsS119.far ?_ NB0_257.out _ | refine IsS119.far ?_ NB0_258.out _) | exact HI0.out)⟩
    have n4_ : Aside0 (KeepBut w (w141.setCell ⟨go131, (t277 : Int).toNat * 3 + 1, none⟩ (.string t315)) g none) := ⟨by repeat (first | (with_reducible first | exact HK.out | apply KeepBut.set_ | apply keep_drewN | apply keep_drew | apply keep_alloc | refine keep_far ?_ GB131.out _ | refine keep_far ?_ GW257.out _ | refine keep_far ?_ GW258.out _) | exact HK.out)⟩
    have n5_ : Aside0 (Below w0.heap.size w0 (w141.setCell ⟨go131, (t277 : Int).toNat * 3 + 1, none⟩ (.string t315))) := ⟨by repeat (first | (with_reducible first | exact HB.out | apply below_alloc | apply pw_below_drewN | apply below_drew1 | refine below_set ?_ (Nat.le_trans HL.out GB131.out) | refine below_set ?_ (IsS119.ge HI0.out) | refine below_set ?_ GE257.out | refine below_set ?_ GE258.out) | exact HB.out)⟩
    (try clear HO_259000); (try clear BK257); (try clear BK258); (try clear HI0); (try clear HK); (try clear HB)
    generalize (w141.setCell ⟨go131, (t277 : Int).toNat * 3 + 1, none⟩ (.string t315)) = w143 at n0_ n1_ n2_ n3_ n4_ n5_ ⊢
    have HO_259000 := n0_; have BK257 := n1_; have BK258 := n2_; have HI0 := n3_; have HK := n4_; have HB := n5_; clear n0_ n1_ n2_ n3_ n4_ n5_
    have hcz144_0 : w143.cell? ⟨gb258, 0, none⟩ = some (.slice (some ⟨go131, 0, none⟩) x259000_1.length co136) := bc_ BK258 0
    have hfz144_0 := blk_frozen BK258.out 0
    obtain ⟨hnb145, hnc145⟩ := ns_ NB257_0
    have hcz146_0 : w143.cell? ⟨gb257, 0, none⟩ = some (.slice none 0 0) := bc_ BK257 0
    have hfz146_0 := blk_frozen BK257.out 0
    try go_wp2
    refine bodyPost_ret (results_cell_row rfl _ _ gb257 31 #[.slice (some ⟨go131, 0, none⟩) x259000_1.length co136] (0, 0) _ rfl bu_ Try.underlying31 rfl (by kernel_rfl)) rfl ?_
    exact ⟨_, er_, rq_ (Kd.R_mono (Kd.R_far (p := ⟨gb257, 0, none⟩) (Kd.R_types HO_259000.out BK257.out (by decide)) (fun _ hk => hk.2) (.slice (some ⟨go131, 0, none⟩) x259000_1.length co136)) (fun _ hk => trivial)), IsS119.ii_ HI0, bwi_ HB (IsS119.ge HI0.out), kb_ HK⟩
   rw [if_pos c96] at H
   have c96b0 : (t280 == 3) = true := beq_iff_eq.mpr c96
   have c96b1 : (t280 != 3) = false := bne_eq_false_iff_eq.mpr c96
   clear c96
   obtain ⟨y302, hy302⟩ : ∃ y_ : List (S76), y_ = (([] : List (S76))) := ⟨_, rfl⟩
   replace H : (spec_l03Disk.l1 k1 0 s0_0 t281 t282 y302) = some (r1, r2, r3) := by first | (rw [hy302]; with_reducible exact H) | (have H2_ := (Option.bind_some _ _).symm.trans H; rw [hy302]; with_reducible exact H2_) | (have H2_ := (Option.bind_some _ _).symm.trans H; with_reducible exact H2_) | with_reducible exact H | (rw [hy302]; exact H) | exact H
   have Ny302 := Aside0.mk hy302
   clear hy302
   have H' := Aside0.mk H
   clear H
   go_wp2_with (first | ((with_reducible refine gate_callee (f := 83) rfl ?_); refine gl_ 11 Try.func83 #[.pointer (some ⟨g, 0, none⟩), .int .i64 6] ?_; (with_reducible refine (spec_l01Below.calls g s0_0 x1001_1 x1002_1 6 t259 t260 t261 w0 _ ?side1 ?side2 A7.out).mono ?_); (case side1 => exact IsS119.ii_ HI0); (case side2 => exact bwi_ HB (IsS119.ge HI0.out)); rintro e w97 ⟨rfl, hi, hb, hk⟩; refine ⟨_, rfl, ?_⟩; replace HO_259000 := mk_ (Kd.R_mono (Kd.R_keep (IsS119.apart (show IsS119 w0 _ g s0_0 x1001_1 x1002_1 from IsS119.ii_ HI0) (rp_ HO_259000) (by decide)) hk (fun _ h => h.2)) (fun _ h => h.1)); replace BK257 := kz_ BK257 hk NB257_0; replace BK258 := kz_ BK258 hk NB258_0; replace HK := mk_ (KeepBut.trans (kb_ HK) hk (.inl rfl)); replace HB := mk_ (hb); replace HI0 := mk_ (hi); (try clear hb); (try clear hk); (try clear hi); obtain ⟨hnb98, hnc98⟩ := ns_ NB258_257; obtain ⟨hnb99, hnc99⟩ := ns_ NB258_0; obtain ⟨hcz100_0, hfz100_0⟩ := b1_ BK258; obtain ⟨Ao101, co101, eo101⟩ := Kd.R_slice HO_259000.out; subst eo101) | ((with_reducible refine gate_callee (f := 83) rfl ?_); refine gl_ 39 Try.func83 #[.pointer (some ⟨g, 0, none⟩), .int .i64 (x259000_1.length : Int)] ?_; (with_reducible refine (spec_l01Below.calls g s0_0 t260 t261 (x259000_1.length : Int) t277 t278 t279 w0 _ ?side1 ?side2 A32.out).mono ?_); (case side1 => exact IsS119.ii_ HI0); (case side2 => exact bwi_ HB (IsS119.ge HI0.out)); rintro e w102 ⟨rfl, hi, hb, hk⟩; refine ⟨_, rfl, ?_⟩; replace HO_259000 := mk_ (Kd.R_mono (Kd.R_keep (IsS119.apart (show IsS119 w0 _ g s0_0 t260 t261 from IsS119.ii_ HI0) (rp_ HO_259000) (by decide)) hk (fun _ h => h.2)) (fun _ h => h.1)); replace BK257 := kz_ BK257 hk NB257_0; replace BK258 := kz_ BK258 hk NB258_0; replace HK := mk_ (KeepBut.trans (kb_ HK) hk (.inl rfl)); replace HB := mk_ (hb); replace HI0 := mk_ (hi); (try clear hb); (try clear hk); (try clear hi)) | ((with_reducible refine gate_callee (f := 83) rfl ?_); refine gl_ 41 Try.func83 #[.pointer (some ⟨g, 0, none⟩), .int .i64 40] ?_; (with_reducible refine (spec_l01Below.calls g s0_0 t278 t279 40 t280 t281 t282 w0 _ ?side1 ?side2 A33.out).mono ?_); (case side1 => exact IsS119.ii_ HI0); (case side2 => exact bwi_ HB (IsS119.ge HI0.out)); rintro e w103 ⟨rfl, hi, hb, hk⟩; refine ⟨_, rfl, ?_⟩; replace HO_259000 := mk_ (Kd.R_mono (Kd.R_keep (IsS119.apart (show IsS119 w0 _ g s0_0 t278 t279 from IsS119.ii_ HI0) (rp_ HO_259000) (by decide)) hk (fun _ h => h.2)) (fun _ h => h.1)); replace BK257 := kz_ BK257 hk NB257_0; replace BK258 := kz_ BK258 hk NB258_0; replace HK := mk_ (KeepBut.trans (kb_ HK) hk (.inl rfl)); replace HB := mk_ (hb); replace HI0 := mk_ (hi); (try clear hb); (try clear hk); (try clear hi)) | ((with_reducible refine gate_dst (N := 84) rfl ?_); refine Kd.R_lit k76 _ 76 ?hg (N := 84) ?hd (xs := ([] : List (S76))) (inner := []) (ok := fun _ => True) (okp := fun _ => True) ?hr ?hp (fun _ hk => hk) trivial (Below.refl _ _) (Nat.le_refl _) (by simp) ?_; (case hd => rfl); (case hg => rfl); (case hr => first | (go_simp; done) | (go_simp; rfl)); (case hp => exact (Reps.none _ _)); intro v303 w104 ho105 hb hg_ hnew_; clear hg_ hnew_; (first | rw [← Ny302.out] at ho105 | (simp only [Int.reduceToNat] at ho105; rw [← Ny302.out] at ho105)); have n0_ := mk_ (Kd.R_elder' (rp_ HO_259000) (Kd.R_base ho105) hb); have n1_ := mk_ (Kd.R_lower (Kd.R_new' ho105 (Kd.R_lt (rp_ HO_259000))) (keep_size (w := w) (g := g) (row := none) (kb_ HK))); have n4_ := mk_ (IsS119.below (IsS119.ii_ HI0) hb); have n5_ := mk_ (KeepBut.trans (kb_ HK) (KeepBut.of_below hb g none) (.inl rfl)); have n6_ := mk_ (below_step (bwi_ HB (IsS119.ge HI0.out)) hb); clear HO_259000; clear HI0; clear HK; clear HB; have HO_259000 := n0_; have HO304 := n1_; have HI0 := n4_; have HK := n5_; have HB := n6_; clear n0_ n1_ n4_ n5_ n6_; replace BK257 := bb_ BK257 hb; replace BK258 := bb_ BK258 hb; clear hb ho105; obtain ⟨Ao106, co106, eo106⟩ := Kd.R_slice HO304.out; subst eo106; obtain ⟨hcz107_0, hfz107_0⟩ := b1_ BK258))
   go_loopg [7] k1 (fun kq v7 w' => ∃ (x7_2 : Int) (x1001_2 : Int) (x1002_2 : Int) (x259000_2 : List (S76)) (u259000 : Value), v7 = .int .i64 x7_2 ∧ Aside0 (spec_l03Disk.l1 kq x7_2 s0_0 x1001_2 x1002_2 x259000_2 = some (r1, r2, r3)) ∧ Aside0 (kq ≤ k1) ∧ Aside0 (Kd.R k76 76 w' w.heap.size (fun _ => True) u259000 x259000_2) ∧ Aside0 (w'.heap[gb257]? = some (.cells #[(.slice none 0 0)] 31 (0, 0))) ∧ Aside0 (w'.heap[gb258]? = some (.cells #[u259000] 31 (0, 0))) ∧ Aside0 (IsS119 w0 w' g s0_0 x1001_2 x1002_2) ∧ Aside0 (KeepBut w w' g none) ∧ Aside0 (Below w0.heap.size w0 w'))
   case atStart => exact ⟨(0), (t281), (t282), (y302), (.slice Ao106 y302.length co106), (by first | rfl | (simp; done) | (simp [*]; done) | (simp [bne]; done)), H', ⟨Nat.le_refl _⟩, ⟨rq_ (rt_ HO304 BK258 0 (.slice Ao106 y302.length co106))⟩, ⟨bf_⟩, ⟨bu_⟩, ⟨IsS119.ii_ HI0⟩, ⟨kb_ HK⟩, ⟨bwi_ HB (IsS119.ge HI0.out)⟩⟩
   case round =>
    clear H'
    (try clear p2); (try clear q2); (try clear hx2); (try clear c3); (try clear p3); (try clear q3); (try clear hx3); (try clear hf3); (try clear c5); (try clear c6); (try clear c7); (try clear p7); (try clear q7); (try clear hx7); (try clear hf7); (try clear c8); (try clear c9); (try clear hx28); (try clear p29); (try clear q29); (try clear hx29); (try clear c34); (try clear c34b0); (try clear c34b1); (try clear c35); (try clear c36); (try clear c38); (try clear p38); (try clear q38); (try clear hx38); (try clear hf38); (try clear c51); (try clear c54); (try clear c56); (try clear c56b0); (try clear c56b1); (try clear c57); (try clear c57b0); (try clear c58); (try clear c58b0); (try clear c59); (try clear c61); (try clear c62); (try clear c72); (try clear c74); (try clear c74b0); (try clear c74b1); (try clear c76); (try clear c76b0); (try clear c77); (try clear c77b0); (try clear c78); (try clear p78); (try clear q78); (try clear hx78); (try clear hf78); (try clear c80); (try clear c81); (try clear c83); (try clear c86); (try clear c87); (try clear c91); (try clear c94); (try clear c96); (try clear c96b0); (try clear c96b1); (try clear c98); (try clear c99); (try clear hcz100_0); (try clear hcz107_0); (try clear hcz53_0); (try clear hcz55_0); (try clear hcz63_0); (try clear hcz71_0); (try clear hcz73_0); (try clear hcz82_0); (try clear hcz93_0); (try clear hcz95_0); (try clear hfz100_0); (try clear hfz107_0); (try clear hfz53_0); (try clear hfz55_0); (try clear hfz63_0); (try clear hfz71_0); (try clear hfz73_0); (try clear hfz82_0); (try clear hfz93_0); (try clear hfz95_0); (try clear hx283_0); (try clear hx283_1); (try clear hx283_2); (try clear hx291_0); (try clear hx291_1); (try clear hx291_2); (try clear hx38_0); (try clear hx38_1); (try clear hx38_2); (try clear hx78_0); (try clear hx78_1); (try clear hx78_2); (try clear p291); (try clear p38); (try clear p78); (try clear q291); (try clear q38); (try clear q78)
    obtain ⟨x7_2, x1001_2, x1002_2, x259000_2, u259000, rfl, HA, HK2, HO_259000, BK257, BK258, HI0, HK, HB⟩ := hrel
    cases gk with
    | zero => exact absurd HA.out (by simp [spec_l03Disk.l1])
    | succ k2 =>
     have H := HA.out
     clear HA
     simp only [spec_l03Disk.l1] at H
     replace H := Option.bind_eq_some_iff.mp H
     obtain ⟨⟨t305, t306, t307⟩, A1080, H⟩ := H
     try dsimp only at H
     have A108 := Aside0.mk A1080
     clear A1080
     by_cases c109 : x7_2 < (wrap64 (30 + t305))
     rotate_left
     ·rw [if_neg c109] at H
      have c109b0 : decide (x7_2 < (wrap64 (30 + t305))) = false := decide_eq_false c109
      clear c109
      simp only [Option.some.injEq, Prod.mk.injEq] at H
      obtain ⟨rfl, rfl, rfl⟩ := H
      go_wp2_with (first | ((with_reducible refine gate_callee (f := 83) rfl ?_); refine gl_ 88 Try.func83 #[.pointer (some ⟨g, 0, none⟩), .int .i64 2] ?_; (with_reducible refine (spec_l01Below.calls g s0_0 x1001_2 x1002_2 2 t305 t306 t307 w0 _ ?side1 ?side2 A108.out).mono ?_); (case side1 => exact IsS119.ii_ HI0); (case side2 => exact bwi_ HB (IsS119.ge HI0.out)); rintro e w119 ⟨rfl, hi, hb, hk⟩; refine ⟨_, rfl, ?_⟩; replace HO_259000 := mk_ (Kd.R_mono (Kd.R_keep (IsS119.apart (show IsS119 w0 _ g s0_0 x1001_2 x1002_2 from IsS119.ii_ HI0) (rp_ HO_259000) (by decide)) hk (fun _ h => h.2)) (fun _ h => h.1)); replace BK257 := kz_ BK257 hk NB257_0; replace BK258 := kz_ BK258 hk NB258_0; replace HK := mk_ (KeepBut.trans (kb_ HK) hk (.inl rfl)); replace HB := mk_ (hb); replace HI0 := mk_ (hi); (try clear hb); (try clear hk); (try clear hi); obtain ⟨hnb120, hnc120⟩ := ns_ NB258_257; obtain ⟨hnb121, hnc121⟩ := ns_ NB258_0; obtain ⟨hcz122_0, hfz122_0⟩ := b1_ BK258; obtain ⟨Ao123, co123, eo123⟩ := Kd.R_slice HO_259000.out; subst eo123; obtain ⟨hnb124, hnc124⟩ := ns_ NB257_0; obtain ⟨hcz125_0, hfz125_0⟩ := b1_ BK257))
      refine bodyPost_ret (results_cell_row rfl _ _ gb257 31 #[.slice Ao123 x259000_2.length co123] (0, 0) _ rfl bu_ Try.underlying31 rfl (by kernel_rfl)) rfl ?_
      exact ⟨_, er_, rq_ (rt_ HO_259000 BK257 0 (.slice Ao123 x259000_2.length co123)), IsS119.ii_ HI0, bwi_ HB (IsS119.ge HI0.out), kb_ HK⟩
     rw [if_pos c109] at H
     have c109b0 : decide (x7_2 < (wrap64 (30 + t305))) = true := decide_eq_true c109
     clear c109
     replace H := Option.bind_eq_some_iff.mp H
     obtain ⟨t308, A1100, H⟩ := H
     try dsimp only at H
     have A110 := Aside0.mk A1100
     clear A1100
     by_cases c111 : 1 + t308.size ≤ 9223372036854775807
     rotate_left
     ·rw [if_neg c111] at H
      exact absurd H (by simp)
     rw [if_pos c111] at H
     have c111b0 := eq_true c111
     have c111b1 : decide (1 + t308.size ≤ 9223372036854775807) = true := decide_eq_true c111
     try have c111b2 : (9223372036854775807 < 1 + t308.size) = False := eq_false (Nat.not_lt.2 c111)
     by_cases c112 : x259000_2.length < 3518437208883
     rotate_left
     ·rw [if_neg c112] at H
      exact absurd H (by simp)
     rw [if_pos c112] at H
     have LMc112 := Aside0.mk c112
     clear c112
     obtain ⟨y309, hy309⟩ : ∃ y_ : List (S76), y_ = (x259000_2 ++ [(⟨(⟨#[102]⟩ : ByteArray) ++ t308, (⟨#[]⟩ : ByteArray), 0⟩ : S76)]) := ⟨_, rfl⟩
     replace H : (spec_l03Disk.l1 k2 (wrap64 (x7_2 + 1)) s0_0 t306 t307 y309) = some (r1, r2, r3) := by first | (rw [hy309]; with_reducible exact H) | (have H2_ := (Option.bind_some _ _).symm.trans H; rw [hy309]; with_reducible exact H2_) | (have H2_ := (Option.bind_some _ _).symm.trans H; with_reducible exact H2_) | with_reducible exact H | (rw [hy309]; exact H) | exact H
     have Ny309 := Aside0.mk hy309
     clear hy309
     have H' := Aside0.mk H
     clear H
     try go_wp2_with (first | ((with_reducible refine gate_callee (f := 83) rfl ?_); refine gl_ 88 Try.func83 #[.pointer (some ⟨g, 0, none⟩), .int .i64 2] ?_; (with_reducible refine (spec_l01Below.calls g s0_0 x1001_2 x1002_2 2 t305 t306 t307 w0 _ ?side1 ?side2 A108.out).mono ?_); (case side1 => exact IsS119.ii_ HI0); (case side2 => exact bwi_ HB (IsS119.ge HI0.out)); rintro e w113 ⟨rfl, hi, hb, hk⟩; refine ⟨_, rfl, ?_⟩; replace HO_259000 := mk_ (Kd.R_mono (Kd.R_keep (IsS119.apart (show IsS119 w0 _ g s0_0 x1001_2 x1002_2 from IsS119.ii_ HI0) (rp_ HO_259000) (by decide)) hk (fun _ h => h.2)) (fun _ h => h.1)); replace BK257 := kz_ BK257 hk NB257_0; replace BK258 := kz_ BK258 hk NB258_0; replace HK := mk_ (KeepBut.trans (kb_ HK) hk (.inl rfl)); replace HB := mk_ (hb); replace HI0 := mk_ (hi); (try clear hb); (try clear hk); (try clear hi)))
     have n3_ := mk_ (IsS119.drew HI0.out)
     have n4_ := mk_ (keep_drew HK.out)
     clear HI0; clear HK; have HI0 := n3_; have HK := n4_; clear n3_ n4_; replace HO_259000 := rd_ HO_259000; replace BK257 := kd_ BK257; replace BK258 := kd_ BK258; replace HB := wd_ HB
     refine start_ (n := 11) (S := fun w' => w'.cell? ⟨gb258, 0, none⟩ = some (u259000)) (ds := [10]) #[false, false, false, false, false, false, false, false, false, false, false] (by kernel_rfl) rfl rfl (bc_ BK258 0) (fun hHeld => ?_); refine with_tabW spec_l03Disk.tab22 spec_l03Disk.bits22 (fun HT_ HW_ => ?_)
     generalize w113.drew = w114 at HO_259000 BK257 BK258 HI0 HK HB hHeld ⊢
     refine pv_ 0 93 ?_
     refine pv_ 2 95 ?_
     refine pv_ 3 96 ?_
     refine take_ (i := 1) (N := some 94) (v := ?_) (a' := ?_) #[true, true, true, true, false, false, false, false, false, false, false] rfl rfl (take_ofW HT_.out HW_.out (by kernel_rfl)) (fun _ _ _ h => h) (Or.inl ⟨by rfl, ?_⟩) hHeld ?_ ?_
     rotate_left
     ·intro w' s0
      go_simp
      with_reducible rfl
     rotate_left
     ·simp only [Act.put, sia_, scz_, scs_, i64_w, i32_w]
      rfl
     refine one_ (i := 4) (N := some 97) #[true, true, true, true, true, false, false, false, false, false, false] rfl rfl (one_of HT_.out (by kernel_rfl)) (by decide) (fun K hK => ?_)
     refine goes_ Try.func88 (by kernel_rfl) rfl #[.int .i64 (wrap64 (100 + x7_2))] (by rfl) rfl rfl ga_ ?_
     with_reducible refine (spec_Decimal.calls k2 (wrap64 (100 + x7_2)) t308 _ A110.out).mono ?_
     rintro e w115 ⟨rfl, hb⟩
     refine ⟨_, rfl, ?_⟩
     have n3_ := mk_ (IsS119.below (IsS119.ii_ HI0) hb)
     have n4_ := mk_ (KeepBut.trans (kb_ HK) (KeepBut.of_below hb g none) (.inl rfl))
     have n5_ := mk_ (below_step (bwi_ HB (IsS119.ge HI0.out)) hb)
     clear HI0; clear HK; clear HB; have HI0 := n3_; have HK := n4_; have HB := n5_; clear n3_ n4_ n5_; replace HO_259000 := rb_ HO_259000 hb; replace BK257 := bb_ BK257 hb; replace BK258 := bb_ BK258 hb; (try clear hb); (try clear hb2); (try clear hk); (try clear hi)
     refine hK.out _ _ (bc_ BK258 0) (fun hHeld => ?_)
     clear hK K
     refine norm_ (a' := ?_) ?_ ?_
     rotate_left
     ·show Act.put _ (some 97) _ = _
      simp only [Act.put, sia_, scz_, scs_, i64_w, i32_w]
      rfl
     refine pv_ 5 98 ?_
     refine pv_ 6 99 ?_
     refine one_ (i := 7) (N := some 100) #[true, true, true, true, true, true, true, true, false, false, false] rfl rfl (one_of HT_.out (by kernel_rfl)) (by decide) (fun K hK => ?_)
     refine value_ (w1 := ?_) (v := ?_) (by rfl) rfl ?_ ?_
     rotate_left 2
     ·go_simp
      constructor
      ·rfl
      ·rfl
     refine hK.out _ _ ((blk_cell (blk_alloc BK258.out _) 0).trans rfl) (fun hHeld => ?_)
     clear hK K
     refine norm_ (a' := ?_) ?_ ?_
     rotate_left
     ·show Act.put _ (some 100) _ = _
      simp only [Act.put, sia_, scz_, scs_, i64_w, i32_w]
      rfl
     refine one_ (i := 8) (N := some 101) #[true, true, true, true, true, true, true, true, true, false, false] rfl rfl (one_of HT_.out (by kernel_rfl)) (by decide) (fun K hK => ?_)
     refine Kd.R_append_step k76 w.heap.size (by rfl) (.tmp 94) (.tmp 100) 29 76 (.agg #[(.string ⟨#[]⟩), (.string ⟨#[]⟩), (.int .i64 0)]) 40 rfl Try.underlying29 info76 rfl (by decide) (by omega) u259000 x259000_2 (⟨(⟨#[102]⟩ : ByteArray) ++ t308, (⟨#[]⟩ : ByteArray), 0⟩ : S76) [.string ((⟨#[102]⟩ : ByteArray) ++ t308), .string (⟨#[]⟩ : ByteArray), .int .i64 0] (fun _ => True) (fun _ => False) rfl rfl ?aP (fun _ hk => hk.elim) ?aF ?aO (Below.refl _ _) ?aS ?aL ?_
     (case aP => exact k76_mkM _ _ _ (⟨(⟨#[102]⟩ : ByteArray) ++ t308, (⟨#[]⟩ : ByteArray), 0⟩ : S76))
     (case aF => exact (fun _ _ => trivial))
     (case aO => exact (rp_ HO_259000))
     (case aS => exact (keep_size (w := w) (g := g) (row := none) (kb_ HK)))
     (case aL => have := LMc112.out; omega)
     intro v310 w116 ho hb hg hat
     rw [← Ny309.out] at ho
     have n0_ := mk_ (blk_grown (g := gb257) (o := .cells #[.slice none 0 0] 31 (0, 0)) (bp_ BK257) hg (Kd.R_ne HO_259000.out BK257.out (by decide)))
     have n1_ := mk_ (blk_grown (g := gb258) (o := .cells #[u259000] 31 (0, 0)) (bp_ BK258) hg (Kd.R_ne HO_259000.out BK258.out (by decide)))
     have n2_ := mk_ (IsS119.grown (IsS119.ii_ HI0) hg (IsS119.own_ne HI0.out HO_259000.out (by decide)))
     have n3_ := mk_ (below_weaken (bwi_ HB (IsS119.ge HI0.out)) HL.out hb)
     have n4_ := mk_ (KeepBut.trans (kb_ HK) (KeepBut.of_grown hg g) (Kd.R_base2 HO_259000.out))
     have n5_ := mk_ (ho)
     clear BK257; clear BK258; clear HI0; clear HB; clear HK; clear HO_259000; have BK257 := n0_; have BK258 := n1_; have HI0 := n2_; have HB := n3_; have HK := n4_; have HO311 := n5_; clear n0_ n1_ n2_ n3_ n4_ n5_; clear ho hb hg hat
     obtain ⟨Ao117, co117, eo117⟩ := Kd.R_slice HO311.out
     (first | subst eo117 | (injection eo117 with f1_ f2_ f3_; have f4_ := f1_.symm; have f5_ := f3_.symm; clear f1_ f2_ f3_; subst f4_; subst f5_))
     refine hK.out _ _ (bc_ BK258 0) (fun hHeld => ?_)
     clear hK K
     refine norm_ (a' := ?_) ?_ ?_
     rotate_left
     ·show Act.put _ (some 101) _ = _
      simp only [Act.put, sia_, scz_, scs_, i64_w, i32_w]
      rfl
     refine pv_ 9 102 ?_
     refine last_ (i := 10) (N := none) #[true, true, true, true, true, true, true, true, true, true, true] rfl rfl (one_of HT_.out (by kernel_rfl)) (by decide) (fun K hK => ?_)
     have hs118 : w116.cell? ⟨gb258, 0, none⟩ = some (u259000) := bc_ BK258 0
     have hfs118 := blk_frozen BK258.out 0
     have hns118_0 := NB257_258.out
     have hms118_0 := NB258_257.out
     refine skip_ (w1 := ?_) (by rfl) rfl ?_ ?_
     rotate_left
     ·go_simp
      rfl
     refine hK.out _ _ ?_
     clear hK K
     refine done_ (done_of HT_.out (by kernel_rfl)) ?_
     try go_wp2
     go_roundg k2
     case measure => have := HK1.out; have := HK2.out; omega
     case rel => exact ⟨(wrap64 (x7_2 + 1)), (t306), (t307), (y309), (.slice Ao117 y309.length co117), (by first | rfl | (simp; done) | (simp [*]; done) | (simp [bne]; done)), H', ⟨by have := HK1.out; have := HK2.out; omega⟩, ⟨rq_ (rt_ HO311 BK258 0 (.slice Ao117 y309.length co117))⟩, ⟨bf_⟩, ⟨bu_⟩, ⟨IsS119.ii_ HI0⟩, ⟨kb_ HK⟩, ⟨bwi_ HB (IsS119.ge HI0.out)⟩⟩

end Go.Proofs.Ythbaoefbccdioaa.QFnActs
