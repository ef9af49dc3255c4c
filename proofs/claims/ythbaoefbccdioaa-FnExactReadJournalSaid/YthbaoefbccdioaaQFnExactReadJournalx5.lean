/- Written by this session's own program (wip/tpl/pp.py): what the law's functions come to, and that the machine's calls do just that. -/
import Derived.Test.YthbaoefbccdioaaTMPack
import Derived.Test.YthbaoefbccdioaaQFnExactReadJournalx0
import Derived.Test.YthbaoefbccdioaaQFnExactReadJournalx1
import Derived.Test.YthbaoefbccdioaaQFnExactReadJournalx4
namespace Go.Proofs.Ythbaoefbccdioaa.QFnExactReadJournal
open Go.RowKit Go.Proofs.YthbaoefbccdioaaW.PrintWords Go.Proofs.YthbaoefbccdioaaW.PrintLast Go.Proofs.YthbaoefbccdioaaW.PrintMore
attribute [local go_sem] Go.Proofs.Ythbaoefbccdioaa.Sem.string_geq Go.Proofs.Ythbaoefbccdioaa.Sem.string_leq Go.Proofs.Ythbaoefbccdioaa.Sem.string_gtr
attribute [local go_sem] max2_int min2_int max_two min_two max_three min_three max_four min_four   -- for this text's walks alone
set_option linter.unusedVariables false
set_option linter.unusedSimpArgs false

/-! ### spec_EntryText: function 118 -/
def spec_EntryText.j0 : Nat → Int → Bool → Int → Int → ByteArray → Option (ByteArray × Bool)
 | 0, _, _, _, _, _ => none
 | k + 1, x0, x13, x186000, x186001, x186002 => if x13 = true then (some ((⟨#[]⟩ : ByteArray), false)) else ((spec_l01Var.f k x0).bind fun t188 => (if 1 + t188.size ≤ 9223372036854775807 then ((spec_l01Var.f k x186000).bind fun t189 => (if ((⟨#[69]⟩ : ByteArray) ++ t188).size + t189.size ≤ 9223372036854775807 then ((some (([(x186001) % 256] : List Int) : List Int)).bind fun y190 => (if (((⟨#[69]⟩ : ByteArray) ++ t188) ++ t189).size + (strOfNums y190).size ≤ 9223372036854775807 then (if ((((⟨#[69]⟩ : ByteArray) ++ t188) ++ t189) ++ (strOfNums y190)).size + x186002.size ≤ 9223372036854775807 then (some (((((⟨#[69]⟩ : ByteArray) ++ t188) ++ t189) ++ (strOfNums y190)) ++ x186002, true)) else (none)) else (none))) else (none))) else (none)))
def spec_EntryText.f (k : Nat) (a0 : Int) (a1_0 : Int) (a1_1 : Int) (a1_2 : ByteArray) : Option (ByteArray × Bool) := (spec_EntryOk.f k a1_0 a1_1 a1_2).bind fun t186 => (if t186 = true then ((spec_l01In.f a0 1 1000000).bind fun t187 => (spec_EntryText.j0 k a0 (!t187) a1_0 a1_1 a1_2)) else (spec_EntryText.j0 k a0 true a1_0 a1_1 a1_2))
theorem spec_EntryText.mono_l : ∀ k, (∀ y0 y1 y2 y3 y4, LeO (spec_EntryText.j0 k y0 y1 y2 y3 y4) (spec_EntryText.j0 (k + 1) y0 y1 y2 y3 y4))
 | 0 => fun _ _ _ _ _ r h => by simp [spec_EntryText.j0] at h
 | k + 1 => by
  have ih0 := spec_EntryText.mono_l k
  ·intro y0 y1 y2 y3 y4
   unfold spec_EntryText.j0
   repeat' first
   | (with_reducible exact spec_l01Var.mono _ _)
   | (with_reducible exact LeO.refl _)
   | (with_reducible refine LeO.ite ?_ ?_)
   | (with_reducible refine LeO.bind ?_ (fun _ => ?_))
theorem spec_EntryText.mono : ∀ a0 a1 a2 a3 k, LeO (spec_EntryText.f k a0 a1 a2 a3) (spec_EntryText.f (k + 1) a0 a1 a2 a3) := by
 intro a0 a1 a2 a3 k
 have ih0 := spec_EntryText.mono_l k
 unfold spec_EntryText.f
 repeat' first
   | (with_reducible exact ih0 _ _ _ _ _)
   | (with_reducible exact spec_EntryOk.mono _ _ _ _)
   | (with_reducible exact LeO.refl _)
   | (with_reducible refine LeO.ite ?_ ?_)
   | (with_reducible refine LeO.bind ?_ (fun _ => ?_))
def spec_EntryText.T3 : Bool × List (List Nat × List Nat) := (true, [([], []), ([0], [0]), ([1], [1]), ([], []), ([3], [3]), ([4, 1], [4]), ([2, 5], [2, 5]), ([], []), ([7], [7]), ([8], [8]), ([9], [9]), ([10], [10]), ([6, 11], [6, 11]), ([], []), ([13], [13]), ([12, 14], [12, 14]), ([15, 5, 0, 1, 2, 3, 4, 5, 6, 7, 8, 9, 10, 11, 12, 13, 14, 15], [15]), ([16, 0, 1, 2, 3, 4, 5, 6, 7, 8, 9, 10, 11, 12, 13, 14, 15, 16], [])])
def spec_EntryText.B3 : List Nat := [0, 1, 3, 0, 8, 27, 63, 0, 128, 384, 896, 1920, 4095, 0, 8192, 32767, 65535, 131071]
theorem spec_EntryText.tab3 : rtab .any (opsOf Try.f118 3) = spec_EntryText.T3 := by kernel_rfl
theorem spec_EntryText.bits3 : waitsOk spec_EntryText.T3.2 spec_EntryText.B3 = true := by kernel_rfl
set_option maxHeartbeats 8000000 in
set_option maxRecDepth 100000 in
theorem spec_EntryText.calls (k : Nat) (a0 : Int) (a1_0 : Int) (a1_1 : Int) (a1_2 : ByteArray) (r1 : ByteArray) (r2 : Bool) (w : World) (h : spec_EntryText.f k a0 a1_0 a1_1 a1_2 = some (r1, r2)) :
  Calls Try.prog 118 #[.int .i64 a0, .agg #[.int .i64 a1_0, .int .i64 a1_1, .string a1_2]] w fun e w' => e = .returned (.tuple #[.string r1, .bool r2]) ∧ Below w.heap.size w w' := by
 have hu135 := Try.underlying135
 have HB := mk_ (Below.refl w.heap.size w)
 have H : ((spec_EntryOk.f k a1_0 a1_1 a1_2).bind fun t186 => (if t186 = true then ((spec_l01In.f a0 1 1000000).bind fun t187 => (spec_EntryText.j0 k a0 (!t187) a1_0 a1_1 a1_2)) else (spec_EntryText.j0 k a0 true a1_0 a1_1 a1_2))) = some (r1, r2) := h
 clear h
 have HC3 := Aside0.mk H
 clear H
 go_enter Try.func118, Try.ntmps118
 go_upto_region 1 with (first | ((with_reducible refine gate_dst (N := 3) rfl ?_); refine bx_ (N := 3) (cs := #[.int .i64 a1_0, .int .i64 a1_1, .string a1_2]) (t := 135) ?_; intro gb185 hg w4 hbox hb; have BK185 := mk_ (hbox); have GW185 : Aside0 (w.heap.size ≤ gb185) := bz_ hg; have GE185 := GW185; replace HB := bs_ HB hb; clear hb hbox hg))
 (try simp only [Act.put, sia_, scz_, scs_])
 go_cut [13] (fun v13 wc => ∃ (kq : Nat) (x13_2 : Bool), v13 = .bool x13_2 ∧ Aside0 (spec_EntryText.j0 kq a0 x13_2 a1_0 a1_1 a1_2 = some (r1, r2)) ∧ Aside0 (kq ≤ k) ∧ Aside0 (wc.heap[gb185]? = some (.cells #[.int .i64 a1_0, .int .i64 a1_1, .string a1_2] 135 (0, 0))) ∧ Aside0 (Below w.heap.size w wc))
 case first =>
  have H := HC3.out
  clear HC3
  replace H := Option.bind_eq_some_iff.mp H
  obtain ⟨t186, A50, H⟩ := H
  try dsimp only at H
  have A5 := Aside0.mk A50
  clear A50
  by_cases c6 : t186 = true
  rotate_left
  ·replace c6 := Bool.eq_false_iff.mpr c6
   subst c6
   rw [if_neg (show ¬ (false = true) by decide)] at H
   have H' := Aside0.mk H
   clear H
   have hcz10_0 : w4.cell? ⟨gb185, 0, none⟩ = some (.int .i64 a1_0) := bc_ BK185 0
   have hcz10_1 : w4.cell? ⟨gb185, 1, none⟩ = some (.int .i64 a1_1) := bc_ BK185 1
   have hcz10_2 : w4.cell? ⟨gb185, 2, none⟩ = some (.string a1_2) := bc_ BK185 2
   have hfz10_0 := blk_frozen BK185.out 0
   have hfz10_1 := blk_frozen BK185.out 1
   have hfz10_2 := blk_frozen BK185.out 2
   go_wp2_with (first | ((with_reducible refine gate_callee (f := 96) rfl ?_); refine gl_ 7 Try.func96 #[.agg #[.int .i64 a1_0, .int .i64 a1_1, .string a1_2]] ?_; (with_reducible refine (spec_EntryOk.calls k a1_0 a1_1 a1_2 false _ A5.out).mono ?_); rintro e w11 ⟨rfl, hb⟩; refine ⟨_, rfl, ?_⟩; replace BK185 := bb_ BK185 hb; replace HB := bs_ HB hb; (try clear hb)))
   go_meet
   case rel => exact ⟨_, (true), (by first | rfl | (simp; done) | (simp [*]; done) | (simp [bne]; done)), H', ⟨by first | omega | exact Nat.le_refl _⟩, ⟨bf_⟩, ⟨bw_ HB⟩⟩
  subst c6
  rw [if_pos rfl] at H
  replace H := Option.bind_eq_some_iff.mp H
  obtain ⟨t187, A70, H⟩ := H
  try dsimp only at H
  have A7 := Aside0.mk A70
  clear A70
  have H' := Aside0.mk H
  clear H
  have hcz8_0 : w4.cell? ⟨gb185, 0, none⟩ = some (.int .i64 a1_0) := bc_ BK185 0
  have hcz8_1 : w4.cell? ⟨gb185, 1, none⟩ = some (.int .i64 a1_1) := bc_ BK185 1
  have hcz8_2 : w4.cell? ⟨gb185, 2, none⟩ = some (.string a1_2) := bc_ BK185 2
  have hfz8_0 := blk_frozen BK185.out 0
  have hfz8_1 := blk_frozen BK185.out 1
  have hfz8_2 := blk_frozen BK185.out 2
  go_wp2_with (first | ((with_reducible refine gate_callee (f := 96) rfl ?_); refine gl_ 7 Try.func96 #[.agg #[.int .i64 a1_0, .int .i64 a1_1, .string a1_2]] ?_; (with_reducible refine (spec_EntryOk.calls k a1_0 a1_1 a1_2 true _ A5.out).mono ?_); rintro e w9 ⟨rfl, hb⟩; refine ⟨_, rfl, ?_⟩; replace BK185 := bb_ BK185 hb; replace HB := bs_ HB hb; (try clear hb)) | (go_at_call 61; (with_reducible refine (spec_l01In.calls a0 1 1000000 t187 _ A7.out).mono ?_); rintro e w' ⟨rfl, ⟨nd, rfl⟩⟩))
  go_meet
  case rel => exact ⟨_, (!t187), (by first | rfl | (simp; done) | (simp [*]; done) | (simp [bne]; done)), H', ⟨by first | omega | exact Nat.le_refl _⟩, ⟨bf_⟩, ⟨bw_ HB⟩⟩
 case rest =>
  clear HC3
  (try clear c1); (try clear p2); (try clear c6); (try clear c9); (try clear c11); (try clear hcz10_0); (try clear hcz10_1); (try clear hcz10_2); (try clear hcz8_0); (try clear hcz8_1); (try clear hcz8_2); (try clear hfz10_0); (try clear hfz10_1); (try clear hfz10_2); (try clear hfz8_0); (try clear hfz8_1); (try clear hfz8_2)
  obtain ⟨kq, x13_2, rfl, HA, HJ2, BK185, HB⟩ := hcut
  cases kq with
  | zero => exact absurd HA.out (by simp [spec_EntryText.j0])
  | succ kj2 =>
   have H := HA.out
   clear HA
   simp only [spec_EntryText.j0] at H
   by_cases c12 : x13_2 = true
   ·subst c12
    rw [if_pos rfl] at H
    simp only [Option.some.injEq, Prod.mk.injEq] at H
    obtain ⟨rfl, rfl⟩ := H
    go_wp2
    go_ret2
    exact ⟨er_, bw_ HB⟩
   replace c12 := Bool.eq_false_iff.mpr c12
   subst c12
   rw [if_neg (show ¬ (false = true) by decide)] at H
   replace H := Option.bind_eq_some_iff.mp H
   obtain ⟨t188, A130, H⟩ := H
   try dsimp only at H
   have A13 := Aside0.mk A130
   clear A130
   by_cases c14 : 1 + t188.size ≤ 9223372036854775807
   rotate_left
   ·rw [if_neg c14] at H
    exact absurd H (by simp)
   rw [if_pos c14] at H
   have c14b0 := eq_true c14
   have c14b1 : decide (1 + t188.size ≤ 9223372036854775807) = true := decide_eq_true c14
   try have c14b2 : (9223372036854775807 < 1 + t188.size) = False := eq_false (Nat.not_lt.2 c14)
   replace H := Option.bind_eq_some_iff.mp H
   obtain ⟨t189, A150, H⟩ := H
   try dsimp only at H
   have A15 := Aside0.mk A150
   clear A150
   by_cases c16 : ((⟨#[69]⟩ : ByteArray) ++ t188).size + t189.size ≤ 9223372036854775807
   rotate_left
   ·rw [if_neg c16] at H
    exact absurd H (by simp)
   rw [if_pos c16] at H
   have c16b0 := eq_true c16
   have c16b1 : decide (((⟨#[69]⟩ : ByteArray) ++ t188).size + t189.size ≤ 9223372036854775807) = true := decide_eq_true c16
   try have c16b2 : (9223372036854775807 < ((⟨#[69]⟩ : ByteArray) ++ t188).size + t189.size) = False := eq_false (Nat.not_lt.2 c16)
   have c16x0 : (9223372036854775807 < 1 + t188.size + t189.size) = False := eq_false (by have h_ := c16; simp only [ByteArray.size_append] at h_; exact Nat.not_lt.2 h_)
   obtain ⟨y190, hy190⟩ : ∃ y_ : List Int, y_ = (([(a1_1) % 256] : List Int)) := ⟨_, rfl⟩
   replace H : (if (((⟨#[69]⟩ : ByteArray) ++ t188) ++ t189).size + (strOfNums y190).size ≤ 9223372036854775807 then (if ((((⟨#[69]⟩ : ByteArray) ++ t188) ++ t189) ++ (strOfNums y190)).size + a1_2.size ≤ 9223372036854775807 then (some (((((⟨#[69]⟩ : ByteArray) ++ t188) ++ t189) ++ (strOfNums y190)) ++ a1_2, true)) else (none)) else (none)) = some (r1, r2) := by first | (rw [hy190]; with_reducible exact H) | (have H2_ := (Option.bind_some _ _).symm.trans H; rw [hy190]; with_reducible exact H2_) | (have H2_ := (Option.bind_some _ _).symm.trans H; with_reducible exact H2_) | with_reducible exact H | (rw [hy190]; exact H) | exact H
   have Ny190 := Aside0.mk hy190
   clear hy190
   by_cases c17 : (((⟨#[69]⟩ : ByteArray) ++ t188) ++ t189).size + (strOfNums y190).size ≤ 9223372036854775807
   rotate_left
   ·rw [if_neg c17] at H
    exact absurd H (by simp)
   rw [if_pos c17] at H
   have c17b0 := eq_true c17
   have c17b1 : decide ((((⟨#[69]⟩ : ByteArray) ++ t188) ++ t189).size + (strOfNums y190).size ≤ 9223372036854775807) = true := decide_eq_true c17
   try have c17b2 : (9223372036854775807 < (((⟨#[69]⟩ : ByteArray) ++ t188) ++ t189).size + (strOfNums y190).size) = False := eq_false (Nat.not_lt.2 c17)
   have c17x0 : (9223372036854775807 < 1 + t188.size + t189.size + (strOfNums y190).size) = False := eq_false (by have h_ := c17; simp only [ByteArray.size_append] at h_; exact Nat.not_lt.2 h_)
   by_cases c18 : ((((⟨#[69]⟩ : ByteArray) ++ t188) ++ t189) ++ (strOfNums y190)).size + a1_2.size ≤ 9223372036854775807
   rotate_left
   ·rw [if_neg c18] at H
    exact absurd H (by simp)
   rw [if_pos c18] at H
   have c18b0 := eq_true c18
   have c18b1 : decide (((((⟨#[69]⟩ : ByteArray) ++ t188) ++ t189) ++ (strOfNums y190)).size + a1_2.size ≤ 9223372036854775807) = true := decide_eq_true c18
   try have c18b2 : (9223372036854775807 < ((((⟨#[69]⟩ : ByteArray) ++ t188) ++ t189) ++ (strOfNums y190)).size + a1_2.size) = False := eq_false (Nat.not_lt.2 c18)
   have c18x0 : (9223372036854775807 < 1 + t188.size + t189.size + (strOfNums y190).size + a1_2.size) = False := eq_false (by have h_ := c18; simp only [ByteArray.size_append] at h_; exact Nat.not_lt.2 h_)
   simp only [Option.some.injEq, Prod.mk.injEq] at H
   obtain ⟨rfl, rfl⟩ := H
   try go_wp2
   replace BK185 := kd_ BK185; replace HB := wd_ HB
   refine start_ (n := 18) (S := fun w' => w'.cell? ⟨gb185, 0, none⟩ = some (.int .i64 a1_0) ∧ w'.cell? ⟨gb185, 1, none⟩ = some (.int .i64 a1_1) ∧ w'.cell? ⟨gb185, 2, none⟩ = some (.string a1_2)) (ds := []) #[false, false, false, false, false, false, false, false, false, false, false, false, false, false, false, false, false, false] (by kernel_rfl) rfl rfl ⟨bc_ BK185 0, bc_ BK185 1, bc_ BK185 2⟩ (fun hHeld => ?_); refine with_tabW spec_EntryText.tab3 spec_EntryText.bits3 (fun HT_ HW_ => ?_)
   generalize wc.drew = w19 at BK185 HB hHeld ⊢
   refine pv_ 0 14 ?_
   refine pv_ 3 17 ?_
   refine pv_ 7 21 ?_
   refine pv_ 13 27 ?_
   refine tv_ 4 18 hHeld ?_
   refine tv_ 8 22 hHeld ?_
   refine pv_ 9 23 ?_
   refine tv_ 14 28 hHeld ?_
   refine join_ (σ := Value) 4 #[true, true, true, true, true, true, true, true, true, true, true, true, false, true, true, false, false, false] (fun s_ => [(15, .string t188), (19, .string t189), (24, s_), (25, .string (strOfNums y190)), (16, .string ((⟨#[69]⟩ : ByteArray) ++ t188)), (20, .string (((⟨#[69]⟩ : ByteArray) ++ t188) ++ t189))]) (fun s_ w' => (w'.cell? ⟨gb185, 0, none⟩ = some (.int .i64 a1_0) ∧ w'.cell? ⟨gb185, 1, none⟩ = some (.int .i64 a1_1) ∧ w'.cell? ⟨gb185, 2, none⟩ = some (.string a1_2)) ∧ (Kd.R (Kd.int .u8) 5 w' w.heap.size (fun _ => True) s_ y190) ∧ (w'.heap[gb185]? = some (.cells #[.int .i64 a1_0, .int .i64 a1_1, .string a1_2] 135 (0, 0))) ∧ (Below w.heap.size w w')) ?_ ?_
   rotate_left
   ·intro hJ1_5_10_11
    refine join_ (σ := Value) 5 #[true, true, true, true, true, true, true, true, true, true, true, false, false, true, true, false, false, false] (fun s_ => [(15, .string t188), (19, .string t189), (24, s_), (16, .string ((⟨#[69]⟩ : ByteArray) ++ t188)), (20, .string (((⟨#[69]⟩ : ByteArray) ++ t188) ++ t189))]) (fun s_ w' => (w'.cell? ⟨gb185, 0, none⟩ = some (.int .i64 a1_0) ∧ w'.cell? ⟨gb185, 1, none⟩ = some (.int .i64 a1_1) ∧ w'.cell? ⟨gb185, 2, none⟩ = some (.string a1_2)) ∧ (Kd.R (Kd.int .u8) 5 w' w.heap.size (fun _ => True) s_ y190) ∧ (w'.heap[gb185]? = some (.cells #[.int .i64 a1_0, .int .i64 a1_1, .string a1_2] 135 (0, 0))) ∧ (Below w.heap.size w w')) ?_ ?_
    rotate_left
    rotate_left
    ·skip
     rintro v191 w24 ⟨hS_, h0_, h1_, h2_⟩
     have n0_ : Aside0 (Kd.R (Kd.int .u8) 5 w24 w.heap.size (fun _ => True) v191 y190) := ⟨h0_⟩
     have n1_ : Aside0 (w24.heap[gb185]? = some (.cells #[.int .i64 a1_0, .int .i64 a1_1, .string a1_2] 135 (0, 0))) := ⟨h1_⟩
     have n2_ : Aside0 (Below w.heap.size w w24) := ⟨h2_⟩
     clear BK185; clear HB; clear h0_ h1_ h2_; have HO192 := n0_; have BK185 := n1_; have HB := n2_; clear n0_ n1_ n2_
     have hHeld : w24.cell? ⟨gb185, 0, none⟩ = some (.int .i64 a1_0) ∧ w24.cell? ⟨gb185, 1, none⟩ = some (.int .i64 a1_1) ∧ w24.cell? ⟨gb185, 2, none⟩ = some (.string a1_2) := hS_
     refine norm_ (a' := ?_) ?_ ?_
     rotate_left
     ·simp only [putAll, Act.put, sia_, scz_, scs_]
      rfl
     refine one_ (i := 11) (N := some 25) #[true, true, true, true, true, true, true, true, true, true, true, true, false, true, true, false, false, false] rfl rfl (one_of HT_.out (by kernel_rfl)) (by decide) (fun K hK => ?_)
     have hcv25 := own_string (P := Try.prog) Try.underlying49 Try.underlying5 Try.underlying9 (Kd.own_of_R HO192.out)
     refine value_ (w1 := ?_) (v := ?_) (by rfl) rfl ?_ ?_
     rotate_left 2
     ·go_simp
      constructor
      ·rfl
      ·rfl
     clear hcv25
     refine hK.out _ _ ⟨bc_ BK185 0, bc_ BK185 1, bc_ BK185 2⟩ (fun hHeld => ?_)
     clear hK K
     refine norm_ (a' := ?_) ?_ ?_
     rotate_left
     ·show Act.put _ (some 25) _ = _
      simp only [Act.put, sia_, scz_, scs_, i64_w, i32_w]
      rfl
     exact norm_ (by first | (simp only [putAll, Act.put, sia_, scz_, scs_]; done) | (simp only [putAll, Act.put, sia_, scz_, scs_]; rfl)) (hJ1_5_10_11 (v191) _ ⟨hHeld, (rp_ HO192), (bp_ BK185), (bw_ HB)⟩)
    intro hJ1_5_10
    refine join_ (σ := Value) 6 #[true, true, true, true, true, false, false, true, true, true, true, true, false, true, true, false, false, false] (fun s_ => [(15, .string t188), (24, s_), (25, .string (strOfNums y190)), (16, .string ((⟨#[69]⟩ : ByteArray) ++ t188))]) (fun s_ w' => (w'.cell? ⟨gb185, 0, none⟩ = some (.int .i64 a1_0) ∧ w'.cell? ⟨gb185, 1, none⟩ = some (.int .i64 a1_1) ∧ w'.cell? ⟨gb185, 2, none⟩ = some (.string a1_2)) ∧ (Kd.R (Kd.int .u8) 5 w' w.heap.size (fun _ => True) s_ y190) ∧ (w'.heap[gb185]? = some (.cells #[.int .i64 a1_0, .int .i64 a1_1, .string a1_2] 135 (0, 0))) ∧ (Below w.heap.size w w')) ?_ ?_
    rotate_left
    rotate_left
    ·skip
     rintro v191 w24 ⟨hS_, h0_, h1_, h2_⟩
     have n0_ : Aside0 (Kd.R (Kd.int .u8) 5 w24 w.heap.size (fun _ => True) v191 y190) := ⟨h0_⟩
     have n1_ : Aside0 (w24.heap[gb185]? = some (.cells #[.int .i64 a1_0, .int .i64 a1_1, .string a1_2] 135 (0, 0))) := ⟨h1_⟩
     have n2_ : Aside0 (Below w.heap.size w w24) := ⟨h2_⟩
     clear BK185; clear HB; clear h0_ h1_ h2_; have HO192 := n0_; have BK185 := n1_; have HB := n2_; clear n0_ n1_ n2_
     have hHeld : w24.cell? ⟨gb185, 0, none⟩ = some (.int .i64 a1_0) ∧ w24.cell? ⟨gb185, 1, none⟩ = some (.int .i64 a1_1) ∧ w24.cell? ⟨gb185, 2, none⟩ = some (.string a1_2) := hS_
     refine norm_ (a' := ?_) ?_ ?_
     rotate_left
     ·simp only [putAll, Act.put, sia_, scz_, scs_]
      rfl
     refine one_ (i := 5) (N := some 19) #[true, true, true, true, true, true, false, true, true, true, true, true, false, true, true, false, false, false] rfl rfl (one_of HT_.out (by kernel_rfl)) (by decide) (fun K hK => ?_)
     refine goes_ Try.func95 (by kernel_rfl) rfl #[.int .i64 a1_0] (by rfl) rfl rfl ga_ ?_
     with_reducible refine (spec_l01Var.calls kj2 a1_0 t189 _ A15.out).mono ?_
     rintro e w25 ⟨rfl, hb⟩
     refine ⟨_, rfl, ?_⟩
     replace HO192 := rb_ HO192 hb; replace BK185 := bb_ BK185 hb; replace HB := bs_ HB hb; (try clear hb); (try clear hb2); (try clear hk); (try clear hi)
     refine hK.out _ _ ⟨bc_ BK185 0, bc_ BK185 1, bc_ BK185 2⟩ (fun hHeld => ?_)
     clear hK K
     refine norm_ (a' := ?_) ?_ ?_
     rotate_left
     ·show Act.put _ (some 19) _ = _
      simp only [Act.put, sia_, scz_, scs_, i64_w, i32_w]
      rfl
     refine pv_ 6 20 ?_
     exact norm_ (by first | (simp only [putAll, Act.put, sia_, scz_, scs_]; done) | (simp only [putAll, Act.put, sia_, scz_, scs_]; rfl)) (hJ1_5_10_11 (v191) _ ⟨hHeld, (rp_ HO192), (bp_ BK185), (bw_ HB)⟩)
    intro hJ1_10_11
    refine join_ (σ := Unit) 6 #[true, true, true, true, true, true, true, true, true, true, false, false, false, true, true, false, false, false] (fun s_ => [(15, .string t188), (19, .string t189), (16, .string ((⟨#[69]⟩ : ByteArray) ++ t188)), (20, .string (((⟨#[69]⟩ : ByteArray) ++ t188) ++ t189))]) (fun s_ w' => (w'.cell? ⟨gb185, 0, none⟩ = some (.int .i64 a1_0) ∧ w'.cell? ⟨gb185, 1, none⟩ = some (.int .i64 a1_1) ∧ w'.cell? ⟨gb185, 2, none⟩ = some (.string a1_2)) ∧ (w'.heap[gb185]? = some (.cells #[.int .i64 a1_0, .int .i64 a1_1, .string a1_2] 135 (0, 0))) ∧ (Below w.heap.size w w')) ?_ ?_
    rotate_left
    rotate_left
    ·skip
     rintro _ w22 ⟨hS_, h0_, h1_⟩
     have n0_ : Aside0 (w22.heap[gb185]? = some (.cells #[.int .i64 a1_0, .int .i64 a1_1, .string a1_2] 135 (0, 0))) := ⟨h0_⟩
     have n1_ : Aside0 (Below w.heap.size w w22) := ⟨h1_⟩
     clear BK185; clear HB; clear h0_ h1_; have BK185 := n0_; have HB := n1_; clear n0_ n1_
     have hHeld : w22.cell? ⟨gb185, 0, none⟩ = some (.int .i64 a1_0) ∧ w22.cell? ⟨gb185, 1, none⟩ = some (.int .i64 a1_1) ∧ w22.cell? ⟨gb185, 2, none⟩ = some (.string a1_2) := hS_
     refine norm_ (a' := ?_) ?_ ?_
     rotate_left
     ·simp only [putAll, Act.put, sia_, scz_, scs_]
      rfl
     refine one_ (i := 10) (N := some 24) #[true, true, true, true, true, true, true, true, true, true, true, false, false, true, true, false, false, false] rfl rfl (one_of HT_.out (by kernel_rfl)) (by decide) (fun K hK => ?_)
     refine Kd.R_lit_step (Kd.int .u8) _ 5 ?hg (N := 24) ?hd (xs := ([(a1_1) % 256] : List Int)) (inner := [.int .u8 ((a1_1) % 256)]) (ok := fun _ => True) (okp := fun _ => True) ?hr ?hp (fun _ hk => hk) trivial (Below.refl _ _) (Nat.le_refl _) (by simp) ?_; (case hd => rfl); (case hg => rfl); (case hr => first | (go_simp; done) | (go_simp; rfl)); (case hp => exact (Reps.one (show Kd.M (Kd.int .u8) _ _ _ ((a1_1) % 256) [.int .u8 ((a1_1) % 256)] from rfl) (Reps.none _ _)))
     intro v191 w23 ho24 hb hg_ hnew_
     clear hg_ hnew_
     (first | rw [← Ny190.out] at ho24 | (simp only [Int.reduceToNat] at ho24; rw [← Ny190.out] at ho24))
     have n0_ := mk_ (Kd.R_lower ho24 (below_size (bw_ HB)))
     have HO192 := n0_; clear n0_; replace BK185 := bb_ BK185 hb; replace HB := bs_ HB hb; clear hb ho24
     refine hK.out _ _ ⟨bc_ BK185 0, bc_ BK185 1, bc_ BK185 2⟩ (fun hHeld => ?_)
     clear hK K
     refine norm_ (a' := ?_) ?_ ?_
     rotate_left
     ·show Act.put _ (some 24) _ = _
      simp only [Act.put, sia_, scz_, scs_, i64_w, i32_w]
      rfl
     exact norm_ (by first | (simp only [putAll, Act.put, sia_, scz_, scs_]; done) | (simp only [putAll, Act.put, sia_, scz_, scs_]; rfl)) (hJ1_5_10 (v191) _ ⟨hHeld, (rp_ HO192), (bp_ BK185), (bw_ HB)⟩)
    intro hJ1_5
    refine join_ (σ := Value) 7 #[true, true, true, true, true, false, false, true, true, true, true, false, false, true, true, false, false, false] (fun s_ => [(15, .string t188), (24, s_), (16, .string ((⟨#[69]⟩ : ByteArray) ++ t188))]) (fun s_ w' => (w'.cell? ⟨gb185, 0, none⟩ = some (.int .i64 a1_0) ∧ w'.cell? ⟨gb185, 1, none⟩ = some (.int .i64 a1_1) ∧ w'.cell? ⟨gb185, 2, none⟩ = some (.string a1_2)) ∧ (Kd.R (Kd.int .u8) 5 w' w.heap.size (fun _ => True) s_ y190) ∧ (w'.heap[gb185]? = some (.cells #[.int .i64 a1_0, .int .i64 a1_1, .string a1_2] 135 (0, 0))) ∧ (Below w.heap.size w w')) ?_ ?_
    rotate_left
    rotate_left
    ·skip
     rintro v191 w23 ⟨hS_, h0_, h1_, h2_⟩
     have n0_ : Aside0 (Kd.R (Kd.int .u8) 5 w23 w.heap.size (fun _ => True) v191 y190) := ⟨h0_⟩
     have n1_ : Aside0 (w23.heap[gb185]? = some (.cells #[.int .i64 a1_0, .int .i64 a1_1, .string a1_2] 135 (0, 0))) := ⟨h1_⟩
     have n2_ : Aside0 (Below w.heap.size w w23) := ⟨h2_⟩
     clear BK185; clear HB; clear h0_ h1_ h2_; have HO192 := n0_; have BK185 := n1_; have HB := n2_; clear n0_ n1_ n2_
     have hHeld : w23.cell? ⟨gb185, 0, none⟩ = some (.int .i64 a1_0) ∧ w23.cell? ⟨gb185, 1, none⟩ = some (.int .i64 a1_1) ∧ w23.cell? ⟨gb185, 2, none⟩ = some (.string a1_2) := hS_
     refine norm_ (a' := ?_) ?_ ?_
     rotate_left
     ·simp only [putAll, Act.put, sia_, scz_, scs_]
      rfl
     refine two_ (i := 5) (j := 11) (Ni := some 19) (Nj := some 25) #[true, true, true, true, true, true, false, true, true, true, true, false, false, true, true, false, false, false] #[true, true, true, true, true, false, false, true, true, true, true, true, false, true, true, false, false, false] rfl rfl rfl rfl (two_of HT_.out (by kernel_rfl)) (by decide) (by decide) (fun K hK => ?_) (fun K hK => ?_)
     ·skip
      refine goes_ Try.func95 (by kernel_rfl) rfl #[.int .i64 a1_0] (by rfl) rfl rfl ga_ ?_
      with_reducible refine (spec_l01Var.calls kj2 a1_0 t189 _ A15.out).mono ?_
      rintro e w24 ⟨rfl, hb⟩
      refine ⟨_, rfl, ?_⟩
      replace HO192 := rb_ HO192 hb; replace BK185 := bb_ BK185 hb; replace HB := bs_ HB hb; (try clear hb); (try clear hb2); (try clear hk); (try clear hi)
      refine hK.out _ _ ⟨bc_ BK185 0, bc_ BK185 1, bc_ BK185 2⟩ (fun hHeld => ?_)
      clear hK K
      refine norm_ (a' := ?_) ?_ ?_
      rotate_left
      ·show Act.put _ (some 19) _ = _
       simp only [Act.put, sia_, scz_, scs_, i64_w, i32_w]
       rfl
      refine pv_ 6 20 ?_
      exact norm_ (by first | (simp only [putAll, Act.put, sia_, scz_, scs_]; done) | (simp only [putAll, Act.put, sia_, scz_, scs_]; rfl)) (hJ1_5_10 (v191) _ ⟨hHeld, (rp_ HO192), (bp_ BK185), (bw_ HB)⟩)
     skip
     have hcv24 := own_string (P := Try.prog) Try.underlying49 Try.underlying5 Try.underlying9 (Kd.own_of_R HO192.out)
     refine value_ (w1 := ?_) (v := ?_) (by rfl) rfl ?_ ?_
     rotate_left 2
     ·go_simp
      constructor
      ·rfl
      ·rfl
     clear hcv24
     refine hK.out _ _ ⟨bc_ BK185 0, bc_ BK185 1, bc_ BK185 2⟩ (fun hHeld => ?_)
     clear hK K
     refine norm_ (a' := ?_) ?_ ?_
     rotate_left
     ·show Act.put _ (some 25) _ = _
      simp only [Act.put, sia_, scz_, scs_, i64_w, i32_w]
      rfl
     exact norm_ (by first | (simp only [putAll, Act.put, sia_, scz_, scs_]; done) | (simp only [putAll, Act.put, sia_, scz_, scs_]; rfl)) (hJ1_10_11 (v191) _ ⟨hHeld, (rp_ HO192), (bp_ BK185), (bw_ HB)⟩)
    intro hJ1_10
    refine join_ (σ := Value) 8 #[true, false, false, true, true, false, false, true, true, true, true, true, false, true, true, false, false, false] (fun s_ => [(24, s_), (25, .string (strOfNums y190))]) (fun s_ w' => (w'.cell? ⟨gb185, 0, none⟩ = some (.int .i64 a1_0) ∧ w'.cell? ⟨gb185, 1, none⟩ = some (.int .i64 a1_1) ∧ w'.cell? ⟨gb185, 2, none⟩ = some (.string a1_2)) ∧ (Kd.R (Kd.int .u8) 5 w' w.heap.size (fun _ => True) s_ y190) ∧ (w'.heap[gb185]? = some (.cells #[.int .i64 a1_0, .int .i64 a1_1, .string a1_2] 135 (0, 0))) ∧ (Below w.heap.size w w')) ?_ ?_
    rotate_left
    rotate_left
    ·skip
     rintro v191 w23 ⟨hS_, h0_, h1_, h2_⟩
     have n0_ : Aside0 (Kd.R (Kd.int .u8) 5 w23 w.heap.size (fun _ => True) v191 y190) := ⟨h0_⟩
     have n1_ : Aside0 (w23.heap[gb185]? = some (.cells #[.int .i64 a1_0, .int .i64 a1_1, .string a1_2] 135 (0, 0))) := ⟨h1_⟩
     have n2_ : Aside0 (Below w.heap.size w w23) := ⟨h2_⟩
     clear BK185; clear HB; clear h0_ h1_ h2_; have HO192 := n0_; have BK185 := n1_; have HB := n2_; clear n0_ n1_ n2_
     have hHeld : w23.cell? ⟨gb185, 0, none⟩ = some (.int .i64 a1_0) ∧ w23.cell? ⟨gb185, 1, none⟩ = some (.int .i64 a1_1) ∧ w23.cell? ⟨gb185, 2, none⟩ = some (.string a1_2) := hS_
     refine norm_ (a' := ?_) ?_ ?_
     rotate_left
     ·simp only [putAll, Act.put, sia_, scz_, scs_]
      rfl
     refine one_ (i := 1) (N := some 15) #[true, true, false, true, true, false, false, true, true, true, true, true, false, true, true, false, false, false] rfl rfl (one_of HT_.out (by kernel_rfl)) (by decide) (fun K hK => ?_)
     refine goes_ Try.func95 (by kernel_rfl) rfl #[.int .i64 a0] (by rfl) rfl rfl ga_ ?_
     with_reducible refine (spec_l01Var.calls kj2 a0 t188 _ A13.out).mono ?_
     rintro e w24 ⟨rfl, hb⟩
     refine ⟨_, rfl, ?_⟩
     replace HO192 := rb_ HO192 hb; replace BK185 := bb_ BK185 hb; replace HB := bs_ HB hb; (try clear hb); (try clear hb2); (try clear hk); (try clear hi)
     refine hK.out _ _ ⟨bc_ BK185 0, bc_ BK185 1, bc_ BK185 2⟩ (fun hHeld => ?_)
     clear hK K
     refine norm_ (a' := ?_) ?_ ?_
     rotate_left
     ·show Act.put _ (some 15) _ = _
      simp only [Act.put, sia_, scz_, scs_, i64_w, i32_w]
      rfl
     refine pv_ 2 16 ?_
     exact norm_ (by first | (simp only [putAll, Act.put, sia_, scz_, scs_]; done) | (simp only [putAll, Act.put, sia_, scz_, scs_]; rfl)) (hJ1_10_11 (v191) _ ⟨hHeld, (rp_ HO192), (bp_ BK185), (bw_ HB)⟩)
    intro hJ10_11
    refine join_ (σ := Unit) 8 #[true, true, true, true, true, false, false, true, true, true, false, false, false, true, true, false, false, false] (fun s_ => [(15, .string t188), (16, .string ((⟨#[69]⟩ : ByteArray) ++ t188))]) (fun s_ w' => (w'.cell? ⟨gb185, 0, none⟩ = some (.int .i64 a1_0) ∧ w'.cell? ⟨gb185, 1, none⟩ = some (.int .i64 a1_1) ∧ w'.cell? ⟨gb185, 2, none⟩ = some (.string a1_2)) ∧ (w'.heap[gb185]? = some (.cells #[.int .i64 a1_0, .int .i64 a1_1, .string a1_2] 135 (0, 0))) ∧ (Below w.heap.size w w')) ?_ ?_
    rotate_left
    rotate_left
    ·skip
     rintro _ w21 ⟨hS_, h0_, h1_⟩
     have n0_ : Aside0 (w21.heap[gb185]? = some (.cells #[.int .i64 a1_0, .int .i64 a1_1, .string a1_2] 135 (0, 0))) := ⟨h0_⟩
     have n1_ : Aside0 (Below w.heap.size w w21) := ⟨h1_⟩
     clear BK185; clear HB; clear h0_ h1_; have BK185 := n0_; have HB := n1_; clear n0_ n1_
     have hHeld : w21.cell? ⟨gb185, 0, none⟩ = some (.int .i64 a1_0) ∧ w21.cell? ⟨gb185, 1, none⟩ = some (.int .i64 a1_1) ∧ w21.cell? ⟨gb185, 2, none⟩ = some (.string a1_2) := hS_
     refine norm_ (a' := ?_) ?_ ?_
     rotate_left
     ·simp only [putAll, Act.put, sia_, scz_, scs_]
      rfl
     refine two_ (i := 5) (j := 10) (Ni := some 19) (Nj := some 24) #[true, true, true, true, true, true, false, true, true, true, false, false, false, true, true, false, false, false] #[true, true, true, true, true, false, false, true, true, true, true, false, false, true, true, false, false, false] rfl rfl rfl rfl (two_of HT_.out (by kernel_rfl)) (by decide) (by decide) (fun K hK => ?_) (fun K hK => ?_)
     rotate_left
     ·skip
      refine Kd.R_lit_step (Kd.int .u8) _ 5 ?hg (N := 24) ?hd (xs := ([(a1_1) % 256] : List Int)) (inner := [.int .u8 ((a1_1) % 256)]) (ok := fun _ => True) (okp := fun _ => True) ?hr ?hp (fun _ hk => hk) trivial (Below.refl _ _) (Nat.le_refl _) (by simp) ?_; (case hd => rfl); (case hg => rfl); (case hr => first | (go_simp; done) | (go_simp; rfl)); (case hp => exact (Reps.one (show Kd.M (Kd.int .u8) _ _ _ ((a1_1) % 256) [.int .u8 ((a1_1) % 256)] from rfl) (Reps.none _ _)))
      intro v191 w22 ho23 hb hg_ hnew_
      clear hg_ hnew_
      (first | rw [← Ny190.out] at ho23 | (simp only [Int.reduceToNat] at ho23; rw [← Ny190.out] at ho23))
      have n0_ := mk_ (Kd.R_lower ho23 (below_size (bw_ HB)))
      have HO192 := n0_; clear n0_; replace BK185 := bb_ BK185 hb; replace HB := bs_ HB hb; clear hb ho23
      refine hK.out _ _ ⟨bc_ BK185 0, bc_ BK185 1, bc_ BK185 2⟩ (fun hHeld => ?_)
      clear hK K
      refine norm_ (a' := ?_) ?_ ?_
      rotate_left
      ·show Act.put _ (some 24) _ = _
       simp only [Act.put, sia_, scz_, scs_, i64_w, i32_w]
       rfl
      exact norm_ (by first | (simp only [putAll, Act.put, sia_, scz_, scs_]; done) | (simp only [putAll, Act.put, sia_, scz_, scs_]; rfl)) (hJ1_10 (v191) _ ⟨hHeld, (rp_ HO192), (bp_ BK185), (bw_ HB)⟩)
     skip
     refine goes_ Try.func95 (by kernel_rfl) rfl #[.int .i64 a1_0] (by rfl) rfl rfl ga_ ?_
     with_reducible refine (spec_l01Var.calls kj2 a1_0 t189 _ A15.out).mono ?_
     rintro e w22 ⟨rfl, hb⟩
     refine ⟨_, rfl, ?_⟩
     replace BK185 := bb_ BK185 hb; replace HB := bs_ HB hb; (try clear hb); (try clear hb2); (try clear hk); (try clear hi)
     refine hK.out _ _ ⟨bc_ BK185 0, bc_ BK185 1, bc_ BK185 2⟩ (fun hHeld => ?_)
     clear hK K
     refine norm_ (a' := ?_) ?_ ?_
     rotate_left
     ·show Act.put _ (some 19) _ = _
      simp only [Act.put, sia_, scz_, scs_, i64_w, i32_w]
      rfl
     refine pv_ 6 20 ?_
     exact norm_ (by first | (simp only [putAll, Act.put, sia_, scz_, scs_]; done) | (simp only [putAll, Act.put, sia_, scz_, scs_]; rfl)) (hJ1_5 () _ ⟨hHeld, (bp_ BK185), (bw_ HB)⟩)
    intro hJ1
    refine join_ (σ := Value) 9 #[true, false, false, true, true, false, false, true, true, true, true, false, false, true, true, false, false, false] (fun s_ => [(24, s_)]) (fun s_ w' => (w'.cell? ⟨gb185, 0, none⟩ = some (.int .i64 a1_0) ∧ w'.cell? ⟨gb185, 1, none⟩ = some (.int .i64 a1_1) ∧ w'.cell? ⟨gb185, 2, none⟩ = some (.string a1_2)) ∧ (Kd.R (Kd.int .u8) 5 w' w.heap.size (fun _ => True) s_ y190) ∧ (w'.heap[gb185]? = some (.cells #[.int .i64 a1_0, .int .i64 a1_1, .string a1_2] 135 (0, 0))) ∧ (Below w.heap.size w w')) ?_ ?_
    rotate_left
    ·intro hJ10
     refine two_ (i := 1) (j := 10) (Ni := some 15) (Nj := some 24) #[true, true, false, true, true, false, false, true, true, true, false, false, false, true, true, false, false, false] #[true, false, false, true, true, false, false, true, true, true, true, false, false, true, true, false, false, false] rfl rfl rfl rfl (two_of HT_.out (by kernel_rfl)) (by decide) (by decide) (fun K hK => ?_) (fun K hK => ?_)
     rotate_left
     ·skip
      refine Kd.R_lit_step (Kd.int .u8) _ 5 ?hg (N := 24) ?hd (xs := ([(a1_1) % 256] : List Int)) (inner := [.int .u8 ((a1_1) % 256)]) (ok := fun _ => True) (okp := fun _ => True) ?hr ?hp (fun _ hk => hk) trivial (Below.refl _ _) (Nat.le_refl _) (by simp) ?_; (case hd => rfl); (case hg => rfl); (case hr => first | (go_simp; done) | (go_simp; rfl)); (case hp => exact (Reps.one (show Kd.M (Kd.int .u8) _ _ _ ((a1_1) % 256) [.int .u8 ((a1_1) % 256)] from rfl) (Reps.none _ _)))
      intro v191 w20 ho21 hb hg_ hnew_
      clear hg_ hnew_
      (first | rw [← Ny190.out] at ho21 | (simp only [Int.reduceToNat] at ho21; rw [← Ny190.out] at ho21))
      have n0_ := mk_ (Kd.R_lower ho21 (below_size (bw_ HB)))
      have HO192 := n0_; clear n0_; replace BK185 := bb_ BK185 hb; replace HB := bs_ HB hb; clear hb ho21
      refine hK.out _ _ ⟨bc_ BK185 0, bc_ BK185 1, bc_ BK185 2⟩ (fun hHeld => ?_)
      clear hK K
      refine norm_ (a' := ?_) ?_ ?_
      rotate_left
      ·show Act.put _ (some 24) _ = _
       simp only [Act.put, sia_, scz_, scs_, i64_w, i32_w]
       rfl
      exact norm_ (by first | (simp only [putAll, Act.put, sia_, scz_, scs_]; done) | (simp only [putAll, Act.put, sia_, scz_, scs_]; rfl)) (hJ10 (v191) _ ⟨hHeld, (rp_ HO192), (bp_ BK185), (bw_ HB)⟩)
     skip
     refine goes_ Try.func95 (by kernel_rfl) rfl #[.int .i64 a0] (by rfl) rfl rfl ga_ ?_
     with_reducible refine (spec_l01Var.calls kj2 a0 t188 _ A13.out).mono ?_
     rintro e w20 ⟨rfl, hb⟩
     refine ⟨_, rfl, ?_⟩
     replace BK185 := bb_ BK185 hb; replace HB := bs_ HB hb; (try clear hb); (try clear hb2); (try clear hk); (try clear hi)
     refine hK.out _ _ ⟨bc_ BK185 0, bc_ BK185 1, bc_ BK185 2⟩ (fun hHeld => ?_)
     clear hK K
     refine norm_ (a' := ?_) ?_ ?_
     rotate_left
     ·show Act.put _ (some 15) _ = _
      simp only [Act.put, sia_, scz_, scs_, i64_w, i32_w]
      rfl
     refine pv_ 2 16 ?_
     exact norm_ (by first | (simp only [putAll, Act.put, sia_, scz_, scs_]; done) | (simp only [putAll, Act.put, sia_, scz_, scs_]; rfl)) (hJ1 () _ ⟨hHeld, (bp_ BK185), (bw_ HB)⟩)
    skip
    rintro v191 w22 ⟨hS_, h0_, h1_, h2_⟩
    have n0_ : Aside0 (Kd.R (Kd.int .u8) 5 w22 w.heap.size (fun _ => True) v191 y190) := ⟨h0_⟩
    have n1_ : Aside0 (w22.heap[gb185]? = some (.cells #[.int .i64 a1_0, .int .i64 a1_1, .string a1_2] 135 (0, 0))) := ⟨h1_⟩
    have n2_ : Aside0 (Below w.heap.size w w22) := ⟨h2_⟩
    clear BK185; clear HB; clear h0_ h1_ h2_; have HO192 := n0_; have BK185 := n1_; have HB := n2_; clear n0_ n1_ n2_
    have hHeld : w22.cell? ⟨gb185, 0, none⟩ = some (.int .i64 a1_0) ∧ w22.cell? ⟨gb185, 1, none⟩ = some (.int .i64 a1_1) ∧ w22.cell? ⟨gb185, 2, none⟩ = some (.string a1_2) := hS_
    refine norm_ (a' := ?_) ?_ ?_
    rotate_left
    ·simp only [putAll, Act.put, sia_, scz_, scs_]
     rfl
    refine two_ (i := 1) (j := 11) (Ni := some 15) (Nj := some 25) #[true, true, false, true, true, false, false, true, true, true, true, false, false, true, true, false, false, false] #[true, false, false, true, true, false, false, true, true, true, true, true, false, true, true, false, false, false] rfl rfl rfl rfl (two_of HT_.out (by kernel_rfl)) (by decide) (by decide) (fun K hK => ?_) (fun K hK => ?_)
    ·skip
     refine goes_ Try.func95 (by kernel_rfl) rfl #[.int .i64 a0] (by rfl) rfl rfl ga_ ?_
     with_reducible refine (spec_l01Var.calls kj2 a0 t188 _ A13.out).mono ?_
     rintro e w23 ⟨rfl, hb⟩
     refine ⟨_, rfl, ?_⟩
     replace HO192 := rb_ HO192 hb; replace BK185 := bb_ BK185 hb; replace HB := bs_ HB hb; (try clear hb); (try clear hb2); (try clear hk); (try clear hi)
     refine hK.out _ _ ⟨bc_ BK185 0, bc_ BK185 1, bc_ BK185 2⟩ (fun hHeld => ?_)
     clear hK K
     refine norm_ (a' := ?_) ?_ ?_
     rotate_left
     ·show Act.put _ (some 15) _ = _
      simp only [Act.put, sia_, scz_, scs_, i64_w, i32_w]
      rfl
     refine pv_ 2 16 ?_
     exact norm_ (by first | (simp only [putAll, Act.put, sia_, scz_, scs_]; done) | (simp only [putAll, Act.put, sia_, scz_, scs_]; rfl)) (hJ1_10 (v191) _ ⟨hHeld, (rp_ HO192), (bp_ BK185), (bw_ HB)⟩)
    skip
    have hcv23 := own_string (P := Try.prog) Try.underlying49 Try.underlying5 Try.underlying9 (Kd.own_of_R HO192.out)
    refine value_ (w1 := ?_) (v := ?_) (by rfl) rfl ?_ ?_
    rotate_left 2
    ·go_simp
     constructor
     ·rfl
     ·rfl
    clear hcv23
    refine hK.out _ _ ⟨bc_ BK185 0, bc_ BK185 1, bc_ BK185 2⟩ (fun hHeld => ?_)
    clear hK K
    refine norm_ (a' := ?_) ?_ ?_
    rotate_left
    ·show Act.put _ (some 25) _ = _
     simp only [Act.put, sia_, scz_, scs_, i64_w, i32_w]
     rfl
    exact norm_ (by first | (simp only [putAll, Act.put, sia_, scz_, scs_]; done) | (simp only [putAll, Act.put, sia_, scz_, scs_]; rfl)) (hJ10_11 (v191) _ ⟨hHeld, (rp_ HO192), (bp_ BK185), (bw_ HB)⟩)
   rintro v191 w25 ⟨hS_, h0_, h1_, h2_⟩
   have n0_ : Aside0 (Kd.R (Kd.int .u8) 5 w25 w.heap.size (fun _ => True) v191 y190) := ⟨h0_⟩
   have n1_ : Aside0 (w25.heap[gb185]? = some (.cells #[.int .i64 a1_0, .int .i64 a1_1, .string a1_2] 135 (0, 0))) := ⟨h1_⟩
   have n2_ : Aside0 (Below w.heap.size w w25) := ⟨h2_⟩
   clear BK185; clear HB; clear h0_ h1_ h2_; have HO192 := n0_; have BK185 := n1_; have HB := n2_; clear n0_ n1_ n2_
   have hHeld : w25.cell? ⟨gb185, 0, none⟩ = some (.int .i64 a1_0) ∧ w25.cell? ⟨gb185, 1, none⟩ = some (.int .i64 a1_1) ∧ w25.cell? ⟨gb185, 2, none⟩ = some (.string a1_2) := hS_
   refine norm_ (a' := ?_) ?_ ?_
   rotate_left
   ·simp only [putAll, Act.put, sia_, scz_, scs_]
    rfl
   refine pv_ 12 26 ?_
   refine pv_ 15 29 ?_
   refine pv_ 16 4 ?_
   refine pv_ 17 5 ?_
   refine done_ (done_of HT_.out (by kernel_rfl)) ?_
   try go_wp2
   go_ret2
   exact ⟨er_, bw_ HB⟩

end Go.Proofs.Ythbaoefbccdioaa.QFnExactReadJournal
