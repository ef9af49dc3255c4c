/- Written by this session's own program (wip/tpl/pp.py): what the law's functions come to, and that the machine's calls do just that. -/
import Derived.Test.YthbaoefbccdioaaTMPack
import Derived.Test.YthbaoefbccdioaaQFnExactReadJournalx0
import Derived.Test.YthbaoefbccdioaaQFnExactReadJournalx1
import Derived.Test.YthbaoefbccdioaaQFnExactReadJournalx3
namespace Go.Proofs.Ythbaoefbccdioaa.QFnExactReadJournal
open Go.RowKit Go.Proofs.YthbaoefbccdioaaW.PrintWords Go.Proofs.YthbaoefbccdioaaW.PrintLast Go.Proofs.YthbaoefbccdioaaW.PrintMore
attribute [local go_sem] Go.Proofs.Ythbaoefbccdioaa.Sem.string_geq Go.Proofs.Ythbaoefbccdioaa.Sem.string_leq Go.Proofs.Ythbaoefbccdioaa.Sem.string_gtr
attribute [local go_sem] max2_int min2_int max_two min_two max_three min_three max_four min_four   -- for this text's walks alone
set_option linter.unusedVariables false
set_option linter.unusedSimpArgs false

/-! ### spec_EntryOk: function 96 -/
def spec_EntryOk.f (k : Nat) (a0_0 : Int) (a0_1 : Int) (a0_2 : ByteArray) : Option (Bool) := (spec_l01In.f a0_0 0 100000).bind fun t173 => (if t173 = true then (if a0_1 = 1 then (some (a0_2.toList == ([] : List UInt8))) else (if a0_1 = 2 then ((spec_ReadConf.f k a0_2).bind fun bt174 => (some bt174.2)) else (if a0_1 = 3 then (some (decide ((a0_2.size : Int) ≤ 120))) else (some false)))) else (some false))
theorem spec_EntryOk.mono : ∀ a0 a1 a2 k, LeO (spec_EntryOk.f k a0 a1 a2) (spec_EntryOk.f (k + 1) a0 a1 a2) := by
 intro a0 a1 a2 k
 unfold spec_EntryOk.f
 repeat' first
   | (with_reducible exact spec_ReadConf.mono _ _)
   | (with_reducible exact LeO.refl _)
   | (with_reducible refine LeO.ite ?_ ?_)
   | (with_reducible refine LeO.bind ?_ (fun _ => ?_))
set_option maxHeartbeats 8000000 in
set_option maxRecDepth 100000 in
theorem spec_EntryOk.calls (k : Nat) (a0_0 : Int) (a0_1 : Int) (a0_2 : ByteArray) (r : Bool) (w : World) (h : spec_EntryOk.f k a0_0 a0_1 a0_2 = some r) :
  Calls Try.prog 96 #[.agg #[.int .i64 a0_0, .int .i64 a0_1, .string a0_2]] w fun e w' => e = .returned (.bool r) ∧ Below w.heap.size w w' := by
 have hu135 := Try.underlying135
 have HB := mk_ (Below.refl w.heap.size w)
 have H : ((spec_l01In.f a0_0 0 100000).bind fun t173 => (if t173 = true then (if a0_1 = 1 then (some (a0_2.toList == ([] : List UInt8))) else (if a0_1 = 2 then ((spec_ReadConf.f k a0_2).bind fun bt174 => (some bt174.2)) else (if a0_1 = 3 then (some (decide ((a0_2.size : Int) ≤ 120))) else (some false)))) else (some false))) = some r := h
 clear h
 replace H := Option.bind_eq_some_iff.mp H
 obtain ⟨t173, A20, H⟩ := H
 try dsimp only at H
 have A2 := Aside0.mk A20
 clear A20
 by_cases c3 : t173 = true
 rotate_left
 ·replace c3 := Bool.eq_false_iff.mpr c3
  subst c3
  rw [if_neg (show ¬ (false = true) by decide)] at H
  obtain rfl := Option.some.inj H
  go_enter Try.func96, Try.ntmps96
  go_wp2_with (first | ((with_reducible refine gate_dst (N := 1) rfl ?_); refine bx_ (N := 1) (cs := #[.int .i64 a0_0, .int .i64 a0_1, .string a0_2]) (t := 135) ?_; intro gb172 hg w17 hbox hb; have BK172 := mk_ (hbox); have GW172 : Aside0 (w.heap.size ≤ gb172) := bz_ hg; have GE172 := GW172; replace HB := bs_ HB hb; clear hb hbox hg; obtain ⟨hcz18_0, hcz18_1, hcz18_2, hfz18_0, hfz18_1, hfz18_2⟩ := b3_ BK172) | ((with_reducible refine gate_callee (f := 61) rfl ?_); refine gl_ 7 Try.func61 #[.int .i64 a0_0, .int .i64 0, .int .i64 100000] ?_; (with_reducible refine (spec_l01In.calls a0_0 0 100000 false _ A2.out).mono ?_); rintro e w' ⟨rfl, ⟨nd, rfl⟩⟩; refine ⟨_, rfl, ?_⟩))
  go_ret
  exact ⟨er_, bw_ HB⟩
 subst c3
 rw [if_pos rfl] at H
 by_cases c4 : a0_1 = 1
 ·rw [if_pos c4] at H
  have c4b0 : (a0_1 == 1) = true := beq_iff_eq.mpr c4
  have c4b1 : (a0_1 != 1) = false := bne_eq_false_iff_eq.mpr c4
  clear c4
  obtain rfl := Option.some.inj H
  go_enter Try.func96, Try.ntmps96
  go_wp2_with (first | ((with_reducible refine gate_dst (N := 1) rfl ?_); refine bx_ (N := 1) (cs := #[.int .i64 a0_0, .int .i64 a0_1, .string a0_2]) (t := 135) ?_; intro gb172 hg w5 hbox hb; have BK172 := mk_ (hbox); have GW172 : Aside0 (w.heap.size ≤ gb172) := bz_ hg; have GE172 := GW172; replace HB := bs_ HB hb; clear hb hbox hg; obtain ⟨hcz6_0, hcz6_1, hcz6_2, hfz6_0, hfz6_1, hfz6_2⟩ := b3_ BK172) | ((with_reducible refine gate_callee (f := 61) rfl ?_); refine gl_ 7 Try.func61 #[.int .i64 a0_0, .int .i64 0, .int .i64 100000] ?_; (with_reducible refine (spec_l01In.calls a0_0 0 100000 true _ A2.out).mono ?_); rintro e w' ⟨rfl, ⟨nd, rfl⟩⟩; refine ⟨_, rfl, ?_⟩))
  go_ret
  exact ⟨er_, bw_ HB⟩
 rw [if_neg c4] at H
 have c4b0 : (a0_1 == 1) = false := beq_eq_false_iff_ne.mpr c4
 have c4b1 : (a0_1 != 1) = true := bne_iff_ne.mpr c4
 by_cases c7 : a0_1 = 2
 ·rw [if_pos c7] at H
  have c7b0 : (a0_1 == 2) = true := beq_iff_eq.mpr c7
  have c7b1 : (a0_1 != 2) = false := bne_eq_false_iff_eq.mpr c7
  clear c7
  replace H := Option.bind_eq_some_iff.mp H
  obtain ⟨⟨t174, t175⟩, A80, H⟩ := H
  try dsimp only at H
  have A8 := Aside0.mk A80
  clear A80
  obtain rfl := Option.some.inj H
  go_enter Try.func96, Try.ntmps96
  go_wp2_with (first | ((with_reducible refine gate_dst (N := 1) rfl ?_); refine bx_ (N := 1) (cs := #[.int .i64 a0_0, .int .i64 a0_1, .string a0_2]) (t := 135) ?_; intro gb172 hg w9 hbox hb; have BK172 := mk_ (hbox); have GW172 : Aside0 (w.heap.size ≤ gb172) := bz_ hg; have GE172 := GW172; replace HB := bs_ HB hb; clear hb hbox hg; obtain ⟨hcz10_0, hcz10_1, hcz10_2, hfz10_0, hfz10_1, hfz10_2⟩ := b3_ BK172) | ((with_reducible refine gate_callee (f := 61) rfl ?_); refine gl_ 7 Try.func61 #[.int .i64 a0_0, .int .i64 0, .int .i64 100000] ?_; (with_reducible refine (spec_l01In.calls a0_0 0 100000 true _ A2.out).mono ?_); rintro e w' ⟨rfl, ⟨nd, rfl⟩⟩; refine ⟨_, rfl, ?_⟩) | ((with_reducible refine gate_callee (f := 117) rfl ?_); refine gl_ 21 Try.func117 #[.string a0_2] ?_; (with_reducible refine (spec_ReadConf.calls k a0_2 t174 t175 _ A8.out).mono ?_); rintro e w11 ⟨v176, rfl, ho0, hb⟩; refine ⟨_, rfl, ?_⟩; have HO177 := mk_ (Kd.R_lower ho0 (below_size (bw_ HB))); replace BK172 := bb_ BK172 hb; replace HB := bs_ HB hb; (try clear hb); (try clear ho0)))
  go_ret
  exact ⟨er_, bw_ HB⟩
 rw [if_neg c7] at H
 have c7b0 : (a0_1 == 2) = false := beq_eq_false_iff_ne.mpr c7
 have c7b1 : (a0_1 != 2) = true := bne_iff_ne.mpr c7
 by_cases c12 : a0_1 = 3
 rotate_left
 ·rw [if_neg c12] at H
  have c12b0 : (a0_1 == 3) = false := beq_eq_false_iff_ne.mpr c12
  have c12b1 : (a0_1 != 3) = true := bne_iff_ne.mpr c12
  obtain rfl := Option.some.inj H
  go_enter Try.func96, Try.ntmps96
  go_wp2_with (first | ((with_reducible refine gate_dst (N := 1) rfl ?_); refine bx_ (N := 1) (cs := #[.int .i64 a0_0, .int .i64 a0_1, .string a0_2]) (t := 135) ?_; intro gb172 hg w15 hbox hb; have BK172 := mk_ (hbox); have GW172 : Aside0 (w.heap.size ≤ gb172) := bz_ hg; have GE172 := GW172; replace HB := bs_ HB hb; clear hb hbox hg; obtain ⟨hcz16_0, hcz16_1, hcz16_2, hfz16_0, hfz16_1, hfz16_2⟩ := b3_ BK172) | ((with_reducible refine gate_callee (f := 61) rfl ?_); refine gl_ 7 Try.func61 #[.int .i64 a0_0, .int .i64 0, .int .i64 100000] ?_; (with_reducible refine (spec_l01In.calls a0_0 0 100000 true _ A2.out).mono ?_); rintro e w' ⟨rfl, ⟨nd, rfl⟩⟩; refine ⟨_, rfl, ?_⟩))
  go_ret
  exact ⟨er_, bw_ HB⟩
 rw [if_pos c12] at H
 have c12b0 : (a0_1 == 3) = true := beq_iff_eq.mpr c12
 have c12b1 : (a0_1 != 3) = false := bne_eq_false_iff_eq.mpr c12
 clear c12
 obtain rfl := Option.some.inj H
 go_enter Try.func96, Try.ntmps96
 go_wp2_with (first | ((with_reducible refine gate_dst (N := 1) rfl ?_); refine bx_ (N := 1) (cs := #[.int .i64 a0_0, .int .i64 a0_1, .string a0_2]) (t := 135) ?_; intro gb172 hg w13 hbox hb; have BK172 := mk_ (hbox); have GW172 : Aside0 (w.heap.size ≤ gb172) := bz_ hg; have GE172 := GW172; replace HB := bs_ HB hb; clear hb hbox hg; obtain ⟨hcz14_0, hcz14_1, hcz14_2, hfz14_0, hfz14_1, hfz14_2⟩ := b3_ BK172) | ((with_reducible refine gate_callee (f := 61) rfl ?_); refine gl_ 7 Try.func61 #[.int .i64 a0_0, .int .i64 0, .int .i64 100000] ?_; (with_reducible refine (spec_l01In.calls a0_0 0 100000 true _ A2.out).mono ?_); rintro e w' ⟨rfl, ⟨nd, rfl⟩⟩; refine ⟨_, rfl, ?_⟩))
 go_ret
 exact ⟨er_, bw_ HB⟩

/-! ### spec_LogOk: function 65 -/
mutual
def spec_LogOk.j0 : Nat → Bool → Int → Int → List (S135) → Option (Bool)
 | 0, _, _, _, _ => none
 | k + 1, x29, x179000, x179001, x179002 => if x29 = true then (some false) else (spec_LogOk.l0 k x179001 0 x179000 x179001 x179002)
def spec_LogOk.l0 : Nat → Int → Int → Int → Int → List (S135) → Option (Bool)
 | 0, _, _, _, _, _ => none
 | k + 1, x3, x4, x179000, x179001, x179002 => if x4 < (x179002.length : Int) then (if 0 ≤ x4 then ((spec_EntryOk.f k ((rd_T135 x179002 x4).f0) ((rd_T135 x179002 x4).f1) ((rd_T135 x179002 x4).f2)).bind fun t182 => (if t182 = true then (if ((rd_T135 x179002 x4).f0) < x3 then (some false) else (spec_LogOk.l0 k ((rd_T135 x179002 x4).f0) (wrap64 (x4 + 1)) x179000 x179001 x179002)) else (some false))) else (none)) else (some true)
end
def spec_LogOk.f (k : Nat) (a0_0 : Int) (a0_1 : Int) (l0_2 : List (S135)) : Option (Bool) := (spec_l01In.f a0_0 0 1000000).bind fun t179 => (if t179 = true then ((spec_l01In.f a0_1 0 100000).bind fun t180 => (if t180 = true then (if (l0_2.length : Int) > 60 then (spec_LogOk.j0 k true a0_0 a0_1 l0_2) else (spec_LogOk.j0 k (decide ((wrap64 (a0_0 + (l0_2.length : Int))) > 1000000)) a0_0 a0_1 l0_2)) else (spec_LogOk.j0 k true a0_0 a0_1 l0_2))) else (spec_LogOk.j0 k true a0_0 a0_1 l0_2))
theorem spec_LogOk.mono_l : ∀ k, (∀ y0 y1 y2 y3, LeO (spec_LogOk.j0 k y0 y1 y2 y3) (spec_LogOk.j0 (k + 1) y0 y1 y2 y3)) ∧ (∀ y0 y1 y2 y3 y4, LeO (spec_LogOk.l0 k y0 y1 y2 y3 y4) (spec_LogOk.l0 (k + 1) y0 y1 y2 y3 y4))
 | 0 => ⟨fun _ _ _ _ r h => by simp [spec_LogOk.j0] at h, fun _ _ _ _ _ r h => by simp [spec_LogOk.l0] at h⟩
 | k + 1 => by
  obtain ⟨ih0, ih1⟩ := spec_LogOk.mono_l k
  refine ⟨?_, ?_⟩
  ·intro y0 y1 y2 y3
   unfold spec_LogOk.j0
   repeat' first
   | (with_reducible exact ih1 _ _ _ _ _)
   | (with_reducible exact LeO.refl _)
   | (with_reducible refine LeO.ite ?_ ?_)
  ·intro y0 y1 y2 y3 y4
   unfold spec_LogOk.l0
   repeat' first
   | (with_reducible exact ih1 _ _ _ _ _)
   | (with_reducible exact spec_EntryOk.mono _ _ _ _)
   | (with_reducible exact LeO.refl _)
   | (with_reducible refine LeO.ite ?_ ?_)
   | (with_reducible refine LeO.bind ?_ (fun _ => ?_))
theorem spec_LogOk.mono : ∀ a0 a1 a2 k, LeO (spec_LogOk.f k a0 a1 a2) (spec_LogOk.f (k + 1) a0 a1 a2) := by
 intro a0 a1 a2 k
 obtain ⟨ih0, ih1⟩ := spec_LogOk.mono_l k
 unfold spec_LogOk.f
 repeat' first
   | (with_reducible exact ih0 _ _ _ _)
   | (with_reducible exact LeO.refl _)
   | (with_reducible refine LeO.ite ?_ ?_)
   | (with_reducible refine LeO.bind ?_ (fun _ => ?_))
set_option maxHeartbeats 8000000 in
set_option maxRecDepth 100000 in
theorem spec_LogOk.calls (k : Nat) (a0_0 : Int) (a0_1 : Int) (A0_2 : Option Addr) (c0_2 : Nat) (l0_2 : List (S135)) (r : Bool) (w : World) (hr0_2 : Kd.C k135 w A0_2 l0_2.length l0_2) (hc0_2 : l0_2.length ≤ c0_2) (h : spec_LogOk.f k a0_0 a0_1 l0_2 = some r) :
  Calls Try.prog 65 #[.agg #[.int .i64 a0_0, .int .i64 a0_1, .slice A0_2 l0_2.length c0_2]] w fun e w' => e = .returned (.bool r) ∧ Below w.heap.size w w' := by
 have hu59 := Try.underlying59
 have hu135 := Try.underlying135
 have HR0_2 := Aside0.mk hr0_2
 have HC0_2 := Aside0.mk hc0_2
 clear hr0_2 hc0_2
 have HB := mk_ (Below.refl w.heap.size w)
 have H : ((spec_l01In.f a0_0 0 1000000).bind fun t179 => (if t179 = true then ((spec_l01In.f a0_1 0 100000).bind fun t180 => (if t180 = true then (if (l0_2.length : Int) > 60 then (spec_LogOk.j0 k true a0_0 a0_1 l0_2) else (spec_LogOk.j0 k (decide ((wrap64 (a0_0 + (l0_2.length : Int))) > 1000000)) a0_0 a0_1 l0_2)) else (spec_LogOk.j0 k true a0_0 a0_1 l0_2))) else (spec_LogOk.j0 k true a0_0 a0_1 l0_2))) = some r := h
 clear h
 have HC2 := Aside0.mk H
 clear H
 go_enter Try.func65, Try.ntmps65
 go_upto_region 1 with (first | ((with_reducible refine gate_dst (N := 1) rfl ?_); (try (refine gate_guard (by rfl) ?_; dsimp only)); refine bx_ (N := 1) (cs := #[.int .i64 a0_0, .int .i64 a0_1, .slice A0_2 l0_2.length c0_2]) (t := 59) ?_; intro gb178 hg w3 hbox hb; have BK178 := mk_ (hbox); have GW178 : Aside0 (w.heap.size ≤ gb178) := bz_ hg; have GE178 := GW178; replace HB := bs_ HB hb; clear hb hbox hg))
 (try simp only [Act.put, sia_, scz_, scs_])
 go_cut [29] (fun v29 wc => ∃ (kq : Nat) (x29_1 : Bool), v29 = .bool x29_1 ∧ Aside0 (spec_LogOk.j0 kq x29_1 a0_0 a0_1 l0_2 = some r) ∧ Aside0 (kq ≤ k) ∧ Aside0 (wc.heap[gb178]? = some (.cells #[.int .i64 a0_0, .int .i64 a0_1, (.slice A0_2 l0_2.length c0_2)] 59 (0, 0))) ∧ Aside0 (Below w.heap.size w wc))
 case first =>
  have H := HC2.out
  clear HC2
  replace H := Option.bind_eq_some_iff.mp H
  obtain ⟨t179, A40, H⟩ := H
  try dsimp only at H
  have A4 := Aside0.mk A40
  clear A40
  by_cases c5 : t179 = true
  rotate_left
  ·replace c5 := Bool.eq_false_iff.mpr c5
   subst c5
   rw [if_neg (show ¬ (false = true) by decide)] at H
   have H' := Aside0.mk H
   clear H
   have hcz12_0 : w3.cell? ⟨gb178, 0, none⟩ = some (.int .i64 a0_0) := bc_ BK178 0
   have hcz12_1 : w3.cell? ⟨gb178, 1, none⟩ = some (.int .i64 a0_1) := bc_ BK178 1
   have hcz12_2 : w3.cell? ⟨gb178, 2, none⟩ = some (.slice A0_2 l0_2.length c0_2) := bc_ BK178 2
   have hfz12_0 := blk_frozen BK178.out 0
   have hfz12_1 := blk_frozen BK178.out 1
   have hfz12_2 := blk_frozen BK178.out 2
   go_wp2_with (first | ((with_reducible refine gate_callee (f := 61) rfl ?_); refine gl_ 7 Try.func61 #[.int .i64 a0_0, .int .i64 0, .int .i64 1000000] ?_; (with_reducible refine (spec_l01In.calls a0_0 0 1000000 false _ A4.out).mono ?_); rintro e w' ⟨rfl, ⟨nd, rfl⟩⟩; refine ⟨_, rfl, ?_⟩))
   go_meet
   case rel => exact ⟨_, (true), (by first | rfl | (simp; done) | (simp [*]; done) | (simp [bne]; done)), H', ⟨by first | omega | exact Nat.le_refl _⟩, ⟨bf_⟩, ⟨bw_ HB⟩⟩
  subst c5
  rw [if_pos rfl] at H
  replace H := Option.bind_eq_some_iff.mp H
  obtain ⟨t180, A60, H⟩ := H
  try dsimp only at H
  have A6 := Aside0.mk A60
  clear A60
  by_cases c7 : t180 = true
  rotate_left
  ·replace c7 := Bool.eq_false_iff.mpr c7
   subst c7
   rw [if_neg (show ¬ (false = true) by decide)] at H
   have H' := Aside0.mk H
   clear H
   have hcz11_0 : w3.cell? ⟨gb178, 0, none⟩ = some (.int .i64 a0_0) := bc_ BK178 0
   have hcz11_1 : w3.cell? ⟨gb178, 1, none⟩ = some (.int .i64 a0_1) := bc_ BK178 1
   have hcz11_2 : w3.cell? ⟨gb178, 2, none⟩ = some (.slice A0_2 l0_2.length c0_2) := bc_ BK178 2
   have hfz11_0 := blk_frozen BK178.out 0
   have hfz11_1 := blk_frozen BK178.out 1
   have hfz11_2 := blk_frozen BK178.out 2
   go_wp2_with (first | ((with_reducible refine gate_callee (f := 61) rfl ?_); refine gl_ 7 Try.func61 #[.int .i64 a0_0, .int .i64 0, .int .i64 1000000] ?_; (with_reducible refine (spec_l01In.calls a0_0 0 1000000 true _ A4.out).mono ?_); rintro e w' ⟨rfl, ⟨nd, rfl⟩⟩; refine ⟨_, rfl, ?_⟩) | (go_at_call 61; (with_reducible refine (spec_l01In.calls a0_1 0 100000 false _ A6.out).mono ?_); rintro e w' ⟨rfl, ⟨nd, rfl⟩⟩))
   go_meet
   case rel => exact ⟨_, (true), (by first | rfl | (simp; done) | (simp [*]; done) | (simp [bne]; done)), H', ⟨by first | omega | exact Nat.le_refl _⟩, ⟨bf_⟩, ⟨bw_ HB⟩⟩
  subst c7
  rw [if_pos rfl] at H
  by_cases c8 : (l0_2.length : Int) > 60
  rotate_left
  ·rw [if_neg c8] at H
   have c8b0 : decide (60 < (l0_2.length : Int)) = false := decide_eq_false c8
   have c8b1 : decide (60 < l0_2.length) = false := decide_eq_false (by omega)
   clear c8
   (first | rw [c8b0] | (simp only [i64_w, i32_w]; rw [c8b0]) | skip)
   have H' := Aside0.mk H
   clear H
   have hcz10_0 : w3.cell? ⟨gb178, 0, none⟩ = some (.int .i64 a0_0) := bc_ BK178 0
   have hcz10_1 : w3.cell? ⟨gb178, 1, none⟩ = some (.int .i64 a0_1) := bc_ BK178 1
   have hcz10_2 : w3.cell? ⟨gb178, 2, none⟩ = some (.slice A0_2 l0_2.length c0_2) := bc_ BK178 2
   have hfz10_0 := blk_frozen BK178.out 0
   have hfz10_1 := blk_frozen BK178.out 1
   have hfz10_2 := blk_frozen BK178.out 2
   go_wp2_with (first | ((with_reducible refine gate_callee (f := 61) rfl ?_); refine gl_ 7 Try.func61 #[.int .i64 a0_0, .int .i64 0, .int .i64 1000000] ?_; (with_reducible refine (spec_l01In.calls a0_0 0 1000000 true _ A4.out).mono ?_); rintro e w' ⟨rfl, ⟨nd, rfl⟩⟩; refine ⟨_, rfl, ?_⟩) | (go_at_call 61; (with_reducible refine (spec_l01In.calls a0_1 0 100000 true _ A6.out).mono ?_); rintro e w' ⟨rfl, ⟨nd, rfl⟩⟩))
   go_meet
   case rel => exact ⟨_, (decide ((wrap64 (a0_0 + (l0_2.length : Int))) > 1000000)), (by first | rfl | (simp; done) | (simp [*]; done) | (simp [bne]; done)), H', ⟨by first | omega | exact Nat.le_refl _⟩, ⟨bf_⟩, ⟨bw_ HB⟩⟩
  rw [if_pos c8] at H
  have c8b0 : decide (60 < (l0_2.length : Int)) = true := decide_eq_true c8
  have c8b1 : decide (60 < l0_2.length) = true := decide_eq_true (by omega)
  clear c8
  (first | rw [c8b0] | (simp only [i64_w, i32_w]; rw [c8b0]) | skip)
  have H' := Aside0.mk H
  clear H
  have hcz9_0 : w3.cell? ⟨gb178, 0, none⟩ = some (.int .i64 a0_0) := bc_ BK178 0
  have hcz9_1 : w3.cell? ⟨gb178, 1, none⟩ = some (.int .i64 a0_1) := bc_ BK178 1
  have hcz9_2 : w3.cell? ⟨gb178, 2, none⟩ = some (.slice A0_2 l0_2.length c0_2) := bc_ BK178 2
  have hfz9_0 := blk_frozen BK178.out 0
  have hfz9_1 := blk_frozen BK178.out 1
  have hfz9_2 := blk_frozen BK178.out 2
  go_wp2_with (first | ((with_reducible refine gate_callee (f := 61) rfl ?_); refine gl_ 7 Try.func61 #[.int .i64 a0_0, .int .i64 0, .int .i64 1000000] ?_; (with_reducible refine (spec_l01In.calls a0_0 0 1000000 true _ A4.out).mono ?_); rintro e w' ⟨rfl, ⟨nd, rfl⟩⟩; refine ⟨_, rfl, ?_⟩) | (go_at_call 61; (with_reducible refine (spec_l01In.calls a0_1 0 100000 true _ A6.out).mono ?_); rintro e w' ⟨rfl, ⟨nd, rfl⟩⟩))
  go_meet
  case rel => exact ⟨_, (true), (by first | rfl | (simp; done) | (simp [*]; done) | (simp [bne]; done)), H', ⟨by first | omega | exact Nat.le_refl _⟩, ⟨bf_⟩, ⟨bw_ HB⟩⟩
 case rest =>
  clear HC2
  (try clear p2); (try clear c5); (try clear c6); (try clear p6); (try clear c7); (try clear c8); (try clear c8b0); (try clear c8b1); (try clear hcz10_0); (try clear hcz10_1); (try clear hcz10_2); (try clear hcz11_0); (try clear hcz11_1); (try clear hcz11_2); (try clear hcz12_0); (try clear hcz12_1); (try clear hcz12_2); (try clear hcz9_0); (try clear hcz9_1); (try clear hcz9_2); (try clear hfz10_0); (try clear hfz10_1); (try clear hfz10_2); (try clear hfz11_0); (try clear hfz11_1); (try clear hfz11_2); (try clear hfz12_0); (try clear hfz12_1); (try clear hfz12_2); (try clear hfz9_0); (try clear hfz9_1); (try clear hfz9_2)
  obtain ⟨kq, x29_1, rfl, HA, HJ1, BK178, HB⟩ := hcut
  cases kq with
  | zero => exact absurd HA.out (by simp [spec_LogOk.j0])
  | succ kj1 =>
   have H := HA.out
   clear HA
   simp only [spec_LogOk.j0] at H
   by_cases c13 : x29_1 = true
   ·subst c13
    rw [if_pos rfl] at H
    obtain rfl := Option.some.inj H
    go_wp2
    go_ret
    exact ⟨er_, bw_ HB⟩
   replace c13 := Bool.eq_false_iff.mpr c13
   subst c13
   rw [if_neg (show ¬ (false = true) by decide)] at H
   have H' := Aside0.mk H
   clear H
   have hcz14_0 : wc.cell? ⟨gb178, 0, none⟩ = some (.int .i64 a0_0) := bc_ BK178 0
   have hcz14_1 : wc.cell? ⟨gb178, 1, none⟩ = some (.int .i64 a0_1) := bc_ BK178 1
   have hcz14_2 : wc.cell? ⟨gb178, 2, none⟩ = some (.slice A0_2 l0_2.length c0_2) := bc_ BK178 2
   have hfz14_0 := blk_frozen BK178.out 0
   have hfz14_1 := blk_frozen BK178.out 1
   have hfz14_2 := blk_frozen BK178.out 2
   go_wp2
   go_loopg [3, 4] kj1 (fun kq v3 v4 w' => ∃ (x3_2 : Int) (x4_2 : Int), v3 = .int .i64 x3_2 ∧ v4 = .int .i64 x4_2 ∧ Aside0 (spec_LogOk.l0 kq x3_2 x4_2 a0_0 a0_1 l0_2 = some r) ∧ Aside0 (kq ≤ kj1) ∧ Aside0 (w'.heap[gb178]? = some (.cells #[.int .i64 a0_0, .int .i64 a0_1, (.slice A0_2 l0_2.length c0_2)] 59 (0, 0))) ∧ Aside0 (Below w.heap.size w w'))
   case atStart => exact ⟨(a0_1), (0), (by first | rfl | (simp; done) | (simp [*]; done) | (simp [bne]; done)), (by first | rfl | (simp; done) | (simp [*]; done) | (simp [bne]; done)), H', ⟨Nat.le_refl _⟩, ⟨bf_⟩, ⟨bw_ HB⟩⟩
   case round =>
    clear H'
    (try clear c1); (try clear p2); (try clear c5); (try clear c6); (try clear p6); (try clear c7); (try clear c8); (try clear c8b0); (try clear c8b1); (try clear c13); (try clear hcz10_0); (try clear hcz10_1); (try clear hcz10_2); (try clear hcz11_0); (try clear hcz11_1); (try clear hcz11_2); (try clear hcz12_0); (try clear hcz12_1); (try clear hcz12_2); (try clear hcz14_0); (try clear hcz14_1); (try clear hcz14_2); (try clear hcz9_0); (try clear hcz9_1); (try clear hcz9_2); (try clear hfz10_0); (try clear hfz10_1); (try clear hfz10_2); (try clear hfz11_0); (try clear hfz11_1); (try clear hfz11_2); (try clear hfz12_0); (try clear hfz12_1); (try clear hfz12_2); (try clear hfz14_0); (try clear hfz14_1); (try clear hfz14_2); (try clear hfz9_0); (try clear hfz9_1); (try clear hfz9_2); (try clear p2); (try clear p6)
    obtain ⟨x3_2, x4_2, rfl, rfl, HA, HK2, BK178, HB⟩ := hrel
    cases gk with
    | zero => exact absurd HA.out (by simp [spec_LogOk.l0])
    | succ k2 =>
     have H := HA.out
     clear HA
     simp only [spec_LogOk.l0] at H
     by_cases c15 : x4_2 < (l0_2.length : Int)
     rotate_left
     ·rw [if_neg c15] at H
      have c15b0 : decide (x4_2 < (l0_2.length : Int)) = false := decide_eq_false c15
      clear c15
      obtain rfl := Option.some.inj H
      have hcz28_0 : wr.cell? ⟨gb178, 0, none⟩ = some (.int .i64 a0_0) := bc_ BK178 0
      have hcz28_1 : wr.cell? ⟨gb178, 1, none⟩ = some (.int .i64 a0_1) := bc_ BK178 1
      have hcz28_2 : wr.cell? ⟨gb178, 2, none⟩ = some (.slice A0_2 l0_2.length c0_2) := bc_ BK178 2
      have hfz28_0 := blk_frozen BK178.out 0
      have hfz28_1 := blk_frozen BK178.out 1
      have hfz28_2 := blk_frozen BK178.out 2
      go_wp2
      go_ret
      exact ⟨er_, bw_ HB⟩
     rw [if_pos c15] at H
     have c15b0 : decide (x4_2 < (l0_2.length : Int)) = true := decide_eq_true c15
     clear c15
     by_cases c16 : 0 ≤ x4_2
     rotate_left
     ·rw [if_neg c16] at H
      exact absurd H (by simp)
     rw [if_pos c16] at H
     have c16b0 : decide (0 ≤ x4_2) = true := decide_eq_true c16
     clear c16
     replace H := Option.bind_eq_some_iff.mp H
     obtain ⟨t182, A170, H⟩ := H
     try dsimp only at H
     have A17 := Aside0.mk A170
     clear A170
     by_cases c18 : t182 = true
     rotate_left
     ·replace c18 := Bool.eq_false_iff.mpr c18
      subst c18
      rw [if_neg (show ¬ (false = true) by decide)] at H
      obtain rfl := Option.some.inj H
      have hcz26_0 : wr.cell? ⟨gb178, 0, none⟩ = some (.int .i64 a0_0) := bc_ BK178 0
      have hcz26_1 : wr.cell? ⟨gb178, 1, none⟩ = some (.int .i64 a0_1) := bc_ BK178 1
      have hcz26_2 : wr.cell? ⟨gb178, 2, none⟩ = some (.slice A0_2 l0_2.length c0_2) := bc_ BK178 2
      have hfz26_0 := blk_frozen BK178.out 0
      have hfz26_1 := blk_frozen BK178.out 1
      have hfz26_2 := blk_frozen BK178.out 2
      have p181 : 0 ≤ (x4_2 : Int) := od_
      have q181 : x4_2 < (l0_2.length : Int) := od_
      obtain ⟨ad181, e181, hx181_0, hx181_1, hx181_2⟩ := at_T135 HR0_2.out x4_2 p181 q181
      cases e181
      replace hx181_0 := hc_ HB hx181_0
      replace hx181_1 := hc_ HB hx181_1
      replace hx181_2 := hc_ HB hx181_2
      replace p181 := eq_true p181
      replace q181 := eq_true q181
      go_wp2_with (first | ((with_reducible refine gate_callee (f := 96) rfl ?_); refine gl_ 44 Try.func96 #[.agg #[.int .i64 ((rd_T135 l0_2 x4_2).f0), .int .i64 ((rd_T135 l0_2 x4_2).f1), .string ((rd_T135 l0_2 x4_2).f2)]] ?_; (with_reducible refine (spec_EntryOk.calls k2 ((rd_T135 l0_2 x4_2).f0) ((rd_T135 l0_2 x4_2).f1) ((rd_T135 l0_2 x4_2).f2) false _ A17.out).mono ?_); rintro e w27 ⟨rfl, hb⟩; refine ⟨_, rfl, ?_⟩; replace BK178 := bb_ BK178 hb; replace HB := bs_ HB hb; (try clear hb)))
      go_ret
      exact ⟨er_, bw_ HB⟩
     subst c18
     rw [if_pos rfl] at H
     by_cases c19 : ((rd_T135 l0_2 x4_2).f0) < x3_2
     ·rw [if_pos c19] at H
      have c19b0 : decide (((rd_T135 l0_2 x4_2).f0) < x3_2) = true := decide_eq_true c19
      clear c19
      obtain rfl := Option.some.inj H
      have hcz20_0 : wr.cell? ⟨gb178, 0, none⟩ = some (.int .i64 a0_0) := bc_ BK178 0
      have hcz20_1 : wr.cell? ⟨gb178, 1, none⟩ = some (.int .i64 a0_1) := bc_ BK178 1
      have hcz20_2 : wr.cell? ⟨gb178, 2, none⟩ = some (.slice A0_2 l0_2.length c0_2) := bc_ BK178 2
      have hfz20_0 := blk_frozen BK178.out 0
      have hfz20_1 := blk_frozen BK178.out 1
      have hfz20_2 := blk_frozen BK178.out 2
      have p181 : 0 ≤ (x4_2 : Int) := od_
      have q181 : x4_2 < (l0_2.length : Int) := od_
      obtain ⟨ad181, e181, hx181_0, hx181_1, hx181_2⟩ := at_T135 HR0_2.out x4_2 p181 q181
      cases e181
      replace hx181_0 := hc_ HB hx181_0
      replace hx181_1 := hc_ HB hx181_1
      replace hx181_2 := hc_ HB hx181_2
      replace p181 := eq_true p181
      replace q181 := eq_true q181
      go_wp2_with (first | ((with_reducible refine gate_callee (f := 96) rfl ?_); refine gl_ 44 Try.func96 #[.agg #[.int .i64 ((rd_T135 l0_2 x4_2).f0), .int .i64 ((rd_T135 l0_2 x4_2).f1), .string ((rd_T135 l0_2 x4_2).f2)]] ?_; (with_reducible refine (spec_EntryOk.calls k2 ((rd_T135 l0_2 x4_2).f0) ((rd_T135 l0_2 x4_2).f1) ((rd_T135 l0_2 x4_2).f2) true _ A17.out).mono ?_); rintro e w21 ⟨rfl, hb⟩; refine ⟨_, rfl, ?_⟩; replace BK178 := bb_ BK178 hb; replace HB := bs_ HB hb; (try clear hb); obtain ⟨hcz22_0, hcz22_1, hcz22_2, hfz22_0, hfz22_1, hfz22_2⟩ := b3_ BK178; have p183 : 0 ≤ (x4_2 : Int) := od_; have q183 : x4_2 < (l0_2.length : Int) := od_; obtain ⟨ad183, e183, hx183_0, hx183_1, hx183_2⟩ := at_T135 HR0_2.out x4_2 p183 q183; obtain rfl : ad181 = ad183 := (by injection e183); replace hx183_0 := hc_ HB hx183_0; replace hx183_1 := hc_ HB hx183_1; replace hx183_2 := hc_ HB hx183_2; replace p183 := eq_true p183; replace q183 := eq_true q183))
      go_ret
      exact ⟨er_, bw_ HB⟩
     rw [if_neg c19] at H
     have c19b0 : decide (((rd_T135 l0_2 x4_2).f0) < x3_2) = false := decide_eq_false c19
     clear c19
     have H' := Aside0.mk H
     clear H
     have hcz23_0 : wr.cell? ⟨gb178, 0, none⟩ = some (.int .i64 a0_0) := bc_ BK178 0
     have hcz23_1 : wr.cell? ⟨gb178, 1, none⟩ = some (.int .i64 a0_1) := bc_ BK178 1
     have hcz23_2 : wr.cell? ⟨gb178, 2, none⟩ = some (.slice A0_2 l0_2.length c0_2) := bc_ BK178 2
     have hfz23_0 := blk_frozen BK178.out 0
     have hfz23_1 := blk_frozen BK178.out 1
     have hfz23_2 := blk_frozen BK178.out 2
     have p181 : 0 ≤ (x4_2 : Int) := od_
     have q181 : x4_2 < (l0_2.length : Int) := od_
     obtain ⟨ad181, e181, hx181_0, hx181_1, hx181_2⟩ := at_T135 HR0_2.out x4_2 p181 q181
     cases e181
     replace hx181_0 := hc_ HB hx181_0
     replace hx181_1 := hc_ HB hx181_1
     replace hx181_2 := hc_ HB hx181_2
     replace p181 := eq_true p181
     replace q181 := eq_true q181
     go_wp2_with (first | ((with_reducible refine gate_callee (f := 96) rfl ?_); refine gl_ 44 Try.func96 #[.agg #[.int .i64 ((rd_T135 l0_2 x4_2).f0), .int .i64 ((rd_T135 l0_2 x4_2).f1), .string ((rd_T135 l0_2 x4_2).f2)]] ?_; (with_reducible refine (spec_EntryOk.calls k2 ((rd_T135 l0_2 x4_2).f0) ((rd_T135 l0_2 x4_2).f1) ((rd_T135 l0_2 x4_2).f2) true _ A17.out).mono ?_); rintro e w24 ⟨rfl, hb⟩; refine ⟨_, rfl, ?_⟩; replace BK178 := bb_ BK178 hb; replace HB := bs_ HB hb; (try clear hb); obtain ⟨hcz25_0, hcz25_1, hcz25_2, hfz25_0, hfz25_1, hfz25_2⟩ := b3_ BK178; have p183 : 0 ≤ (x4_2 : Int) := od_; have q183 : x4_2 < (l0_2.length : Int) := od_; obtain ⟨ad183, e183, hx183_0, hx183_1, hx183_2⟩ := at_T135 HR0_2.out x4_2 p183 q183; obtain rfl : ad181 = ad183 := (by injection e183); replace hx183_0 := hc_ HB hx183_0; replace hx183_1 := hc_ HB hx183_1; replace hx183_2 := hc_ HB hx183_2; replace p183 := eq_true p183; replace q183 := eq_true q183; have p184 : 0 ≤ (x4_2 : Int) := od_; have q184 : x4_2 < (l0_2.length : Int) := od_; obtain ⟨ad184, e184, hx184_0, hx184_1, hx184_2⟩ := at_T135 HR0_2.out x4_2 p184 q184; obtain rfl : ad181 = ad184 := (by injection e184); replace hx184_0 := hc_ HB hx184_0; replace hx184_1 := hc_ HB hx184_1; replace hx184_2 := hc_ HB hx184_2; replace p184 := eq_true p184; replace q184 := eq_true q184))
     go_roundg k2
     case measure => have := HJ1.out; have := HK2.out; omega
     case rel => exact ⟨((rd_T135 l0_2 x4_2).f0), (wrap64 (x4_2 + 1)), (by first | rfl | (simp; done) | (simp [*]; done) | (simp [bne]; done)), (by first | rfl | (simp; done) | (simp [*]; done) | (simp [bne]; done)), H', ⟨by have := HJ1.out; have := HK2.out; omega⟩, ⟨bf_⟩, ⟨bw_ HB⟩⟩

end Go.Proofs.Ythbaoefbccdioaa.QFnExactReadJournal
