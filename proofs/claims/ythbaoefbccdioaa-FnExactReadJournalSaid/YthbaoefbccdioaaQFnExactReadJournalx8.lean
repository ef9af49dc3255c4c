/- Written by this session's own program (wip/tpl/pp.py): what the law's functions come to, and that the machine's calls do just that. -/
import Derived.Test.YthbaoefbccdioaaTMPack
import Derived.Test.YthbaoefbccdioaaQFnExactReadJournalx0
import Derived.Test.YthbaoefbccdioaaQFnExactReadJournalx1
import Derived.Test.YthbaoefbccdioaaQFnExactReadJournalx2
import Derived.Test.YthbaoefbccdioaaQFnExactReadJournalx3
import Derived.Test.YthbaoefbccdioaaQFnExactReadJournalx4
import Derived.Test.YthbaoefbccdioaaQFnExactReadJournalx6
import Derived.Test.YthbaoefbccdioaaQFnExactReadJournalx7
namespace Go.Proofs.Ythbaoefbccdioaa.QFnExactReadJournal
open Go.RowKit Go.Proofs.YthbaoefbccdioaaW.PrintWords Go.Proofs.YthbaoefbccdioaaW.PrintLast Go.Proofs.YthbaoefbccdioaaW.PrintMore
attribute [local go_sem] Go.Proofs.Ythbaoefbccdioaa.Sem.string_geq Go.Proofs.Ythbaoefbccdioaa.Sem.string_leq Go.Proofs.Ythbaoefbccdioaa.Sem.string_gtr
attribute [local go_sem] max2_int min2_int max_two min_two max_three min_three max_four min_four   -- for this text's walks alone
set_option linter.unusedVariables false
set_option linter.unusedSimpArgs false

/-! ### spec_l07More: function 66 -/
/-- One more record told: head of a term and a vote, or an entry; false: it is none. -/
def spec_l07More.f (k : Nat) (a1 a2 a3 a4 : Int) (l : List S135) (t : ByteArray) : Option ((Int × Int × Int × Int × List S135) × Bool) :=
 (spec_l07Two.f k t (⟨#[72]⟩ : ByteArray)).bind fun b => if b.2.2 = true then
  ((spec_l01In.f b.1 0 100000).bind fun c => if c = true then ((spec_l01In.f b.2.1 0 4).bind fun d => if d = true then some ((b.1, b.2.1, a3, a4, l), true) else some ((a1, a2, a3, a4, l), false)) else some ((a1, a2, a3, a4, l), false))
 else ((spec_ReadEntry.f k t).bind fun e => if e.2.2.2.2 = true then ((spec_LogPut.f k a3 a4 l e.1 e.2.1 e.2.2.1 e.2.2.2.1).bind fun p => if p.2.2.2 = true then some ((a1, a2, p.1, p.2.1, p.2.2.1), true) else some ((a1, a2, a3, a4, l), false)) else some ((a1, a2, a3, a4, l), false))
set_option maxHeartbeats 8000000 in
set_option maxRecDepth 100000 in
theorem spec_l07More.head_ (k base : Nat) (ok : Nat → Prop) (g : Nat) (a0 a1 a2 a3 a4 : Int) (v : Value) (l : List S135) (t : ByteArray) (w : World) (hB : w.heap[g]? = some (.cells #[.int .i64 a0, .int .i64 a1, .int .i64 a2, .int .i64 a3, .int .i64 a4, v] 61 (0, 0)))
  (h : k135.R 135 w base (fun k => ok k ∧ k ≠ g) v l) (hbs : base ≤ w.heap.size) (hg4 : base ≤ g) (b1 b2 : Int) (h1 : spec_l07Two.f k t (⟨#[72]⟩ : ByteArray) = some (b1, b2, true)) (h2 : spec_l01In.f b1 0 100000 = some true) (h3 : spec_l01In.f b2 0 4 = some true) :
  Calls Try.prog 66 #[.pointer (some ⟨g, 0, none⟩), .string t] w fun e w' => e = .returned (.bool true) ∧ w'.heap[g]? = some (.cells #[.int .i64 a0, .int .i64 b1, .int .i64 b2, .int .i64 a3, .int .i64 a4, v] 61 (0, 0)) ∧ k135.R 135 w' base (fun k => ok k ∧ k ≠ g) v l ∧ Below base w w' := by
 have hu61 := Try.underlying61
 have hu59 := Try.underlying59
 have H1 := Aside0.mk h1
 have H2 := Aside0.mk h2
 have H3 := Aside0.mk h3
 have HO := Aside0.mk h
 have BK := Aside0.mk hB
 have HG := Aside0.mk hg4
 have HS := Aside0.mk hbs
 have HB := mk_ (Below.refl w.heap.size w)
 clear h1 h2 h3 h hB hg4 hbs
 obtain ⟨c0, c1, c2, c3, c4, c5, f0, f1, f2, f3, f4, f5⟩ := b6_ BK
 go_enter Try.func66, Try.ntmps66
 go_wp2_with (first
  | (go_at_call 64; (with_reducible refine (spec_l07Two.calls k t _ b1 b2 true _ H1.out).mono ?_); rintro e w1 ⟨rfl, hb⟩; replace BK := bb_ BK hb; replace HO := rb_ HO hb; replace HB := bs_ HB hb; clear hb c0 c1 c2 c3 c4 c5 f0 f1 f2 f3 f4 f5; obtain ⟨c0, c1, c2, c3, c4, c5, f0, f1, f2, f3, f4, f5⟩ := b6_ BK)
  | (go_at_call 61; (with_reducible refine (spec_l01In.calls b1 0 100000 true _ H2.out).mono ?_); rintro e w2 ⟨rfl, ⟨nd, rfl⟩⟩)
  | (go_at_call 61; (with_reducible refine (spec_l01In.calls b2 0 4 true _ H3.out).mono ?_); rintro e w3 ⟨rfl, ⟨nd2, rfl⟩⟩))
 go_ret
 have hB5 : Below base w w1 := ⟨HB.out.os, HB.out.tape, HB.out.output, HB.out.size, fun k hk => HB.out.block k (Nat.lt_of_lt_of_le hk HS.out)⟩
 exact ⟨rfl, bu_, Kd.R_move HO.out (fun k hk => (Below.heap_setCell _ _ _ _ hk.2).trans (Below.heap_setCell _ _ _ _ hk.2)), ((pw_below_drewN hB5 _).setCell HG.out _).setCell HG.out _⟩
set_option maxHeartbeats 8000000 in
set_option maxRecDepth 100000 in
theorem spec_l07More.no_ (k base : Nat) (ok : Nat → Prop) (g : Nat) (a0 a1 a2 a3 a4 : Int) (v : Value) (l : List S135) (t : ByteArray) (w : World) (hB : w.heap[g]? = some (.cells #[.int .i64 a0, .int .i64 a1, .int .i64 a2, .int .i64 a3, .int .i64 a4, v] 61 (0, 0)))
  (h : k135.R 135 w base (fun k => ok k ∧ k ≠ g) v l) (hbs : base ≤ w.heap.size) (hg4 : base ≤ g) (b1 b2 : Int) (r : Bool) (h1 : spec_l07Two.f k t (⟨#[72]⟩ : ByteArray) = some (b1, b2, r)) (hn : r = true ∧ spec_l01In.f b1 0 100000 = some false ∨ r = true ∧ spec_l01In.f b1 0 100000 = some true ∧ spec_l01In.f b2 0 4 = some false ∨ r = false ∧ ∃ e1 e2 e3 e4, spec_ReadEntry.f k t = some (e1, e2, e3, e4, false)) :
  Calls Try.prog 66 #[.pointer (some ⟨g, 0, none⟩), .string t] w fun e w' => e = .returned (.bool false) ∧ w'.heap[g]? = some (.cells #[.int .i64 a0, .int .i64 a1, .int .i64 a2, .int .i64 a3, .int .i64 a4, v] 61 (0, 0)) ∧ k135.R 135 w' base (fun k => ok k ∧ k ≠ g) v l ∧ Below base w w' := by
 have hu61 := Try.underlying61
 have hu59 := Try.underlying59
 have H1 := Aside0.mk h1
 have HO := Aside0.mk h
 have BK := Aside0.mk hB
 have HG := Aside0.mk hg4
 have HS := Aside0.mk hbs
 have HB := mk_ (Below.refl w.heap.size w)
 clear h1 h hB hg4 hbs
 obtain ⟨c0, c1, c2, c3, c4, c5, f0, f1, f2, f3, f4, f5⟩ := b6_ BK
 rcases hn with ⟨rfl, h2⟩ | ⟨rfl, h2, h3⟩ | ⟨rfl, e1, e2, e3, e4, h2⟩
 ·have H2 := Aside0.mk h2
  clear h2
  go_enter Try.func66, Try.ntmps66
  go_wp2_with (first | (go_at_call 64; (with_reducible refine (spec_l07Two.calls k t _ b1 b2 _ _ H1.out).mono ?_); rintro e w1 ⟨rfl, hb⟩; replace BK := bb_ BK hb; replace HO := rb_ HO hb; replace HB := bs_ HB hb; clear hb c0 c1 c2 c3 c4 c5 f0 f1 f2 f3 f4 f5; obtain ⟨c0, c1, c2, c3, c4, c5, f0, f1, f2, f3, f4, f5⟩ := b6_ BK) | (go_at_call 61; (with_reducible refine (spec_l01In.calls b1 0 100000 false _ H2.out).mono ?_); rintro e w2 ⟨rfl, ⟨nd, rfl⟩⟩))
  go_ret
  have hB5 : Below base w w1 := ⟨HB.out.os, HB.out.tape, HB.out.output, HB.out.size, fun k hk => HB.out.block k (Nat.lt_of_lt_of_le hk HS.out)⟩
  exact ⟨rfl, bf_, HO.out, pw_below_drewN hB5 _⟩
 ·have H2 := Aside0.mk h2
  have H3 := Aside0.mk h3
  clear h2 h3
  go_enter Try.func66, Try.ntmps66
  go_wp2_with (first | (go_at_call 64; (with_reducible refine (spec_l07Two.calls k t _ b1 b2 _ _ H1.out).mono ?_); rintro e w1 ⟨rfl, hb⟩; replace BK := bb_ BK hb; replace HO := rb_ HO hb; replace HB := bs_ HB hb; clear hb c0 c1 c2 c3 c4 c5 f0 f1 f2 f3 f4 f5; obtain ⟨c0, c1, c2, c3, c4, c5, f0, f1, f2, f3, f4, f5⟩ := b6_ BK) | (go_at_call 61; (with_reducible refine (spec_l01In.calls b1 0 100000 true _ H2.out).mono ?_); rintro e w2 ⟨rfl, ⟨nd, rfl⟩⟩) | (go_at_call 61; (with_reducible refine (spec_l01In.calls b2 0 4 false _ H3.out).mono ?_); rintro e w2 ⟨rfl, ⟨nd2, rfl⟩⟩))
  go_ret
  have hB5 : Below base w w1 := ⟨HB.out.os, HB.out.tape, HB.out.output, HB.out.size, fun k hk => HB.out.block k (Nat.lt_of_lt_of_le hk HS.out)⟩
  exact ⟨rfl, bf_, HO.out, pw_below_drewN hB5 _⟩
 ·have H2 := Aside0.mk h2
  clear h2
  have hu135 := Try.underlying135
  go_enter Try.func66, Try.ntmps66
  go_wp2_with (first | (go_at_call 64; (with_reducible refine (spec_l07Two.calls k t _ b1 b2 _ _ H1.out).mono ?_); rintro e w1 ⟨rfl, hb⟩; replace BK := bb_ BK hb; replace HO := rb_ HO hb; replace HB := bs_ HB hb; clear hb c0 c1 c2 c3 c4 c5 f0 f1 f2 f3 f4 f5; obtain ⟨c0, c1, c2, c3, c4, c5, f0, f1, f2, f3, f4, f5⟩ := b6_ BK) | (go_at_call 97; (with_reducible refine (spec_ReadEntry.calls k t e1 e2 e3 e4 _ _ H2.out).mono ?_); rintro e w2 ⟨rfl, hb⟩; replace BK := bb_ BK hb; replace HO := rb_ HO hb; replace HB := bs_ HB hb; clear hb c0 c1 c2 c3 c4 c5 f0 f1 f2 f3 f4 f5; obtain ⟨c0, c1, c2, c3, c4, c5, f0, f1, f2, f3, f4, f5⟩ := b6_ BK) | ((with_reducible refine gate_dst (N := 9) rfl ?_); refine bx_ (N := 9) (cs := #[.int .i64 0, .int .i64 0, .string ⟨#[]⟩]) (t := 135) ?_; intro ge hg w3 hbox hb; have BE := Aside0.mk hbox; have GE : Aside0 (w.heap.size ≤ ge) := bz_ hg; have NKE := bl_ BK hg; replace BK := bb_ BK hb; replace HO : Aside0 (k135.R 135 w3 base (fun k => (ok k ∧ k ≠ g) ∧ k ≠ ge) v l) := ⟨Kd.R_below (Kd.R_mono (Kd.R_bound HO.out) (fun k hk => ⟨hk.1, by have := hk.2.2.1; omega⟩)) hb⟩; replace HB := bs_ HB hb; clear hb hbox hg c0 c1 c2 c3 c4 c5 f0 f1 f2 f3 f4 f5; obtain ⟨c0, c1, c2, c3, c4, c5, f0, f1, f2, f3, f4, f5⟩ := b6_ BK; obtain ⟨d0, d1, d2, g0, g1, g2⟩ := b3_ BE))
  go_ret
  have hB4 : Below w.heap.size w w3 := HB.out
  have hB5 : Below base w w3 := ⟨hB4.os, hB4.tape, hB4.output, hB4.size, fun k hk => hB4.block k (Nat.lt_of_lt_of_le hk HS.out)⟩
  have hge : base ≤ ge := Nat.le_trans HS.out GE.out
  exact ⟨rfl, bf_, Kd.R_mono (Kd.R_move HO.out (fun k hk => (Below.heap_setCell _ _ _ _ hk.2).trans ((Below.heap_setCell _ _ _ _ hk.2).trans (Below.heap_setCell _ _ _ _ hk.2)))) (fun _ hk => hk.1), ((hB5.setCell hge _).setCell hge _).setCell hge _⟩
theorem low_ {w W0 W W1 : World} (h0 : Aside0 (Below w.heap.size w W0)) (hb : Below W.heap.size W W1)
  (h : Below w.heap.size w W := by repeat (first | (with_reducible first | exact Aside0.out (by assumption) | apply below_alloc | apply pw_below_drewN | apply below_drew1 | refine below_set ?_ (Aside0.out (by assumption))) | exact Aside0.out (by assumption))) : w.heap.size ≤ W.heap.size := below_size h
theorem rk_ {α : Type} {d : Kd α} {e : Nat} {w W : World} {base g : Nat} {ok : Nat → Prop} {v : Value} {xs : List α} (h : d.R e w base (fun k => ok k ∧ k ≠ g) v xs)
  (hW : ∀ k, k ≠ g → W.heap[k]? = w.heap[k]? := by intro k_ hk_; repeat (first | (with_reducible exact rfl) | refine (Below.heap_setCell _ _ _ _ hk_).trans ?_)) : d.R e W base (fun k => ok k ∧ k ≠ g) v xs := Kd.R_move h (fun k hk => hW k hk.2)
set_option maxHeartbeats 8000000 in
set_option maxRecDepth 100000 in
theorem spec_l07More.entry_ (k base : Nat) (ok : Nat → Prop) (g : Nat) (a0 a1 a2 a3 a4 : Int) (v : Value) (l : List S135) (t : ByteArray) (w : World) (hB : w.heap[g]? = some (.cells #[.int .i64 a0, .int .i64 a1, .int .i64 a2, .int .i64 a3, .int .i64 a4, v] 61 (0, 0)))
  (h : k135.R 135 w base (fun k => ok k ∧ k ≠ g) v l) (hbs : base ≤ w.heap.size) (hg4 : base ≤ g) (hfresh : ∀ k, w.heap.size ≤ k → ok k) (b1 b2 : Int) (h1 : spec_l07Two.f k t (⟨#[72]⟩ : ByteArray) = some (b1, b2, false)) (e1 e2 e3 : Int) (e4 : ByteArray) (h2 : spec_ReadEntry.f k t = some (e1, e2, e3, e4, true)) (p1 p2 : Int) (m : List S135) (r : Bool) (h3 : spec_LogPut.f k a3 a4 l e1 e2 e3 e4 = some (p1, p2, m, r)) :
  Calls Try.prog 66 #[.pointer (some ⟨g, 0, none⟩), .string t] w fun e w' => e = .returned (.bool r) ∧ ∃ v', w'.heap[g]? = some (.cells #[.int .i64 a0, .int .i64 a1, .int .i64 a2, .int .i64 (if r = true then p1 else a3), .int .i64 (if r = true then p2 else a4), v'] 61 (0, 0)) ∧ k135.R 135 w' base (fun k => ok k ∧ k ≠ g) v' (if r = true then m else l) ∧ Below base w w' := by
 have hu61 := Try.underlying61
 have hu59 := Try.underlying59
 have hu135 := Try.underlying135
 obtain ⟨A, c, rfl⟩ := Kd.R_slice h
 have H1 := Aside0.mk h1
 have H2 := Aside0.mk h2
 have H3 := Aside0.mk h3
 have HO := Aside0.mk h
 have BK := Aside0.mk hB
 have HG := Aside0.mk hg4
 have HS := Aside0.mk hbs
 have HF := Aside0.mk hfresh
 have HL := mk_ (blk_lt hB)
 have HB := mk_ (Below.refl w.heap.size w)
 clear h1 h2 h3 h hB hg4 hbs hfresh
 obtain ⟨c0, c1, c2, c3, c4, c5, f0, f1, f2, f3, f4, f5⟩ := b6_ BK
 go_enter Try.func66, Try.ntmps66
 go_wp2_with (first
  | (go_at_call 64; (with_reducible refine (spec_l07Two.calls k t _ b1 b2 _ _ H1.out).mono ?_); rintro e w1 ⟨rfl, hb⟩; replace BK := bb_ BK hb; replace HO := rb_ HO hb; replace HB := bs_ HB hb; clear hb c0 c1 c2 c3 c4 c5 f0 f1 f2 f3 f4 f5; obtain ⟨c0, c1, c2, c3, c4, c5, f0, f1, f2, f3, f4, f5⟩ := b6_ BK)
  | (go_at_call 97; (with_reducible refine (spec_ReadEntry.calls k t e1 e2 e3 e4 _ _ H2.out).mono ?_); rintro e w2 ⟨rfl, hb⟩; replace BK := bb_ BK hb; replace HO := rb_ HO hb; replace HB := bs_ HB hb; clear hb c0 c1 c2 c3 c4 c5 f0 f1 f2 f3 f4 f5; obtain ⟨c0, c1, c2, c3, c4, c5, f0, f1, f2, f3, f4, f5⟩ := b6_ BK)
  | ((with_reducible refine gate_dst (N := 9) rfl ?_); refine bx_ (N := 9) (cs := #[.int .i64 0, .int .i64 0, .string ⟨#[]⟩]) (t := 135) ?_; intro ge hg w3 hbox hb; have BE := Aside0.mk hbox; have GE : Aside0 (w.heap.size ≤ ge) := bz_ hg; have NKE := bl_ BK hg; replace BK := bb_ BK hb; replace HO : Aside0 (k135.R 135 w3 base (fun k => (ok k ∧ k ≠ g) ∧ k ≠ ge) (.slice A l.length c) l) := ⟨Kd.R_below (Kd.R_mono (Kd.R_bound HO.out) (fun k hk => ⟨hk.1, by have := hk.2.2.1; omega⟩)) hb⟩; replace HB := bs_ HB hb; clear hb hbox hg c0 c1 c2 c3 c4 c5 f0 f1 f2 f3 f4 f5; obtain ⟨c0, c1, c2, c3, c4, c5, f0, f1, f2, f3, f4, f5⟩ := b6_ BK; obtain ⟨d0, d1, d2, g0, g1, g2⟩ := b3_ BE; have NEK := mk_ (Ne.symm NKE.out); have hk1 := NKE.out; have hk2 := NEK.out))
 have qk : (((w3.setCell ⟨ge, 0, none⟩ (.int .i64 e2)).setCell ⟨ge, 1, none⟩ (.int .i64 e3)).setCell ⟨ge, 2, none⟩ (.string e4)).heap[g]? = some (.cells #[.int .i64 a0, .int .i64 a1, .int .i64 a2, .int .i64 a3, .int .i64 a4, .slice A l.length c] 61 (0, 0)) := bf_
 have qe : (((w3.setCell ⟨ge, 0, none⟩ (.int .i64 e2)).setCell ⟨ge, 1, none⟩ (.int .i64 e3)).setCell ⟨ge, 2, none⟩ (.string e4)).heap[ge]? = some (.cells #[.int .i64 e2, .int .i64 e3, .string e4] 135 (0, 0)) := bu_
 have qh : k135.R 135 (((w3.setCell ⟨ge, 0, none⟩ (.int .i64 e2)).setCell ⟨ge, 1, none⟩ (.int .i64 e3)).setCell ⟨ge, 2, none⟩ (.string e4)) base (fun k => (ok k ∧ k ≠ g) ∧ k ≠ ge) (.slice A l.length c) l := rk_ HO.out
 have qb : Below w.heap.size w (((w3.setCell ⟨ge, 0, none⟩ (.int .i64 e2)).setCell ⟨ge, 1, none⟩ (.int .i64 e3)).setCell ⟨ge, 2, none⟩ (.string e4)) := bw_ HB
 clear HO HB BK BE c0 c1 c2 c3 c4 c5 f0 f1 f2 f3 f4 f5 d0 d1 d2 g0 g1 g2
 generalize (((w3.setCell ⟨ge, 0, none⟩ (.int .i64 e2)).setCell ⟨ge, 1, none⟩ (.int .i64 e3)).setCell ⟨ge, 2, none⟩ (.string e4)) = wc at *
 have BK := mk_ (blk_drew qk)
 have BE := mk_ (blk_drew qe)
 have HO := mk_ (Kd.R_drew qh)
 have HB := mk_ (below_drew1 qb)
 clear qk qe qh qb
 refine start_ (n := 13) (S := fun w' => w'.cell? ⟨g, 3, none⟩ = some (.int .i64 a3) ∧ w'.cell? ⟨g, 4, none⟩ = some (.int .i64 a4) ∧ w'.cell? ⟨g, 5, none⟩ = some (.slice A l.length c) ∧ w'.cell? ⟨ge, 0, none⟩ = some (.int .i64 e2) ∧ w'.cell? ⟨ge, 1, none⟩ = some (.int .i64 e3) ∧ w'.cell? ⟨ge, 2, none⟩ = some (.string e4)) (ds := [11]) #[false, false, false, false, false, false, false, false, false, false, false, false, false] (by kernel_rfl) rfl rfl ⟨bc_ BK 3, bc_ BK 4, bc_ BK 5, bc_ BE 0, bc_ BE 1, bc_ BE 2⟩ (fun hHeld => ?_)
 generalize wc.drew = wd at BK BE HO HB hHeld ⊢
 refine pv_ 0 45 ?_
 refine pv_ 1 46 ?_
 refine pv_ 2 47 ?_
 refine pv_ 4 49 ?_
 refine tv_ 3 48 hHeld ?_
 refine tv_ 5 50 hHeld ?_
 refine join_ (σ := (Option Addr × Nat) × Nat) 2 #[true, true, true, true, true, true, true, true, true, true, true, false, false] (fun s_ => [(51, .tuple #[.agg #[.int .i64 p1, .int .i64 p2, .slice s_.1.1 m.length s_.1.2], .bool r]), (11, .pointer (some ⟨s_.2, 0, none⟩)), (44, .tuple #[.agg #[.int .i64 p1, .int .i64 p2, .slice s_.1.1 m.length s_.1.2], .bool r]), (52, .agg #[.int .i64 p1, .int .i64 p2, .slice s_.1.1 m.length s_.1.2]), (53, .bool r)]) (fun s_ w' => (w'.cell? ⟨g, 3, none⟩ = some (.int .i64 a3) ∧ w'.cell? ⟨g, 4, none⟩ = some (.int .i64 a4) ∧ w'.cell? ⟨g, 5, none⟩ = some (.slice A l.length c) ∧ w'.cell? ⟨ge, 0, none⟩ = some (.int .i64 e2) ∧ w'.cell? ⟨ge, 1, none⟩ = some (.int .i64 e3) ∧ w'.cell? ⟨ge, 2, none⟩ = some (.string e4)) ∧ (k135.R 135 w' base (fun k => (ok k ∧ k ≠ g) ∧ k ≠ s_.2) (.slice s_.1.1 m.length s_.1.2) m) ∧ (k135.R 135 w' base (fun k => ((ok k ∧ k ≠ g) ∧ k ≠ ge) ∧ k ≠ s_.2) (.slice A l.length c) l) ∧ (w'.heap[g]? = some (.cells #[.int .i64 a0, .int .i64 a1, .int .i64 a2, .int .i64 a3, .int .i64 a4, .slice A l.length c] 61 (0, 0))) ∧ (w'.heap[ge]? = some (.cells #[.int .i64 e2, .int .i64 e3, .string e4] 135 (0, 0))) ∧ (w'.heap[s_.2]? = some (.cells #[.int .i64 0, .int .i64 0, .slice none 0 0] 59 (0, 0))) ∧ (w.heap.size ≤ s_.2) ∧ (g ≠ s_.2) ∧ (ge ≠ s_.2) ∧ (Below w.heap.size w w')) ?_ ?_
 rotate_left
 ·intro hCont
  refine two_ (i := 6) (j := 10) (Ni := some 51) (Nj := some 11) #[true, true, true, true, true, true, true, false, false, false, false, false, false] #[true, true, true, true, true, true, false, false, false, false, true, false, false] rfl rfl rfl rfl (by kernel_rfl) (by decide) (by decide) (fun K hK => ?_) (fun K hK => ?_)
  ·skip
   refine goes_ Try.func98 (by kernel_rfl) rfl #[.agg #[.int .i64 a3, .int .i64 a4, .slice A l.length c], .int .i64 e1, .agg #[.int .i64 e2, .int .i64 e3, .string e4]] (by rfl) rfl rfl ga_ ?_
   with_reducible refine (spec_LogPut.calls k a3 a4 A c l e1 e2 e3 e4 p1 p2 m r _ ?side1 ?side2 H3.out).mono ?_
   (case side1 => exact (Kd.R_reads' HO.out).2.2)
   (case side2 => exact (Kd.R_reads' HO.out).2.1)
   rintro e w5 ⟨v2, rfl, ho, hb⟩
   obtain ⟨A2, cm, rfl⟩ := Kd.R_slice ho
   refine ⟨_, rfl, ?_⟩
   have hWs := low_ HB hb
   have HN : Aside0 (k135.R 135 w5 base (fun k => ok k ∧ k ≠ g) (.slice A2 m.length cm) m) := ⟨Kd.R_lower (Kd.R_mono (Kd.R_bound ho) (fun k hk => ⟨HF.out k (Nat.le_trans hWs hk.2.1), fun e => by have h1 := HL.out; have h2 := Nat.le_trans hWs hk.2.1; omega⟩)) (Nat.le_trans HS.out hWs)⟩
   replace BK := bb_ BK hb
   replace BE := bb_ BE hb
   replace HO := rb_ HO hb
   replace HB := bs_ HB hb
   clear hb ho hWs
   refine hK.out _ _ ⟨bc_ BK 3, bc_ BK 4, bc_ BK 5, bc_ BE 0, bc_ BE 1, bc_ BE 2⟩ (fun hHeld => ?_)
   clear hK K
   refine norm_ (a' := ?_) ?_ ?_
   rotate_left
   ·show Act.put _ (some 51) _ = _
    simp only [Act.put, sia_, scz_, scs_, i64_w, i32_w]
    rfl
   refine pv_ 7 44 ?_
   refine pv_ 8 52 ?_
   refine pv_ 9 53 ?_
   refine one_ (i := 10) (N := some 11) #[true, true, true, true, true, true, true, true, true, true, true, false, false] rfl rfl (by kernel_rfl) (by decide) (fun K hK => ?_)
   refine box_step ?hg (N := 11) ?hd (cs := #[.int .i64 0, .int .i64 0, .slice none 0 0]) (t := 59) ?hr ?_; (case hd => rfl); (case hg => rfl); (case hr => first | (go_simp; done) | (go_simp; rfl))
   intro gl hg w6 hbox hb
   have BL := Aside0.mk hbox
   have GL : Aside0 (w.heap.size ≤ gl) := bz_ hg
   have NKL := bl_ BK hg
   have NEL := bl_ BE hg
   replace HN : Aside0 (k135.R 135 w6 base (fun k => (ok k ∧ k ≠ g) ∧ k ≠ gl) (.slice A2 m.length cm) m) := ⟨Kd.R_below (Kd.R_mono (Kd.R_bound HN.out) (fun k hk => ⟨hk.1, by have := hk.2.2.1; omega⟩)) hb⟩
   replace HO : Aside0 (k135.R 135 w6 base (fun k => ((ok k ∧ k ≠ g) ∧ k ≠ ge) ∧ k ≠ gl) (.slice A l.length c) l) := ⟨Kd.R_below (Kd.R_mono (Kd.R_bound HO.out) (fun k hk => ⟨hk.1, by have := hk.2.2.1; omega⟩)) hb⟩
   replace BK := bb_ BK hb
   replace BE := bb_ BE hb
   replace HB := bs_ HB hb
   clear hb hbox hg
   refine hK.out _ _ ⟨bc_ BK 3, bc_ BK 4, bc_ BK 5, bc_ BE 0, bc_ BE 1, bc_ BE 2⟩ (fun hHeld => ?_)
   clear hK K
   refine norm_ (a' := ?_) ?_ ?_
   rotate_left
   ·show Act.put _ (some 11) _ = _
    simp only [Act.put, sia_, scz_, scs_, i64_w, i32_w]
    rfl
   exact norm_ (by simp only [putAll, Act.put, sia_, scz_, scs_]) (hCont ((A2, cm), gl) _ ⟨hHeld, HN.out, HO.out, BK.out, BE.out, BL.out, GL.out, NKL.out, NEL.out, HB.out⟩)
  ·skip
   refine box_step ?hg (N := 11) ?hd (cs := #[.int .i64 0, .int .i64 0, .slice none 0 0]) (t := 59) ?hr ?_; (case hd => rfl); (case hg => rfl); (case hr => first | (go_simp; done) | (go_simp; rfl))
   intro gl hg w6 hbox hb
   have BL := Aside0.mk hbox
   have GL : Aside0 (w.heap.size ≤ gl) := bz_ hg
   have NKL := bl_ BK hg
   have NEL := bl_ BE hg
   replace HO : Aside0 (k135.R 135 w6 base (fun k => ((ok k ∧ k ≠ g) ∧ k ≠ ge) ∧ k ≠ gl) (.slice A l.length c) l) := ⟨Kd.R_below (Kd.R_mono (Kd.R_bound HO.out) (fun k hk => ⟨hk.1, by have := hk.2.2.1; omega⟩)) hb⟩
   replace BK := bb_ BK hb
   replace BE := bb_ BE hb
   replace HB := bs_ HB hb
   clear hb hbox hg
   refine hK.out _ _ ⟨bc_ BK 3, bc_ BK 4, bc_ BK 5, bc_ BE 0, bc_ BE 1, bc_ BE 2⟩ (fun hHeld => ?_)
   clear hK K
   refine norm_ (a' := ?_) ?_ ?_
   rotate_left
   ·show Act.put _ (some 11) _ = _
    simp only [Act.put, sia_, scz_, scs_, i64_w, i32_w]
    rfl
   refine one_ (i := 6) (N := some 51) #[true, true, true, true, true, true, true, false, false, false, true, false, false] rfl rfl (by kernel_rfl) (by decide) (fun K hK => ?_)
   refine goes_ Try.func98 (by kernel_rfl) rfl #[.agg #[.int .i64 a3, .int .i64 a4, .slice A l.length c], .int .i64 e1, .agg #[.int .i64 e2, .int .i64 e3, .string e4]] (by rfl) rfl rfl ga_ ?_
   with_reducible refine (spec_LogPut.calls k a3 a4 A c l e1 e2 e3 e4 p1 p2 m r _ ?side1 ?side2 H3.out).mono ?_
   (case side1 => exact (Kd.R_reads' HO.out).2.2)
   (case side2 => exact (Kd.R_reads' HO.out).2.1)
   rintro e w5 ⟨v2, rfl, ho, hb⟩
   obtain ⟨A2, cm, rfl⟩ := Kd.R_slice ho
   refine ⟨_, rfl, ?_⟩
   have hWs := low_ HB hb
   have hLl := blk_lt BL.out
   have HN : Aside0 (k135.R 135 w5 base (fun k => (ok k ∧ k ≠ g) ∧ k ≠ gl) (.slice A2 m.length cm) m) := ⟨Kd.R_lower (Kd.R_mono (Kd.R_bound ho) (fun k hk => ⟨⟨HF.out k (Nat.le_trans hWs hk.2.1), fun e => by have h1 := HL.out; have h2 := Nat.le_trans hWs hk.2.1; omega⟩, fun e => by have h2 := hk.2.1; omega⟩)) (Nat.le_trans HS.out hWs)⟩
   clear hLl
   replace BL := bb_ BL hb
   replace BK := bb_ BK hb
   replace BE := bb_ BE hb
   replace HO := rb_ HO hb
   replace HB := bs_ HB hb
   clear hb ho hWs
   refine hK.out _ _ ⟨bc_ BK 3, bc_ BK 4, bc_ BK 5, bc_ BE 0, bc_ BE 1, bc_ BE 2⟩ (fun hHeld => ?_)
   clear hK K
   refine norm_ (a' := ?_) ?_ ?_
   rotate_left
   ·show Act.put _ (some 51) _ = _
    simp only [Act.put, sia_, scz_, scs_, i64_w, i32_w]
    rfl
   refine pv_ 7 44 ?_
   refine pv_ 8 52 ?_
   refine pv_ 9 53 ?_
   exact norm_ (by simp only [putAll, Act.put, sia_, scz_, scs_]) (hCont ((A2, cm), gl) _ ⟨hHeld, HN.out, HO.out, BK.out, BE.out, BL.out, GL.out, NKL.out, NEL.out, HB.out⟩)
 rintro ⟨⟨A2, cm⟩, gl⟩ w7 ⟨hHeld, qn, qo, qk, qe, ql, qg, q1, q2, qb⟩
 clear HO HB BK BE
 have HN := Aside0.mk qn
 have HO := Aside0.mk qo
 have BK := Aside0.mk qk
 have BL := Aside0.mk ql
 have GL := Aside0.mk qg
 have NKL := Aside0.mk q1
 have NLK := mk_ (Ne.symm q1)
 have HB := Aside0.mk qb
 clear qn qo qk qe ql qg q1 q2 qb
 refine norm_ (a' := ?_) ?_ ?_
 rotate_left
 ·simp only [putAll, Act.put, sia_, scz_, scs_]
  rfl
 refine last_ (i := 11) (N := none) #[true, true, true, true, true, true, true, true, true, true, true, true, false] rfl rfl (by kernel_rfl) (by decide) (fun K hK => ?_)
 obtain ⟨l0, l1, l2, m0, m1, m2⟩ := b3_ BL
 have hm1 := NKL.out
 have hm2 := NLK.out
 refine skip_ (w1 := ?_) (by rfl) rfl ?_ ?_
 rotate_left
 ·go_simp
  rfl
 refine hK.out _ _ ?_
 clear hK K
 refine pv_ 12 12 ?_
 refine done_ (by kernel_rfl) ?_
 clear hHeld l0 l1 l2 m0 m1 m2
 have qk : (((w7.setCell ⟨gl, 0, none⟩ (.int .i64 p1)).setCell ⟨gl, 1, none⟩ (.int .i64 p2)).setCell ⟨gl, 2, none⟩ (.slice A2 m.length cm)).heap[g]? = some (.cells #[.int .i64 a0, .int .i64 a1, .int .i64 a2, .int .i64 a3, .int .i64 a4, .slice A l.length c] 61 (0, 0)) := bf_
 have ql : (((w7.setCell ⟨gl, 0, none⟩ (.int .i64 p1)).setCell ⟨gl, 1, none⟩ (.int .i64 p2)).setCell ⟨gl, 2, none⟩ (.slice A2 m.length cm)).heap[gl]? = some (.cells #[.int .i64 p1, .int .i64 p2, .slice A2 m.length cm] 59 (0, 0)) := bu_
 have qn : k135.R 135 (((w7.setCell ⟨gl, 0, none⟩ (.int .i64 p1)).setCell ⟨gl, 1, none⟩ (.int .i64 p2)).setCell ⟨gl, 2, none⟩ (.slice A2 m.length cm)) base (fun k => (ok k ∧ k ≠ g) ∧ k ≠ gl) (.slice A2 m.length cm) m := rk_ HN.out
 have qo : k135.R 135 (((w7.setCell ⟨gl, 0, none⟩ (.int .i64 p1)).setCell ⟨gl, 1, none⟩ (.int .i64 p2)).setCell ⟨gl, 2, none⟩ (.slice A2 m.length cm)) base (fun k => ((ok k ∧ k ≠ g) ∧ k ≠ ge) ∧ k ≠ gl) (.slice A l.length c) l := rk_ HO.out
 have qb : Below w.heap.size w (((w7.setCell ⟨gl, 0, none⟩ (.int .i64 p1)).setCell ⟨gl, 1, none⟩ (.int .i64 p2)).setCell ⟨gl, 2, none⟩ (.slice A2 m.length cm)) := bw_ HB
 clear HO HN HB BK BL
 generalize (((w7.setCell ⟨gl, 0, none⟩ (.int .i64 p1)).setCell ⟨gl, 1, none⟩ (.int .i64 p2)).setCell ⟨gl, 2, none⟩ (.slice A2 m.length cm)) = w8 at *
 have BK := Aside0.mk qk
 have BL := Aside0.mk ql
 have HN := Aside0.mk qn
 have HO := Aside0.mk qo
 have HB := Aside0.mk qb
 clear qk ql qn qo qb
 obtain ⟨c0, c1, c2, c3, c4, c5, f0, f1, f2, f3, f4, f5⟩ := b6_ BK
 obtain ⟨l0, l1, l2, m0, m1, m2⟩ := b3_ BL
 cases r
 ·go_wp2
  go_ret
  have hB5 : Below base w w8 := ⟨HB.out.os, HB.out.tape, HB.out.output, HB.out.size, fun k hk => HB.out.block k (Nat.lt_of_lt_of_le hk HS.out)⟩
  exact ⟨rfl, _, bf_, Kd.R_mono HO.out (fun _ hk => hk.1.1), hB5⟩
 ·go_wp2
  go_ret
  have hB5 : Below base w w8 := ⟨HB.out.os, HB.out.tape, HB.out.output, HB.out.size, fun k hk => HB.out.block k (Nat.lt_of_lt_of_le hk HS.out)⟩
  exact ⟨rfl, _, bu_, Kd.R_mono (Kd.R_move HN.out (fun k hk => (Below.heap_setCell _ _ _ _ hk.1.2).trans ((Below.heap_setCell _ _ _ _ hk.1.2).trans (Below.heap_setCell _ _ _ _ hk.1.2)))) (fun _ hk => hk.1), ((hB5.setCell HG.out _).setCell HG.out _).setCell HG.out _⟩
theorem spec_l07More.calls (k base : Nat) (ok : Nat → Prop) (g : Nat) (a0 a1 a2 a3 a4 : Int) (v : Value) (l : List S135) (t : ByteArray) (w : World) (hB : w.heap[g]? = some (.cells #[.int .i64 a0, .int .i64 a1, .int .i64 a2, .int .i64 a3, .int .i64 a4, v] 61 (0, 0)))
  (h : k135.R 135 w base (fun k => ok k ∧ k ≠ g) v l) (hbs : base ≤ w.heap.size) (hg4 : base ≤ g) (hfresh : ∀ k, w.heap.size ≤ k → ok k) (r1 r2 r3 r4 : Int) (m : List S135) (r : Bool) (hf : spec_l07More.f k a1 a2 a3 a4 l t = some ((r1, r2, r3, r4, m), r)) :
  Calls Try.prog 66 #[.pointer (some ⟨g, 0, none⟩), .string t] w fun e w' => e = .returned (.bool r) ∧ ∃ v', w'.heap[g]? = some (.cells #[.int .i64 a0, .int .i64 r1, .int .i64 r2, .int .i64 r3, .int .i64 r4, v'] 61 (0, 0)) ∧ k135.R 135 w' base (fun k => ok k ∧ k ≠ g) v' m ∧ Below base w w' := by
 unfold spec_l07More.f at hf
 obtain ⟨⟨b1, b2, b3⟩, h1, hf⟩ := Option.bind_eq_some_iff.mp hf
 cases b3 with
 | true =>
  rw [if_pos rfl] at hf
  obtain ⟨c, h2, hf⟩ := Option.bind_eq_some_iff.mp hf
  cases c with
  | true =>
   rw [if_pos rfl] at hf
   obtain ⟨d, h3, hf⟩ := Option.bind_eq_some_iff.mp hf
   cases d with
   | true =>
    rw [if_pos rfl] at hf
    simp only [Option.some.injEq, Prod.mk.injEq] at hf
    obtain ⟨⟨rfl, rfl, rfl, rfl, rfl⟩, rfl⟩ := hf
    exact (spec_l07More.head_ k base ok g a0 a1 a2 a3 a4 v l t w hB h hbs hg4 b1 b2 h1 h2 h3).mono (fun e w' hh => ⟨hh.1, v, hh.2⟩)
   | false =>
    rw [if_neg Bool.false_ne_true] at hf
    simp only [Option.some.injEq, Prod.mk.injEq] at hf
    obtain ⟨⟨rfl, rfl, rfl, rfl, rfl⟩, rfl⟩ := hf
    exact (spec_l07More.no_ k base ok g a0 a1 a2 a3 a4 v l t w hB h hbs hg4 b1 b2 true h1 (.inr (.inl ⟨rfl, h2, h3⟩))).mono (fun e w' hh => ⟨hh.1, v, hh.2⟩)
  | false =>
   rw [if_neg Bool.false_ne_true] at hf
   simp only [Option.some.injEq, Prod.mk.injEq] at hf
   obtain ⟨⟨rfl, rfl, rfl, rfl, rfl⟩, rfl⟩ := hf
   exact (spec_l07More.no_ k base ok g a0 a1 a2 a3 a4 v l t w hB h hbs hg4 b1 b2 true h1 (.inl ⟨rfl, h2⟩)).mono (fun e w' hh => ⟨hh.1, v, hh.2⟩)
 | false =>
  rw [if_neg Bool.false_ne_true] at hf
  obtain ⟨⟨e1, e2, e3, e4, e5⟩, h2, hf⟩ := Option.bind_eq_some_iff.mp hf
  cases e5 with
  | true =>
   rw [if_pos rfl] at hf
   obtain ⟨⟨p1, p2, p3, p4⟩, h3, hf⟩ := Option.bind_eq_some_iff.mp hf
   refine (spec_l07More.entry_ k base ok g a0 a1 a2 a3 a4 v l t w hB h hbs hg4 hfresh b1 b2 h1 e1 e2 e3 e4 h2 p1 p2 p3 p4 h3).mono (fun e w' hh => ?_)
   cases p4 with
   | true =>
    rw [if_pos rfl] at hf
    simp only [Option.some.injEq, Prod.mk.injEq] at hf
    obtain ⟨⟨rfl, rfl, rfl, rfl, rfl⟩, rfl⟩ := hf
    exact hh
   | false =>
    rw [if_neg Bool.false_ne_true] at hf
    simp only [Option.some.injEq, Prod.mk.injEq] at hf
    obtain ⟨⟨rfl, rfl, rfl, rfl, rfl⟩, rfl⟩ := hf
    exact hh
  | false =>
   rw [if_neg Bool.false_ne_true] at hf
   simp only [Option.some.injEq, Prod.mk.injEq] at hf
   obtain ⟨⟨rfl, rfl, rfl, rfl, rfl⟩, rfl⟩ := hf
   exact (spec_l07More.no_ k base ok g a0 a1 a2 a3 a4 v l t w hB h hbs hg4 b1 b2 false h1 (.inr (.inr ⟨rfl, e1, e2, e3, e4, h2⟩))).mono (fun e w' hh => ⟨hh.1, v, hh.2⟩)
theorem spec_l07More.mono : ∀ a1 a2 a3 a4 l t k, LeO (spec_l07More.f k a1 a2 a3 a4 l t) (spec_l07More.f (k + 1) a1 a2 a3 a4 l t) := by
 intro a1 a2 a3 a4 l t k
 unfold spec_l07More.f
 repeat' first
  | (with_reducible exact LeO.refl _)
  | (with_reducible exact spec_l07Two.mono _ _ _)
  | (with_reducible exact spec_ReadEntry.mono _ _)
  | (with_reducible exact spec_LogPut.mono _ _ _ _ _ _ _ _)
  | (with_reducible refine LeO.ite ?_ ?_)
  | (with_reducible refine LeO.bind ?_ (fun _ => ?_))

/-! ### spec_ReadJournal: function 29 -/
def spec_ReadJournal.l0 (ls : List ByteArray) : Nat → Int → Int → Int → Int → Int → List S135 → Int → Option (Int × Int × Int × Int × List S135 × Int)
 | 0, _, _, _, _, _, _, _ => none
 | k + 1, i, a1, a2, a3, a4, l, e => if i < (ls.length : Int) then (if i > 0 then ((spec_l07More.f k a1 a2 a3 a4 l (rdOf ByteArray.empty ls i)).bind fun m => if m.2 = true then ((spec_Frame.f k (rdOf ByteArray.empty ls i)).bind fun f => spec_ReadJournal.l0 ls k (wrap64 (i + 1)) m.1.1 m.1.2.1 m.1.2.2.1 m.1.2.2.2.1 m.1.2.2.2.2 (wrap64 (e + (f.1.size : Int)))) else some (m.1.1, m.1.2.1, m.1.2.2.1, m.1.2.2.2.1, m.1.2.2.2.2, e)) else (if 0 ≤ i then ((spec_Frame.f k (rdOf ByteArray.empty ls i)).bind fun f => spec_ReadJournal.l0 ls k (wrap64 (i + 1)) a1 a2 a3 a4 l (wrap64 (e + (f.1.size : Int)))) else none)) else some (a1, a2, a3, a4, l, e)
def spec_ReadJournal.f (k : Nat) (a0 : Int) (a1 : ByteArray) : Option (Int × Int × Int × Int × Int × List S135 × Int × Bool) := (spec_Unframe.f k a1).bind fun u => (spec_l01In.f a0 0 999).bind fun c => if c = true then (if (u.1.length : Int) = 0 then some (0, 0, 0, 0, 0, [], 0, false) else ((spec_l07Two.f k (rdOf ByteArray.empty u.1 0) (⟨#[66]⟩ : ByteArray)).bind fun h => if h.2.2 = true then ((spec_LogOk.f k h.1 h.2.1 []).bind fun g => if g = true then ((spec_ReadJournal.l0 u.1 k 0 0 0 h.1 h.2.1 [] 0).bind fun r => some (a0, r.1, r.2.1, r.2.2.1, r.2.2.2.1, r.2.2.2.2.1, r.2.2.2.2.2, true)) else some (0, 0, 0, 0, 0, [], 0, false)) else some (0, 0, 0, 0, 0, [], 0, false))) else some (0, 0, 0, 0, 0, [], 0, false)
theorem spec_ReadJournal.mono_l (ls : List ByteArray) : ∀ k, ∀ i a1 a2 a3 a4 l e, LeO (spec_ReadJournal.l0 ls k i a1 a2 a3 a4 l e) (spec_ReadJournal.l0 ls (k + 1) i a1 a2 a3 a4 l e)
 | 0 => fun _ _ _ _ _ _ _ r h => by simp [spec_ReadJournal.l0] at h
 | k + 1 => by
  have ih0 := spec_ReadJournal.mono_l ls k
  intro i a1 a2 a3 a4 l e
  unfold spec_ReadJournal.l0
  repeat' first
   | (with_reducible exact ih0 _ _ _ _ _ _ _)
   | (with_reducible exact LeO.refl _)
   | (with_reducible exact spec_l07More.mono _ _ _ _ _ _ _)
   | (with_reducible exact spec_Frame.mono _ _)
   | (with_reducible refine LeO.ite ?_ ?_)
   | (with_reducible refine LeO.bind ?_ (fun _ => ?_))
theorem spec_ReadJournal.mono : ∀ a0 a1 k, LeO (spec_ReadJournal.f k a0 a1) (spec_ReadJournal.f (k + 1) a0 a1) := by
 intro a0 a1 k
 unfold spec_ReadJournal.f
 repeat' first
  | (with_reducible exact spec_ReadJournal.mono_l _ _ _ _ _ _ _ _ _)
  | (with_reducible exact LeO.refl _)
  | (with_reducible exact spec_Unframe.mono _ _)
  | (with_reducible exact spec_l07Two.mono _ _ _)
  | (with_reducible exact spec_LogOk.mono _ _ _ _)
  | (with_reducible refine LeO.ite ?_ ?_)
  | (with_reducible refine LeO.bind ?_ (fun _ => ?_))
theorem low4_ {w W0 W : World} (h0 : Aside0 (Below w.heap.size w W0))
  (h : Below w.heap.size w W := by repeat (first | (with_reducible first | exact Aside0.out (by assumption) | apply below_alloc | apply pw_below_drewN | apply below_drew1 | refine below_set ?_ (Aside0.out (by assumption))) | exact Aside0.out (by assumption))) : w.heap.size ≤ W.heap.size := below_size h
/-- What is below the base stays, step by step. -/
theorem below_trans_ {w W W1 : World} (h0 : Below w.heap.size w W) (hb : Below w.heap.size W W1) : Below w.heap.size w W1 := ⟨hb.os.trans h0.os, hb.tape.trans h0.tape, hb.output.trans h0.output, Nat.le_trans h0.size hb.size, fun k hk => (hb.block k hk).trans (h0.block k hk)⟩
theorem bt_ {w W0 W W1 : World} (h0 : Aside0 (Below w.heap.size w W0)) (hb : Below w.heap.size W W1)
  (h : Below w.heap.size w W := by repeat (first | (with_reducible first | exact Aside0.out (by assumption) | apply below_alloc | apply pw_below_drewN | apply below_drew1 | refine below_set ?_ (Aside0.out (by assumption))) | exact Aside0.out (by assumption))) : Aside0 (Below w.heap.size w W1) := ⟨below_trans_ h hb⟩
set_option maxHeartbeats 8000000 in
set_option maxRecDepth 100000 in
theorem spec_ReadJournal.no1_ (k : Nat) (a0 : Int) (a1 : ByteArray) (w : World) (u1 : List ByteArray) (u2 : Int) (hu : spec_Unframe.f k a1 = some (u1, u2)) (hc : spec_l01In.f a0 0 999 = some false) :
  Calls Try.prog 29 #[.int .i64 a0, .string a1] w fun e w' => ∃ v5_ : Value, e = .returned (.tuple #[.agg #[.int .i64 0, .int .i64 0, .int .i64 0, .int .i64 0, .int .i64 0, v5_], .int .i64 0, .bool false]) ∧ Kd.R k135 135 w' w.heap.size (fun _ => True) v5_ [] ∧ Below w.heap.size w w' := by
 have hu61 := Try.underlying61
 have hu59 := Try.underlying59
 have HU := Aside0.mk hu
 have HB := mk_ (Below.refl w.heap.size w)
 clear hu
 have HC := Aside0.mk hc
 clear hc
 go_enter Try.func29, Try.ntmps29
 go_wp2_with (first
  | ((with_reducible refine gate_dst (N := 4) rfl ?_); refine bx_ (N := 4) (cs := #[.int .i64 0, .int .i64 0, .int .i64 0, .int .i64 0, .int .i64 0, .slice none 0 0]) (t := 61) ?_; intro gr hg w1 hbox hb; have BR := Aside0.mk hbox; have GR : Aside0 (w.heap.size ≤ gr) := bz_ hg; replace HB := bs_ HB hb; clear hb hbox hg; obtain ⟨r0, r1_, r2_, r3_, r4_, r5_, z0, z1, z2, z3, z4, z5⟩ := b6_ BR)
  | (go_at_call 63; (with_reducible refine (spec_Unframe.calls k a1 u1 u2 _ HU.out).mono ?_); rintro e w2 ⟨v0, rfl, ho, hb⟩; obtain ⟨A0, c0, rfl⟩ := Kd.R_slice ho; have HR := mk_ (Kd.R_lower ho (below_size (bw_ HB))); replace BR := bb_ BR hb; replace HB := bs_ HB hb; clear hb ho; clear r0 r1_ r2_ r3_ r4_ r5_ z0 z1 z2 z3 z4 z5; obtain ⟨r0, r1_, r2_, r3_, r4_, r5_, z0, z1, z2, z3, z4, z5⟩ := b6_ BR)
  | (go_at_call 61; (with_reducible refine (spec_l01In.calls a0 0 999 false _ HC.out).mono ?_); rintro e w3 ⟨rfl, ⟨nd, rfl⟩⟩))
 refine bodyPost_ret (results_ctt rfl _ _ gr 61 #[.int .i64 0, .int .i64 0, .int .i64 0, .int .i64 0, .int .i64 0, .slice none 0 0] (0, 0) _ rfl bu_ Try.underlying61 rfl (by kernel_rfl)) rfl ?_
 exact ⟨_, rfl, Kd.R_nil _ _ _ _ _, bw_ HB⟩
set_option maxHeartbeats 8000000 in
set_option maxRecDepth 100000 in
theorem spec_ReadJournal.no2_ (k : Nat) (a0 : Int) (a1 : ByteArray) (w : World) (u1 : List ByteArray) (u2 : Int) (hu : spec_Unframe.f k a1 = some (u1, u2)) (hc : spec_l01In.f a0 0 999 = some true) (hl : (u1.length : Int) = 0) :
  Calls Try.prog 29 #[.int .i64 a0, .string a1] w fun e w' => ∃ v5_ : Value, e = .returned (.tuple #[.agg #[.int .i64 0, .int .i64 0, .int .i64 0, .int .i64 0, .int .i64 0, v5_], .int .i64 0, .bool false]) ∧ Kd.R k135 135 w' w.heap.size (fun _ => True) v5_ [] ∧ Below w.heap.size w w' := by
 have hu61 := Try.underlying61
 have hu59 := Try.underlying59
 have HU := Aside0.mk hu
 have HB := mk_ (Below.refl w.heap.size w)
 clear hu
 have HC := Aside0.mk hc
 have hlb : ((u1.length : Int) == 0) = true := beq_iff_eq.mpr hl
 have hlc : (u1.length == 0) = true := by first | simpa using hl | (simp at hl ⊢; omega)
 clear hc
 go_enter Try.func29, Try.ntmps29
 go_wp2_with (first
  | ((with_reducible refine gate_dst (N := 4) rfl ?_); refine bx_ (N := 4) (cs := #[.int .i64 0, .int .i64 0, .int .i64 0, .int .i64 0, .int .i64 0, .slice none 0 0]) (t := 61) ?_; intro gr hg w1 hbox hb; have BR := Aside0.mk hbox; have GR : Aside0 (w.heap.size ≤ gr) := bz_ hg; replace HB := bs_ HB hb; clear hb hbox hg; obtain ⟨r0, r1_, r2_, r3_, r4_, r5_, z0, z1, z2, z3, z4, z5⟩ := b6_ BR)
  | (go_at_call 63; (with_reducible refine (spec_Unframe.calls k a1 u1 u2 _ HU.out).mono ?_); rintro e w2 ⟨v0, rfl, ho, hb⟩; obtain ⟨A0, c0, rfl⟩ := Kd.R_slice ho; have HR := mk_ (Kd.R_lower ho (below_size (bw_ HB))); replace BR := bb_ BR hb; replace HB := bs_ HB hb; clear hb ho; clear r0 r1_ r2_ r3_ r4_ r5_ z0 z1 z2 z3 z4 z5; obtain ⟨r0, r1_, r2_, r3_, r4_, r5_, z0, z1, z2, z3, z4, z5⟩ := b6_ BR)
  | (go_at_call 61; (with_reducible refine (spec_l01In.calls a0 0 999 true _ HC.out).mono ?_); rintro e w3 ⟨rfl, ⟨nd, rfl⟩⟩))
 refine bodyPost_ret (results_ctt rfl _ _ gr 61 #[.int .i64 0, .int .i64 0, .int .i64 0, .int .i64 0, .int .i64 0, .slice none 0 0] (0, 0) _ rfl bu_ Try.underlying61 rfl (by kernel_rfl)) rfl ?_
 exact ⟨_, rfl, Kd.R_nil _ _ _ _ _, bw_ HB⟩
set_option maxHeartbeats 8000000 in
set_option maxRecDepth 100000 in
theorem spec_ReadJournal.no3_ (k : Nat) (a0 : Int) (a1 : ByteArray) (w : World) (u1 : List ByteArray) (u2 : Int) (hu : spec_Unframe.f k a1 = some (u1, u2)) (hc : spec_l01In.f a0 0 999 = some true) (hl : ¬ (u1.length : Int) = 0) (b1 b2 : Int) (h2 : spec_l07Two.f k (rdOf ByteArray.empty u1 0) (⟨#[66]⟩ : ByteArray) = some (b1, b2, false)) :
  Calls Try.prog 29 #[.int .i64 a0, .string a1] w fun e w' => ∃ v5_ : Value, e = .returned (.tuple #[.agg #[.int .i64 0, .int .i64 0, .int .i64 0, .int .i64 0, .int .i64 0, v5_], .int .i64 0, .bool false]) ∧ Kd.R k135 135 w' w.heap.size (fun _ => True) v5_ [] ∧ Below w.heap.size w w' := by
 have hu61 := Try.underlying61
 have hu59 := Try.underlying59
 have HU := Aside0.mk hu
 have HB := mk_ (Below.refl w.heap.size w)
 clear hu
 have HC := Aside0.mk hc
 have hlb : ((u1.length : Int) == 0) = false := beq_eq_false_iff_ne.mpr hl
 have hlc : (u1.length == 0) = false := by first | simpa using hl | (simp at hl ⊢; omega)
 have H2 := Aside0.mk h2
 have p0 : (0 : Int) ≤ 0 := Int.le_refl 0
 have q0 : (0 : Int) < (u1.length : Int) := by omega
 clear hc h2
 go_enter Try.func29, Try.ntmps29
 go_wp2_with (first
  | ((with_reducible refine gate_dst (N := 4) rfl ?_); refine bx_ (N := 4) (cs := #[.int .i64 0, .int .i64 0, .int .i64 0, .int .i64 0, .int .i64 0, .slice none 0 0]) (t := 61) ?_; intro gr hg w1 hbox hb; have BR := Aside0.mk hbox; have GR : Aside0 (w.heap.size ≤ gr) := bz_ hg; replace HB := bs_ HB hb; clear hb hbox hg; obtain ⟨r0, r1_, r2_, r3_, r4_, r5_, z0, z1, z2, z3, z4, z5⟩ := b6_ BR)
  | (go_at_call 63; (with_reducible refine (spec_Unframe.calls k a1 u1 u2 _ HU.out).mono ?_); rintro e w2 ⟨v0, rfl, ho, hb⟩; obtain ⟨A0, c0, rfl⟩ := Kd.R_slice ho; have HR := mk_ (Kd.R_lower ho (below_size (bw_ HB))); replace BR := bb_ BR hb; replace HB := bs_ HB hb; clear hb ho; clear r0 r1_ r2_ r3_ r4_ r5_ z0 z1 z2 z3 z4 z5; obtain ⟨r0, r1_, r2_, r3_, r4_, r5_, z0, z1, z2, z3, z4, z5⟩ := b6_ BR)
  | (go_at_call 61; (with_reducible refine (spec_l01In.calls a0 0 999 true _ HC.out).mono ?_); rintro e w3 ⟨rfl, ⟨nd, rfl⟩⟩; obtain ⟨ad, e0, hx0⟩ := Kd.at_string (Kd.R_reads' HR.out).2.2 0 p0 q0; cases e0; replace hx0 := (congrArg w2.cell? (show ad = ad.add (Int.toNat 0) from rfl)).trans hx0; have HX0 := Aside0.mk hx0)
  | (go_at_call 64; (with_reducible refine (spec_l07Two.calls k (rdOf ByteArray.empty u1 0) _ b1 b2 _ _ H2.out).mono ?_); rintro e w4 ⟨rfl, hb⟩; replace BR := bb_ BR hb; replace HR := rb_ HR hb; replace HB := bs_ HB hb; clear hb hx0 HX0; clear r0 r1_ r2_ r3_ r4_ r5_ z0 z1 z2 z3 z4 z5; obtain ⟨r0, r1_, r2_, r3_, r4_, r5_, z0, z1, z2, z3, z4, z5⟩ := b6_ BR; have HB4 := mk_ (Below.refl w4.heap.size w4); have BR4 := BR; have HC4 : Aside0 (Kd.C Kd.string w4 (some ad) u1.length u1) := ⟨(Kd.R_reads' HR.out).2.2⟩; clear HR; have HBW := HB)
  | ((with_reducible refine gate_dst (N := 12) rfl ?_); refine bx_ (N := 12) (cs := #[.int .i64 0, .int .i64 0, .int .i64 0, .int .i64 0, .int .i64 0, .slice none 0 0]) (t := 61) ?_; intro gj hg w5 hbox hb; have BJ := Aside0.mk hbox; have GJ : Aside0 (w.heap.size ≤ gj) := bz_ hg; have EJ : Aside0 (gj = w4.heap.size) := ⟨hg⟩; have G4 : Aside0 (w4.heap.size ≤ gj) := ⟨by rw [EJ.out]; exact Nat.le_refl _⟩; replace HB4 : Aside0 (Below w4.heap.size w4 w5) := bs_ HB4 hb; have NRJ := bl_ BR hg; have NJR := bg_ BR hg; have hm1 := NRJ.out; have hm2 := NJR.out; replace BR := bb_ BR hb; replace HB := bs_ HB hb; clear hb hbox hg; clear r0 r1_ r2_ r3_ r4_ r5_ z0 z1 z2 z3 z4 z5; obtain ⟨r0, r1_, r2_, r3_, r4_, r5_, z0, z1, z2, z3, z4, z5⟩ := b6_ BR; obtain ⟨j0, j1, j2, j3, j4, j5, y0, y1, y2, y3, y4, y5⟩ := b6_ BJ))
 refine bodyPost_ret (results_ctt rfl _ _ gr 61 #[.int .i64 0, .int .i64 0, .int .i64 0, .int .i64 0, .int .i64 0, .slice none 0 0] (0, 0) _ rfl bu_ Try.underlying61 rfl (by kernel_rfl)) rfl ?_
 exact ⟨_, rfl, Kd.R_nil _ _ _ _ _, bw_ HB⟩
set_option maxHeartbeats 8000000 in
set_option maxRecDepth 100000 in
theorem spec_ReadJournal.no4_ (k : Nat) (a0 : Int) (a1 : ByteArray) (w : World) (u1 : List ByteArray) (u2 : Int) (hu : spec_Unframe.f k a1 = some (u1, u2)) (hc : spec_l01In.f a0 0 999 = some true) (hl : ¬ (u1.length : Int) = 0) (b1 b2 : Int) (h2 : spec_l07Two.f k (rdOf ByteArray.empty u1 0) (⟨#[66]⟩ : ByteArray) = some (b1, b2, true)) (h4 : spec_LogOk.f k b1 b2 [] = some false) :
  Calls Try.prog 29 #[.int .i64 a0, .string a1] w fun e w' => ∃ v5_ : Value, e = .returned (.tuple #[.agg #[.int .i64 0, .int .i64 0, .int .i64 0, .int .i64 0, .int .i64 0, v5_], .int .i64 0, .bool false]) ∧ Kd.R k135 135 w' w.heap.size (fun _ => True) v5_ [] ∧ Below w.heap.size w w' := by
 have hu61 := Try.underlying61
 have hu59 := Try.underlying59
 have HU := Aside0.mk hu
 have HB := mk_ (Below.refl w.heap.size w)
 clear hu
 have HC := Aside0.mk hc
 have hlb : ((u1.length : Int) == 0) = false := beq_eq_false_iff_ne.mpr hl
 have hlc : (u1.length == 0) = false := by first | simpa using hl | (simp at hl ⊢; omega)
 have H2 := Aside0.mk h2
 have p0 : (0 : Int) ≤ 0 := Int.le_refl 0
 have q0 : (0 : Int) < (u1.length : Int) := by omega
 clear hc h2
 have HLK : Aside0 (∀ W, Calls Try.prog 65 #[.agg #[.int .i64 b1, .int .i64 b2, .slice none 0 0]] W (fun e w' => e = .returned (.bool false) ∧ Below W.heap.size W w')) := ⟨fun W => spec_LogOk.calls k b1 b2 none 0 [] false W ((Kd.R_reads' (Kd.R_nil k135 135 W 0 (fun _ => True))).2.2) (Nat.le_refl 0) h4⟩
 clear h4
 go_enter Try.func29, Try.ntmps29
 go_wp2_with (first
  | ((with_reducible refine gate_dst (N := 4) rfl ?_); refine bx_ (N := 4) (cs := #[.int .i64 0, .int .i64 0, .int .i64 0, .int .i64 0, .int .i64 0, .slice none 0 0]) (t := 61) ?_; intro gr hg w1 hbox hb; have BR := Aside0.mk hbox; have GR : Aside0 (w.heap.size ≤ gr) := bz_ hg; replace HB := bs_ HB hb; clear hb hbox hg; obtain ⟨r0, r1_, r2_, r3_, r4_, r5_, z0, z1, z2, z3, z4, z5⟩ := b6_ BR)
  | (go_at_call 63; (with_reducible refine (spec_Unframe.calls k a1 u1 u2 _ HU.out).mono ?_); rintro e w2 ⟨v0, rfl, ho, hb⟩; obtain ⟨A0, c0, rfl⟩ := Kd.R_slice ho; have HR := mk_ (Kd.R_lower ho (below_size (bw_ HB))); replace BR := bb_ BR hb; replace HB := bs_ HB hb; clear hb ho; clear r0 r1_ r2_ r3_ r4_ r5_ z0 z1 z2 z3 z4 z5; obtain ⟨r0, r1_, r2_, r3_, r4_, r5_, z0, z1, z2, z3, z4, z5⟩ := b6_ BR)
  | (go_at_call 61; (with_reducible refine (spec_l01In.calls a0 0 999 true _ HC.out).mono ?_); rintro e w3 ⟨rfl, ⟨nd, rfl⟩⟩; obtain ⟨ad, e0, hx0⟩ := Kd.at_string (Kd.R_reads' HR.out).2.2 0 p0 q0; cases e0; replace hx0 := (congrArg w2.cell? (show ad = ad.add (Int.toNat 0) from rfl)).trans hx0; have HX0 := Aside0.mk hx0)
  | (go_at_call 64; (with_reducible refine (spec_l07Two.calls k (rdOf ByteArray.empty u1 0) _ b1 b2 _ _ H2.out).mono ?_); rintro e w4 ⟨rfl, hb⟩; replace BR := bb_ BR hb; replace HR := rb_ HR hb; replace HB := bs_ HB hb; clear hb hx0 HX0; clear r0 r1_ r2_ r3_ r4_ r5_ z0 z1 z2 z3 z4 z5; obtain ⟨r0, r1_, r2_, r3_, r4_, r5_, z0, z1, z2, z3, z4, z5⟩ := b6_ BR; have HB4 := mk_ (Below.refl w4.heap.size w4); have BR4 := BR; have HC4 : Aside0 (Kd.C Kd.string w4 (some ad) u1.length u1) := ⟨(Kd.R_reads' HR.out).2.2⟩; clear HR; have HBW := HB)
  | ((with_reducible refine gate_dst (N := 12) rfl ?_); refine bx_ (N := 12) (cs := #[.int .i64 0, .int .i64 0, .int .i64 0, .int .i64 0, .int .i64 0, .slice none 0 0]) (t := 61) ?_; intro gj hg w5 hbox hb; have BJ := Aside0.mk hbox; have GJ : Aside0 (w.heap.size ≤ gj) := bz_ hg; have EJ : Aside0 (gj = w4.heap.size) := ⟨hg⟩; have G4 : Aside0 (w4.heap.size ≤ gj) := ⟨by rw [EJ.out]; exact Nat.le_refl _⟩; replace HB4 : Aside0 (Below w4.heap.size w4 w5) := bs_ HB4 hb; have NRJ := bl_ BR hg; have NJR := bg_ BR hg; have hm1 := NRJ.out; have hm2 := NJR.out; replace BR := bb_ BR hb; replace HB := bs_ HB hb; clear hb hbox hg; clear r0 r1_ r2_ r3_ r4_ r5_ z0 z1 z2 z3 z4 z5; obtain ⟨r0, r1_, r2_, r3_, r4_, r5_, z0, z1, z2, z3, z4, z5⟩ := b6_ BR; obtain ⟨j0, j1, j2, j3, j4, j5, y0, y1, y2, y3, y4, y5⟩ := b6_ BJ)
  | (go_at_call 65; (with_reducible refine (HLK.out _).mono ?_); rintro e w6 ⟨rfl, hb⟩; replace BJ : Aside0 (w6.heap[gj]? = some (.cells #[.int .i64 a0, .int .i64 0, .int .i64 0, .int .i64 b1, .int .i64 b2, .slice none 0 0] 61 (0, 0))) := ⟨blk_below bu_ hb⟩; replace BR : Aside0 (w6.heap[gr]? = some (.cells #[.int .i64 0, .int .i64 0, .int .i64 0, .int .i64 0, .int .i64 0, .slice none 0 0] 61 (0, 0))) := ⟨blk_below bf_ hb⟩; replace HB4 := bs_ HB4 hb; replace HB := bs_ HB hb; clear hb j0 j1 j2 j3 j4 j5 y0 y1 y2 y3 y4 y5; clear r0 r1_ r2_ r3_ r4_ r5_ z0 z1 z2 z3 z4 z5; obtain ⟨r0, r1_, r2_, r3_, r4_, r5_, z0, z1, z2, z3, z4, z5⟩ := b6_ BR))
 refine bodyPost_ret (results_ctt rfl _ _ gr 61 #[.int .i64 0, .int .i64 0, .int .i64 0, .int .i64 0, .int .i64 0, .slice none 0 0] (0, 0) _ rfl bu_ Try.underlying61 rfl (by kernel_rfl)) rfl ?_
 exact ⟨_, rfl, Kd.R_nil _ _ _ _ _, bw_ HB⟩
set_option maxHeartbeats 8000000 in
set_option maxRecDepth 100000 in
theorem spec_ReadJournal.loop_ (k : Nat) (a0 : Int) (a1 : ByteArray) (w : World) (u1 : List ByteArray) (u2 : Int) (hu : spec_Unframe.f k a1 = some (u1, u2)) (hc : spec_l01In.f a0 0 999 = some true) (hl : ¬ (u1.length : Int) = 0) (b1 b2 : Int) (h2 : spec_l07Two.f k (rdOf ByteArray.empty u1 0) (⟨#[66]⟩ : ByteArray) = some (b1, b2, true)) (h4 : spec_LogOk.f k b1 b2 [] = some true) (q1 q2 q3 q4 : Int) (ql : List S135) (qe : Int) (h5 : spec_ReadJournal.l0 u1 k 0 0 0 b1 b2 [] 0 = some (q1, q2, q3, q4, ql, qe)) :
  Calls Try.prog 29 #[.int .i64 a0, .string a1] w fun e w' => ∃ v5_ : Value, e = .returned (.tuple #[.agg #[.int .i64 a0, .int .i64 q1, .int .i64 q2, .int .i64 q3, .int .i64 q4, v5_], .int .i64 qe, .bool true]) ∧ Kd.R k135 135 w' w.heap.size (fun _ => True) v5_ ql ∧ Below w.heap.size w w' := by
 have hu61 := Try.underlying61
 have hu59 := Try.underlying59
 have HU := Aside0.mk hu
 have HB := mk_ (Below.refl w.heap.size w)
 clear hu
 have HC := Aside0.mk hc
 have hlb : ((u1.length : Int) == 0) = false := beq_eq_false_iff_ne.mpr hl
 have hlc : (u1.length == 0) = false := by first | simpa using hl | (simp at hl ⊢; omega)
 have H2 := Aside0.mk h2
 have p0 : (0 : Int) ≤ 0 := Int.le_refl 0
 have q0 : (0 : Int) < (u1.length : Int) := by omega
 clear hc h2
 have HLK : Aside0 (∀ W, Calls Try.prog 65 #[.agg #[.int .i64 b1, .int .i64 b2, .slice none 0 0]] W (fun e w' => e = .returned (.bool true) ∧ Below W.heap.size W w')) := ⟨fun W => spec_LogOk.calls k b1 b2 none 0 [] true W ((Kd.R_reads' (Kd.R_nil k135 135 W 0 (fun _ => True))).2.2) (Nat.le_refl 0) h4⟩
 clear h4
 have H5 := Aside0.mk h5
 clear h5
 go_enter Try.func29, Try.ntmps29
 go_wp2_with (first
  | ((with_reducible refine gate_dst (N := 4) rfl ?_); refine bx_ (N := 4) (cs := #[.int .i64 0, .int .i64 0, .int .i64 0, .int .i64 0, .int .i64 0, .slice none 0 0]) (t := 61) ?_; intro gr hg w1 hbox hb; have BR := Aside0.mk hbox; have GR : Aside0 (w.heap.size ≤ gr) := bz_ hg; replace HB := bs_ HB hb; clear hb hbox hg; obtain ⟨r0, r1_, r2_, r3_, r4_, r5_, z0, z1, z2, z3, z4, z5⟩ := b6_ BR)
  | (go_at_call 63; (with_reducible refine (spec_Unframe.calls k a1 u1 u2 _ HU.out).mono ?_); rintro e w2 ⟨v0, rfl, ho, hb⟩; obtain ⟨A0, c0, rfl⟩ := Kd.R_slice ho; have HR := mk_ (Kd.R_lower ho (below_size (bw_ HB))); replace BR := bb_ BR hb; replace HB := bs_ HB hb; clear hb ho; clear r0 r1_ r2_ r3_ r4_ r5_ z0 z1 z2 z3 z4 z5; obtain ⟨r0, r1_, r2_, r3_, r4_, r5_, z0, z1, z2, z3, z4, z5⟩ := b6_ BR)
  | (go_at_call 61; (with_reducible refine (spec_l01In.calls a0 0 999 true _ HC.out).mono ?_); rintro e w3 ⟨rfl, ⟨nd, rfl⟩⟩; obtain ⟨ad, e0, hx0⟩ := Kd.at_string (Kd.R_reads' HR.out).2.2 0 p0 q0; cases e0; replace hx0 := (congrArg w2.cell? (show ad = ad.add (Int.toNat 0) from rfl)).trans hx0; have HX0 := Aside0.mk hx0)
  | (go_at_call 64; (with_reducible refine (spec_l07Two.calls k (rdOf ByteArray.empty u1 0) _ b1 b2 _ _ H2.out).mono ?_); rintro e w4 ⟨rfl, hb⟩; replace BR := bb_ BR hb; replace HR := rb_ HR hb; replace HB := bs_ HB hb; clear hb hx0 HX0; clear r0 r1_ r2_ r3_ r4_ r5_ z0 z1 z2 z3 z4 z5; obtain ⟨r0, r1_, r2_, r3_, r4_, r5_, z0, z1, z2, z3, z4, z5⟩ := b6_ BR; have HB4 := mk_ (Below.refl w4.heap.size w4); have BR4 := BR; have HC4 : Aside0 (Kd.C Kd.string w4 (some ad) u1.length u1) := ⟨(Kd.R_reads' HR.out).2.2⟩; clear HR; have HBW := HB)
  | ((with_reducible refine gate_dst (N := 12) rfl ?_); refine bx_ (N := 12) (cs := #[.int .i64 0, .int .i64 0, .int .i64 0, .int .i64 0, .int .i64 0, .slice none 0 0]) (t := 61) ?_; intro gj hg w5 hbox hb; have BJ := Aside0.mk hbox; have GJ : Aside0 (w.heap.size ≤ gj) := bz_ hg; have EJ : Aside0 (gj = w4.heap.size) := ⟨hg⟩; have G4 : Aside0 (w4.heap.size ≤ gj) := ⟨by rw [EJ.out]; exact Nat.le_refl _⟩; replace HB4 : Aside0 (Below w4.heap.size w4 w5) := bs_ HB4 hb; have NRJ := bl_ BR hg; have NJR := bg_ BR hg; have hm1 := NRJ.out; have hm2 := NJR.out; replace BR := bb_ BR hb; replace HB := bs_ HB hb; clear hb hbox hg; clear r0 r1_ r2_ r3_ r4_ r5_ z0 z1 z2 z3 z4 z5; obtain ⟨r0, r1_, r2_, r3_, r4_, r5_, z0, z1, z2, z3, z4, z5⟩ := b6_ BR; obtain ⟨j0, j1, j2, j3, j4, j5, y0, y1, y2, y3, y4, y5⟩ := b6_ BJ)
  | (go_at_call 65; (with_reducible refine (HLK.out _).mono ?_); rintro e w6 ⟨rfl, hb⟩; replace BJ : Aside0 (w6.heap[gj]? = some (.cells #[.int .i64 a0, .int .i64 0, .int .i64 0, .int .i64 b1, .int .i64 b2, .slice none 0 0] 61 (0, 0))) := ⟨blk_below bu_ hb⟩; replace BR : Aside0 (w6.heap[gr]? = some (.cells #[.int .i64 0, .int .i64 0, .int .i64 0, .int .i64 0, .int .i64 0, .slice none 0 0] 61 (0, 0))) := ⟨blk_below bf_ hb⟩; replace HB4 := bs_ HB4 hb; replace HB := bs_ HB hb; clear hb j0 j1 j2 j3 j4 j5 y0 y1 y2 y3 y4 y5; clear r0 r1_ r2_ r3_ r4_ r5_ z0 z1 z2 z3 z4 z5; obtain ⟨r0, r1_, r2_, r3_, r4_, r5_, z0, z1, z2, z3, z4, z5⟩ := b6_ BR))
 go_loopg [13, 14] k (fun kq v13 v14 w' => ∃ (xe xi x1 x2 x3 x4 : Int) (l : List S135) (v : Value), v13 = .int .i64 xe ∧ v14 = .int .i64 xi ∧ Aside0 (spec_ReadJournal.l0 u1 kq xi x1 x2 x3 x4 l xe = some (q1, q2, q3, q4, ql, qe)) ∧ Aside0 (kq ≤ k) ∧ Aside0 (w'.heap[gj]? = some (.cells #[.int .i64 a0, .int .i64 x1, .int .i64 x2, .int .i64 x3, .int .i64 x4, v] 61 (0, 0))) ∧ Aside0 (k135.R 135 w' w4.heap.size (fun k => True ∧ k ≠ gj) v l) ∧ Aside0 (Below w4.heap.size w4 w'))
 case atStart => exact ⟨0, 0, 0, 0, b1, b2, [], .slice none 0 0, rfl, rfl, H5, ⟨Nat.le_refl _⟩, ⟨bp_ BJ⟩, ⟨Kd.R_nil _ _ _ _ _⟩, ⟨bw_ HB4⟩⟩
 case round =>
  clear H5 BJ BR HB4 HB HLK r0 r1_ r2_ r3_ r4_ r5_ z0 z1 z2 z3 z4 z5
  obtain ⟨xe, xi, x1, x2, x3, x4, l, v, rfl, rfl, HA, HK1, BK, HO, HB4⟩ := hrel
  cases gk with
  | zero => exact absurd HA.out (by simp [spec_ReadJournal.l0])
  | succ k1 =>
   have H := HA.out
   clear HA
   simp only [spec_ReadJournal.l0] at H
   obtain ⟨A2, cm, rfl⟩ := Kd.R_slice HO.out
   have BR := bb_ BR4 HB4.out
   obtain ⟨j0, j1, j2, j3, j4, j5, y0, y1, y2, y3, y4, y5⟩ := b6_ BK; obtain ⟨r0, r1_, r2_, r3_, r4_, r5_, z0, z1, z2, z3, z4, z5⟩ := b6_ BR
   by_cases c1 : xi < (u1.length : Int)
   ·rw [if_pos c1] at H
    have c1b : decide (xi < (u1.length : Int)) = true := decide_eq_true c1
    by_cases c2 : xi > 0
    ·rw [if_pos c2] at H
     have c2b : decide (xi > 0) = true := decide_eq_true c2
     have c2c : decide (0 < xi) = true := decide_eq_true c2
     have p1 : 0 ≤ xi := by omega
     obtain ⟨⟨⟨m1, m2, m3, m4, ml⟩, mr⟩, hm, H⟩ := Option.bind_eq_some_iff.mp H
     have HM := Aside0.mk hm
     clear hm
     obtain ⟨ad', e', hx4⟩ := Kd.at_string HC4.out xi p1 c1
     cases e'
     have hx := hc_ HB4 hx4
     cases mr with
     | false =>
      rw [if_neg Bool.false_ne_true] at H
      simp only [Option.some.injEq, Prod.mk.injEq] at H
      obtain ⟨rfl, rfl, rfl, rfl, rfl, rfl⟩ := H
      go_wp2_with (first
       | (go_at_call 66; (with_reducible refine (spec_l07More.calls k1 w4.heap.size (fun _ => True) gj a0 x1 x2 x3 x4 (.slice A2 l.length cm) l (rdOf ByteArray.empty u1 xi) _ ?hB ?hR ?hbs G4.out (fun _ _ => trivial) m1 m2 m3 m4 ml false HM.out).mono ?_); (case hB => exact bp_ BK); (case hR => exact rp_ HO); (case hbs => exact low4_ HB4); rintro e w7 ⟨rfl, v7, qk, qr, qb⟩; have BK7 := Aside0.mk qk; have HO7 := Aside0.mk qr; have HB7 := bt_ HB4 qb; have BR7 := bb_ BR4 HB7.out; clear BK HO HB4 BR qk qr qb hx j0 j1 j2 j3 j4 j5 y0 y1 y2 y3 y4 y5 r0 r1_ r2_ r3_ r4_ r5_ z0 z1 z2 z3 z4 z5; have BK := BK7; have HO := HO7; have HB4 := HB7; have BR := BR7; clear BK7 HO7 HB7 BR7; obtain ⟨A3, cm3, rfl⟩ := Kd.R_slice HO.out; replace hx := hc_ HB4 hx4; obtain ⟨j0, j1, j2, j3, j4, j5, y0, y1, y2, y3, y4, y5⟩ := b6_ BK; obtain ⟨r0, r1_, r2_, r3_, r4_, r5_, z0, z1, z2, z3, z4, z5⟩ := b6_ BR))
      have hOr : ∀ k, w4.heap.size ≤ k → k ≠ gr := fun k hk => by have h1 := blk_lt BR4.out; omega
      have HBF := bs_ HBW HB4.out
      refine bodyPost_ret (results_ctt rfl _ _ gr 61 #[.int .i64 a0, .int .i64 m1, .int .i64 m2, .int .i64 m3, .int .i64 m4, .slice A3 ml.length cm3] (0, 0) _ rfl bu_ Try.underlying61 rfl (by kernel_rfl)) rfl ?_
      exact ⟨_, rfl, Kd.R_mono (Kd.R_lower (rk_ (g := gr) (Kd.R_mono (Kd.R_bound HO.out) (fun k hk => ⟨hk.1, hOr k hk.2.1⟩))) (below_size HBW.out)) (fun _ _ => trivial), bw_ HBF⟩
     | true =>
      rw [if_pos rfl] at H
      obtain ⟨⟨f1, f2⟩, hf, H⟩ := Option.bind_eq_some_iff.mp H
      have HFR := Aside0.mk hf
      have H' := Aside0.mk H
      clear hf H
      go_wp2_with (first
       | (go_at_call 66; (with_reducible refine (spec_l07More.calls k1 w4.heap.size (fun _ => True) gj a0 x1 x2 x3 x4 (.slice A2 l.length cm) l (rdOf ByteArray.empty u1 xi) _ ?hB ?hR ?hbs G4.out (fun _ _ => trivial) m1 m2 m3 m4 ml true HM.out).mono ?_); (case hB => exact bp_ BK); (case hR => exact rp_ HO); (case hbs => exact low4_ HB4); rintro e w7 ⟨rfl, v7, qk, qr, qb⟩; have BK7 := Aside0.mk qk; have HO7 := Aside0.mk qr; have HB7 := bt_ HB4 qb; have BR7 := bb_ BR4 HB7.out; clear BK HO HB4 BR qk qr qb hx j0 j1 j2 j3 j4 j5 y0 y1 y2 y3 y4 y5 r0 r1_ r2_ r3_ r4_ r5_ z0 z1 z2 z3 z4 z5; have BK := BK7; have HO := HO7; have HB4 := HB7; have BR := BR7; clear BK7 HO7 HB7 BR7; obtain ⟨A3, cm3, rfl⟩ := Kd.R_slice HO.out; replace hx := hc_ HB4 hx4; obtain ⟨j0, j1, j2, j3, j4, j5, y0, y1, y2, y3, y4, y5⟩ := b6_ BK; obtain ⟨r0, r1_, r2_, r3_, r4_, r5_, z0, z1, z2, z3, z4, z5⟩ := b6_ BR)
       | (go_at_call 67; (with_reducible refine (spec_Frame.calls k1 _ f1 f2 _ HFR.out).mono ?_); rintro e w8 ⟨rfl, hb⟩; replace BK := bb_ BK hb; replace HO := rb_ HO hb; replace BR := bb_ BR hb; replace HB4 := bs_ HB4 hb; clear hb hx j0 j1 j2 j3 j4 j5 y0 y1 y2 y3 y4 y5 r0 r1_ r2_ r3_ r4_ r5_ z0 z1 z2 z3 z4 z5; obtain ⟨j0, j1, j2, j3, j4, j5, y0, y1, y2, y3, y4, y5⟩ := b6_ BK; obtain ⟨r0, r1_, r2_, r3_, r4_, r5_, z0, z1, z2, z3, z4, z5⟩ := b6_ BR))
      go_roundg k1
      case measure => have := HK1.out; omega
      case rel => exact ⟨_, _, m1, m2, m3, m4, ml, _, rfl, rfl, H', ⟨by have := HK1.out; omega⟩, ⟨bp_ BK⟩, ⟨rp_ HO⟩, ⟨bw_ HB4⟩⟩
    ·rw [if_neg c2] at H
     have c2b : decide (xi > 0) = false := decide_eq_false c2
     have c2c : decide (0 < xi) = false := decide_eq_false c2
     by_cases p1 : 0 ≤ xi
     ·rw [if_pos p1] at H
      obtain ⟨⟨f1, f2⟩, hf, H⟩ := Option.bind_eq_some_iff.mp H
      have HFR := Aside0.mk hf
      have H' := Aside0.mk H
      clear hf H
      obtain ⟨ad', e', hx4⟩ := Kd.at_string HC4.out xi p1 c1
      cases e'
      have hx := hc_ HB4 hx4
      go_wp2_with (first
       | (go_at_call 67; (with_reducible refine (spec_Frame.calls k1 _ f1 f2 _ HFR.out).mono ?_); rintro e w8 ⟨rfl, hb⟩; replace BK := bb_ BK hb; replace HO := rb_ HO hb; replace BR := bb_ BR hb; replace HB4 := bs_ HB4 hb; clear hb hx j0 j1 j2 j3 j4 j5 y0 y1 y2 y3 y4 y5 r0 r1_ r2_ r3_ r4_ r5_ z0 z1 z2 z3 z4 z5; obtain ⟨j0, j1, j2, j3, j4, j5, y0, y1, y2, y3, y4, y5⟩ := b6_ BK; obtain ⟨r0, r1_, r2_, r3_, r4_, r5_, z0, z1, z2, z3, z4, z5⟩ := b6_ BR))
      go_roundg k1
      case measure => have := HK1.out; omega
      case rel => exact ⟨wrap64 (xe + (f1.size : Int)), wrap64 (xi + 1), x1, x2, x3, x4, l, _, rfl, (by first | rfl | (have hz_ : xi = 0 := (by omega); subst hz_; first | kernel_rfl | decide | (simp [wrap64]; done) | (unfold wrap64; rfl))), H', ⟨by have := HK1.out; omega⟩, ⟨bp_ BK⟩, ⟨rp_ HO⟩, ⟨bw_ HB4⟩⟩
     ·rw [if_neg p1] at H
      cases H
   ·rw [if_neg c1] at H
    have c1b : decide (xi < (u1.length : Int)) = false := decide_eq_false c1
    simp only [Option.some.injEq, Prod.mk.injEq] at H
    obtain ⟨rfl, rfl, rfl, rfl, rfl, rfl⟩ := H
    go_wp2
    have hOr : ∀ k, w4.heap.size ≤ k → k ≠ gr := fun k hk => by have h1 := blk_lt BR4.out; omega
    have HBF := bs_ HBW HB4.out
    refine bodyPost_ret (results_ctt rfl _ _ gr 61 #[.int .i64 a0, .int .i64 x1, .int .i64 x2, .int .i64 x3, .int .i64 x4, .slice A2 l.length cm] (0, 0) _ rfl bu_ Try.underlying61 rfl (by kernel_rfl)) rfl ?_
    exact ⟨_, rfl, Kd.R_mono (Kd.R_lower (rk_ (g := gr) (Kd.R_mono (Kd.R_bound HO.out) (fun k hk => ⟨hk.1, hOr k hk.2.1⟩))) (below_size HBW.out)) (fun _ _ => trivial), bw_ HBF⟩
theorem spec_ReadJournal.calls (k : Nat) (a0 : Int) (a1 : ByteArray) (r1 : Int) (r2 : Int) (r3 : Int) (r4 : Int) (r5 : Int) (r6 : List S135) (r7 : Int) (r8 : Bool) (w : World) (h : spec_ReadJournal.f k a0 a1 = some (r1, r2, r3, r4, r5, r6, r7, r8)) :
  Calls Try.prog 29 #[.int .i64 a0, .string a1] w fun e w' => ∃ v5_ : Value, e = .returned (.tuple #[.agg #[.int .i64 r1, .int .i64 r2, .int .i64 r3, .int .i64 r4, .int .i64 r5, v5_], .int .i64 r7, .bool r8]) ∧ Kd.R k135 135 w' w.heap.size (fun _ => True) v5_ r6 ∧ Below w.heap.size w w' := by
 unfold spec_ReadJournal.f at h
 obtain ⟨⟨u1, u2⟩, hu, h⟩ := Option.bind_eq_some_iff.mp h
 obtain ⟨c, hc, h⟩ := Option.bind_eq_some_iff.mp h
 cases c with
 | false =>
  rw [if_neg Bool.false_ne_true] at h
  simp only [Option.some.injEq, Prod.mk.injEq] at h
  obtain ⟨rfl, rfl, rfl, rfl, rfl, rfl, rfl, rfl⟩ := h
  exact spec_ReadJournal.no1_ k a0 a1 w u1 u2 hu hc
 | true =>
  rw [if_pos rfl] at h
  by_cases hl : (u1.length : Int) = 0
  ·rw [if_pos hl] at h
   simp only [Option.some.injEq, Prod.mk.injEq] at h
   obtain ⟨rfl, rfl, rfl, rfl, rfl, rfl, rfl, rfl⟩ := h
   exact spec_ReadJournal.no2_ k a0 a1 w u1 u2 hu hc hl
  ·rw [if_neg hl] at h
   obtain ⟨⟨b1, b2, b3⟩, h2, h⟩ := Option.bind_eq_some_iff.mp h
   cases b3 with
   | false =>
    rw [if_neg Bool.false_ne_true] at h
    simp only [Option.some.injEq, Prod.mk.injEq] at h
    obtain ⟨rfl, rfl, rfl, rfl, rfl, rfl, rfl, rfl⟩ := h
    exact spec_ReadJournal.no3_ k a0 a1 w u1 u2 hu hc hl b1 b2 h2
   | true =>
    rw [if_pos rfl] at h
    obtain ⟨g, h4, h⟩ := Option.bind_eq_some_iff.mp h
    cases g with
    | false =>
     rw [if_neg Bool.false_ne_true] at h
     simp only [Option.some.injEq, Prod.mk.injEq] at h
     obtain ⟨rfl, rfl, rfl, rfl, rfl, rfl, rfl, rfl⟩ := h
     exact spec_ReadJournal.no4_ k a0 a1 w u1 u2 hu hc hl b1 b2 h2 h4
    | true =>
     rw [if_pos rfl] at h
     obtain ⟨⟨q1, q2, q3, q4, ql, qe⟩, h5, h⟩ := Option.bind_eq_some_iff.mp h
     simp only [Option.some.injEq, Prod.mk.injEq] at h
     obtain ⟨rfl, rfl, rfl, rfl, rfl, rfl, rfl, rfl⟩ := h
     exact spec_ReadJournal.loop_ k a0 a1 w u1 u2 hu hc hl b1 b2 h2 h4 q1 q2 q3 q4 ql qe h5

/-! ### impl_within: function 59 -/
def impl_within.f (a0 : Int) (a1 : Int) (a2 : Int) : Option (Bool) := if a0 ≥ a1 then (some (decide (a0 ≤ a2))) else (some false)
set_option maxHeartbeats 8000000 in
set_option maxRecDepth 100000 in
theorem impl_within.calls (a0 : Int) (a1 : Int) (a2 : Int) (r : Bool) (w : World) (h : impl_within.f a0 a1 a2 = some r) :
  Calls Try.prog 59 #[.int .i64 a0, .int .i64 a1, .int .i64 a2] w fun e w' => e = .returned (.bool r) ∧ Drawn0 w w' := by
 have H : (if a0 ≥ a1 then (some (decide (a0 ≤ a2))) else (some false)) = some r := h
 clear h
 by_cases c4 : a0 ≥ a1
 rotate_left
 ·rw [if_neg c4] at H
  have c4b0 : decide (a1 ≤ a0) = false := decide_eq_false c4
  clear c4
  obtain rfl := Option.some.inj H
  go_enter Try.func59, Try.ntmps59
  go_wp2
  go_ret
  exact ⟨by first | rfl | (simp; done) | (simp [*]; done) | (simp [bne]; done), by repeat (first | exact Drawn0.refl _ | apply Drawn0.step)⟩
 rw [if_pos c4] at H
 have c4b0 : decide (a1 ≤ a0) = true := decide_eq_true c4
 clear c4
 obtain rfl := Option.some.inj H
 go_enter Try.func59, Try.ntmps59
 go_wp2
 go_ret
 exact ⟨by first | rfl | (simp; done) | (simp [*]; done) | (simp [bne]; done), by repeat (first | exact Drawn0.refl _ | apply Drawn0.step)⟩

/-! ### impl_VarText: function 106 -/
def impl_VarText.l0 : Nat → Int → List Int → Option (ByteArray × Bool)
 | 0, _, _ => none
 | k + 1, x0, x4 => if x0 > 127 then (if x4.length < 140737488355328 then (impl_VarText.l0 k (wrap64 (Int.tdiv x0 128)) (x4 ++ [(wrap64 ((Int.tmod x0 128) + 128)) % 256])) else (none)) else (if x4.length < 140737488355328 then (some (strOfNums (x4 ++ [(x0) % 256]), true)) else (none))
def impl_VarText.f (k : Nat) (a0 : Int) : Option (ByteArray × Bool) := (impl_within.f a0 0 1000000000).bind fun t239 => (if t239 = true then (impl_VarText.l0 k a0 ([] : List Int)) else (some ((⟨#[]⟩ : ByteArray), false)))
theorem impl_VarText.mono_l : ∀ k, (∀ y0 y1, LeO (impl_VarText.l0 k y0 y1) (impl_VarText.l0 (k + 1) y0 y1))
 | 0 => fun _ _ r h => by simp [impl_VarText.l0] at h
 | k + 1 => by
  have ih0 := impl_VarText.mono_l k
  ·intro y0 y1
   unfold impl_VarText.l0
   repeat' first
   | (with_reducible exact ih0 _ _)
   | (with_reducible exact LeO.refl _)
   | (with_reducible refine LeO.ite ?_ ?_)
theorem impl_VarText.mono : ∀ a0 k, LeO (impl_VarText.f k a0) (impl_VarText.f (k + 1) a0) := by
 intro a0 k
 have ih0 := impl_VarText.mono_l k
 unfold impl_VarText.f
 repeat' first
   | (with_reducible exact ih0 _ _)
   | (with_reducible exact LeO.refl _)
   | (with_reducible refine LeO.ite ?_ ?_)
   | (with_reducible refine LeO.bind ?_ (fun _ => ?_))
set_option maxHeartbeats 8000000 in
set_option maxRecDepth 100000 in
theorem impl_VarText.calls (k : Nat) (a0 : Int) (r1 : ByteArray) (r2 : Bool) (w : World) (h : impl_VarText.f k a0 = some (r1, r2)) :
  Calls Try.prog 106 #[.int .i64 a0] w fun e w' => e = .returned (.tuple #[.string r1, .bool r2]) ∧ Below w.heap.size w w' := by
 have HB := mk_ (Below.refl w.heap.size w)
 have H : ((impl_within.f a0 0 1000000000).bind fun t239 => (if t239 = true then (impl_VarText.l0 k a0 ([] : List Int)) else (some ((⟨#[]⟩ : ByteArray), false)))) = some (r1, r2) := h
 clear h
 replace H := Option.bind_eq_some_iff.mp H
 obtain ⟨t239, A20, H⟩ := H
 try dsimp only at H
 have A2 := Aside0.mk A20
 clear A20
 by_cases c3 : t239 = true
 rotate_left
 ·replace c3 := Bool.eq_false_iff.mpr c3
  subst c3
  rw [if_neg (show ¬ (false = true) by decide)] at H
  simp only [Option.some.injEq, Prod.mk.injEq] at H
  obtain ⟨rfl, rfl⟩ := H
  go_enter Try.func106, Try.ntmps106
  go_wp2_with (first | ((with_reducible refine gate_callee (f := 59) rfl ?_); refine gl_ 6 Try.func59 #[.int .i64 a0, .int .i64 0, .int .i64 1000000000] ?_; (with_reducible refine (impl_within.calls a0 0 1000000000 false _ A2.out).mono ?_); rintro e w' ⟨rfl, ⟨nd, rfl⟩⟩; refine ⟨_, rfl, ?_⟩))
  go_ret2
  exact ⟨er_, bw_ HB⟩
 subst c3
 rw [if_pos rfl] at H
 have H' := Aside0.mk H
 clear H
 go_enter Try.func106, Try.ntmps106
 go_wp2_with (first | ((with_reducible refine gate_callee (f := 59) rfl ?_); refine gl_ 6 Try.func59 #[.int .i64 a0, .int .i64 0, .int .i64 1000000000] ?_; (with_reducible refine (impl_within.calls a0 0 1000000000 true _ A2.out).mono ?_); rintro e w' ⟨rfl, ⟨nd, rfl⟩⟩; refine ⟨_, rfl, ?_⟩))
 go_loopg [0, 4] k (fun kq v0 v4 w' => ∃ (x0_1 : Int) (x4_1 : List Int), v0 = .int .i64 x0_1 ∧ Aside0 (impl_VarText.l0 kq x0_1 x4_1 = some (r1, r2)) ∧ Aside0 (kq ≤ k) ∧ Aside0 (Kd.R (Kd.int .u8) 5 w' w.heap.size (fun _ => True) v4 x4_1) ∧ Aside0 (Below w.heap.size w w'))
 case atStart => exact ⟨(a0), (([] : List Int)), (by first | rfl | (simp; done) | (simp [*]; done) | (simp [bne]; done)), H', ⟨Nat.le_refl _⟩, ⟨by first | exact Kd.R_nil _ _ _ _ _ | exact Kd.N_nil _ _ _ _ _ | exact Kd.V_nil _ _ _ _ _ | exact Kd.Q_nil _ _ _ _ _ | exact Kd.S_nil _ _ _ _ _⟩, ⟨bw_ HB⟩⟩
 case round =>
  clear H'
  (try clear c1); (try clear p2); (try clear c3)
  obtain ⟨x0_1, x4_1, rfl, HA, HK1, HO_4, HB⟩ := hrel
  cases gk with
  | zero => exact absurd HA.out (by simp [impl_VarText.l0])
  | succ k1 =>
   have H := HA.out
   clear HA
   simp only [impl_VarText.l0] at H
   by_cases c4 : x0_1 > 127
   rotate_left
   ·rw [if_neg c4] at H
    have c4b0 : decide (127 < x0_1) = false := decide_eq_false c4
    clear c4
    by_cases c7 : x4_1.length < 140737488355328
    rotate_left
    ·rw [if_neg c7] at H
     exact absurd H (by simp)
    rw [if_pos c7] at H
    have LMc7 := Aside0.mk c7
    clear c7
    obtain ⟨y243, hy243⟩ : ∃ y_ : List Int, y_ = (x4_1 ++ [(x0_1) % 256]) := ⟨_, rfl⟩
    replace H : (some (strOfNums y243, true)) = some (r1, r2) := by first | (rw [hy243]; with_reducible exact H) | (have H2_ := (Option.bind_some _ _).symm.trans H; rw [hy243]; with_reducible exact H2_) | (have H2_ := (Option.bind_some _ _).symm.trans H; with_reducible exact H2_) | with_reducible exact H | (rw [hy243]; exact H) | exact H
    have Ny243 := Aside0.mk hy243
    clear hy243
    simp only [Option.some.injEq, Prod.mk.injEq] at H
    obtain ⟨rfl, rfl⟩ := H
    go_wp2_with (first | ((with_reducible refine gate_builtin (b := .append) (xs := #[.tmp 19, .tmp 22]) rfl ?_); at_builtin; refine Kd.R_append (Kd.int .u8) (w0 := w) w.heap.size rfl (.tmp 19) (.tmp 22) 49 5 (.int .u8 0) 1 rfl Try.underlying49 info5 rfl (by decide) (by omega) u4 x4_1 ((x0_1) % 256) [.int .u8 ((x0_1) % 256)] (fun _ => True) (fun _ => False) rfl rfl ?aP (fun _ hk => hk.elim) ?aF ?aO ?aB ?aS ?aL ?_; (case aP => exact rfl); (case aB => exact (bw_ HB)); (case aF => exact (fun _ _ => trivial)); (case aO => exact (rp_ HO_4)); (case aS => exact (below_size (bw_ HB))); (case aL => have := LMc7.out; omega); intro v244 w8 ho hb hg hat; rw [← Ny243.out] at ho; have HO245 := mk_ (ho); replace HB := mk_ (hb); clear HO_4; clear ho hb hg hat; have hcv9 := own_string (P := Try.prog) Try.underlying49 Try.underlying5 Try.underlying9 (Kd.own_of_R HO245.out)))
    go_ret2
    exact ⟨er_, bw_ HB⟩
   rw [if_pos c4] at H
   have c4b0 : decide (127 < x0_1) = true := decide_eq_true c4
   clear c4
   by_cases c5 : x4_1.length < 140737488355328
   rotate_left
   ·rw [if_neg c5] at H
    exact absurd H (by simp)
   rw [if_pos c5] at H
   have LMc5 := Aside0.mk c5
   clear c5
   obtain ⟨y240, hy240⟩ : ∃ y_ : List Int, y_ = (x4_1 ++ [(wrap64 ((Int.tmod x0_1 128) + 128)) % 256]) := ⟨_, rfl⟩
   replace H : (impl_VarText.l0 k1 (wrap64 (Int.tdiv x0_1 128)) y240) = some (r1, r2) := by first | (rw [hy240]; with_reducible exact H) | (have H2_ := (Option.bind_some _ _).symm.trans H; rw [hy240]; with_reducible exact H2_) | (have H2_ := (Option.bind_some _ _).symm.trans H; with_reducible exact H2_) | with_reducible exact H | (rw [hy240]; exact H) | exact H
   have Ny240 := Aside0.mk hy240
   clear hy240
   have H' := Aside0.mk H
   clear H
   go_wp2_with (first | ((with_reducible refine gate_builtin (b := .append) (xs := #[.tmp 10, .tmp 15]) rfl ?_); at_builtin; refine Kd.R_append (Kd.int .u8) (w0 := w) w.heap.size rfl (.tmp 10) (.tmp 15) 49 5 (.int .u8 0) 1 rfl Try.underlying49 info5 rfl (by decide) (by omega) u4 x4_1 ((wrap64 ((Int.tmod x0_1 128) + 128)) % 256) [.int .u8 ((wrap64 ((Int.tmod x0_1 128) + 128)) % 256)] (fun _ => True) (fun _ => False) rfl rfl ?aP (fun _ hk => hk.elim) ?aF ?aO ?aB ?aS ?aL ?_; (case aP => exact rfl); (case aB => exact (bw_ HB)); (case aF => exact (fun _ _ => trivial)); (case aO => exact (rp_ HO_4)); (case aS => exact (below_size (bw_ HB))); (case aL => have := LMc5.out; omega); intro v241 w6 ho hb hg hat; rw [← Ny240.out] at ho; have HO242 := mk_ (ho); replace HB := mk_ (hb); clear HO_4; clear ho hb hg hat))
   go_roundg k1
   case measure => have := HK1.out; omega
   case rel => exact ⟨(wrap64 (Int.tdiv x0_1 128)), (y240), (by first | rfl | (simp; done) | (simp [*]; done) | (simp [bne]; done)), H', ⟨by have := HK1.out; omega⟩, ⟨rq_ HO242.out⟩, ⟨bw_ HB⟩⟩

end Go.Proofs.Ythbaoefbccdioaa.QFnExactReadJournal
