/- Written by this session's own program (wip/tpl/pp.py): what the law's functions come to, and that the machine's calls do just that. -/
import Derived.Test.YthbaoefbccdioaaTMPack
import Derived.Test.YthbaoefbccdioaaQFnActsx0
import Derived.Test.YthbaoefbccdioaaQFnActsx2
namespace Go.Proofs.Ythbaoefbccdioaa.QFnActs
open Go.RowKit Go.Proofs.YthbaoefbccdioaaW.PrintWords Go.Proofs.YthbaoefbccdioaaW.PrintLast Go.Proofs.YthbaoefbccdioaaW.PrintMore
attribute [local go_sem] Go.Proofs.Ythbaoefbccdioaa.Sem.string_geq Go.Proofs.Ythbaoefbccdioaa.Sem.string_leq Go.Proofs.Ythbaoefbccdioaa.Sem.string_gtr
attribute [local go_sem] max2_int min2_int max_two min_two max_three min_three max_four min_four   -- for this text's walks alone
set_option linter.unusedVariables false
set_option linter.unusedSimpArgs false

/-! ### impl_putFile: function 47 -/
def putB (f x : S76) : Bool := !Op.bytesLess x.f0.toList f.f0.toList && !(x.f0.toList == f.f0.toList)
def putE (f x : S76) : Bool := x.f0.toList == f.f0.toList
def putF (l : List S76) (f : S76) : List S76 :=
 if 0 ≤ M.idxP (putE f) l 0 then l.set (M.idxP (putE f) l 0).toNat f
 else if M.idxP (putB f) l 0 < 0 then l.take l.length ++ f :: l.drop l.length else l.take (M.idxP (putB f) l 0).toNat ++ f :: l.drop (M.idxP (putB f) l 0).toNat
set_option maxHeartbeats 4000000 in
set_option maxRecDepth 100000 in
theorem impl_putFile.one (x0 x1 : ByteArray) (x2 : Int) (B : Nat) (s : ByteArray) (w : World) (hB : B < w.heap.size) (hc : w.cell? ⟨B, 0, none⟩ = some (.string s)) :
  Calls Try.prog 80 #[.agg #[.string x0, .string x1, .int .i64 x2], .pointer (some ⟨B, 0, none⟩)] w fun e w' => e = .returned (.bool (!Op.bytesLess x0.toList s.toList && !(x0.toList == s.toList))) ∧ Below w.heap.size w w' := by
 have hu := Try.underlying76
 go_enter Try.func80, Try.ntmps80
 go_wp2
 go_ret
 exact ⟨rfl, by repeat (first | exact Below.refl _ _ | apply below_alloc | apply pw_below_drewN | apply below_drew1)⟩
set_option maxHeartbeats 4000000 in
set_option maxRecDepth 100000 in
theorem impl_putFile.there (base : Nat) (ok : Nat → Prop) (g4 : Nat) (A : Option Addr) (c : Nat) (l : List S76) (f : S76) (w : World) (hl : l.length < 3518437208000) (hB : w.heap[g4]? = some (.cells #[.slice A l.length c] 31 (0, 0)))
  (h : k76.R 76 w base (fun k => ok k ∧ k ≠ g4) (.slice A l.length c) l) (hbs : base ≤ w.heap.size) (hg4 : base ≤ g4) (hq : 0 ≤ M.idxP (putE f) l 0) :
  Calls Try.prog 47 #[.pointer (some ⟨g4, 0, none⟩), .agg #[.string f.f0, .string f.f1, .int .i64 f.f2]] w fun e w' => e = .returned (.tuple #[]) ∧ ∃ v', w'.heap[g4]? = some (.cells #[v'] 31 (0, 0)) ∧ k76.R 76 w' base (fun k => ok k ∧ k ≠ g4) v' (l.set (M.idxP (putE f) l 0).toNat f) ∧ Below base w w' ∧ ∀ k, k < w.heap.size → k ≠ g4 → some k ≠ (Value.slice A l.length c).ownBlock → w'.heap[k]? = w.heap[k]? := by
 have hu31 := Try.underlying31
 have hu29 := Try.underlying29
 have hu76 := Try.underlying76
 obtain ⟨kk, hk1, hk2⟩ : ∃ kk : Nat, kk < l.length ∧ M.idxP (putE f) l 0 = kk := by
  rcases M.idxP_cases (putE f) l 0 with ⟨e, _⟩ | ⟨k, hk, e, _⟩
  ·omega
  ·exact ⟨k, hk, by omega⟩
 rw [hk2]
 obtain ⟨go, cap, ea⟩ := own_slice76 h (by omega)
 injection ea with ea _ ec
 subst ea; subst ec
 have HO := Aside0.mk h
 have BK := Aside0.mk hB
 have HB := mk_ (Below.refl w.heap.size w)
 have HK := Aside0.mk hk1
 have HC := (Kd.R_reads' h).2
 have HCC := Aside0.mk HC.1
 have HG := Aside0.mk hg4
 have HFA : Aside0 (impl_fileAt.f l f.f0 = some (kk : Int)) := ⟨by rw [← hk2]; rfl⟩
 have hkz : (kk : Int) < (l.length : Int) := by omega
 clear h HC hq hB hk2 hg4
 go_enter Try.func47, Try.ntmps47
 go_wp2_with (first
  | ((with_reducible refine gate_dst (N := 3) rfl ?_); refine bx_ (N := 3) (cs := #[.string f.f0, .string f.f1, .int .i64 f.f2]) (t := 76) ?_; intro gf hg w2 hbox hb; have BF := Aside0.mk hbox; have GF : Aside0 (w.heap.size ≤ gf) := bz_ hg; have HNF : Aside0 (∀ k, k < w.heap.size → k ≠ gf) := ⟨fun k hk e => by omega⟩; replace BK := bb_ BK hb; replace HO := rb_ HO hb; replace HB := bs_ HB hb; clear hb hbox hg; have c40 : w2.cell? ⟨g4, 0, none⟩ = some (.slice (some ⟨go, 0, none⟩) l.length c) := (blk_cell BK.out 0).trans rfl; obtain ⟨cf0, cf1, cf2, ff0, ff1, ff2⟩ := b3_ BF))
 have HCD := mk_ (Kd.R_reads' HO.out).2.2
 have HL4 := mk_ (blk_lt BK.out)
 have HLF := mk_ (blk_lt BF.out)
 go_region_held3 (fun w' => w'.cell? ⟨g4, 0, none⟩ = some (.slice (some ⟨go, 0, none⟩) l.length c) ∧ w'.cell? ⟨gf, 0, none⟩ = some (.string f.f0)) (first | go_keep | exact ⟨(hb'.cell (p := ⟨g4, 0, none⟩) HL4.out).trans c40, (hb'.cell (p := ⟨gf, 0, none⟩) HLF.out).trans cf0⟩) (first | (go_at_call 44; refine (impl_fileAt.calls (some ⟨go, 0, none⟩) c l f.f0 kk _ (by repeat (first | exact HCD.out | (with_reducible refine Kd.C_drewN ?_ _) | (with_reducible refine Kd.C_drew ?_))) HCC.out HFA.out).mono ?_; rintro e w5 ⟨rfl, hb'⟩))
 clear c40 cf0 cf1 cf2 ff0 ff1 ff2 HCD HL4 HLF
 replace BK := bb_ BK hb'
 replace BF := bb_ BF hb'
 replace HO := rb_ HO hb'
 replace HB := bs_ HB hb'
 clear hb'
 have hown := own76 HO.out
 obtain ⟨u1, u2, u3, hnc, hcm, hgb, hgl⟩ := Ins.own_there hown
 have hcap3 : (kk + 1) * 3 ≤ c * 3 := Nat.mul_le_mul_right _ (by omega)
 obtain ⟨v0, hy0⟩ := Option.isSome_iff_exists.1 (u1 (kk * 3) (by omega))
 obtain ⟨v1, hy1⟩ := Option.isSome_iff_exists.1 (u1 (kk * 3 + 1) (by omega))
 obtain ⟨v2, hy2⟩ := Option.isSome_iff_exists.1 (u1 (kk * 3 + 2) (by omega))
 have hz0 := u2 (kk * 3)
 have hz1 := u2 (kk * 3 + 1)
 have hz2 := u2 (kk * 3 + 2)
 have hov := mk_ (Ins.own_over (w := w5) (enc := enc76) (fun _ => rfl) (i := kk) HK.out f hown)
 have hne : go ≠ g4 := (HO.out.1 go rfl).2
 have hne2 : g4 ≠ go := Ne.symm hne
 have c40 : w5.cell? ⟨g4, 0, none⟩ = some (.slice (some ⟨go, 0, none⟩) l.length c) := (blk_cell BK.out 0).trans rfl
 obtain ⟨cf0, cf1, cf2, ff0, ff1, ff2⟩ := b3_ BF
 clear u1 u2 u3 hown hcap3 hcm
 go_wp2
 go_region
 go_wp2
 refine bodyPost_ret (results_none rfl _ _ _) rfl ?_
 rw [Int.toNat_natCast]
 have hB5 : Below base w w5 := ⟨HB.out.os, HB.out.tape, HB.out.output, HB.out.size, fun k hk => HB.out.block k (Nat.lt_of_lt_of_le hk hbs)⟩
 refine ⟨rfl, _, blk_drew (blk_far (blk_far (blk_far BK.out hne2 _) hne2 _) hne2 _), R76 (fun k hk => HO.out.1 k hk) ?_, ?_, fun k hk _ h2 => (hov.out.2.block k (Nat.lt_of_lt_of_le hk HB.out.size) (fun e => h2 (by rw [e]; rfl))).trans (HB.out.block k hk)⟩
 ·rw [List.length_set]; exact hov.out.1
 ·exact below_drew (pw_below_grown hB5 (some go) (Nat.le_trans hbs hB5.size) hov.out.2 (fun k e => by rw [← Option.some.inj e]; exact hgb))
set_option maxHeartbeats 4000000 in
set_option maxRecDepth 100000 in
theorem impl_putFile.new_ (base : Nat) (ok : Nat → Prop) (g4 : Nat) (A : Option Addr) (c : Nat) (l : List S76) (f : S76) (w : World) (hl : l.length < 3518437208000) (hB : w.heap[g4]? = some (.cells #[.slice A l.length c] 31 (0, 0)))
  (h : k76.R 76 w base (fun k => ok k ∧ k ≠ g4) (.slice A l.length c) l) (hbs : base ≤ w.heap.size) (hg4 : base ≤ g4) (hfresh : ∀ k, w.heap.size ≤ k → ok k) (hq : M.idxP (putE f) l 0 = -1) (kk : Nat) (hk : kk ≤ l.length) (zB : Int) (hz : M.idxP (putB f) l 0 = zB) (hj : zB = -1 ∧ kk = l.length ∨ zB = kk) :
  Calls Try.prog 47 #[.pointer (some ⟨g4, 0, none⟩), .agg #[.string f.f0, .string f.f1, .int .i64 f.f2]] w fun e w' => e = .returned (.tuple #[]) ∧ ∃ v', w'.heap[g4]? = some (.cells #[v'] 31 (0, 0)) ∧ k76.R 76 w' base (fun k => ok k ∧ k ≠ g4) v' (l.take kk ++ f :: l.drop kk) ∧ Below base w w' ∧ ∀ k, k < w.heap.size → k ≠ g4 → some k ≠ (Value.slice A l.length c).ownBlock → w'.heap[k]? = w.heap[k]? := by
 have hu31 := Try.underlying31
 have hu29 := Try.underlying29
 have hu76 := Try.underlying76
 have eg : ∀ args w, (callFunc 80 args).run Try.prog w = .ok (.enter 80 args) w := enters_of Try.func80 (by kernel_rfl) rfl
 have HO := Aside0.mk h
 have BK := Aside0.mk hB
 have HB := mk_ (Below.refl w.heap.size w)
 have HK := Aside0.mk hk
 have HC := (Kd.R_reads' h).2
 have HCC := Aside0.mk HC.1
 have HG := Aside0.mk hg4
 have HFR := Aside0.mk hfresh
 have HFA : Aside0 (impl_fileAt.f l f.f0 = some (-1)) := ⟨by rw [← hq]; rfl⟩
 have HZ := Aside0.mk hz
 have HE := Aside0.mk eg
 clear h HC hB hq hg4 hk hfresh hz eg
 have hkn : ¬ ((kk : Int) < 0) := by omega
 rcases hj with ⟨hj, rfl⟩ | hj
 all_goals
  go_enter Try.func47, Try.ntmps47
  go_wp2_with (first
   | ((with_reducible refine gate_dst (N := 3) rfl ?_); refine bx_ (N := 3) (cs := #[.string f.f0, .string f.f1, .int .i64 f.f2]) (t := 76) ?_; intro gf hg w2 hbox hb; have BF := Aside0.mk hbox; have GF : Aside0 (w.heap.size ≤ gf) := bz_ hg; have HNF : Aside0 (g4 ≠ gf) := bl_ BK hg; have HGO : Aside0 (some gf ≠ (Value.slice A l.length c).ownBlock) := ⟨fun e => by have := Kd.R_lt HO.out _ e.symm; omega⟩; replace BK := bb_ BK hb; replace HO := rb_ HO hb; replace HB := bs_ HB hb; clear hb hbox hg; have c40 : w2.cell? ⟨g4, 0, none⟩ = some (.slice A l.length c) := (blk_cell BK.out 0).trans rfl; obtain ⟨cf0, cf1, cf2, ff0, ff1, ff2⟩ := b3_ BF))
  have HCD := mk_ (Kd.R_reads' HO.out).2.2
  have HL4 := mk_ (blk_lt BK.out)
  have HLF := mk_ (blk_lt BF.out)
  go_region_held3 (fun w' => w'.cell? ⟨g4, 0, none⟩ = some (.slice A l.length c) ∧ w'.cell? ⟨gf, 0, none⟩ = some (.string f.f0)) (first | go_keep | exact ⟨(hb'.cell (p := ⟨g4, 0, none⟩) HL4.out).trans c40, (hb'.cell (p := ⟨gf, 0, none⟩) HLF.out).trans cf0⟩) (first | (go_at_call 44; refine (impl_fileAt.calls A c l f.f0 (-1) _ (by repeat (first | exact HCD.out | (with_reducible refine Kd.C_drewN ?_ _) | (with_reducible refine Kd.C_drew ?_))) HCC.out HFA.out).mono ?_; rintro e w5 ⟨rfl, hb'⟩))
  clear c40 cf0 cf1 cf2 ff0 ff1 ff2 HCD HL4 HLF
  replace BK := bb_ BK hb'
  replace BF := bb_ BF hb'
  replace HO := rb_ HO hb'
  replace HB := bs_ HB hb'
  clear hb'
  have c40 : w5.cell? ⟨g4, 0, none⟩ = some (.slice A l.length c) := (blk_cell BK.out 0).trans rfl
  obtain ⟨cf0, cf1, cf2, ff0, ff1, ff2⟩ := b3_ BF
  have HL4 := mk_ (blk_lt BK.out)
  have HLF := mk_ (blk_lt BF.out)
  have HX : Aside0 (∀ W, Below w5.heap.size w5 W → Calls Try.prog 78 #[.slice A l.length c, .func (.func 80) #[] #[.pointer (some ⟨gf, 0, none⟩)]] W fun e w' => e = .returned (.int .i64 zB) ∧ Below W.heap.size W w') := ⟨fun W hW => HZ.out ▸
   fileIndexFunc (putB f) 80 #[.pointer (some ⟨gf, 0, none⟩)] HE.out A c l W (Kd.C_below (Kd.R_reads' HO.out).2.2 hW) HCC.out (fun W' x hW' => impl_putFile.one x.f0 x.f1 x.f2 gf f.f0 W' (Nat.lt_of_lt_of_le (Nat.lt_of_lt_of_le HLF.out hW.size) hW'.size) ((hW'.cell (p := ⟨gf, 0, none⟩) (Nat.lt_of_lt_of_le HLF.out hW.size)).trans ((hW.cell (p := ⟨gf, 0, none⟩) HLF.out).trans cf0)))⟩
  go_wp2_with (first | (go_at_call 78; refine (HX.out _ (by repeat (first | exact Below.refl _ _ | (with_reducible apply pw_below_drewN) | (with_reducible apply below_drew)))).mono ?_; rintro e w6 ⟨rfl, hb'⟩; replace BK := bb_ BK hb'; replace BF := bb_ BF hb'; replace HO := rb_ HO hb'; replace HB := bs_ HB hb'; clear hb' HX c40 cf0 cf1 cf2 ff0 ff1 ff2 HL4 HLF; have c40 : w6.cell? ⟨g4, 0, none⟩ = some (.slice A l.length c) := (blk_cell BK.out 0).trans rfl; obtain ⟨cf0, cf1, cf2, ff0, ff1, ff2⟩ := b3_ BF))
  have HFR6 : Aside0 (∀ k, w6.heap.size ≤ k → ok k ∧ k ≠ g4) := ⟨fun k hk => ⟨HFR.out k (Nat.le_trans HB.out.size hk), fun e => by have := blk_lt BK.out; omega⟩⟩
  have HIN : Aside0 (∀ q : Nat, q ≤ l.length → Calls Try.prog 81 #[.slice A l.length c, .int .i64 q, .slice (some ⟨w6.heap.size, 0, none⟩) 1 1] (w6.drew.alloc (.cells #[.string f.f0, .string f.f1, .int .i64 f.f2] 76)) fun e w' => ∃ v', e = .returned v' ∧ k76.R 76 w' base (fun k => ok k ∧ k ≠ g4) v' (l.take q ++ f :: l.drop q) ∧ (w6.drew.alloc (.cells #[.string f.f0, .string f.f1, .int .i64 f.f2] 76)).grownBy w' (Value.slice A l.length c).ownBlock) := ⟨fun q hq =>
   (fileInsert base (fun k => ok k ∧ k ≠ g4) (.slice A l.length c) l f q w6.heap.size _ hq hl (Kd.R_alloc (Kd.R_drew HO.out) _) (Nat.le_trans hbs (Nat.le_trans HB.out.size (below_alloc (Below.refl w6.drew.heap.size w6.drew) _).size)) (fun k hk => HFR6.out k (Nat.le_trans (below_alloc (Below.refl w6.drew.heap.size w6.drew) _).size hk)) (blk_new w6.drew _) (fun e => by have := Kd.R_lt HO.out _ e.symm; omega)).mono (fun e w' ⟨v', h1, h2, h3, _⟩ => ⟨v', h1, h2, h3⟩)⟩
  have HG4O : Aside0 (some g4 ≠ (Value.slice A l.length c).ownBlock) := ⟨fun e => (HO.out.1 g4 e.symm).2 rfl⟩
  have hnf : g4 ≠ gf := HNF.out
  have hnf2 : gf ≠ g4 := Ne.symm HNF.out
  have c40a : ∀ o, (w6.alloc o).cell? ⟨g4, 0, none⟩ = some (.slice A l.length c) := fun o => pw_cell_below (below_alloc (Below.refl _ _) o) c40
  go_region_with (first | (go_at_call 81; refine (HIN.out _ (by first | exact HK.out | exact Nat.le_refl _)).mono ?_; rintro e w7 ⟨v', rfl, h1, h2⟩; obtain ⟨A7, n7, c7, e7⟩ : ∃ A n c, v' = Value.slice A n c := (let ⟨A, c, e⟩ := Kd.R_slice h1; ⟨A, _, c, e⟩); subst e7; have c47 : w7.cell? ⟨g4, 0, none⟩ = some (.slice A l.length c) := (blk_cell (blk_grown (blk_alloc (blk_drew BK.out) _) h2 HG4O.out) 0).trans rfl; have f47 := blk_frozen (blk_grown (blk_alloc (blk_drew BK.out) _) h2 HG4O.out) 0))
  all_goals
   go_end0
   have hB5 : Below base w w6 := ⟨HB.out.os, HB.out.tape, HB.out.output, HB.out.size, fun k hk => HB.out.block k (Nat.lt_of_lt_of_le hk hbs)⟩
   have hB6 : Below base w (w6.drew.alloc (.cells #[.string f.f0, .string f.f1, .int .i64 f.f2] 76)) := (below_drew hB5).alloc (Nat.le_trans hbs hB5.size) _
   have hB7 := pw_below_grown hB6 _ (Nat.le_trans hbs hB6.size) h2 (fun k e => Kd.R_base HO.out k e)
   exact ⟨rfl, _, blk_put (blk_grown (blk_alloc (blk_drew BK.out) _) h2 HG4O.out) 0 _ rfl, Kd.R_far (p := ⟨g4, 0, none⟩) h1 (fun _ hk => hk.2) _, hB7.setCell HG.out _, fun k hk hk4 hko => (Below.heap_setCell w7 ⟨g4, 0, none⟩ _ k hk4).trans ((h2.block k (Nat.lt_of_lt_of_le hk (Nat.le_trans HB.out.size (below_alloc (Below.refl w6.drew.heap.size w6.drew) _).size)) hko).trans ((Below.heap_alloc w6.drew _ k (Nat.lt_of_lt_of_le hk HB.out.size)).trans (HB.out.block k hk)))⟩
theorem impl_putFile.calls (base : Nat) (ok : Nat → Prop) (g4 : Nat) (v : Value) (l : List S76) (f : S76) (w : World) (hl : l.length < 3518437208000) (hB : w.heap[g4]? = some (.cells #[v] 31 (0, 0)))
  (h : k76.R 76 w base (fun k => ok k ∧ k ≠ g4) v l) (hbs : base ≤ w.heap.size) (hg4 : base ≤ g4) (hfresh : ∀ k, w.heap.size ≤ k → ok k) :
  Calls Try.prog 47 #[.pointer (some ⟨g4, 0, none⟩), .agg #[.string f.f0, .string f.f1, .int .i64 f.f2]] w fun e w' => e = .returned (.tuple #[]) ∧ ∃ v', w'.heap[g4]? = some (.cells #[v'] 31 (0, 0)) ∧ k76.R 76 w' base (fun k => ok k ∧ k ≠ g4) v' (putF l f) ∧ Below base w w' ∧ ∀ k, k < w.heap.size → k ≠ g4 → some k ≠ v.ownBlock → w'.heap[k]? = w.heap[k]? := by
 obtain ⟨A, c, rfl⟩ := Kd.R_slice h
 unfold putF
 rcases M.idxP_cases (putE f) l 0 with ⟨e, _⟩ | ⟨k, hk, e, _⟩
 rotate_left
 ·rw [if_pos (by omega)]
  exact impl_putFile.there base ok g4 A c l f w hl hB h hbs hg4 (by omega)
 rw [if_neg (by omega)]
 rcases M.idxP_cases (putB f) l 0 with ⟨e2, _⟩ | ⟨k2, hk2, e2, _⟩
 ·rw [if_pos (by omega)]
  exact impl_putFile.new_ base ok g4 A c l f w hl hB h hbs hg4 hfresh e l.length (Nat.le_refl _) _ e2 (.inl ⟨rfl, rfl⟩)
 ·rw [if_neg (by omega)]
  exact impl_putFile.new_ base ok g4 A c l f w hl hB h hbs hg4 hfresh e _ (by omega) _ rfl (.inr (by omega))

/-! ### impl_DoAct: function 13 -/
def impl_DoAct.at_ (l : List S76) (a1 : ByteArray) : Int := M.idxP (fun x : S76 => x.f0.toList == a1.toList) l 0
def impl_DoAct.go_ (l : List S76) (a0 : Int) (a1 a2 a3 : ByteArray) (t : Bool) : Bool := t && (decide (a0 = 3) || a3.toList == ([] : List UInt8)) && (decide (a0 = 1) || (a2.toList == ([] : List UInt8) && decide (0 ≤ impl_DoAct.at_ l a1)))
def impl_DoAct.add_ (l : List S76) (a1 a2 : ByteArray) : S76 := if 0 ≤ impl_DoAct.at_ l a1 then ⟨(rd_T76 l (impl_DoAct.at_ l a1)).f0, (rd_T76 l (impl_DoAct.at_ l a1)).f1 ++ a2, (rd_T76 l (impl_DoAct.at_ l a1)).f2⟩ else ⟨a1, (⟨#[]⟩ : ByteArray) ++ a2, 0⟩
def impl_DoAct.out (l : List S76) (a0 : Int) (a1 a2 a3 : ByteArray) : Option (List S76) :=
 if a0 = 1 then some (putF l (impl_DoAct.add_ l a1 a2))
 else if a0 = 2 then some (l.set (impl_DoAct.at_ l a1).toNat ⟨(rd_T76 l (impl_DoAct.at_ l a1)).f0, (rd_T76 l (impl_DoAct.at_ l a1)).f1, ((rd_T76 l (impl_DoAct.at_ l a1)).f1.size : Int)⟩)
 else if a0 = 3 then (if a3.toList = a1.toList then none else if (rd_T76 l (impl_DoAct.at_ l a1)).f2 = ((rd_T76 l (impl_DoAct.at_ l a1)).f1.size : Int) then some (putF (l.take (impl_DoAct.at_ l a1).toNat ++ l.drop ((impl_DoAct.at_ l a1).toNat + 1)) ⟨a3, (rd_T76 l (impl_DoAct.at_ l a1)).f1, (rd_T76 l (impl_DoAct.at_ l a1)).f2⟩) else none)
 else if a0 = 4 then some (l.take (impl_DoAct.at_ l a1).toNat ++ l.drop ((impl_DoAct.at_ l a1).toNat + 1))
 else none
def impl_DoAct.end_ (k : Nat) : Option (List S76) → Option (List S76 × Bool)
 | none => some ([], false)
 | some o => (impl_DiskOk.f k o).bind fun t => if t = true then some (o, true) else some ([], false)
def impl_DoAct.f (k : Nat) (l0_0 : List S76) (a1_0 : Int) (a1_1 a1_2 a1_3 : ByteArray) : Option (List S76 × Bool) :=
 (impl_DiskOk.f k l0_0).bind fun t => if impl_DoAct.go_ l0_0 a1_0 a1_1 a1_2 a1_3 t = true then (if l0_0.length < 3518437208000 ∧ (impl_DoAct.add_ l0_0 a1_1 a1_2).f1.size ≤ 9223372036854775807 then impl_DoAct.end_ k (impl_DoAct.out l0_0 a1_0 a1_1 a1_2 a1_3) else none) else some ([], false)
theorem impl_DoAct.mono : ∀ a0 a1 a2 a3 a4 k, LeO (impl_DoAct.f k a0 a1 a2 a3 a4) (impl_DoAct.f (k + 1) a0 a1 a2 a3 a4) := fun a0 a1 a2 a3 a4 k => LeO.bind (impl_DiskOk.mono a0 k) (fun t => by
 split
 ·split
  ·cases impl_DoAct.out a0 a1 a2 a3 a4 with
   | none => exact LeO.refl _
   | some o => exact LeO.bind (impl_DiskOk.mono o k) (fun _ => LeO.refl _)
  ·exact LeO.none _
 ·exact LeO.refl _)
set_option maxHeartbeats 8000000 in
set_option maxRecDepth 100000 in
theorem impl_DoAct.not_ (k : Nat) (A0_0 : Option Addr) (c0_0 : Nat) (l0_0 : List S76) (a0 : Int) (a1 a2 a3 : ByteArray) (w : World) (hr0_0 : Kd.C k76 w A0_0 l0_0.length l0_0) (hc0_0 : l0_0.length ≤ c0_0) (i : Int) (hi : impl_fileAt.f l0_0 a1 = some i) (t : Bool) (ht : impl_DiskOk.f k l0_0 = some t)
  (hn : t = false ∨ (t = true ∧ a0 ≠ 3 ∧ (a3.toList == ([] : List UInt8)) = false) ∨ (t = true ∧ a0 = 3 ∧ (a2.toList == ([] : List UInt8)) = false) ∨ (t = true ∧ a0 = 3 ∧ (a2.toList == ([] : List UInt8)) = true ∧ i < 0) ∨ (t = true ∧ a0 ≠ 3 ∧ (a3.toList == ([] : List UInt8)) = true ∧ a0 ≠ 1 ∧ (a2.toList == ([] : List UInt8)) = false) ∨ (t = true ∧ a0 ≠ 3 ∧ (a3.toList == ([] : List UInt8)) = true ∧ a0 ≠ 1 ∧ (a2.toList == ([] : List UInt8)) = true ∧ i < 0)) :
  Calls Try.prog 13 #[.agg #[.slice A0_0 l0_0.length c0_0], .agg #[.int .i64 a0, .string a1, .string a2, .string a3]] w fun e w' => ∃ v0_ : Value, e = .returned (.tuple #[.agg #[v0_], .bool false]) ∧ Kd.R k76 76 w' w.heap.size (fun _ => True) v0_ [] ∧ Below w.heap.size w w' := by
 have hu31 := Try.underlying31
 have hu35 := Try.underlying35
 have hu76 := Try.underlying76
 have HR := Aside0.mk hr0_0
 have HC := Aside0.mk hc0_0
 have HI := Aside0.mk hi
 have HT := Aside0.mk ht
 clear hr0_0 hc0_0 hi ht
 have HB := mk_ (Below.refl w.heap.size w)
 rcases hn with rfl | ⟨rfl, h1, h2⟩ | ⟨rfl, rfl, h2⟩ | ⟨rfl, rfl, h2, h3⟩ | ⟨rfl, h1, h2, h3, h4⟩ | ⟨rfl, h1, h2, h3, h4, h5⟩
 rotate_left 5
 all_goals
  go_enter Try.func13, Try.ntmps13
  go_wp2_with (first
   | ((with_reducible refine gate_dst (N := 2) rfl ?_); refine bx_ (N := 2) (cs := #[.slice A0_0 l0_0.length c0_0]) (t := 31) ?_; intro gd hg w1 hbox hb; have BD := Aside0.mk hbox; replace HB := bs_ HB hb; clear hb hbox hg)
   | ((with_reducible refine gate_dst (N := 3) rfl ?_); refine bx_ (N := 3) (cs := #[.int .i64 a0, .string a1, .string a2, .string a3]) (t := 35) ?_; intro ga hg w2 hbox hb; have BA := Aside0.mk hbox; replace BD := bb_ BD hb; replace HB := bs_ HB hb; clear hb hbox hg)
   | ((with_reducible refine gate_dst (N := 3) rfl ?_); refine bx_ (N := 3) (cs := #[.int .i64 3, .string a1, .string a2, .string a3]) (t := 35) ?_; intro ga hg w2 hbox hb; have BA := Aside0.mk hbox; replace BD := bb_ BD hb; replace HB := bs_ HB hb; clear hb hbox hg)
   | ((with_reducible refine gate_dst (N := 4) rfl ?_); refine bx_ (N := 4) (cs := #[.slice none 0 0]) (t := 31) ?_; intro gr hg w3 hbox hb; have BR := Aside0.mk hbox; have GR : Aside0 (w.heap.size ≤ gr) := bz_ hg; have ND : Aside0 (gd ≠ gr) := bl_ BD hg; have NA : Aside0 (ga ≠ gr) := bl_ BA hg; replace BD := bb_ BD hb; replace BA := bb_ BA hb; replace HB := bs_ HB hb; clear hb hbox hg; obtain ⟨cd0, fd0⟩ := b1_ BD; obtain ⟨ca0, ca1, ca2, ca3, fa0, fa1, fa2, fa3⟩ := b4_ BA)
   | (go_at_call 44; (with_reducible refine (impl_fileAt.calls _ _ l0_0 a1 i _ (Kd.C_below HR.out (bw_ HB)) HC.out HI.out).mono ?_); rintro e w4 ⟨rfl, hb⟩; replace BD := bb_ BD hb; replace BA := bb_ BA hb; replace BR := bb_ BR hb; replace HB := bs_ HB hb; clear hb cd0 fd0 ca0 ca1 ca2 ca3 fa0 fa1 fa2 fa3; obtain ⟨cd0, fd0⟩ := b1_ BD; obtain ⟨ca0, ca1, ca2, ca3, fa0, fa1, fa2, fa3⟩ := b4_ BA; obtain ⟨cr0, fr0⟩ := b1_ BR)
   | (go_at_call 45; (with_reducible refine (impl_DiskOk.calls k _ _ l0_0 _ _ (Kd.C_below HR.out HB.out) HC.out HT.out).mono ?_); rintro e w5 ⟨rfl, hb⟩; replace BD := bb_ BD hb; replace BA := bb_ BA hb; replace BR := bb_ BR hb; replace HB := bs_ HB hb; clear hb cd0 fd0 ca0 ca1 ca2 ca3 fa0 fa1 fa2 fa3 cr0 fr0; obtain ⟨cd0, fd0⟩ := b1_ BD; obtain ⟨ca0, ca1, ca2, ca3, fa0, fa1, fa2, fa3⟩ := b4_ BA; obtain ⟨cr0, fr0⟩ := b1_ BR))
  refine bodyPost_ret (results_ct rfl _ _ gr 31 #[.slice none 0 0] (0, 0) _ rfl (by simpa using blk_set BR.out 0 (.slice none 0 0)) Try.underlying31 rfl (by kernel_rfl)) rfl ?_
  exact ⟨_, rfl, Kd.R_nil _ _ _ _ _, below_set HB.out GR.out⟩
theorem rm_ {α : Type} {d : Kd α} {e : Nat} {w W : World} {base g : Nat} {ok : Nat → Prop} {v : Value} {xs : List α} (h : d.R e w base (fun k => ok k ∧ k ≠ g) v xs)
  (hW : ∀ k, k ≠ g → W.heap[k]? = w.heap[k]? := by intro k_ hk_; repeat (first | (with_reducible exact rfl) | refine (Below.heap_setCell _ _ _ _ hk_).trans ?_)) : d.R e W base ok v xs := Kd.R_mono (Kd.R_move h (fun k hk => hW k hk.2)) (fun _ hk => hk.1)
theorem rk_ {α : Type} {d : Kd α} {e : Nat} {w W : World} {base g : Nat} {ok : Nat → Prop} {v : Value} {xs : List α} (h : d.R e w base (fun k => ok k ∧ k ≠ g) v xs)
  (hW : ∀ k, k ≠ g → W.heap[k]? = w.heap[k]? := by intro k_ hk_; repeat (first | (with_reducible exact rfl) | refine (Below.heap_setCell _ _ _ _ hk_).trans ?_)) : d.R e W base (fun k => ok k ∧ k ≠ g) v xs := Kd.R_move h (fun k hk => hW k hk.2)
theorem abs_ {P : Program} {ops : Array Oper} {rest : List Oper} {a : Act} {Q : Exit → Act → World → Prop} {W : World} (F : World → Prop) (hF : F W) (h : ∀ W', F W' → wpList P ops Q rest a W') : wpList P ops Q rest a W := h W hF

set_option maxHeartbeats 8000000 in
set_option maxRecDepth 100000 in
theorem impl_DoAct.add_new (k : Nat) (A0_0 : Option Addr) (c0_0 : Nat) (l0_0 : List S76) (a1 a2 a3 : ByteArray) (w : World) (hr0_0 : Kd.C k76 w A0_0 l0_0.length l0_0) (hc0_0 : l0_0.length ≤ c0_0) (hi : impl_fileAt.f l0_0 a1 = some (-1)) (ht : impl_DiskOk.f k l0_0 = some true) (h3 : (a3.toList == ([] : List UInt8)) = true)
  (hl : l0_0.length < 3518437208000) (hz : ((⟨#[]⟩ : ByteArray) ++ a2).size ≤ 9223372036854775807) (o : List S76) (ho : putF l0_0 ⟨a1, (⟨#[]⟩ : ByteArray) ++ a2, 0⟩ = o) (t2 : Bool) (ht2 : impl_DiskOk.f k o = some t2) :
  Calls Try.prog 13 #[.agg #[.slice A0_0 l0_0.length c0_0], .agg #[.int .i64 1, .string a1, .string a2, .string a3]] w fun e w' => ∃ v0_ : Value, e = .returned (.tuple #[.agg #[v0_], .bool t2]) ∧ Kd.R k76 76 w' w.heap.size (fun _ => True) v0_ (if t2 = true then o else []) ∧ Below w.heap.size w w' := by
 have hu29 := Try.underlying29
 have hu31 := Try.underlying31
 have hu35 := Try.underlying35
 have hu76 := Try.underlying76
 have HR := Aside0.mk hr0_0
 have HC := Aside0.mk hc0_0
 have HI := Aside0.mk hi
 have HT := Aside0.mk ht
 have HL := Aside0.mk hl
 have HO2 := Aside0.mk ho
 have HT2 := Aside0.mk ht2
 have HCP : Aside0 (impl_copyDisk.f l0_0 = some l0_0) := mk_ (by unfold impl_copyDisk.f; rw [if_pos (by simp; omega)]; rfl)
 clear hr0_0 hc0_0 hi ht ho ht2 hl
 have HB := mk_ (Below.refl w.heap.size w)
 rw [ByteArray.size_append] at hz
 have hz' : (9223372036854775807 < (⟨#[]⟩ : ByteArray).size + a2.size) = False := eq_false (Nat.not_lt.2 hz)
 have hz2 : (9223372036854775807 < a2.size) = False := eq_false (Nat.not_lt.2 (Nat.le_trans (Nat.le_add_left _ _) hz))
 have HZ := Aside0.mk hz
 clear hz
 cases t2
 all_goals
  go_enter Try.func13, Try.ntmps13
  go_wp2_with (first
   | ((with_reducible refine gate_dst (N := 2) rfl ?_); refine bx_ (N := 2) (cs := #[.slice A0_0 l0_0.length c0_0]) (t := 31) ?_; intro gd hg w1 hbox hb; have BD := Aside0.mk hbox; replace HB := bs_ HB hb; clear hb hbox hg)
   | ((with_reducible refine gate_dst (N := 3) rfl ?_); refine bx_ (N := 3) (cs := #[.int .i64 1, .string a1, .string a2, .string a3]) (t := 35) ?_; intro ga hg w2 hbox hb; have BA := Aside0.mk hbox; replace BD := bb_ BD hb; replace HB := bs_ HB hb; clear hb hbox hg)
   | ((with_reducible refine gate_dst (N := 4) rfl ?_); refine bx_ (N := 4) (cs := #[.slice none 0 0]) (t := 31) ?_; intro gr hg w3 hbox hb; have BR := Aside0.mk hbox; have GR : Aside0 (w.heap.size ≤ gr) := bz_ hg; have ND : Aside0 (gd ≠ gr) := bl_ BD hg; have NA : Aside0 (ga ≠ gr) := bl_ BA hg; replace BD := bb_ BD hb; replace BA := bb_ BA hb; replace HB := bs_ HB hb; clear hb hbox hg; obtain ⟨cd0, fd0⟩ := b1_ BD; obtain ⟨ca0, ca1, ca2, ca3, fa0, fa1, fa2, fa3⟩ := b4_ BA)
   | (go_at_call 44; (with_reducible refine (impl_fileAt.calls _ _ l0_0 a1 _ _ (Kd.C_below HR.out (bw_ HB)) HC.out HI.out).mono ?_); rintro e w4 ⟨rfl, hb⟩; replace BD := bb_ BD hb; replace BA := bb_ BA hb; replace BR := bb_ BR hb; replace HB := bs_ HB hb; clear hb cd0 fd0 ca0 ca1 ca2 ca3 fa0 fa1 fa2 fa3; obtain ⟨cd0, fd0⟩ := b1_ BD; obtain ⟨ca0, ca1, ca2, ca3, fa0, fa1, fa2, fa3⟩ := b4_ BA; obtain ⟨cr0, fr0⟩ := b1_ BR)
   | (go_at_call 45; (with_reducible refine (impl_DiskOk.calls k _ _ l0_0 _ _ (Kd.C_below HR.out HB.out) HC.out HT.out).mono ?_); rintro e w5 ⟨rfl, hb⟩; replace BD := bb_ BD hb; replace BA := bb_ BA hb; replace BR := bb_ BR hb; replace HB := bs_ HB hb; clear hb cd0 fd0 ca0 ca1 ca2 ca3 fa0 fa1 fa2 fa3 cr0 fr0; obtain ⟨cd0, fd0⟩ := b1_ BD; obtain ⟨ca0, ca1, ca2, ca3, fa0, fa1, fa2, fa3⟩ := b4_ BA; obtain ⟨cr0, fr0⟩ := b1_ BR)
   | (go_at_call 46; (with_reducible refine (impl_copyDisk.calls _ _ l0_0 l0_0 _ (Kd.C_below HR.out (bw_ HB)) HC.out HCP.out).mono ?_); rintro e w6 ⟨v0, rfl, ho0, hb⟩; have HO := mk_ (Kd.R_lower ho0 (below_size (bw_ HB))); obtain ⟨Ao, co_, eo⟩ := Kd.R_slice HO.out; subst eo; replace BD := bb_ BD hb; replace BA := bb_ BA hb; replace BR := bb_ BR hb; replace HB := bs_ HB hb; clear hb ho0 cd0 fd0 ca0 ca1 ca2 ca3 fa0 fa1 fa2 fa3 cr0 fr0; obtain ⟨cd0, fd0⟩ := b1_ BD; obtain ⟨ca0, ca1, ca2, ca3, fa0, fa1, fa2, fa3⟩ := b4_ BA; obtain ⟨cr0, fr0⟩ := b1_ BR)
   | ((with_reducible refine gate_dst (N := 7) rfl ?_); refine bx_ (N := 7) (cs := #[.slice none 0 0]) (t := 31) ?_; intro gO hg w7 hbox hb; have BO := Aside0.mk hbox; have GO : Aside0 (w.heap.size ≤ gO) := bz_ hg; have NDO := bl_ BD hg; have NAO := bl_ BA hg; have NRO := bl_ BR hg; have NOR := bg_ BR hg; replace BD := bb_ BD hb; replace BA := bb_ BA hb; replace BR := bb_ BR hb; replace HO := rb_ HO hb; replace HB := bs_ HB hb; clear hb hbox hg cd0 fd0 ca0 ca1 ca2 ca3 fa0 fa1 fa2 fa3 cr0 fr0; obtain ⟨cd0, fd0⟩ := b1_ BD; obtain ⟨ca0, ca1, ca2, ca3, fa0, fa1, fa2, fa3⟩ := b4_ BA; obtain ⟨cr0, fr0⟩ := b1_ BR; obtain ⟨co0, fo0⟩ := b1_ BO; have hn1 := NDO.out; have hn2 := NAO.out; have hn3 := NRO.out; have hn4 := NOR.out; have hn5 := Ne.symm NDO.out; have hn6 := Ne.symm NAO.out)
   | ((with_reducible refine gate_dst (N := 8) rfl ?_); refine bx_ (N := 8) (cs := #[.string ⟨#[]⟩, .string ⟨#[]⟩, .int .i64 0]) (t := 76) ?_; intro gf hg w8 hbox hb; have BF := Aside0.mk hbox; have BO1 : Aside0 ((w7.setCell ⟨gO, 0, none⟩ (.slice Ao l0_0.length co_)).heap[gO]? = some (.cells #[(.slice Ao l0_0.length co_)] 31 (0, 0))) := ⟨bu_⟩; have NDF := bl_ BD hg bf_; have NAF := bl_ BA hg bf_; have NRF := bl_ BR hg bf_; have NOF := bl_ BO1 hg; have HO1 := Kd.R_set HO.out BO.out (by decide) 0 (.slice Ao l0_0.length co_); replace HO : Aside0 (k76.R 76 w8 w.heap.size (fun k => (True ∧ k ≠ gO) ∧ k ≠ gf) (.slice Ao l0_0.length co_) l0_0) := ⟨Kd.R_below (Kd.R_mono (Kd.R_bound (Kd.R_types HO1 BO1.out (by decide))) (fun k hk => ⟨hk.1, by have := hk.2.2.1; omega⟩)) hb⟩; replace BD := mk_ (blk_below (g := gd) (o := .cells #[.slice A0_0 l0_0.length c0_0] 31 (0, 0)) bf_ hb); replace BA := mk_ (blk_below (g := ga) (o := .cells #[.int .i64 1, .string a1, .string a2, .string a3] 35 (0, 0)) bf_ hb); replace BR := mk_ (blk_below (g := gr) (o := .cells #[.slice none 0 0] 31 (0, 0)) bf_ hb); replace BO := mk_ (blk_below BO1.out hb); have GF : Aside0 (w.heap.size ≤ gf) := bz_ hg; replace HB := bs_ HB hb; clear hb hbox hg HO1 BO1 cd0 fd0 ca0 ca1 ca2 ca3 fa0 fa1 fa2 fa3 cr0 fr0 co0 fo0; obtain ⟨cd0, fd0⟩ := b1_ BD; obtain ⟨ca0, ca1, ca2, ca3, fa0, fa1, fa2, fa3⟩ := b4_ BA; obtain ⟨cr0, fr0⟩ := b1_ BR; obtain ⟨co0, fo0⟩ := b1_ BO; obtain ⟨cf0, cf1, cf2, ff0, ff1, ff2⟩ := b3_ BF; have hm1 := NDF.out; have hm2 := NAF.out; have hm3 := NRF.out; have hm4 := NOF.out; have hm5 := Ne.symm NDF.out; have hm6 := Ne.symm NAF.out; have hm7 := Ne.symm NRF.out; have hm8 := Ne.symm NOF.out)
   | ((with_reducible refine gate_dst (N := 65) rfl ?_); refine abs_ (fun W => W.heap[gf]? = some (.cells #[.string a1, .string ((⟨#[]⟩ : ByteArray) ++ a2), .int .i64 0] 76 (0, 0)) ∧ W.heap[gO]? = some (.cells #[(.slice Ao l0_0.length co_)] 31 (0, 0)) ∧ W.heap[gr]? = some (.cells #[.slice none 0 0] 31 (0, 0)) ∧ W.heap[gd]? = some (.cells #[.slice A0_0 l0_0.length c0_0] 31 (0, 0)) ∧ W.heap[ga]? = some (.cells #[.int .i64 1, .string a1, .string a2, .string a3] 35 (0, 0)) ∧ k76.R 76 W w.heap.size (fun k => (True ∧ k ≠ gO) ∧ k ≠ gf) (.slice Ao l0_0.length co_) l0_0 ∧ Below w.heap.size w W) ⟨bu_, bf_, bf_, bf_, bf_, rk_ HO.out, bw_ HB⟩ ?_; clear HO HB BF BO BR BD BA cd0 fd0 ca0 ca1 ca2 ca3 fa0 fa1 fa2 fa3 cr0 fr0 co0 fo0 cf0 cf1 cf2 ff0 ff1 ff2; intro wc ⟨qf, qo, qr, qd, qa, qh, qb⟩; have BF := Aside0.mk qf; have BO := Aside0.mk qo; have BR := Aside0.mk qr; have BD := Aside0.mk qd; have BA := Aside0.mk qa; have HO := Aside0.mk qh; have HB := Aside0.mk qb; clear qf qo qr qd qa qh qb; obtain ⟨cd0, fd0⟩ := b1_ BD; obtain ⟨ca0, ca1, ca2, ca3, fa0, fa1, fa2, fa3⟩ := b4_ BA; obtain ⟨cr0, fr0⟩ := b1_ BR; obtain ⟨co0, fo0⟩ := b1_ BO; obtain ⟨cf0, cf1, cf2, ff0, ff1, ff2⟩ := b3_ BF; refine Kd.event_run (v := .agg #[.string a1, .string ((⟨#[]⟩ : ByteArray) ++ a2), .int .i64 0]) rfl (by first | (go_simp; done) | (go_simp; rfl)) ?_)
   | (go_at_call 47; (with_reducible refine (impl_putFile.calls w.heap.size (fun _ => True) gO (.slice Ao l0_0.length co_) l0_0 ⟨a1, (⟨#[]⟩ : ByteArray) ++ a2, 0⟩ _ HL.out ?b1 ?b2 ?b3 GO.out (fun _ _ => trivial)).mono ?_); (case b1 => exact bf_); (case b2 => exact rm_ HO.out); (case b3 => exact below_size (bw_ HB)); rintro e w9 ⟨rfl, v9, hbk, hr, hb, hkp⟩; have BR9 := hkp gr (blk_lt (o := .cells #[.slice none 0 0] 31 (0, 0)) bf_) NRO.out (Kd.R_ne HO.out BR.out (by decide)); replace BR := mk_ (BR9.trans bf_); replace HB := mk_ ((bw_ HB).trans hb); rw [HO2.out] at hr; obtain ⟨A9, c9, e9⟩ := Kd.R_slice hr; subst e9; have HO9 := Aside0.mk hr; replace BO := Aside0.mk hbk; clear hbk hr hb hkp BR9 cd0 fd0 ca0 ca1 ca2 ca3 fa0 fa1 fa2 fa3 cr0 fr0 co0 fo0 cf0 cf1 cf2 ff0 ff1 ff2; obtain ⟨co0, fo0⟩ := b1_ BO; obtain ⟨cr0, fr0⟩ := b1_ BR)
   | (go_at_call 45; (with_reducible refine (impl_DiskOk.calls k _ _ o _ _ (Kd.R_reads' HO9.out).2.2 (Kd.R_reads' HO9.out).2.1 HT2.out).mono ?_); rintro e w10 ⟨rfl, hb⟩; replace BO := bb_ BO hb; replace BR := bb_ BR hb; replace HO9 := rb_ HO9 hb; replace HB := bs_ HB hb; clear hb co0 fo0 cr0 fr0; obtain ⟨co0, fo0⟩ := b1_ BO; obtain ⟨cr0, fr0⟩ := b1_ BR))
  first
   | (refine bodyPost_ret (results_ct rfl _ _ gr 31 #[.slice none 0 0] (0, 0) _ rfl (by simpa using blk_set BR.out 0 (.slice none 0 0)) Try.underlying31 rfl (by kernel_rfl)) rfl ?_; exact ⟨_, rfl, Kd.R_nil _ _ _ _ _, below_set HB.out GR.out⟩)
   | (refine bodyPost_ret (results_ct rfl _ _ gr 31 #[.slice A9 o.length c9] (0, 0) _ rfl (by simpa using blk_set BR.out 0 (.slice A9 o.length c9)) Try.underlying31 rfl (by kernel_rfl)) rfl ?_; exact ⟨_, rfl, Kd.R_mono (Kd.R_set HO9.out BR.out (by decide) 0 _) (fun _ _ => trivial), below_set HB.out GR.out⟩)
set_option maxHeartbeats 8000000 in
set_option maxRecDepth 100000 in
theorem impl_DoAct.add_old (k : Nat) (A0_0 : Option Addr) (c0_0 : Nat) (l0_0 : List S76) (a1 a2 a3 : ByteArray) (w : World) (hr0_0 : Kd.C k76 w A0_0 l0_0.length l0_0) (hc0_0 : l0_0.length ≤ c0_0) (kk : Nat) (hk : kk < l0_0.length) (hi : impl_fileAt.f l0_0 a1 = some (kk : Int)) (ht : impl_DiskOk.f k l0_0 = some true) (h3 : (a3.toList == ([] : List UInt8)) = true)
  (hl : l0_0.length < 3518437208000) (hz : ((rd_T76 l0_0 (kk : Int)).f1 ++ a2).size ≤ 9223372036854775807) (o : List S76) (ho : putF l0_0 ⟨(rd_T76 l0_0 (kk : Int)).f0, (rd_T76 l0_0 (kk : Int)).f1 ++ a2, (rd_T76 l0_0 (kk : Int)).f2⟩ = o) (t2 : Bool) (ht2 : impl_DiskOk.f k o = some t2) :
  Calls Try.prog 13 #[.agg #[.slice A0_0 l0_0.length c0_0], .agg #[.int .i64 1, .string a1, .string a2, .string a3]] w fun e w' => ∃ v0_ : Value, e = .returned (.tuple #[.agg #[v0_], .bool t2]) ∧ Kd.R k76 76 w' w.heap.size (fun _ => True) v0_ (if t2 = true then o else []) ∧ Below w.heap.size w w' := by
 have hu29 := Try.underlying29
 have hu31 := Try.underlying31
 have hu35 := Try.underlying35
 have hu76 := Try.underlying76
 obtain ⟨ad, e0, hx0, hx1, hx2⟩ := at_T76 hr0_0 (kk : Int) (by omega) (by omega)
 cases e0
 simp only [Int.toNat_natCast] at hx0 hx1 hx2
 have hblk := World.block_lt_of_cell? _ _ hx0
 rw [add_block] at hblk
 have HBL := Aside0.mk hblk
 have HR := Aside0.mk hr0_0
 have HC := Aside0.mk hc0_0
 have HI := Aside0.mk hi
 have HT := Aside0.mk ht
 have HL := Aside0.mk hl
 have HO2 := Aside0.mk ho
 have HT2 := Aside0.mk ht2
 have HCP : Aside0 (impl_copyDisk.f l0_0 = some l0_0) := mk_ (by unfold impl_copyDisk.f; rw [if_pos (by simp; omega)]; rfl)
 clear hr0_0 hc0_0 hi ht ho ht2 hl hblk
 generalize rd_T76 l0_0 (kk : Int) = x at *
 have HB := mk_ (Below.refl w.heap.size w)
 have hkz : (0 : Int) ≤ (kk : Int) := Int.natCast_nonneg kk
 have hkn : ¬ ((kk : Int) < 0) := by omega
 have hkl : (kk : Int) < (l0_0.length : Int) := by omega
 rw [ByteArray.size_append] at hz
 have hz' : (9223372036854775807 < x.f1.size + a2.size) = False := eq_false (Nat.not_lt.2 hz)
 have HZ := Aside0.mk hz
 clear hz
 cases t2
 all_goals
  go_enter Try.func13, Try.ntmps13
  go_wp2_with (first
   | ((with_reducible refine gate_dst (N := 2) rfl ?_); refine bx_ (N := 2) (cs := #[.slice (some ad) l0_0.length c0_0]) (t := 31) ?_; intro gd hg w1 hbox hb; have BD := Aside0.mk hbox; replace HB := bs_ HB hb; clear hb hbox hg)
   | ((with_reducible refine gate_dst (N := 3) rfl ?_); refine bx_ (N := 3) (cs := #[.int .i64 1, .string a1, .string a2, .string a3]) (t := 35) ?_; intro ga hg w2 hbox hb; have BA := Aside0.mk hbox; replace BD := bb_ BD hb; replace HB := bs_ HB hb; clear hb hbox hg)
   | ((with_reducible refine gate_dst (N := 4) rfl ?_); refine bx_ (N := 4) (cs := #[.slice none 0 0]) (t := 31) ?_; intro gr hg w3 hbox hb; have BR := Aside0.mk hbox; have GR : Aside0 (w.heap.size ≤ gr) := bz_ hg; have ND : Aside0 (gd ≠ gr) := bl_ BD hg; have NA : Aside0 (ga ≠ gr) := bl_ BA hg; replace BD := bb_ BD hb; replace BA := bb_ BA hb; replace HB := bs_ HB hb; clear hb hbox hg; obtain ⟨cd0, fd0⟩ := b1_ BD; obtain ⟨ca0, ca1, ca2, ca3, fa0, fa1, fa2, fa3⟩ := b4_ BA)
   | (go_at_call 44; (with_reducible refine (impl_fileAt.calls _ _ l0_0 a1 _ _ (Kd.C_below HR.out (bw_ HB)) HC.out HI.out).mono ?_); rintro e w4 ⟨rfl, hb⟩; replace BD := bb_ BD hb; replace BA := bb_ BA hb; replace BR := bb_ BR hb; replace HB := bs_ HB hb; clear hb cd0 fd0 ca0 ca1 ca2 ca3 fa0 fa1 fa2 fa3; obtain ⟨cd0, fd0⟩ := b1_ BD; obtain ⟨ca0, ca1, ca2, ca3, fa0, fa1, fa2, fa3⟩ := b4_ BA; obtain ⟨cr0, fr0⟩ := b1_ BR)
   | (go_at_call 45; (with_reducible refine (impl_DiskOk.calls k _ _ l0_0 _ _ (Kd.C_below HR.out HB.out) HC.out HT.out).mono ?_); rintro e w5 ⟨rfl, hb⟩; replace BD := bb_ BD hb; replace BA := bb_ BA hb; replace BR := bb_ BR hb; replace HB := bs_ HB hb; clear hb cd0 fd0 ca0 ca1 ca2 ca3 fa0 fa1 fa2 fa3 cr0 fr0; obtain ⟨cd0, fd0⟩ := b1_ BD; obtain ⟨ca0, ca1, ca2, ca3, fa0, fa1, fa2, fa3⟩ := b4_ BA; obtain ⟨cr0, fr0⟩ := b1_ BR)
   | (go_at_call 46; (with_reducible refine (impl_copyDisk.calls _ _ l0_0 l0_0 _ (Kd.C_below HR.out (bw_ HB)) HC.out HCP.out).mono ?_); rintro e w6 ⟨v0, rfl, ho0, hb⟩; have HO := mk_ (Kd.R_lower ho0 (below_size (bw_ HB))); obtain ⟨Ao, co_, eo⟩ := Kd.R_slice HO.out; subst eo; replace BD := bb_ BD hb; replace BA := bb_ BA hb; replace BR := bb_ BR hb; replace HB := bs_ HB hb; clear hb ho0 cd0 fd0 ca0 ca1 ca2 ca3 fa0 fa1 fa2 fa3 cr0 fr0; obtain ⟨cd0, fd0⟩ := b1_ BD; obtain ⟨ca0, ca1, ca2, ca3, fa0, fa1, fa2, fa3⟩ := b4_ BA; obtain ⟨cr0, fr0⟩ := b1_ BR)
   | ((with_reducible refine gate_dst (N := 7) rfl ?_); refine bx_ (N := 7) (cs := #[.slice none 0 0]) (t := 31) ?_; intro gO hg w7 hbox hb; have BO := Aside0.mk hbox; have GO : Aside0 (w.heap.size ≤ gO) := bz_ hg; have NDO := bl_ BD hg; have NAO := bl_ BA hg; have NRO := bl_ BR hg; have NOR := bg_ BR hg; replace BD := bb_ BD hb; replace BA := bb_ BA hb; replace BR := bb_ BR hb; replace HO := rb_ HO hb; replace HB := bs_ HB hb; clear hb hbox hg cd0 fd0 ca0 ca1 ca2 ca3 fa0 fa1 fa2 fa3 cr0 fr0; obtain ⟨cd0, fd0⟩ := b1_ BD; obtain ⟨ca0, ca1, ca2, ca3, fa0, fa1, fa2, fa3⟩ := b4_ BA; obtain ⟨cr0, fr0⟩ := b1_ BR; obtain ⟨co0, fo0⟩ := b1_ BO; have hn1 := NDO.out; have hn2 := NAO.out; have hn3 := NRO.out; have hn4 := NOR.out; have hn5 := Ne.symm NDO.out; have hn6 := Ne.symm NAO.out)
   | ((with_reducible refine gate_dst (N := 8) rfl ?_); refine bx_ (N := 8) (cs := #[.string ⟨#[]⟩, .string ⟨#[]⟩, .int .i64 0]) (t := 76) ?_; intro gf hg w8 hbox hb; have BF := Aside0.mk hbox; have BO1 : Aside0 ((w7.setCell ⟨gO, 0, none⟩ (.slice Ao l0_0.length co_)).heap[gO]? = some (.cells #[(.slice Ao l0_0.length co_)] 31 (0, 0))) := ⟨bu_⟩; have NDF := bl_ BD hg bf_; have NAF := bl_ BA hg bf_; have NRF := bl_ BR hg bf_; have NOF := bl_ BO1 hg; have HO1 := Kd.R_set HO.out BO.out (by decide) 0 (.slice Ao l0_0.length co_); replace HO : Aside0 (k76.R 76 w8 w.heap.size (fun k => (True ∧ k ≠ gO) ∧ k ≠ gf) (.slice Ao l0_0.length co_) l0_0) := ⟨Kd.R_below (Kd.R_mono (Kd.R_bound (Kd.R_types HO1 BO1.out (by decide))) (fun k hk => ⟨hk.1, by have := hk.2.2.1; omega⟩)) hb⟩; replace BD := mk_ (blk_below (g := gd) (o := .cells #[.slice (some ad) l0_0.length c0_0] 31 (0, 0)) bf_ hb); replace BA := mk_ (blk_below (g := ga) (o := .cells #[.int .i64 1, .string a1, .string a2, .string a3] 35 (0, 0)) bf_ hb); replace BR := mk_ (blk_below (g := gr) (o := .cells #[.slice none 0 0] 31 (0, 0)) bf_ hb); replace BO := mk_ (blk_below BO1.out hb); have GF : Aside0 (w.heap.size ≤ gf) := bz_ hg; replace HB := bs_ HB hb; clear hb hbox hg HO1 BO1 cd0 fd0 ca0 ca1 ca2 ca3 fa0 fa1 fa2 fa3 cr0 fr0 co0 fo0; obtain ⟨cd0, fd0⟩ := b1_ BD; obtain ⟨ca0, ca1, ca2, ca3, fa0, fa1, fa2, fa3⟩ := b4_ BA; obtain ⟨cr0, fr0⟩ := b1_ BR; obtain ⟨co0, fo0⟩ := b1_ BO; obtain ⟨cf0, cf1, cf2, ff0, ff1, ff2⟩ := b3_ BF; have hm1 := NDF.out; have hm2 := NAF.out; have hm3 := NRF.out; have hm4 := NOF.out; have hm5 := Ne.symm NDF.out; have hm6 := Ne.symm NAF.out; have hm7 := Ne.symm NRF.out; have hm8 := Ne.symm NOF.out; have hxa : ad.block ≠ gf := (by have := HBL.out; have := GF.out; omega); have hxb := Ne.symm hxa; replace hx0 := hc_ HB hx0; replace hx1 := hc_ HB hx1; replace hx2 := hc_ HB hx2; have HX0 : Aside0 (∀ u0 u1 u2, (((w8.setCell ⟨gf, 0, none⟩ u0).setCell ⟨gf, 1, none⟩ u1).setCell ⟨gf, 2, none⟩ u2).cell? (ad.add (kk * 3)) = some (.string x.f0)) := ⟨fun u0 u1 u2 => (cell_far (p := ⟨gf, 2, none⟩) ab_ u2).trans ((cell_far (p := ⟨gf, 1, none⟩) ab_ u1).trans ((cell_far (p := ⟨gf, 0, none⟩) ab_ u0).trans hx0))⟩; have HX1 : Aside0 (∀ u0 u1 u2, (((w8.setCell ⟨gf, 0, none⟩ u0).setCell ⟨gf, 1, none⟩ u1).setCell ⟨gf, 2, none⟩ u2).cell? ⟨(ad.add (kk * 3)).block, (ad.add (kk * 3)).off + 1, none⟩ = some (.string x.f1)) := ⟨fun u0 u1 u2 => (cell_far (p := ⟨gf, 2, none⟩) ab_ u2).trans ((cell_far (p := ⟨gf, 1, none⟩) ab_ u1).trans ((cell_far (p := ⟨gf, 0, none⟩) ab_ u0).trans hx1))⟩; have HX2 : Aside0 (∀ u0 u1 u2, (((w8.setCell ⟨gf, 0, none⟩ u0).setCell ⟨gf, 1, none⟩ u1).setCell ⟨gf, 2, none⟩ u2).cell? ⟨(ad.add (kk * 3)).block, (ad.add (kk * 3)).off + 2, none⟩ = some (.int .i64 x.f2)) := ⟨fun u0 u1 u2 => (cell_far (p := ⟨gf, 2, none⟩) ab_ u2).trans ((cell_far (p := ⟨gf, 1, none⟩) ab_ u1).trans ((cell_far (p := ⟨gf, 0, none⟩) ab_ u0).trans hx2))⟩)
   | ((with_reducible refine gate_dst (N := 58) rfl ?_); refine abs_ (fun W => W.heap[gf]? = some (.cells #[.string a1, .string (⟨#[]⟩ : ByteArray), .int .i64 0] 76 (0, 0)) ∧ W.heap[gO]? = some (.cells #[(.slice Ao l0_0.length co_)] 31 (0, 0)) ∧ W.heap[gr]? = some (.cells #[.slice none 0 0] 31 (0, 0)) ∧ W.heap[gd]? = some (.cells #[.slice (some ad) l0_0.length c0_0] 31 (0, 0)) ∧ W.heap[ga]? = some (.cells #[.int .i64 1, .string a1, .string a2, .string a3] 35 (0, 0)) ∧ k76.R 76 W w.heap.size (fun k => (True ∧ k ≠ gO) ∧ k ≠ gf) (.slice Ao l0_0.length co_) l0_0 ∧ Below w.heap.size w W ∧ W.cell? (ad.add (kk * 3)) = some (.string x.f0) ∧ W.cell? ⟨(ad.add (kk * 3)).block, (ad.add (kk * 3)).off + 1, none⟩ = some (.string x.f1) ∧ W.cell? ⟨(ad.add (kk * 3)).block, (ad.add (kk * 3)).off + 2, none⟩ = some (.int .i64 x.f2)) ⟨bu_, bf_, bf_, bf_, bf_, rk_ HO.out, bw_ HB, HX0.out _ _ _, HX1.out _ _ _, HX2.out _ _ _⟩ ?_; clear HO HB BF BO BR BD BA cd0 fd0 ca0 ca1 ca2 ca3 fa0 fa1 fa2 fa3 cr0 fr0 co0 fo0 cf0 cf1 cf2 ff0 ff1 ff2 hx0 hx1 hx2; intro wc ⟨qf, qo, qr, qd, qa, qh, qb, hx0, hx1, hx2⟩; have BF := Aside0.mk qf; have BO := Aside0.mk qo; have BR := Aside0.mk qr; have BD := Aside0.mk qd; have BA := Aside0.mk qa; have HO := Aside0.mk qh; have HB := Aside0.mk qb; clear qf qo qr qd qa qh qb; obtain ⟨cd0, fd0⟩ := b1_ BD; obtain ⟨ca0, ca1, ca2, ca3, fa0, fa1, fa2, fa3⟩ := b4_ BA; obtain ⟨cr0, fr0⟩ := b1_ BR; obtain ⟨co0, fo0⟩ := b1_ BO; obtain ⟨cf0, cf1, cf2, ff0, ff1, ff2⟩ := b3_ BF; refine Kd.event_run (v := .agg #[.string x.f0, .string x.f1, .int .i64 x.f2]) rfl (by first | (go_simp; done) | (go_simp; rfl)) ?_)
   | ((with_reducible refine gate_dst (N := 59) rfl ?_); refine abs_ (fun W => W.heap[gf]? = some (.cells #[.string x.f0, .string x.f1, .int .i64 x.f2] 76 (0, 0)) ∧ W.heap[gO]? = some (.cells #[(.slice Ao l0_0.length co_)] 31 (0, 0)) ∧ W.heap[gr]? = some (.cells #[.slice none 0 0] 31 (0, 0)) ∧ W.heap[gd]? = some (.cells #[.slice (some ad) l0_0.length c0_0] 31 (0, 0)) ∧ W.heap[ga]? = some (.cells #[.int .i64 1, .string a1, .string a2, .string a3] 35 (0, 0)) ∧ k76.R 76 W w.heap.size (fun k => (True ∧ k ≠ gO) ∧ k ≠ gf) (.slice Ao l0_0.length co_) l0_0 ∧ Below w.heap.size w W) ⟨bu_, bf_, bf_, bf_, bf_, rk_ HO.out, bw_ HB⟩ ?_; clear hx0 hx1 hx2 HX0 HX1 HX2 HO HB BF BO BR BD BA cd0 fd0 ca0 ca1 ca2 ca3 fa0 fa1 fa2 fa3 cr0 fr0 co0 fo0 cf0 cf1 cf2 ff0 ff1 ff2; intro wc ⟨qf, qo, qr, qd, qa, qh, qb⟩; have BF := Aside0.mk qf; have BO := Aside0.mk qo; have BR := Aside0.mk qr; have BD := Aside0.mk qd; have BA := Aside0.mk qa; have HO := Aside0.mk qh; have HB := Aside0.mk qb; clear qf qo qr qd qa qh qb; obtain ⟨cd0, fd0⟩ := b1_ BD; obtain ⟨ca0, ca1, ca2, ca3, fa0, fa1, fa2, fa3⟩ := b4_ BA; obtain ⟨cr0, fr0⟩ := b1_ BR; obtain ⟨co0, fo0⟩ := b1_ BO; obtain ⟨cf0, cf1, cf2, ff0, ff1, ff2⟩ := b3_ BF; refine Kd.event_run (v := .pointer (some ⟨gf, 1, none⟩)) rfl (by first | (go_simp; done) | (go_simp; rfl)) ?_)
   | ((with_reducible refine gate_dst (N := 65) rfl ?_); refine abs_ (fun W => W.heap[gf]? = some (.cells #[.string x.f0, .string (x.f1 ++ a2), .int .i64 x.f2] 76 (0, 0)) ∧ W.heap[gO]? = some (.cells #[(.slice Ao l0_0.length co_)] 31 (0, 0)) ∧ W.heap[gr]? = some (.cells #[.slice none 0 0] 31 (0, 0)) ∧ W.heap[gd]? = some (.cells #[.slice (some ad) l0_0.length c0_0] 31 (0, 0)) ∧ W.heap[ga]? = some (.cells #[.int .i64 1, .string a1, .string a2, .string a3] 35 (0, 0)) ∧ k76.R 76 W w.heap.size (fun k => (True ∧ k ≠ gO) ∧ k ≠ gf) (.slice Ao l0_0.length co_) l0_0 ∧ Below w.heap.size w W) ⟨bu_, bf_, bf_, bf_, bf_, rk_ HO.out, bw_ HB⟩ ?_; clear HO HB BF BO BR BD BA cd0 fd0 ca0 ca1 ca2 ca3 fa0 fa1 fa2 fa3 cr0 fr0 co0 fo0 cf0 cf1 cf2 ff0 ff1 ff2; intro wc ⟨qf, qo, qr, qd, qa, qh, qb⟩; have BF := Aside0.mk qf; have BO := Aside0.mk qo; have BR := Aside0.mk qr; have BD := Aside0.mk qd; have BA := Aside0.mk qa; have HO := Aside0.mk qh; have HB := Aside0.mk qb; clear qf qo qr qd qa qh qb; obtain ⟨cd0, fd0⟩ := b1_ BD; obtain ⟨ca0, ca1, ca2, ca3, fa0, fa1, fa2, fa3⟩ := b4_ BA; obtain ⟨cr0, fr0⟩ := b1_ BR; obtain ⟨co0, fo0⟩ := b1_ BO; obtain ⟨cf0, cf1, cf2, ff0, ff1, ff2⟩ := b3_ BF; refine Kd.event_run (v := .agg #[.string x.f0, .string (x.f1 ++ a2), .int .i64 x.f2]) rfl (by first | (go_simp; done) | (go_simp; rfl)) ?_)
   | (go_at_call 47; (with_reducible refine (impl_putFile.calls w.heap.size (fun _ => True) gO (.slice Ao l0_0.length co_) l0_0 ⟨x.f0, x.f1 ++ a2, x.f2⟩ _ HL.out ?b1 ?b2 ?b3 GO.out (fun _ _ => trivial)).mono ?_); (case b1 => exact bf_); (case b2 => exact rm_ HO.out); (case b3 => exact below_size (bw_ HB)); rintro e w9 ⟨rfl, v9, hbk, hr, hb, hkp⟩; have BR9 := hkp gr (blk_lt (o := .cells #[.slice none 0 0] 31 (0, 0)) bf_) NRO.out (Kd.R_ne HO.out BR.out (by decide)); replace BR := mk_ (BR9.trans bf_); replace HB := mk_ ((bw_ HB).trans hb); rw [HO2.out] at hr; obtain ⟨A9, c9, e9⟩ := Kd.R_slice hr; subst e9; have HO9 := Aside0.mk hr; replace BO := Aside0.mk hbk; clear hbk hr hb hkp BR9 cd0 fd0 ca0 ca1 ca2 ca3 fa0 fa1 fa2 fa3 cr0 fr0 co0 fo0 cf0 cf1 cf2 ff0 ff1 ff2; obtain ⟨co0, fo0⟩ := b1_ BO; obtain ⟨cr0, fr0⟩ := b1_ BR)
   | (go_at_call 45; (with_reducible refine (impl_DiskOk.calls k _ _ o _ _ (Kd.R_reads' HO9.out).2.2 (Kd.R_reads' HO9.out).2.1 HT2.out).mono ?_); rintro e w10 ⟨rfl, hb⟩; replace BO := bb_ BO hb; replace BR := bb_ BR hb; replace HO9 := rb_ HO9 hb; replace HB := bs_ HB hb; clear hb co0 fo0 cr0 fr0; obtain ⟨co0, fo0⟩ := b1_ BO; obtain ⟨cr0, fr0⟩ := b1_ BR))
  first
   | (refine bodyPost_ret (results_ct rfl _ _ gr 31 #[.slice none 0 0] (0, 0) _ rfl (by simpa using blk_set BR.out 0 (.slice none 0 0)) Try.underlying31 rfl (by kernel_rfl)) rfl ?_; exact ⟨_, rfl, Kd.R_nil _ _ _ _ _, below_set HB.out GR.out⟩)
   | (refine bodyPost_ret (results_ct rfl _ _ gr 31 #[.slice A9 o.length c9] (0, 0) _ rfl (by simpa using blk_set BR.out 0 (.slice A9 o.length c9)) Try.underlying31 rfl (by kernel_rfl)) rfl ?_; exact ⟨_, rfl, Kd.R_mono (Kd.R_set HO9.out BR.out (by decide) 0 _) (fun _ _ => trivial), below_set HB.out GR.out⟩)
set_option maxHeartbeats 8000000 in
set_option maxRecDepth 100000 in
theorem impl_DoAct.keep (k : Nat) (A0_0 : Option Addr) (c0_0 : Nat) (l0_0 : List S76) (a1 a2 a3 : ByteArray) (w : World) (hr0_0 : Kd.C k76 w A0_0 l0_0.length l0_0) (hc0_0 : l0_0.length ≤ c0_0) (kk : Nat) (hk : kk < l0_0.length) (hi : impl_fileAt.f l0_0 a1 = some (kk : Int)) (ht : impl_DiskOk.f k l0_0 = some true) (h2 : (a2.toList == ([] : List UInt8)) = true) (h3 : (a3.toList == ([] : List UInt8)) = true)
  (hl : l0_0.length < 3518437208000) (o : List S76) (ho : l0_0.set kk ⟨(rd_T76 l0_0 (kk : Int)).f0, (rd_T76 l0_0 (kk : Int)).f1, ((rd_T76 l0_0 (kk : Int)).f1.size : Int)⟩ = o) (t2 : Bool) (ht2 : impl_DiskOk.f k o = some t2) :
  Calls Try.prog 13 #[.agg #[.slice A0_0 l0_0.length c0_0], .agg #[.int .i64 2, .string a1, .string a2, .string a3]] w fun e w' => ∃ v0_ : Value, e = .returned (.tuple #[.agg #[v0_], .bool t2]) ∧ Kd.R k76 76 w' w.heap.size (fun _ => True) v0_ (if t2 = true then o else []) ∧ Below w.heap.size w w' := by
 have hu29 := Try.underlying29
 have hu31 := Try.underlying31
 have hu35 := Try.underlying35
 have hu76 := Try.underlying76
 have HR := Aside0.mk hr0_0
 have HC := Aside0.mk hc0_0
 have HI := Aside0.mk hi
 have HT := Aside0.mk ht
 have HL := Aside0.mk hl
 have HO2 := Aside0.mk ho
 have HT2 := Aside0.mk ht2
 have HCP : Aside0 (impl_copyDisk.f l0_0 = some l0_0) := mk_ (by unfold impl_copyDisk.f; rw [if_pos (by simp; omega)]; rfl)
 have HPOS : Aside0 (0 < l0_0.length) := ⟨by omega⟩
 have HK := Aside0.mk hk
 clear hr0_0 hc0_0 hi ht ho ht2 hl
 have HB := mk_ (Below.refl w.heap.size w)
 have hkz : (0 : Int) ≤ (kk : Int) := Int.natCast_nonneg kk
 have hkn : ¬ ((kk : Int) < 0) := by omega
 have hkl : (kk : Int) < (l0_0.length : Int) := by omega
 cases t2
 all_goals
  go_enter Try.func13, Try.ntmps13
  go_wp2_with (first
   | ((with_reducible refine gate_dst (N := 2) rfl ?_); refine bx_ (N := 2) (cs := #[.slice A0_0 l0_0.length c0_0]) (t := 31) ?_; intro gd hg w1 hbox hb; have BD := Aside0.mk hbox; replace HB := bs_ HB hb; clear hb hbox hg)
   | ((with_reducible refine gate_dst (N := 3) rfl ?_); refine bx_ (N := 3) (cs := #[.int .i64 2, .string a1, .string a2, .string a3]) (t := 35) ?_; intro ga hg w2 hbox hb; have BA := Aside0.mk hbox; replace BD := bb_ BD hb; replace HB := bs_ HB hb; clear hb hbox hg)
   | ((with_reducible refine gate_dst (N := 4) rfl ?_); refine bx_ (N := 4) (cs := #[.slice none 0 0]) (t := 31) ?_; intro gr hg w3 hbox hb; have BR := Aside0.mk hbox; have GR : Aside0 (w.heap.size ≤ gr) := bz_ hg; have ND : Aside0 (gd ≠ gr) := bl_ BD hg; have NA : Aside0 (ga ≠ gr) := bl_ BA hg; replace BD := bb_ BD hb; replace BA := bb_ BA hb; replace HB := bs_ HB hb; clear hb hbox hg; obtain ⟨cd0, fd0⟩ := b1_ BD; obtain ⟨ca0, ca1, ca2, ca3, fa0, fa1, fa2, fa3⟩ := b4_ BA)
   | (go_at_call 44; (with_reducible refine (impl_fileAt.calls _ _ l0_0 a1 _ _ (Kd.C_below HR.out (bw_ HB)) HC.out HI.out).mono ?_); rintro e w4 ⟨rfl, hb⟩; replace BD := bb_ BD hb; replace BA := bb_ BA hb; replace BR := bb_ BR hb; replace HB := bs_ HB hb; clear hb cd0 fd0 ca0 ca1 ca2 ca3 fa0 fa1 fa2 fa3; obtain ⟨cd0, fd0⟩ := b1_ BD; obtain ⟨ca0, ca1, ca2, ca3, fa0, fa1, fa2, fa3⟩ := b4_ BA; obtain ⟨cr0, fr0⟩ := b1_ BR)
   | (go_at_call 45; (with_reducible refine (impl_DiskOk.calls k _ _ l0_0 _ _ (Kd.C_below HR.out HB.out) HC.out HT.out).mono ?_); rintro e w5 ⟨rfl, hb⟩; replace BD := bb_ BD hb; replace BA := bb_ BA hb; replace BR := bb_ BR hb; replace HB := bs_ HB hb; clear hb cd0 fd0 ca0 ca1 ca2 ca3 fa0 fa1 fa2 fa3 cr0 fr0; obtain ⟨cd0, fd0⟩ := b1_ BD; obtain ⟨ca0, ca1, ca2, ca3, fa0, fa1, fa2, fa3⟩ := b4_ BA; obtain ⟨cr0, fr0⟩ := b1_ BR)
   | (go_at_call 46; (with_reducible refine (impl_copyDisk.calls _ _ l0_0 l0_0 _ (Kd.C_below HR.out (bw_ HB)) HC.out HCP.out).mono ?_); rintro e w6 ⟨v0, rfl, ho0, hb⟩; have HO := mk_ (Kd.R_lower ho0 (below_size (bw_ HB))); obtain ⟨go, co_, eo⟩ := own_slice76 HO.out HPOS.out; subst eo; replace BD := bb_ BD hb; replace BA := bb_ BA hb; replace BR := bb_ BR hb; replace HB := bs_ HB hb; clear hb ho0 cd0 fd0 ca0 ca1 ca2 ca3 fa0 fa1 fa2 fa3 cr0 fr0; obtain ⟨cd0, fd0⟩ := b1_ BD; obtain ⟨ca0, ca1, ca2, ca3, fa0, fa1, fa2, fa3⟩ := b4_ BA; obtain ⟨cr0, fr0⟩ := b1_ BR)
   | ((with_reducible refine gate_dst (N := 7) rfl ?_); refine bx_ (N := 7) (cs := #[.slice none 0 0]) (t := 31) ?_; intro gO hg w7 hbox hb; have BO := Aside0.mk hbox; have GO : Aside0 (w.heap.size ≤ gO) := bz_ hg; have NDO := bl_ BD hg; have NAO := bl_ BA hg; have NRO := bl_ BR hg; have NOR := bg_ BR hg; replace BD := bb_ BD hb; replace BA := bb_ BA hb; replace BR := bb_ BR hb; replace HO := rb_ HO hb; replace HB := bs_ HB hb; clear hb hbox hg cd0 fd0 ca0 ca1 ca2 ca3 fa0 fa1 fa2 fa3 cr0 fr0; obtain ⟨cd0, fd0⟩ := b1_ BD; obtain ⟨ca0, ca1, ca2, ca3, fa0, fa1, fa2, fa3⟩ := b4_ BA; obtain ⟨cr0, fr0⟩ := b1_ BR; obtain ⟨co0, fo0⟩ := b1_ BO; have hn1 := NDO.out; have hn2 := NAO.out; have hn3 := NRO.out; have hn4 := NOR.out; have hn5 := Ne.symm NDO.out; have hn6 := Ne.symm NAO.out)
   | ((with_reducible refine gate_dst (N := 68) rfl ?_); refine abs_ (fun W => W.heap[gO]? = some (.cells #[(.slice (some ⟨go, 0, none⟩) l0_0.length co_)] 31 (0, 0)) ∧ W.heap[gr]? = some (.cells #[.slice none 0 0] 31 (0, 0)) ∧ W.heap[gd]? = some (.cells #[.slice A0_0 l0_0.length c0_0] 31 (0, 0)) ∧ W.heap[ga]? = some (.cells #[.int .i64 2, .string a1, .string a2, .string a3] 35 (0, 0)) ∧ k76.R 76 W w.heap.size (fun k => True ∧ k ≠ gO) (.slice (some ⟨go, 0, none⟩) l0_0.length co_) l0_0 ∧ Below w.heap.size w W) ⟨bu_, bf_, bf_, bf_, Kd.R_types (g := gO) (t := 31) (cells := #[(.slice (some ⟨go, 0, none⟩) l0_0.length co_)]) (Kd.R_set HO.out BO.out (by decide) 0 _) bu_ (by decide), bw_ HB⟩ ?_; clear HO HB BO BR BD BA cd0 fd0 ca0 ca1 ca2 ca3 fa0 fa1 fa2 fa3 cr0 fr0 co0 fo0; intro wc ⟨qo, qr, qd, qa, qh, qb⟩; have BO := Aside0.mk qo; have BR := Aside0.mk qr; have BD := Aside0.mk qd; have BA := Aside0.mk qa; have HO := Aside0.mk qh; have HB := Aside0.mk qb; clear qo qr qd qa qh qb; obtain ⟨cd0, fd0⟩ := b1_ BD; obtain ⟨ca0, ca1, ca2, ca3, fa0, fa1, fa2, fa3⟩ := b4_ BA; obtain ⟨cr0, fr0⟩ := b1_ BR; obtain ⟨co0, fo0⟩ := b1_ BO; refine Kd.event_run (v := .bool true) rfl (by first | (go_simp; done) | (go_simp; rfl)) ?_))
  have hgb := mk_ (Kd.R_base HO.out go rfl)
  have hne := (HO.out.1 go rfl).2
  have hne2 : gO ≠ go := Ne.symm hne
  have HN2 := Aside0.mk hne2
  have HRO := mk_ (blk_ne BR.out (Kd.R_typed HO.out go rfl).choose_spec (by decide))
  obtain ⟨ce, hcl, hM, hcc, hfr⟩ := Kd.R_elem HO.out z76 (kk : Int) hkz hkl
  obtain rfl := k76_openM hM
  rw [show l0_0.getD (kk : Int).toNat z76 = rd_T76 l0_0 (kk : Int) from rfl] at hM hcc
  generalize hxx : rd_T76 l0_0 (kk : Int) = x at *
  have hy1 : wc.cell? ⟨go, kk * 3 + 1, none⟩ = some (.string x.f1) := hcc 1 _ rfl
  have hy2 : wc.cell? ⟨go, kk * 3 + 2, none⟩ = some (.int .i64 x.f2) := hcc 2 _ rfl
  have hz2 : wc.frozen? ⟨go, kk * 3 + 2, none⟩ = false := hfr 2
  have HPo : Aside0 (k76.R 76 (wc.setCell ⟨go, kk * 3 + 2, none⟩ (.int .i64 (x.f1.size : Int))) w.heap.size (fun k => True ∧ k ≠ gO) (.slice (some ⟨go, 0, none⟩) l0_0.length co_) (l0_0.set kk ⟨x.f0, x.f1, (x.f1.size : Int)⟩)) := ⟨(Kd.R_seg HO.out (kk : Int) hkz hkl (c := [.string x.f0, .string x.f1, .int .i64 x.f2]) (seg := [.int .i64 (x.f1.size : Int)]) (j := 2) rfl hcc (show 2 + 1 ≤ 3 from by decide) (x' := (⟨x.f0, x.f1, (x.f1.size : Int)⟩ : S76)) (k76_mkM _ _ _ (⟨x.f0, x.f1, (x.f1.size : Int)⟩ : S76)) (okp := fun k => (True ∧ k ≠ gO) ∧ k ≠ go) (fun _ hk => hk)).1⟩
  have HLO : Aside0 (l0_0.length = o.length) := ⟨by rw [← HO2.out, List.length_set]⟩
  have HPq : Aside0 (k76.R 76 (wc.setCell ⟨go, kk * 3 + 2, none⟩ (.int .i64 (x.f1.size : Int))) w.heap.size (fun k => True ∧ k ≠ gO) (.slice (some ⟨go, 0, none⟩) o.length co_) o) := ⟨by have h := HPo.out; rw [HO2.out, HLO.out] at h; exact h⟩
  have BOq : Aside0 (wc.heap[gO]? = some (.cells #[.slice (some ⟨go, 0, none⟩) o.length co_] 31 (0, 0))) := ⟨by have h := BO.out; rw [HLO.out] at h; exact h⟩
  clear hcl hM hcc hfr hxx HPo
  go_wp2
  go_region
  go_wp2_with (first
   | ((with_reducible refine gate_dst (N := 123) rfl ?_); refine abs_ (fun W => W.heap[gO]? = some (.cells #[(.slice (some ⟨go, 0, none⟩) o.length co_)] 31 (0, 0)) ∧ W.heap[gr]? = some (.cells #[.slice none 0 0] 31 (0, 0)) ∧ k76.R 76 W w.heap.size (fun k => True ∧ k ≠ gO) (.slice (some ⟨go, 0, none⟩) o.length co_) o ∧ Below w.heap.size w W) ⟨blk_drew (blk_far BOq.out hne2 _), blk_drew (blk_far BR.out HRO.out _), Kd.R_drew HPq.out, below_drew (below_set HB.out hgb.out)⟩ ?_; clear HO HB BO BR BD BA HPq BOq HRO hy1 hy2 hz2 hne hne2 cd0 fd0 ca0 ca1 ca2 ca3 fa0 fa1 fa2 fa3 cr0 fr0 co0 fo0; intro wc_ ⟨qo, qr, qh, qb⟩; have BO := Aside0.mk qo; have BR := Aside0.mk qr; have HO9 := Aside0.mk qh; have HB := Aside0.mk qb; clear qo qr qh qb; obtain ⟨co0, fo0⟩ := b1_ BO; obtain ⟨cr0, fr0⟩ := b1_ BR; refine Kd.event_run (v := .agg #[(.slice (some ⟨go, 0, none⟩) o.length co_)]) rfl (by first | (go_simp; done) | (go_simp; rfl)) ?_)
   | (go_at_call 45; (with_reducible refine (impl_DiskOk.calls k _ _ o _ _ (Kd.R_reads' HO9.out).2.2 (Kd.R_reads' HO9.out).2.1 HT2.out).mono ?_); rintro e w10 ⟨rfl, hb⟩; replace BO := bb_ BO hb; replace BR := bb_ BR hb; replace HO9 := rb_ HO9 hb; replace HB := bs_ HB hb; clear hb co0 fo0 cr0 fr0; obtain ⟨co0, fo0⟩ := b1_ BO; obtain ⟨cr0, fr0⟩ := b1_ BR))
  first
   | (refine bodyPost_ret (results_ct rfl _ _ gr 31 #[.slice none 0 0] (0, 0) _ rfl (by simpa using blk_set BR.out 0 (.slice none 0 0)) Try.underlying31 rfl (by kernel_rfl)) rfl ?_; exact ⟨_, rfl, Kd.R_nil _ _ _ _ _, below_set HB.out GR.out⟩)
   | (refine bodyPost_ret (results_ct rfl _ _ gr 31 #[.slice (some ⟨go, 0, none⟩) o.length co_] (0, 0) _ rfl (by simpa using blk_set BR.out 0 (.slice (some ⟨go, 0, none⟩) o.length co_)) Try.underlying31 rfl (by kernel_rfl)) rfl ?_; exact ⟨_, rfl, Kd.R_mono (Kd.R_set HO9.out BR.out (by decide) 0 _) (fun _ _ => trivial), below_set HB.out GR.out⟩)
theorem fileDeleteR (base : Nat) (ok : Nat → Prop) (g cap i : Nat) (l o : List S76) (w : World) (hi : i < l.length) (hl : l.length < 3518437208000) (h : k76.R 76 w base ok (.slice (some ⟨g, 0, none⟩) l.length cap) l) (ho : l.take i ++ l.drop (i + 1) = o) :
  Calls Try.prog 48 #[.slice (some ⟨g, 0, none⟩) l.length cap, .int .i64 i, .int .i64 ((i : Int) + 1)] w fun e w' => e = .returned (.slice (some ⟨g, 0, none⟩) o.length cap) ∧ k76.R 76 w' base ok (.slice (some ⟨g, 0, none⟩) o.length cap) o ∧ w.grownBy w' (some g) := by
 have hn : l.length - 1 = o.length := by rw [← ho, List.length_append, List.length_take, List.length_drop]; omega
 refine (fileDelete base g cap i l w hi (Nat.lt_trans hl (by decide)) (own76 h)).mono ?_
 rintro e w' ⟨rfl, h1, h2⟩
 rw [hn, ho] at *
 exact ⟨rfl, R76 (fun k hk => h.1 k hk) h1, h2⟩

set_option maxHeartbeats 8000000 in
set_option maxRecDepth 100000 in
theorem impl_DoAct.drop_ (k : Nat) (A0_0 : Option Addr) (c0_0 : Nat) (l0_0 : List S76) (a1 a2 a3 : ByteArray) (w : World) (hr0_0 : Kd.C k76 w A0_0 l0_0.length l0_0) (hc0_0 : l0_0.length ≤ c0_0) (kk : Nat) (hk : kk < l0_0.length) (hi : impl_fileAt.f l0_0 a1 = some (kk : Int)) (ht : impl_DiskOk.f k l0_0 = some true) (h2 : (a2.toList == ([] : List UInt8)) = true) (h3 : (a3.toList == ([] : List UInt8)) = true)
  (hl : l0_0.length < 3518437208000) (o : List S76) (ho : l0_0.take kk ++ l0_0.drop (kk + 1) = o) (t2 : Bool) (ht2 : impl_DiskOk.f k o = some t2) :
  Calls Try.prog 13 #[.agg #[.slice A0_0 l0_0.length c0_0], .agg #[.int .i64 4, .string a1, .string a2, .string a3]] w fun e w' => ∃ v0_ : Value, e = .returned (.tuple #[.agg #[v0_], .bool t2]) ∧ Kd.R k76 76 w' w.heap.size (fun _ => True) v0_ (if t2 = true then o else []) ∧ Below w.heap.size w w' := by
 have hu29 := Try.underlying29
 have hu31 := Try.underlying31
 have hu35 := Try.underlying35
 have hu76 := Try.underlying76
 have HR := Aside0.mk hr0_0
 have HC := Aside0.mk hc0_0
 have HI := Aside0.mk hi
 have HT := Aside0.mk ht
 have HL := Aside0.mk hl
 have HO2 := Aside0.mk ho
 have HT2 := Aside0.mk ht2
 have HCP : Aside0 (impl_copyDisk.f l0_0 = some l0_0) := mk_ (by unfold impl_copyDisk.f; rw [if_pos (by simp; omega)]; rfl)
 have HPOS : Aside0 (0 < l0_0.length) := ⟨by omega⟩
 have HK := Aside0.mk hk
 have hw1 : IntKind.i64.wrap ((kk : Int) + 1) = (kk : Int) + 1 := by rw [IntKind.wrap_i64]; omega
 clear hr0_0 hc0_0 hi ht ho ht2 hl
 have HB := mk_ (Below.refl w.heap.size w)
 have hkz : (0 : Int) ≤ (kk : Int) := Int.natCast_nonneg kk
 have hkn : ¬ ((kk : Int) < 0) := by omega
 have hkl : (kk : Int) < (l0_0.length : Int) := by omega
 cases t2
 all_goals
  go_enter Try.func13, Try.ntmps13
  go_wp2_with (first
   | ((with_reducible refine gate_dst (N := 2) rfl ?_); refine bx_ (N := 2) (cs := #[.slice A0_0 l0_0.length c0_0]) (t := 31) ?_; intro gd hg w1 hbox hb; have BD := Aside0.mk hbox; replace HB := bs_ HB hb; clear hb hbox hg)
   | ((with_reducible refine gate_dst (N := 3) rfl ?_); refine bx_ (N := 3) (cs := #[.int .i64 4, .string a1, .string a2, .string a3]) (t := 35) ?_; intro ga hg w2 hbox hb; have BA := Aside0.mk hbox; replace BD := bb_ BD hb; replace HB := bs_ HB hb; clear hb hbox hg)
   | ((with_reducible refine gate_dst (N := 4) rfl ?_); refine bx_ (N := 4) (cs := #[.slice none 0 0]) (t := 31) ?_; intro gr hg w3 hbox hb; have BR := Aside0.mk hbox; have GR : Aside0 (w.heap.size ≤ gr) := bz_ hg; have ND : Aside0 (gd ≠ gr) := bl_ BD hg; have NA : Aside0 (ga ≠ gr) := bl_ BA hg; replace BD := bb_ BD hb; replace BA := bb_ BA hb; replace HB := bs_ HB hb; clear hb hbox hg; obtain ⟨cd0, fd0⟩ := b1_ BD; obtain ⟨ca0, ca1, ca2, ca3, fa0, fa1, fa2, fa3⟩ := b4_ BA)
   | (go_at_call 44; (with_reducible refine (impl_fileAt.calls _ _ l0_0 a1 _ _ (Kd.C_below HR.out (bw_ HB)) HC.out HI.out).mono ?_); rintro e w4 ⟨rfl, hb⟩; replace BD := bb_ BD hb; replace BA := bb_ BA hb; replace BR := bb_ BR hb; replace HB := bs_ HB hb; clear hb cd0 fd0 ca0 ca1 ca2 ca3 fa0 fa1 fa2 fa3; obtain ⟨cd0, fd0⟩ := b1_ BD; obtain ⟨ca0, ca1, ca2, ca3, fa0, fa1, fa2, fa3⟩ := b4_ BA; obtain ⟨cr0, fr0⟩ := b1_ BR)
   | (go_at_call 45; (with_reducible refine (impl_DiskOk.calls k _ _ l0_0 _ _ (Kd.C_below HR.out HB.out) HC.out HT.out).mono ?_); rintro e w5 ⟨rfl, hb⟩; replace BD := bb_ BD hb; replace BA := bb_ BA hb; replace BR := bb_ BR hb; replace HB := bs_ HB hb; clear hb cd0 fd0 ca0 ca1 ca2 ca3 fa0 fa1 fa2 fa3 cr0 fr0; obtain ⟨cd0, fd0⟩ := b1_ BD; obtain ⟨ca0, ca1, ca2, ca3, fa0, fa1, fa2, fa3⟩ := b4_ BA; obtain ⟨cr0, fr0⟩ := b1_ BR)
   | (go_at_call 46; (with_reducible refine (impl_copyDisk.calls _ _ l0_0 l0_0 _ (Kd.C_below HR.out (bw_ HB)) HC.out HCP.out).mono ?_); rintro e w6 ⟨v0, rfl, ho0, hb⟩; have HO := mk_ (Kd.R_lower ho0 (below_size (bw_ HB))); obtain ⟨go, co_, eo⟩ := own_slice76 HO.out HPOS.out; subst eo; replace BD := bb_ BD hb; replace BA := bb_ BA hb; replace BR := bb_ BR hb; replace HB := bs_ HB hb; clear hb ho0 cd0 fd0 ca0 ca1 ca2 ca3 fa0 fa1 fa2 fa3 cr0 fr0; obtain ⟨cd0, fd0⟩ := b1_ BD; obtain ⟨ca0, ca1, ca2, ca3, fa0, fa1, fa2, fa3⟩ := b4_ BA; obtain ⟨cr0, fr0⟩ := b1_ BR)
   | ((with_reducible refine gate_dst (N := 7) rfl ?_); refine bx_ (N := 7) (cs := #[.slice none 0 0]) (t := 31) ?_; intro gO hg w7 hbox hb; have BO := Aside0.mk hbox; have GO : Aside0 (w.heap.size ≤ gO) := bz_ hg; have NDO := bl_ BD hg; have NAO := bl_ BA hg; have NRO := bl_ BR hg; have NOR := bg_ BR hg; replace BD := bb_ BD hb; replace BA := bb_ BA hb; replace BR := bb_ BR hb; replace HO := rb_ HO hb; replace HB := bs_ HB hb; clear hb hbox hg cd0 fd0 ca0 ca1 ca2 ca3 fa0 fa1 fa2 fa3 cr0 fr0; obtain ⟨cd0, fd0⟩ := b1_ BD; obtain ⟨ca0, ca1, ca2, ca3, fa0, fa1, fa2, fa3⟩ := b4_ BA; obtain ⟨cr0, fr0⟩ := b1_ BR; obtain ⟨co0, fo0⟩ := b1_ BO; have hn1 := NDO.out; have hn2 := NAO.out; have hn3 := NRO.out; have hn4 := NOR.out; have hn5 := Ne.symm NDO.out; have hn6 := Ne.symm NAO.out)
   | ((with_reducible refine gate_dst (N := 115) rfl ?_); refine abs_ (fun W => W.heap[gO]? = some (.cells #[(.slice (some ⟨go, 0, none⟩) l0_0.length co_)] 31 (0, 0)) ∧ W.heap[gr]? = some (.cells #[.slice none 0 0] 31 (0, 0)) ∧ W.heap[gd]? = some (.cells #[.slice A0_0 l0_0.length c0_0] 31 (0, 0)) ∧ W.heap[ga]? = some (.cells #[.int .i64 4, .string a1, .string a2, .string a3] 35 (0, 0)) ∧ k76.R 76 W w.heap.size (fun k => True ∧ k ≠ gO) (.slice (some ⟨go, 0, none⟩) l0_0.length co_) l0_0 ∧ Below w.heap.size w W) ⟨bu_, bf_, bf_, bf_, Kd.R_types (g := gO) (t := 31) (cells := #[(.slice (some ⟨go, 0, none⟩) l0_0.length co_)]) (Kd.R_set HO.out BO.out (by decide) 0 _) bu_ (by decide), bw_ HB⟩ ?_; clear HO HB BO BR BD BA cd0 fd0 ca0 ca1 ca2 ca3 fa0 fa1 fa2 fa3 cr0 fr0 co0 fo0; intro wc ⟨qo, qr, qd, qa, qh, qb⟩; have BO := Aside0.mk qo; have BR := Aside0.mk qr; have BD := Aside0.mk qd; have BA := Aside0.mk qa; have HO := Aside0.mk qh; have HB := Aside0.mk qb; clear qo qr qd qa qh qb; obtain ⟨cd0, fd0⟩ := b1_ BD; obtain ⟨ca0, ca1, ca2, ca3, fa0, fa1, fa2, fa3⟩ := b4_ BA; obtain ⟨cr0, fr0⟩ := b1_ BR; obtain ⟨co0, fo0⟩ := b1_ BO; refine Kd.event_run (v := .bool true) rfl (by first | (go_simp; done) | (go_simp; rfl)) ?_)
   | (go_at_call 48; refine (fileDeleteR w.heap.size _ go co_ kk l0_0 o _ HK.out HL.out HO.out HO2.out).mono ?_; rintro e w9 ⟨rfl, hrow, hg9⟩; have HON : Aside0 (gO ≠ go) := ⟨Ne.symm (HO.out.1 go rfl).2⟩; have HRN : Aside0 (gr ≠ go) := ⟨blk_ne BR.out (Kd.R_typed HO.out go rfl).choose_spec (by decide)⟩; replace BO := mk_ (blk_grown BO.out hg9 (fun e => HON.out (Option.some.inj e))); replace BR := mk_ (blk_grown BR.out hg9 (fun e => HRN.out (Option.some.inj e))); replace HB := mk_ (pw_below_grown HB.out (some go) HB.out.size hg9 (fun k e => by rw [← Option.some.inj e]; exact Kd.R_base HO.out go rfl)); have HO9 := Aside0.mk hrow; clear hrow hg9 BA BD HO cd0 fd0 ca0 ca1 ca2 ca3 fa0 fa1 fa2 fa3 cr0 fr0 co0 fo0; obtain ⟨co0, fo0⟩ := b1_ BO; obtain ⟨cr0, fr0⟩ := b1_ BR)
   | ((with_reducible refine gate_dst (N := 123) rfl ?_); refine abs_ (fun W => W.heap[gO]? = some (.cells #[(.slice (some ⟨go, 0, none⟩) o.length co_)] 31 (0, 0)) ∧ W.heap[gr]? = some (.cells #[.slice none 0 0] 31 (0, 0)) ∧ k76.R 76 W w.heap.size (fun k => True ∧ k ≠ gO) (.slice (some ⟨go, 0, none⟩) o.length co_) o ∧ Below w.heap.size w W) ⟨bu_, bf_, Kd.R_far (p := ⟨gO, 0, none⟩) HO9.out (fun _ hk => hk.2) _, bw_ HB⟩ ?_; clear HO9 HB BO BR co0 fo0 cr0 fr0; intro wc_ ⟨qo, qr, qh, qb⟩; have BO := Aside0.mk qo; have BR := Aside0.mk qr; have HO9 := Aside0.mk qh; have HB := Aside0.mk qb; clear qo qr qh qb; obtain ⟨co0, fo0⟩ := b1_ BO; obtain ⟨cr0, fr0⟩ := b1_ BR; refine Kd.event_run (v := .agg #[(.slice (some ⟨go, 0, none⟩) o.length co_)]) rfl (by first | (go_simp; done) | (go_simp; rfl)) ?_)
   | (go_at_call 45; (with_reducible refine (impl_DiskOk.calls k _ _ o _ _ (Kd.R_reads' HO9.out).2.2 (Kd.R_reads' HO9.out).2.1 HT2.out).mono ?_); rintro e w10 ⟨rfl, hb⟩; replace BO := bb_ BO hb; replace BR := bb_ BR hb; replace HO9 := rb_ HO9 hb; replace HB := bs_ HB hb; clear hb co0 fo0 cr0 fr0; obtain ⟨co0, fo0⟩ := b1_ BO; obtain ⟨cr0, fr0⟩ := b1_ BR))
  first
   | (refine bodyPost_ret (results_ct rfl _ _ gr 31 #[.slice none 0 0] (0, 0) _ rfl (by simpa using blk_set BR.out 0 (.slice none 0 0)) Try.underlying31 rfl (by kernel_rfl)) rfl ?_; exact ⟨_, rfl, Kd.R_nil _ _ _ _ _, below_set HB.out GR.out⟩)
   | (refine bodyPost_ret (results_ct rfl _ _ gr 31 #[.slice (some ⟨go, 0, none⟩) o.length co_] (0, 0) _ rfl (by simpa using blk_set BR.out 0 (.slice (some ⟨go, 0, none⟩) o.length co_)) Try.underlying31 rfl (by kernel_rfl)) rfl ?_; exact ⟨_, rfl, Kd.R_mono (Kd.R_set HO9.out BR.out (by decide) 0 _) (fun _ _ => trivial), below_set HB.out GR.out⟩)
set_option maxHeartbeats 8000000 in
set_option maxRecDepth 100000 in
theorem impl_DoAct.move_no (k : Nat) (A0_0 : Option Addr) (c0_0 : Nat) (l0_0 : List S76) (a1 a2 a3 : ByteArray) (w : World) (hr0_0 : Kd.C k76 w A0_0 l0_0.length l0_0) (hc0_0 : l0_0.length ≤ c0_0) (kk : Nat) (hk : kk < l0_0.length) (hi : impl_fileAt.f l0_0 a1 = some (kk : Int)) (ht : impl_DiskOk.f k l0_0 = some true) (h2 : (a2.toList == ([] : List UInt8)) = true) (hl : l0_0.length < 3518437208000) (hn : (a3.toList == a1.toList) = true ∨ (a3.toList == a1.toList) = false ∧ ((rd_T76 l0_0 (kk : Int)).f2 == ((rd_T76 l0_0 (kk : Int)).f1.size : Int)) = false) :
  Calls Try.prog 13 #[.agg #[.slice A0_0 l0_0.length c0_0], .agg #[.int .i64 3, .string a1, .string a2, .string a3]] w fun e w' => ∃ v0_ : Value, e = .returned (.tuple #[.agg #[v0_], .bool false]) ∧ Kd.R k76 76 w' w.heap.size (fun _ => True) v0_ [] ∧ Below w.heap.size w w' := by
 have hu29 := Try.underlying29
 have hu31 := Try.underlying31
 have hu35 := Try.underlying35
 have hu76 := Try.underlying76
 obtain ⟨ad, e0, hx0, hx1, hx2⟩ := at_T76 hr0_0 (kk : Int) (by omega) (by omega)
 cases e0
 simp only [Int.toNat_natCast] at hx0 hx1 hx2
 have hblk := World.block_lt_of_cell? _ _ hx0
 rw [add_block] at hblk
 have HBL := Aside0.mk hblk
 have HR := Aside0.mk hr0_0
 have HC := Aside0.mk hc0_0
 have HI := Aside0.mk hi
 have HT := Aside0.mk ht
 have HL := Aside0.mk hl
 have HCP : Aside0 (impl_copyDisk.f l0_0 = some l0_0) := mk_ (by unfold impl_copyDisk.f; rw [if_pos (by simp; omega)]; rfl)
 have HPOS : Aside0 (0 < l0_0.length) := ⟨by omega⟩
 have HK := Aside0.mk hk
 have hw1 : IntKind.i64.wrap ((kk : Int) + 1) = (kk : Int) + 1 := by rw [IntKind.wrap_i64]; omega
 clear hr0_0 hc0_0 hi ht hl hblk
 generalize hxx : rd_T76 l0_0 (kk : Int) = x at *
 clear hxx
 have HB := mk_ (Below.refl w.heap.size w)
 have hkz : (0 : Int) ≤ (kk : Int) := Int.natCast_nonneg kk
 have hkn : ¬ ((kk : Int) < 0) := by omega
 have hkl : (kk : Int) < (l0_0.length : Int) := by omega
 rcases hn with h4 | ⟨h4, h5⟩
 rotate_left 1
 have h6 : (x.f2 != (x.f1.size : Int)) = true := by simpa [bne] using h5
 all_goals
  go_enter Try.func13, Try.ntmps13
  go_wp2_with (first
   | ((with_reducible refine gate_dst (N := 2) rfl ?_); refine bx_ (N := 2) (cs := #[.slice (some ad) l0_0.length c0_0]) (t := 31) ?_; intro gd hg w1 hbox hb; have BD := Aside0.mk hbox; replace HB := bs_ HB hb; clear hb hbox hg)
   | ((with_reducible refine gate_dst (N := 3) rfl ?_); refine bx_ (N := 3) (cs := #[.int .i64 3, .string a1, .string a2, .string a3]) (t := 35) ?_; intro ga hg w2 hbox hb; have BA := Aside0.mk hbox; replace BD := bb_ BD hb; replace HB := bs_ HB hb; clear hb hbox hg)
   | ((with_reducible refine gate_dst (N := 4) rfl ?_); refine bx_ (N := 4) (cs := #[.slice none 0 0]) (t := 31) ?_; intro gr hg w3 hbox hb; have BR := Aside0.mk hbox; have GR : Aside0 (w.heap.size ≤ gr) := bz_ hg; have ND : Aside0 (gd ≠ gr) := bl_ BD hg; have NA : Aside0 (ga ≠ gr) := bl_ BA hg; replace BD := bb_ BD hb; replace BA := bb_ BA hb; replace HB := bs_ HB hb; clear hb hbox hg; obtain ⟨cd0, fd0⟩ := b1_ BD; obtain ⟨ca0, ca1, ca2, ca3, fa0, fa1, fa2, fa3⟩ := b4_ BA)
   | (go_at_call 44; (with_reducible refine (impl_fileAt.calls _ _ l0_0 a1 _ _ (Kd.C_below HR.out (bw_ HB)) HC.out HI.out).mono ?_); rintro e w4 ⟨rfl, hb⟩; replace BD := bb_ BD hb; replace BA := bb_ BA hb; replace BR := bb_ BR hb; replace HB := bs_ HB hb; clear hb cd0 fd0 ca0 ca1 ca2 ca3 fa0 fa1 fa2 fa3; obtain ⟨cd0, fd0⟩ := b1_ BD; obtain ⟨ca0, ca1, ca2, ca3, fa0, fa1, fa2, fa3⟩ := b4_ BA; obtain ⟨cr0, fr0⟩ := b1_ BR)
   | (go_at_call 45; (with_reducible refine (impl_DiskOk.calls k _ _ l0_0 _ _ (Kd.C_below HR.out HB.out) HC.out HT.out).mono ?_); rintro e w5 ⟨rfl, hb⟩; replace BD := bb_ BD hb; replace BA := bb_ BA hb; replace BR := bb_ BR hb; replace HB := bs_ HB hb; clear hb cd0 fd0 ca0 ca1 ca2 ca3 fa0 fa1 fa2 fa3 cr0 fr0; obtain ⟨cd0, fd0⟩ := b1_ BD; obtain ⟨ca0, ca1, ca2, ca3, fa0, fa1, fa2, fa3⟩ := b4_ BA; obtain ⟨cr0, fr0⟩ := b1_ BR)
   | (go_at_call 46; (with_reducible refine (impl_copyDisk.calls _ _ l0_0 l0_0 _ (Kd.C_below HR.out (bw_ HB)) HC.out HCP.out).mono ?_); rintro e w6 ⟨v0, rfl, ho0, hb⟩; have HO := mk_ (Kd.R_lower ho0 (below_size (bw_ HB))); obtain ⟨go, co_, eo⟩ := own_slice76 HO.out HPOS.out; subst eo; replace BD := bb_ BD hb; replace BA := bb_ BA hb; replace BR := bb_ BR hb; replace HB := bs_ HB hb; clear hb ho0 cd0 fd0 ca0 ca1 ca2 ca3 fa0 fa1 fa2 fa3 cr0 fr0; obtain ⟨cd0, fd0⟩ := b1_ BD; obtain ⟨ca0, ca1, ca2, ca3, fa0, fa1, fa2, fa3⟩ := b4_ BA; obtain ⟨cr0, fr0⟩ := b1_ BR)
   | ((with_reducible refine gate_dst (N := 7) rfl ?_); refine bx_ (N := 7) (cs := #[.slice none 0 0]) (t := 31) ?_; intro gO hg w7 hbox hb; have BO := Aside0.mk hbox; have GO : Aside0 (w.heap.size ≤ gO) := bz_ hg; have NDO := bl_ BD hg; have NAO := bl_ BA hg; have NRO := bl_ BR hg; have NOR := bg_ BR hg; replace BD := bb_ BD hb; replace BA := bb_ BA hb; replace BR := bb_ BR hb; replace HO := rb_ HO hb; replace HB := bs_ HB hb; clear hb hbox hg cd0 fd0 ca0 ca1 ca2 ca3 fa0 fa1 fa2 fa3 cr0 fr0; obtain ⟨cd0, fd0⟩ := b1_ BD; obtain ⟨ca0, ca1, ca2, ca3, fa0, fa1, fa2, fa3⟩ := b4_ BA; obtain ⟨cr0, fr0⟩ := b1_ BR; obtain ⟨co0, fo0⟩ := b1_ BO; have hn1 := NDO.out; have hn2 := NAO.out; have hn3 := NRO.out; have hn4 := NOR.out; have hn5 := Ne.symm NDO.out; have hn6 := Ne.symm NAO.out)
   | ((with_reducible refine gate_dst (N := 82) rfl ?_); refine abs_ (fun W => W.heap[gO]? = some (.cells #[(.slice (some ⟨go, 0, none⟩) l0_0.length co_)] 31 (0, 0)) ∧ W.heap[gr]? = some (.cells #[.slice none 0 0] 31 (0, 0)) ∧ W.heap[gd]? = some (.cells #[.slice (some ad) l0_0.length c0_0] 31 (0, 0)) ∧ W.heap[ga]? = some (.cells #[.int .i64 3, .string a1, .string a2, .string a3] 35 (0, 0)) ∧ k76.R 76 W w.heap.size (fun k => True ∧ k ≠ gO) (.slice (some ⟨go, 0, none⟩) l0_0.length co_) l0_0 ∧ Below w.heap.size w W) ⟨bu_, bf_, bf_, bf_, Kd.R_types (g := gO) (t := 31) (cells := #[(.slice (some ⟨go, 0, none⟩) l0_0.length co_)]) (Kd.R_set HO.out BO.out (by decide) 0 _) bu_ (by decide), bw_ HB⟩ ?_; clear HO HB BO BR BD BA cd0 fd0 ca0 ca1 ca2 ca3 fa0 fa1 fa2 fa3 cr0 fr0 co0 fo0; intro wc ⟨qo, qr, qd, qa, qh, qb⟩; have BO := Aside0.mk qo; have BR := Aside0.mk qr; have BD := Aside0.mk qd; have BA := Aside0.mk qa; have HO := Aside0.mk qh; have HB := Aside0.mk qb; replace hx0 := hc_ HB hx0; replace hx1 := hc_ HB hx1; replace hx2 := hc_ HB hx2; clear qo qr qd qa qh qb; obtain ⟨cd0, fd0⟩ := b1_ BD; obtain ⟨ca0, ca1, ca2, ca3, fa0, fa1, fa2, fa3⟩ := b4_ BA; obtain ⟨cr0, fr0⟩ := b1_ BR; obtain ⟨co0, fo0⟩ := b1_ BO; refine Kd.event_run (v := .bool true) rfl (by first | (go_simp; done) | (go_simp; rfl)) ?_)
   | ((with_reducible refine gate_dst (N := 9) rfl ?_); refine bx_ (N := 9) (cs := #[.string ⟨#[]⟩, .string ⟨#[]⟩, .int .i64 0]) (t := 76) ?_; intro gf hg w8 hbox hb; have BF := Aside0.mk hbox; have NDF := bl_ BD hg; have NAF := bl_ BA hg; have NRF := bl_ BR hg; have NOF := bl_ BO hg; have NFO := mk_ (Ne.symm NOF.out); replace HO : Aside0 (k76.R 76 w8 w.heap.size (fun k => (True ∧ k ≠ gO) ∧ k ≠ gf) (.slice (some ⟨go, 0, none⟩) l0_0.length co_) l0_0) := ⟨Kd.R_below (Kd.R_mono (Kd.R_bound HO.out) (fun k hk => ⟨hk.1, by have := hk.2.2.1; omega⟩)) hb⟩; replace BD := bb_ BD hb; replace BA := bb_ BA hb; replace BR := bb_ BR hb; replace BO := bb_ BO hb; have GF : Aside0 (w.heap.size ≤ gf) := bz_ hg; replace HB := bs_ HB hb; clear hb hbox hg hx0 hx1 hx2 cd0 fd0 ca0 ca1 ca2 ca3 fa0 fa1 fa2 fa3 cr0 fr0 co0 fo0; obtain ⟨cd0, fd0⟩ := b1_ BD; obtain ⟨ca0, ca1, ca2, ca3, fa0, fa1, fa2, fa3⟩ := b4_ BA; obtain ⟨cr0, fr0⟩ := b1_ BR; obtain ⟨co0, fo0⟩ := b1_ BO; obtain ⟨cf0, cf1, cf2, ff0, ff1, ff2⟩ := b3_ BF; have hm1 := NDF.out; have hm2 := NAF.out; have hm3 := NRF.out; have hm4 := NOF.out; have hm5 := Ne.symm NDF.out; have hm6 := Ne.symm NAF.out; have hm7 := Ne.symm NRF.out; have hm8 := Ne.symm NOF.out))
  (refine bodyPost_ret (results_ct rfl _ _ gr 31 #[.slice none 0 0] (0, 0) _ rfl bu_ Try.underlying31 rfl (by kernel_rfl)) rfl ?_; exact ⟨_, rfl, Kd.R_nil _ _ _ _ _, bw_ HB⟩)
set_option maxHeartbeats 8000000 in
set_option maxRecDepth 100000 in
theorem impl_DoAct.move_ (k : Nat) (A0_0 : Option Addr) (c0_0 : Nat) (l0_0 : List S76) (a1 a2 a3 : ByteArray) (w : World) (hr0_0 : Kd.C k76 w A0_0 l0_0.length l0_0) (hc0_0 : l0_0.length ≤ c0_0) (kk : Nat) (hk : kk < l0_0.length) (hi : impl_fileAt.f l0_0 a1 = some (kk : Int)) (ht : impl_DiskOk.f k l0_0 = some true) (h2 : (a2.toList == ([] : List UInt8)) = true) (hl : l0_0.length < 3518437208000) (h4 : (a3.toList == a1.toList) = false) (h5 : (rd_T76 l0_0 (kk : Int)).f2 = ((rd_T76 l0_0 (kk : Int)).f1.size : Int)) (q o : List S76) (hq : l0_0.take kk ++ l0_0.drop (kk + 1) = q) (ho : putF q ⟨a3, (rd_T76 l0_0 (kk : Int)).f1, (rd_T76 l0_0 (kk : Int)).f2⟩ = o) (t2 : Bool) (ht2 : impl_DiskOk.f k o = some t2) :
  Calls Try.prog 13 #[.agg #[.slice A0_0 l0_0.length c0_0], .agg #[.int .i64 3, .string a1, .string a2, .string a3]] w fun e w' => ∃ v0_ : Value, e = .returned (.tuple #[.agg #[v0_], .bool t2]) ∧ Kd.R k76 76 w' w.heap.size (fun _ => True) v0_ (if t2 = true then o else []) ∧ Below w.heap.size w w' := by
 have hu29 := Try.underlying29
 have hu31 := Try.underlying31
 have hu35 := Try.underlying35
 have hu76 := Try.underlying76
 obtain ⟨ad, e0, hx0, hx1, hx2⟩ := at_T76 hr0_0 (kk : Int) (by omega) (by omega)
 cases e0
 simp only [Int.toNat_natCast] at hx0 hx1 hx2
 have hblk := World.block_lt_of_cell? _ _ hx0
 rw [add_block] at hblk
 have HBL := Aside0.mk hblk
 have HR := Aside0.mk hr0_0
 have HC := Aside0.mk hc0_0
 have HI := Aside0.mk hi
 have HT := Aside0.mk ht
 have HL := Aside0.mk hl
 have HCP : Aside0 (impl_copyDisk.f l0_0 = some l0_0) := mk_ (by unfold impl_copyDisk.f; rw [if_pos (by simp; omega)]; rfl)
 have HPOS : Aside0 (0 < l0_0.length) := ⟨by omega⟩
 have HK := Aside0.mk hk
 have hw1 : IntKind.i64.wrap ((kk : Int) + 1) = (kk : Int) + 1 := by rw [IntKind.wrap_i64]; omega
 have HQ := Aside0.mk hq
 have HO2 := Aside0.mk ho
 have HT2 := Aside0.mk ht2
 have HLQ : Aside0 (q.length < 3518437208000) := ⟨by rw [← hq, List.length_append, List.length_take, List.length_drop]; omega⟩
 clear hq ho ht2; clear hr0_0 hc0_0 hi ht hl hblk
 generalize hxx : rd_T76 l0_0 (kk : Int) = x at *
 clear hxx
 have HB := mk_ (Below.refl w.heap.size w)
 have hkz : (0 : Int) ≤ (kk : Int) := Int.natCast_nonneg kk
 have hkn : ¬ ((kk : Int) < 0) := by omega
 have hkl : (kk : Int) < (l0_0.length : Int) := by omega
 have h6 : (x.f2 != (x.f1.size : Int)) = false := by rw [h5]; simp
 have H5 := Aside0.mk h5
 clear h5
 cases t2
 all_goals
  go_enter Try.func13, Try.ntmps13
  go_wp2_with (first
   | ((with_reducible refine gate_dst (N := 2) rfl ?_); refine bx_ (N := 2) (cs := #[.slice (some ad) l0_0.length c0_0]) (t := 31) ?_; intro gd hg w1 hbox hb; have BD := Aside0.mk hbox; replace HB := bs_ HB hb; clear hb hbox hg)
   | ((with_reducible refine gate_dst (N := 3) rfl ?_); refine bx_ (N := 3) (cs := #[.int .i64 3, .string a1, .string a2, .string a3]) (t := 35) ?_; intro ga hg w2 hbox hb; have BA := Aside0.mk hbox; replace BD := bb_ BD hb; replace HB := bs_ HB hb; clear hb hbox hg)
   | ((with_reducible refine gate_dst (N := 4) rfl ?_); refine bx_ (N := 4) (cs := #[.slice none 0 0]) (t := 31) ?_; intro gr hg w3 hbox hb; have BR := Aside0.mk hbox; have GR : Aside0 (w.heap.size ≤ gr) := bz_ hg; have ND : Aside0 (gd ≠ gr) := bl_ BD hg; have NA : Aside0 (ga ≠ gr) := bl_ BA hg; replace BD := bb_ BD hb; replace BA := bb_ BA hb; replace HB := bs_ HB hb; clear hb hbox hg; obtain ⟨cd0, fd0⟩ := b1_ BD; obtain ⟨ca0, ca1, ca2, ca3, fa0, fa1, fa2, fa3⟩ := b4_ BA)
   | (go_at_call 44; (with_reducible refine (impl_fileAt.calls _ _ l0_0 a1 _ _ (Kd.C_below HR.out (bw_ HB)) HC.out HI.out).mono ?_); rintro e w4 ⟨rfl, hb⟩; replace BD := bb_ BD hb; replace BA := bb_ BA hb; replace BR := bb_ BR hb; replace HB := bs_ HB hb; clear hb cd0 fd0 ca0 ca1 ca2 ca3 fa0 fa1 fa2 fa3; obtain ⟨cd0, fd0⟩ := b1_ BD; obtain ⟨ca0, ca1, ca2, ca3, fa0, fa1, fa2, fa3⟩ := b4_ BA; obtain ⟨cr0, fr0⟩ := b1_ BR)
   | (go_at_call 45; (with_reducible refine (impl_DiskOk.calls k _ _ l0_0 _ _ (Kd.C_below HR.out HB.out) HC.out HT.out).mono ?_); rintro e w5 ⟨rfl, hb⟩; replace BD := bb_ BD hb; replace BA := bb_ BA hb; replace BR := bb_ BR hb; replace HB := bs_ HB hb; clear hb cd0 fd0 ca0 ca1 ca2 ca3 fa0 fa1 fa2 fa3 cr0 fr0; obtain ⟨cd0, fd0⟩ := b1_ BD; obtain ⟨ca0, ca1, ca2, ca3, fa0, fa1, fa2, fa3⟩ := b4_ BA; obtain ⟨cr0, fr0⟩ := b1_ BR)
   | (go_at_call 46; (with_reducible refine (impl_copyDisk.calls _ _ l0_0 l0_0 _ (Kd.C_below HR.out (bw_ HB)) HC.out HCP.out).mono ?_); rintro e w6 ⟨v0, rfl, ho0, hb⟩; have HO := mk_ (Kd.R_lower ho0 (below_size (bw_ HB))); obtain ⟨go, co_, eo⟩ := own_slice76 HO.out HPOS.out; subst eo; replace BD := bb_ BD hb; replace BA := bb_ BA hb; replace BR := bb_ BR hb; replace HB := bs_ HB hb; clear hb ho0 cd0 fd0 ca0 ca1 ca2 ca3 fa0 fa1 fa2 fa3 cr0 fr0; obtain ⟨cd0, fd0⟩ := b1_ BD; obtain ⟨ca0, ca1, ca2, ca3, fa0, fa1, fa2, fa3⟩ := b4_ BA; obtain ⟨cr0, fr0⟩ := b1_ BR)
   | ((with_reducible refine gate_dst (N := 7) rfl ?_); refine bx_ (N := 7) (cs := #[.slice none 0 0]) (t := 31) ?_; intro gO hg w7 hbox hb; have BO := Aside0.mk hbox; have GO : Aside0 (w.heap.size ≤ gO) := bz_ hg; have NDO := bl_ BD hg; have NAO := bl_ BA hg; have NRO := bl_ BR hg; have NOR := bg_ BR hg; replace BD := bb_ BD hb; replace BA := bb_ BA hb; replace BR := bb_ BR hb; replace HO := rb_ HO hb; replace HB := bs_ HB hb; clear hb hbox hg cd0 fd0 ca0 ca1 ca2 ca3 fa0 fa1 fa2 fa3 cr0 fr0; obtain ⟨cd0, fd0⟩ := b1_ BD; obtain ⟨ca0, ca1, ca2, ca3, fa0, fa1, fa2, fa3⟩ := b4_ BA; obtain ⟨cr0, fr0⟩ := b1_ BR; obtain ⟨co0, fo0⟩ := b1_ BO; have hn1 := NDO.out; have hn2 := NAO.out; have hn3 := NRO.out; have hn4 := NOR.out; have hn5 := Ne.symm NDO.out; have hn6 := Ne.symm NAO.out)
   | ((with_reducible refine gate_dst (N := 82) rfl ?_); refine abs_ (fun W => W.heap[gO]? = some (.cells #[(.slice (some ⟨go, 0, none⟩) l0_0.length co_)] 31 (0, 0)) ∧ W.heap[gr]? = some (.cells #[.slice none 0 0] 31 (0, 0)) ∧ W.heap[gd]? = some (.cells #[.slice (some ad) l0_0.length c0_0] 31 (0, 0)) ∧ W.heap[ga]? = some (.cells #[.int .i64 3, .string a1, .string a2, .string a3] 35 (0, 0)) ∧ k76.R 76 W w.heap.size (fun k => True ∧ k ≠ gO) (.slice (some ⟨go, 0, none⟩) l0_0.length co_) l0_0 ∧ Below w.heap.size w W) ⟨bu_, bf_, bf_, bf_, Kd.R_types (g := gO) (t := 31) (cells := #[(.slice (some ⟨go, 0, none⟩) l0_0.length co_)]) (Kd.R_set HO.out BO.out (by decide) 0 _) bu_ (by decide), bw_ HB⟩ ?_; clear HO HB BO BR BD BA cd0 fd0 ca0 ca1 ca2 ca3 fa0 fa1 fa2 fa3 cr0 fr0 co0 fo0; intro wc ⟨qo, qr, qd, qa, qh, qb⟩; have BO := Aside0.mk qo; have BR := Aside0.mk qr; have BD := Aside0.mk qd; have BA := Aside0.mk qa; have HO := Aside0.mk qh; have HB := Aside0.mk qb; replace hx0 := hc_ HB hx0; replace hx1 := hc_ HB hx1; replace hx2 := hc_ HB hx2; clear qo qr qd qa qh qb; obtain ⟨cd0, fd0⟩ := b1_ BD; obtain ⟨ca0, ca1, ca2, ca3, fa0, fa1, fa2, fa3⟩ := b4_ BA; obtain ⟨cr0, fr0⟩ := b1_ BR; obtain ⟨co0, fo0⟩ := b1_ BO; refine Kd.event_run (v := .bool true) rfl (by first | (go_simp; done) | (go_simp; rfl)) ?_)
   | ((with_reducible refine gate_dst (N := 9) rfl ?_); refine bx_ (N := 9) (cs := #[.string ⟨#[]⟩, .string ⟨#[]⟩, .int .i64 0]) (t := 76) ?_; intro gf hg w8 hbox hb; have BF := Aside0.mk hbox; have NDF := bl_ BD hg; have NAF := bl_ BA hg; have NRF := bl_ BR hg; have NOF := bl_ BO hg; have NFO := mk_ (Ne.symm NOF.out); replace HO : Aside0 (k76.R 76 w8 w.heap.size (fun k => (True ∧ k ≠ gO) ∧ k ≠ gf) (.slice (some ⟨go, 0, none⟩) l0_0.length co_) l0_0) := ⟨Kd.R_below (Kd.R_mono (Kd.R_bound HO.out) (fun k hk => ⟨hk.1, by have := hk.2.2.1; omega⟩)) hb⟩; replace BD := bb_ BD hb; replace BA := bb_ BA hb; replace BR := bb_ BR hb; replace BO := bb_ BO hb; have GF : Aside0 (w.heap.size ≤ gf) := bz_ hg; replace HB := bs_ HB hb; clear hb hbox hg hx0 hx1 hx2 cd0 fd0 ca0 ca1 ca2 ca3 fa0 fa1 fa2 fa3 cr0 fr0 co0 fo0; obtain ⟨cd0, fd0⟩ := b1_ BD; obtain ⟨ca0, ca1, ca2, ca3, fa0, fa1, fa2, fa3⟩ := b4_ BA; obtain ⟨cr0, fr0⟩ := b1_ BR; obtain ⟨co0, fo0⟩ := b1_ BO; obtain ⟨cf0, cf1, cf2, ff0, ff1, ff2⟩ := b3_ BF; have hm1 := NDF.out; have hm2 := NAF.out; have hm3 := NRF.out; have hm4 := NOF.out; have hm5 := Ne.symm NDF.out; have hm6 := Ne.symm NAF.out; have hm7 := Ne.symm NRF.out; have hm8 := Ne.symm NOF.out)
   | ((with_reducible refine gate_dst (N := 102) rfl ?_); refine abs_ (fun W => W.heap[gf]? = some (.cells #[.string x.f0, .string x.f1, .int .i64 x.f2] 76 (0, 0)) ∧ W.heap[gO]? = some (.cells #[(.slice (some ⟨go, 0, none⟩) l0_0.length co_)] 31 (0, 0)) ∧ W.heap[gr]? = some (.cells #[.slice none 0 0] 31 (0, 0)) ∧ W.heap[gd]? = some (.cells #[.slice (some ad) l0_0.length c0_0] 31 (0, 0)) ∧ W.heap[ga]? = some (.cells #[.int .i64 3, .string a1, .string a2, .string a3] 35 (0, 0)) ∧ k76.R 76 W w.heap.size (fun k => (True ∧ k ≠ gO) ∧ k ≠ gf) (.slice (some ⟨go, 0, none⟩) l0_0.length co_) l0_0 ∧ Below w.heap.size w W) ⟨bu_, bf_, bf_, bf_, bf_, rk_ HO.out, bw_ HB⟩ ?_; clear HO HB BF BO BR BD BA cd0 fd0 ca0 ca1 ca2 ca3 fa0 fa1 fa2 fa3 cr0 fr0 co0 fo0 cf0 cf1 cf2 ff0 ff1 ff2; intro wc ⟨qf, qo, qr, qd, qa, qh, qb⟩; have BF := Aside0.mk qf; have BO := Aside0.mk qo; have BR := Aside0.mk qr; have BD := Aside0.mk qd; have BA := Aside0.mk qa; have HO := Aside0.mk qh; have HB := Aside0.mk qb; clear qf qo qr qd qa qh qb; obtain ⟨cd0, fd0⟩ := b1_ BD; obtain ⟨ca0, ca1, ca2, ca3, fa0, fa1, fa2, fa3⟩ := b4_ BA; obtain ⟨cr0, fr0⟩ := b1_ BR; obtain ⟨co0, fo0⟩ := b1_ BO; obtain ⟨cf0, cf1, cf2, ff0, ff1, ff2⟩ := b3_ BF; refine Kd.event_run (v := .pointer (some ⟨gO, 0, none⟩)) rfl (by first | (go_simp; done) | (go_simp; rfl)) ?_)
   | (go_at_call 48; refine (fileDeleteR w.heap.size _ go co_ kk l0_0 q _ HK.out HL.out HO.out HQ.out).mono ?_; rintro e w9 ⟨rfl, hrow, hg9⟩; have HON : Aside0 (gO ≠ go) := ⟨Ne.symm (HO.out.1 go rfl).1.2⟩; have HFN : Aside0 (gf ≠ go) := ⟨Ne.symm (HO.out.1 go rfl).2⟩; have HRN : Aside0 (gr ≠ go) := ⟨blk_ne BR.out (Kd.R_typed HO.out go rfl).choose_spec (by decide)⟩; have HAN : Aside0 (ga ≠ go) := ⟨blk_ne BA.out (Kd.R_typed HO.out go rfl).choose_spec (by decide)⟩; replace BO := mk_ (blk_grown BO.out hg9 (fun e => HON.out (Option.some.inj e))); replace BF := mk_ (blk_grown BF.out hg9 (fun e => HFN.out (Option.some.inj e))); replace BR := mk_ (blk_grown BR.out hg9 (fun e => HRN.out (Option.some.inj e))); replace BA := mk_ (blk_grown BA.out hg9 (fun e => HAN.out (Option.some.inj e))); replace HB := mk_ (pw_below_grown HB.out (some go) HB.out.size hg9 (fun k e => by rw [← Option.some.inj e]; exact Kd.R_base HO.out go rfl)); replace HO := Aside0.mk hrow; clear hrow hg9 BD cf0 cf1 cf2 ff0 ff1 ff2 cd0 fd0 ca0 ca1 ca2 ca3 fa0 fa1 fa2 fa3 cr0 fr0 co0 fo0; obtain ⟨ca0, ca1, ca2, ca3, fa0, fa1, fa2, fa3⟩ := b4_ BA; obtain ⟨cr0, fr0⟩ := b1_ BR; obtain ⟨co0, fo0⟩ := b1_ BO; obtain ⟨cf0, cf1, cf2, ff0, ff1, ff2⟩ := b3_ BF)
   | ((with_reducible refine gate_dst (N := 112) rfl ?_); refine abs_ (fun W => W.heap[gf]? = some (.cells #[.string a3, .string x.f1, .int .i64 x.f2] 76 (0, 0)) ∧ W.heap[gO]? = some (.cells #[(.slice (some ⟨go, 0, none⟩) q.length co_)] 31 (0, 0)) ∧ W.heap[gr]? = some (.cells #[.slice none 0 0] 31 (0, 0)) ∧ k76.R 76 W w.heap.size (fun k => (True ∧ k ≠ gO) ∧ k ≠ gf) (.slice (some ⟨go, 0, none⟩) q.length co_) q ∧ Below w.heap.size w W) ⟨bu_, bu_, bf_, Kd.R_move HO.out (fun k hk => (Below.heap_setCell _ _ _ k hk.2).trans (Below.heap_setCell _ _ _ k hk.1.2)), bw_ HB⟩ ?_; clear HO HB BF BO BR BA cf0 cf1 cf2 ff0 ff1 ff2 ca0 ca1 ca2 ca3 fa0 fa1 fa2 fa3 cr0 fr0 co0 fo0; intro wc_ ⟨qf, qo, qr, qh, qb⟩; have BF := Aside0.mk qf; have BO := Aside0.mk qo; have BR := Aside0.mk qr; have HO := Aside0.mk qh; have HB := Aside0.mk qb; clear qf qo qr qh qb; obtain ⟨cr0, fr0⟩ := b1_ BR; obtain ⟨co0, fo0⟩ := b1_ BO; obtain ⟨cf0, cf1, cf2, ff0, ff1, ff2⟩ := b3_ BF; refine Kd.event_run (v := .agg #[.string a3, .string x.f1, .int .i64 x.f2]) rfl (by first | (go_simp; done) | (go_simp; rfl)) ?_)
   | (go_at_call 47; (with_reducible refine (impl_putFile.calls w.heap.size (fun _ => True) gO (.slice (some ⟨go, 0, none⟩) q.length co_) q ⟨a3, x.f1, x.f2⟩ _ HLQ.out ?b1 ?b2 ?b3 GO.out (fun _ _ => trivial)).mono ?_); (case b1 => exact bf_); (case b2 => exact rm_ HO.out); (case b3 => exact below_size (bw_ HB)); rintro e w9 ⟨rfl, v9, hbk, hr, hb, hkp⟩; have BR9 := hkp gr (blk_lt (o := .cells #[.slice none 0 0] 31 (0, 0)) bf_) NRO.out (Kd.R_ne HO.out BR.out (by decide)); replace BR := mk_ (BR9.trans bf_); replace HB := mk_ ((bw_ HB).trans hb); rw [HO2.out] at hr; obtain ⟨A9, c9, e9⟩ := Kd.R_slice hr; subst e9; have HO9 := Aside0.mk hr; replace BO := Aside0.mk hbk; clear hbk hr hb hkp BR9 cf0 cf1 cf2 ff0 ff1 ff2 cr0 fr0 co0 fo0; obtain ⟨co0, fo0⟩ := b1_ BO; obtain ⟨cr0, fr0⟩ := b1_ BR)
   | (go_at_call 45; (with_reducible refine (impl_DiskOk.calls k _ _ o _ _ (Kd.R_reads' HO9.out).2.2 (Kd.R_reads' HO9.out).2.1 HT2.out).mono ?_); rintro e w10 ⟨rfl, hb⟩; replace BO := bb_ BO hb; replace BR := bb_ BR hb; replace HO9 := rb_ HO9 hb; replace HB := bs_ HB hb; clear hb co0 fo0 cr0 fr0; obtain ⟨co0, fo0⟩ := b1_ BO; obtain ⟨cr0, fr0⟩ := b1_ BR))
  first
   | (refine bodyPost_ret (results_ct rfl _ _ gr 31 #[.slice none 0 0] (0, 0) _ rfl (by simpa using blk_set BR.out 0 (.slice none 0 0)) Try.underlying31 rfl (by kernel_rfl)) rfl ?_; exact ⟨_, rfl, Kd.R_nil _ _ _ _ _, below_set HB.out GR.out⟩)
   | (refine bodyPost_ret (results_ct rfl _ _ gr 31 #[.slice A9 o.length c9] (0, 0) _ rfl (by simpa using blk_set BR.out 0 (.slice A9 o.length c9)) Try.underlying31 rfl (by kernel_rfl)) rfl ?_; exact ⟨_, rfl, Kd.R_mono (Kd.R_set HO9.out BR.out (by decide) 0 _) (fun _ _ => trivial), below_set HB.out GR.out⟩)
set_option maxHeartbeats 8000000 in
set_option maxRecDepth 100000 in
theorem impl_DoAct.other (k : Nat) (A0_0 : Option Addr) (c0_0 : Nat) (l0_0 : List S76) (a0 : Int) (a1 a2 a3 : ByteArray) (w : World) (hr0_0 : Kd.C k76 w A0_0 l0_0.length l0_0) (hc0_0 : l0_0.length ≤ c0_0) (kk : Nat) (hk : kk < l0_0.length) (hi : impl_fileAt.f l0_0 a1 = some (kk : Int)) (ht : impl_DiskOk.f k l0_0 = some true) (h2 : (a2.toList == ([] : List UInt8)) = true) (h3 : (a3.toList == ([] : List UInt8)) = true)
  (hl : l0_0.length < 3518437208000) (n1 : a0 ≠ 1) (n2 : a0 ≠ 2) (n3 : a0 ≠ 3) (n4 : a0 ≠ 4) :
  Calls Try.prog 13 #[.agg #[.slice A0_0 l0_0.length c0_0], .agg #[.int .i64 a0, .string a1, .string a2, .string a3]] w fun e w' => ∃ v0_ : Value, e = .returned (.tuple #[.agg #[v0_], .bool false]) ∧ Kd.R k76 76 w' w.heap.size (fun _ => True) v0_ [] ∧ Below w.heap.size w w' := by
 have hu29 := Try.underlying29
 have hu31 := Try.underlying31
 have hu35 := Try.underlying35
 have hu76 := Try.underlying76
 have HR := Aside0.mk hr0_0
 have HC := Aside0.mk hc0_0
 have HI := Aside0.mk hi
 have HT := Aside0.mk ht
 have HCP : Aside0 (impl_copyDisk.f l0_0 = some l0_0) := mk_ (by unfold impl_copyDisk.f; rw [if_pos (by simp; omega)]; rfl)
 clear hr0_0 hc0_0 hi ht hl
 have HB := mk_ (Below.refl w.heap.size w)
 have hkz : (0 : Int) ≤ (kk : Int) := Int.natCast_nonneg kk
 have hkn : ¬ ((kk : Int) < 0) := by omega
 have hkl : (kk : Int) < (l0_0.length : Int) := by omega
 go_enter Try.func13, Try.ntmps13
 go_wp2_with (first
   | ((with_reducible refine gate_dst (N := 2) rfl ?_); refine bx_ (N := 2) (cs := #[.slice A0_0 l0_0.length c0_0]) (t := 31) ?_; intro gd hg w1 hbox hb; have BD := Aside0.mk hbox; replace HB := bs_ HB hb; clear hb hbox hg)
   | ((with_reducible refine gate_dst (N := 3) rfl ?_); refine bx_ (N := 3) (cs := #[.int .i64 a0, .string a1, .string a2, .string a3]) (t := 35) ?_; intro ga hg w2 hbox hb; have BA := Aside0.mk hbox; replace BD := bb_ BD hb; replace HB := bs_ HB hb; clear hb hbox hg)
   | ((with_reducible refine gate_dst (N := 4) rfl ?_); refine bx_ (N := 4) (cs := #[.slice none 0 0]) (t := 31) ?_; intro gr hg w3 hbox hb; have BR := Aside0.mk hbox; have GR : Aside0 (w.heap.size ≤ gr) := bz_ hg; have ND : Aside0 (gd ≠ gr) := bl_ BD hg; have NA : Aside0 (ga ≠ gr) := bl_ BA hg; replace BD := bb_ BD hb; replace BA := bb_ BA hb; replace HB := bs_ HB hb; clear hb hbox hg; obtain ⟨cd0, fd0⟩ := b1_ BD; obtain ⟨ca0, ca1, ca2, ca3, fa0, fa1, fa2, fa3⟩ := b4_ BA)
   | (go_at_call 44; (with_reducible refine (impl_fileAt.calls _ _ l0_0 a1 _ _ (Kd.C_below HR.out (bw_ HB)) HC.out HI.out).mono ?_); rintro e w4 ⟨rfl, hb⟩; replace BD := bb_ BD hb; replace BA := bb_ BA hb; replace BR := bb_ BR hb; replace HB := bs_ HB hb; clear hb cd0 fd0 ca0 ca1 ca2 ca3 fa0 fa1 fa2 fa3; obtain ⟨cd0, fd0⟩ := b1_ BD; obtain ⟨ca0, ca1, ca2, ca3, fa0, fa1, fa2, fa3⟩ := b4_ BA; obtain ⟨cr0, fr0⟩ := b1_ BR)
   | (go_at_call 45; (with_reducible refine (impl_DiskOk.calls k _ _ l0_0 _ _ (Kd.C_below HR.out HB.out) HC.out HT.out).mono ?_); rintro e w5 ⟨rfl, hb⟩; replace BD := bb_ BD hb; replace BA := bb_ BA hb; replace BR := bb_ BR hb; replace HB := bs_ HB hb; clear hb cd0 fd0 ca0 ca1 ca2 ca3 fa0 fa1 fa2 fa3 cr0 fr0; obtain ⟨cd0, fd0⟩ := b1_ BD; obtain ⟨ca0, ca1, ca2, ca3, fa0, fa1, fa2, fa3⟩ := b4_ BA; obtain ⟨cr0, fr0⟩ := b1_ BR)
   | (go_at_call 46; (with_reducible refine (impl_copyDisk.calls _ _ l0_0 l0_0 _ (Kd.C_below HR.out (bw_ HB)) HC.out HCP.out).mono ?_); rintro e w6 ⟨v0, rfl, ho0, hb⟩; have HO := mk_ (Kd.R_lower ho0 (below_size (bw_ HB))); obtain ⟨Ao, co_, eo⟩ := Kd.R_slice HO.out; subst eo; replace BD := bb_ BD hb; replace BA := bb_ BA hb; replace BR := bb_ BR hb; replace HB := bs_ HB hb; clear hb ho0 cd0 fd0 ca0 ca1 ca2 ca3 fa0 fa1 fa2 fa3 cr0 fr0; obtain ⟨cd0, fd0⟩ := b1_ BD; obtain ⟨ca0, ca1, ca2, ca3, fa0, fa1, fa2, fa3⟩ := b4_ BA; obtain ⟨cr0, fr0⟩ := b1_ BR)
   | ((with_reducible refine gate_dst (N := 7) rfl ?_); refine bx_ (N := 7) (cs := #[.slice none 0 0]) (t := 31) ?_; intro gO hg w7 hbox hb; have BO := Aside0.mk hbox; have GO : Aside0 (w.heap.size ≤ gO) := bz_ hg; have NDO := bl_ BD hg; have NAO := bl_ BA hg; have NRO := bl_ BR hg; have NOR := bg_ BR hg; replace BD := bb_ BD hb; replace BA := bb_ BA hb; replace BR := bb_ BR hb; replace HO := rb_ HO hb; replace HB := bs_ HB hb; clear hb hbox hg cd0 fd0 ca0 ca1 ca2 ca3 fa0 fa1 fa2 fa3 cr0 fr0; obtain ⟨cd0, fd0⟩ := b1_ BD; obtain ⟨ca0, ca1, ca2, ca3, fa0, fa1, fa2, fa3⟩ := b4_ BA; obtain ⟨cr0, fr0⟩ := b1_ BR; obtain ⟨co0, fo0⟩ := b1_ BO; have hn1 := NDO.out; have hn2 := NAO.out; have hn3 := NRO.out; have hn4 := NOR.out; have hn5 := Ne.symm NDO.out; have hn6 := Ne.symm NAO.out))
 (refine bodyPost_ret (results_ct rfl _ _ gr 31 #[.slice none 0 0] (0, 0) _ rfl bu_ Try.underlying31 rfl (by kernel_rfl)) rfl ?_; exact ⟨_, rfl, Kd.R_nil _ _ _ _ _, bw_ HB⟩)
theorem impl_DoAct.end_some (k : Nat) (o r1 : List S76) (r2 : Bool) (h : impl_DoAct.end_ k (some o) = some (r1, r2)) : impl_DiskOk.f k o = some r2 ∧ r1 = if r2 = true then o else [] := by
 simp only [impl_DoAct.end_] at h
 cases hd : impl_DiskOk.f k o with
 | none => rw [hd] at h; simp at h
 | some t =>
  rw [hd, Option.bind_some] at h
  cases t <;> simp at h <;> obtain ⟨rfl, rfl⟩ := h <;> simp
theorem impl_DoAct.calls (k : Nat) (A0_0 : Option Addr) (c0_0 : Nat) (l0_0 : List S76) (a1_0 : Int) (a1_1 a1_2 a1_3 : ByteArray) (r1 : List S76) (r2 : Bool) (w : World) (hr0_0 : Kd.C k76 w A0_0 l0_0.length l0_0) (hc0_0 : l0_0.length ≤ c0_0) (h : impl_DoAct.f k l0_0 a1_0 a1_1 a1_2 a1_3 = some (r1, r2)) :
  Calls Try.prog 13 #[.agg #[.slice A0_0 l0_0.length c0_0], .agg #[.int .i64 a1_0, .string a1_1, .string a1_2, .string a1_3]] w fun e w' => ∃ v0_ : Value, e = .returned (.tuple #[.agg #[v0_], .bool r2]) ∧ Kd.R k76 76 w' w.heap.size (fun _ => True) v0_ r1 ∧ Below w.heap.size w w' := by
 have hi : impl_fileAt.f l0_0 a1_1 = some (impl_DoAct.at_ l0_0 a1_1) := rfl
 unfold impl_DoAct.f at h
 cases ht : impl_DiskOk.f k l0_0 with
 | none => rw [ht] at h; cases h
 | some t =>
 rw [ht, Option.bind_some] at h
 by_cases hgo : impl_DoAct.go_ l0_0 a1_0 a1_1 a1_2 a1_3 t = true
 rotate_left
 ·rw [if_neg hgo] at h
  simp at h
  obtain ⟨rfl, rfl⟩ := h
  refine impl_DoAct.not_ k A0_0 c0_0 l0_0 a1_0 a1_1 a1_2 a1_3 w hr0_0 hc0_0 _ hi t ht ?_
  cases t with
  | false => exact .inl rfl
  | true =>
   simp only [impl_DoAct.go_, Bool.true_and, Bool.and_eq_true, Bool.or_eq_true, decide_eq_true_eq, Decidable.not_and_iff_not_or_not, not_or, Int.not_le, Bool.not_eq_true] at hgo
   by_cases e3 : a1_0 = 3
   ·subst e3
    rcases hgo with ⟨g, _⟩ | ⟨_, g⟩
    ·exact absurd rfl g
    ·cases hz : (a1_2.toList == ([] : List UInt8)) with
     | false => exact .inr (.inr (.inl ⟨rfl, rfl, rfl⟩))
     | true => rw [hz] at g; exact g.elim (fun g => absurd g (by decide)) (fun g => .inr (.inr (.inr (.inl ⟨rfl, rfl, rfl, g⟩))))
   ·cases h3 : (a1_3.toList == ([] : List UInt8)) with
    | false => exact .inr (.inl ⟨rfl, e3, rfl⟩)
    | true =>
     rw [h3] at hgo
     rcases hgo with ⟨_, g⟩ | ⟨g1, g⟩
     ·exact absurd g (by decide)
     ·cases hz : (a1_2.toList == ([] : List UInt8)) with
      | false => exact .inr (.inr (.inr (.inr (.inl ⟨rfl, e3, rfl, g1, rfl⟩))))
      | true => rw [hz] at g; exact g.elim (fun g => absurd g (by decide)) (fun g => .inr (.inr (.inr (.inr (.inr ⟨rfl, e3, rfl, g1, rfl, g⟩)))))
 rw [if_pos hgo] at h
 by_cases hb : l0_0.length < 3518437208000 ∧ (impl_DoAct.add_ l0_0 a1_1 a1_2).f1.size ≤ 9223372036854775807
 rotate_left
 ·rw [if_neg hb] at h; cases h
 rw [if_pos hb] at h
 obtain ⟨hl, hz⟩ := hb
 have hat : impl_DoAct.at_ l0_0 a1_1 = -1 ∨ ∃ kk : Nat, kk < l0_0.length ∧ impl_DoAct.at_ l0_0 a1_1 = (kk : Int) := by
  rcases M.idxP_cases (fun x : S76 => x.f0.toList == a1_1.toList) l0_0 0 with ⟨e, _⟩ | ⟨k, hk, e, _⟩
  ·exact .inl e
  ·exact .inr ⟨k, hk, by rw [impl_DoAct.at_, e]; omega⟩
 simp only [impl_DoAct.go_, Bool.and_eq_true, Bool.or_eq_true, decide_eq_true_eq] at hgo
 obtain ⟨⟨rfl, g3⟩, g1⟩ := hgo
 by_cases e1 : a1_0 = 1
 ·subst e1
  have h3 : (a1_3.toList == ([] : List UInt8)) = true := by exact g3.elim (fun g3 => absurd g3 (by decide)) (fun g3 => g3)
  simp only [impl_DoAct.out, if_true] at h
  obtain ⟨d1, d2⟩ := impl_DoAct.end_some _ _ _ _ h
  rw [d2]
  rcases hat with e | ⟨kk, hkk, e⟩
  rotate_left
  ·rw [e] at hi
   have ha : impl_DoAct.add_ l0_0 a1_1 a1_2 = ⟨(rd_T76 l0_0 (kk : Int)).f0, (rd_T76 l0_0 (kk : Int)).f1 ++ a1_2, (rd_T76 l0_0 (kk : Int)).f2⟩ := by simp [impl_DoAct.add_, e]
   rw [ha] at hz d1 ⊢
   exact impl_DoAct.add_old k A0_0 c0_0 l0_0 a1_1 a1_2 a1_3 w hr0_0 hc0_0 kk hkk hi ht h3 hl hz _ rfl r2 d1
  rw [e] at hi
  have ha : impl_DoAct.add_ l0_0 a1_1 a1_2 = ⟨a1_1, (⟨#[]⟩ : ByteArray) ++ a1_2, 0⟩ := by simp [impl_DoAct.add_, e]
  rw [ha] at hz d1 ⊢
  exact impl_DoAct.add_new k A0_0 c0_0 l0_0 a1_1 a1_2 a1_3 w hr0_0 hc0_0 hi ht h3 hl hz _ rfl r2 d1
 obtain ⟨h2, hat0⟩ : (a1_2.toList == ([] : List UInt8)) = true ∧ 0 ≤ impl_DoAct.at_ l0_0 a1_1 := by exact g1.elim (fun g1 => absurd g1 e1) (fun g1 => g1)
 obtain ⟨kk, hkk, e⟩ : ∃ kk : Nat, kk < l0_0.length ∧ impl_DoAct.at_ l0_0 a1_1 = (kk : Int) := by exact hat.elim (fun hat => by omega) (fun hat => hat)
 rw [e] at hi
 by_cases e3 : a1_0 = 3
 rotate_left
 ·have h3 : (a1_3.toList == ([] : List UInt8)) = true := by exact g3.elim (fun g3 => absurd g3 e3) (fun g3 => g3)
  by_cases e2 : a1_0 = 2
  ·subst e2
   simp only [impl_DoAct.out, if_true, if_neg (show ¬ (2 : Int) = 1 by decide), e, Int.toNat_natCast] at h
   obtain ⟨d1, d2⟩ := impl_DoAct.end_some _ _ _ _ h
   rw [d2]
   exact impl_DoAct.keep k A0_0 c0_0 l0_0 a1_1 a1_2 a1_3 w hr0_0 hc0_0 kk hkk hi ht h2 h3 hl _ rfl r2 d1
  by_cases e4 : a1_0 = 4
  rotate_left
  ·simp only [impl_DoAct.out, if_neg e1, if_neg e2, if_neg e3, if_neg e4] at h
   simp [impl_DoAct.end_] at h
   obtain ⟨rfl, rfl⟩ := h
   exact impl_DoAct.other k A0_0 c0_0 l0_0 a1_0 a1_1 a1_2 a1_3 w hr0_0 hc0_0 kk hkk hi ht h2 h3 hl e1 e2 e3 e4
  subst e4
  simp only [impl_DoAct.out, if_true, if_neg (show ¬ (4 : Int) = 1 by decide), if_neg (show ¬ (4 : Int) = 2 by decide), if_neg (show ¬ (4 : Int) = 3 by decide), e, Int.toNat_natCast] at h
  obtain ⟨d1, d2⟩ := impl_DoAct.end_some _ _ _ _ h
  rw [d2]
  exact impl_DoAct.drop_ k A0_0 c0_0 l0_0 a1_1 a1_2 a1_3 w hr0_0 hc0_0 kk hkk hi ht h2 h3 hl _ rfl r2 d1
 subst e3
 simp only [impl_DoAct.out, if_true, if_neg (show ¬ (3 : Int) = 1 by decide), if_neg (show ¬ (3 : Int) = 2 by decide), e, Int.toNat_natCast] at h
 by_cases e4 : a1_3.toList = a1_1.toList
 ·rw [if_pos e4] at h
  simp [impl_DoAct.end_] at h
  obtain ⟨rfl, rfl⟩ := h
  exact impl_DoAct.move_no k A0_0 c0_0 l0_0 a1_1 a1_2 a1_3 w hr0_0 hc0_0 kk hkk hi ht h2 hl (.inl (by simpa using e4))
 rw [if_neg e4] at h
 by_cases e5 : (rd_T76 l0_0 (kk : Int)).f2 = ((rd_T76 l0_0 (kk : Int)).f1.size : Int)
 rotate_left
 ·rw [if_neg e5] at h
  simp [impl_DoAct.end_] at h
  obtain ⟨rfl, rfl⟩ := h
  exact impl_DoAct.move_no k A0_0 c0_0 l0_0 a1_1 a1_2 a1_3 w hr0_0 hc0_0 kk hkk hi ht h2 hl (.inr ⟨by simpa using e4, by simpa using e5⟩)
 rw [if_pos e5] at h
 obtain ⟨d1, d2⟩ := impl_DoAct.end_some _ _ _ _ h
 rw [d2]
 exact impl_DoAct.move_ k A0_0 c0_0 l0_0 a1_1 a1_2 a1_3 w hr0_0 hc0_0 kk hkk hi ht h2 hl (by simpa using e4) e5 _ _ rfl rfl r2 d1

/-! ### spec_l01In: function 61 -/
def spec_l01In.f (a0 : Int) (a1 : Int) (a2 : Int) : Option (Bool) := if a0 ≥ a1 then (some (decide (a0 ≤ a2))) else (some false)
set_option maxHeartbeats 8000000 in
set_option maxRecDepth 100000 in
theorem spec_l01In.calls (a0 : Int) (a1 : Int) (a2 : Int) (r : Bool) (w : World) (h : spec_l01In.f a0 a1 a2 = some r) :
  Calls Try.prog 61 #[.int .i64 a0, .int .i64 a1, .int .i64 a2] w fun e w' => e = .returned (.bool r) ∧ Drawn0 w w' := by
 have H : (if a0 ≥ a1 then (some (decide (a0 ≤ a2))) else (some false)) = some r := h
 clear h
 by_cases c4 : a0 ≥ a1
 rotate_left
 ·rw [if_neg c4] at H
  have c4b0 : decide (a1 ≤ a0) = false := decide_eq_false c4
  clear c4
  obtain rfl := Option.some.inj H
  go_enter Try.func61, Try.ntmps61
  go_wp2
  go_ret
  exact ⟨by first | rfl | (simp; done) | (simp [*]; done) | (simp [bne]; done), by repeat (first | exact Drawn0.refl _ | apply Drawn0.step)⟩
 rw [if_pos c4] at H
 have c4b0 : decide (a1 ≤ a0) = true := decide_eq_true c4
 clear c4
 obtain rfl := Option.some.inj H
 go_enter Try.func61, Try.ntmps61
 go_wp2
 go_ret
 exact ⟨by first | rfl | (simp; done) | (simp [*]; done) | (simp [bne]; done), by repeat (first | exact Drawn0.refl _ | apply Drawn0.step)⟩

/-! ### spec_l03Name: function 39 -/
def spec_l03Name.f (a0 : ByteArray) : Option (Bool) := (spec_l01In.f (a0.size : Int) 1 8).bind fun t112 => (some t112)
set_option maxHeartbeats 8000000 in
set_option maxRecDepth 100000 in
theorem spec_l03Name.calls (a0 : ByteArray) (r : Bool) (w : World) (h : spec_l03Name.f a0 = some r) :
  Calls Try.prog 39 #[.string a0] w fun e w' => e = .returned (.bool r) ∧ Drawn0 w w' := by
 have H : ((spec_l01In.f (a0.size : Int) 1 8).bind fun t112 => (some t112)) = some r := h
 clear h
 replace H := Option.bind_eq_some_iff.mp H
 obtain ⟨t112, A20, H⟩ := H
 try dsimp only at H
 have A2 := Aside0.mk A20
 clear A20
 obtain rfl := Option.some.inj H
 go_enter Try.func39, Try.ntmps39
 go_wp2_with (first | ((with_reducible refine gate_callee (f := 61) rfl ?_); refine gl_ 5 Try.func61 #[.int .i64 (a0.size : Int), .int .i64 1, .int .i64 8] ?_; (with_reducible refine (spec_l01In.calls (a0.size : Int) 1 8 t112 _ A2.out).mono ?_); rintro e w' ⟨rfl, ⟨nd, rfl⟩⟩; refine ⟨_, rfl, ?_⟩))
 go_ret
 exact ⟨by first | rfl | (simp; done) | (simp [*]; done) | (simp [bne]; done), by repeat (first | exact Drawn0.refl _ | apply Drawn0.step)⟩

end Go.Proofs.Ythbaoefbccdioaa.QFnActs
