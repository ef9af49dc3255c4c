/- Written by this session's own program (wip/tpl/pp.py): what the law's functions come to, and that the machine's calls do just that. -/
import Derived.Test.YthbaoefbccdioaaQFnExactCutActsx0
import Derived.Test.YthbaoefbccdioaaQFnExactCutActsx5
import Derived.Test.YthbaoefbccdioaaQFnExactCutActsx6
namespace Go.Proofs.Ythbaoefbccdioaa.QFnExactCutActs
open Go.RowKit Go.Proofs.YthbaoefbccdioaaW.PrintWords Go.Proofs.YthbaoefbccdioaaW.PrintLast Go.Proofs.YthbaoefbccdioaaW.PrintMore
attribute [local go_sem] Go.Proofs.Ythbaoefbccdioaa.Sem.string_geq Go.Proofs.Ythbaoefbccdioaa.Sem.string_leq Go.Proofs.Ythbaoefbccdioaa.Sem.string_gtr
attribute [local go_sem] max2_int min2_int max_two min_two max_three min_three max_four min_four   -- for this text's walks alone
set_option linter.unusedVariables false
set_option linter.unusedSimpArgs false

/-! ### impl_DoAct: function 13 -/
def impl_DoAct.at_ (l : List S76) (a1 : ByteArray) : Int := M.idxP (fun x : S76 => x.f0.toList == a1.toList) l 0
def impl_DoAct.go_ (l : List S76) (a0 : Int) (a1 a2 a3 : ByteArray) (t : Bool) : Bool := t && (decide (a0 = 3) || a3.toList == ([] : List UInt8)) && (decide (a0 = 1) || (a2.toList == ([] : List UInt8) && decide (0 ≤ impl_DoAct.at_ l a1)))
def impl_DoAct.add_ (l : List S76) (a1 a2 : ByteArray) : S76 := if 0 ≤ impl_DoAct.at_ l a1 then ⟨(rd_T76 l (impl_DoAct.at_ l a1)).f0, (rd_T76 l (impl_DoAct.at_ l a1)).f1 ++ a2, (rd_T76 l (impl_DoAct.at_ l a1)).f2⟩ else ⟨a1, (⟨#[]⟩ : ByteArray) ++ a2, 0⟩
def impl_DoAct.out (l : List S76) (a0 : Int) (a1 a2 a3 : ByteArray) : Option (List S76) :=
 if a0 = 1 then some (putF l (impl_DoAct.add_ l a1 a2))
 else if a0 = 2 then some (l.set (impl_DoAct.at_ l a1).toNat ⟨(rd_T76 l (impl_DoAct.at_ l a1)).f0, (rd_T76 l (impl_DoAct.at_ l a1)).f1, ((rd_T76 l (impl_DoAct.at_ l a1)).f1.size : Int)⟩)
 else if a0 = 3 then (if a3.toList = a1.toList then none else if (rd_T76 l (impl_DoAct.at_ l a1)).f2 = ((rd_T76 l (impl_DoAct.at_ l a1)).f1.size : Int) then some (putF (l.take (impl_DoAct.at_ l a1).toNat ++ l.drop ((impl_DoAct.at_ l a1).toNat + 1)) ⟨a3, (rd_T76 l (impl_DoAct.at_ l a1)).f1, (rd_T76 l (impl_DoAct.at_ l a1)).f2⟩) else none)
 else if a0 = 4 then some (l.take (impl_DoAct.at_ l a1).toNat ++ l.drop ((impl_DoAct.at_ l a1).toNat + 1))
 else none
def impl_DoAct.end_ (k : Nat) : Option (List S76) → Option (List S76 × Bool)
 | none => some ([], false)
 | some o => (impl_DiskOk.f k o).bind fun t => if t = true then some (o, true) else some ([], false)
def impl_DoAct.f (k : Nat) (l0_0 : List S76) (a1_0 : Int) (a1_1 a1_2 a1_3 : ByteArray) : Option (List S76 × Bool) :=
 (impl_DiskOk.f k l0_0).bind fun t => if impl_DoAct.go_ l0_0 a1_0 a1_1 a1_2 a1_3 t = true then (if l0_0.length < 3518437208000 ∧ (impl_DoAct.add_ l0_0 a1_1 a1_2).f1.size ≤ 9223372036854775807 then impl_DoAct.end_ k (impl_DoAct.out l0_0 a1_0 a1_1 a1_2 a1_3) else none) else some ([], false)
theorem impl_DoAct.mono : ∀ a0 a1 a2 a3 a4 k, LeO (impl_DoAct.f k a0 a1 a2 a3 a4) (impl_DoAct.f (k + 1) a0 a1 a2 a3 a4) := fun a0 a1 a2 a3 a4 k => LeO.bind (impl_DiskOk.mono a0 k) (fun t => by
 split
 ·split
  ·cases impl_DoAct.out a0 a1 a2 a3 a4 with
   | none => exact LeO.refl _
   | some o => exact LeO.bind (impl_DiskOk.mono o k) (fun _ => LeO.refl _)
  ·exact LeO.none _
 ·exact LeO.refl _)
set_option maxHeartbeats 8000000 in
set_option maxRecDepth 100000 in
theorem impl_DoAct.not_ (k : Nat) (A0_0 : Option Addr) (c0_0 : Nat) (l0_0 : List S76) (a0 : Int) (a1 a2 a3 : ByteArray) (w : World) (hr0_0 : Kd.C k76 w A0_0 l0_0.length l0_0) (hc0_0 : l0_0.length ≤ c0_0) (i : Int) (hi : impl_fileAt.f l0_0 a1 = some i) (t : Bool) (ht : impl_DiskOk.f k l0_0 = some t)
  (hn : t = false ∨ (t = true ∧ a0 ≠ 3 ∧ (a3.toList == ([] : List UInt8)) = false) ∨ (t = true ∧ a0 = 3 ∧ (a2.toList == ([] : List UInt8)) = false) ∨ (t = true ∧ a0 = 3 ∧ (a2.toList == ([] : List UInt8)) = true ∧ i < 0) ∨ (t = true ∧ a0 ≠ 3 ∧ (a3.toList == ([] : List UInt8)) = true ∧ a0 ≠ 1 ∧ (a2.toList == ([] : List UInt8)) = false) ∨ (t = true ∧ a0 ≠ 3 ∧ (a3.toList == ([] : List UInt8)) = true ∧ a0 ≠ 1 ∧ (a2.toList == ([] : List UInt8)) = true ∧ i < 0)) :
  Calls Try.prog 13 #[.agg #[.slice A0_0 l0_0.length c0_0], .agg #[.int .i64 a0, .string a1, .string a2, .string a3]] w fun e w' => ∃ v0_ : Value, e = .returned (.tuple #[.agg #[v0_], .bool false]) ∧ Kd.R k76 76 w' w.heap.size (fun _ => True) v0_ [] ∧ Below w.heap.size w w' := by
 have hu31 := Try.underlying31
 have hu35 := Try.underlying35
 have hu76 := Try.underlying76
 have HR := Aside0.mk hr0_0
 have HC := Aside0.mk hc0_0
 have HI := Aside0.mk hi
 have HT := Aside0.mk ht
 clear hr0_0 hc0_0 hi ht
 have HB := mk_ (Below.refl w.heap.size w)
 rcases hn with rfl | ⟨rfl, h1, h2⟩ | ⟨rfl, rfl, h2⟩ | ⟨rfl, rfl, h2, h3⟩ | ⟨rfl, h1, h2, h3, h4⟩ | ⟨rfl, h1, h2, h3, h4, h5⟩
 rotate_left 5
 all_goals
  go_enter Try.func13, Try.ntmps13
  go_wp2_with (first
   | ((with_reducible refine gate_dst (N := 2) rfl ?_); refine bx_ (N := 2) (cs := #[.slice A0_0 l0_0.length c0_0]) (t := 31) ?_; intro gd hg w1 hbox hb; have BD := Aside0.mk hbox; replace HB := bs_ HB hb; clear hb hbox hg)
   | ((with_reducible refine gate_dst (N := 3) rfl ?_); refine bx_ (N := 3) (cs := #[.int .i64 a0, .string a1, .string a2, .string a3]) (t := 35) ?_; intro ga hg w2 hbox hb; have BA := Aside0.mk hbox; replace BD := bb_ BD hb; replace HB := bs_ HB hb; clear hb hbox hg)
   | ((with_reducible refine gate_dst (N := 3) rfl ?_); refine bx_ (N := 3) (cs := #[.int .i64 3, .string a1, .string a2, .string a3]) (t := 35) ?_; intro ga hg w2 hbox hb; have BA := Aside0.mk hbox; replace BD := bb_ BD hb; replace HB := bs_ HB hb; clear hb hbox hg)
   | ((with_reducible refine gate_dst (N := 4) rfl ?_); refine bx_ (N := 4) (cs := #[.slice none 0 0]) (t := 31) ?_; intro gr hg w3 hbox hb; have BR := Aside0.mk hbox; have GR : Aside0 (w.heap.size ≤ gr) := bz_ hg; have ND : Aside0 (gd ≠ gr) := bl_ BD hg; have NA : Aside0 (ga ≠ gr) := bl_ BA hg; replace BD := bb_ BD hb; replace BA := bb_ BA hb; replace HB := bs_ HB hb; clear hb hbox hg; obtain ⟨cd0, fd0⟩ := b1_ BD; obtain ⟨ca0, ca1, ca2, ca3, fa0, fa1, fa2, fa3⟩ := b4_ BA)
   | (go_at_call 44; (with_reducible refine (impl_fileAt.calls _ _ l0_0 a1 i _ (Kd.C_below HR.out (bw_ HB)) HC.out HI.out).mono ?_); rintro e w4 ⟨rfl, hb⟩; replace BD := bb_ BD hb; replace BA := bb_ BA hb; replace BR := bb_ BR hb; replace HB := bs_ HB hb; clear hb cd0 fd0 ca0 ca1 ca2 ca3 fa0 fa1 fa2 fa3; obtain ⟨cd0, fd0⟩ := b1_ BD; obtain ⟨ca0, ca1, ca2, ca3, fa0, fa1, fa2, fa3⟩ := b4_ BA; obtain ⟨cr0, fr0⟩ := b1_ BR)
   | (go_at_call 45; (with_reducible refine (impl_DiskOk.calls k _ _ l0_0 _ _ (Kd.C_below HR.out HB.out) HC.out HT.out).mono ?_); rintro e w5 ⟨rfl, hb⟩; replace BD := bb_ BD hb; replace BA := bb_ BA hb; replace BR := bb_ BR hb; replace HB := bs_ HB hb; clear hb cd0 fd0 ca0 ca1 ca2 ca3 fa0 fa1 fa2 fa3 cr0 fr0; obtain ⟨cd0, fd0⟩ := b1_ BD; obtain ⟨ca0, ca1, ca2, ca3, fa0, fa1, fa2, fa3⟩ := b4_ BA; obtain ⟨cr0, fr0⟩ := b1_ BR))
  refine bodyPost_ret (results_ct rfl _ _ gr 31 #[.slice none 0 0] (0, 0) _ rfl (by simpa using blk_set BR.out 0 (.slice none 0 0)) Try.underlying31 rfl (by kernel_rfl)) rfl ?_
  exact ⟨_, rfl, Kd.R_nil _ _ _ _ _, below_set HB.out GR.out⟩
theorem rm_ {α : Type} {d : Kd α} {e : Nat} {w W : World} {base g : Nat} {ok : Nat → Prop} {v : Value} {xs : List α} (h : d.R e w base (fun k => ok k ∧ k ≠ g) v xs)
  (hW : ∀ k, k ≠ g → W.heap[k]? = w.heap[k]? := by intro k_ hk_; repeat (first | (with_reducible exact rfl) | refine (Below.heap_setCell _ _ _ _ hk_).trans ?_)) : d.R e W base ok v xs := Kd.R_mono (Kd.R_move h (fun k hk => hW k hk.2)) (fun _ hk => hk.1)
theorem rk_ {α : Type} {d : Kd α} {e : Nat} {w W : World} {base g : Nat} {ok : Nat → Prop} {v : Value} {xs : List α} (h : d.R e w base (fun k => ok k ∧ k ≠ g) v xs)
  (hW : ∀ k, k ≠ g → W.heap[k]? = w.heap[k]? := by intro k_ hk_; repeat (first | (with_reducible exact rfl) | refine (Below.heap_setCell _ _ _ _ hk_).trans ?_)) : d.R e W base (fun k => ok k ∧ k ≠ g) v xs := Kd.R_move h (fun k hk => hW k hk.2)
theorem abs_ {P : Program} {ops : Array Oper} {rest : List Oper} {a : Act} {Q : Exit → Act → World → Prop} {W : World} (F : World → Prop) (hF : F W) (h : ∀ W', F W' → wpList P ops Q rest a W') : wpList P ops Q rest a W := h W hF

set_option maxHeartbeats 8000000 in
set_option maxRecDepth 100000 in
theorem impl_DoAct.add_new (k : Nat) (A0_0 : Option Addr) (c0_0 : Nat) (l0_0 : List S76) (a1 a2 a3 : ByteArray) (w : World) (hr0_0 : Kd.C k76 w A0_0 l0_0.length l0_0) (hc0_0 : l0_0.length ≤ c0_0) (hi : impl_fileAt.f l0_0 a1 = some (-1)) (ht : impl_DiskOk.f k l0_0 = some true) (h3 : (a3.toList == ([] : List UInt8)) = true)
  (hl : l0_0.length < 3518437208000) (hz : ((⟨#[]⟩ : ByteArray) ++ a2).size ≤ 9223372036854775807) (o : List S76) (ho : putF l0_0 ⟨a1, (⟨#[]⟩ : ByteArray) ++ a2, 0⟩ = o) (t2 : Bool) (ht2 : impl_DiskOk.f k o = some t2) :
  Calls Try.prog 13 #[.agg #[.slice A0_0 l0_0.length c0_0], .agg #[.int .i64 1, .string a1, .string a2, .string a3]] w fun e w' => ∃ v0_ : Value, e = .returned (.tuple #[.agg #[v0_], .bool t2]) ∧ Kd.R k76 76 w' w.heap.size (fun _ => True) v0_ (if t2 = true then o else []) ∧ Below w.heap.size w w' := by
 have hu29 := Try.underlying29
 have hu31 := Try.underlying31
 have hu35 := Try.underlying35
 have hu76 := Try.underlying76
 have HR := Aside0.mk hr0_0
 have HC := Aside0.mk hc0_0
 have HI := Aside0.mk hi
 have HT := Aside0.mk ht
 have HL := Aside0.mk hl
 have HO2 := Aside0.mk ho
 have HT2 := Aside0.mk ht2
 have HCP : Aside0 (impl_copyDisk.f l0_0 = some l0_0) := mk_ (by unfold impl_copyDisk.f; rw [if_pos (by simp; omega)]; rfl)
 clear hr0_0 hc0_0 hi ht ho ht2 hl
 have HB := mk_ (Below.refl w.heap.size w)
 rw [ByteArray.size_append] at hz
 have hz' : (9223372036854775807 < (⟨#[]⟩ : ByteArray).size + a2.size) = False := eq_false (Nat.not_lt.2 hz)
 have hz2 : (9223372036854775807 < a2.size) = False := eq_false (Nat.not_lt.2 (Nat.le_trans (Nat.le_add_left _ _) hz))
 have HZ := Aside0.mk hz
 clear hz
 cases t2
 all_goals
  go_enter Try.func13, Try.ntmps13
  go_wp2_with (first
   | ((with_reducible refine gate_dst (N := 2) rfl ?_); refine bx_ (N := 2) (cs := #[.slice A0_0 l0_0.length c0_0]) (t := 31) ?_; intro gd hg w1 hbox hb; have BD := Aside0.mk hbox; replace HB := bs_ HB hb; clear hb hbox hg)
   | ((with_reducible refine gate_dst (N := 3) rfl ?_); refine bx_ (N := 3) (cs := #[.int .i64 1, .string a1, .string a2, .string a3]) (t := 35) ?_; intro ga hg w2 hbox hb; have BA := Aside0.mk hbox; replace BD := bb_ BD hb; replace HB := bs_ HB hb; clear hb hbox hg)
   | ((with_reducible refine gate_dst (N := 4) rfl ?_); refine bx_ (N := 4) (cs := #[.slice none 0 0]) (t := 31) ?_; intro gr hg w3 hbox hb; have BR := Aside0.mk hbox; have GR : Aside0 (w.heap.size ≤ gr) := bz_ hg; have ND : Aside0 (gd ≠ gr) := bl_ BD hg; have NA : Aside0 (ga ≠ gr) := bl_ BA hg; replace BD := bb_ BD hb; replace BA := bb_ BA hb; replace HB := bs_ HB hb; clear hb hbox hg; obtain ⟨cd0, fd0⟩ := b1_ BD; obtain ⟨ca0, ca1, ca2, ca3, fa0, fa1, fa2, fa3⟩ := b4_ BA)
   | (go_at_call 44; (with_reducible refine (impl_fileAt.calls _ _ l0_0 a1 _ _ (Kd.C_below HR.out (bw_ HB)) HC.out HI.out).mono ?_); rintro e w4 ⟨rfl, hb⟩; replace BD := bb_ BD hb; replace BA := bb_ BA hb; replace BR := bb_ BR hb; replace HB := bs_ HB hb; clear hb cd0 fd0 ca0 ca1 ca2 ca3 fa0 fa1 fa2 fa3; obtain ⟨cd0, fd0⟩ := b1_ BD; obtain ⟨ca0, ca1, ca2, ca3, fa0, fa1, fa2, fa3⟩ := b4_ BA; obtain ⟨cr0, fr0⟩ := b1_ BR)
   | (go_at_call 45; (with_reducible refine (impl_DiskOk.calls k _ _ l0_0 _ _ (Kd.C_below HR.out HB.out) HC.out HT.out).mono ?_); rintro e w5 ⟨rfl, hb⟩; replace BD := bb_ BD hb; replace BA := bb_ BA hb; replace BR := bb_ BR hb; replace HB := bs_ HB hb; clear hb cd0 fd0 ca0 ca1 ca2 ca3 fa0 fa1 fa2 fa3 cr0 fr0; obtain ⟨cd0, fd0⟩ := b1_ BD; obtain ⟨ca0, ca1, ca2, ca3, fa0, fa1, fa2, fa3⟩ := b4_ BA; obtain ⟨cr0, fr0⟩ := b1_ BR)
   | (go_at_call 46; (with_reducible refine (impl_copyDisk.calls _ _ l0_0 l0_0 _ (Kd.C_below HR.out (bw_ HB)) HC.out HCP.out).mono ?_); rintro e w6 ⟨v0, rfl, ho0, hb⟩; have HO := mk_ (Kd.R_lower ho0 (below_size (bw_ HB))); obtain ⟨Ao, co_, eo⟩ := Kd.R_slice HO.out; subst eo; replace BD := bb_ BD hb; replace BA := bb_ BA hb; replace BR := bb_ BR hb; replace HB := bs_ HB hb; clear hb ho0 cd0 fd0 ca0 ca1 ca2 ca3 fa0 fa1 fa2 fa3 cr0 fr0; obtain ⟨cd0, fd0⟩ := b1_ BD; obtain ⟨ca0, ca1, ca2, ca3, fa0, fa1, fa2, fa3⟩ := b4_ BA; obtain ⟨cr0, fr0⟩ := b1_ BR)
   | ((with_reducible refine gate_dst (N := 7) rfl ?_); refine bx_ (N := 7) (cs := #[.slice none 0 0]) (t := 31) ?_; intro gO hg w7 hbox hb; have BO := Aside0.mk hbox; have GO : Aside0 (w.heap.size ≤ gO) := bz_ hg; have NDO := bl_ BD hg; have NAO := bl_ BA hg; have NRO := bl_ BR hg; have NOR := bg_ BR hg; replace BD := bb_ BD hb; replace BA := bb_ BA hb; replace BR := bb_ BR hb; replace HO := rb_ HO hb; replace HB := bs_ HB hb; clear hb hbox hg cd0 fd0 ca0 ca1 ca2 ca3 fa0 fa1 fa2 fa3 cr0 fr0; obtain ⟨cd0, fd0⟩ := b1_ BD; obtain ⟨ca0, ca1, ca2, ca3, fa0, fa1, fa2, fa3⟩ := b4_ BA; obtain ⟨cr0, fr0⟩ := b1_ BR; obtain ⟨co0, fo0⟩ := b1_ BO; have hn1 := NDO.out; have hn2 := NAO.out; have hn3 := NRO.out; have hn4 := NOR.out; have hn5 := Ne.symm NDO.out; have hn6 := Ne.symm NAO.out)
   | ((with_reducible refine gate_dst (N := 8) rfl ?_); refine bx_ (N := 8) (cs := #[.string ⟨#[]⟩, .string ⟨#[]⟩, .int .i64 0]) (t := 76) ?_; intro gf hg w8 hbox hb; have BF := Aside0.mk hbox; have BO1 : Aside0 ((w7.setCell ⟨gO, 0, none⟩ (.slice Ao l0_0.length co_)).heap[gO]? = some (.cells #[(.slice Ao l0_0.length co_)] 31 (0, 0))) := ⟨bu_⟩; have NDF := bl_ BD hg bf_; have NAF := bl_ BA hg bf_; have NRF := bl_ BR hg bf_; have NOF := bl_ BO1 hg; have HO1 := Kd.R_set HO.out BO.out (by decide) 0 (.slice Ao l0_0.length co_); replace HO : Aside0 (k76.R 76 w8 w.heap.size (fun k => (True ∧ k ≠ gO) ∧ k ≠ gf) (.slice Ao l0_0.length co_) l0_0) := ⟨Kd.R_below (Kd.R_mono (Kd.R_bound (Kd.R_types HO1 BO1.out (by decide))) (fun k hk => ⟨hk.1, by have := hk.2.2.1; omega⟩)) hb⟩; replace BD := mk_ (blk_below (g := gd) (o := .cells #[.slice A0_0 l0_0.length c0_0] 31 (0, 0)) bf_ hb); replace BA := mk_ (blk_below (g := ga) (o := .cells #[.int .i64 1, .string a1, .string a2, .string a3] 35 (0, 0)) bf_ hb); replace BR := mk_ (blk_below (g := gr) (o := .cells #[.slice none 0 0] 31 (0, 0)) bf_ hb); replace BO := mk_ (blk_below BO1.out hb); have GF : Aside0 (w.heap.size ≤ gf) := bz_ hg; replace HB := bs_ HB hb; clear hb hbox hg HO1 BO1 cd0 fd0 ca0 ca1 ca2 ca3 fa0 fa1 fa2 fa3 cr0 fr0 co0 fo0; obtain ⟨cd0, fd0⟩ := b1_ BD; obtain ⟨ca0, ca1, ca2, ca3, fa0, fa1, fa2, fa3⟩ := b4_ BA; obtain ⟨cr0, fr0⟩ := b1_ BR; obtain ⟨co0, fo0⟩ := b1_ BO; obtain ⟨cf0, cf1, cf2, ff0, ff1, ff2⟩ := b3_ BF; have hm1 := NDF.out; have hm2 := NAF.out; have hm3 := NRF.out; have hm4 := NOF.out; have hm5 := Ne.symm NDF.out; have hm6 := Ne.symm NAF.out; have hm7 := Ne.symm NRF.out; have hm8 := Ne.symm NOF.out)
   | ((with_reducible refine gate_dst (N := 65) rfl ?_); refine abs_ (fun W => W.heap[gf]? = some (.cells #[.string a1, .string ((⟨#[]⟩ : ByteArray) ++ a2), .int .i64 0] 76 (0, 0)) ∧ W.heap[gO]? = some (.cells #[(.slice Ao l0_0.length co_)] 31 (0, 0)) ∧ W.heap[gr]? = some (.cells #[.slice none 0 0] 31 (0, 0)) ∧ W.heap[gd]? = some (.cells #[.slice A0_0 l0_0.length c0_0] 31 (0, 0)) ∧ W.heap[ga]? = some (.cells #[.int .i64 1, .string a1, .string a2, .string a3] 35 (0, 0)) ∧ k76.R 76 W w.heap.size (fun k => (True ∧ k ≠ gO) ∧ k ≠ gf) (.slice Ao l0_0.length co_) l0_0 ∧ Below w.heap.size w W) ⟨bu_, bf_, bf_, bf_, bf_, rk_ HO.out, bw_ HB⟩ ?_; clear HO HB BF BO BR BD BA cd0 fd0 ca0 ca1 ca2 ca3 fa0 fa1 fa2 fa3 cr0 fr0 co0 fo0 cf0 cf1 cf2 ff0 ff1 ff2; intro wc ⟨qf, qo, qr, qd, qa, qh, qb⟩; have BF := Aside0.mk qf; have BO := Aside0.mk qo; have BR := Aside0.mk qr; have BD := Aside0.mk qd; have BA := Aside0.mk qa; have HO := Aside0.mk qh; have HB := Aside0.mk qb; clear qf qo qr qd qa qh qb; obtain ⟨cd0, fd0⟩ := b1_ BD; obtain ⟨ca0, ca1, ca2, ca3, fa0, fa1, fa2, fa3⟩ := b4_ BA; obtain ⟨cr0, fr0⟩ := b1_ BR; obtain ⟨co0, fo0⟩ := b1_ BO; obtain ⟨cf0, cf1, cf2, ff0, ff1, ff2⟩ := b3_ BF; refine Kd.event_run (v := .agg #[.string a1, .string ((⟨#[]⟩ : ByteArray) ++ a2), .int .i64 0]) rfl (by first | (go_simp; done) | (go_simp; rfl)) ?_)
   | (go_at_call 47; (with_reducible refine (impl_putFile.calls w.heap.size (fun _ => True) gO (.slice Ao l0_0.length co_) l0_0 ⟨a1, (⟨#[]⟩ : ByteArray) ++ a2, 0⟩ _ HL.out ?b1 ?b2 ?b3 GO.out (fun _ _ => trivial)).mono ?_); (case b1 => exact bf_); (case b2 => exact rm_ HO.out); (case b3 => exact below_size (bw_ HB)); rintro e w9 ⟨rfl, v9, hbk, hr, hb, hkp⟩; have BR9 := hkp gr (blk_lt (o := .cells #[.slice none 0 0] 31 (0, 0)) bf_) NRO.out (Kd.R_ne HO.out BR.out (by decide)); replace BR := mk_ (BR9.trans bf_); replace HB := mk_ ((bw_ HB).trans hb); rw [HO2.out] at hr; obtain ⟨A9, c9, e9⟩ := Kd.R_slice hr; subst e9; have HO9 := Aside0.mk hr; replace BO := Aside0.mk hbk; clear hbk hr hb hkp BR9 cd0 fd0 ca0 ca1 ca2 ca3 fa0 fa1 fa2 fa3 cr0 fr0 co0 fo0 cf0 cf1 cf2 ff0 ff1 ff2; obtain ⟨co0, fo0⟩ := b1_ BO; obtain ⟨cr0, fr0⟩ := b1_ BR)
   | (go_at_call 45; (with_reducible refine (impl_DiskOk.calls k _ _ o _ _ (Kd.R_reads' HO9.out).2.2 (Kd.R_reads' HO9.out).2.1 HT2.out).mono ?_); rintro e w10 ⟨rfl, hb⟩; replace BO := bb_ BO hb; replace BR := bb_ BR hb; replace HO9 := rb_ HO9 hb; replace HB := bs_ HB hb; clear hb co0 fo0 cr0 fr0; obtain ⟨co0, fo0⟩ := b1_ BO; obtain ⟨cr0, fr0⟩ := b1_ BR))
  first
   | (refine bodyPost_ret (results_ct rfl _ _ gr 31 #[.slice none 0 0] (0, 0) _ rfl (by simpa using blk_set BR.out 0 (.slice none 0 0)) Try.underlying31 rfl (by kernel_rfl)) rfl ?_; exact ⟨_, rfl, Kd.R_nil _ _ _ _ _, below_set HB.out GR.out⟩)
   | (refine bodyPost_ret (results_ct rfl _ _ gr 31 #[.slice A9 o.length c9] (0, 0) _ rfl (by simpa using blk_set BR.out 0 (.slice A9 o.length c9)) Try.underlying31 rfl (by kernel_rfl)) rfl ?_; exact ⟨_, rfl, Kd.R_mono (Kd.R_set HO9.out BR.out (by decide) 0 _) (fun _ _ => trivial), below_set HB.out GR.out⟩)
set_option maxHeartbeats 8000000 in
set_option maxRecDepth 100000 in
theorem impl_DoAct.add_old (k : Nat) (A0_0 : Option Addr) (c0_0 : Nat) (l0_0 : List S76) (a1 a2 a3 : ByteArray) (w : World) (hr0_0 : Kd.C k76 w A0_0 l0_0.length l0_0) (hc0_0 : l0_0.length ≤ c0_0) (kk : Nat) (hk : kk < l0_0.length) (hi : impl_fileAt.f l0_0 a1 = some (kk : Int)) (ht : impl_DiskOk.f k l0_0 = some true) (h3 : (a3.toList == ([] : List UInt8)) = true)
  (hl : l0_0.length < 3518437208000) (hz : ((rd_T76 l0_0 (kk : Int)).f1 ++ a2).size ≤ 9223372036854775807) (o : List S76) (ho : putF l0_0 ⟨(rd_T76 l0_0 (kk : Int)).f0, (rd_T76 l0_0 (kk : Int)).f1 ++ a2, (rd_T76 l0_0 (kk : Int)).f2⟩ = o) (t2 : Bool) (ht2 : impl_DiskOk.f k o = some t2) :
  Calls Try.prog 13 #[.agg #[.slice A0_0 l0_0.length c0_0], .agg #[.int .i64 1, .string a1, .string a2, .string a3]] w fun e w' => ∃ v0_ : Value, e = .returned (.tuple #[.agg #[v0_], .bool t2]) ∧ Kd.R k76 76 w' w.heap.size (fun _ => True) v0_ (if t2 = true then o else []) ∧ Below w.heap.size w w' := by
 have hu29 := Try.underlying29
 have hu31 := Try.underlying31
 have hu35 := Try.underlying35
 have hu76 := Try.underlying76
 obtain ⟨ad, e0, hx0, hx1, hx2⟩ := at_T76 hr0_0 (kk : Int) (by omega) (by omega)
 cases e0
 simp only [Int.toNat_natCast] at hx0 hx1 hx2
 have hblk := World.block_lt_of_cell? _ _ hx0
 rw [add_block] at hblk
 have HBL := Aside0.mk hblk
 have HR := Aside0.mk hr0_0
 have HC := Aside0.mk hc0_0
 have HI := Aside0.mk hi
 have HT := Aside0.mk ht
 have HL := Aside0.mk hl
 have HO2 := Aside0.mk ho
 have HT2 := Aside0.mk ht2
 have HCP : Aside0 (impl_copyDisk.f l0_0 = some l0_0) := mk_ (by unfold impl_copyDisk.f; rw [if_pos (by simp; omega)]; rfl)
 clear hr0_0 hc0_0 hi ht ho ht2 hl hblk
 generalize rd_T76 l0_0 (kk : Int) = x at *
 have HB := mk_ (Below.refl w.heap.size w)
 have hkz : (0 : Int) ≤ (kk : Int) := Int.natCast_nonneg kk
 have hkn : ¬ ((kk : Int) < 0) := by omega
 have hkl : (kk : Int) < (l0_0.length : Int) := by omega
 rw [ByteArray.size_append] at hz
 have hz' : (9223372036854775807 < x.f1.size + a2.size) = False := eq_false (Nat.not_lt.2 hz)
 have HZ := Aside0.mk hz
 clear hz
 cases t2
 all_goals
  go_enter Try.func13, Try.ntmps13
  go_wp2_with (first
   | ((with_reducible refine gate_dst (N := 2) rfl ?_); refine bx_ (N := 2) (cs := #[.slice (some ad) l0_0.length c0_0]) (t := 31) ?_; intro gd hg w1 hbox hb; have BD := Aside0.mk hbox; replace HB := bs_ HB hb; clear hb hbox hg)
   | ((with_reducible refine gate_dst (N := 3) rfl ?_); refine bx_ (N := 3) (cs := #[.int .i64 1, .string a1, .string a2, .string a3]) (t := 35) ?_; intro ga hg w2 hbox hb; have BA := Aside0.mk hbox; replace BD := bb_ BD hb; replace HB := bs_ HB hb; clear hb hbox hg)
   | ((with_reducible refine gate_dst (N := 4) rfl ?_); refine bx_ (N := 4) (cs := #[.slice none 0 0]) (t := 31) ?_; intro gr hg w3 hbox hb; have BR := Aside0.mk hbox; have GR : Aside0 (w.heap.size ≤ gr) := bz_ hg; have ND : Aside0 (gd ≠ gr) := bl_ BD hg; have NA : Aside0 (ga ≠ gr) := bl_ BA hg; replace BD := bb_ BD hb; replace BA := bb_ BA hb; replace HB := bs_ HB hb; clear hb hbox hg; obtain ⟨cd0, fd0⟩ := b1_ BD; obtain ⟨ca0, ca1, ca2, ca3, fa0, fa1, fa2, fa3⟩ := b4_ BA)
   | (go_at_call 44; (with_reducible refine (impl_fileAt.calls _ _ l0_0 a1 _ _ (Kd.C_below HR.out (bw_ HB)) HC.out HI.out).mono ?_); rintro e w4 ⟨rfl, hb⟩; replace BD := bb_ BD hb; replace BA := bb_ BA hb; replace BR := bb_ BR hb; replace HB := bs_ HB hb; clear hb cd0 fd0 ca0 ca1 ca2 ca3 fa0 fa1 fa2 fa3; obtain ⟨cd0, fd0⟩ := b1_ BD; obtain ⟨ca0, ca1, ca2, ca3, fa0, fa1, fa2, fa3⟩ := b4_ BA; obtain ⟨cr0, fr0⟩ := b1_ BR)
   | (go_at_call 45; (with_reducible refine (impl_DiskOk.calls k _ _ l0_0 _ _ (Kd.C_below HR.out HB.out) HC.out HT.out).mono ?_); rintro e w5 ⟨rfl, hb⟩; replace BD := bb_ BD hb; replace BA := bb_ BA hb; replace BR := bb_ BR hb; replace HB := bs_ HB hb; clear hb cd0 fd0 ca0 ca1 ca2 ca3 fa0 fa1 fa2 fa3 cr0 fr0; obtain ⟨cd0, fd0⟩ := b1_ BD; obtain ⟨ca0, ca1, ca2, ca3, fa0, fa1, fa2, fa3⟩ := b4_ BA; obtain ⟨cr0, fr0⟩ := b1_ BR)
   | (go_at_call 46; (with_reducible refine (impl_copyDisk.calls _ _ l0_0 l0_0 _ (Kd.C_below HR.out (bw_ HB)) HC.out HCP.out).mono ?_); rintro e w6 ⟨v0, rfl, ho0, hb⟩; have HO := mk_ (Kd.R_lower ho0 (below_size (bw_ HB))); obtain ⟨Ao, co_, eo⟩ := Kd.R_slice HO.out; subst eo; replace BD := bb_ BD hb; replace BA := bb_ BA hb; replace BR := bb_ BR hb; replace HB := bs_ HB hb; clear hb ho0 cd0 fd0 ca0 ca1 ca2 ca3 fa0 fa1 fa2 fa3 cr0 fr0; obtain ⟨cd0, fd0⟩ := b1_ BD; obtain ⟨ca0, ca1, ca2, ca3, fa0, fa1, fa2, fa3⟩ := b4_ BA; obtain ⟨cr0, fr0⟩ := b1_ BR)
   | ((with_reducible refine gate_dst (N := 7) rfl ?_); refine bx_ (N := 7) (cs := #[.slice none 0 0]) (t := 31) ?_; intro gO hg w7 hbox hb; have BO := Aside0.mk hbox; have GO : Aside0 (w.heap.size ≤ gO) := bz_ hg; have NDO := bl_ BD hg; have NAO := bl_ BA hg; have NRO := bl_ BR hg; have NOR := bg_ BR hg; replace BD := bb_ BD hb; replace BA := bb_ BA hb; replace BR := bb_ BR hb; replace HO := rb_ HO hb; replace HB := bs_ HB hb; clear hb hbox hg cd0 fd0 ca0 ca1 ca2 ca3 fa0 fa1 fa2 fa3 cr0 fr0; obtain ⟨cd0, fd0⟩ := b1_ BD; obtain ⟨ca0, ca1, ca2, ca3, fa0, fa1, fa2, fa3⟩ := b4_ BA; obtain ⟨cr0, fr0⟩ := b1_ BR; obtain ⟨co0, fo0⟩ := b1_ BO; have hn1 := NDO.out; have hn2 := NAO.out; have hn3 := NRO.out; have hn4 := NOR.out; have hn5 := Ne.symm NDO.out; have hn6 := Ne.symm NAO.out)
   | ((with_reducible refine gate_dst (N := 8) rfl ?_); refine bx_ (N := 8) (cs := #[.string ⟨#[]⟩, .string ⟨#[]⟩, .int .i64 0]) (t := 76) ?_; intro gf hg w8 hbox hb; have BF := Aside0.mk hbox; have BO1 : Aside0 ((w7.setCell ⟨gO, 0, none⟩ (.slice Ao l0_0.length co_)).heap[gO]? = some (.cells #[(.slice Ao l0_0.length co_)] 31 (0, 0))) := ⟨bu_⟩; have NDF := bl_ BD hg bf_; have NAF := bl_ BA hg bf_; have NRF := bl_ BR hg bf_; have NOF := bl_ BO1 hg; have HO1 := Kd.R_set HO.out BO.out (by decide) 0 (.slice Ao l0_0.length co_); replace HO : Aside0 (k76.R 76 w8 w.heap.size (fun k => (True ∧ k ≠ gO) ∧ k ≠ gf) (.slice Ao l0_0.length co_) l0_0) := ⟨Kd.R_below (Kd.R_mono (Kd.R_bound (Kd.R_types HO1 BO1.out (by decide))) (fun k hk => ⟨hk.1, by have := hk.2.2.1; omega⟩)) hb⟩; replace BD := mk_ (blk_below (g := gd) (o := .cells #[.slice (some ad) l0_0.length c0_0] 31 (0, 0)) bf_ hb); replace BA := mk_ (blk_below (g := ga) (o := .cells #[.int .i64 1, .string a1, .string a2, .string a3] 35 (0, 0)) bf_ hb); replace BR := mk_ (blk_below (g := gr) (o := .cells #[.slice none 0 0] 31 (0, 0)) bf_ hb); replace BO := mk_ (blk_below BO1.out hb); have GF : Aside0 (w.heap.size ≤ gf) := bz_ hg; replace HB := bs_ HB hb; clear hb hbox hg HO1 BO1 cd0 fd0 ca0 ca1 ca2 ca3 fa0 fa1 fa2 fa3 cr0 fr0 co0 fo0; obtain ⟨cd0, fd0⟩ := b1_ BD; obtain ⟨ca0, ca1, ca2, ca3, fa0, fa1, fa2, fa3⟩ := b4_ BA; obtain ⟨cr0, fr0⟩ := b1_ BR; obtain ⟨co0, fo0⟩ := b1_ BO; obtain ⟨cf0, cf1, cf2, ff0, ff1, ff2⟩ := b3_ BF; have hm1 := NDF.out; have hm2 := NAF.out; have hm3 := NRF.out; have hm4 := NOF.out; have hm5 := Ne.symm NDF.out; have hm6 := Ne.symm NAF.out; have hm7 := Ne.symm NRF.out; have hm8 := Ne.symm NOF.out; have hxa : ad.block ≠ gf := (by have := HBL.out; have := GF.out; omega); have hxb := Ne.symm hxa; replace hx0 := hc_ HB hx0; replace hx1 := hc_ HB hx1; replace hx2 := hc_ HB hx2; have HX0 : Aside0 (∀ u0 u1 u2, (((w8.setCell ⟨gf, 0, none⟩ u0).setCell ⟨gf, 1, none⟩ u1).setCell ⟨gf, 2, none⟩ u2).cell? (ad.add (kk * 3)) = some (.string x.f0)) := ⟨fun u0 u1 u2 => (cell_far (p := ⟨gf, 2, none⟩) ab_ u2).trans ((cell_far (p := ⟨gf, 1, none⟩) ab_ u1).trans ((cell_far (p := ⟨gf, 0, none⟩) ab_ u0).trans hx0))⟩; have HX1 : Aside0 (∀ u0 u1 u2, (((w8.setCell ⟨gf, 0, none⟩ u0).setCell ⟨gf, 1, none⟩ u1).setCell ⟨gf, 2, none⟩ u2).cell? ⟨(ad.add (kk * 3)).block, (ad.add (kk * 3)).off + 1, none⟩ = some (.string x.f1)) := ⟨fun u0 u1 u2 => (cell_far (p := ⟨gf, 2, none⟩) ab_ u2).trans ((cell_far (p := ⟨gf, 1, none⟩) ab_ u1).trans ((cell_far (p := ⟨gf, 0, none⟩) ab_ u0).trans hx1))⟩; have HX2 : Aside0 (∀ u0 u1 u2, (((w8.setCell ⟨gf, 0, none⟩ u0).setCell ⟨gf, 1, none⟩ u1).setCell ⟨gf, 2, none⟩ u2).cell? ⟨(ad.add (kk * 3)).block, (ad.add (kk * 3)).off + 2, none⟩ = some (.int .i64 x.f2)) := ⟨fun u0 u1 u2 => (cell_far (p := ⟨gf, 2, none⟩) ab_ u2).trans ((cell_far (p := ⟨gf, 1, none⟩) ab_ u1).trans ((cell_far (p := ⟨gf, 0, none⟩) ab_ u0).trans hx2))⟩)
   | ((with_reducible refine gate_dst (N := 58) rfl ?_); refine abs_ (fun W => W.heap[gf]? = some (.cells #[.string a1, .string (⟨#[]⟩ : ByteArray), .int .i64 0] 76 (0, 0)) ∧ W.heap[gO]? = some (.cells #[(.slice Ao l0_0.length co_)] 31 (0, 0)) ∧ W.heap[gr]? = some (.cells #[.slice none 0 0] 31 (0, 0)) ∧ W.heap[gd]? = some (.cells #[.slice (some ad) l0_0.length c0_0] 31 (0, 0)) ∧ W.heap[ga]? = some (.cells #[.int .i64 1, .string a1, .string a2, .string a3] 35 (0, 0)) ∧ k76.R 76 W w.heap.size (fun k => (True ∧ k ≠ gO) ∧ k ≠ gf) (.slice Ao l0_0.length co_) l0_0 ∧ Below w.heap.size w W ∧ W.cell? (ad.add (kk * 3)) = some (.string x.f0) ∧ W.cell? ⟨(ad.add (kk * 3)).block, (ad.add (kk * 3)).off + 1, none⟩ = some (.string x.f1) ∧ W.cell? ⟨(ad.add (kk * 3)).block, (ad.add (kk * 3)).off + 2, none⟩ = some (.int .i64 x.f2)) ⟨bu_, bf_, bf_, bf_, bf_, rk_ HO.out, bw_ HB, HX0.out _ _ _, HX1.out _ _ _, HX2.out _ _ _⟩ ?_; clear HO HB BF BO BR BD BA cd0 fd0 ca0 ca1 ca2 ca3 fa0 fa1 fa2 fa3 cr0 fr0 co0 fo0 cf0 cf1 cf2 ff0 ff1 ff2 hx0 hx1 hx2; intro wc ⟨qf, qo, qr, qd, qa, qh, qb, hx0, hx1, hx2⟩; have BF := Aside0.mk qf; have BO := Aside0.mk qo; have BR := Aside0.mk qr; have BD := Aside0.mk qd; have BA := Aside0.mk qa; have HO := Aside0.mk qh; have HB := Aside0.mk qb; clear qf qo qr qd qa qh qb; obtain ⟨cd0, fd0⟩ := b1_ BD; obtain ⟨ca0, ca1, ca2, ca3, fa0, fa1, fa2, fa3⟩ := b4_ BA; obtain ⟨cr0, fr0⟩ := b1_ BR; obtain ⟨co0, fo0⟩ := b1_ BO; obtain ⟨cf0, cf1, cf2, ff0, ff1, ff2⟩ := b3_ BF; refine Kd.event_run (v := .agg #[.string x.f0, .string x.f1, .int .i64 x.f2]) rfl (by first | (go_simp; done) | (go_simp; rfl)) ?_)
   | ((with_reducible refine gate_dst (N := 59) rfl ?_); refine abs_ (fun W => W.heap[gf]? = some (.cells #[.string x.f0, .string x.f1, .int .i64 x.f2] 76 (0, 0)) ∧ W.heap[gO]? = some (.cells #[(.slice Ao l0_0.length co_)] 31 (0, 0)) ∧ W.heap[gr]? = some (.cells #[.slice none 0 0] 31 (0, 0)) ∧ W.heap[gd]? = some (.cells #[.slice (some ad) l0_0.length c0_0] 31 (0, 0)) ∧ W.heap[ga]? = some (.cells #[.int .i64 1, .string a1, .string a2, .string a3] 35 (0, 0)) ∧ k76.R 76 W w.heap.size (fun k => (True ∧ k ≠ gO) ∧ k ≠ gf) (.slice Ao l0_0.length co_) l0_0 ∧ Below w.heap.size w W) ⟨bu_, bf_, bf_, bf_, bf_, rk_ HO.out, bw_ HB⟩ ?_; clear hx0 hx1 hx2 HX0 HX1 HX2 HO HB BF BO BR BD BA cd0 fd0 ca0 ca1 ca2 ca3 fa0 fa1 fa2 fa3 cr0 fr0 co0 fo0 cf0 cf1 cf2 ff0 ff1 ff2; intro wc ⟨qf, qo, qr, qd, qa, qh, qb⟩; have BF := Aside0.mk qf; have BO := Aside0.mk qo; have BR := Aside0.mk qr; have BD := Aside0.mk qd; have BA := Aside0.mk qa; have HO := Aside0.mk qh; have HB := Aside0.mk qb; clear qf qo qr qd qa qh qb; obtain ⟨cd0, fd0⟩ := b1_ BD; obtain ⟨ca0, ca1, ca2, ca3, fa0, fa1, fa2, fa3⟩ := b4_ BA; obtain ⟨cr0, fr0⟩ := b1_ BR; obtain ⟨co0, fo0⟩ := b1_ BO; obtain ⟨cf0, cf1, cf2, ff0, ff1, ff2⟩ := b3_ BF; refine Kd.event_run (v := .pointer (some ⟨gf, 1, none⟩)) rfl (by first | (go_simp; done) | (go_simp; rfl)) ?_)
   | ((with_reducible refine gate_dst (N := 65) rfl ?_); refine abs_ (fun W => W.heap[gf]? = some (.cells #[.string x.f0, .string (x.f1 ++ a2), .int .i64 x.f2] 76 (0, 0)) ∧ W.heap[gO]? = some (.cells #[(.slice Ao l0_0.length co_)] 31 (0, 0)) ∧ W.heap[gr]? = some (.cells #[.slice none 0 0] 31 (0, 0)) ∧ W.heap[gd]? = some (.cells #[.slice (some ad) l0_0.length c0_0] 31 (0, 0)) ∧ W.heap[ga]? = some (.cells #[.int .i64 1, .string a1, .string a2, .string a3] 35 (0, 0)) ∧ k76.R 76 W w.heap.size (fun k => (True ∧ k ≠ gO) ∧ k ≠ gf) (.slice Ao l0_0.length co_) l0_0 ∧ Below w.heap.size w W) ⟨bu_, bf_, bf_, bf_, bf_, rk_ HO.out, bw_ HB⟩ ?_; clear HO HB BF BO BR BD BA cd0 fd0 ca0 ca1 ca2 ca3 fa0 fa1 fa2 fa3 cr0 fr0 co0 fo0 cf0 cf1 cf2 ff0 ff1 ff2; intro wc ⟨qf, qo, qr, qd, qa, qh, qb⟩; have BF := Aside0.mk qf; have BO := Aside0.mk qo; have BR := Aside0.mk qr; have BD := Aside0.mk qd; have BA := Aside0.mk qa; have HO := Aside0.mk qh; have HB := Aside0.mk qb; clear qf qo qr qd qa qh qb; obtain ⟨cd0, fd0⟩ := b1_ BD; obtain ⟨ca0, ca1, ca2, ca3, fa0, fa1, fa2, fa3⟩ := b4_ BA; obtain ⟨cr0, fr0⟩ := b1_ BR; obtain ⟨co0, fo0⟩ := b1_ BO; obtain ⟨cf0, cf1, cf2, ff0, ff1, ff2⟩ := b3_ BF; refine Kd.event_run (v := .agg #[.string x.f0, .string (x.f1 ++ a2), .int .i64 x.f2]) rfl (by first | (go_simp; done) | (go_simp; rfl)) ?_)
   | (go_at_call 47; (with_reducible refine (impl_putFile.calls w.heap.size (fun _ => True) gO (.slice Ao l0_0.length co_) l0_0 ⟨x.f0, x.f1 ++ a2, x.f2⟩ _ HL.out ?b1 ?b2 ?b3 GO.out (fun _ _ => trivial)).mono ?_); (case b1 => exact bf_); (case b2 => exact rm_ HO.out); (case b3 => exact below_size (bw_ HB)); rintro e w9 ⟨rfl, v9, hbk, hr, hb, hkp⟩; have BR9 := hkp gr (blk_lt (o := .cells #[.slice none 0 0] 31 (0, 0)) bf_) NRO.out (Kd.R_ne HO.out BR.out (by decide)); replace BR := mk_ (BR9.trans bf_); replace HB := mk_ ((bw_ HB).trans hb); rw [HO2.out] at hr; obtain ⟨A9, c9, e9⟩ := Kd.R_slice hr; subst e9; have HO9 := Aside0.mk hr; replace BO := Aside0.mk hbk; clear hbk hr hb hkp BR9 cd0 fd0 ca0 ca1 ca2 ca3 fa0 fa1 fa2 fa3 cr0 fr0 co0 fo0 cf0 cf1 cf2 ff0 ff1 ff2; obtain ⟨co0, fo0⟩ := b1_ BO; obtain ⟨cr0, fr0⟩ := b1_ BR)
   | (go_at_call 45; (with_reducible refine (impl_DiskOk.calls k _ _ o _ _ (Kd.R_reads' HO9.out).2.2 (Kd.R_reads' HO9.out).2.1 HT2.out).mono ?_); rintro e w10 ⟨rfl, hb⟩; replace BO := bb_ BO hb; replace BR := bb_ BR hb; replace HO9 := rb_ HO9 hb; replace HB := bs_ HB hb; clear hb co0 fo0 cr0 fr0; obtain ⟨co0, fo0⟩ := b1_ BO; obtain ⟨cr0, fr0⟩ := b1_ BR))
  first
   | (refine bodyPost_ret (results_ct rfl _ _ gr 31 #[.slice none 0 0] (0, 0) _ rfl (by simpa using blk_set BR.out 0 (.slice none 0 0)) Try.underlying31 rfl (by kernel_rfl)) rfl ?_; exact ⟨_, rfl, Kd.R_nil _ _ _ _ _, below_set HB.out GR.out⟩)
   | (refine bodyPost_ret (results_ct rfl _ _ gr 31 #[.slice A9 o.length c9] (0, 0) _ rfl (by simpa using blk_set BR.out 0 (.slice A9 o.length c9)) Try.underlying31 rfl (by kernel_rfl)) rfl ?_; exact ⟨_, rfl, Kd.R_mono (Kd.R_set HO9.out BR.out (by decide) 0 _) (fun _ _ => trivial), below_set HB.out GR.out⟩)
set_option maxHeartbeats 8000000 in
set_option maxRecDepth 100000 in
theorem impl_DoAct.keep (k : Nat) (A0_0 : Option Addr) (c0_0 : Nat) (l0_0 : List S76) (a1 a2 a3 : ByteArray) (w : World) (hr0_0 : Kd.C k76 w A0_0 l0_0.length l0_0) (hc0_0 : l0_0.length ≤ c0_0) (kk : Nat) (hk : kk < l0_0.length) (hi : impl_fileAt.f l0_0 a1 = some (kk : Int)) (ht : impl_DiskOk.f k l0_0 = some true) (h2 : (a2.toList == ([] : List UInt8)) = true) (h3 : (a3.toList == ([] : List UInt8)) = true)
  (hl : l0_0.length < 3518437208000) (o : List S76) (ho : l0_0.set kk ⟨(rd_T76 l0_0 (kk : Int)).f0, (rd_T76 l0_0 (kk : Int)).f1, ((rd_T76 l0_0 (kk : Int)).f1.size : Int)⟩ = o) (t2 : Bool) (ht2 : impl_DiskOk.f k o = some t2) :
  Calls Try.prog 13 #[.agg #[.slice A0_0 l0_0.length c0_0], .agg #[.int .i64 2, .string a1, .string a2, .string a3]] w fun e w' => ∃ v0_ : Value, e = .returned (.tuple #[.agg #[v0_], .bool t2]) ∧ Kd.R k76 76 w' w.heap.size (fun _ => True) v0_ (if t2 = true then o else []) ∧ Below w.heap.size w w' := by
 have hu29 := Try.underlying29
 have hu31 := Try.underlying31
 have hu35 := Try.underlying35
 have hu76 := Try.underlying76
 have HR := Aside0.mk hr0_0
 have HC := Aside0.mk hc0_0
 have HI := Aside0.mk hi
 have HT := Aside0.mk ht
 have HL := Aside0.mk hl
 have HO2 := Aside0.mk ho
 have HT2 := Aside0.mk ht2
 have HCP : Aside0 (impl_copyDisk.f l0_0 = some l0_0) := mk_ (by unfold impl_copyDisk.f; rw [if_pos (by simp; omega)]; rfl)
 have HPOS : Aside0 (0 < l0_0.length) := ⟨by omega⟩
 have HK := Aside0.mk hk
 clear hr0_0 hc0_0 hi ht ho ht2 hl
 have HB := mk_ (Below.refl w.heap.size w)
 have hkz : (0 : Int) ≤ (kk : Int) := Int.natCast_nonneg kk
 have hkn : ¬ ((kk : Int) < 0) := by omega
 have hkl : (kk : Int) < (l0_0.length : Int) := by omega
 cases t2
 all_goals
  go_enter Try.func13, Try.ntmps13
  go_wp2_with (first
   | ((with_reducible refine gate_dst (N := 2) rfl ?_); refine bx_ (N := 2) (cs := #[.slice A0_0 l0_0.length c0_0]) (t := 31) ?_; intro gd hg w1 hbox hb; have BD := Aside0.mk hbox; replace HB := bs_ HB hb; clear hb hbox hg)
   | ((with_reducible refine gate_dst (N := 3) rfl ?_); refine bx_ (N := 3) (cs := #[.int .i64 2, .string a1, .string a2, .string a3]) (t := 35) ?_; intro ga hg w2 hbox hb; have BA := Aside0.mk hbox; replace BD := bb_ BD hb; replace HB := bs_ HB hb; clear hb hbox hg)
   | ((with_reducible refine gate_dst (N := 4) rfl ?_); refine bx_ (N := 4) (cs := #[.slice none 0 0]) (t := 31) ?_; intro gr hg w3 hbox hb; have BR := Aside0.mk hbox; have GR : Aside0 (w.heap.size ≤ gr) := bz_ hg; have ND : Aside0 (gd ≠ gr) := bl_ BD hg; have NA : Aside0 (ga ≠ gr) := bl_ BA hg; replace BD := bb_ BD hb; replace BA := bb_ BA hb; replace HB := bs_ HB hb; clear hb hbox hg; obtain ⟨cd0, fd0⟩ := b1_ BD; obtain ⟨ca0, ca1, ca2, ca3, fa0, fa1, fa2, fa3⟩ := b4_ BA)
   | (go_at_call 44; (with_reducible refine (impl_fileAt.calls _ _ l0_0 a1 _ _ (Kd.C_below HR.out (bw_ HB)) HC.out HI.out).mono ?_); rintro e w4 ⟨rfl, hb⟩; replace BD := bb_ BD hb; replace BA := bb_ BA hb; replace BR := bb_ BR hb; replace HB := bs_ HB hb; clear hb cd0 fd0 ca0 ca1 ca2 ca3 fa0 fa1 fa2 fa3; obtain ⟨cd0, fd0⟩ := b1_ BD; obtain ⟨ca0, ca1, ca2, ca3, fa0, fa1, fa2, fa3⟩ := b4_ BA; obtain ⟨cr0, fr0⟩ := b1_ BR)
   | (go_at_call 45; (with_reducible refine (impl_DiskOk.calls k _ _ l0_0 _ _ (Kd.C_below HR.out HB.out) HC.out HT.out).mono ?_); rintro e w5 ⟨rfl, hb⟩; replace BD := bb_ BD hb; replace BA := bb_ BA hb; replace BR := bb_ BR hb; replace HB := bs_ HB hb; clear hb cd0 fd0 ca0 ca1 ca2 ca3 fa0 fa1 fa2 fa3 cr0 fr0; obtain ⟨cd0, fd0⟩ := b1_ BD; obtain ⟨ca0, ca1, ca2, ca3, fa0, fa1, fa2, fa3⟩ := b4_ BA; obtain ⟨cr0, fr0⟩ := b1_ BR)
   | (go_at_call 46; (with_reducible refine (impl_copyDisk.calls _ _ l0_0 l0_0 _ (Kd.C_below HR.out (bw_ HB)) HC.out HCP.out).mono ?_); rintro e w6 ⟨v0, rfl, ho0, hb⟩; have HO := mk_ (Kd.R_lower ho0 (below_size (bw_ HB))); obtain ⟨go, co_, eo⟩ := own_slice76 HO.out HPOS.out; subst eo; replace BD := bb_ BD hb; replace BA := bb_ BA hb; replace BR := bb_ BR hb; replace HB := bs_ HB hb; clear hb ho0 cd0 fd0 ca0 ca1 ca2 ca3 fa0 fa1 fa2 fa3 cr0 fr0; obtain ⟨cd0, fd0⟩ := b1_ BD; obtain ⟨ca0, ca1, ca2, ca3, fa0, fa1, fa2, fa3⟩ := b4_ BA; obtain ⟨cr0, fr0⟩ := b1_ BR)
   | ((with_reducible refine gate_dst (N := 7) rfl ?_); refine bx_ (N := 7) (cs := #[.slice none 0 0]) (t := 31) ?_; intro gO hg w7 hbox hb; have BO := Aside0.mk hbox; have GO : Aside0 (w.heap.size ≤ gO) := bz_ hg; have NDO := bl_ BD hg; have NAO := bl_ BA hg; have NRO := bl_ BR hg; have NOR := bg_ BR hg; replace BD := bb_ BD hb; replace BA := bb_ BA hb; replace BR := bb_ BR hb; replace HO := rb_ HO hb; replace HB := bs_ HB hb; clear hb hbox hg cd0 fd0 ca0 ca1 ca2 ca3 fa0 fa1 fa2 fa3 cr0 fr0; obtain ⟨cd0, fd0⟩ := b1_ BD; obtain ⟨ca0, ca1, ca2, ca3, fa0, fa1, fa2, fa3⟩ := b4_ BA; obtain ⟨cr0, fr0⟩ := b1_ BR; obtain ⟨co0, fo0⟩ := b1_ BO; have hn1 := NDO.out; have hn2 := NAO.out; have hn3 := NRO.out; have hn4 := NOR.out; have hn5 := Ne.symm NDO.out; have hn6 := Ne.symm NAO.out)
   | ((with_reducible refine gate_dst (N := 68) rfl ?_); refine abs_ (fun W => W.heap[gO]? = some (.cells #[(.slice (some ⟨go, 0, none⟩) l0_0.length co_)] 31 (0, 0)) ∧ W.heap[gr]? = some (.cells #[.slice none 0 0] 31 (0, 0)) ∧ W.heap[gd]? = some (.cells #[.slice A0_0 l0_0.length c0_0] 31 (0, 0)) ∧ W.heap[ga]? = some (.cells #[.int .i64 2, .string a1, .string a2, .string a3] 35 (0, 0)) ∧ k76.R 76 W w.heap.size (fun k => True ∧ k ≠ gO) (.slice (some ⟨go, 0, none⟩) l0_0.length co_) l0_0 ∧ Below w.heap.size w W) ⟨bu_, bf_, bf_, bf_, Kd.R_types (g := gO) (t := 31) (cells := #[(.slice (some ⟨go, 0, none⟩) l0_0.length co_)]) (Kd.R_set HO.out BO.out (by decide) 0 _) bu_ (by decide), bw_ HB⟩ ?_; clear HO HB BO BR BD BA cd0 fd0 ca0 ca1 ca2 ca3 fa0 fa1 fa2 fa3 cr0 fr0 co0 fo0; intro wc ⟨qo, qr, qd, qa, qh, qb⟩; have BO := Aside0.mk qo; have BR := Aside0.mk qr; have BD := Aside0.mk qd; have BA := Aside0.mk qa; have HO := Aside0.mk qh; have HB := Aside0.mk qb; clear qo qr qd qa qh qb; obtain ⟨cd0, fd0⟩ := b1_ BD; obtain ⟨ca0, ca1, ca2, ca3, fa0, fa1, fa2, fa3⟩ := b4_ BA; obtain ⟨cr0, fr0⟩ := b1_ BR; obtain ⟨co0, fo0⟩ := b1_ BO; refine Kd.event_run (v := .bool true) rfl (by first | (go_simp; done) | (go_simp; rfl)) ?_))
  have hgb := mk_ (Kd.R_base HO.out go rfl)
  have hne := (HO.out.1 go rfl).2
  have hne2 : gO ≠ go := Ne.symm hne
  have HN2 := Aside0.mk hne2
  have HRO := mk_ (blk_ne BR.out (Kd.R_typed HO.out go rfl).choose_spec (by decide))
  obtain ⟨ce, hcl, hM, hcc, hfr⟩ := Kd.R_elem HO.out z76 (kk : Int) hkz hkl
  obtain rfl := k76_openM hM
  rw [show l0_0.getD (kk : Int).toNat z76 = rd_T76 l0_0 (kk : Int) from rfl] at hM hcc
  generalize hxx : rd_T76 l0_0 (kk : Int) = x at *
  have hy1 : wc.cell? ⟨go, kk * 3 + 1, none⟩ = some (.string x.f1) := hcc 1 _ rfl
  have hy2 : wc.cell? ⟨go, kk * 3 + 2, none⟩ = some (.int .i64 x.f2) := hcc 2 _ rfl
  have hz2 : wc.frozen? ⟨go, kk * 3 + 2, none⟩ = false := hfr 2
  have HPo : Aside0 (k76.R 76 (wc.setCell ⟨go, kk * 3 + 2, none⟩ (.int .i64 (x.f1.size : Int))) w.heap.size (fun k => True ∧ k ≠ gO) (.slice (some ⟨go, 0, none⟩) l0_0.length co_) (l0_0.set kk ⟨x.f0, x.f1, (x.f1.size : Int)⟩)) := ⟨(Kd.R_seg HO.out (kk : Int) hkz hkl (c := [.string x.f0, .string x.f1, .int .i64 x.f2]) (seg := [.int .i64 (x.f1.size : Int)]) (j := 2) rfl hcc (show 2 + 1 ≤ 3 from by decide) (x' := (⟨x.f0, x.f1, (x.f1.size : Int)⟩ : S76)) (k76_mkM _ _ _ (⟨x.f0, x.f1, (x.f1.size : Int)⟩ : S76)) (okp := fun k => (True ∧ k ≠ gO) ∧ k ≠ go) (fun _ hk => hk)).1⟩
  have HLO : Aside0 (l0_0.length = o.length) := ⟨by rw [← HO2.out, List.length_set]⟩
  have HPq : Aside0 (k76.R 76 (wc.setCell ⟨go, kk * 3 + 2, none⟩ (.int .i64 (x.f1.size : Int))) w.heap.size (fun k => True ∧ k ≠ gO) (.slice (some ⟨go, 0, none⟩) o.length co_) o) := ⟨by have h := HPo.out; rw [HO2.out, HLO.out] at h; exact h⟩
  have BOq : Aside0 (wc.heap[gO]? = some (.cells #[.slice (some ⟨go, 0, none⟩) o.length co_] 31 (0, 0))) := ⟨by have h := BO.out; rw [HLO.out] at h; exact h⟩
  clear hcl hM hcc hfr hxx HPo
  go_wp2
  go_region
  go_wp2_with (first
   | ((with_reducible refine gate_dst (N := 123) rfl ?_); refine abs_ (fun W => W.heap[gO]? = some (.cells #[(.slice (some ⟨go, 0, none⟩) o.length co_)] 31 (0, 0)) ∧ W.heap[gr]? = some (.cells #[.slice none 0 0] 31 (0, 0)) ∧ k76.R 76 W w.heap.size (fun k => True ∧ k ≠ gO) (.slice (some ⟨go, 0, none⟩) o.length co_) o ∧ Below w.heap.size w W) ⟨blk_drew (blk_far BOq.out hne2 _), blk_drew (blk_far BR.out HRO.out _), Kd.R_drew HPq.out, below_drew (below_set HB.out hgb.out)⟩ ?_; clear HO HB BO BR BD BA HPq BOq HRO hy1 hy2 hz2 hne hne2 cd0 fd0 ca0 ca1 ca2 ca3 fa0 fa1 fa2 fa3 cr0 fr0 co0 fo0; intro wc_ ⟨qo, qr, qh, qb⟩; have BO := Aside0.mk qo; have BR := Aside0.mk qr; have HO9 := Aside0.mk qh; have HB := Aside0.mk qb; clear qo qr qh qb; obtain ⟨co0, fo0⟩ := b1_ BO; obtain ⟨cr0, fr0⟩ := b1_ BR; refine Kd.event_run (v := .agg #[(.slice (some ⟨go, 0, none⟩) o.length co_)]) rfl (by first | (go_simp; done) | (go_simp; rfl)) ?_)
   | (go_at_call 45; (with_reducible refine (impl_DiskOk.calls k _ _ o _ _ (Kd.R_reads' HO9.out).2.2 (Kd.R_reads' HO9.out).2.1 HT2.out).mono ?_); rintro e w10 ⟨rfl, hb⟩; replace BO := bb_ BO hb; replace BR := bb_ BR hb; replace HO9 := rb_ HO9 hb; replace HB := bs_ HB hb; clear hb co0 fo0 cr0 fr0; obtain ⟨co0, fo0⟩ := b1_ BO; obtain ⟨cr0, fr0⟩ := b1_ BR))
  first
   | (refine bodyPost_ret (results_ct rfl _ _ gr 31 #[.slice none 0 0] (0, 0) _ rfl (by simpa using blk_set BR.out 0 (.slice none 0 0)) Try.underlying31 rfl (by kernel_rfl)) rfl ?_; exact ⟨_, rfl, Kd.R_nil _ _ _ _ _, below_set HB.out GR.out⟩)
   | (refine bodyPost_ret (results_ct rfl _ _ gr 31 #[.slice (some ⟨go, 0, none⟩) o.length co_] (0, 0) _ rfl (by simpa using blk_set BR.out 0 (.slice (some ⟨go, 0, none⟩) o.length co_)) Try.underlying31 rfl (by kernel_rfl)) rfl ?_; exact ⟨_, rfl, Kd.R_mono (Kd.R_set HO9.out BR.out (by decide) 0 _) (fun _ _ => trivial), below_set HB.out GR.out⟩)
theorem fileDeleteR (base : Nat) (ok : Nat → Prop) (g cap i : Nat) (l o : List S76) (w : World) (hi : i < l.length) (hl : l.length < 3518437208000) (h : k76.R 76 w base ok (.slice (some ⟨g, 0, none⟩) l.length cap) l) (ho : l.take i ++ l.drop (i + 1) = o) :
  Calls Try.prog 48 #[.slice (some ⟨g, 0, none⟩) l.length cap, .int .i64 i, .int .i64 ((i : Int) + 1)] w fun e w' => e = .returned (.slice (some ⟨g, 0, none⟩) o.length cap) ∧ k76.R 76 w' base ok (.slice (some ⟨g, 0, none⟩) o.length cap) o ∧ w.grownBy w' (some g) := by
 have hn : l.length - 1 = o.length := by rw [← ho, List.length_append, List.length_take, List.length_drop]; omega
 refine (fileDelete base g cap i l w hi (Nat.lt_trans hl (by decide)) (own76 h)).mono ?_
 rintro e w' ⟨rfl, h1, h2⟩
 rw [hn, ho] at *
 exact ⟨rfl, R76 (fun k hk => h.1 k hk) h1, h2⟩

set_option maxHeartbeats 8000000 in
set_option maxRecDepth 100000 in
theorem impl_DoAct.drop_ (k : Nat) (A0_0 : Option Addr) (c0_0 : Nat) (l0_0 : List S76) (a1 a2 a3 : ByteArray) (w : World) (hr0_0 : Kd.C k76 w A0_0 l0_0.length l0_0) (hc0_0 : l0_0.length ≤ c0_0) (kk : Nat) (hk : kk < l0_0.length) (hi : impl_fileAt.f l0_0 a1 = some (kk : Int)) (ht : impl_DiskOk.f k l0_0 = some true) (h2 : (a2.toList == ([] : List UInt8)) = true) (h3 : (a3.toList == ([] : List UInt8)) = true)
  (hl : l0_0.length < 3518437208000) (o : List S76) (ho : l0_0.take kk ++ l0_0.drop (kk + 1) = o) (t2 : Bool) (ht2 : impl_DiskOk.f k o = some t2) :
  Calls Try.prog 13 #[.agg #[.slice A0_0 l0_0.length c0_0], .agg #[.int .i64 4, .string a1, .string a2, .string a3]] w fun e w' => ∃ v0_ : Value, e = .returned (.tuple #[.agg #[v0_], .bool t2]) ∧ Kd.R k76 76 w' w.heap.size (fun _ => True) v0_ (if t2 = true then o else []) ∧ Below w.heap.size w w' := by
 have hu29 := Try.underlying29
 have hu31 := Try.underlying31
 have hu35 := Try.underlying35
 have hu76 := Try.underlying76
 have HR := Aside0.mk hr0_0
 have HC := Aside0.mk hc0_0
 have HI := Aside0.mk hi
 have HT := Aside0.mk ht
 have HL := Aside0.mk hl
 have HO2 := Aside0.mk ho
 have HT2 := Aside0.mk ht2
 have HCP : Aside0 (impl_copyDisk.f l0_0 = some l0_0) := mk_ (by unfold impl_copyDisk.f; rw [if_pos (by simp; omega)]; rfl)
 have HPOS : Aside0 (0 < l0_0.length) := ⟨by omega⟩
 have HK := Aside0.mk hk
 have hw1 : IntKind.i64.wrap ((kk : Int) + 1) = (kk : Int) + 1 := by rw [IntKind.wrap_i64]; omega
 clear hr0_0 hc0_0 hi ht ho ht2 hl
 have HB := mk_ (Below.refl w.heap.size w)
 have hkz : (0 : Int) ≤ (kk : Int) := Int.natCast_nonneg kk
 have hkn : ¬ ((kk : Int) < 0) := by omega
 have hkl : (kk : Int) < (l0_0.length : Int) := by omega
 cases t2
 all_goals
  go_enter Try.func13, Try.ntmps13
  go_wp2_with (first
   | ((with_reducible refine gate_dst (N := 2) rfl ?_); refine bx_ (N := 2) (cs := #[.slice A0_0 l0_0.length c0_0]) (t := 31) ?_; intro gd hg w1 hbox hb; have BD := Aside0.mk hbox; replace HB := bs_ HB hb; clear hb hbox hg)
   | ((with_reducible refine gate_dst (N := 3) rfl ?_); refine bx_ (N := 3) (cs := #[.int .i64 4, .string a1, .string a2, .string a3]) (t := 35) ?_; intro ga hg w2 hbox hb; have BA := Aside0.mk hbox; replace BD := bb_ BD hb; replace HB := bs_ HB hb; clear hb hbox hg)
   | ((with_reducible refine gate_dst (N := 4) rfl ?_); refine bx_ (N := 4) (cs := #[.slice none 0 0]) (t := 31) ?_; intro gr hg w3 hbox hb; have BR := Aside0.mk hbox; have GR : Aside0 (w.heap.size ≤ gr) := bz_ hg; have ND : Aside0 (gd ≠ gr) := bl_ BD hg; have NA : Aside0 (ga ≠ gr) := bl_ BA hg; replace BD := bb_ BD hb; replace BA := bb_ BA hb; replace HB := bs_ HB hb; clear hb hbox hg; obtain ⟨cd0, fd0⟩ := b1_ BD; obtain ⟨ca0, ca1, ca2, ca3, fa0, fa1, fa2, fa3⟩ := b4_ BA)
   | (go_at_call 44; (with_reducible refine (impl_fileAt.calls _ _ l0_0 a1 _ _ (Kd.C_below HR.out (bw_ HB)) HC.out HI.out).mono ?_); rintro e w4 ⟨rfl, hb⟩; replace BD := bb_ BD hb; replace BA := bb_ BA hb; replace BR := bb_ BR hb; replace HB := bs_ HB hb; clear hb cd0 fd0 ca0 ca1 ca2 ca3 fa0 fa1 fa2 fa3; obtain ⟨cd0, fd0⟩ := b1_ BD; obtain ⟨ca0, ca1, ca2, ca3, fa0, fa1, fa2, fa3⟩ := b4_ BA; obtain ⟨cr0, fr0⟩ := b1_ BR)
   | (go_at_call 45; (with_reducible refine (impl_DiskOk.calls k _ _ l0_0 _ _ (Kd.C_below HR.out HB.out) HC.out HT.out).mono ?_); rintro e w5 ⟨rfl, hb⟩; replace BD := bb_ BD hb; replace BA := bb_ BA hb; replace BR := bb_ BR hb; replace HB := bs_ HB hb; clear hb cd0 fd0 ca0 ca1 ca2 ca3 fa0 fa1 fa2 fa3 cr0 fr0; obtain ⟨cd0, fd0⟩ := b1_ BD; obtain ⟨ca0, ca1, ca2, ca3, fa0, fa1, fa2, fa3⟩ := b4_ BA; obtain ⟨cr0, fr0⟩ := b1_ BR)
   | (go_at_call 46; (with_reducible refine (impl_copyDisk.calls _ _ l0_0 l0_0 _ (Kd.C_below HR.out (bw_ HB)) HC.out HCP.out).mono ?_); rintro e w6 ⟨v0, rfl, ho0, hb⟩; have HO := mk_ (Kd.R_lower ho0 (below_size (bw_ HB))); obtain ⟨go, co_, eo⟩ := own_slice76 HO.out HPOS.out; subst eo; replace BD := bb_ BD hb; replace BA := bb_ BA hb; replace BR := bb_ BR hb; replace HB := bs_ HB hb; clear hb ho0 cd0 fd0 ca0 ca1 ca2 ca3 fa0 fa1 fa2 fa3 cr0 fr0; obtain ⟨cd0, fd0⟩ := b1_ BD; obtain ⟨ca0, ca1, ca2, ca3, fa0, fa1, fa2, fa3⟩ := b4_ BA; obtain ⟨cr0, fr0⟩ := b1_ BR)
   | ((with_reducible refine gate_dst (N := 7) rfl ?_); refine bx_ (N := 7) (cs := #[.slice none 0 0]) (t := 31) ?_; intro gO hg w7 hbox hb; have BO := Aside0.mk hbox; have GO : Aside0 (w.heap.size ≤ gO) := bz_ hg; have NDO := bl_ BD hg; have NAO := bl_ BA hg; have NRO := bl_ BR hg; have NOR := bg_ BR hg; replace BD := bb_ BD hb; replace BA := bb_ BA hb; replace BR := bb_ BR hb; replace HO := rb_ HO hb; replace HB := bs_ HB hb; clear hb hbox hg cd0 fd0 ca0 ca1 ca2 ca3 fa0 fa1 fa2 fa3 cr0 fr0; obtain ⟨cd0, fd0⟩ := b1_ BD; obtain ⟨ca0, ca1, ca2, ca3, fa0, fa1, fa2, fa3⟩ := b4_ BA; obtain ⟨cr0, fr0⟩ := b1_ BR; obtain ⟨co0, fo0⟩ := b1_ BO; have hn1 := NDO.out; have hn2 := NAO.out; have hn3 := NRO.out; have hn4 := NOR.out; have hn5 := Ne.symm NDO.out; have hn6 := Ne.symm NAO.out)
   | ((with_reducible refine gate_dst (N := 115) rfl ?_); refine abs_ (fun W => W.heap[gO]? = some (.cells #[(.slice (some ⟨go, 0, none⟩) l0_0.length co_)] 31 (0, 0)) ∧ W.heap[gr]? = some (.cells #[.slice none 0 0] 31 (0, 0)) ∧ W.heap[gd]? = some (.cells #[.slice A0_0 l0_0.length c0_0] 31 (0, 0)) ∧ W.heap[ga]? = some (.cells #[.int .i64 4, .string a1, .string a2, .string a3] 35 (0, 0)) ∧ k76.R 76 W w.heap.size (fun k => True ∧ k ≠ gO) (.slice (some ⟨go, 0, none⟩) l0_0.length co_) l0_0 ∧ Below w.heap.size w W) ⟨bu_, bf_, bf_, bf_, Kd.R_types (g := gO) (t := 31) (cells := #[(.slice (some ⟨go, 0, none⟩) l0_0.length co_)]) (Kd.R_set HO.out BO.out (by decide) 0 _) bu_ (by decide), bw_ HB⟩ ?_; clear HO HB BO BR BD BA cd0 fd0 ca0 ca1 ca2 ca3 fa0 fa1 fa2 fa3 cr0 fr0 co0 fo0; intro wc ⟨qo, qr, qd, qa, qh, qb⟩; have BO := Aside0.mk qo; have BR := Aside0.mk qr; have BD := Aside0.mk qd; have BA := Aside0.mk qa; have HO := Aside0.mk qh; have HB := Aside0.mk qb; clear qo qr qd qa qh qb; obtain ⟨cd0, fd0⟩ := b1_ BD; obtain ⟨ca0, ca1, ca2, ca3, fa0, fa1, fa2, fa3⟩ := b4_ BA; obtain ⟨cr0, fr0⟩ := b1_ BR; obtain ⟨co0, fo0⟩ := b1_ BO; refine Kd.event_run (v := .bool true) rfl (by first | (go_simp; done) | (go_simp; rfl)) ?_)
   | (go_at_call 48; refine (fileDeleteR w.heap.size _ go co_ kk l0_0 o _ HK.out HL.out HO.out HO2.out).mono ?_; rintro e w9 ⟨rfl, hrow, hg9⟩; have HON : Aside0 (gO ≠ go) := ⟨Ne.symm (HO.out.1 go rfl).2⟩; have HRN : Aside0 (gr ≠ go) := ⟨blk_ne BR.out (Kd.R_typed HO.out go rfl).choose_spec (by decide)⟩; replace BO := mk_ (blk_grown BO.out hg9 (fun e => HON.out (Option.some.inj e))); replace BR := mk_ (blk_grown BR.out hg9 (fun e => HRN.out (Option.some.inj e))); replace HB := mk_ (pw_below_grown HB.out (some go) HB.out.size hg9 (fun k e => by rw [← Option.some.inj e]; exact Kd.R_base HO.out go rfl)); have HO9 := Aside0.mk hrow; clear hrow hg9 BA BD HO cd0 fd0 ca0 ca1 ca2 ca3 fa0 fa1 fa2 fa3 cr0 fr0 co0 fo0; obtain ⟨co0, fo0⟩ := b1_ BO; obtain ⟨cr0, fr0⟩ := b1_ BR)
   | ((with_reducible refine gate_dst (N := 123) rfl ?_); refine abs_ (fun W => W.heap[gO]? = some (.cells #[(.slice (some ⟨go, 0, none⟩) o.length co_)] 31 (0, 0)) ∧ W.heap[gr]? = some (.cells #[.slice none 0 0] 31 (0, 0)) ∧ k76.R 76 W w.heap.size (fun k => True ∧ k ≠ gO) (.slice (some ⟨go, 0, none⟩) o.length co_) o ∧ Below w.heap.size w W) ⟨bu_, bf_, Kd.R_far (p := ⟨gO, 0, none⟩) HO9.out (fun _ hk => hk.2) _, bw_ HB⟩ ?_; clear HO9 HB BO BR co0 fo0 cr0 fr0; intro wc_ ⟨qo, qr, qh, qb⟩; have BO := Aside0.mk qo; have BR := Aside0.mk qr; have HO9 := Aside0.mk qh; have HB := Aside0.mk qb; clear qo qr qh qb; obtain ⟨co0, fo0⟩ := b1_ BO; obtain ⟨cr0, fr0⟩ := b1_ BR; refine Kd.event_run (v := .agg #[(.slice (some ⟨go, 0, none⟩) o.length co_)]) rfl (by first | (go_simp; done) | (go_simp; rfl)) ?_)
   | (go_at_call 45; (with_reducible refine (impl_DiskOk.calls k _ _ o _ _ (Kd.R_reads' HO9.out).2.2 (Kd.R_reads' HO9.out).2.1 HT2.out).mono ?_); rintro e w10 ⟨rfl, hb⟩; replace BO := bb_ BO hb; replace BR := bb_ BR hb; replace HO9 := rb_ HO9 hb; replace HB := bs_ HB hb; clear hb co0 fo0 cr0 fr0; obtain ⟨co0, fo0⟩ := b1_ BO; obtain ⟨cr0, fr0⟩ := b1_ BR))
  first
   | (refine bodyPost_ret (results_ct rfl _ _ gr 31 #[.slice none 0 0] (0, 0) _ rfl (by simpa using blk_set BR.out 0 (.slice none 0 0)) Try.underlying31 rfl (by kernel_rfl)) rfl ?_; exact ⟨_, rfl, Kd.R_nil _ _ _ _ _, below_set HB.out GR.out⟩)
   | (refine bodyPost_ret (results_ct rfl _ _ gr 31 #[.slice (some ⟨go, 0, none⟩) o.length co_] (0, 0) _ rfl (by simpa using blk_set BR.out 0 (.slice (some ⟨go, 0, none⟩) o.length co_)) Try.underlying31 rfl (by kernel_rfl)) rfl ?_; exact ⟨_, rfl, Kd.R_mono (Kd.R_set HO9.out BR.out (by decide) 0 _) (fun _ _ => trivial), below_set HB.out GR.out⟩)
set_option maxHeartbeats 8000000 in
set_option maxRecDepth 100000 in
theorem impl_DoAct.move_no (k : Nat) (A0_0 : Option Addr) (c0_0 : Nat) (l0_0 : List S76) (a1 a2 a3 : ByteArray) (w : World) (hr0_0 : Kd.C k76 w A0_0 l0_0.length l0_0) (hc0_0 : l0_0.length ≤ c0_0) (kk : Nat) (hk : kk < l0_0.length) (hi : impl_fileAt.f l0_0 a1 = some (kk : Int)) (ht : impl_DiskOk.f k l0_0 = some true) (h2 : (a2.toList == ([] : List UInt8)) = true) (hl : l0_0.length < 3518437208000) (hn : (a3.toList == a1.toList) = true ∨ (a3.toList == a1.toList) = false ∧ ((rd_T76 l0_0 (kk : Int)).f2 == ((rd_T76 l0_0 (kk : Int)).f1.size : Int)) = false) :
  Calls Try.prog 13 #[.agg #[.slice A0_0 l0_0.length c0_0], .agg #[.int .i64 3, .string a1, .string a2, .string a3]] w fun e w' => ∃ v0_ : Value, e = .returned (.tuple #[.agg #[v0_], .bool false]) ∧ Kd.R k76 76 w' w.heap.size (fun _ => True) v0_ [] ∧ Below w.heap.size w w' := by
 have hu29 := Try.underlying29
 have hu31 := Try.underlying31
 have hu35 := Try.underlying35
 have hu76 := Try.underlying76
 obtain ⟨ad, e0, hx0, hx1, hx2⟩ := at_T76 hr0_0 (kk : Int) (by omega) (by omega)
 cases e0
 simp only [Int.toNat_natCast] at hx0 hx1 hx2
 have hblk := World.block_lt_of_cell? _ _ hx0
 rw [add_block] at hblk
 have HBL := Aside0.mk hblk
 have HR := Aside0.mk hr0_0
 have HC := Aside0.mk hc0_0
 have HI := Aside0.mk hi
 have HT := Aside0.mk ht
 have HL := Aside0.mk hl
 have HCP : Aside0 (impl_copyDisk.f l0_0 = some l0_0) := mk_ (by unfold impl_copyDisk.f; rw [if_pos (by simp; omega)]; rfl)
 have HPOS : Aside0 (0 < l0_0.length) := ⟨by omega⟩
 have HK := Aside0.mk hk
 have hw1 : IntKind.i64.wrap ((kk : Int) + 1) = (kk : Int) + 1 := by rw [IntKind.wrap_i64]; omega
 clear hr0_0 hc0_0 hi ht hl hblk
 generalize hxx : rd_T76 l0_0 (kk : Int) = x at *
 clear hxx
 have HB := mk_ (Below.refl w.heap.size w)
 have hkz : (0 : Int) ≤ (kk : Int) := Int.natCast_nonneg kk
 have hkn : ¬ ((kk : Int) < 0) := by omega
 have hkl : (kk : Int) < (l0_0.length : Int) := by omega
 rcases hn with h4 | ⟨h4, h5⟩
 rotate_left 1
 have h6 : (x.f2 != (x.f1.size : Int)) = true := by simpa [bne] using h5
 all_goals
  go_enter Try.func13, Try.ntmps13
  go_wp2_with (first
   | ((with_reducible refine gate_dst (N := 2) rfl ?_); refine bx_ (N := 2) (cs := #[.slice (some ad) l0_0.length c0_0]) (t := 31) ?_; intro gd hg w1 hbox hb; have BD := Aside0.mk hbox; replace HB := bs_ HB hb; clear hb hbox hg)
   | ((with_reducible refine gate_dst (N := 3) rfl ?_); refine bx_ (N := 3) (cs := #[.int .i64 3, .string a1, .string a2, .string a3]) (t := 35) ?_; intro ga hg w2 hbox hb; have BA := Aside0.mk hbox; replace BD := bb_ BD hb; replace HB := bs_ HB hb; clear hb hbox hg)
   | ((with_reducible refine gate_dst (N := 4) rfl ?_); refine bx_ (N := 4) (cs := #[.slice none 0 0]) (t := 31) ?_; intro gr hg w3 hbox hb; have BR := Aside0.mk hbox; have GR : Aside0 (w.heap.size ≤ gr) := bz_ hg; have ND : Aside0 (gd ≠ gr) := bl_ BD hg; have NA : Aside0 (ga ≠ gr) := bl_ BA hg; replace BD := bb_ BD hb; replace BA := bb_ BA hb; replace HB := bs_ HB hb; clear hb hbox hg; obtain ⟨cd0, fd0⟩ := b1_ BD; obtain ⟨ca0, ca1, ca2, ca3, fa0, fa1, fa2, fa3⟩ := b4_ BA)
   | (go_at_call 44; (with_reducible refine (impl_fileAt.calls _ _ l0_0 a1 _ _ (Kd.C_below HR.out (bw_ HB)) HC.out HI.out).mono ?_); rintro e w4 ⟨rfl, hb⟩; replace BD := bb_ BD hb; replace BA := bb_ BA hb; replace BR := bb_ BR hb; replace HB := bs_ HB hb; clear hb cd0 fd0 ca0 ca1 ca2 ca3 fa0 fa1 fa2 fa3; obtain ⟨cd0, fd0⟩ := b1_ BD; obtain ⟨ca0, ca1, ca2, ca3, fa0, fa1, fa2, fa3⟩ := b4_ BA; obtain ⟨cr0, fr0⟩ := b1_ BR)
   | (go_at_call 45; (with_reducible refine (impl_DiskOk.calls k _ _ l0_0 _ _ (Kd.C_below HR.out HB.out) HC.out HT.out).mono ?_); rintro e w5 ⟨rfl, hb⟩; replace BD := bb_ BD hb; replace BA := bb_ BA hb; replace BR := bb_ BR hb; replace HB := bs_ HB hb; clear hb cd0 fd0 ca0 ca1 ca2 ca3 fa0 fa1 fa2 fa3 cr0 fr0; obtain ⟨cd0, fd0⟩ := b1_ BD; obtain ⟨ca0, ca1, ca2, ca3, fa0, fa1, fa2, fa3⟩ := b4_ BA; obtain ⟨cr0, fr0⟩ := b1_ BR)
   | (go_at_call 46; (with_reducible refine (impl_copyDisk.calls _ _ l0_0 l0_0 _ (Kd.C_below HR.out (bw_ HB)) HC.out HCP.out).mono ?_); rintro e w6 ⟨v0, rfl, ho0, hb⟩; have HO := mk_ (Kd.R_lower ho0 (below_size (bw_ HB))); obtain ⟨go, co_, eo⟩ := own_slice76 HO.out HPOS.out; subst eo; replace BD := bb_ BD hb; replace BA := bb_ BA hb; replace BR := bb_ BR hb; replace HB := bs_ HB hb; clear hb ho0 cd0 fd0 ca0 ca1 ca2 ca3 fa0 fa1 fa2 fa3 cr0 fr0; obtain ⟨cd0, fd0⟩ := b1_ BD; obtain ⟨ca0, ca1, ca2, ca3, fa0, fa1, fa2, fa3⟩ := b4_ BA; obtain ⟨cr0, fr0⟩ := b1_ BR)
   | ((with_reducible refine gate_dst (N := 7) rfl ?_); refine bx_ (N := 7) (cs := #[.slice none 0 0]) (t := 31) ?_; intro gO hg w7 hbox hb; have BO := Aside0.mk hbox; have GO : Aside0 (w.heap.size ≤ gO) := bz_ hg; have NDO := bl_ BD hg; have NAO := bl_ BA hg; have NRO := bl_ BR hg; have NOR := bg_ BR hg; replace BD := bb_ BD hb; replace BA := bb_ BA hb; replace BR := bb_ BR hb; replace HO := rb_ HO hb; replace HB := bs_ HB hb; clear hb hbox hg cd0 fd0 ca0 ca1 ca2 ca3 fa0 fa1 fa2 fa3 cr0 fr0; obtain ⟨cd0, fd0⟩ := b1_ BD; obtain ⟨ca0, ca1, ca2, ca3, fa0, fa1, fa2, fa3⟩ := b4_ BA; obtain ⟨cr0, fr0⟩ := b1_ BR; obtain ⟨co0, fo0⟩ := b1_ BO; have hn1 := NDO.out; have hn2 := NAO.out; have hn3 := NRO.out; have hn4 := NOR.out; have hn5 := Ne.symm NDO.out; have hn6 := Ne.symm NAO.out)
   | ((with_reducible refine gate_dst (N := 82) rfl ?_); refine abs_ (fun W => W.heap[gO]? = some (.cells #[(.slice (some ⟨go, 0, none⟩) l0_0.length co_)] 31 (0, 0)) ∧ W.heap[gr]? = some (.cells #[.slice none 0 0] 31 (0, 0)) ∧ W.heap[gd]? = some (.cells #[.slice (some ad) l0_0.length c0_0] 31 (0, 0)) ∧ W.heap[ga]? = some (.cells #[.int .i64 3, .string a1, .string a2, .string a3] 35 (0, 0)) ∧ k76.R 76 W w.heap.size (fun k => True ∧ k ≠ gO) (.slice (some ⟨go, 0, none⟩) l0_0.length co_) l0_0 ∧ Below w.heap.size w W) ⟨bu_, bf_, bf_, bf_, Kd.R_types (g := gO) (t := 31) (cells := #[(.slice (some ⟨go, 0, none⟩) l0_0.length co_)]) (Kd.R_set HO.out BO.out (by decide) 0 _) bu_ (by decide), bw_ HB⟩ ?_; clear HO HB BO BR BD BA cd0 fd0 ca0 ca1 ca2 ca3 fa0 fa1 fa2 fa3 cr0 fr0 co0 fo0; intro wc ⟨qo, qr, qd, qa, qh, qb⟩; have BO := Aside0.mk qo; have BR := Aside0.mk qr; have BD := Aside0.mk qd; have BA := Aside0.mk qa; have HO := Aside0.mk qh; have HB := Aside0.mk qb; replace hx0 := hc_ HB hx0; replace hx1 := hc_ HB hx1; replace hx2 := hc_ HB hx2; clear qo qr qd qa qh qb; obtain ⟨cd0, fd0⟩ := b1_ BD; obtain ⟨ca0, ca1, ca2, ca3, fa0, fa1, fa2, fa3⟩ := b4_ BA; obtain ⟨cr0, fr0⟩ := b1_ BR; obtain ⟨co0, fo0⟩ := b1_ BO; refine Kd.event_run (v := .bool true) rfl (by first | (go_simp; done) | (go_simp; rfl)) ?_)
   | ((with_reducible refine gate_dst (N := 9) rfl ?_); refine bx_ (N := 9) (cs := #[.string ⟨#[]⟩, .string ⟨#[]⟩, .int .i64 0]) (t := 76) ?_; intro gf hg w8 hbox hb; have BF := Aside0.mk hbox; have NDF := bl_ BD hg; have NAF := bl_ BA hg; have NRF := bl_ BR hg; have NOF := bl_ BO hg; have NFO := mk_ (Ne.symm NOF.out); replace HO : Aside0 (k76.R 76 w8 w.heap.size (fun k => (True ∧ k ≠ gO) ∧ k ≠ gf) (.slice (some ⟨go, 0, none⟩) l0_0.length co_) l0_0) := ⟨Kd.R_below (Kd.R_mono (Kd.R_bound HO.out) (fun k hk => ⟨hk.1, by have := hk.2.2.1; omega⟩)) hb⟩; replace BD := bb_ BD hb; replace BA := bb_ BA hb; replace BR := bb_ BR hb; replace BO := bb_ BO hb; have GF : Aside0 (w.heap.size ≤ gf) := bz_ hg; replace HB := bs_ HB hb; clear hb hbox hg hx0 hx1 hx2 cd0 fd0 ca0 ca1 ca2 ca3 fa0 fa1 fa2 fa3 cr0 fr0 co0 fo0; obtain ⟨cd0, fd0⟩ := b1_ BD; obtain ⟨ca0, ca1, ca2, ca3, fa0, fa1, fa2, fa3⟩ := b4_ BA; obtain ⟨cr0, fr0⟩ := b1_ BR; obtain ⟨co0, fo0⟩ := b1_ BO; obtain ⟨cf0, cf1, cf2, ff0, ff1, ff2⟩ := b3_ BF; have hm1 := NDF.out; have hm2 := NAF.out; have hm3 := NRF.out; have hm4 := NOF.out; have hm5 := Ne.symm NDF.out; have hm6 := Ne.symm NAF.out; have hm7 := Ne.symm NRF.out; have hm8 := Ne.symm NOF.out))
  (refine bodyPost_ret (results_ct rfl _ _ gr 31 #[.slice none 0 0] (0, 0) _ rfl bu_ Try.underlying31 rfl (by kernel_rfl)) rfl ?_; exact ⟨_, rfl, Kd.R_nil _ _ _ _ _, bw_ HB⟩)
set_option maxHeartbeats 8000000 in
set_option maxRecDepth 100000 in
theorem impl_DoAct.move_ (k : Nat) (A0_0 : Option Addr) (c0_0 : Nat) (l0_0 : List S76) (a1 a2 a3 : ByteArray) (w : World) (hr0_0 : Kd.C k76 w A0_0 l0_0.length l0_0) (hc0_0 : l0_0.length ≤ c0_0) (kk : Nat) (hk : kk < l0_0.length) (hi : impl_fileAt.f l0_0 a1 = some (kk : Int)) (ht : impl_DiskOk.f k l0_0 = some true) (h2 : (a2.toList == ([] : List UInt8)) = true) (hl : l0_0.length < 3518437208000) (h4 : (a3.toList == a1.toList) = false) (h5 : (rd_T76 l0_0 (kk : Int)).f2 = ((rd_T76 l0_0 (kk : Int)).f1.size : Int)) (q o : List S76) (hq : l0_0.take kk ++ l0_0.drop (kk + 1) = q) (ho : putF q ⟨a3, (rd_T76 l0_0 (kk : Int)).f1, (rd_T76 l0_0 (kk : Int)).f2⟩ = o) (t2 : Bool) (ht2 : impl_DiskOk.f k o = some t2) :
  Calls Try.prog 13 #[.agg #[.slice A0_0 l0_0.length c0_0], .agg #[.int .i64 3, .string a1, .string a2, .string a3]] w fun e w' => ∃ v0_ : Value, e = .returned (.tuple #[.agg #[v0_], .bool t2]) ∧ Kd.R k76 76 w' w.heap.size (fun _ => True) v0_ (if t2 = true then o else []) ∧ Below w.heap.size w w' := by
 have hu29 := Try.underlying29
 have hu31 := Try.underlying31
 have hu35 := Try.underlying35
 have hu76 := Try.underlying76
 obtain ⟨ad, e0, hx0, hx1, hx2⟩ := at_T76 hr0_0 (kk : Int) (by omega) (by omega)
 cases e0
 simp only [Int.toNat_natCast] at hx0 hx1 hx2
 have hblk := World.block_lt_of_cell? _ _ hx0
 rw [add_block] at hblk
 have HBL := Aside0.mk hblk
 have HR := Aside0.mk hr0_0
 have HC := Aside0.mk hc0_0
 have HI := Aside0.mk hi
 have HT := Aside0.mk ht
 have HL := Aside0.mk hl
 have HCP : Aside0 (impl_copyDisk.f l0_0 = some l0_0) := mk_ (by unfold impl_copyDisk.f; rw [if_pos (by simp; omega)]; rfl)
 have HPOS : Aside0 (0 < l0_0.length) := ⟨by omega⟩
 have HK := Aside0.mk hk
 have hw1 : IntKind.i64.wrap ((kk : Int) + 1) = (kk : Int) + 1 := by rw [IntKind.wrap_i64]; omega
 have HQ := Aside0.mk hq
 have HO2 := Aside0.mk ho
 have HT2 := Aside0.mk ht2
 have HLQ : Aside0 (q.length < 3518437208000) := ⟨by rw [← hq, List.length_append, List.length_take, List.length_drop]; omega⟩
 clear hq ho ht2; clear hr0_0 hc0_0 hi ht hl hblk
 generalize hxx : rd_T76 l0_0 (kk : Int) = x at *
 clear hxx
 have HB := mk_ (Below.refl w.heap.size w)
 have hkz : (0 : Int) ≤ (kk : Int) := Int.natCast_nonneg kk
 have hkn : ¬ ((kk : Int) < 0) := by omega
 have hkl : (kk : Int) < (l0_0.length : Int) := by omega
 have h6 : (x.f2 != (x.f1.size : Int)) = false := by rw [h5]; simp
 have H5 := Aside0.mk h5
 clear h5
 cases t2
 all_goals
  go_enter Try.func13, Try.ntmps13
  go_wp2_with (first
   | ((with_reducible refine gate_dst (N := 2) rfl ?_); refine bx_ (N := 2) (cs := #[.slice (some ad) l0_0.length c0_0]) (t := 31) ?_; intro gd hg w1 hbox hb; have BD := Aside0.mk hbox; replace HB := bs_ HB hb; clear hb hbox hg)
   | ((with_reducible refine gate_dst (N := 3) rfl ?_); refine bx_ (N := 3) (cs := #[.int .i64 3, .string a1, .string a2, .string a3]) (t := 35) ?_; intro ga hg w2 hbox hb; have BA := Aside0.mk hbox; replace BD := bb_ BD hb; replace HB := bs_ HB hb; clear hb hbox hg)
   | ((with_reducible refine gate_dst (N := 4) rfl ?_); refine bx_ (N := 4) (cs := #[.slice none 0 0]) (t := 31) ?_; intro gr hg w3 hbox hb; have BR := Aside0.mk hbox; have GR : Aside0 (w.heap.size ≤ gr) := bz_ hg; have ND : Aside0 (gd ≠ gr) := bl_ BD hg; have NA : Aside0 (ga ≠ gr) := bl_ BA hg; replace BD := bb_ BD hb; replace BA := bb_ BA hb; replace HB := bs_ HB hb; clear hb hbox hg; obtain ⟨cd0, fd0⟩ := b1_ BD; obtain ⟨ca0, ca1, ca2, ca3, fa0, fa1, fa2, fa3⟩ := b4_ BA)
   | (go_at_call 44; (with_reducible refine (impl_fileAt.calls _ _ l0_0 a1 _ _ (Kd.C_below HR.out (bw_ HB)) HC.out HI.out).mono ?_); rintro e w4 ⟨rfl, hb⟩; replace BD := bb_ BD hb; replace BA := bb_ BA hb; replace BR := bb_ BR hb; replace HB := bs_ HB hb; clear hb cd0 fd0 ca0 ca1 ca2 ca3 fa0 fa1 fa2 fa3; obtain ⟨cd0, fd0⟩ := b1_ BD; obtain ⟨ca0, ca1, ca2, ca3, fa0, fa1, fa2, fa3⟩ := b4_ BA; obtain ⟨cr0, fr0⟩ := b1_ BR)
   | (go_at_call 45; (with_reducible refine (impl_DiskOk.calls k _ _ l0_0 _ _ (Kd.C_below HR.out HB.out) HC.out HT.out).mono ?_); rintro e w5 ⟨rfl, hb⟩; replace BD := bb_ BD hb; replace BA := bb_ BA hb; replace BR := bb_ BR hb; replace HB := bs_ HB hb; clear hb cd0 fd0 ca0 ca1 ca2 ca3 fa0 fa1 fa2 fa3 cr0 fr0; obtain ⟨cd0, fd0⟩ := b1_ BD; obtain ⟨ca0, ca1, ca2, ca3, fa0, fa1, fa2, fa3⟩ := b4_ BA; obtain ⟨cr0, fr0⟩ := b1_ BR)
   | (go_at_call 46; (with_reducible refine (impl_copyDisk.calls _ _ l0_0 l0_0 _ (Kd.C_below HR.out (bw_ HB)) HC.out HCP.out).mono ?_); rintro e w6 ⟨v0, rfl, ho0, hb⟩; have HO := mk_ (Kd.R_lower ho0 (below_size (bw_ HB))); obtain ⟨go, co_, eo⟩ := own_slice76 HO.out HPOS.out; subst eo; replace BD := bb_ BD hb; replace BA := bb_ BA hb; replace BR := bb_ BR hb; replace HB := bs_ HB hb; clear hb ho0 cd0 fd0 ca0 ca1 ca2 ca3 fa0 fa1 fa2 fa3 cr0 fr0; obtain ⟨cd0, fd0⟩ := b1_ BD; obtain ⟨ca0, ca1, ca2, ca3, fa0, fa1, fa2, fa3⟩ := b4_ BA; obtain ⟨cr0, fr0⟩ := b1_ BR)
   | ((with_reducible refine gate_dst (N := 7) rfl ?_); refine bx_ (N := 7) (cs := #[.slice none 0 0]) (t := 31) ?_; intro gO hg w7 hbox hb; have BO := Aside0.mk hbox; have GO : Aside0 (w.heap.size ≤ gO) := bz_ hg; have NDO := bl_ BD hg; have NAO := bl_ BA hg; have NRO := bl_ BR hg; have NOR := bg_ BR hg; replace BD := bb_ BD hb; replace BA := bb_ BA hb; replace BR := bb_ BR hb; replace HO := rb_ HO hb; replace HB := bs_ HB hb; clear hb hbox hg cd0 fd0 ca0 ca1 ca2 ca3 fa0 fa1 fa2 fa3 cr0 fr0; obtain ⟨cd0, fd0⟩ := b1_ BD; obtain ⟨ca0, ca1, ca2, ca3, fa0, fa1, fa2, fa3⟩ := b4_ BA; obtain ⟨cr0, fr0⟩ := b1_ BR; obtain ⟨co0, fo0⟩ := b1_ BO; have hn1 := NDO.out; have hn2 := NAO.out; have hn3 := NRO.out; have hn4 := NOR.out; have hn5 := Ne.symm NDO.out; have hn6 := Ne.symm NAO.out)
   | ((with_reducible refine gate_dst (N := 82) rfl ?_); refine abs_ (fun W => W.heap[gO]? = some (.cells #[(.slice (some ⟨go, 0, none⟩) l0_0.length co_)] 31 (0, 0)) ∧ W.heap[gr]? = some (.cells #[.slice none 0 0] 31 (0, 0)) ∧ W.heap[gd]? = some (.cells #[.slice (some ad) l0_0.length c0_0] 31 (0, 0)) ∧ W.heap[ga]? = some (.cells #[.int .i64 3, .string a1, .string a2, .string a3] 35 (0, 0)) ∧ k76.R 76 W w.heap.size (fun k => True ∧ k ≠ gO) (.slice (some ⟨go, 0, none⟩) l0_0.length co_) l0_0 ∧ Below w.heap.size w W) ⟨bu_, bf_, bf_, bf_, Kd.R_types (g := gO) (t := 31) (cells := #[(.slice (some ⟨go, 0, none⟩) l0_0.length co_)]) (Kd.R_set HO.out BO.out (by decide) 0 _) bu_ (by decide), bw_ HB⟩ ?_; clear HO HB BO BR BD BA cd0 fd0 ca0 ca1 ca2 ca3 fa0 fa1 fa2 fa3 cr0 fr0 co0 fo0; intro wc ⟨qo, qr, qd, qa, qh, qb⟩; have BO := Aside0.mk qo; have BR := Aside0.mk qr; have BD := Aside0.mk qd; have BA := Aside0.mk qa; have HO := Aside0.mk qh; have HB := Aside0.mk qb; replace hx0 := hc_ HB hx0; replace hx1 := hc_ HB hx1; replace hx2 := hc_ HB hx2; clear qo qr qd qa qh qb; obtain ⟨cd0, fd0⟩ := b1_ BD; obtain ⟨ca0, ca1, ca2, ca3, fa0, fa1, fa2, fa3⟩ := b4_ BA; obtain ⟨cr0, fr0⟩ := b1_ BR; obtain ⟨co0, fo0⟩ := b1_ BO; refine Kd.event_run (v := .bool true) rfl (by first | (go_simp; done) | (go_simp; rfl)) ?_)
   | ((with_reducible refine gate_dst (N := 9) rfl ?_); refine bx_ (N := 9) (cs := #[.string ⟨#[]⟩, .string ⟨#[]⟩, .int .i64 0]) (t := 76) ?_; intro gf hg w8 hbox hb; have BF := Aside0.mk hbox; have NDF := bl_ BD hg; have NAF := bl_ BA hg; have NRF := bl_ BR hg; have NOF := bl_ BO hg; have NFO := mk_ (Ne.symm NOF.out); replace HO : Aside0 (k76.R 76 w8 w.heap.size (fun k => (True ∧ k ≠ gO) ∧ k ≠ gf) (.slice (some ⟨go, 0, none⟩) l0_0.length co_) l0_0) := ⟨Kd.R_below (Kd.R_mono (Kd.R_bound HO.out) (fun k hk => ⟨hk.1, by have := hk.2.2.1; omega⟩)) hb⟩; replace BD := bb_ BD hb; replace BA := bb_ BA hb; replace BR := bb_ BR hb; replace BO := bb_ BO hb; have GF : Aside0 (w.heap.size ≤ gf) := bz_ hg; replace HB := bs_ HB hb; clear hb hbox hg hx0 hx1 hx2 cd0 fd0 ca0 ca1 ca2 ca3 fa0 fa1 fa2 fa3 cr0 fr0 co0 fo0; obtain ⟨cd0, fd0⟩ := b1_ BD; obtain ⟨ca0, ca1, ca2, ca3, fa0, fa1, fa2, fa3⟩ := b4_ BA; obtain ⟨cr0, fr0⟩ := b1_ BR; obtain ⟨co0, fo0⟩ := b1_ BO; obtain ⟨cf0, cf1, cf2, ff0, ff1, ff2⟩ := b3_ BF; have hm1 := NDF.out; have hm2 := NAF.out; have hm3 := NRF.out; have hm4 := NOF.out; have hm5 := Ne.symm NDF.out; have hm6 := Ne.symm NAF.out; have hm7 := Ne.symm NRF.out; have hm8 := Ne.symm NOF.out)
   | ((with_reducible refine gate_dst (N := 102) rfl ?_); refine abs_ (fun W => W.heap[gf]? = some (.cells #[.string x.f0, .string x.f1, .int .i64 x.f2] 76 (0, 0)) ∧ W.heap[gO]? = some (.cells #[(.slice (some ⟨go, 0, none⟩) l0_0.length co_)] 31 (0, 0)) ∧ W.heap[gr]? = some (.cells #[.slice none 0 0] 31 (0, 0)) ∧ W.heap[gd]? = some (.cells #[.slice (some ad) l0_0.length c0_0] 31 (0, 0)) ∧ W.heap[ga]? = some (.cells #[.int .i64 3, .string a1, .string a2, .string a3] 35 (0, 0)) ∧ k76.R 76 W w.heap.size (fun k => (True ∧ k ≠ gO) ∧ k ≠ gf) (.slice (some ⟨go, 0, none⟩) l0_0.length co_) l0_0 ∧ Below w.heap.size w W) ⟨bu_, bf_, bf_, bf_, bf_, rk_ HO.out, bw_ HB⟩ ?_; clear HO HB BF BO BR BD BA cd0 fd0 ca0 ca1 ca2 ca3 fa0 fa1 fa2 fa3 cr0 fr0 co0 fo0 cf0 cf1 cf2 ff0 ff1 ff2; intro wc ⟨qf, qo, qr, qd, qa, qh, qb⟩; have BF := Aside0.mk qf; have BO := Aside0.mk qo; have BR := Aside0.mk qr; have BD := Aside0.mk qd; have BA := Aside0.mk qa; have HO := Aside0.mk qh; have HB := Aside0.mk qb; clear qf qo qr qd qa qh qb; obtain ⟨cd0, fd0⟩ := b1_ BD; obtain ⟨ca0, ca1, ca2, ca3, fa0, fa1, fa2, fa3⟩ := b4_ BA; obtain ⟨cr0, fr0⟩ := b1_ BR; obtain ⟨co0, fo0⟩ := b1_ BO; obtain ⟨cf0, cf1, cf2, ff0, ff1, ff2⟩ := b3_ BF; refine Kd.event_run (v := .pointer (some ⟨gO, 0, none⟩)) rfl (by first | (go_simp; done) | (go_simp; rfl)) ?_)
   | (go_at_call 48; refine (fileDeleteR w.heap.size _ go co_ kk l0_0 q _ HK.out HL.out HO.out HQ.out).mono ?_; rintro e w9 ⟨rfl, hrow, hg9⟩; have HON : Aside0 (gO ≠ go) := ⟨Ne.symm (HO.out.1 go rfl).1.2⟩; have HFN : Aside0 (gf ≠ go) := ⟨Ne.symm (HO.out.1 go rfl).2⟩; have HRN : Aside0 (gr ≠ go) := ⟨blk_ne BR.out (Kd.R_typed HO.out go rfl).choose_spec (by decide)⟩; have HAN : Aside0 (ga ≠ go) := ⟨blk_ne BA.out (Kd.R_typed HO.out go rfl).choose_spec (by decide)⟩; replace BO := mk_ (blk_grown BO.out hg9 (fun e => HON.out (Option.some.inj e))); replace BF := mk_ (blk_grown BF.out hg9 (fun e => HFN.out (Option.some.inj e))); replace BR := mk_ (blk_grown BR.out hg9 (fun e => HRN.out (Option.some.inj e))); replace BA := mk_ (blk_grown BA.out hg9 (fun e => HAN.out (Option.some.inj e))); replace HB := mk_ (pw_below_grown HB.out (some go) HB.out.size hg9 (fun k e => by rw [← Option.some.inj e]; exact Kd.R_base HO.out go rfl)); replace HO := Aside0.mk hrow; clear hrow hg9 BD cf0 cf1 cf2 ff0 ff1 ff2 cd0 fd0 ca0 ca1 ca2 ca3 fa0 fa1 fa2 fa3 cr0 fr0 co0 fo0; obtain ⟨ca0, ca1, ca2, ca3, fa0, fa1, fa2, fa3⟩ := b4_ BA; obtain ⟨cr0, fr0⟩ := b1_ BR; obtain ⟨co0, fo0⟩ := b1_ BO; obtain ⟨cf0, cf1, cf2, ff0, ff1, ff2⟩ := b3_ BF)
   | ((with_reducible refine gate_dst (N := 112) rfl ?_); refine abs_ (fun W => W.heap[gf]? = some (.cells #[.string a3, .string x.f1, .int .i64 x.f2] 76 (0, 0)) ∧ W.heap[gO]? = some (.cells #[(.slice (some ⟨go, 0, none⟩) q.length co_)] 31 (0, 0)) ∧ W.heap[gr]? = some (.cells #[.slice none 0 0] 31 (0, 0)) ∧ k76.R 76 W w.heap.size (fun k => (True ∧ k ≠ gO) ∧ k ≠ gf) (.slice (some ⟨go, 0, none⟩) q.length co_) q ∧ Below w.heap.size w W) ⟨bu_, bu_, bf_, Kd.R_move HO.out (fun k hk => (Below.heap_setCell _ _ _ k hk.2).trans (Below.heap_setCell _ _ _ k hk.1.2)), bw_ HB⟩ ?_; clear HO HB BF BO BR BA cf0 cf1 cf2 ff0 ff1 ff2 ca0 ca1 ca2 ca3 fa0 fa1 fa2 fa3 cr0 fr0 co0 fo0; intro wc_ ⟨qf, qo, qr, qh, qb⟩; have BF := Aside0.mk qf; have BO := Aside0.mk qo; have BR := Aside0.mk qr; have HO := Aside0.mk qh; have HB := Aside0.mk qb; clear qf qo qr qh qb; obtain ⟨cr0, fr0⟩ := b1_ BR; obtain ⟨co0, fo0⟩ := b1_ BO; obtain ⟨cf0, cf1, cf2, ff0, ff1, ff2⟩ := b3_ BF; refine Kd.event_run (v := .agg #[.string a3, .string x.f1, .int .i64 x.f2]) rfl (by first | (go_simp; done) | (go_simp; rfl)) ?_)
   | (go_at_call 47; (with_reducible refine (impl_putFile.calls w.heap.size (fun _ => True) gO (.slice (some ⟨go, 0, none⟩) q.length co_) q ⟨a3, x.f1, x.f2⟩ _ HLQ.out ?b1 ?b2 ?b3 GO.out (fun _ _ => trivial)).mono ?_); (case b1 => exact bf_); (case b2 => exact rm_ HO.out); (case b3 => exact below_size (bw_ HB)); rintro e w9 ⟨rfl, v9, hbk, hr, hb, hkp⟩; have BR9 := hkp gr (blk_lt (o := .cells #[.slice none 0 0] 31 (0, 0)) bf_) NRO.out (Kd.R_ne HO.out BR.out (by decide)); replace BR := mk_ (BR9.trans bf_); replace HB := mk_ ((bw_ HB).trans hb); rw [HO2.out] at hr; obtain ⟨A9, c9, e9⟩ := Kd.R_slice hr; subst e9; have HO9 := Aside0.mk hr; replace BO := Aside0.mk hbk; clear hbk hr hb hkp BR9 cf0 cf1 cf2 ff0 ff1 ff2 cr0 fr0 co0 fo0; obtain ⟨co0, fo0⟩ := b1_ BO; obtain ⟨cr0, fr0⟩ := b1_ BR)
   | (go_at_call 45; (with_reducible refine (impl_DiskOk.calls k _ _ o _ _ (Kd.R_reads' HO9.out).2.2 (Kd.R_reads' HO9.out).2.1 HT2.out).mono ?_); rintro e w10 ⟨rfl, hb⟩; replace BO := bb_ BO hb; replace BR := bb_ BR hb; replace HO9 := rb_ HO9 hb; replace HB := bs_ HB hb; clear hb co0 fo0 cr0 fr0; obtain ⟨co0, fo0⟩ := b1_ BO; obtain ⟨cr0, fr0⟩ := b1_ BR))
  first
   | (refine bodyPost_ret (results_ct rfl _ _ gr 31 #[.slice none 0 0] (0, 0) _ rfl (by simpa using blk_set BR.out 0 (.slice none 0 0)) Try.underlying31 rfl (by kernel_rfl)) rfl ?_; exact ⟨_, rfl, Kd.R_nil _ _ _ _ _, below_set HB.out GR.out⟩)
   | (refine bodyPost_ret (results_ct rfl _ _ gr 31 #[.slice A9 o.length c9] (0, 0) _ rfl (by simpa using blk_set BR.out 0 (.slice A9 o.length c9)) Try.underlying31 rfl (by kernel_rfl)) rfl ?_; exact ⟨_, rfl, Kd.R_mono (Kd.R_set HO9.out BR.out (by decide) 0 _) (fun _ _ => trivial), below_set HB.out GR.out⟩)
set_option maxHeartbeats 8000000 in
set_option maxRecDepth 100000 in
theorem impl_DoAct.other (k : Nat) (A0_0 : Option Addr) (c0_0 : Nat) (l0_0 : List S76) (a0 : Int) (a1 a2 a3 : ByteArray) (w : World) (hr0_0 : Kd.C k76 w A0_0 l0_0.length l0_0) (hc0_0 : l0_0.length ≤ c0_0) (kk : Nat) (hk : kk < l0_0.length) (hi : impl_fileAt.f l0_0 a1 = some (kk : Int)) (ht : impl_DiskOk.f k l0_0 = some true) (h2 : (a2.toList == ([] : List UInt8)) = true) (h3 : (a3.toList == ([] : List UInt8)) = true)
  (hl : l0_0.length < 3518437208000) (n1 : a0 ≠ 1) (n2 : a0 ≠ 2) (n3 : a0 ≠ 3) (n4 : a0 ≠ 4) :
  Calls Try.prog 13 #[.agg #[.slice A0_0 l0_0.length c0_0], .agg #[.int .i64 a0, .string a1, .string a2, .string a3]] w fun e w' => ∃ v0_ : Value, e = .returned (.tuple #[.agg #[v0_], .bool false]) ∧ Kd.R k76 76 w' w.heap.size (fun _ => True) v0_ [] ∧ Below w.heap.size w w' := by
 have hu29 := Try.underlying29
 have hu31 := Try.underlying31
 have hu35 := Try.underlying35
 have hu76 := Try.underlying76
 have HR := Aside0.mk hr0_0
 have HC := Aside0.mk hc0_0
 have HI := Aside0.mk hi
 have HT := Aside0.mk ht
 have HCP : Aside0 (impl_copyDisk.f l0_0 = some l0_0) := mk_ (by unfold impl_copyDisk.f; rw [if_pos (by simp; omega)]; rfl)
 clear hr0_0 hc0_0 hi ht hl
 have HB := mk_ (Below.refl w.heap.size w)
 have hkz : (0 : Int) ≤ (kk : Int) := Int.natCast_nonneg kk
 have hkn : ¬ ((kk : Int) < 0) := by omega
 have hkl : (kk : Int) < (l0_0.length : Int) := by omega
 go_enter Try.func13, Try.ntmps13
 go_wp2_with (first
   | ((with_reducible refine gate_dst (N := 2) rfl ?_); refine bx_ (N := 2) (cs := #[.slice A0_0 l0_0.length c0_0]) (t := 31) ?_; intro gd hg w1 hbox hb; have BD := Aside0.mk hbox; replace HB := bs_ HB hb; clear hb hbox hg)
   | ((with_reducible refine gate_dst (N := 3) rfl ?_); refine bx_ (N := 3) (cs := #[.int .i64 a0, .string a1, .string a2, .string a3]) (t := 35) ?_; intro ga hg w2 hbox hb; have BA := Aside0.mk hbox; replace BD := bb_ BD hb; replace HB := bs_ HB hb; clear hb hbox hg)
   | ((with_reducible refine gate_dst (N := 4) rfl ?_); refine bx_ (N := 4) (cs := #[.slice none 0 0]) (t := 31) ?_; intro gr hg w3 hbox hb; have BR := Aside0.mk hbox; have GR : Aside0 (w.heap.size ≤ gr) := bz_ hg; have ND : Aside0 (gd ≠ gr) := bl_ BD hg; have NA : Aside0 (ga ≠ gr) := bl_ BA hg; replace BD := bb_ BD hb; replace BA := bb_ BA hb; replace HB := bs_ HB hb; clear hb hbox hg; obtain ⟨cd0, fd0⟩ := b1_ BD; obtain ⟨ca0, ca1, ca2, ca3, fa0, fa1, fa2, fa3⟩ := b4_ BA)
   | (go_at_call 44; (with_reducible refine (impl_fileAt.calls _ _ l0_0 a1 _ _ (Kd.C_below HR.out (bw_ HB)) HC.out HI.out).mono ?_); rintro e w4 ⟨rfl, hb⟩; replace BD := bb_ BD hb; replace BA := bb_ BA hb; replace BR := bb_ BR hb; replace HB := bs_ HB hb; clear hb cd0 fd0 ca0 ca1 ca2 ca3 fa0 fa1 fa2 fa3; obtain ⟨cd0, fd0⟩ := b1_ BD; obtain ⟨ca0, ca1, ca2, ca3, fa0, fa1, fa2, fa3⟩ := b4_ BA; obtain ⟨cr0, fr0⟩ := b1_ BR)
   | (go_at_call 45; (with_reducible refine (impl_DiskOk.calls k _ _ l0_0 _ _ (Kd.C_below HR.out HB.out) HC.out HT.out).mono ?_); rintro e w5 ⟨rfl, hb⟩; replace BD := bb_ BD hb; replace BA := bb_ BA hb; replace BR := bb_ BR hb; replace HB := bs_ HB hb; clear hb cd0 fd0 ca0 ca1 ca2 ca3 fa0 fa1 fa2 fa3 cr0 fr0; obtain ⟨cd0, fd0⟩ := b1_ BD; obtain ⟨ca0, ca1, ca2, ca3, fa0, fa1, fa2, fa3⟩ := b4_ BA; obtain ⟨cr0, fr0⟩ := b1_ BR)
   | (go_at_call 46; (with_reducible refine (impl_copyDisk.calls _ _ l0_0 l0_0 _ (Kd.C_below HR.out (bw_ HB)) HC.out HCP.out).mono ?_); rintro e w6 ⟨v0, rfl, ho0, hb⟩; have HO := mk_ (Kd.R_lower ho0 (below_size (bw_ HB))); obtain ⟨Ao, co_, eo⟩ := Kd.R_slice HO.out; subst eo; replace BD := bb_ BD hb; replace BA := bb_ BA hb; replace BR := bb_ BR hb; replace HB := bs_ HB hb; clear hb ho0 cd0 fd0 ca0 ca1 ca2 ca3 fa0 fa1 fa2 fa3 cr0 fr0; obtain ⟨cd0, fd0⟩ := b1_ BD; obtain ⟨ca0, ca1, ca2, ca3, fa0, fa1, fa2, fa3⟩ := b4_ BA; obtain ⟨cr0, fr0⟩ := b1_ BR)
   | ((with_reducible refine gate_dst (N := 7) rfl ?_); refine bx_ (N := 7) (cs := #[.slice none 0 0]) (t := 31) ?_; intro gO hg w7 hbox hb; have BO := Aside0.mk hbox; have GO : Aside0 (w.heap.size ≤ gO) := bz_ hg; have NDO := bl_ BD hg; have NAO := bl_ BA hg; have NRO := bl_ BR hg; have NOR := bg_ BR hg; replace BD := bb_ BD hb; replace BA := bb_ BA hb; replace BR := bb_ BR hb; replace HO := rb_ HO hb; replace HB := bs_ HB hb; clear hb hbox hg cd0 fd0 ca0 ca1 ca2 ca3 fa0 fa1 fa2 fa3 cr0 fr0; obtain ⟨cd0, fd0⟩ := b1_ BD; obtain ⟨ca0, ca1, ca2, ca3, fa0, fa1, fa2, fa3⟩ := b4_ BA; obtain ⟨cr0, fr0⟩ := b1_ BR; obtain ⟨co0, fo0⟩ := b1_ BO; have hn1 := NDO.out; have hn2 := NAO.out; have hn3 := NRO.out; have hn4 := NOR.out; have hn5 := Ne.symm NDO.out; have hn6 := Ne.symm NAO.out))
 (refine bodyPost_ret (results_ct rfl _ _ gr 31 #[.slice none 0 0] (0, 0) _ rfl bu_ Try.underlying31 rfl (by kernel_rfl)) rfl ?_; exact ⟨_, rfl, Kd.R_nil _ _ _ _ _, bw_ HB⟩)
theorem impl_DoAct.end_some (k : Nat) (o r1 : List S76) (r2 : Bool) (h : impl_DoAct.end_ k (some o) = some (r1, r2)) : impl_DiskOk.f k o = some r2 ∧ r1 = if r2 = true then o else [] := by
 simp only [impl_DoAct.end_] at h
 cases hd : impl_DiskOk.f k o with
 | none => rw [hd] at h; simp at h
 | some t =>
  rw [hd, Option.bind_some] at h
  cases t <;> simp at h <;> obtain ⟨rfl, rfl⟩ := h <;> simp
theorem impl_DoAct.calls (k : Nat) (A0_0 : Option Addr) (c0_0 : Nat) (l0_0 : List S76) (a1_0 : Int) (a1_1 a1_2 a1_3 : ByteArray) (r1 : List S76) (r2 : Bool) (w : World) (hr0_0 : Kd.C k76 w A0_0 l0_0.length l0_0) (hc0_0 : l0_0.length ≤ c0_0) (h : impl_DoAct.f k l0_0 a1_0 a1_1 a1_2 a1_3 = some (r1, r2)) :
  Calls Try.prog 13 #[.agg #[.slice A0_0 l0_0.length c0_0], .agg #[.int .i64 a1_0, .string a1_1, .string a1_2, .string a1_3]] w fun e w' => ∃ v0_ : Value, e = .returned (.tuple #[.agg #[v0_], .bool r2]) ∧ Kd.R k76 76 w' w.heap.size (fun _ => True) v0_ r1 ∧ Below w.heap.size w w' := by
 have hi : impl_fileAt.f l0_0 a1_1 = some (impl_DoAct.at_ l0_0 a1_1) := rfl
 unfold impl_DoAct.f at h
 cases ht : impl_DiskOk.f k l0_0 with
 | none => rw [ht] at h; cases h
 | some t =>
 rw [ht, Option.bind_some] at h
 by_cases hgo : impl_DoAct.go_ l0_0 a1_0 a1_1 a1_2 a1_3 t = true
 ·rw [if_pos hgo] at h
  by_cases hb : l0_0.length < 3518437208000 ∧ (impl_DoAct.add_ l0_0 a1_1 a1_2).f1.size ≤ 9223372036854775807
  ·rw [if_pos hb] at h
   obtain ⟨hl, hz⟩ := hb
   have hat : impl_DoAct.at_ l0_0 a1_1 = -1 ∨ ∃ kk : Nat, kk < l0_0.length ∧ impl_DoAct.at_ l0_0 a1_1 = (kk : Int) := by
    rcases M.idxP_cases (fun x : S76 => x.f0.toList == a1_1.toList) l0_0 0 with ⟨e, _⟩ | ⟨k, hk, e, _⟩
    ·exact .inl e
    ·exact .inr ⟨k, hk, by rw [impl_DoAct.at_, e]; omega⟩
   simp only [impl_DoAct.go_, Bool.and_eq_true, Bool.or_eq_true, decide_eq_true_eq] at hgo
   obtain ⟨⟨rfl, g3⟩, g1⟩ := hgo
   by_cases e1 : a1_0 = 1
   ·subst e1
    have h3 : (a1_3.toList == ([] : List UInt8)) = true := by exact g3.elim (fun g3 => absurd g3 (by decide)) (fun g3 => g3)
    simp only [impl_DoAct.out, if_true] at h
    obtain ⟨d1, d2⟩ := impl_DoAct.end_some _ _ _ _ h
    rw [d2]
    rcases hat with e | ⟨kk, hkk, e⟩
    ·rw [e] at hi
     have ha : impl_DoAct.add_ l0_0 a1_1 a1_2 = ⟨a1_1, (⟨#[]⟩ : ByteArray) ++ a1_2, 0⟩ := by simp [impl_DoAct.add_, e]
     rw [ha] at hz d1 ⊢
     exact impl_DoAct.add_new k A0_0 c0_0 l0_0 a1_1 a1_2 a1_3 w hr0_0 hc0_0 hi ht h3 hl hz _ rfl r2 d1
    ·rw [e] at hi
     have ha : impl_DoAct.add_ l0_0 a1_1 a1_2 = ⟨(rd_T76 l0_0 (kk : Int)).f0, (rd_T76 l0_0 (kk : Int)).f1 ++ a1_2, (rd_T76 l0_0 (kk : Int)).f2⟩ := by simp [impl_DoAct.add_, e]
     rw [ha] at hz d1 ⊢
     exact impl_DoAct.add_old k A0_0 c0_0 l0_0 a1_1 a1_2 a1_3 w hr0_0 hc0_0 kk hkk hi ht h3 hl hz _ rfl r2 d1
   ·obtain ⟨h2, hat0⟩ : (a1_2.toList == ([] : List UInt8)) = true ∧ 0 ≤ impl_DoAct.at_ l0_0 a1_1 := by exact g1.elim (fun g1 => absurd g1 e1) (fun g1 => g1)
    obtain ⟨kk, hkk, e⟩ : ∃ kk : Nat, kk < l0_0.length ∧ impl_DoAct.at_ l0_0 a1_1 = (kk : Int) := by exact hat.elim (fun hat => by omega) (fun hat => hat)
    rw [e] at hi
    by_cases e3 : a1_0 = 3
    ·subst e3
     simp only [impl_DoAct.out, if_true, if_neg (show ¬ (3 : Int) = 1 by decide), if_neg (show ¬ (3 : Int) = 2 by decide), e, Int.toNat_natCast] at h
     by_cases e4 : a1_3.toList = a1_1.toList
     ·rw [if_pos e4] at h
      simp [impl_DoAct.end_] at h
      obtain ⟨rfl, rfl⟩ := h
      exact impl_DoAct.move_no k A0_0 c0_0 l0_0 a1_1 a1_2 a1_3 w hr0_0 hc0_0 kk hkk hi ht h2 hl (.inl (by simpa using e4))
     ·rw [if_neg e4] at h
      by_cases e5 : (rd_T76 l0_0 (kk : Int)).f2 = ((rd_T76 l0_0 (kk : Int)).f1.size : Int)
      ·rw [if_pos e5] at h
       obtain ⟨d1, d2⟩ := impl_DoAct.end_some _ _ _ _ h
       rw [d2]
       exact impl_DoAct.move_ k A0_0 c0_0 l0_0 a1_1 a1_2 a1_3 w hr0_0 hc0_0 kk hkk hi ht h2 hl (by simpa using e4) e5 _ _ rfl rfl r2 d1
      ·rw [if_neg e5] at h
       simp [impl_DoAct.end_] at h
       obtain ⟨rfl, rfl⟩ := h
       exact impl_DoAct.move_no k A0_0 c0_0 l0_0 a1_1 a1_2 a1_3 w hr0_0 hc0_0 kk hkk hi ht h2 hl (.inr ⟨by simpa using e4, by simpa using e5⟩)
    ·have h3 : (a1_3.toList == ([] : List UInt8)) = true := by exact g3.elim (fun g3 => absurd g3 e3) (fun g3 => g3)
     by_cases e2 : a1_0 = 2
     ·subst e2
      simp only [impl_DoAct.out, if_true, if_neg (show ¬ (2 : Int) = 1 by decide), e, Int.toNat_natCast] at h
      obtain ⟨d1, d2⟩ := impl_DoAct.end_some _ _ _ _ h
      rw [d2]
      exact impl_DoAct.keep k A0_0 c0_0 l0_0 a1_1 a1_2 a1_3 w hr0_0 hc0_0 kk hkk hi ht h2 h3 hl _ rfl r2 d1
     ·by_cases e4 : a1_0 = 4
      ·subst e4
       simp only [impl_DoAct.out, if_true, if_neg (show ¬ (4 : Int) = 1 by decide), if_neg (show ¬ (4 : Int) = 2 by decide), if_neg (show ¬ (4 : Int) = 3 by decide), e, Int.toNat_natCast] at h
       obtain ⟨d1, d2⟩ := impl_DoAct.end_some _ _ _ _ h
       rw [d2]
       exact impl_DoAct.drop_ k A0_0 c0_0 l0_0 a1_1 a1_2 a1_3 w hr0_0 hc0_0 kk hkk hi ht h2 h3 hl _ rfl r2 d1
      ·simp only [impl_DoAct.out, if_neg e1, if_neg e2, if_neg e3, if_neg e4] at h
       simp [impl_DoAct.end_] at h
       obtain ⟨rfl, rfl⟩ := h
       exact impl_DoAct.other k A0_0 c0_0 l0_0 a1_0 a1_1 a1_2 a1_3 w hr0_0 hc0_0 kk hkk hi ht h2 h3 hl e1 e2 e3 e4
  ·rw [if_neg hb] at h; cases h
 ·rw [if_neg hgo] at h
  simp at h
  obtain ⟨rfl, rfl⟩ := h
  refine impl_DoAct.not_ k A0_0 c0_0 l0_0 a1_0 a1_1 a1_2 a1_3 w hr0_0 hc0_0 _ hi t ht ?_
  cases t with
  | false => exact .inl rfl
  | true =>
   simp only [impl_DoAct.go_, Bool.true_and, Bool.and_eq_true, Bool.or_eq_true, decide_eq_true_eq, Decidable.not_and_iff_not_or_not, not_or, Int.not_le, Bool.not_eq_true] at hgo
   by_cases e3 : a1_0 = 3
   ·subst e3
    rcases hgo with ⟨g, _⟩ | ⟨_, g⟩
    ·exact absurd rfl g
    ·cases hz : (a1_2.toList == ([] : List UInt8)) with
     | false => exact .inr (.inr (.inl ⟨rfl, rfl, rfl⟩))
     | true => rw [hz] at g; exact g.elim (fun g => absurd g (by decide)) (fun g => .inr (.inr (.inr (.inl ⟨rfl, rfl, rfl, g⟩))))
   ·cases h3 : (a1_3.toList == ([] : List UInt8)) with
    | false => exact .inr (.inl ⟨rfl, e3, rfl⟩)
    | true =>
     rw [h3] at hgo
     rcases hgo with ⟨_, g⟩ | ⟨g1, g⟩
     ·exact absurd g (by decide)
     ·cases hz : (a1_2.toList == ([] : List UInt8)) with
      | false => exact .inr (.inr (.inr (.inr (.inl ⟨rfl, e3, rfl, g1, rfl⟩))))
      | true => rw [hz] at g; exact g.elim (fun g => absurd g (by decide)) (fun g => .inr (.inr (.inr (.inr (.inr ⟨rfl, e3, rfl, g1, rfl, g⟩)))))

/-! ### impl_DoActs: function 20 -/
def impl_DoActs.l0 : Nat → List (S35) → List (S35) → Int → Int → List (S76) → Option ((List (S76)) × Int)
 | 0, _, _, _, _, _ => none
 | k + 1, x1, x13, x14, x15, x193000 => if x15 < x14 then (if 0 ≤ x15 then (if x15 < (x13.length : Int) then ((impl_DoAct.f k x193000 ((rd_T35 x13 x15).f0) ((rd_T35 x13 x15).f1) ((rd_T35 x13 x15).f2) ((rd_T35 x13 x15).f3)).bind fun bt195 => (if bt195.2 = true then (impl_DoActs.l0 k x1 x13 x14 (wrap64 (x15 + 1)) bt195.1) else (some (x193000, x15)))) else (none)) else (none)) else (some (x193000, (x1.length : Int)))
def impl_DoActs.f (k : Nat) (l0_0 : List (S76)) (l1 : List (S35)) : Option ((List (S76)) × Int) := (impl_copyDisk.f l0_0).bind fun t189 => (impl_DoActs.l0 k l1 l1 (l1.length : Int) 0 t189)
theorem impl_DoActs.mono_l : ∀ k, (∀ y0 y1 y2 y3 y4, LeO (impl_DoActs.l0 k y0 y1 y2 y3 y4) (impl_DoActs.l0 (k + 1) y0 y1 y2 y3 y4))
 | 0 => fun _ _ _ _ _ r h => by simp [impl_DoActs.l0] at h
 | k + 1 => by
  have ih0 := impl_DoActs.mono_l k
  ·intro y0 y1 y2 y3 y4
   unfold impl_DoActs.l0
   repeat' first
   | (with_reducible exact ih0 _ _ _ _ _)
   | (with_reducible exact impl_DoAct.mono _ _ _ _ _ _)
   | (with_reducible exact LeO.refl _)
   | (with_reducible refine LeO.ite ?_ ?_)
   | (with_reducible refine LeO.bind ?_ (fun _ => ?_))
theorem impl_DoActs.mono : ∀ a0 a1 k, LeO (impl_DoActs.f k a0 a1) (impl_DoActs.f (k + 1) a0 a1) := by
 intro a0 a1 k
 have ih0 := impl_DoActs.mono_l k
 unfold impl_DoActs.f
 repeat' first
   | (with_reducible exact ih0 _ _ _ _ _)
   | (with_reducible exact LeO.refl _)
   | (with_reducible refine LeO.bind ?_ (fun _ => ?_))
set_option maxHeartbeats 8000000 in
set_option maxRecDepth 100000 in
theorem impl_DoActs.calls (k : Nat) (A0_0 : Option Addr) (c0_0 : Nat) (l0_0 : List (S76)) (A1 : Option Addr) (c1 : Nat) (l1 : List (S35)) (r1 : List (S76)) (r2 : Int) (w : World) (hr0_0 : Kd.C k76 w A0_0 l0_0.length l0_0) (hc0_0 : l0_0.length ≤ c0_0) (hr1 : Kd.C k35 w A1 l1.length l1) (hc1 : l1.length ≤ c1) (h : impl_DoActs.f k l0_0 l1 = some (r1, r2)) :
  Calls Try.prog 20 #[.agg #[.slice A0_0 l0_0.length c0_0], .slice A1 l1.length c1] w fun e w' => ∃ v0_ : Value, e = .returned (.tuple #[.agg #[v0_], .int .i64 r2]) ∧ Kd.R k76 76 w' w.heap.size (fun _ => True) v0_ r1 ∧ Below w.heap.size w w' := by
 have hu31 := Try.underlying31
 have hu35 := Try.underlying35
 have HR0_0 := Aside0.mk hr0_0
 have HC0_0 := Aside0.mk hc0_0
 clear hr0_0 hc0_0
 have HR1 := Aside0.mk hr1
 have HC1 := Aside0.mk hc1
 clear hr1 hc1
 have HB := mk_ (Below.refl w.heap.size w)
 have H : ((impl_copyDisk.f l0_0).bind fun t189 => (impl_DoActs.l0 k l1 l1 (l1.length : Int) 0 t189)) = some (r1, r2) := h
 clear h
 replace H := Option.bind_eq_some_iff.mp H
 obtain ⟨t189, A30, H⟩ := H
 replace H : (impl_DoActs.l0 k l1 l1 (l1.length : Int) 0 t189) = some (r1, r2) := H
 have A3 := Aside0.mk A30
 clear A30
 have H' := Aside0.mk H
 clear H
 go_enter Try.func20, Try.ntmps20
 go_wp2_with (first | ((with_reducible refine gate_dst (N := 2) rfl ?_); refine bx_ (N := 2) (cs := #[.slice A0_0 l0_0.length c0_0]) (t := 31) ?_; intro gb187 hg w4 hbox hb; have BK187 := mk_ (hbox); have GW187 : Aside0 (w.heap.size ≤ gb187) := bz_ hg; have GE187 := GW187; replace HB := bs_ HB hb; clear hb hbox hg) | ((with_reducible refine gate_dst (N := 4) rfl ?_); refine bx_ (N := 4) (cs := #[.slice none 0 0]) (t := 31) ?_; intro gb188 hg w5 hbox hb; have BK188 := mk_ (hbox); have GW188 : Aside0 (w.heap.size ≤ gb188) := bz_ hg; have GE188 := GW188; have NB187_188 := bl_ BK187 hg; have NB188_187 := bg_ BK187 hg; replace BK187 := bb_ BK187 hb; replace HB := bs_ HB hb; clear hb hbox hg; have hnb6 := NB187_188.out; have hnc6 := NB188_187.out; obtain ⟨hcz7_0, hfz7_0⟩ := b1_ BK187) | ((with_reducible refine gate_callee (f := 46) rfl ?_); refine goesL_ (some 12) rfl rfl Try.func46 (by kernel_rfl) rfl #[.agg #[.slice A0_0 l0_0.length c0_0]] rfl ga_ ?_; (with_reducible refine (impl_copyDisk.calls _ _ l0_0 t189 _ ?side1 ?side2 A3.out).mono ?_); (case side1 => repeat (first | exact (Kd.C_below HR0_0.out HB.out) | (with_reducible refine Kd.C_alloc ?_ _) | (with_reducible refine Kd.C_drewN ?_ _) | (with_reducible refine Kd.C_drew ?_))); (case side2 => exact HC0_0.out); rintro e w8 ⟨v190, rfl, ho0, hb⟩; refine ⟨_, rfl, ?_⟩; have HO191 := mk_ (Kd.R_lower ho0 (below_size (bw_ HB))); replace BK187 := bb_ BK187 hb; replace BK188 := bb_ BK188 hb; replace HB := bs_ HB hb; (try clear hb); (try clear ho0)) | ((with_reducible refine gate_dst (N := 6) rfl ?_); refine bx_ (N := 6) (cs := #[.slice none 0 0]) (t := 31) ?_; intro gb192 hg w9 hbox hb; have BK192 := mk_ (hbox); have GW192 : Aside0 (w.heap.size ≤ gb192) := bz_ hg; have GE192 := GW192; have NB187_192 := bl_ BK187 hg; have NB192_187 := bg_ BK187 hg; have NB188_192 := bl_ BK188 hg; have NB192_188 := bg_ BK188 hg; replace HO191 := rb_ HO191 hb; replace BK187 := bb_ BK187 hb; replace BK188 := bb_ BK188 hb; replace HB := bs_ HB hb; clear hb hbox hg; obtain ⟨Ao10, co10, eo10⟩ := Kd.R_slice HO191.out; subst eo10; have hnb11 := NB192_187.out; have hnc11 := NB187_192.out; have hnb12 := NB192_188.out; have hnc12 := NB188_192.out; obtain ⟨hcz13_0, hfz13_0⟩ := b1_ BK192))
 go_loopg [15] k (fun kq v15 w' => ∃ (x15_1 : Int) (x193000_1 : List (S76)) (u193000 : Value), v15 = .int .i64 x15_1 ∧ Aside0 (impl_DoActs.l0 kq l1 l1 (l1.length : Int) x15_1 x193000_1 = some (r1, r2)) ∧ Aside0 (kq ≤ k) ∧ Aside0 (Kd.R k76 76 w' w.heap.size (fun _ => True) u193000 x193000_1) ∧ Aside0 (w'.heap[gb187]? = some (.cells #[(.slice A0_0 l0_0.length c0_0)] 31 (0, 0))) ∧ Aside0 (w'.heap[gb188]? = some (.cells #[(.slice none 0 0)] 31 (0, 0))) ∧ Aside0 (w'.heap[gb192]? = some (.cells #[u193000] 31 (0, 0))) ∧ Aside0 (Below w.heap.size w w'))
 case atStart => exact ⟨(0), (t189), (.slice Ao10 t189.length co10), (by first | rfl | (simp; done) | (simp [*]; done) | (simp [bne]; done)), H', ⟨Nat.le_refl _⟩, ⟨by (with_reducible repeat (first | apply Kd.R_alloc | apply Kd.R_drewN | apply Kd.R_drew)); exact Kd.R_mono (Kd.R_far (p := ⟨gb192, 0, none⟩) (Kd.R_types HO191.out BK192.out (by decide)) (fun _ hk => hk.2) (.slice Ao10 t189.length co10)) (fun _ hk => trivial)⟩, ⟨bf_⟩, ⟨bf_⟩, ⟨bu_⟩, ⟨bw_ HB⟩⟩
 case round =>
  clear H'
  try clear c1
  try clear c2
  try clear p2
  try clear c4
  try clear c6
  try clear c11
  try clear c12
  try clear hcz13_0
  try clear hcz7_0
  try clear hfz13_0
  try clear hfz7_0
  obtain ⟨x15_1, x193000_1, u193000, rfl, HA, HK1, HO_193000, BK187, BK188, BK192, HB⟩ := hrel
  cases gk with
  | zero => exact absurd HA.out (by simp [impl_DoActs.l0])
  | succ k1 =>
   have H := HA.out
   clear HA
   simp only [impl_DoActs.l0] at H
   by_cases c14 : x15_1 < (l1.length : Int)
   ·rw [if_pos c14] at H
    have c14b0 : decide (x15_1 < (l1.length : Int)) = true := decide_eq_true c14
    clear c14
    by_cases c15 : 0 ≤ x15_1
    ·rw [if_pos c15] at H
     have c15b0 : decide (0 ≤ x15_1) = true := decide_eq_true c15
     clear c15
     by_cases c16 : x15_1 < (l1.length : Int)
     ·rw [if_pos c16] at H
      have c16b0 : decide (x15_1 < (l1.length : Int)) = true := decide_eq_true c16
      clear c16
      replace H := Option.bind_eq_some_iff.mp H
      obtain ⟨⟨t195, t198⟩, A170, H⟩ := H
      replace H : (if t198 = true then (impl_DoActs.l0 k1 l1 l1 (l1.length : Int) (wrap64 (x15_1 + 1)) t195) else (some (x193000_1, x15_1))) = some (r1, r2) := H
      have A17 := Aside0.mk A170
      clear A170
      by_cases c18 : t198 = true
      ·subst c18
       have H1 : (impl_DoActs.l0 k1 l1 l1 (l1.length : Int) (wrap64 (x15_1 + 1)) t195) = some (r1, r2) := by rw [if_pos rfl] at H; exact H
       clear H
       have H := H1
       clear H1
       have H' := Aside0.mk H
       clear H
       have p193 : 0 ≤ (x15_1 : Int) := od_
       have q193 : x15_1 < (l1.length : Int) := od_
       obtain ⟨ad193, e193, hx193_0, hx193_1, hx193_2, hx193_3⟩ := at_T35 HR1.out x15_1 p193 q193
       cases e193
       replace hx193_0 := hc_ HB hx193_0
       replace hx193_1 := hc_ HB hx193_1
       replace hx193_2 := hc_ HB hx193_2
       replace hx193_3 := hc_ HB hx193_3
       replace p193 := eq_true p193
       replace q193 := eq_true q193
       go_wp2_with (first | ((with_reducible refine gate_dst (N := 8) rfl ?_); refine bx_ (N := 8) (cs := #[.int .i64 0, .string (⟨#[]⟩ : ByteArray), .string (⟨#[]⟩ : ByteArray), .string (⟨#[]⟩ : ByteArray)]) (t := 35) ?_; intro gb194 hg w19 hbox hb; have BK194 := mk_ (hbox); have GW194 : Aside0 (w.heap.size ≤ gb194) := bz_ hg; have GE194 := GW194; have NB187_194 := bl_ BK187 hg; have NB194_187 := bg_ BK187 hg; have NB188_194 := bl_ BK188 hg; have NB194_188 := bg_ BK188 hg; have NB192_194 := bl_ BK192 hg; have NB194_192 := bg_ BK192 hg; replace HO_193000 := rb_ HO_193000 hb; replace BK187 := bb_ BK187 hb; replace BK188 := bb_ BK188 hb; replace BK192 := bb_ BK192 hb; replace HB := bs_ HB hb; clear hb hbox hg; have hnb20 := NB194_187.out; have hnc20 := NB187_194.out; have hnb21 := NB194_188.out; have hnc21 := NB188_194.out; have hnb22 := NB194_192.out; have hnc22 := NB192_194.out; obtain ⟨hcz23_0, hcz23_1, hcz23_2, hcz23_3, hfz23_0, hfz23_1, hfz23_2, hfz23_3⟩ := b4_ BK194; have hnb24 := NB192_187.out; have hnc24 := NB187_192.out; have hnb25 := NB192_188.out; have hnc25 := NB188_192.out; obtain ⟨hcz26_0, hfz26_0⟩ := b1_ BK192; obtain ⟨Ao27, co27, eo27⟩ := Kd.R_slice HO_193000.out; subst eo27) | ((with_reducible refine gate_callee (f := 13) rfl ?_); refine goesL_ (some 23) rfl rfl Try.func13 (by kernel_rfl) rfl #[.agg #[.slice Ao27 x193000_1.length co27], .agg #[.int .i64 ((rd_T35 l1 x15_1).f0), .string ((rd_T35 l1 x15_1).f1), .string ((rd_T35 l1 x15_1).f2), .string ((rd_T35 l1 x15_1).f3)]] rfl ga_ ?_; (with_reducible refine (impl_DoAct.calls k1 _ _ x193000_1 ((rd_T35 l1 x15_1).f0) ((rd_T35 l1 x15_1).f1) ((rd_T35 l1 x15_1).f2) ((rd_T35 l1 x15_1).f3) t195 true _ ?side1 ?side2 A17.out).mono ?_); (case side1 => refine (Kd.R_reads' (e := 76) (base := w.heap.size) (ok := fun k_ => True) (n := x193000_1.length) (c := co27) ?_).2.2; exact (by (with_reducible repeat (first | apply Kd.R_alloc | apply Kd.R_drewN | apply Kd.R_drew)); exact (Kd.R_mono (Kd.R_far (p := ⟨gb194, 3, none⟩) (Kd.R_far (p := ⟨gb194, 2, none⟩) (Kd.R_far (p := ⟨gb194, 1, none⟩) (Kd.R_far (p := ⟨gb194, 0, none⟩) (Kd.R_types HO_193000.out BK194.out (by decide)) (fun _ hk => hk.2) (.int .i64 ((rd_T35 l1 x15_1).f0))) (fun _ hk => hk.2) (.string ((rd_T35 l1 x15_1).f1))) (fun _ hk => hk.2) (.string ((rd_T35 l1 x15_1).f2))) (fun _ hk => hk.2) (.string ((rd_T35 l1 x15_1).f3))) (fun _ h_ => h_.1)))); (case side2 => exact (Kd.R_reads' HO_193000.out).2.1); rintro e w28 ⟨v196, rfl, ho0, hb⟩; refine ⟨_, rfl, ?_⟩; have HO197 := mk_ (Kd.R_lower (Kd.R_new' ho0 (Kd.R_lt (by (with_reducible repeat (first | apply Kd.R_alloc | apply Kd.R_drewN | apply Kd.R_drew)); exact (Kd.R_mono (Kd.R_far (p := ⟨gb194, 3, none⟩) (Kd.R_far (p := ⟨gb194, 2, none⟩) (Kd.R_far (p := ⟨gb194, 1, none⟩) (Kd.R_far (p := ⟨gb194, 0, none⟩) (Kd.R_types HO_193000.out BK194.out (by decide)) (fun _ hk => hk.2) (.int .i64 ((rd_T35 l1 x15_1).f0))) (fun _ hk => hk.2) (.string ((rd_T35 l1 x15_1).f1))) (fun _ hk => hk.2) (.string ((rd_T35 l1 x15_1).f2))) (fun _ hk => hk.2) (.string ((rd_T35 l1 x15_1).f3))) (fun _ h_ => h_.1))))) (below_size (bw_ HB))); replace HO_193000 := mk_ (Kd.R_elder' (by (with_reducible repeat (first | apply Kd.R_alloc | apply Kd.R_drewN | apply Kd.R_drew)); exact (Kd.R_mono (Kd.R_far (p := ⟨gb194, 3, none⟩) (Kd.R_far (p := ⟨gb194, 2, none⟩) (Kd.R_far (p := ⟨gb194, 1, none⟩) (Kd.R_far (p := ⟨gb194, 0, none⟩) (Kd.R_types HO_193000.out BK194.out (by decide)) (fun _ hk => hk.2) (.int .i64 ((rd_T35 l1 x15_1).f0))) (fun _ hk => hk.2) (.string ((rd_T35 l1 x15_1).f1))) (fun _ hk => hk.2) (.string ((rd_T35 l1 x15_1).f2))) (fun _ hk => hk.2) (.string ((rd_T35 l1 x15_1).f3))) (fun _ h_ => h_.1))) (Kd.R_base ho0) hb); replace BK187 := mk_ (blk_below (g := gb187) (o := .cells #[.slice A0_0 l0_0.length c0_0] 31 (0, 0)) bf_ hb); replace BK188 := mk_ (blk_below (g := gb188) (o := .cells #[.slice none 0 0] 31 (0, 0)) bf_ hb); replace BK192 := mk_ (blk_below (g := gb192) (o := .cells #[.slice Ao27 x193000_1.length co27] 31 (0, 0)) bf_ hb); replace BK194 := mk_ (blk_below (g := gb194) (o := .cells #[.int .i64 ((rd_T35 l1 x15_1).f0), .string ((rd_T35 l1 x15_1).f1), .string ((rd_T35 l1 x15_1).f2), .string ((rd_T35 l1 x15_1).f3)] 35 (0, 0)) bu_ hb); replace HB := bs_ HB hb; (try clear hb); (try clear hk); (try clear ho0)) | ((with_reducible refine gate_dst (N := 9) rfl ?_); refine bx_ (N := 9) (cs := #[.slice none 0 0]) (t := 31) ?_; intro gb199 hg w29 hbox hb; have BK199 := mk_ (hbox); have GW199 : Aside0 (w.heap.size ≤ gb199) := bz_ hg; have GE199 := GW199; have NB187_199 := bl_ BK187 hg; have NB199_187 := bg_ BK187 hg; have NB188_199 := bl_ BK188 hg; have NB199_188 := bg_ BK188 hg; have NB192_199 := bl_ BK192 hg; have NB199_192 := bg_ BK192 hg; have NB194_199 := bl_ BK194 hg; have NB199_194 := bg_ BK194 hg; replace HO_193000 := rb_ HO_193000 hb; replace HO197 := rb_ HO197 hb; replace BK187 := bb_ BK187 hb; replace BK188 := bb_ BK188 hb; replace BK192 := bb_ BK192 hb; replace BK194 := bb_ BK194 hb; replace HB := bs_ HB hb; clear hb hbox hg; obtain ⟨Ao30, co30, eo30⟩ := Kd.R_slice HO197.out; subst eo30; have hnb31 := NB199_187.out; have hnc31 := NB187_199.out; have hnb32 := NB199_188.out; have hnc32 := NB188_199.out; have hnb33 := NB199_192.out; have hnc33 := NB192_199.out; have hnb34 := NB199_194.out; have hnc34 := NB194_199.out; obtain ⟨hcz35_0, hfz35_0⟩ := b1_ BK199; obtain ⟨hcz36_0, hfz36_0⟩ := b1_ BK192))
       go_roundg k1
       case measure => have := HK1.out; omega
       case rel => exact ⟨(wrap64 (x15_1 + 1)), (t195), (.slice Ao30 t195.length co30), (by first | rfl | (simp; done) | (simp [*]; done) | (simp [bne]; done)), H', ⟨by have := HK1.out; omega⟩, ⟨by (with_reducible repeat (first | apply Kd.R_alloc | apply Kd.R_drewN | apply Kd.R_drew)); exact Kd.R_mono (Kd.R_far (p := ⟨gb192, 0, none⟩) (Kd.R_far (p := ⟨gb199, 0, none⟩) (Kd.R_types (Kd.R_types HO197.out BK199.out (by decide)) BK192.out (by decide)) (fun _ hk => hk.1.2) (.slice Ao30 t195.length co30)) (fun _ hk => hk.2) (.slice Ao30 t195.length co30)) (fun _ hk => trivial)⟩, ⟨bf_⟩, ⟨bf_⟩, ⟨bu_⟩, ⟨bw_ HB⟩⟩
      ·replace c18 := Bool.eq_false_iff.mpr c18
       subst c18
       have H1 : (some (x193000_1, x15_1)) = some (r1, r2) := by rw [if_neg (show ¬ (false = true) by decide)] at H; exact H
       clear H
       have H := H1
       clear H1
       simp only [Option.some.injEq, Prod.mk.injEq] at H
       obtain ⟨rfl, rfl⟩ := H
       have p193 : 0 ≤ (x15_1 : Int) := od_
       have q193 : x15_1 < (l1.length : Int) := od_
       obtain ⟨ad193, e193, hx193_0, hx193_1, hx193_2, hx193_3⟩ := at_T35 HR1.out x15_1 p193 q193
       cases e193
       replace hx193_0 := hc_ HB hx193_0
       replace hx193_1 := hc_ HB hx193_1
       replace hx193_2 := hc_ HB hx193_2
       replace hx193_3 := hc_ HB hx193_3
       replace p193 := eq_true p193
       replace q193 := eq_true q193
       go_wp2_with (first | ((with_reducible refine gate_dst (N := 8) rfl ?_); refine bx_ (N := 8) (cs := #[.int .i64 0, .string (⟨#[]⟩ : ByteArray), .string (⟨#[]⟩ : ByteArray), .string (⟨#[]⟩ : ByteArray)]) (t := 35) ?_; intro gb194 hg w37 hbox hb; have BK194 := mk_ (hbox); have GW194 : Aside0 (w.heap.size ≤ gb194) := bz_ hg; have GE194 := GW194; have NB187_194 := bl_ BK187 hg; have NB194_187 := bg_ BK187 hg; have NB188_194 := bl_ BK188 hg; have NB194_188 := bg_ BK188 hg; have NB192_194 := bl_ BK192 hg; have NB194_192 := bg_ BK192 hg; replace HO_193000 := rb_ HO_193000 hb; replace BK187 := bb_ BK187 hb; replace BK188 := bb_ BK188 hb; replace BK192 := bb_ BK192 hb; replace HB := bs_ HB hb; clear hb hbox hg; have hnb38 := NB194_187.out; have hnc38 := NB187_194.out; have hnb39 := NB194_188.out; have hnc39 := NB188_194.out; have hnb40 := NB194_192.out; have hnc40 := NB192_194.out; obtain ⟨hcz41_0, hcz41_1, hcz41_2, hcz41_3, hfz41_0, hfz41_1, hfz41_2, hfz41_3⟩ := b4_ BK194; have hnb42 := NB192_187.out; have hnc42 := NB187_192.out; have hnb43 := NB192_188.out; have hnc43 := NB188_192.out; obtain ⟨hcz44_0, hfz44_0⟩ := b1_ BK192; obtain ⟨Ao45, co45, eo45⟩ := Kd.R_slice HO_193000.out; subst eo45) | ((with_reducible refine gate_callee (f := 13) rfl ?_); refine goesL_ (some 23) rfl rfl Try.func13 (by kernel_rfl) rfl #[.agg #[.slice Ao45 x193000_1.length co45], .agg #[.int .i64 ((rd_T35 l1 x15_1).f0), .string ((rd_T35 l1 x15_1).f1), .string ((rd_T35 l1 x15_1).f2), .string ((rd_T35 l1 x15_1).f3)]] rfl ga_ ?_; (with_reducible refine (impl_DoAct.calls k1 _ _ x193000_1 ((rd_T35 l1 x15_1).f0) ((rd_T35 l1 x15_1).f1) ((rd_T35 l1 x15_1).f2) ((rd_T35 l1 x15_1).f3) t195 false _ ?side1 ?side2 A17.out).mono ?_); (case side1 => refine (Kd.R_reads' (e := 76) (base := w.heap.size) (ok := fun k_ => True) (n := x193000_1.length) (c := co45) ?_).2.2; exact (by (with_reducible repeat (first | apply Kd.R_alloc | apply Kd.R_drewN | apply Kd.R_drew)); exact (Kd.R_mono (Kd.R_far (p := ⟨gb194, 3, none⟩) (Kd.R_far (p := ⟨gb194, 2, none⟩) (Kd.R_far (p := ⟨gb194, 1, none⟩) (Kd.R_far (p := ⟨gb194, 0, none⟩) (Kd.R_types HO_193000.out BK194.out (by decide)) (fun _ hk => hk.2) (.int .i64 ((rd_T35 l1 x15_1).f0))) (fun _ hk => hk.2) (.string ((rd_T35 l1 x15_1).f1))) (fun _ hk => hk.2) (.string ((rd_T35 l1 x15_1).f2))) (fun _ hk => hk.2) (.string ((rd_T35 l1 x15_1).f3))) (fun _ h_ => h_.1)))); (case side2 => exact (Kd.R_reads' HO_193000.out).2.1); rintro e w46 ⟨v196, rfl, ho0, hb⟩; refine ⟨_, rfl, ?_⟩; have HO197 := mk_ (Kd.R_lower (Kd.R_new' ho0 (Kd.R_lt (by (with_reducible repeat (first | apply Kd.R_alloc | apply Kd.R_drewN | apply Kd.R_drew)); exact (Kd.R_mono (Kd.R_far (p := ⟨gb194, 3, none⟩) (Kd.R_far (p := ⟨gb194, 2, none⟩) (Kd.R_far (p := ⟨gb194, 1, none⟩) (Kd.R_far (p := ⟨gb194, 0, none⟩) (Kd.R_types HO_193000.out BK194.out (by decide)) (fun _ hk => hk.2) (.int .i64 ((rd_T35 l1 x15_1).f0))) (fun _ hk => hk.2) (.string ((rd_T35 l1 x15_1).f1))) (fun _ hk => hk.2) (.string ((rd_T35 l1 x15_1).f2))) (fun _ hk => hk.2) (.string ((rd_T35 l1 x15_1).f3))) (fun _ h_ => h_.1))))) (below_size (bw_ HB))); replace HO_193000 := mk_ (Kd.R_elder' (by (with_reducible repeat (first | apply Kd.R_alloc | apply Kd.R_drewN | apply Kd.R_drew)); exact (Kd.R_mono (Kd.R_far (p := ⟨gb194, 3, none⟩) (Kd.R_far (p := ⟨gb194, 2, none⟩) (Kd.R_far (p := ⟨gb194, 1, none⟩) (Kd.R_far (p := ⟨gb194, 0, none⟩) (Kd.R_types HO_193000.out BK194.out (by decide)) (fun _ hk => hk.2) (.int .i64 ((rd_T35 l1 x15_1).f0))) (fun _ hk => hk.2) (.string ((rd_T35 l1 x15_1).f1))) (fun _ hk => hk.2) (.string ((rd_T35 l1 x15_1).f2))) (fun _ hk => hk.2) (.string ((rd_T35 l1 x15_1).f3))) (fun _ h_ => h_.1))) (Kd.R_base ho0) hb); replace BK187 := mk_ (blk_below (g := gb187) (o := .cells #[.slice A0_0 l0_0.length c0_0] 31 (0, 0)) bf_ hb); replace BK188 := mk_ (blk_below (g := gb188) (o := .cells #[.slice none 0 0] 31 (0, 0)) bf_ hb); replace BK192 := mk_ (blk_below (g := gb192) (o := .cells #[.slice Ao45 x193000_1.length co45] 31 (0, 0)) bf_ hb); replace BK194 := mk_ (blk_below (g := gb194) (o := .cells #[.int .i64 ((rd_T35 l1 x15_1).f0), .string ((rd_T35 l1 x15_1).f1), .string ((rd_T35 l1 x15_1).f2), .string ((rd_T35 l1 x15_1).f3)] 35 (0, 0)) bu_ hb); replace HB := bs_ HB hb; (try clear hb); (try clear hk); (try clear ho0)) | ((with_reducible refine gate_dst (N := 9) rfl ?_); refine bx_ (N := 9) (cs := #[.slice none 0 0]) (t := 31) ?_; intro gb199 hg w47 hbox hb; have BK199 := mk_ (hbox); have GW199 : Aside0 (w.heap.size ≤ gb199) := bz_ hg; have GE199 := GW199; have NB187_199 := bl_ BK187 hg; have NB199_187 := bg_ BK187 hg; have NB188_199 := bl_ BK188 hg; have NB199_188 := bg_ BK188 hg; have NB192_199 := bl_ BK192 hg; have NB199_192 := bg_ BK192 hg; have NB194_199 := bl_ BK194 hg; have NB199_194 := bg_ BK194 hg; replace HO_193000 := rb_ HO_193000 hb; replace HO197 := rb_ HO197 hb; replace BK187 := bb_ BK187 hb; replace BK188 := bb_ BK188 hb; replace BK192 := bb_ BK192 hb; replace BK194 := bb_ BK194 hb; replace HB := bs_ HB hb; clear hb hbox hg; obtain ⟨Ao48, co48, eo48⟩ := Kd.R_slice HO197.out; subst eo48; have hnb49 := NB199_187.out; have hnc49 := NB187_199.out; have hnb50 := NB199_188.out; have hnc50 := NB188_199.out; have hnb51 := NB199_192.out; have hnc51 := NB192_199.out; have hnb52 := NB199_194.out; have hnc52 := NB194_199.out; obtain ⟨hcz53_0, hfz53_0⟩ := b1_ BK199; obtain ⟨hcz54_0, hfz54_0⟩ := b1_ BK192; have hnb55 := NB188_187.out; have hnc55 := NB187_188.out; obtain ⟨hcz56_0, hfz56_0⟩ := b1_ BK188))
       refine bodyPost_ret (results_ct rfl _ _ gb188 31 #[.slice Ao45 x193000_1.length co45] (0, 0) _ rfl bu_ Try.underlying31 rfl (by kernel_rfl)) rfl ?_
       exact ⟨_, er_, by (with_reducible repeat (first | apply Kd.R_alloc | apply Kd.R_drewN | apply Kd.R_drew)); exact Kd.R_mono (Kd.R_far (p := ⟨gb188, 0, none⟩) (Kd.R_far (p := ⟨gb199, 0, none⟩) (Kd.R_types (Kd.R_types HO_193000.out BK199.out (by decide)) BK188.out (by decide)) (fun _ hk => hk.1.2) (.slice Ao48 t195.length co48)) (fun _ hk => hk.2) (.slice Ao45 x193000_1.length co45)) (fun _ hk => trivial), bw_ HB⟩
     ·rw [if_neg c16] at H
      exact absurd H (by simp)
    ·rw [if_neg c15] at H
     exact absurd H (by simp)
   ·rw [if_neg c14] at H
    have c14b0 : decide (x15_1 < (l1.length : Int)) = false := decide_eq_false c14
    clear c14
    simp only [Option.some.injEq, Prod.mk.injEq] at H
    obtain ⟨rfl, rfl⟩ := H
    have hnb57 := NB192_187.out
    have hnc57 := NB187_192.out
    have hnb58 := NB192_188.out
    have hnc58 := NB188_192.out
    have hcz59_0 : wr.cell? ⟨gb192, 0, none⟩ = some (u193000) := bc_ BK192 0
    have hfz59_0 := blk_frozen BK192.out 0
    obtain ⟨Ao60, co60, eo60⟩ := Kd.R_slice HO_193000.out
    subst eo60
    have hnb61 := NB188_187.out
    have hnc61 := NB187_188.out
    have hcz62_0 : wr.cell? ⟨gb188, 0, none⟩ = some (.slice none 0 0) := bc_ BK188 0
    have hfz62_0 := blk_frozen BK188.out 0
    go_wp2
    refine bodyPost_ret (results_ct rfl _ _ gb188 31 #[.slice Ao60 x193000_1.length co60] (0, 0) _ rfl bu_ Try.underlying31 rfl (by kernel_rfl)) rfl ?_
    exact ⟨_, er_, by (with_reducible repeat (first | apply Kd.R_alloc | apply Kd.R_drewN | apply Kd.R_drew)); exact Kd.R_mono (Kd.R_far (p := ⟨gb188, 0, none⟩) (Kd.R_types HO_193000.out BK188.out (by decide)) (fun _ hk => hk.2) (.slice Ao60 x193000_1.length co60)) (fun _ hk => trivial), bw_ HB⟩

/-! ### impl_LoseDisk: function 60 -/
def impl_LoseDisk.one (x : S76) (n : Int) : S76 := ⟨x.f0, x.f1.extract 0 (max x.f2 (min n (x.f1.size : Int))).toNat, max x.f2 (min n (x.f1.size : Int))⟩
def impl_LoseDisk.row : List S76 → List Int → List S76
 | [], _ => []
 | x :: l, [] => impl_LoseDisk.one x 0 :: impl_LoseDisk.row l []
 | x :: l, n :: r => impl_LoseDisk.one x n :: impl_LoseDisk.row l r
theorem impl_LoseDisk.row_length : ∀ (l : List S76) (r : List Int), (impl_LoseDisk.row l r).length = l.length
 | [], _ => rfl
 | x :: l, [] => by simp only [impl_LoseDisk.row, List.length_cons, impl_LoseDisk.row_length l []]
 | x :: l, n :: r => by simp only [impl_LoseDisk.row, List.length_cons, impl_LoseDisk.row_length l r]
theorem impl_LoseDisk.row_get : ∀ (l : List S76) (r : List Int) (j : Nat) (h : j < (impl_LoseDisk.row l r).length) (h' : j < l.length), (impl_LoseDisk.row l r)[j] = impl_LoseDisk.one l[j] (r.getD j 0)
 | x :: l, [], 0, _, _ => rfl
 | x :: l, n :: r, 0, _, _ => rfl
 | x :: l, [], j + 1, h, h' => by
  simp only [impl_LoseDisk.row, List.getElem_cons_succ]
  rw [impl_LoseDisk.row_get l [] j (by simpa [impl_LoseDisk.row] using h) (by simpa using h')]; rfl
 | x :: l, n :: r, j + 1, h, h' => by
  simp only [impl_LoseDisk.row, List.getElem_cons_succ]
  rw [impl_LoseDisk.row_get l r j (by simpa [impl_LoseDisk.row] using h) (by simpa using h')]; rfl
theorem impl_LoseDisk.row_step (l1 : List Int) (l : List S76) (j : Nat) (h : j < l.length) :
  ((impl_LoseDisk.row l l1).take j ++ l.drop j).set j (impl_LoseDisk.one l[j] (l1.getD j 0)) = (impl_LoseDisk.row l l1).take (j + 1) ++ l.drop (j + 1) := by
 have hl := impl_LoseDisk.row_length l l1
 have hj : j < (impl_LoseDisk.row l l1).length := by omega
 rw [List.set_append_right _ _ (by simp [List.length_take]; omega)]
 have e : j - ((impl_LoseDisk.row l l1).take j).length = 0 := by simp [List.length_take]; omega
 rw [e, List.drop_eq_getElem_cons h, List.set_cons_zero, List.take_succ_eq_append_getElem hj, List.append_assoc, impl_LoseDisk.row_get l l1 j hj h]
 simp
theorem impl_LoseDisk.row_rd (l1 : List Int) (l : List S76) (j : Nat) (h : j < l.length) : rd_T76 ((impl_LoseDisk.row l l1).take j ++ l.drop j) (j : Int) = l[j] := by
 have hl := impl_LoseDisk.row_length l l1
 unfold rd_T76
 rw [Int.toNat_natCast, List.getD_eq_getElem?_getD, List.getElem?_append_right (by simp [List.length_take]; omega)]
 have e : j - ((impl_LoseDisk.row l l1).take j).length = 0 := by simp [List.length_take]; omega
 rw [e, List.getElem?_drop]; simp [h]
def impl_LoseDisk.okr (l : List S76) : Bool := l.all fun x => decide (0 ≤ x.f2 ∧ x.f2 ≤ (x.f1.size : Int) ∧ (x.f1.size : Int) ≤ 1000000000)
set_option maxHeartbeats 8000000 in
set_option maxRecDepth 100000 in
theorem impl_LoseDisk.yes (k : Nat) (A0_0 : Option Addr) (c0_0 : Nat) (l0_0 : List S76) (A1 : Option Addr) (c1 : Nat) (l1 : List Int) (w : World) (hr0_0 : Kd.C k76 w A0_0 l0_0.length l0_0) (hc0_0 : l0_0.length ≤ c0_0) (hr1 : Kd.C (Kd.int .i64) w A1 l1.length l1) (hc1 : l1.length ≤ c1)
  (ht : impl_DiskOk.f k l0_0 = some true) (hlen : l0_0.length < 3518437208883) (hok : impl_LoseDisk.okr l0_0 = true) :
  Calls Try.prog 60 #[.agg #[.slice A0_0 l0_0.length c0_0], .slice A1 l1.length c1] w fun e w' => ∃ v0_ : Value, e = .returned (.tuple #[.agg #[v0_], .bool true]) ∧ Kd.R k76 76 w' w.heap.size (fun _ => True) v0_ (impl_LoseDisk.row l0_0 l1) ∧ Below w.heap.size w w' := by
 have hu52 := Try.underlying31
 have hu60 := Try.underlying76
 have HR := Aside0.mk hr0_0
 have HC := Aside0.mk hc0_0
 have HR1 := Aside0.mk hr1
 have HC1 := Aside0.mk hc1
 have HT := Aside0.mk ht
 have HL := Aside0.mk hlen
 have HK := Aside0.mk hok
 have HCP : Aside0 (impl_copyDisk.f l0_0 = some l0_0) := mk_ (by unfold impl_copyDisk.f; rw [if_pos (by simpa using hlen)]; rfl)
 clear hr0_0 hc0_0 hr1 hc1 ht hlen hok
 have HB := mk_ (Below.refl w.heap.size w)
 go_enter Try.func60, Try.ntmps60
 go_wp2_with (first
  | ((with_reducible refine gate_dst (N := 2) rfl ?_); refine bx_ (N := 2) (cs := #[.slice A0_0 l0_0.length c0_0]) (t := 31) ?_; intro g2 hg w2 hbox hb; have BK2 := Aside0.mk hbox; replace HB := bs_ HB hb; clear hb hbox hg)
  | ((with_reducible refine gate_dst (N := 4) rfl ?_); refine bx_ (N := 4) (cs := #[.slice none 0 0]) (t := 31) ?_; intro g4 hg w4 hbox hb; have BK4 := Aside0.mk hbox; have GE4 : Aside0 (w.heap.size ≤ g4) := bz_ hg; replace BK2 := bb_ BK2 hb; replace HB := bs_ HB hb; clear hb hbox hg; obtain ⟨hcz2, hfz2⟩ := b1_ BK2)
  | (go_at_call 45; (with_reducible refine (impl_DiskOk.calls k _ _ l0_0 true _ (Kd.C_below HR.out HB.out) HC.out HT.out).mono ?_); rintro e w5 ⟨rfl, hb⟩; replace BK2 := bb_ BK2 hb; replace BK4 := bb_ BK4 hb; replace HB := bs_ HB hb; clear hb; have hcz5 : w5.cell? ⟨g2, 0, none⟩ = some (.slice A0_0 l0_0.length c0_0) := bc_ BK2 0)
  | (go_at_call 46; (with_reducible refine (impl_copyDisk.calls _ _ l0_0 l0_0 _ (Kd.C_below HR.out HB.out) HC.out HCP.out).mono ?_); rintro e w6 ⟨v0, rfl, ho0, hb⟩; have HO := mk_ (Kd.R_lower ho0 (below_size HB.out)); replace BK2 := bb_ BK2 hb; replace BK4 := bb_ BK4 hb; replace HB := bs_ HB hb; clear hb ho0)
  | ((with_reducible refine gate_dst (N := 6) rfl ?_); refine bx_ (N := 6) (cs := #[.slice none 0 0]) (t := 31) ?_; intro g6 hg w7 hbox hb; have BK6 := Aside0.mk hbox; have GE6 : Aside0 (w.heap.size ≤ g6) := bz_ hg; have NB46 : Aside0 (g4 ≠ g6) := bl_ BK4 hg; replace BK4 := bb_ BK4 hb; replace HO := rb_ HO hb; replace HB := bs_ HB hb; clear hb hbox hg; obtain ⟨hcz6, hfz6⟩ := b1_ BK6; obtain ⟨Ao, co, eo⟩ := Kd.R_slice HO.out; subst eo))
 have hnl : (impl_LoseDisk.row l0_0 l1).length = l0_0.length := impl_LoseDisk.row_length l0_0 l1
 have HNL := Aside0.mk hnl
 clear hnl hcz2 hfz2 hcz5 hcz6 hfz6
 have BS6 := mk_ (show (w7.setCell ⟨g6, 0, none⟩ (.slice Ao l0_0.length co)).heap[g6]? = some (.cells #[.slice Ao l0_0.length co] 31 (0, 0)) from by simpa using blk_set BK6.out 0 (.slice Ao l0_0.length co))
 have BS4 := mk_ (blk_far (p := ⟨g6, 0, none⟩) BK4.out NB46.out (.slice Ao l0_0.length co))
 have HOS := mk_ (Kd.R_far (p := ⟨g6, 0, none⟩) (Kd.R_types HO.out BK6.out (by decide)) (fun _ hk => hk.2) (.slice Ao l0_0.length co))
 have HBS := mk_ (show Below w.heap.size w (w7.setCell ⟨g6, 0, none⟩ (.slice Ao l0_0.length co)) from below_set HB.out GE6.out)
 clear BK6 BK4 BK2 HO HB
 generalize hn : l0_0.length = n at *
 have HN := Aside0.mk hn
 clear hn
 go_loopg [19] n (fun gg s19 wr => ∃ kk : Nat, kk ≤ n ∧ n - kk ≤ gg ∧ s19 = .int .i64 kk ∧ Aside0 (Kd.R k76 76 wr w.heap.size (fun k => True ∧ k ≠ g6) (.slice Ao n co) ((impl_LoseDisk.row l0_0 l1).take kk ++ l0_0.drop kk)) ∧ Aside0 (wr.heap[g6]? = some (.cells #[.slice Ao n co] 31 (0, 0))) ∧ Aside0 (wr.heap[g4]? = some (.cells #[.slice none 0 0] 31 (0, 0))) ∧ Aside0 (Below w.heap.size w wr))
 case atStart => exact ⟨0, Nat.zero_le _, by omega, rfl, ⟨by simpa using HOS.out⟩, BS6, BS4, HBS⟩
 case round =>
  obtain ⟨kk, hkk, hg, rfl, HO, BK6, BK4, HB⟩ := hrel
  clear HOS BS6 BS4 HBS
  have hnb : n < 3518437208883 := HL.out
  by_cases hlt : kk < n
  ·have hl0 : kk < l0_0.length := by rw [HN.out]; exact hlt
   have hX := impl_LoseDisk.row_rd l1 l0_0 kk hl0
   have hS := impl_LoseDisk.row_step l1 l0_0 kk hl0
   have hm : l0_0[kk] ∈ l0_0 := List.getElem_mem _
   have hxo := List.all_eq_true.1 HK.out _ hm
   simp only [decide_eq_true_eq] at hxo
   generalize hx : l0_0[kk] = x at *
   generalize hXX : ((impl_LoseDisk.row l0_0 l1).take kk ++ l0_0.drop kk) = X at *
   obtain ⟨go, cap, eo, gb, gl, cl, HG⟩ := Kd.R_form HO.out (by rw [← hXX]; simp; omega)
   injection eo with ea en ec
   subst ea; subst ec
   obtain ⟨ce, hcl, hM, hcc, hfr⟩ := Kd.R_elem HO.out z76 (kk : Int) (by omega) (by omega)
   obtain rfl := k76_openM hM
   rw [show X.getD (kk : Int).toNat z76 = rd_T76 X (kk : Int) from rfl, hX] at hM hcc
   have hy0 : wr.cell? ⟨go, kk * 3, none⟩ = some (.string x.f0) := hcc 0 _ rfl
   have hy1 : wr.cell? ⟨go, kk * 3 + 1, none⟩ = some (.string x.f1) := hcc 1 _ rfl
   have hy2 : wr.cell? ⟨go, kk * 3 + 2, none⟩ = some (.int .i64 x.f2) := hcc 2 _ rfl
   have hz0 : wr.frozen? ⟨go, kk * 3, none⟩ = false := hfr 0
   have hz1 : wr.frozen? ⟨go, kk * 3 + 1, none⟩ = false := hfr 1
   have hz2 : wr.frozen? ⟨go, kk * 3 + 2, none⟩ = false := hfr 2
   have h60 : wr.cell? ⟨g6, 0, none⟩ = some (.slice (some ⟨go, 0, none⟩) n co) := bc_ BK6 0
   have hltz : (kk : Int) < (n : Int) := by omega
   have f60 := blk_frozen BK6.out 0
   have hne := HO.out.1 go rfl
   have e1 : x.f0 = x.f0 := rfl
   have hxb0 := hxo.1
   have hxb1 := hxo.2.1
   have hxb2 := hxo.2.2
   have hgl : g6 < wr.heap.size := blk_lt BK6.out
   have aa : ∀ (p : Addr) (v : Value) (o : Obj), wr.cell? p = some v → (wr.alloc o).cell? p = some v := fun p v o h => (pw_cell_below (below_alloc (Below.refl _ _) o) h)
   have ab : ∀ (p : Addr) (o : Obj), p.block < wr.heap.size → wr.frozen? p = false → (wr.alloc o).frozen? p = false := fun p o h1 h => ((below_alloc (Below.refl _ _) o).frozen h1).trans h
   have hy1a : ∀ o, (wr.alloc o).cell? ⟨go, kk * 3 + 1, none⟩ = some (.string x.f1) := fun o => aa _ _ o hy1
   have hy2a : ∀ o, (wr.alloc o).cell? ⟨go, kk * 3 + 2, none⟩ = some (.int .i64 x.f2) := fun o => aa _ _ o hy2
   have hz1a : ∀ o, (wr.alloc o).frozen? ⟨go, kk * 3 + 1, none⟩ = false := fun o => ab _ o gl hz1
   have hz2a : ∀ o, (wr.alloc o).frozen? ⟨go, kk * 3 + 2, none⟩ = false := fun o => ab _ o gl hz2
   have h60a : ∀ o, (wr.alloc o).cell? ⟨g6, 0, none⟩ = some (.slice (some ⟨go, 0, none⟩) n co) := fun o => aa _ _ o h60
   have hn1 : go ≠ g6 := hne.2
   have hn2 : g6 ≠ go := Ne.symm hne.2
   have hn3 : go ≠ wr.heap.size := Nat.ne_of_lt gl
   have hn4 : wr.heap.size ≠ go := Nat.ne_of_gt gl
   have HCL := Aside0.mk hcl
   have HCC := Aside0.mk hcc
   have HS := Aside0.mk hS
   have HN4 := mk_ (blk_ne BK4.out HG (by decide))
   clear hcc hfr hM hcl hX hS hm hxo e1 hne HG
   by_cases hl : kk < l1.length
   ·have hlz : (kk : Int) < (l1.length : Int) := by omega
    obtain ⟨ad1, ea1, hc1⟩ := ReadsInt.at_ (k := .i64) (Kd.reads_of_C (d := (0 : Int)) (h1 := fun _ => rfl) HR1.out) (kk : Int) (by omega) hlz
    cases ea1
    replace hc1 := hc_ HB hc1
    simp only [Int.toNat_natCast] at hc1
    have hc1a : ∀ o, (wr.alloc o).cell? (ad1.add kk) = some (.int .i64 (l1.getD kk 0)) := fun o => aa _ _ o hc1
    clear hc1 aa ab
    generalize l1.getD kk 0 = m at *
    obtain ⟨m2, hm2⟩ : ∃ m2 : Int, (if (x.f1.size : Int) < m then (x.f1.size : Int) else m) = m2 := ⟨_, rfl⟩
    obtain ⟨N, hN⟩ : ∃ N : Int, (if x.f2 < m2 then m2 else x.f2) = N := ⟨_, rfl⟩
    have hNe : max x.f2 (min m (x.f1.size : Int)) = N := by rw [← hN, ← hm2]; split <;> split <;> omega
    have hN0 : 0 ≤ N := by rw [← hNe]; omega
    have hN1 : N ≤ (x.f1.size : Int) := by rw [← hNe]; omega
    have HNe := Aside0.mk hNe
    have hNx := hNe
    clear hNe
    have HP := mk_ (Kd.R_seg HO.out (kk : Int) (by omega) (by omega) (c := [.string x.f0, .string x.f1, .int .i64 x.f2]) (seg := [.string (x.f1.extract 0 (N).toNat), .int .i64 (N)]) (j := 1) HCL.out HCC.out (show 1 + 2 ≤ 3 from by decide) (x' := impl_LoseDisk.one x m) (by unfold impl_LoseDisk.one; rw [HNe.out]; exact k76_mkM _ _ _ (⟨x.f0, x.f1.extract 0 (N).toNat, N⟩ : S76)) (okp := fun k => (True ∧ k ≠ g6) ∧ k ≠ go) (fun _ hk => hk)).1
    clear hNx
    go_wp2
    go_region
    go_wp2
    go_roundg (n - (kk + 1))
    case measure => omega
    case rel =>
     refine ⟨kk + 1, by omega, by omega, by go_num, ⟨?_⟩, ⟨?_⟩, ⟨?_⟩, ⟨?_⟩⟩
     ·rw [← HS.out]
      have hp := HP.out
      rw [Int.toNat_natCast] at hp
      exact Kd.R_drew (Kd.R_alloc hp _)
     ·exact blk_drew (blk_alloc (blk_far (blk_far BK6.out hn2 _) hn2 _) _)
     ·exact blk_drew (blk_alloc (blk_far (blk_far BK4.out HN4.out _) HN4.out _) _)
     ·exact below_drew1 (below_alloc (below_set (below_set HB.out gb) gb) _)
   ·have hlz : (l1.length : Int) ≤ (kk : Int) := by omega
    have hg0 : l1.getD kk 0 = 0 := by rw [List.getD_eq_getElem?_getD, List.getElem?_eq_none (by omega)]; rfl
    rw [hg0] at HS
    have HNe : Aside0 (max x.f2 (min 0 (x.f1.size : Int)) = x.f2) := mk_ (by omega)
    have hNx := HNe.out
    clear aa ab hg0
    have HP := mk_ (Kd.R_seg HO.out (kk : Int) (by omega) (by omega) (c := [.string x.f0, .string x.f1, .int .i64 x.f2]) (seg := [.string (x.f1.extract 0 (x.f2).toNat), .int .i64 (x.f2)]) (j := 1) HCL.out HCC.out (show 1 + 2 ≤ 3 from by decide) (x' := impl_LoseDisk.one x 0) (by unfold impl_LoseDisk.one; rw [HNe.out]; exact k76_mkM _ _ _ (⟨x.f0, x.f1.extract 0 (x.f2).toNat, x.f2⟩ : S76)) (okp := fun k => (True ∧ k ≠ g6) ∧ k ≠ go) (fun _ hk => hk)).1
    clear hNx
    go_wp2
    go_region
    go_wp2
    go_roundg (n - (kk + 1))
    case measure => omega
    case rel =>
     refine ⟨kk + 1, by omega, by omega, by go_num, ⟨?_⟩, ⟨?_⟩, ⟨?_⟩, ⟨?_⟩⟩
     ·rw [← HS.out]
      have hp := HP.out
      rw [Int.toNat_natCast] at hp
      exact Kd.R_drew (Kd.R_alloc hp _)
     ·exact blk_drew (blk_alloc (blk_far (blk_far BK6.out hn2 _) hn2 _) _)
     ·exact blk_drew (blk_alloc (blk_far (blk_far BK4.out HN4.out _) HN4.out _) _)
     ·exact below_drew1 (below_alloc (below_set (below_set HB.out gb) gb) _)
  ·obtain rfl : kk = n := by omega
   have hltz : ¬ (kk : Int) < (kk : Int) := by omega
   have h60 : wr.cell? ⟨g6, 0, none⟩ = some (.slice Ao kk co) := bc_ BK6 0
   have h40 : wr.cell? ⟨g4, 0, none⟩ = some (.slice none 0 0) := bc_ BK4 0
   have f40 := blk_frozen BK4.out 0
   have HX : Aside0 ((impl_LoseDisk.row l0_0 l1).take kk ++ l0_0.drop kk = impl_LoseDisk.row l0_0 l1) := mk_ (by rw [List.take_of_length_le (by rw [HNL.out]; exact Nat.le_refl _), List.drop_of_length_le (by rw [HN.out]; exact Nat.le_refl _), List.append_nil])
   rw [HX.out] at HO
   go_wp2
   refine bodyPost_ret (results_ct rfl _ _ g4 31 #[.slice Ao kk co] (0, 0) _ rfl (by first | exact blk_set BK4.out 0 _ | simpa using blk_set BK4.out 0 (.slice Ao kk co)) Try.underlying31 rfl (by kernel_rfl)) rfl ?_
   exact ⟨_, rfl, Kd.R_mono (Kd.R_far (p := ⟨g4, 0, none⟩) (Kd.R_types HO.out BK4.out (by decide)) (fun _ hk => hk.2) _) (fun _ _ => trivial), below_set HB.out GE4.out⟩
def impl_LoseDisk.f (k : Nat) (l0_0 : List S76) (l1 : List Int) : Option (List S76 × Bool) := (impl_DiskOk.f k l0_0).bind fun t => if t = true then (if l0_0.length < 3518437208883 ∧ impl_LoseDisk.okr l0_0 = true then some (impl_LoseDisk.row l0_0 l1, true) else none) else some ([], false)
theorem impl_LoseDisk.mono : ∀ a0 a1 k, LeO (impl_LoseDisk.f k a0 a1) (impl_LoseDisk.f (k + 1) a0 a1) :=
 fun a0 a1 k => LeO.bind (impl_DiskOk.mono a0 k) (fun _ => LeO.refl _)
set_option maxHeartbeats 8000000 in
set_option maxRecDepth 100000 in
theorem impl_LoseDisk.calls (k : Nat) (A0_0 : Option Addr) (c0_0 : Nat) (l0_0 : List S76) (A1 : Option Addr) (c1 : Nat) (l1 : List Int) (r1 : List S76) (r2 : Bool) (w : World) (hr0_0 : Kd.C k76 w A0_0 l0_0.length l0_0) (hc0_0 : l0_0.length ≤ c0_0) (hr1 : Kd.C (Kd.int .i64) w A1 l1.length l1) (hc1 : l1.length ≤ c1) (h : impl_LoseDisk.f k l0_0 l1 = some (r1, r2)) :
  Calls Try.prog 60 #[.agg #[.slice A0_0 l0_0.length c0_0], .slice A1 l1.length c1] w fun e w' => ∃ v0_ : Value, e = .returned (.tuple #[.agg #[v0_], .bool r2]) ∧ Kd.R k76 76 w' w.heap.size (fun _ => True) v0_ r1 ∧ Below w.heap.size w w' := by
 obtain ⟨t, ht, hr⟩ := Option.bind_eq_some_iff.mp h
 clear h
 cases t with
 | true =>
  simp only [if_true] at hr
  split at hr
  ·rename_i hq
   obtain ⟨rfl, rfl⟩ := Prod.mk.inj (Option.some.inj hr)
   exact impl_LoseDisk.yes k A0_0 c0_0 l0_0 A1 c1 l1 w hr0_0 hc0_0 hr1 hc1 ht hq.1 hq.2
  ·cases hr
 | false =>
  simp only [Bool.false_eq_true, if_false] at hr
  obtain ⟨rfl, rfl⟩ := Prod.mk.inj (Option.some.inj hr)
  have hu52 := Try.underlying31
  have HR := Aside0.mk hr0_0
  have HC := Aside0.mk hc0_0
  have HT := Aside0.mk ht
  clear hr0_0 hc0_0 hr1 hc1 ht hr
  have HB := mk_ (Below.refl w.heap.size w)
  go_enter Try.func60, Try.ntmps60
  go_wp2_with (first
   | ((with_reducible refine gate_dst (N := 2) rfl ?_); refine bx_ (N := 2) (cs := #[.slice A0_0 l0_0.length c0_0]) (t := 31) ?_; intro g2 hg w2 hbox hb; have BK2 := Aside0.mk hbox; replace HB := bs_ HB hb; clear hb hbox hg)
   | ((with_reducible refine gate_dst (N := 4) rfl ?_); refine bx_ (N := 4) (cs := #[.slice none 0 0]) (t := 31) ?_; intro g4 hg w4 hbox hb; have BK4 := Aside0.mk hbox; have GE4 : Aside0 (w.heap.size ≤ g4) := bz_ hg; replace BK2 := bb_ BK2 hb; replace HB := bs_ HB hb; clear hb hbox hg; obtain ⟨hcz2, hfz2⟩ := b1_ BK2)
   | (go_at_call 45; (with_reducible refine (impl_DiskOk.calls k _ _ l0_0 false _ (Kd.C_below HR.out HB.out) HC.out HT.out).mono ?_); rintro e w5 ⟨rfl, hb⟩; replace BK4 := bb_ BK4 hb; replace HB := bs_ HB hb; clear hb; obtain ⟨hcz5, hfz5⟩ := b1_ BK4))
  refine bodyPost_ret (results_ct rfl _ _ g4 31 #[.slice none 0 0] (0, 0) _ rfl (by simpa using blk_set BK4.out 0 (.slice none 0 0)) Try.underlying31 rfl (by kernel_rfl)) rfl ?_
  exact ⟨_, rfl, Kd.R_nil _ _ _ _ _, below_set HB.out GE4.out⟩

end Go.Proofs.Ythbaoefbccdioaa.QFnExactCutActs
