/- Written by this session's own program (wip/tpl/pp.py): what the law's functions come to, and that the machine's calls do just that. -/
import Derived.Test.YtgnmlgoadkhceaaDoorQFnExactSnapActsx0
import Derived.Test.YtgnmlgoadkhceaaDoorQFnExactSnapActsx6
import Derived.Test.YtgnmlgoadkhceaaDoorQFnExactSnapActsx7
import Derived.Test.YtgnmlgoadkhceaaDoorQFnExactSnapActsx8
namespace Go.Proofs.YtgnmlgoadkhceaaDoor.QFnExactSnapActs
open Go.RowKit Go.Proofs.YtgnmlgoadkhceaaDoorW.PrintWords Go.Proofs.YtgnmlgoadkhceaaDoorW.PrintLast Go.Proofs.YtgnmlgoadkhceaaDoorW.PrintMore
attribute [local go_sem] Go.Proofs.YtgnmlgoadkhceaaDoor.Sem.string_geq Go.Proofs.YtgnmlgoadkhceaaDoor.Sem.string_leq Go.Proofs.YtgnmlgoadkhceaaDoor.Sem.string_gtr
attribute [local go_sem] max2_int min2_int max_two min_two max_three min_three max_four min_four   -- for this text's walks alone
set_option linter.unusedVariables false
set_option linter.unusedSimpArgs false

/-! ### impl_SnapActs: function 31 -/
mutual
def impl_SnapActs.j0 : Nat → ByteArray → Bool → List (S88) → Int → Int → List Int → ByteArray → Option ((List (S82)) × Bool)
 | 0, _, _, _, _, _, _, _ => none
 | k + 1, x6, x24, x308000, x309000, x309001, x309002, x309003 => if x24 = true then (some (([] : List (S82)), false)) else ((impl_hasFile.f x308000 (⟨#[115, 43]⟩ : ByteArray)).bind fun t312 => (if t312 = true then (if ([] : List (S82)).length < 2513169434916 then (impl_SnapActs.j1 k x6 (([] : List (S82)) ++ [(⟨4, (⟨#[115, 43]⟩ : ByteArray), (⟨#[]⟩ : ByteArray), (⟨#[]⟩ : ByteArray)⟩ : S82)]) x308000 x309000 x309001 x309002 x309003) else (none)) else (impl_SnapActs.j1 k x6 ([] : List (S82)) x308000 x309000 x309001 x309002 x309003)))
def impl_SnapActs.j1 : Nat → ByteArray → List (S82) → List (S88) → Int → Int → List Int → ByteArray → Option ((List (S82)) × Bool)
 | 0, _, _, _, _, _, _, _ => none
 | k + 1, x6, x8, x308000, x309000, x309001, x309002, x309003 => impl_SnapActs.l0 k x6 x8 0 x308000 x309000 x309001 x309002 x309003
def impl_SnapActs.l0 : Nat → ByteArray → List (S82) → Int → List (S88) → Int → Int → List Int → ByteArray → Option ((List (S82)) × Bool)
 | 0, _, _, _, _, _, _, _, _ => none
 | k + 1, x6, x8, x9, x308000, x309000, x309001, x309002, x309003 => if x9 < (x6.size : Int) then (if 0 ≤ x9 then (if x9 ≤ (mn (x6.size : Int) (wrap64 (x9 + 60))) then (if (mn (x6.size : Int) (wrap64 (x9 + 60))) ≤ (x6.size : Int) then (if x8.length < 2513169434916 then (impl_SnapActs.l0 k x6 (x8 ++ [(⟨1, (⟨#[115, 43]⟩ : ByteArray), x6.extract (x9 : Int).toNat ((mn (x6.size : Int) (wrap64 (x9 + 60))) : Int).toNat, (⟨#[]⟩ : ByteArray)⟩ : S82)]) (wrap64 (x9 + 60)) x308000 x309000 x309001 x309002 x309003) else (none)) else (none)) else (none)) else (none)) else ((impl_SnapName.f x309000).bind fun t319 => ((some (([(⟨2, (⟨#[115, 43]⟩ : ByteArray), (⟨#[]⟩ : ByteArray), (⟨#[]⟩ : ByteArray)⟩ : S82), (⟨3, (⟨#[115, 43]⟩ : ByteArray), (⟨#[]⟩ : ByteArray), t319⟩ : S82)] : List (S82)) : List (S82))).bind fun y320 => (if x8.length + y320.length < 2513169434916 then (impl_SnapActs.l1 k (x8 ++ y320) t319 x308000 (x308000.length : Int) 0) else (none))))
def impl_SnapActs.l1 : Nat → List (S82) → ByteArray → List (S88) → Int → Int → Option ((List (S82)) × Bool)
 | 0, _, _, _, _, _ => none
 | k + 1, x8, x10, x59, x60, x61 => if x61 < x60 then (if 0 ≤ x61 then (if x61 < (x59.length : Int) then ((impl_numberOf.f ((rd_T88 x59 x61).f0) (⟨#[115]⟩ : ByteArray) 1000000).bind fun t328 => (if t328 ≥ 0 then (if ((rd_T88 x59 x61).f0).toList = x10.toList then (impl_SnapActs.l1 k x8 x10 x59 x60 (wrap64 (x61 + 1))) else (if x8.length < 2513169434916 then (impl_SnapActs.l1 k (x8 ++ [(⟨4, (rd_T88 x59 x61).f0, (⟨#[]⟩ : ByteArray), (⟨#[]⟩ : ByteArray)⟩ : S82)]) x10 x59 x60 (wrap64 (x61 + 1))) else (none))) else (impl_SnapActs.l1 k x8 x10 x59 x60 (wrap64 (x61 + 1))))) else (none)) else (none)) else (some (x8, true))
end
def impl_SnapActs.f (k : Nat) (l0_0 : List (S88)) (a1_0 : Int) (a1_1 : Int) (l1_2 : List Int) (a1_3 : ByteArray) : Option ((List (S82)) × Bool) := (impl_SnapText.f k a1_0 a1_1 l1_2 a1_3).bind fun bt309 => (if bt309.2 = true then ((impl_DiskOk.f k l0_0).bind fun t311 => (impl_SnapActs.j0 k bt309.1 (!t311) l0_0 a1_0 a1_1 l1_2 a1_3)) else (impl_SnapActs.j0 k bt309.1 true l0_0 a1_0 a1_1 l1_2 a1_3))
theorem impl_SnapActs.mono_l : ∀ k, (∀ y0 y1 y2 y3 y4 y5 y6, LeO (impl_SnapActs.j0 k y0 y1 y2 y3 y4 y5 y6) (impl_SnapActs.j0 (k + 1) y0 y1 y2 y3 y4 y5 y6)) ∧ (∀ y0 y1 y2 y3 y4 y5 y6, LeO (impl_SnapActs.j1 k y0 y1 y2 y3 y4 y5 y6) (impl_SnapActs.j1 (k + 1) y0 y1 y2 y3 y4 y5 y6)) ∧ (∀ y0 y1 y2 y3 y4 y5 y6 y7, LeO (impl_SnapActs.l0 k y0 y1 y2 y3 y4 y5 y6 y7) (impl_SnapActs.l0 (k + 1) y0 y1 y2 y3 y4 y5 y6 y7)) ∧ (∀ y0 y1 y2 y3 y4, LeO (impl_SnapActs.l1 k y0 y1 y2 y3 y4) (impl_SnapActs.l1 (k + 1) y0 y1 y2 y3 y4))
 | 0 => ⟨fun _ _ _ _ _ _ _ r h => by simp [impl_SnapActs.j0] at h, fun _ _ _ _ _ _ _ r h => by simp [impl_SnapActs.j1] at h, fun _ _ _ _ _ _ _ _ r h => by simp [impl_SnapActs.l0] at h, fun _ _ _ _ _ r h => by simp [impl_SnapActs.l1] at h⟩
 | k + 1 => by
  obtain ⟨ih0, ih1, ih2, ih3⟩ := impl_SnapActs.mono_l k
  refine ⟨?_, ?_, ?_, ?_⟩
  ·intro y0 y1 y2 y3 y4 y5 y6
   unfold impl_SnapActs.j0
   repeat' first
   | (with_reducible exact ih0 _ _ _ _ _ _ _)
   | (with_reducible exact ih1 _ _ _ _ _ _ _)
   | (with_reducible exact ih2 _ _ _ _ _ _ _ _)
   | (with_reducible exact ih3 _ _ _ _ _)
   | (with_reducible exact impl_DiskOk.mono _ _)
   | (with_reducible exact impl_SnapText.mono _ _ _ _ _)
   | (with_reducible exact LeO.refl _)
   | (with_reducible exact LeO.none _)
   | (with_reducible refine LeO.ite ?_ ?_)
   | (with_reducible refine LeO.bind ?_ (fun _ => ?_))
   | exact ih0 _ _ _ _ _ _ _
   | exact ih1 _ _ _ _ _ _ _
   | exact ih2 _ _ _ _ _ _ _ _
   | exact ih3 _ _ _ _ _
   | exact impl_DiskOk.mono _ _
   | exact impl_SnapText.mono _ _ _ _ _
   | exact LeO.none _
   | refine LeO.ite ?_ ?_
   | refine LeO.bind ?_ (fun _ => ?_)
  ·intro y0 y1 y2 y3 y4 y5 y6
   unfold impl_SnapActs.j1
   repeat' first
   | (with_reducible exact ih0 _ _ _ _ _ _ _)
   | (with_reducible exact ih1 _ _ _ _ _ _ _)
   | (with_reducible exact ih2 _ _ _ _ _ _ _ _)
   | (with_reducible exact ih3 _ _ _ _ _)
   | (with_reducible exact impl_DiskOk.mono _ _)
   | (with_reducible exact impl_SnapText.mono _ _ _ _ _)
   | (with_reducible exact LeO.refl _)
   | (with_reducible exact LeO.none _)
   | (with_reducible refine LeO.ite ?_ ?_)
   | (with_reducible refine LeO.bind ?_ (fun _ => ?_))
   | exact ih0 _ _ _ _ _ _ _
   | exact ih1 _ _ _ _ _ _ _
   | exact ih2 _ _ _ _ _ _ _ _
   | exact ih3 _ _ _ _ _
   | exact impl_DiskOk.mono _ _
   | exact impl_SnapText.mono _ _ _ _ _
   | exact LeO.none _
   | refine LeO.ite ?_ ?_
   | refine LeO.bind ?_ (fun _ => ?_)
  ·intro y0 y1 y2 y3 y4 y5 y6 y7
   unfold impl_SnapActs.l0
   repeat' first
   | (with_reducible exact ih0 _ _ _ _ _ _ _)
   | (with_reducible exact ih1 _ _ _ _ _ _ _)
   | (with_reducible exact ih2 _ _ _ _ _ _ _ _)
   | (with_reducible exact ih3 _ _ _ _ _)
   | (with_reducible exact impl_DiskOk.mono _ _)
   | (with_reducible exact impl_SnapText.mono _ _ _ _ _)
   | (with_reducible exact LeO.refl _)
   | (with_reducible exact LeO.none _)
   | (with_reducible refine LeO.ite ?_ ?_)
   | (with_reducible refine LeO.bind ?_ (fun _ => ?_))
   | exact ih0 _ _ _ _ _ _ _
   | exact ih1 _ _ _ _ _ _ _
   | exact ih2 _ _ _ _ _ _ _ _
   | exact ih3 _ _ _ _ _
   | exact impl_DiskOk.mono _ _
   | exact impl_SnapText.mono _ _ _ _ _
   | exact LeO.none _
   | refine LeO.ite ?_ ?_
   | refine LeO.bind ?_ (fun _ => ?_)
  ·intro y0 y1 y2 y3 y4
   unfold impl_SnapActs.l1
   repeat' first
   | (with_reducible exact ih0 _ _ _ _ _ _ _)
   | (with_reducible exact ih1 _ _ _ _ _ _ _)
   | (with_reducible exact ih2 _ _ _ _ _ _ _ _)
   | (with_reducible exact ih3 _ _ _ _ _)
   | (with_reducible exact impl_DiskOk.mono _ _)
   | (with_reducible exact impl_SnapText.mono _ _ _ _ _)
   | (with_reducible exact LeO.refl _)
   | (with_reducible exact LeO.none _)
   | (with_reducible refine LeO.ite ?_ ?_)
   | (with_reducible refine LeO.bind ?_ (fun _ => ?_))
   | exact ih0 _ _ _ _ _ _ _
   | exact ih1 _ _ _ _ _ _ _
   | exact ih2 _ _ _ _ _ _ _ _
   | exact ih3 _ _ _ _ _
   | exact impl_DiskOk.mono _ _
   | exact impl_SnapText.mono _ _ _ _ _
   | exact LeO.none _
   | refine LeO.ite ?_ ?_
   | refine LeO.bind ?_ (fun _ => ?_)
theorem impl_SnapActs.mono : ∀ a0 a1 a2 a3 a4 k, LeO (impl_SnapActs.f k a0 a1 a2 a3 a4) (impl_SnapActs.f (k + 1) a0 a1 a2 a3 a4) := by
 intro a0 a1 a2 a3 a4 k
 obtain ⟨ih0, ih1, ih2, ih3⟩ := impl_SnapActs.mono_l k
 unfold impl_SnapActs.f
 repeat' first
   | (with_reducible exact ih0 _ _ _ _ _ _ _)
   | (with_reducible exact ih1 _ _ _ _ _ _ _)
   | (with_reducible exact ih2 _ _ _ _ _ _ _ _)
   | (with_reducible exact ih3 _ _ _ _ _)
   | (with_reducible exact impl_DiskOk.mono _ _)
   | (with_reducible exact impl_SnapText.mono _ _ _ _ _)
   | (with_reducible exact LeO.refl _)
   | (with_reducible exact LeO.none _)
   | (with_reducible refine LeO.ite ?_ ?_)
   | (with_reducible refine LeO.bind ?_ (fun _ => ?_))
   | exact ih0 _ _ _ _ _ _ _
   | exact ih1 _ _ _ _ _ _ _
   | exact ih2 _ _ _ _ _ _ _ _
   | exact ih3 _ _ _ _ _
   | exact impl_DiskOk.mono _ _
   | exact impl_SnapText.mono _ _ _ _ _
   | exact LeO.none _
   | refine LeO.ite ?_ ?_
   | refine LeO.bind ?_ (fun _ => ?_)
set_option maxHeartbeats 8000000 in
set_option maxRecDepth 100000 in
theorem impl_SnapActs.calls (k : Nat) (A0_0 : Option Addr) (c0_0 : Nat) (l0_0 : List (S88)) (a1_0 : Int) (a1_1 : Int) (A1_2 : Option Addr) (c1_2 : Nat) (l1_2 : List Int) (a1_3 : ByteArray) (r1 : List (S82)) (r2 : Bool) (w : World) (hT : Tab2 w) (hr0_0 : Kd.C k88 w A0_0 l0_0.length l0_0) (hc0_0 : l0_0.length ≤ c0_0) (hr1_2 : Kd.C (Kd.int .i64) w A1_2 l1_2.length l1_2) (hc1_2 : l1_2.length ≤ c1_2) (h : impl_SnapActs.f k l0_0 a1_0 a1_1 l1_2 a1_3 = some (r1, r2)) :
  Calls Tryd.prog 31 #[.agg #[.slice A0_0 l0_0.length c0_0], .agg #[.int .i64 a1_0, .int .i64 a1_1, .slice A1_2 l1_2.length c1_2, .string a1_3]] w fun e w' => ∃ v0_ : Value, e = .returned (.tuple #[v0_, .bool r2]) ∧ Kd.R k82 82 w' w.heap.size (fun _ => True) v0_ r1 ∧ Below w.heap.size w w' := by
 have hu51 := Tryd.underlying51
 have hu53 := Tryd.underlying53
 have hu82 := Tryd.underlying82
 have hu88 := Tryd.underlying88
 have HR0_0 := Aside0.mk hr0_0
 have HC0_0 := Aside0.mk hc0_0
 clear hr0_0 hc0_0
 have HR1_2 := Aside0.mk hr1_2
 have HC1_2 := Aside0.mk hc1_2
 clear hr1_2 hc1_2
 have HT := Aside0.mk hT
 clear hT
 have HB := mk_ (Below.refl w.heap.size w)
 have H : ((impl_SnapText.f k a1_0 a1_1 l1_2 a1_3).bind fun bt309 => (if bt309.2 = true then ((impl_DiskOk.f k l0_0).bind fun t311 => (impl_SnapActs.j0 k bt309.1 (!t311) l0_0 a1_0 a1_1 l1_2 a1_3)) else (impl_SnapActs.j0 k bt309.1 true l0_0 a1_0 a1_1 l1_2 a1_3))) = some (r1, r2) := h
 clear h
 replace H := Option.bind_eq_some_iff.mp H
 obtain ⟨⟨t309, t310⟩, A30, H⟩ := H
 replace H : (if t310 = true then ((impl_DiskOk.f k l0_0).bind fun t311 => (impl_SnapActs.j0 k t309 (!t311) l0_0 a1_0 a1_1 l1_2 a1_3)) else (impl_SnapActs.j0 k t309 true l0_0 a1_0 a1_1 l1_2 a1_3)) = some (r1, r2) := H
 have A3 := Aside0.mk A30
 clear A30
 have HC4 := Aside0.mk H
 clear H
 go_enter Tryd.func31, Tryd.ntmps31
 go_upto_region 2 with (first | ((with_reducible refine gate_dst (N := 2) rfl ?_); refine box_event ?hg (N := 2) ?hd (cs := #[.slice A0_0 l0_0.length c0_0]) (t := 51) ?hr ?_; (case hd => rfl); (case hg => rfl); (case hr => first | (go_simp; done) | (go_simp; rfl)); intro gb307 hg w5 hbox hb; have BK307 := mk_ (hbox); have GW307 : Aside0 (w.heap.size ≤ gb307) := bz_ hg; have GE307 : Aside0 (w.heap.size ≤ gb307) := bz_ hg; replace HB := bs_ HB hb; clear hb hbox hg) | ((with_reducible refine gate_dst (N := 3) rfl ?_); refine box_event ?hg (N := 3) ?hd (cs := #[.int .i64 a1_0, .int .i64 a1_1, .slice A1_2 l1_2.length c1_2, .string a1_3]) (t := 53) ?hr ?_; (case hd => rfl); (case hg => rfl); (case hr => first | (go_simp; done) | (go_simp; rfl)); intro gb308 hg w6 hbox hb; have BK308 := mk_ (hbox); have GW308 : Aside0 (w.heap.size ≤ gb308) := bz_ hg; have GE308 : Aside0 (w.heap.size ≤ gb308) := bz_ hg; have NB307_308 : Aside0 (gb307 ≠ gb308) := bl_ BK307 hg; have NB308_307 : Aside0 (gb308 ≠ gb307) := bg_ BK307 hg; replace BK307 := bb_ BK307 hb; replace HB := bs_ HB hb; clear hb hbox hg; have hnb7 := NB308_307.out; have hnc7 := NB307_308.out; have hcz8_0 : w6.cell? ⟨gb308, 0, none⟩ = some (.int .i64 a1_0) := bc_ BK308 0; have hcz8_1 : w6.cell? ⟨gb308, 1, none⟩ = some (.int .i64 a1_1) := bc_ BK308 1; have hcz8_2 : w6.cell? ⟨gb308, 2, none⟩ = some (.slice A1_2 l1_2.length c1_2) := bc_ BK308 2; have hcz8_3 : w6.cell? ⟨gb308, 3, none⟩ = some (.string a1_3) := bc_ BK308 3; have hfz8_0 := blk_frozen BK308.out 0; have hfz8_1 := blk_frozen BK308.out 1; have hfz8_2 := blk_frozen BK308.out 2; have hfz8_3 := blk_frozen BK308.out 3) | ((with_reducible refine gate_callee (f := 59) rfl ?_); refine goesL_ (some 15) rfl rfl Tryd.func59 (by kernel_rfl) rfl #[.agg #[.int .i64 a1_0, .int .i64 a1_1, .slice A1_2 l1_2.length c1_2, .string a1_3]] rfl (by (try simp only [List.map_toArray, List.map_cons, List.map_nil]); first | done | rfl | (simp only [List.length_drop, List.length_take]; rfl)) ?_; (with_reducible refine (impl_SnapText.calls k a1_0 a1_1 _ _ l1_2 a1_3 t309 t310 _ ?side1 ?side2 A3.out).mono ?_); (case side1 => repeat (first | exact (Kd.C_below HR1_2.out HB.out) | (with_reducible refine Kd.C_alloc ?_ _) | (with_reducible refine Kd.C_drewN ?_ _) | (with_reducible refine Kd.C_drew ?_))); (case side2 => exact HC1_2.out); rintro e w9 ⟨rfl, hb⟩; refine ⟨_, rfl, ?_⟩; replace BK307 := bb_ BK307 hb; replace BK308 := bb_ BK308 hb; replace HB := bs_ HB hb; (try clear hb)))
 (try simp only [Act.put, sia_, scz_, scs_])
 go_cut [24] (fun v24 wc => ∃ (kq : Nat) (x24_3 : Bool), v24 = .bool x24_3 ∧ Aside0 (impl_SnapActs.j0 kq t309 x24_3 l0_0 a1_0 a1_1 l1_2 a1_3 = some (r1, r2)) ∧ Aside0 (kq ≤ k) ∧ Aside0 (wc.heap[gb307]? = some (.cells #[(.slice A0_0 l0_0.length c0_0)] 51 (0, 0))) ∧ Aside0 (wc.heap[gb308]? = some (.cells #[.int .i64 a1_0, .int .i64 a1_1, (.slice A1_2 l1_2.length c1_2), .string a1_3] 53 (0, 0))) ∧ Aside0 (Below w.heap.size w wc))
 case first =>
  have H := HC4.out
  clear HC4
  by_cases c10 : t310 = true
  ·subst c10
   have H1 : ((impl_DiskOk.f k l0_0).bind fun t311 => (impl_SnapActs.j0 k t309 (!t311) l0_0 a1_0 a1_1 l1_2 a1_3)) = some (r1, r2) := by rw [if_pos rfl] at H; exact H
   clear H
   have H := H1
   clear H1
   replace H := Option.bind_eq_some_iff.mp H
   obtain ⟨t311, A110, H⟩ := H
   replace H : (impl_SnapActs.j0 k t309 (!t311) l0_0 a1_0 a1_1 l1_2 a1_3) = some (r1, r2) := H
   have A11 := Aside0.mk A110
   clear A110
   have H' := Aside0.mk H
   clear H
   have hnb12 := NB307_308.out
   have hnc12 := NB308_307.out
   have hcz13_0 : w9.cell? ⟨gb307, 0, none⟩ = some (.slice A0_0 l0_0.length c0_0) := bc_ BK307 0
   have hfz13_0 := blk_frozen BK307.out 0
   go_wp2_with (first | (go_at_call 60; (with_reducible refine (impl_DiskOk.calls k _ _ l0_0 t311 _ ?side1 ?side2 A11.out).mono ?_); (case side1 => repeat (first | exact (Kd.C_below HR0_0.out HB.out) | (with_reducible refine Kd.C_alloc ?_ _) | (with_reducible refine Kd.C_drewN ?_ _) | (with_reducible refine Kd.C_drew ?_))); (case side2 => exact HC0_0.out); rintro e w14 ⟨rfl, hb⟩; replace BK307 := bb_ BK307 hb; replace BK308 := bb_ BK308 hb; replace HB := bs_ HB hb; (try clear hb)))
   go_meet
   case rel => exact ⟨_, (!t311), (by first | rfl | (simp; done) | (simp [*]; done)), H', ⟨by first | omega | exact Nat.le_refl _⟩, ⟨by (with_reducible repeat (first | refine blk_drewN ?_ _ | refine blk_drew ?_ | refine blk_alloc ?_ _)); exact BK307.out⟩, ⟨by (with_reducible repeat (first | refine blk_drewN ?_ _ | refine blk_drew ?_ | refine blk_alloc ?_ _)); exact BK308.out⟩, ⟨by repeat (first | (with_reducible first | exact HB.out | apply below_alloc | apply pw_below_drewN | apply below_drew1 | refine below_set ?_ GE307.out | refine below_set ?_ GE308.out) | exact HB.out)⟩⟩
  ·replace c10 := Bool.eq_false_iff.mpr c10
   subst c10
   have H1 : (impl_SnapActs.j0 k t309 true l0_0 a1_0 a1_1 l1_2 a1_3) = some (r1, r2) := by rw [if_neg (show ¬ (false = true) by decide)] at H; exact H
   clear H
   have H := H1
   clear H1
   have H' := Aside0.mk H
   clear H
   go_wp2
   go_meet
   case rel => exact ⟨_, (true), (by first | rfl | (simp; done) | (simp [*]; done)), H', ⟨by first | omega | exact Nat.le_refl _⟩, ⟨by (with_reducible repeat (first | refine blk_drewN ?_ _ | refine blk_drew ?_ | refine blk_alloc ?_ _)); exact BK307.out⟩, ⟨by (with_reducible repeat (first | refine blk_drewN ?_ _ | refine blk_drew ?_ | refine blk_alloc ?_ _)); exact BK308.out⟩, ⟨by repeat (first | (with_reducible first | exact HB.out | apply below_alloc | apply pw_below_drewN | apply below_drew1 | refine below_set ?_ GE307.out | refine below_set ?_ GE308.out) | exact HB.out)⟩⟩
 case rest =>
  clear HC4
  try clear c1
  try clear p2
  try clear c3
  try clear c5
  try clear c7
  try clear c10
  try clear c12
  try clear hcz13_0
  try clear hcz8_0
  try clear hcz8_1
  try clear hcz8_2
  try clear hcz8_3
  try clear hfz13_0
  try clear hfz8_0
  try clear hfz8_1
  try clear hfz8_2
  try clear hfz8_3
  obtain ⟨kq, x24_3, rfl, HA, HJ3, BK307, BK308, HB⟩ := hcut
  cases kq with
  | zero => exact absurd HA.out (by simp [impl_SnapActs.j0])
  | succ kj3 =>
   have H := HA.out
   clear HA
   simp only [impl_SnapActs.j0] at H
   by_cases c15 : x24_3 = true
   ·subst c15
    have H1 : (some (([] : List (S82)), false)) = some (r1, r2) := by rw [if_pos rfl] at H; exact H
    clear H
    have H := H1
    clear H1
    simp only [Option.some.injEq, Prod.mk.injEq] at H
    obtain ⟨rfl, rfl⟩ := H
    go_wp2
    go_ret2
    exact ⟨_, by first | rfl | (simp [errW_none, errW_some] <;> rfl) | (simp [*, errW_none, errW_some] <;> rfl), by first | exact Kd.R_nil _ _ _ _ _ | exact Kd.N_nil _ _ _ _ _ | exact Kd.V_nil _ _ _ _ _ | exact Kd.Q_nil _ _ _ _ _ | exact Kd.S_nil _ _ _ _ _, by repeat (first | (with_reducible first | exact HB.out | apply below_alloc | apply pw_below_drewN | apply below_drew1 | refine below_set ?_ GE307.out | refine below_set ?_ GE308.out) | exact HB.out)⟩
   ·replace c15 := Bool.eq_false_iff.mpr c15
    subst c15
    have H1 : ((impl_hasFile.f l0_0 (⟨#[115, 43]⟩ : ByteArray)).bind fun t312 => (if t312 = true then (if ([] : List (S82)).length < 2513169434916 then (impl_SnapActs.j1 kj3 t309 (([] : List (S82)) ++ [(⟨4, (⟨#[115, 43]⟩ : ByteArray), (⟨#[]⟩ : ByteArray), (⟨#[]⟩ : ByteArray)⟩ : S82)]) l0_0 a1_0 a1_1 l1_2 a1_3) else (none)) else (impl_SnapActs.j1 kj3 t309 ([] : List (S82)) l0_0 a1_0 a1_1 l1_2 a1_3))) = some (r1, r2) := by rw [if_neg (show ¬ (false = true) by decide)] at H; exact H
    clear H
    have H := H1
    clear H1
    replace H := Option.bind_eq_some_iff.mp H
    obtain ⟨t312, A160, H⟩ := H
    replace H : (if t312 = true then (if ([] : List (S82)).length < 2513169434916 then (impl_SnapActs.j1 kj3 t309 (([] : List (S82)) ++ [(⟨4, (⟨#[115, 43]⟩ : ByteArray), (⟨#[]⟩ : ByteArray), (⟨#[]⟩ : ByteArray)⟩ : S82)]) l0_0 a1_0 a1_1 l1_2 a1_3) else (none)) else (impl_SnapActs.j1 kj3 t309 ([] : List (S82)) l0_0 a1_0 a1_1 l1_2 a1_3)) = some (r1, r2) := H
    have A16 := Aside0.mk A160
    clear A160
    have HC17 := Aside0.mk H
    clear H
    have hnb18 := NB307_308.out
    have hnc18 := NB308_307.out
    have hcz19_0 : wc.cell? ⟨gb307, 0, none⟩ = some (.slice A0_0 l0_0.length c0_0) := bc_ BK307 0
    have hfz19_0 := blk_frozen BK307.out 0
    go_upto_if 26 with (first | ((with_reducible refine gate_callee (f := 61) rfl ?_); refine goesL_ (some 26) rfl rfl Tryd.func61 (by kernel_rfl) rfl #[.agg #[.slice A0_0 l0_0.length c0_0], .string (⟨#[115, 43]⟩ : ByteArray)] rfl (by (try simp only [List.map_toArray, List.map_cons, List.map_nil]); first | done | rfl | (simp only [List.length_drop, List.length_take]; rfl)) ?_; (with_reducible refine (impl_hasFile.calls _ _ l0_0 (⟨#[115, 43]⟩ : ByteArray) t312 _ ?side1 ?side2 A16.out).mono ?_); (case side1 => repeat (first | exact (Kd.C_below HR0_0.out HB.out) | (with_reducible refine Kd.C_alloc ?_ _) | (with_reducible refine Kd.C_drewN ?_ _) | (with_reducible refine Kd.C_drew ?_))); (case side2 => exact HC0_0.out); rintro e w20 ⟨rfl, hb⟩; refine ⟨_, rfl, ?_⟩; replace BK307 := bb_ BK307 hb; replace BK308 := bb_ BK308 hb; replace HB := bs_ HB hb; (try clear hb)))
    (try simp only [Act.put, sia_, scz_, scs_])
    go_cut [8] (fun v8 wc => ∃ (kq : Nat) (x8_16 : List (S82)), Aside0 (impl_SnapActs.j1 kq t309 x8_16 l0_0 a1_0 a1_1 l1_2 a1_3 = some (r1, r2)) ∧ Aside0 (kq ≤ kj3) ∧ Aside0 (Kd.R k82 82 wc w.heap.size (fun _ => True) v8 x8_16) ∧ Aside0 (wc.heap[gb307]? = some (.cells #[(.slice A0_0 l0_0.length c0_0)] 51 (0, 0))) ∧ Aside0 (wc.heap[gb308]? = some (.cells #[.int .i64 a1_0, .int .i64 a1_1, (.slice A1_2 l1_2.length c1_2), .string a1_3] 53 (0, 0))) ∧ Aside0 (Below w.heap.size w wc))
    case first =>
     have H := HC17.out
     clear HC17
     by_cases c21 : t312 = true
     ·subst c21
      have H1 : (if ([] : List (S82)).length < 2513169434916 then (impl_SnapActs.j1 kj3 t309 (([] : List (S82)) ++ [(⟨4, (⟨#[115, 43]⟩ : ByteArray), (⟨#[]⟩ : ByteArray), (⟨#[]⟩ : ByteArray)⟩ : S82)]) l0_0 a1_0 a1_1 l1_2 a1_3) else (none)) = some (r1, r2) := by rw [if_pos rfl] at H; exact H
      clear H
      have H := H1
      clear H1
      by_cases c22 : ([] : List (S82)).length < 2513169434916
      ·rw [if_pos c22] at H
       have LMc22 := Aside0.mk c22
       clear c22
       obtain ⟨y313, hy313⟩ : ∃ y_ : List (S82), y_ = (([] : List (S82)) ++ [(⟨4, (⟨#[115, 43]⟩ : ByteArray), (⟨#[]⟩ : ByteArray), (⟨#[]⟩ : ByteArray)⟩ : S82)]) := ⟨_, rfl⟩
       replace H : (impl_SnapActs.j1 kj3 t309 y313 l0_0 a1_0 a1_1 l1_2 a1_3) = some (r1, r2) := by first | (rw [hy313]; with_reducible exact H) | (have H2_ := (Option.bind_some _ _).symm.trans H; rw [hy313]; with_reducible exact H2_) | (have H2_ := (Option.bind_some _ _).symm.trans H; with_reducible exact H2_) | with_reducible exact H | (rw [hy313]; exact H) | exact H
       have Ny313 := Aside0.mk hy313
       clear hy313
       have H' := Aside0.mk H
       clear H
       go_wp2_with (first | ((with_reducible refine gate_builtin (b := .append) (xs := #[.tmp 27, .tmp 29]) rfl ?_); at_builtin; refine Kd.R_append k82 (w0 := w) w.heap.size rfl (.tmp 27) (.tmp 29) 46 82 (.agg #[(.int .i64 0), (.string ⟨#[]⟩), (.string ⟨#[]⟩), (.string ⟨#[]⟩)]) 56 rfl Tryd.underlying46 info82 rfl (by decide) (by omega) (.slice none 0 0) ([] : List (S82)) (⟨4, (⟨#[115, 43]⟩ : ByteArray), (⟨#[]⟩ : ByteArray), (⟨#[]⟩ : ByteArray)⟩ : S82) [.int .i64 4, .string (⟨#[115, 43]⟩ : ByteArray), .string (⟨#[]⟩ : ByteArray), .string (⟨#[]⟩ : ByteArray)] (fun _ => True) (fun _ => False) rfl rfl ?aP (fun _ hk => hk.elim) ?aF ?aO ?aB ?aS ?aL ?_; (case aP => exact k82_mkM _ _ _ (⟨4, (⟨#[115, 43]⟩ : ByteArray), (⟨#[]⟩ : ByteArray), (⟨#[]⟩ : ByteArray)⟩ : S82)); (case aB => exact (bw_ HB)); (case aF => exact (fun _ _ => trivial)); (case aO => exact ((Kd.R_nil _ _ _ _ (fun _ => True)))); (case aS => exact (below_size (bw_ HB))); (case aL => have := LMc22.out; omega); intro v314 w23 ho hb hg hat; rw [← Ny313.out] at ho; have HO315 := mk_ (ho); replace BK307 := mk_ (blk_grown (g := gb307) (o := .cells #[.slice A0_0 l0_0.length c0_0] 51 (0, 0)) (bp_ BK307) hg (by simp [Value.ownBlock])); replace BK308 := mk_ (blk_grown (g := gb308) (o := .cells #[.int .i64 a1_0, .int .i64 a1_1, .slice A1_2 l1_2.length c1_2, .string a1_3] 53 (0, 0)) (bp_ BK308) hg (by simp [Value.ownBlock])); replace HB := mk_ (hb); clear ho hb hg hat))
       go_meet
       case rel => exact ⟨_, (y313), H', ⟨by have := HJ3.out; first | omega | exact Nat.le_refl _⟩, ⟨by (with_reducible repeat (first | apply Kd.R_alloc | apply Kd.R_drewN | apply Kd.R_drew)); exact HO315.out⟩, ⟨by (with_reducible repeat (first | refine blk_drewN ?_ _ | refine blk_drew ?_ | refine blk_alloc ?_ _)); exact BK307.out⟩, ⟨by (with_reducible repeat (first | refine blk_drewN ?_ _ | refine blk_drew ?_ | refine blk_alloc ?_ _)); exact BK308.out⟩, ⟨by repeat (first | (with_reducible first | exact HB.out | apply below_alloc | apply pw_below_drewN | apply below_drew1 | refine below_set ?_ GE307.out | refine below_set ?_ GE308.out) | exact HB.out)⟩⟩
      ·rw [if_neg c22] at H
       exact absurd H (by simp)
     ·replace c21 := Bool.eq_false_iff.mpr c21
      subst c21
      have H1 : (impl_SnapActs.j1 kj3 t309 ([] : List (S82)) l0_0 a1_0 a1_1 l1_2 a1_3) = some (r1, r2) := by rw [if_neg (show ¬ (false = true) by decide)] at H; exact H
      clear H
      have H := H1
      clear H1
      have H' := Aside0.mk H
      clear H
      go_wp2
      go_meet
      case rel => exact ⟨_, (([] : List (S82))), H', ⟨by have := HJ3.out; first | omega | exact Nat.le_refl _⟩, ⟨by first | exact Kd.R_nil _ _ _ _ _ | exact Kd.N_nil _ _ _ _ _ | exact Kd.V_nil _ _ _ _ _ | exact Kd.Q_nil _ _ _ _ _ | exact Kd.S_nil _ _ _ _ _⟩, ⟨by (with_reducible repeat (first | refine blk_drewN ?_ _ | refine blk_drew ?_ | refine blk_alloc ?_ _)); exact BK307.out⟩, ⟨by (with_reducible repeat (first | refine blk_drewN ?_ _ | refine blk_drew ?_ | refine blk_alloc ?_ _)); exact BK308.out⟩, ⟨by repeat (first | (with_reducible first | exact HB.out | apply below_alloc | apply pw_below_drewN | apply below_drew1 | refine below_set ?_ GE307.out | refine below_set ?_ GE308.out) | exact HB.out)⟩⟩
    case rest =>
     clear HC17
     try clear c1
     try clear c2
     try clear p2
     try clear c3
     try clear c5
     try clear c6
     try clear c7
     try clear c10
     try clear c12
     try clear c15
     try clear c18
     try clear c21
     try clear c22
     try clear hcz13_0
     try clear hcz19_0
     try clear hcz8_0
     try clear hcz8_1
     try clear hcz8_2
     try clear hcz8_3
     try clear hfz13_0
     try clear hfz19_0
     try clear hfz8_0
     try clear hfz8_1
     try clear hfz8_2
     try clear hfz8_3
     try clear p2
     obtain ⟨kq, x8_16, HA, HJ16, HO_8, BK307, BK308, HB⟩ := hcut
     cases kq with
     | zero => exact absurd HA.out (by simp [impl_SnapActs.j1])
     | succ kj16 =>
      have H := HA.out
      clear HA
      simp only [impl_SnapActs.j1] at H
      have H' := Aside0.mk H
      clear H
      go_wp2
      go_loopg [8, 9] kj16 (fun kq v8 v9 w' => ∃ (x8_3 : List (S82)) (x9_3 : Int), v9 = .int .i64 x9_3 ∧ Aside0 (impl_SnapActs.l0 kq t309 x8_3 x9_3 l0_0 a1_0 a1_1 l1_2 a1_3 = some (r1, r2)) ∧ Aside0 (kq ≤ kj16) ∧ Aside0 (Kd.R k82 82 w' w.heap.size (fun _ => True) v8 x8_3) ∧ Aside0 (w'.heap[gb307]? = some (.cells #[(.slice A0_0 l0_0.length c0_0)] 51 (0, 0))) ∧ Aside0 (w'.heap[gb308]? = some (.cells #[.int .i64 a1_0, .int .i64 a1_1, (.slice A1_2 l1_2.length c1_2), .string a1_3] 53 (0, 0))) ∧ Aside0 (Below w.heap.size w w'))
      case atStart => exact ⟨(x8_16), (0), (by first | rfl | (simp; done) | (simp [*]; done)), H', ⟨Nat.le_refl _⟩, ⟨by (with_reducible repeat (first | apply Kd.R_alloc | apply Kd.R_drewN | apply Kd.R_drew)); exact HO_8.out⟩, ⟨by (with_reducible repeat (first | refine blk_drewN ?_ _ | refine blk_drew ?_ | refine blk_alloc ?_ _)); exact BK307.out⟩, ⟨by (with_reducible repeat (first | refine blk_drewN ?_ _ | refine blk_drew ?_ | refine blk_alloc ?_ _)); exact BK308.out⟩, ⟨by repeat (first | (with_reducible first | exact HB.out | apply below_alloc | apply pw_below_drewN | apply below_drew1 | refine below_set ?_ GE307.out | refine below_set ?_ GE308.out) | exact HB.out)⟩⟩
      case round =>
       clear H'
       try clear c1
       try clear c2
       try clear p2
       try clear c3
       try clear c5
       try clear c6
       try clear c7
       try clear c10
       try clear c12
       try clear c15
       try clear c18
       try clear c21
       try clear c22
       try clear hcz13_0
       try clear hcz19_0
       try clear hcz8_0
       try clear hcz8_1
       try clear hcz8_2
       try clear hcz8_3
       try clear hfz13_0
       try clear hfz19_0
       try clear hfz8_0
       try clear hfz8_1
       try clear hfz8_2
       try clear hfz8_3
       try clear p2
       obtain ⟨x8_3, x9_3, rfl, HA, HK3, HO_8, BK307, BK308, HB⟩ := hrel
       cases gk with
       | zero => exact absurd HA.out (by simp [impl_SnapActs.l0])
       | succ k3 =>
        have H := HA.out
        clear HA
        simp only [impl_SnapActs.l0] at H
        by_cases c24 : x9_3 < (t309.size : Int)
        ·rw [if_pos c24] at H
         have c24b0 : decide (x9_3 < (t309.size : Int)) = true := decide_eq_true c24
         clear c24
         obtain ⟨ji25, hji25⟩ : ∃ j_ : Int, (mn (t309.size : Int) (wrap64 (x9_3 + 60))) = j_ := ⟨_, rfl⟩
         replace H : (if 0 ≤ x9_3 then (if x9_3 ≤ (ji25) then (if (ji25) ≤ (t309.size : Int) then (if x8_3.length < 2513169434916 then (impl_SnapActs.l0 k3 t309 (x8_3 ++ [(⟨1, (⟨#[115, 43]⟩ : ByteArray), t309.extract (x9_3 : Int).toNat ((ji25) : Int).toNat, (⟨#[]⟩ : ByteArray)⟩ : S82)]) (wrap64 (x9_3 + 60)) l0_0 a1_0 a1_1 l1_2 a1_3) else (none)) else (none)) else (none)) else (none)) = some (r1, r2) := by first | (rw [hji25] at H; exact H) | (simp only [hji25] at H ⊢; exact H)
         have hji25_ : (if (wrap64 (x9_3 + 60)) < (t309.size : Int) then (wrap64 (x9_3 + 60)) else (t309.size : Int)) = ji25 := hji25
         by_cases c26 : 0 ≤ x9_3
         ·rw [if_pos c26] at H
          have c26b0 := eq_true c26
          have c26b1 : decide (0 ≤ x9_3) = true := decide_eq_true c26
          clear c26
          by_cases c27 : x9_3 ≤ (ji25)
          ·rw [if_pos c27] at H
           have c27b0 := eq_true c27
           have c27b1 : decide (x9_3 ≤ (ji25)) = true := decide_eq_true c27
           clear c27
           by_cases c28 : (ji25) ≤ (t309.size : Int)
           ·rw [if_pos c28] at H
            have c28b0 := eq_true c28
            have c28b1 : decide ((ji25) ≤ (t309.size : Int)) = true := decide_eq_true c28
            clear c28
            by_cases c29 : x8_3.length < 2513169434916
            ·rw [if_pos c29] at H
             have LMc29 := Aside0.mk c29
             clear c29
             obtain ⟨y316, hy316⟩ : ∃ y_ : List (S82), y_ = (x8_3 ++ [(⟨1, (⟨#[115, 43]⟩ : ByteArray), t309.extract (x9_3 : Int).toNat ((ji25) : Int).toNat, (⟨#[]⟩ : ByteArray)⟩ : S82)]) := ⟨_, rfl⟩
             replace H : (impl_SnapActs.l0 k3 t309 y316 (wrap64 (x9_3 + 60)) l0_0 a1_0 a1_1 l1_2 a1_3) = some (r1, r2) := by first | (rw [hy316]; with_reducible exact H) | (have H2_ := (Option.bind_some _ _).symm.trans H; rw [hy316]; with_reducible exact H2_) | (have H2_ := (Option.bind_some _ _).symm.trans H; with_reducible exact H2_) | with_reducible exact H | (rw [hy316]; exact H) | exact H
             have Ny316 := Aside0.mk hy316
             clear hy316
             have H' := Aside0.mk H
             clear H
             go_wp2_with (first | ((with_reducible refine gate_builtin (b := .append) (xs := #[.tmp 37, .tmp 47]) rfl ?_); at_builtin; refine Kd.R_append k82 (w0 := w) w.heap.size rfl (.tmp 37) (.tmp 47) 46 82 (.agg #[(.int .i64 0), (.string ⟨#[]⟩), (.string ⟨#[]⟩), (.string ⟨#[]⟩)]) 56 rfl Tryd.underlying46 info82 rfl (by decide) (by omega) u8 x8_3 (⟨1, (⟨#[115, 43]⟩ : ByteArray), t309.extract (x9_3 : Int).toNat ((ji25) : Int).toNat, (⟨#[]⟩ : ByteArray)⟩ : S82) [.int .i64 1, .string (⟨#[115, 43]⟩ : ByteArray), .string (t309.extract (x9_3 : Int).toNat ((ji25) : Int).toNat), .string (⟨#[]⟩ : ByteArray)] (fun _ => True) (fun _ => False) rfl rfl ?aP (fun _ hk => hk.elim) ?aF ?aO ?aB ?aS ?aL ?_; (case aP => exact k82_mkM _ _ _ (⟨1, (⟨#[115, 43]⟩ : ByteArray), t309.extract (x9_3 : Int).toNat ((ji25) : Int).toNat, (⟨#[]⟩ : ByteArray)⟩ : S82)); (case aB => exact (bw_ HB)); (case aF => exact (fun _ _ => trivial)); (case aO => exact (rp_ HO_8)); (case aS => exact (below_size (bw_ HB))); (case aL => have := LMc29.out; omega); intro v317 w30 ho hb hg hat; rw [← Ny316.out] at ho; have HO318 := mk_ (ho); replace BK307 := mk_ (blk_grown (g := gb307) (o := .cells #[.slice A0_0 l0_0.length c0_0] 51 (0, 0)) (bp_ BK307) hg (Kd.R_ne HO_8.out BK307.out (by decide))); replace BK308 := mk_ (blk_grown (g := gb308) (o := .cells #[.int .i64 a1_0, .int .i64 a1_1, .slice A1_2 l1_2.length c1_2, .string a1_3] 53 (0, 0)) (bp_ BK308) hg (Kd.R_ne HO_8.out BK308.out (by decide))); replace HB := mk_ (hb); clear HO_8; clear ho hb hg hat))
             go_roundg k3
             case measure => have := HJ3.out; have := HJ16.out; have := HK3.out; omega
             case rel => exact ⟨(y316), (wrap64 (x9_3 + 60)), (by first | rfl | (simp; done) | (simp [*]; done)), H', ⟨by have := HJ3.out; have := HJ16.out; have := HK3.out; omega⟩, ⟨by (with_reducible repeat (first | apply Kd.R_alloc | apply Kd.R_drewN | apply Kd.R_drew)); exact HO318.out⟩, ⟨by (with_reducible repeat (first | refine blk_drewN ?_ _ | refine blk_drew ?_ | refine blk_alloc ?_ _)); exact BK307.out⟩, ⟨by (with_reducible repeat (first | refine blk_drewN ?_ _ | refine blk_drew ?_ | refine blk_alloc ?_ _)); exact BK308.out⟩, ⟨by repeat (first | (with_reducible first | exact HB.out | apply below_alloc | apply pw_below_drewN | apply below_drew1 | refine below_set ?_ GE307.out | refine below_set ?_ GE308.out) | exact HB.out)⟩⟩
            ·rw [if_neg c29] at H
             exact absurd H (by simp)
           ·rw [if_neg c28] at H
            exact absurd H (by simp)
          ·rw [if_neg c27] at H
           exact absurd H (by simp)
         ·rw [if_neg c26] at H
          exact absurd H (by simp)
        ·rw [if_neg c24] at H
         have c24b0 : decide (x9_3 < (t309.size : Int)) = false := decide_eq_false c24
         clear c24
         replace H := Option.bind_eq_some_iff.mp H
         obtain ⟨t319, A310, H⟩ := H
         replace H : ((some (([(⟨2, (⟨#[115, 43]⟩ : ByteArray), (⟨#[]⟩ : ByteArray), (⟨#[]⟩ : ByteArray)⟩ : S82), (⟨3, (⟨#[115, 43]⟩ : ByteArray), (⟨#[]⟩ : ByteArray), t319⟩ : S82)] : List (S82)) : List (S82))).bind fun y320 => (if x8_3.length + y320.length < 2513169434916 then (impl_SnapActs.l1 k3 (x8_3 ++ y320) t319 l0_0 (l0_0.length : Int) 0) else (none))) = some (r1, r2) := H
         have A31 := Aside0.mk A310
         clear A310
         obtain ⟨y320, hy320⟩ : ∃ y_ : List (S82), y_ = (([(⟨2, (⟨#[115, 43]⟩ : ByteArray), (⟨#[]⟩ : ByteArray), (⟨#[]⟩ : ByteArray)⟩ : S82), (⟨3, (⟨#[115, 43]⟩ : ByteArray), (⟨#[]⟩ : ByteArray), t319⟩ : S82)] : List (S82))) := ⟨_, rfl⟩
         replace H : (if x8_3.length + y320.length < 2513169434916 then (impl_SnapActs.l1 k3 (x8_3 ++ y320) t319 l0_0 (l0_0.length : Int) 0) else (none)) = some (r1, r2) := by first | (rw [hy320]; with_reducible exact H) | (have H2_ := (Option.bind_some _ _).symm.trans H; rw [hy320]; with_reducible exact H2_) | (have H2_ := (Option.bind_some _ _).symm.trans H; with_reducible exact H2_) | with_reducible exact H | (rw [hy320]; exact H) | exact H
         have Ny320 := Aside0.mk hy320
         clear hy320
         by_cases c32 : x8_3.length + y320.length < 2513169434916
         ·rw [if_pos c32] at H
          have LMc32 := Aside0.mk c32
          clear c32
          obtain ⟨y323, hy323⟩ : ∃ y_ : List (S82), y_ = (x8_3 ++ y320) := ⟨_, rfl⟩
          replace H : (impl_SnapActs.l1 k3 y323 t319 l0_0 (l0_0.length : Int) 0) = some (r1, r2) := by first | (rw [hy323]; with_reducible exact H) | (have H2_ := (Option.bind_some _ _).symm.trans H; rw [hy323]; with_reducible exact H2_) | (have H2_ := (Option.bind_some _ _).symm.trans H; with_reducible exact H2_) | with_reducible exact H | (rw [hy323]; exact H) | exact H
          have Ny323 := Aside0.mk hy323
          clear hy323
          have H' := Aside0.mk H
          clear H
          have hnb33 := NB308_307.out
          have hnc33 := NB307_308.out
          have hcz34_0 : wr.cell? ⟨gb308, 0, none⟩ = some (.int .i64 a1_0) := bc_ BK308 0
          have hcz34_1 : wr.cell? ⟨gb308, 1, none⟩ = some (.int .i64 a1_1) := bc_ BK308 1
          have hcz34_2 : wr.cell? ⟨gb308, 2, none⟩ = some (.slice A1_2 l1_2.length c1_2) := bc_ BK308 2
          have hcz34_3 : wr.cell? ⟨gb308, 3, none⟩ = some (.string a1_3) := bc_ BK308 3
          have hfz34_0 := blk_frozen BK308.out 0
          have hfz34_1 := blk_frozen BK308.out 1
          have hfz34_2 := blk_frozen BK308.out 2
          have hfz34_3 := blk_frozen BK308.out 3
          go_wp2_with (first | ((with_reducible refine gate_callee (f := 14) rfl ?_); refine goesL_ (some 51) rfl rfl Tryd.func14 (by kernel_rfl) rfl #[.int .i64 a1_0] rfl (by (try simp only [List.map_toArray, List.map_cons, List.map_nil]); first | done | rfl | (simp only [List.length_drop, List.length_take]; rfl)) ?_; (with_reducible refine (impl_SnapName.calls a1_0 t319 _ (tab21 HT HB) A31.out).mono ?_); rintro e w35 ⟨rfl, hb⟩; refine ⟨_, rfl, ?_⟩; replace HO_8 := rb_ HO_8 hb; replace BK307 := bb_ BK307 hb; replace BK308 := bb_ BK308 hb; replace HB := bs_ HB hb; (try clear hb); (try clear hk)) | ((with_reducible refine gate_dst (N := 56) rfl ?_); refine Kd.R_lit k82 _ 82 ?hg (N := 56) ?hd (xs := ([(⟨2, (⟨#[115, 43]⟩ : ByteArray), (⟨#[]⟩ : ByteArray), (⟨#[]⟩ : ByteArray)⟩ : S82), (⟨3, (⟨#[115, 43]⟩ : ByteArray), (⟨#[]⟩ : ByteArray), t319⟩ : S82)] : List (S82))) (inner := [.int .i64 2, .string (⟨#[115, 43]⟩ : ByteArray), .string (⟨#[]⟩ : ByteArray), .string (⟨#[]⟩ : ByteArray), .int .i64 3, .string (⟨#[115, 43]⟩ : ByteArray), .string (⟨#[]⟩ : ByteArray), .string t319]) (ok := fun _ => True) (okp := fun _ => True) ?hr ?hp (fun _ hk => hk) trivial (Below.refl _ _) (Nat.le_refl _) (by simp) ?_; (case hd => rfl); (case hg => rfl); (case hr => first | (go_simp; done) | (go_simp; rfl)); (case hp => exact (Reps.c4 (show Kd.M k82 _ _ _ (⟨2, (⟨#[115, 43]⟩ : ByteArray), (⟨#[]⟩ : ByteArray), (⟨#[]⟩ : ByteArray)⟩ : S82) [.int .i64 2, .string (⟨#[115, 43]⟩ : ByteArray), .string (⟨#[]⟩ : ByteArray), .string (⟨#[]⟩ : ByteArray)] from (k82_mkM _ _ _ (⟨2, (⟨#[115, 43]⟩ : ByteArray), (⟨#[]⟩ : ByteArray), (⟨#[]⟩ : ByteArray)⟩ : S82) )) (Reps.c4 (show Kd.M k82 _ _ _ (⟨3, (⟨#[115, 43]⟩ : ByteArray), (⟨#[]⟩ : ByteArray), t319⟩ : S82) [.int .i64 3, .string (⟨#[115, 43]⟩ : ByteArray), .string (⟨#[]⟩ : ByteArray), .string t319] from (k82_mkM _ _ _ (⟨3, (⟨#[115, 43]⟩ : ByteArray), (⟨#[]⟩ : ByteArray), t319⟩ : S82) )) (Reps.none _ _)))); intro v321 w36 ho37 hb hg_ hnew_; clear hg_ hnew_; (first | rw [← Ny320.out] at ho37 | (simp only [Int.reduceToNat] at ho37; rw [← Ny320.out] at ho37)); have HO322 := mk_ (Kd.R_lower (Kd.R_new' ho37 (Kd.R_lt (rp_ HO_8))) (below_size (bw_ HB))); replace HO_8 := mk_ (Kd.R_elder' (rp_ HO_8) (Kd.R_base ho37) hb); replace BK307 := bb_ BK307 hb; replace BK308 := bb_ BK308 hb; replace HB := bs_ HB hb; clear hb ho37; obtain ⟨Ao39, co39, eo39⟩ := Kd.R_slice HO322.out; subst eo39) | ((with_reducible refine gate_builtin (b := .append) (xs := #[.tmp 52, .tmp 56]) rfl ?_); at_builtin; refine Kd.R_append_rows k82 (w0 := w) w.heap.size rfl (.tmp 52) (.tmp 56) 46 82 (.agg #[(.int .i64 0), (.string ⟨#[]⟩), (.string ⟨#[]⟩), (.string ⟨#[]⟩)]) 56 rfl Tryd.underlying46 info82 rfl (by decide) (by omega) u8 x8_3 y320 _ _ _ (fun k_ => some k_ ≠ (.slice Ao39 y320.length co39 : Value).ownBlock) (fun _ => False) rfl rfl ?aO ?aR (fun _ _ h => h) (fun _ h => h.elim) ?aF ?aB ?aS ?aL ?_; (case aR => repeat (first | exact (Kd.R_reads' HO322.out).2.2 | (with_reducible refine Kd.C_alloc ?_ _) | (with_reducible refine Kd.C_drewN ?_ _) | (with_reducible refine Kd.C_drew ?_))); (case aB => exact (bw_ HB)); (case aF => exact (fun k_ hk => Kd.fresh' (Kd.R_lt (rp_ HO322)) k_ hk)); (case aO => exact (by (with_reducible repeat (first | apply Kd.R_alloc | apply Kd.R_drewN | apply Kd.R_drew)); exact Kd.R_mono HO_8.out (fun _ hk => hk.2))); (case aS => exact (below_size (bw_ HB))); (case aL => have := LMc32.out; omega); intro v324 w38 ho hb hg hat; rw [← Ny323.out] at ho; have HO325 := mk_ (ho); replace BK307 := mk_ (blk_grown (g := gb307) (o := .cells #[.slice A0_0 l0_0.length c0_0] 51 (0, 0)) (bp_ BK307) hg (Kd.R_ne HO_8.out BK307.out (by decide))); replace BK308 := mk_ (blk_grown (g := gb308) (o := .cells #[.int .i64 a1_0, .int .i64 a1_1, .slice A1_2 l1_2.length c1_2, .string a1_3] 53 (0, 0)) (bp_ BK308) hg (Kd.R_ne HO_8.out BK308.out (by decide))); replace HO322 := mk_ (Kd.R_after (ok := (fun _ => True)) (rp_ HO322) hg hat); replace HB := mk_ (hb); clear HO_8; clear ho hb hg hat; have hcz40_0 : w38.cell? ⟨gb307, 0, none⟩ = some (.slice A0_0 l0_0.length c0_0) := bc_ BK307 0; have hfz40_0 := blk_frozen BK307.out 0))
          go_loopg [8, 61] k3 (fun kq v8 v61 w' => ∃ (x8_4 : List (S82)) (x61_4 : Int), v61 = .int .i64 x61_4 ∧ Aside0 (impl_SnapActs.l1 kq x8_4 t319 l0_0 (l0_0.length : Int) x61_4 = some (r1, r2)) ∧ Aside0 (kq ≤ k3) ∧ Aside0 (Kd.R k82 82 w' w.heap.size (fun _ => True) v8 x8_4) ∧ Aside0 (w'.heap[gb307]? = some (.cells #[(.slice A0_0 l0_0.length c0_0)] 51 (0, 0))) ∧ Aside0 (w'.heap[gb308]? = some (.cells #[.int .i64 a1_0, .int .i64 a1_1, (.slice A1_2 l1_2.length c1_2), .string a1_3] 53 (0, 0))) ∧ Aside0 (Below w.heap.size w w'))
          case atStart => exact ⟨(y323), (0), (by first | rfl | (simp; done) | (simp [*]; done)), H', ⟨Nat.le_refl _⟩, ⟨by (with_reducible repeat (first | apply Kd.R_alloc | apply Kd.R_drewN | apply Kd.R_drew)); exact Kd.R_mono HO325.out (fun _ hk => trivial)⟩, ⟨by (with_reducible repeat (first | refine blk_drewN ?_ _ | refine blk_drew ?_ | refine blk_alloc ?_ _)); exact BK307.out⟩, ⟨by (with_reducible repeat (first | refine blk_drewN ?_ _ | refine blk_drew ?_ | refine blk_alloc ?_ _)); exact BK308.out⟩, ⟨by repeat (first | (with_reducible first | exact HB.out | apply below_alloc | apply pw_below_drewN | apply below_drew1 | refine below_set ?_ GE307.out | refine below_set ?_ GE308.out) | exact HB.out)⟩⟩
          case round =>
           clear H'
           try clear c1
           try clear c2
           try clear p2
           try clear c3
           try clear c4
           try clear c5
           try clear c6
           try clear p6
           try clear c7
           try clear c10
           try clear c12
           try clear c14
           try clear c15
           try clear c18
           try clear c21
           try clear c22
           try clear c24
           try clear c24b0
           try clear c26
           try clear c26b0
           try clear c26b1
           try clear c27
           try clear c27b0
           try clear c27b1
           try clear c28
           try clear c28b0
           try clear c28b1
           try clear c29
           try clear c31
           try clear c32
           try clear c33
           try clear hcz13_0
           try clear hcz19_0
           try clear hcz34_0
           try clear hcz34_1
           try clear hcz34_2
           try clear hcz34_3
           try clear hcz40_0
           try clear hcz8_0
           try clear hcz8_1
           try clear hcz8_2
           try clear hcz8_3
           try clear hfz13_0
           try clear hfz19_0
           try clear hfz34_0
           try clear hfz34_1
           try clear hfz34_2
           try clear hfz34_3
           try clear hfz40_0
           try clear hfz8_0
           try clear hfz8_1
           try clear hfz8_2
           try clear hfz8_3
           try clear p2
           obtain ⟨x8_4, x61_4, rfl, HA, HK4, HO_8, BK307, BK308, HB⟩ := hrel
           cases gk with
           | zero => exact absurd HA.out (by simp [impl_SnapActs.l1])
           | succ k4 =>
            have H := HA.out
            clear HA
            simp only [impl_SnapActs.l1] at H
            by_cases c41 : x61_4 < (l0_0.length : Int)
            ·rw [if_pos c41] at H
             have c41b0 : decide (x61_4 < (l0_0.length : Int)) = true := decide_eq_true c41
             clear c41
             by_cases c42 : 0 ≤ x61_4
             ·rw [if_pos c42] at H
              have c42b0 : decide (0 ≤ x61_4) = true := decide_eq_true c42
              clear c42
              by_cases c43 : x61_4 < (l0_0.length : Int)
              ·rw [if_pos c43] at H
               have c43b0 : decide (x61_4 < (l0_0.length : Int)) = true := decide_eq_true c43
               clear c43
               replace H := Option.bind_eq_some_iff.mp H
               obtain ⟨t328, A440, H⟩ := H
               replace H : (if t328 ≥ 0 then (if ((rd_T88 l0_0 x61_4).f0).toList = t319.toList then (impl_SnapActs.l1 k4 x8_4 t319 l0_0 (l0_0.length : Int) (wrap64 (x61_4 + 1))) else (if x8_4.length < 2513169434916 then (impl_SnapActs.l1 k4 (x8_4 ++ [(⟨4, (rd_T88 l0_0 x61_4).f0, (⟨#[]⟩ : ByteArray), (⟨#[]⟩ : ByteArray)⟩ : S82)]) t319 l0_0 (l0_0.length : Int) (wrap64 (x61_4 + 1))) else (none))) else (impl_SnapActs.l1 k4 x8_4 t319 l0_0 (l0_0.length : Int) (wrap64 (x61_4 + 1)))) = some (r1, r2) := H
               have A44 := Aside0.mk A440
               clear A440
               by_cases c45 : t328 ≥ 0
               ·rw [if_pos c45] at H
                have c45b0 : decide (0 ≤ t328) = true := decide_eq_true c45
                clear c45
                by_cases c46 : ((rd_T88 l0_0 x61_4).f0).toList = t319.toList
                ·rw [if_pos c46] at H
                 have c46b0 : (((rd_T88 l0_0 x61_4).f0).toList == t319.toList) = true := beq_iff_eq.mpr c46
                 have c46b1 : (((rd_T88 l0_0 x61_4).f0).toList != t319.toList) = false := bne_eq_false_iff_eq.mpr c46
                 clear c46
                 have H' := Aside0.mk H
                 clear H
                 have p326 : 0 ≤ (x61_4 : Int) := of_decide_eq_true (by first | (with_reducible assumption) | assumption)
                 have q326 : x61_4 < (l0_0.length : Int) := of_decide_eq_true (by first | (with_reducible assumption) | assumption)
                 obtain ⟨ad326, e326, hx326_0, hx326_1, hx326_2⟩ := at_T88 HR0_0.out x61_4 p326 q326
                 cases e326
                 replace hx326_0 := (HB.out.cell (World.block_lt_of_cell? w _ hx326_0)).trans hx326_0
                 replace hx326_1 := (HB.out.cell (World.block_lt_of_cell? w _ hx326_1)).trans hx326_1
                 replace hx326_2 := (HB.out.cell (World.block_lt_of_cell? w _ hx326_2)).trans hx326_2
                 replace p326 := eq_true p326
                 replace q326 := eq_true q326
                 go_wp2_with (first | ((with_reducible refine gate_dst (N := 12) rfl ?_); refine box_event ?hg (N := 12) ?hd (cs := #[.string (⟨#[]⟩ : ByteArray), .string (⟨#[]⟩ : ByteArray), .int .i64 0]) (t := 88) ?hr ?_; (case hd => rfl); (case hg => rfl); (case hr => first | (go_simp; done) | (go_simp; rfl)); intro gb327 hg w47 hbox hb; have BK327 := mk_ (hbox); have GW327 : Aside0 (w.heap.size ≤ gb327) := bz_ hg; have GE327 : Aside0 (w.heap.size ≤ gb327) := bz_ hg; have NB307_327 : Aside0 (gb307 ≠ gb327) := bl_ BK307 hg; have NB327_307 : Aside0 (gb327 ≠ gb307) := bg_ BK307 hg; have NB308_327 : Aside0 (gb308 ≠ gb327) := bl_ BK308 hg; have NB327_308 : Aside0 (gb327 ≠ gb308) := bg_ BK308 hg; replace HO_8 := rb_ HO_8 hb; replace BK307 := bb_ BK307 hb; replace BK308 := bb_ BK308 hb; replace HB := bs_ HB hb; clear hb hbox hg; have hnb48 := NB327_307.out; have hnc48 := NB307_327.out; have hnb49 := NB327_308.out; have hnc49 := NB308_327.out; have hcz50_0 : w47.cell? ⟨gb327, 0, none⟩ = some (.string (⟨#[]⟩ : ByteArray)) := bc_ BK327 0; have hcz50_1 : w47.cell? ⟨gb327, 1, none⟩ = some (.string (⟨#[]⟩ : ByteArray)) := bc_ BK327 1; have hcz50_2 : w47.cell? ⟨gb327, 2, none⟩ = some (.int .i64 0) := bc_ BK327 2; have hfz50_0 := blk_frozen BK327.out 0; have hfz50_1 := blk_frozen BK327.out 1; have hfz50_2 := blk_frozen BK327.out 2) | ((with_reducible refine gate_callee (f := 62) rfl ?_); refine goesL_ (some 67) rfl rfl Tryd.func62 (by kernel_rfl) rfl #[.string ((rd_T88 l0_0 x61_4).f0), .string (⟨#[115]⟩ : ByteArray), .int .i64 1000000] rfl (by (try simp only [List.map_toArray, List.map_cons, List.map_nil]); first | done | rfl | (simp only [List.length_drop, List.length_take]; rfl)) ?_; (with_reducible refine (impl_numberOf.calls ((rd_T88 l0_0 x61_4).f0) (⟨#[115]⟩ : ByteArray) 1000000 t328 _ (tab22 HT HB) A44.out).mono ?_); rintro e w51 ⟨rfl, hb⟩; refine ⟨_, rfl, ?_⟩; replace HO_8 := mk_ (Kd.R_below (by (with_reducible repeat (first | apply Kd.R_alloc | apply Kd.R_drewN | apply Kd.R_drew)); exact (Kd.R_mono (Kd.R_far (p := ⟨gb327, 2, none⟩) (Kd.R_far (p := ⟨gb327, 1, none⟩) (Kd.R_far (p := ⟨gb327, 0, none⟩) (Kd.R_types HO_8.out BK327.out (by decide)) (fun _ hk => hk.2) (.string ((rd_T88 l0_0 x61_4).f0))) (fun _ hk => hk.2) (.string ((rd_T88 l0_0 x61_4).f1))) (fun _ hk => hk.2) (.int .i64 ((rd_T88 l0_0 x61_4).f2))) (fun _ h_ => h_.1))) hb); replace BK307 := mk_ (blk_below (g := gb307) (o := .cells #[.slice (some ad326) l0_0.length c0_0] 51 (0, 0)) (by (with_reducible repeat (first | refine blk_drewN ?_ _ | refine blk_drew ?_ | refine blk_alloc ?_ _)); refine blk_far ?_ NB307_327.out _; (with_reducible repeat (first | refine blk_drewN ?_ _ | refine blk_drew ?_ | refine blk_alloc ?_ _)); refine blk_far ?_ NB307_327.out _; (with_reducible repeat (first | refine blk_drewN ?_ _ | refine blk_drew ?_ | refine blk_alloc ?_ _)); refine blk_far ?_ NB307_327.out _; (with_reducible repeat (first | refine blk_drewN ?_ _ | refine blk_drew ?_ | refine blk_alloc ?_ _)); exact BK307.out) hb); replace BK308 := mk_ (blk_below (g := gb308) (o := .cells #[.int .i64 a1_0, .int .i64 a1_1, .slice A1_2 l1_2.length c1_2, .string a1_3] 53 (0, 0)) (by (with_reducible repeat (first | refine blk_drewN ?_ _ | refine blk_drew ?_ | refine blk_alloc ?_ _)); refine blk_far ?_ NB308_327.out _; (with_reducible repeat (first | refine blk_drewN ?_ _ | refine blk_drew ?_ | refine blk_alloc ?_ _)); refine blk_far ?_ NB308_327.out _; (with_reducible repeat (first | refine blk_drewN ?_ _ | refine blk_drew ?_ | refine blk_alloc ?_ _)); refine blk_far ?_ NB308_327.out _; (with_reducible repeat (first | refine blk_drewN ?_ _ | refine blk_drew ?_ | refine blk_alloc ?_ _)); exact BK308.out) hb); replace BK327 := mk_ (blk_below (g := gb327) (o := .cells #[.string ((rd_T88 l0_0 x61_4).f0), .string ((rd_T88 l0_0 x61_4).f1), .int .i64 ((rd_T88 l0_0 x61_4).f2)] 88 (0, 0)) (by (with_reducible repeat (first | refine blk_drewN ?_ _ | refine blk_drew ?_ | refine blk_alloc ?_ _)); refine blk_put (cs := #[.string ((rd_T88 l0_0 x61_4).f0), .string ((rd_T88 l0_0 x61_4).f1), .int .i64 0]) ?_ 2 _ rfl; (with_reducible repeat (first | refine blk_drewN ?_ _ | refine blk_drew ?_ | refine blk_alloc ?_ _)); refine blk_put (cs := #[.string ((rd_T88 l0_0 x61_4).f0), .string (⟨#[]⟩ : ByteArray), .int .i64 0]) ?_ 1 _ rfl; (with_reducible repeat (first | refine blk_drewN ?_ _ | refine blk_drew ?_ | refine blk_alloc ?_ _)); refine blk_put (cs := #[.string (⟨#[]⟩ : ByteArray), .string (⟨#[]⟩ : ByteArray), .int .i64 0]) ?_ 0 _ rfl; (with_reducible repeat (first | refine blk_drewN ?_ _ | refine blk_drew ?_ | refine blk_alloc ?_ _)); exact BK327.out) hb); replace HB := bs_ HB hb; (try clear hb); (try clear hk); have hcz52_0 : w51.cell? ⟨gb327, 0, none⟩ = some (.string ((rd_T88 l0_0 x61_4).f0)) := bc_ BK327 0; have hcz52_1 : w51.cell? ⟨gb327, 1, none⟩ = some (.string ((rd_T88 l0_0 x61_4).f1)) := bc_ BK327 1; have hcz52_2 : w51.cell? ⟨gb327, 2, none⟩ = some (.int .i64 ((rd_T88 l0_0 x61_4).f2)) := bc_ BK327 2; have hfz52_0 := blk_frozen BK327.out 0; have hfz52_1 := blk_frozen BK327.out 1; have hfz52_2 := blk_frozen BK327.out 2))
                 go_roundg k4
                 case measure => have := HJ3.out; have := HJ16.out; have := HK3.out; have := HK4.out; omega
                 case rel => exact ⟨(x8_4), (wrap64 (x61_4 + 1)), (by first | rfl | (simp; done) | (simp [*]; done)), H', ⟨by have := HJ3.out; have := HJ16.out; have := HK3.out; have := HK4.out; omega⟩, ⟨by (with_reducible repeat (first | apply Kd.R_alloc | apply Kd.R_drewN | apply Kd.R_drew)); exact HO_8.out⟩, ⟨by (with_reducible repeat (first | refine blk_drewN ?_ _ | refine blk_drew ?_ | refine blk_alloc ?_ _)); exact BK307.out⟩, ⟨by (with_reducible repeat (first | refine blk_drewN ?_ _ | refine blk_drew ?_ | refine blk_alloc ?_ _)); exact BK308.out⟩, ⟨by repeat (first | (with_reducible first | exact HB.out | apply below_alloc | apply pw_below_drewN | apply below_drew1 | refine below_set ?_ GE307.out | refine below_set ?_ GE308.out | refine below_set ?_ GE327.out) | exact HB.out)⟩⟩
                ·rw [if_neg c46] at H
                 have c46b0 : (((rd_T88 l0_0 x61_4).f0).toList == t319.toList) = false := beq_eq_false_iff_ne.mpr c46
                 have c46b1 : (((rd_T88 l0_0 x61_4).f0).toList != t319.toList) = true := bne_iff_ne.mpr c46
                 by_cases c53 : x8_4.length < 2513169434916
                 ·rw [if_pos c53] at H
                  have LMc53 := Aside0.mk c53
                  clear c53
                  obtain ⟨y329, hy329⟩ : ∃ y_ : List (S82), y_ = (x8_4 ++ [(⟨4, (rd_T88 l0_0 x61_4).f0, (⟨#[]⟩ : ByteArray), (⟨#[]⟩ : ByteArray)⟩ : S82)]) := ⟨_, rfl⟩
                  replace H : (impl_SnapActs.l1 k4 y329 t319 l0_0 (l0_0.length : Int) (wrap64 (x61_4 + 1))) = some (r1, r2) := by first | (rw [hy329]; with_reducible exact H) | (have H2_ := (Option.bind_some _ _).symm.trans H; rw [hy329]; with_reducible exact H2_) | (have H2_ := (Option.bind_some _ _).symm.trans H; with_reducible exact H2_) | with_reducible exact H | (rw [hy329]; exact H) | exact H
                  have Ny329 := Aside0.mk hy329
                  clear hy329
                  have H' := Aside0.mk H
                  clear H
                  have p326 : 0 ≤ (x61_4 : Int) := of_decide_eq_true (by first | (with_reducible assumption) | assumption)
                  have q326 : x61_4 < (l0_0.length : Int) := of_decide_eq_true (by first | (with_reducible assumption) | assumption)
                  obtain ⟨ad326, e326, hx326_0, hx326_1, hx326_2⟩ := at_T88 HR0_0.out x61_4 p326 q326
                  cases e326
                  replace hx326_0 := (HB.out.cell (World.block_lt_of_cell? w _ hx326_0)).trans hx326_0
                  replace hx326_1 := (HB.out.cell (World.block_lt_of_cell? w _ hx326_1)).trans hx326_1
                  replace hx326_2 := (HB.out.cell (World.block_lt_of_cell? w _ hx326_2)).trans hx326_2
                  replace p326 := eq_true p326
                  replace q326 := eq_true q326
                  go_wp2_with (first | ((with_reducible refine gate_dst (N := 12) rfl ?_); refine box_event ?hg (N := 12) ?hd (cs := #[.string (⟨#[]⟩ : ByteArray), .string (⟨#[]⟩ : ByteArray), .int .i64 0]) (t := 88) ?hr ?_; (case hd => rfl); (case hg => rfl); (case hr => first | (go_simp; done) | (go_simp; rfl)); intro gb327 hg w54 hbox hb; have BK327 := mk_ (hbox); have GW327 : Aside0 (w.heap.size ≤ gb327) := bz_ hg; have GE327 : Aside0 (w.heap.size ≤ gb327) := bz_ hg; have NB307_327 : Aside0 (gb307 ≠ gb327) := bl_ BK307 hg; have NB327_307 : Aside0 (gb327 ≠ gb307) := bg_ BK307 hg; have NB308_327 : Aside0 (gb308 ≠ gb327) := bl_ BK308 hg; have NB327_308 : Aside0 (gb327 ≠ gb308) := bg_ BK308 hg; replace HO_8 := rb_ HO_8 hb; replace BK307 := bb_ BK307 hb; replace BK308 := bb_ BK308 hb; replace HB := bs_ HB hb; clear hb hbox hg; have hnb55 := NB327_307.out; have hnc55 := NB307_327.out; have hnb56 := NB327_308.out; have hnc56 := NB308_327.out; have hcz57_0 : w54.cell? ⟨gb327, 0, none⟩ = some (.string (⟨#[]⟩ : ByteArray)) := bc_ BK327 0; have hcz57_1 : w54.cell? ⟨gb327, 1, none⟩ = some (.string (⟨#[]⟩ : ByteArray)) := bc_ BK327 1; have hcz57_2 : w54.cell? ⟨gb327, 2, none⟩ = some (.int .i64 0) := bc_ BK327 2; have hfz57_0 := blk_frozen BK327.out 0; have hfz57_1 := blk_frozen BK327.out 1; have hfz57_2 := blk_frozen BK327.out 2) | ((with_reducible refine gate_callee (f := 62) rfl ?_); refine goesL_ (some 67) rfl rfl Tryd.func62 (by kernel_rfl) rfl #[.string ((rd_T88 l0_0 x61_4).f0), .string (⟨#[115]⟩ : ByteArray), .int .i64 1000000] rfl (by (try simp only [List.map_toArray, List.map_cons, List.map_nil]); first | done | rfl | (simp only [List.length_drop, List.length_take]; rfl)) ?_; (with_reducible refine (impl_numberOf.calls ((rd_T88 l0_0 x61_4).f0) (⟨#[115]⟩ : ByteArray) 1000000 t328 _ (tab22 HT HB) A44.out).mono ?_); rintro e w58 ⟨rfl, hb⟩; refine ⟨_, rfl, ?_⟩; replace HO_8 := mk_ (Kd.R_below (by (with_reducible repeat (first | apply Kd.R_alloc | apply Kd.R_drewN | apply Kd.R_drew)); exact (Kd.R_mono (Kd.R_far (p := ⟨gb327, 2, none⟩) (Kd.R_far (p := ⟨gb327, 1, none⟩) (Kd.R_far (p := ⟨gb327, 0, none⟩) (Kd.R_types HO_8.out BK327.out (by decide)) (fun _ hk => hk.2) (.string ((rd_T88 l0_0 x61_4).f0))) (fun _ hk => hk.2) (.string ((rd_T88 l0_0 x61_4).f1))) (fun _ hk => hk.2) (.int .i64 ((rd_T88 l0_0 x61_4).f2))) (fun _ h_ => h_.1))) hb); replace BK307 := mk_ (blk_below (g := gb307) (o := .cells #[.slice (some ad326) l0_0.length c0_0] 51 (0, 0)) (by (with_reducible repeat (first | refine blk_drewN ?_ _ | refine blk_drew ?_ | refine blk_alloc ?_ _)); refine blk_far ?_ NB307_327.out _; (with_reducible repeat (first | refine blk_drewN ?_ _ | refine blk_drew ?_ | refine blk_alloc ?_ _)); refine blk_far ?_ NB307_327.out _; (with_reducible repeat (first | refine blk_drewN ?_ _ | refine blk_drew ?_ | refine blk_alloc ?_ _)); refine blk_far ?_ NB307_327.out _; (with_reducible repeat (first | refine blk_drewN ?_ _ | refine blk_drew ?_ | refine blk_alloc ?_ _)); exact BK307.out) hb); replace BK308 := mk_ (blk_below (g := gb308) (o := .cells #[.int .i64 a1_0, .int .i64 a1_1, .slice A1_2 l1_2.length c1_2, .string a1_3] 53 (0, 0)) (by (with_reducible repeat (first | refine blk_drewN ?_ _ | refine blk_drew ?_ | refine blk_alloc ?_ _)); refine blk_far ?_ NB308_327.out _; (with_reducible repeat (first | refine blk_drewN ?_ _ | refine blk_drew ?_ | refine blk_alloc ?_ _)); refine blk_far ?_ NB308_327.out _; (with_reducible repeat (first | refine blk_drewN ?_ _ | refine blk_drew ?_ | refine blk_alloc ?_ _)); refine blk_far ?_ NB308_327.out _; (with_reducible repeat (first | refine blk_drewN ?_ _ | refine blk_drew ?_ | refine blk_alloc ?_ _)); exact BK308.out) hb); replace BK327 := mk_ (blk_below (g := gb327) (o := .cells #[.string ((rd_T88 l0_0 x61_4).f0), .string ((rd_T88 l0_0 x61_4).f1), .int .i64 ((rd_T88 l0_0 x61_4).f2)] 88 (0, 0)) (by (with_reducible repeat (first | refine blk_drewN ?_ _ | refine blk_drew ?_ | refine blk_alloc ?_ _)); refine blk_put (cs := #[.string ((rd_T88 l0_0 x61_4).f0), .string ((rd_T88 l0_0 x61_4).f1), .int .i64 0]) ?_ 2 _ rfl; (with_reducible repeat (first | refine blk_drewN ?_ _ | refine blk_drew ?_ | refine blk_alloc ?_ _)); refine blk_put (cs := #[.string ((rd_T88 l0_0 x61_4).f0), .string (⟨#[]⟩ : ByteArray), .int .i64 0]) ?_ 1 _ rfl; (with_reducible repeat (first | refine blk_drewN ?_ _ | refine blk_drew ?_ | refine blk_alloc ?_ _)); refine blk_put (cs := #[.string (⟨#[]⟩ : ByteArray), .string (⟨#[]⟩ : ByteArray), .int .i64 0]) ?_ 0 _ rfl; (with_reducible repeat (first | refine blk_drewN ?_ _ | refine blk_drew ?_ | refine blk_alloc ?_ _)); exact BK327.out) hb); replace HB := bs_ HB hb; (try clear hb); (try clear hk); have hcz59_0 : w58.cell? ⟨gb327, 0, none⟩ = some (.string ((rd_T88 l0_0 x61_4).f0)) := bc_ BK327 0; have hcz59_1 : w58.cell? ⟨gb327, 1, none⟩ = some (.string ((rd_T88 l0_0 x61_4).f1)) := bc_ BK327 1; have hcz59_2 : w58.cell? ⟨gb327, 2, none⟩ = some (.int .i64 ((rd_T88 l0_0 x61_4).f2)) := bc_ BK327 2; have hfz59_0 := blk_frozen BK327.out 0; have hfz59_1 := blk_frozen BK327.out 1; have hfz59_2 := blk_frozen BK327.out 2) | ((with_reducible refine gate_builtin (b := .append) (xs := #[.tmp 75, .tmp 79]) rfl ?_); at_builtin; refine Kd.R_append k82 (w0 := w) w.heap.size rfl (.tmp 75) (.tmp 79) 46 82 (.agg #[(.int .i64 0), (.string ⟨#[]⟩), (.string ⟨#[]⟩), (.string ⟨#[]⟩)]) 56 rfl Tryd.underlying46 info82 rfl (by decide) (by omega) u8 x8_4 (⟨4, (rd_T88 l0_0 x61_4).f0, (⟨#[]⟩ : ByteArray), (⟨#[]⟩ : ByteArray)⟩ : S82) [.int .i64 4, .string ((rd_T88 l0_0 x61_4).f0), .string (⟨#[]⟩ : ByteArray), .string (⟨#[]⟩ : ByteArray)] (fun _ => True) (fun _ => False) rfl rfl ?aP (fun _ hk => hk.elim) ?aF ?aO ?aB ?aS ?aL ?_; (case aP => exact k82_mkM _ _ _ (⟨4, (rd_T88 l0_0 x61_4).f0, (⟨#[]⟩ : ByteArray), (⟨#[]⟩ : ByteArray)⟩ : S82)); (case aB => exact (bw_ HB)); (case aF => exact (fun _ _ => trivial)); (case aO => exact (rp_ HO_8)); (case aS => exact (below_size (bw_ HB))); (case aL => have := LMc53.out; omega); intro v330 w60 ho hb hg hat; rw [← Ny329.out] at ho; have HO331 := mk_ (ho); replace BK307 := mk_ (blk_grown (g := gb307) (o := .cells #[.slice (some ad326) l0_0.length c0_0] 51 (0, 0)) (bp_ BK307) hg (Kd.R_ne HO_8.out BK307.out (by decide))); replace BK308 := mk_ (blk_grown (g := gb308) (o := .cells #[.int .i64 a1_0, .int .i64 a1_1, .slice A1_2 l1_2.length c1_2, .string a1_3] 53 (0, 0)) (bp_ BK308) hg (Kd.R_ne HO_8.out BK308.out (by decide))); replace BK327 := mk_ (blk_grown (g := gb327) (o := .cells #[.string ((rd_T88 l0_0 x61_4).f0), .string ((rd_T88 l0_0 x61_4).f1), .int .i64 ((rd_T88 l0_0 x61_4).f2)] 88 (0, 0)) (bp_ BK327) hg (Kd.R_ne HO_8.out BK327.out (by decide))); replace HB := mk_ (hb); clear HO_8; clear ho hb hg hat))
                  go_roundg k4
                  case measure => have := HJ3.out; have := HJ16.out; have := HK3.out; have := HK4.out; omega
                  case rel => exact ⟨(y329), (wrap64 (x61_4 + 1)), (by first | rfl | (simp; done) | (simp [*]; done)), H', ⟨by have := HJ3.out; have := HJ16.out; have := HK3.out; have := HK4.out; omega⟩, ⟨by (with_reducible repeat (first | apply Kd.R_alloc | apply Kd.R_drewN | apply Kd.R_drew)); exact HO331.out⟩, ⟨by (with_reducible repeat (first | refine blk_drewN ?_ _ | refine blk_drew ?_ | refine blk_alloc ?_ _)); exact BK307.out⟩, ⟨by (with_reducible repeat (first | refine blk_drewN ?_ _ | refine blk_drew ?_ | refine blk_alloc ?_ _)); exact BK308.out⟩, ⟨by repeat (first | (with_reducible first | exact HB.out | apply below_alloc | apply pw_below_drewN | apply below_drew1 | refine below_set ?_ GE307.out | refine below_set ?_ GE308.out | refine below_set ?_ GE327.out) | exact HB.out)⟩⟩
                 ·rw [if_neg c53] at H
                  exact absurd H (by simp)
               ·rw [if_neg c45] at H
                have c45b0 : decide (0 ≤ t328) = false := decide_eq_false c45
                clear c45
                have H' := Aside0.mk H
                clear H
                have p326 : 0 ≤ (x61_4 : Int) := of_decide_eq_true (by first | (with_reducible assumption) | assumption)
                have q326 : x61_4 < (l0_0.length : Int) := of_decide_eq_true (by first | (with_reducible assumption) | assumption)
                obtain ⟨ad326, e326, hx326_0, hx326_1, hx326_2⟩ := at_T88 HR0_0.out x61_4 p326 q326
                cases e326
                replace hx326_0 := (HB.out.cell (World.block_lt_of_cell? w _ hx326_0)).trans hx326_0
                replace hx326_1 := (HB.out.cell (World.block_lt_of_cell? w _ hx326_1)).trans hx326_1
                replace hx326_2 := (HB.out.cell (World.block_lt_of_cell? w _ hx326_2)).trans hx326_2
                replace p326 := eq_true p326
                replace q326 := eq_true q326
                go_wp2_with (first | ((with_reducible refine gate_dst (N := 12) rfl ?_); refine box_event ?hg (N := 12) ?hd (cs := #[.string (⟨#[]⟩ : ByteArray), .string (⟨#[]⟩ : ByteArray), .int .i64 0]) (t := 88) ?hr ?_; (case hd => rfl); (case hg => rfl); (case hr => first | (go_simp; done) | (go_simp; rfl)); intro gb327 hg w61 hbox hb; have BK327 := mk_ (hbox); have GW327 : Aside0 (w.heap.size ≤ gb327) := bz_ hg; have GE327 : Aside0 (w.heap.size ≤ gb327) := bz_ hg; have NB307_327 : Aside0 (gb307 ≠ gb327) := bl_ BK307 hg; have NB327_307 : Aside0 (gb327 ≠ gb307) := bg_ BK307 hg; have NB308_327 : Aside0 (gb308 ≠ gb327) := bl_ BK308 hg; have NB327_308 : Aside0 (gb327 ≠ gb308) := bg_ BK308 hg; replace HO_8 := rb_ HO_8 hb; replace BK307 := bb_ BK307 hb; replace BK308 := bb_ BK308 hb; replace HB := bs_ HB hb; clear hb hbox hg; have hnb62 := NB327_307.out; have hnc62 := NB307_327.out; have hnb63 := NB327_308.out; have hnc63 := NB308_327.out; have hcz64_0 : w61.cell? ⟨gb327, 0, none⟩ = some (.string (⟨#[]⟩ : ByteArray)) := bc_ BK327 0; have hcz64_1 : w61.cell? ⟨gb327, 1, none⟩ = some (.string (⟨#[]⟩ : ByteArray)) := bc_ BK327 1; have hcz64_2 : w61.cell? ⟨gb327, 2, none⟩ = some (.int .i64 0) := bc_ BK327 2; have hfz64_0 := blk_frozen BK327.out 0; have hfz64_1 := blk_frozen BK327.out 1; have hfz64_2 := blk_frozen BK327.out 2) | ((with_reducible refine gate_callee (f := 62) rfl ?_); refine goesL_ (some 67) rfl rfl Tryd.func62 (by kernel_rfl) rfl #[.string ((rd_T88 l0_0 x61_4).f0), .string (⟨#[115]⟩ : ByteArray), .int .i64 1000000] rfl (by (try simp only [List.map_toArray, List.map_cons, List.map_nil]); first | done | rfl | (simp only [List.length_drop, List.length_take]; rfl)) ?_; (with_reducible refine (impl_numberOf.calls ((rd_T88 l0_0 x61_4).f0) (⟨#[115]⟩ : ByteArray) 1000000 t328 _ (tab22 HT HB) A44.out).mono ?_); rintro e w65 ⟨rfl, hb⟩; refine ⟨_, rfl, ?_⟩; replace HO_8 := mk_ (Kd.R_below (by (with_reducible repeat (first | apply Kd.R_alloc | apply Kd.R_drewN | apply Kd.R_drew)); exact (Kd.R_mono (Kd.R_far (p := ⟨gb327, 2, none⟩) (Kd.R_far (p := ⟨gb327, 1, none⟩) (Kd.R_far (p := ⟨gb327, 0, none⟩) (Kd.R_types HO_8.out BK327.out (by decide)) (fun _ hk => hk.2) (.string ((rd_T88 l0_0 x61_4).f0))) (fun _ hk => hk.2) (.string ((rd_T88 l0_0 x61_4).f1))) (fun _ hk => hk.2) (.int .i64 ((rd_T88 l0_0 x61_4).f2))) (fun _ h_ => h_.1))) hb); replace BK307 := mk_ (blk_below (g := gb307) (o := .cells #[.slice (some ad326) l0_0.length c0_0] 51 (0, 0)) (by (with_reducible repeat (first | refine blk_drewN ?_ _ | refine blk_drew ?_ | refine blk_alloc ?_ _)); refine blk_far ?_ NB307_327.out _; (with_reducible repeat (first | refine blk_drewN ?_ _ | refine blk_drew ?_ | refine blk_alloc ?_ _)); refine blk_far ?_ NB307_327.out _; (with_reducible repeat (first | refine blk_drewN ?_ _ | refine blk_drew ?_ | refine blk_alloc ?_ _)); refine blk_far ?_ NB307_327.out _; (with_reducible repeat (first | refine blk_drewN ?_ _ | refine blk_drew ?_ | refine blk_alloc ?_ _)); exact BK307.out) hb); replace BK308 := mk_ (blk_below (g := gb308) (o := .cells #[.int .i64 a1_0, .int .i64 a1_1, .slice A1_2 l1_2.length c1_2, .string a1_3] 53 (0, 0)) (by (with_reducible repeat (first | refine blk_drewN ?_ _ | refine blk_drew ?_ | refine blk_alloc ?_ _)); refine blk_far ?_ NB308_327.out _; (with_reducible repeat (first | refine blk_drewN ?_ _ | refine blk_drew ?_ | refine blk_alloc ?_ _)); refine blk_far ?_ NB308_327.out _; (with_reducible repeat (first | refine blk_drewN ?_ _ | refine blk_drew ?_ | refine blk_alloc ?_ _)); refine blk_far ?_ NB308_327.out _; (with_reducible repeat (first | refine blk_drewN ?_ _ | refine blk_drew ?_ | refine blk_alloc ?_ _)); exact BK308.out) hb); replace BK327 := mk_ (blk_below (g := gb327) (o := .cells #[.string ((rd_T88 l0_0 x61_4).f0), .string ((rd_T88 l0_0 x61_4).f1), .int .i64 ((rd_T88 l0_0 x61_4).f2)] 88 (0, 0)) (by (with_reducible repeat (first | refine blk_drewN ?_ _ | refine blk_drew ?_ | refine blk_alloc ?_ _)); refine blk_put (cs := #[.string ((rd_T88 l0_0 x61_4).f0), .string ((rd_T88 l0_0 x61_4).f1), .int .i64 0]) ?_ 2 _ rfl; (with_reducible repeat (first | refine blk_drewN ?_ _ | refine blk_drew ?_ | refine blk_alloc ?_ _)); refine blk_put (cs := #[.string ((rd_T88 l0_0 x61_4).f0), .string (⟨#[]⟩ : ByteArray), .int .i64 0]) ?_ 1 _ rfl; (with_reducible repeat (first | refine blk_drewN ?_ _ | refine blk_drew ?_ | refine blk_alloc ?_ _)); refine blk_put (cs := #[.string (⟨#[]⟩ : ByteArray), .string (⟨#[]⟩ : ByteArray), .int .i64 0]) ?_ 0 _ rfl; (with_reducible repeat (first | refine blk_drewN ?_ _ | refine blk_drew ?_ | refine blk_alloc ?_ _)); exact BK327.out) hb); replace HB := bs_ HB hb; (try clear hb); (try clear hk)))
                go_roundg k4
                case measure => have := HJ3.out; have := HJ16.out; have := HK3.out; have := HK4.out; omega
                case rel => exact ⟨(x8_4), (wrap64 (x61_4 + 1)), (by first | rfl | (simp; done) | (simp [*]; done)), H', ⟨by have := HJ3.out; have := HJ16.out; have := HK3.out; have := HK4.out; omega⟩, ⟨by (with_reducible repeat (first | apply Kd.R_alloc | apply Kd.R_drewN | apply Kd.R_drew)); exact HO_8.out⟩, ⟨by (with_reducible repeat (first | refine blk_drewN ?_ _ | refine blk_drew ?_ | refine blk_alloc ?_ _)); exact BK307.out⟩, ⟨by (with_reducible repeat (first | refine blk_drewN ?_ _ | refine blk_drew ?_ | refine blk_alloc ?_ _)); exact BK308.out⟩, ⟨by repeat (first | (with_reducible first | exact HB.out | apply below_alloc | apply pw_below_drewN | apply below_drew1 | refine below_set ?_ GE307.out | refine below_set ?_ GE308.out | refine below_set ?_ GE327.out) | exact HB.out)⟩⟩
              ·rw [if_neg c43] at H
               exact absurd H (by simp)
             ·rw [if_neg c42] at H
              exact absurd H (by simp)
            ·rw [if_neg c41] at H
             have c41b0 : decide (x61_4 < (l0_0.length : Int)) = false := decide_eq_false c41
             clear c41
             simp only [Option.some.injEq, Prod.mk.injEq] at H
             obtain ⟨rfl, rfl⟩ := H
             go_wp2
             go_ret2
             exact ⟨_, by first | rfl | (simp [errW_none, errW_some] <;> rfl) | (simp [*, errW_none, errW_some] <;> rfl), by (with_reducible repeat (first | apply Kd.R_alloc | apply Kd.R_drewN | apply Kd.R_drew)); exact HO_8.out, by repeat (first | (with_reducible first | exact HB.out | apply below_alloc | apply pw_below_drewN | apply below_drew1 | refine below_set ?_ GE307.out | refine below_set ?_ GE308.out) | exact HB.out)⟩
         ·rw [if_neg c32] at H
          exact absurd H (by simp)

/-! ### laws_eqAct: function 63 -/
def laws_eqAct.f (a0_0 : Int) (a0_1 : ByteArray) (a0_2 : ByteArray) (a0_3 : ByteArray) (a1_0 : Int) (a1_1 : ByteArray) (a1_2 : ByteArray) (a1_3 : ByteArray) : Option (Bool) := if a0_0 = a1_0 then (if a0_1.toList = a1_1.toList then (if a0_2.toList = a1_2.toList then (if a0_3.toList = a1_3.toList then (some true) else (some false)) else (some false)) else (some false)) else (some false)
set_option maxHeartbeats 8000000 in
set_option maxRecDepth 100000 in
theorem laws_eqAct.calls (a0_0 : Int) (a0_1 : ByteArray) (a0_2 : ByteArray) (a0_3 : ByteArray) (a1_0 : Int) (a1_1 : ByteArray) (a1_2 : ByteArray) (a1_3 : ByteArray) (r : Bool) (w : World) (h : laws_eqAct.f a0_0 a0_1 a0_2 a0_3 a1_0 a1_1 a1_2 a1_3 = some r) :
  Calls Tryd.prog 63 #[.agg #[.int .i64 a0_0, .string a0_1, .string a0_2, .string a0_3], .agg #[.int .i64 a1_0, .string a1_1, .string a1_2, .string a1_3]] w fun e w' => e = .returned (.bool r) ∧ Below w.heap.size w w' := by
 have hu82 := Tryd.underlying82
 have HB := mk_ (Below.refl w.heap.size w)
 have H : (if a0_0 = a1_0 then (if a0_1.toList = a1_1.toList then (if a0_2.toList = a1_2.toList then (if a0_3.toList = a1_3.toList then (some true) else (some false)) else (some false)) else (some false)) else (some false)) = some r := h
 clear h
 by_cases c3 : a0_0 = a1_0
 ·rw [if_pos c3] at H
  have c3b0 : (a0_0 == a1_0) = true := beq_iff_eq.mpr c3
  have c3b1 : (a0_0 != a1_0) = false := bne_eq_false_iff_eq.mpr c3
  clear c3
  by_cases c4 : a0_1.toList = a1_1.toList
  ·rw [if_pos c4] at H
   have c4b0 : (a0_1.toList == a1_1.toList) = true := beq_iff_eq.mpr c4
   have c4b1 : (a0_1.toList != a1_1.toList) = false := bne_eq_false_iff_eq.mpr c4
   clear c4
   by_cases c5 : a0_2.toList = a1_2.toList
   ·rw [if_pos c5] at H
    have c5b0 : (a0_2.toList == a1_2.toList) = true := beq_iff_eq.mpr c5
    have c5b1 : (a0_2.toList != a1_2.toList) = false := bne_eq_false_iff_eq.mpr c5
    clear c5
    by_cases c6 : a0_3.toList = a1_3.toList
    ·rw [if_pos c6] at H
     have c6b0 : (a0_3.toList == a1_3.toList) = true := beq_iff_eq.mpr c6
     have c6b1 : (a0_3.toList != a1_3.toList) = false := bne_eq_false_iff_eq.mpr c6
     clear c6
     obtain rfl := Option.some.inj H
     go_enter Tryd.func63, Tryd.ntmps63
     go_wp2_with (first | ((with_reducible refine gate_dst (N := 2) rfl ?_); refine box_event ?hg (N := 2) ?hd (cs := #[.int .i64 a0_0, .string a0_1, .string a0_2, .string a0_3]) (t := 82) ?hr ?_; (case hd => rfl); (case hg => rfl); (case hr => first | (go_simp; done) | (go_simp; rfl)); intro gb332 hg w7 hbox hb; have BK332 := mk_ (hbox); have GW332 : Aside0 (w.heap.size ≤ gb332) := bz_ hg; have GE332 : Aside0 (w.heap.size ≤ gb332) := bz_ hg; replace HB := bs_ HB hb; clear hb hbox hg) | ((with_reducible refine gate_dst (N := 3) rfl ?_); refine box_event ?hg (N := 3) ?hd (cs := #[.int .i64 a1_0, .string a1_1, .string a1_2, .string a1_3]) (t := 82) ?hr ?_; (case hd => rfl); (case hg => rfl); (case hr => first | (go_simp; done) | (go_simp; rfl)); intro gb333 hg w8 hbox hb; have BK333 := mk_ (hbox); have GW333 : Aside0 (w.heap.size ≤ gb333) := bz_ hg; have GE333 : Aside0 (w.heap.size ≤ gb333) := bz_ hg; have NB332_333 : Aside0 (gb332 ≠ gb333) := bl_ BK332 hg; have NB333_332 : Aside0 (gb333 ≠ gb332) := bg_ BK332 hg; replace BK332 := bb_ BK332 hb; replace HB := bs_ HB hb; clear hb hbox hg; have hnb9 := NB332_333.out; have hnc9 := NB333_332.out; have hcz10_0 : w8.cell? ⟨gb332, 0, none⟩ = some (.int .i64 a0_0) := bc_ BK332 0; have hcz10_1 : w8.cell? ⟨gb332, 1, none⟩ = some (.string a0_1) := bc_ BK332 1; have hcz10_2 : w8.cell? ⟨gb332, 2, none⟩ = some (.string a0_2) := bc_ BK332 2; have hcz10_3 : w8.cell? ⟨gb332, 3, none⟩ = some (.string a0_3) := bc_ BK332 3; have hfz10_0 := blk_frozen BK332.out 0; have hfz10_1 := blk_frozen BK332.out 1; have hfz10_2 := blk_frozen BK332.out 2; have hfz10_3 := blk_frozen BK332.out 3; have hcz11_0 : w8.cell? ⟨gb333, 0, none⟩ = some (.int .i64 a1_0) := bc_ BK333 0; have hcz11_1 : w8.cell? ⟨gb333, 1, none⟩ = some (.string a1_1) := bc_ BK333 1; have hcz11_2 : w8.cell? ⟨gb333, 2, none⟩ = some (.string a1_2) := bc_ BK333 2; have hcz11_3 : w8.cell? ⟨gb333, 3, none⟩ = some (.string a1_3) := bc_ BK333 3; have hfz11_0 := blk_frozen BK333.out 0; have hfz11_1 := blk_frozen BK333.out 1; have hfz11_2 := blk_frozen BK333.out 2; have hfz11_3 := blk_frozen BK333.out 3))
     go_ret
     exact ⟨by first | rfl | (simp [errW_none, errW_some] <;> rfl) | (simp [*, errW_none, errW_some] <;> rfl), by repeat (first | (with_reducible first | exact HB.out | apply below_alloc | apply pw_below_drewN | apply below_drew1 | refine below_set ?_ GE332.out | refine below_set ?_ GE333.out) | exact HB.out)⟩
    ·rw [if_neg c6] at H
     have c6b0 : (a0_3.toList == a1_3.toList) = false := beq_eq_false_iff_ne.mpr c6
     have c6b1 : (a0_3.toList != a1_3.toList) = true := bne_iff_ne.mpr c6
     obtain rfl := Option.some.inj H
     go_enter Tryd.func63, Tryd.ntmps63
     go_wp2_with (first | ((with_reducible refine gate_dst (N := 2) rfl ?_); refine box_event ?hg (N := 2) ?hd (cs := #[.int .i64 a0_0, .string a0_1, .string a0_2, .string a0_3]) (t := 82) ?hr ?_; (case hd => rfl); (case hg => rfl); (case hr => first | (go_simp; done) | (go_simp; rfl)); intro gb332 hg w12 hbox hb; have BK332 := mk_ (hbox); have GW332 : Aside0 (w.heap.size ≤ gb332) := bz_ hg; have GE332 : Aside0 (w.heap.size ≤ gb332) := bz_ hg; replace HB := bs_ HB hb; clear hb hbox hg) | ((with_reducible refine gate_dst (N := 3) rfl ?_); refine box_event ?hg (N := 3) ?hd (cs := #[.int .i64 a1_0, .string a1_1, .string a1_2, .string a1_3]) (t := 82) ?hr ?_; (case hd => rfl); (case hg => rfl); (case hr => first | (go_simp; done) | (go_simp; rfl)); intro gb333 hg w13 hbox hb; have BK333 := mk_ (hbox); have GW333 : Aside0 (w.heap.size ≤ gb333) := bz_ hg; have GE333 : Aside0 (w.heap.size ≤ gb333) := bz_ hg; have NB332_333 : Aside0 (gb332 ≠ gb333) := bl_ BK332 hg; have NB333_332 : Aside0 (gb333 ≠ gb332) := bg_ BK332 hg; replace BK332 := bb_ BK332 hb; replace HB := bs_ HB hb; clear hb hbox hg; have hnb14 := NB332_333.out; have hnc14 := NB333_332.out; have hcz15_0 : w13.cell? ⟨gb332, 0, none⟩ = some (.int .i64 a0_0) := bc_ BK332 0; have hcz15_1 : w13.cell? ⟨gb332, 1, none⟩ = some (.string a0_1) := bc_ BK332 1; have hcz15_2 : w13.cell? ⟨gb332, 2, none⟩ = some (.string a0_2) := bc_ BK332 2; have hcz15_3 : w13.cell? ⟨gb332, 3, none⟩ = some (.string a0_3) := bc_ BK332 3; have hfz15_0 := blk_frozen BK332.out 0; have hfz15_1 := blk_frozen BK332.out 1; have hfz15_2 := blk_frozen BK332.out 2; have hfz15_3 := blk_frozen BK332.out 3; have hcz16_0 : w13.cell? ⟨gb333, 0, none⟩ = some (.int .i64 a1_0) := bc_ BK333 0; have hcz16_1 : w13.cell? ⟨gb333, 1, none⟩ = some (.string a1_1) := bc_ BK333 1; have hcz16_2 : w13.cell? ⟨gb333, 2, none⟩ = some (.string a1_2) := bc_ BK333 2; have hcz16_3 : w13.cell? ⟨gb333, 3, none⟩ = some (.string a1_3) := bc_ BK333 3; have hfz16_0 := blk_frozen BK333.out 0; have hfz16_1 := blk_frozen BK333.out 1; have hfz16_2 := blk_frozen BK333.out 2; have hfz16_3 := blk_frozen BK333.out 3))
     go_ret
     exact ⟨by first | rfl | (simp [errW_none, errW_some] <;> rfl) | (simp [*, errW_none, errW_some] <;> rfl), by repeat (first | (with_reducible first | exact HB.out | apply below_alloc | apply pw_below_drewN | apply below_drew1 | refine below_set ?_ GE332.out | refine below_set ?_ GE333.out) | exact HB.out)⟩
   ·rw [if_neg c5] at H
    have c5b0 : (a0_2.toList == a1_2.toList) = false := beq_eq_false_iff_ne.mpr c5
    have c5b1 : (a0_2.toList != a1_2.toList) = true := bne_iff_ne.mpr c5
    obtain rfl := Option.some.inj H
    go_enter Tryd.func63, Tryd.ntmps63
    go_wp2_with (first | ((with_reducible refine gate_dst (N := 2) rfl ?_); refine box_event ?hg (N := 2) ?hd (cs := #[.int .i64 a0_0, .string a0_1, .string a0_2, .string a0_3]) (t := 82) ?hr ?_; (case hd => rfl); (case hg => rfl); (case hr => first | (go_simp; done) | (go_simp; rfl)); intro gb332 hg w17 hbox hb; have BK332 := mk_ (hbox); have GW332 : Aside0 (w.heap.size ≤ gb332) := bz_ hg; have GE332 : Aside0 (w.heap.size ≤ gb332) := bz_ hg; replace HB := bs_ HB hb; clear hb hbox hg) | ((with_reducible refine gate_dst (N := 3) rfl ?_); refine box_event ?hg (N := 3) ?hd (cs := #[.int .i64 a1_0, .string a1_1, .string a1_2, .string a1_3]) (t := 82) ?hr ?_; (case hd => rfl); (case hg => rfl); (case hr => first | (go_simp; done) | (go_simp; rfl)); intro gb333 hg w18 hbox hb; have BK333 := mk_ (hbox); have GW333 : Aside0 (w.heap.size ≤ gb333) := bz_ hg; have GE333 : Aside0 (w.heap.size ≤ gb333) := bz_ hg; have NB332_333 : Aside0 (gb332 ≠ gb333) := bl_ BK332 hg; have NB333_332 : Aside0 (gb333 ≠ gb332) := bg_ BK332 hg; replace BK332 := bb_ BK332 hb; replace HB := bs_ HB hb; clear hb hbox hg; have hnb19 := NB332_333.out; have hnc19 := NB333_332.out; have hcz20_0 : w18.cell? ⟨gb332, 0, none⟩ = some (.int .i64 a0_0) := bc_ BK332 0; have hcz20_1 : w18.cell? ⟨gb332, 1, none⟩ = some (.string a0_1) := bc_ BK332 1; have hcz20_2 : w18.cell? ⟨gb332, 2, none⟩ = some (.string a0_2) := bc_ BK332 2; have hcz20_3 : w18.cell? ⟨gb332, 3, none⟩ = some (.string a0_3) := bc_ BK332 3; have hfz20_0 := blk_frozen BK332.out 0; have hfz20_1 := blk_frozen BK332.out 1; have hfz20_2 := blk_frozen BK332.out 2; have hfz20_3 := blk_frozen BK332.out 3; have hcz21_0 : w18.cell? ⟨gb333, 0, none⟩ = some (.int .i64 a1_0) := bc_ BK333 0; have hcz21_1 : w18.cell? ⟨gb333, 1, none⟩ = some (.string a1_1) := bc_ BK333 1; have hcz21_2 : w18.cell? ⟨gb333, 2, none⟩ = some (.string a1_2) := bc_ BK333 2; have hcz21_3 : w18.cell? ⟨gb333, 3, none⟩ = some (.string a1_3) := bc_ BK333 3; have hfz21_0 := blk_frozen BK333.out 0; have hfz21_1 := blk_frozen BK333.out 1; have hfz21_2 := blk_frozen BK333.out 2; have hfz21_3 := blk_frozen BK333.out 3))
    go_ret
    exact ⟨by first | rfl | (simp [errW_none, errW_some] <;> rfl) | (simp [*, errW_none, errW_some] <;> rfl), by repeat (first | (with_reducible first | exact HB.out | apply below_alloc | apply pw_below_drewN | apply below_drew1 | refine below_set ?_ GE332.out | refine below_set ?_ GE333.out) | exact HB.out)⟩
  ·rw [if_neg c4] at H
   have c4b0 : (a0_1.toList == a1_1.toList) = false := beq_eq_false_iff_ne.mpr c4
   have c4b1 : (a0_1.toList != a1_1.toList) = true := bne_iff_ne.mpr c4
   obtain rfl := Option.some.inj H
   go_enter Tryd.func63, Tryd.ntmps63
   go_wp2_with (first | ((with_reducible refine gate_dst (N := 2) rfl ?_); refine box_event ?hg (N := 2) ?hd (cs := #[.int .i64 a0_0, .string a0_1, .string a0_2, .string a0_3]) (t := 82) ?hr ?_; (case hd => rfl); (case hg => rfl); (case hr => first | (go_simp; done) | (go_simp; rfl)); intro gb332 hg w22 hbox hb; have BK332 := mk_ (hbox); have GW332 : Aside0 (w.heap.size ≤ gb332) := bz_ hg; have GE332 : Aside0 (w.heap.size ≤ gb332) := bz_ hg; replace HB := bs_ HB hb; clear hb hbox hg) | ((with_reducible refine gate_dst (N := 3) rfl ?_); refine box_event ?hg (N := 3) ?hd (cs := #[.int .i64 a1_0, .string a1_1, .string a1_2, .string a1_3]) (t := 82) ?hr ?_; (case hd => rfl); (case hg => rfl); (case hr => first | (go_simp; done) | (go_simp; rfl)); intro gb333 hg w23 hbox hb; have BK333 := mk_ (hbox); have GW333 : Aside0 (w.heap.size ≤ gb333) := bz_ hg; have GE333 : Aside0 (w.heap.size ≤ gb333) := bz_ hg; have NB332_333 : Aside0 (gb332 ≠ gb333) := bl_ BK332 hg; have NB333_332 : Aside0 (gb333 ≠ gb332) := bg_ BK332 hg; replace BK332 := bb_ BK332 hb; replace HB := bs_ HB hb; clear hb hbox hg; have hnb24 := NB332_333.out; have hnc24 := NB333_332.out; have hcz25_0 : w23.cell? ⟨gb332, 0, none⟩ = some (.int .i64 a0_0) := bc_ BK332 0; have hcz25_1 : w23.cell? ⟨gb332, 1, none⟩ = some (.string a0_1) := bc_ BK332 1; have hcz25_2 : w23.cell? ⟨gb332, 2, none⟩ = some (.string a0_2) := bc_ BK332 2; have hcz25_3 : w23.cell? ⟨gb332, 3, none⟩ = some (.string a0_3) := bc_ BK332 3; have hfz25_0 := blk_frozen BK332.out 0; have hfz25_1 := blk_frozen BK332.out 1; have hfz25_2 := blk_frozen BK332.out 2; have hfz25_3 := blk_frozen BK332.out 3; have hcz26_0 : w23.cell? ⟨gb333, 0, none⟩ = some (.int .i64 a1_0) := bc_ BK333 0; have hcz26_1 : w23.cell? ⟨gb333, 1, none⟩ = some (.string a1_1) := bc_ BK333 1; have hcz26_2 : w23.cell? ⟨gb333, 2, none⟩ = some (.string a1_2) := bc_ BK333 2; have hcz26_3 : w23.cell? ⟨gb333, 3, none⟩ = some (.string a1_3) := bc_ BK333 3; have hfz26_0 := blk_frozen BK333.out 0; have hfz26_1 := blk_frozen BK333.out 1; have hfz26_2 := blk_frozen BK333.out 2; have hfz26_3 := blk_frozen BK333.out 3))
   go_ret
   exact ⟨by first | rfl | (simp [errW_none, errW_some] <;> rfl) | (simp [*, errW_none, errW_some] <;> rfl), by repeat (first | (with_reducible first | exact HB.out | apply below_alloc | apply pw_below_drewN | apply below_drew1 | refine below_set ?_ GE332.out | refine below_set ?_ GE333.out) | exact HB.out)⟩
 ·rw [if_neg c3] at H
  have c3b0 : (a0_0 == a1_0) = false := beq_eq_false_iff_ne.mpr c3
  have c3b1 : (a0_0 != a1_0) = true := bne_iff_ne.mpr c3
  obtain rfl := Option.some.inj H
  go_enter Tryd.func63, Tryd.ntmps63
  go_wp2_with (first | ((with_reducible refine gate_dst (N := 2) rfl ?_); refine box_event ?hg (N := 2) ?hd (cs := #[.int .i64 a0_0, .string a0_1, .string a0_2, .string a0_3]) (t := 82) ?hr ?_; (case hd => rfl); (case hg => rfl); (case hr => first | (go_simp; done) | (go_simp; rfl)); intro gb332 hg w27 hbox hb; have BK332 := mk_ (hbox); have GW332 : Aside0 (w.heap.size ≤ gb332) := bz_ hg; have GE332 : Aside0 (w.heap.size ≤ gb332) := bz_ hg; replace HB := bs_ HB hb; clear hb hbox hg) | ((with_reducible refine gate_dst (N := 3) rfl ?_); refine box_event ?hg (N := 3) ?hd (cs := #[.int .i64 a1_0, .string a1_1, .string a1_2, .string a1_3]) (t := 82) ?hr ?_; (case hd => rfl); (case hg => rfl); (case hr => first | (go_simp; done) | (go_simp; rfl)); intro gb333 hg w28 hbox hb; have BK333 := mk_ (hbox); have GW333 : Aside0 (w.heap.size ≤ gb333) := bz_ hg; have GE333 : Aside0 (w.heap.size ≤ gb333) := bz_ hg; have NB332_333 : Aside0 (gb332 ≠ gb333) := bl_ BK332 hg; have NB333_332 : Aside0 (gb333 ≠ gb332) := bg_ BK332 hg; replace BK332 := bb_ BK332 hb; replace HB := bs_ HB hb; clear hb hbox hg; have hnb29 := NB332_333.out; have hnc29 := NB333_332.out; have hcz30_0 : w28.cell? ⟨gb332, 0, none⟩ = some (.int .i64 a0_0) := bc_ BK332 0; have hcz30_1 : w28.cell? ⟨gb332, 1, none⟩ = some (.string a0_1) := bc_ BK332 1; have hcz30_2 : w28.cell? ⟨gb332, 2, none⟩ = some (.string a0_2) := bc_ BK332 2; have hcz30_3 : w28.cell? ⟨gb332, 3, none⟩ = some (.string a0_3) := bc_ BK332 3; have hfz30_0 := blk_frozen BK332.out 0; have hfz30_1 := blk_frozen BK332.out 1; have hfz30_2 := blk_frozen BK332.out 2; have hfz30_3 := blk_frozen BK332.out 3; have hcz31_0 : w28.cell? ⟨gb333, 0, none⟩ = some (.int .i64 a1_0) := bc_ BK333 0; have hcz31_1 : w28.cell? ⟨gb333, 1, none⟩ = some (.string a1_1) := bc_ BK333 1; have hcz31_2 : w28.cell? ⟨gb333, 2, none⟩ = some (.string a1_2) := bc_ BK333 2; have hcz31_3 : w28.cell? ⟨gb333, 3, none⟩ = some (.string a1_3) := bc_ BK333 3; have hfz31_0 := blk_frozen BK333.out 0; have hfz31_1 := blk_frozen BK333.out 1; have hfz31_2 := blk_frozen BK333.out 2; have hfz31_3 := blk_frozen BK333.out 3))
  go_ret
  exact ⟨by first | rfl | (simp [errW_none, errW_some] <;> rfl) | (simp [*, errW_none, errW_some] <;> rfl), by repeat (first | (with_reducible first | exact HB.out | apply below_alloc | apply pw_below_drewN | apply below_drew1 | refine below_set ?_ GE332.out | refine below_set ?_ GE333.out) | exact HB.out)⟩

end Go.Proofs.YtgnmlgoadkhceaaDoor.QFnExactSnapActs
