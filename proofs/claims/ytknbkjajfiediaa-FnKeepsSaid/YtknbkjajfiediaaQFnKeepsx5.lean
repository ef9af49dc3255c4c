/- Written by this session's own program (wip/tpl/pp.py): what the law's functions come to, and that the machine's calls do just that. -/
import Derived.Test.YtknbkjajfiediaaQFnKeepsx0
import Derived.Test.YtknbkjajfiediaaQFnKeepsx1
import Derived.Test.YtknbkjajfiediaaQFnKeepsx4
namespace Go.Proofs.Ytknbkjajfiediaa.QFnKeeps
open Go.RowKit Go.Proofs.YtknbkjajfiediaaW.PrintWords Go.Proofs.YtknbkjajfiediaaW.PrintLast Go.Proofs.YtknbkjajfiediaaW.PrintMore
attribute [local go_sem] Go.Proofs.Ytknbkjajfiediaa.Sem.string_geq Go.Proofs.Ytknbkjajfiediaa.Sem.string_leq Go.Proofs.Ytknbkjajfiediaa.Sem.string_gtr
attribute [local go_sem] max2_int min2_int max_two min_two max_three min_three max_four min_four   -- for this text's walks alone
set_option linter.unusedVariables false
set_option linter.unusedSimpArgs false

attribute [local go_sem high] eqA60
/-! ### impl_LoseDisk: function 31 -/
def impl_LoseDisk.one (x : S60) (n : Int) : S60 := ⟨x.f0, x.f1.extract 0 (max x.f2 (min n (x.f1.size : Int))).toNat, max x.f2 (min n (x.f1.size : Int))⟩
def impl_LoseDisk.row : List S60 → List Int → List S60
  | [], _ => []
  | x :: l, [] => impl_LoseDisk.one x 0 :: impl_LoseDisk.row l []
  | x :: l, n :: r => impl_LoseDisk.one x n :: impl_LoseDisk.row l r
theorem impl_LoseDisk.row_length : ∀ (l : List S60) (r : List Int), (impl_LoseDisk.row l r).length = l.length
  | [], _ => rfl
  | x :: l, [] => by simp only [impl_LoseDisk.row, List.length_cons, impl_LoseDisk.row_length l []]
  | x :: l, n :: r => by simp only [impl_LoseDisk.row, List.length_cons, impl_LoseDisk.row_length l r]
theorem impl_LoseDisk.row_get : ∀ (l : List S60) (r : List Int) (j : Nat) (h : j < (impl_LoseDisk.row l r).length) (h' : j < l.length), (impl_LoseDisk.row l r)[j] = impl_LoseDisk.one l[j] (r.getD j 0)
  | x :: l, [], 0, _, _ => rfl
  | x :: l, n :: r, 0, _, _ => rfl
  | x :: l, [], j + 1, h, h' => by
    simp only [impl_LoseDisk.row, List.getElem_cons_succ]
    rw [impl_LoseDisk.row_get l [] j (by simpa [impl_LoseDisk.row] using h) (by simpa using h')]; rfl
  | x :: l, n :: r, j + 1, h, h' => by
    simp only [impl_LoseDisk.row, List.getElem_cons_succ]
    rw [impl_LoseDisk.row_get l r j (by simpa [impl_LoseDisk.row] using h) (by simpa using h')]; rfl
theorem impl_LoseDisk.row_step (l1 : List Int) (l : List S60) (j : Nat) (h : j < l.length) :
    ((impl_LoseDisk.row l l1).take j ++ l.drop j).set j (impl_LoseDisk.one l[j] (l1.getD j 0)) = (impl_LoseDisk.row l l1).take (j + 1) ++ l.drop (j + 1) := by
  have hl := impl_LoseDisk.row_length l l1
  have hj : j < (impl_LoseDisk.row l l1).length := by omega
  rw [List.set_append_right _ _ (by simp [List.length_take]; omega)]
  have e : j - ((impl_LoseDisk.row l l1).take j).length = 0 := by simp [List.length_take]; omega
  rw [e, List.drop_eq_getElem_cons h, List.set_cons_zero, List.take_succ_eq_append_getElem hj, List.append_assoc, impl_LoseDisk.row_get l l1 j hj h]
  simp
theorem impl_LoseDisk.row_rd (l1 : List Int) (l : List S60) (j : Nat) (h : j < l.length) : rd_T60 ((impl_LoseDisk.row l l1).take j ++ l.drop j) (j : Int) = l[j] := by
  have hl := impl_LoseDisk.row_length l l1
  unfold rd_T60
  rw [Int.toNat_natCast, List.getD_eq_getElem?_getD, List.getElem?_append_right (by simp [List.length_take]; omega)]
  have e : j - ((impl_LoseDisk.row l l1).take j).length = 0 := by simp [List.length_take]; omega
  rw [e, List.getElem?_drop]; simp [h]
def impl_LoseDisk.okr (l : List S60) : Bool := l.all fun x => decide (0 ≤ x.f2 ∧ x.f2 ≤ (x.f1.size : Int) ∧ (x.f1.size : Int) ≤ 1000000000)
set_option maxHeartbeats 8000000 in
set_option maxRecDepth 100000 in
theorem impl_LoseDisk.yes (k : Nat) (A0_0 : Option Addr) (c0_0 : Nat) (l0_0 : List S60) (A1 : Option Addr) (c1 : Nat) (l1 : List Int) (w : World) (hr0_0 : Kd.C k60 w A0_0 l0_0.length l0_0) (hc0_0 : l0_0.length ≤ c0_0) (hr1 : Kd.C (Kd.int .i64) w A1 l1.length l1) (hc1 : l1.length ≤ c1)
    (ht : impl_DiskOk.f k l0_0 = some true) (hlen : l0_0.length < 3518437208883) (hok : impl_LoseDisk.okr l0_0 = true) :
    Calls Try.prog 31 #[.agg #[.slice A0_0 l0_0.length c0_0], .slice A1 l1.length c1] w fun e w' => ∃ v0_ : Value, e = .returned (.tuple #[.agg #[v0_], .bool true]) ∧ Kd.R k60 60 w' w.heap.size (fun _ => True) v0_ (impl_LoseDisk.row l0_0 l1) ∧ Below w.heap.size w w' := by
  have hu52 := Try.underlying52
  have hu60 := Try.underlying60
  have HR := Aside0.mk hr0_0
  have HC := Aside0.mk hc0_0
  have HR1 := Aside0.mk hr1
  have HC1 := Aside0.mk hc1
  have HT := Aside0.mk ht
  have HL := Aside0.mk hlen
  have HK := Aside0.mk hok
  have HCP : Aside0 (impl_copyDisk.f l0_0 = some l0_0) := Aside0.mk (by unfold impl_copyDisk.f; rw [if_pos (by simpa using hlen)]; rfl)
  clear hr0_0 hc0_0 hr1 hc1 ht hlen hok
  have HB := Aside0.mk (Below.refl w.heap.size w)
  go_enter Try.func31, Try.ntmps31
  go_wp2_with (first
    | ((with_reducible refine gate_dst (N := 2) rfl ?_); refine box_event ?hg (N := 2) ?hd (cs := #[.slice A0_0 l0_0.length c0_0]) (t := 52) ?hr ?_; (case hd => rfl); (case hg => rfl); (case hr => first | (go_simp; done) | (go_simp; rfl)); intro g2 hg w2 hbox hb; have BK2 := Aside0.mk hbox; replace HB := bs_ HB hb; clear hb hbox hg)
    | ((with_reducible refine gate_dst (N := 4) rfl ?_); refine box_event ?hg (N := 4) ?hd (cs := #[.slice none 0 0]) (t := 52) ?hr ?_; (case hd => rfl); (case hg => rfl); (case hr => first | (go_simp; done) | (go_simp; rfl)); intro g4 hg w4 hbox hb; have BK4 := Aside0.mk hbox; have GE4 : Aside0 (w.heap.size ≤ g4) := bz_ hg; replace BK2 := bb_ BK2 hb; replace HB := bs_ HB hb; clear hb hbox hg; have hcz2 : w4.cell? ⟨g2, 0, none⟩ = some (.slice A0_0 l0_0.length c0_0) := (blk_cell BK2.out 0).trans rfl; have hfz2 := blk_frozen BK2.out 0)
    | (go_at_call 34; (with_reducible refine (impl_DiskOk.calls k _ _ l0_0 true _ (Kd.C_below HR.out HB.out) HC.out HT.out).mono ?_); rintro e w5 ⟨rfl, hb⟩; replace BK2 := bb_ BK2 hb; replace BK4 := bb_ BK4 hb; replace HB := bs_ HB hb; clear hb; have hcz5 : w5.cell? ⟨g2, 0, none⟩ = some (.slice A0_0 l0_0.length c0_0) := (blk_cell BK2.out 0).trans rfl)
    | (go_at_call 86; (with_reducible refine (impl_copyDisk.calls _ _ l0_0 l0_0 _ (Kd.C_below HR.out HB.out) HC.out HCP.out).mono ?_); rintro e w6 ⟨v0, rfl, ho0, hb⟩; have HO := Aside0.mk (Kd.R_lower ho0 (below_size HB.out)); replace BK2 := bb_ BK2 hb; replace BK4 := bb_ BK4 hb; replace HB := bs_ HB hb; clear hb ho0)
    | ((with_reducible refine gate_dst (N := 6) rfl ?_); refine box_event ?hg (N := 6) ?hd (cs := #[.slice none 0 0]) (t := 52) ?hr ?_; (case hd => rfl); (case hg => rfl); (case hr => first | (go_simp; done) | (go_simp; rfl)); intro g6 hg w7 hbox hb; have BK6 := Aside0.mk hbox; have GE6 : Aside0 (w.heap.size ≤ g6) := bz_ hg; have NB46 : Aside0 (g4 ≠ g6) := bl_ BK4 hg; replace BK4 := bb_ BK4 hb; replace HO := rb_ HO hb; replace HB := bs_ HB hb; clear hb hbox hg; have hcz6 : w7.cell? ⟨g6, 0, none⟩ = some (.slice none 0 0) := (blk_cell BK6.out 0).trans rfl; have hfz6 := blk_frozen BK6.out 0; obtain ⟨Ao, co, eo⟩ := Kd.R_slice HO.out; subst eo))
  have hnl : (impl_LoseDisk.row l0_0 l1).length = l0_0.length := impl_LoseDisk.row_length l0_0 l1
  have HNL := Aside0.mk hnl
  clear hnl hcz2 hfz2 hcz5 hcz6 hfz6
  have BS6 := Aside0.mk (show (w7.setCell ⟨g6, 0, none⟩ (.slice Ao l0_0.length co)).heap[g6]? = some (.cells #[.slice Ao l0_0.length co] 52 (0, 0)) from by simpa using blk_set BK6.out 0 (.slice Ao l0_0.length co))
  have BS4 := Aside0.mk (blk_far (p := ⟨g6, 0, none⟩) BK4.out NB46.out (.slice Ao l0_0.length co))
  have HOS := Aside0.mk (Kd.R_far (p := ⟨g6, 0, none⟩) (Kd.R_types HO.out BK6.out (by decide)) (fun _ hk => hk.2) (.slice Ao l0_0.length co))
  have HBS := Aside0.mk (show Below w.heap.size w (w7.setCell ⟨g6, 0, none⟩ (.slice Ao l0_0.length co)) from below_set HB.out GE6.out)
  clear BK6 BK4 BK2 HO HB
  generalize hn : l0_0.length = n at *
  have HN := Aside0.mk hn
  clear hn
  go_loopg [19] n (fun gg s19 wr => ∃ kk : Nat, kk ≤ n ∧ n - kk ≤ gg ∧ s19 = .int .i64 kk ∧ Aside0 (Kd.R k60 60 wr w.heap.size (fun k => True ∧ k ≠ g6) (.slice Ao n co) ((impl_LoseDisk.row l0_0 l1).take kk ++ l0_0.drop kk)) ∧ Aside0 (wr.heap[g6]? = some (.cells #[.slice Ao n co] 52 (0, 0))) ∧ Aside0 (wr.heap[g4]? = some (.cells #[.slice none 0 0] 52 (0, 0))) ∧ Aside0 (Below w.heap.size w wr))
  case atStart => exact ⟨0, Nat.zero_le _, by omega, rfl, ⟨by simpa using HOS.out⟩, BS6, BS4, HBS⟩
  case round =>
    obtain ⟨kk, hkk, hg, rfl, HO, BK6, BK4, HB⟩ := hrel
    clear HOS BS6 BS4 HBS
    have hnb : n < 3518437208883 := HL.out
    by_cases hlt : kk < n
    · have hl0 : kk < l0_0.length := by rw [HN.out]; exact hlt
      have hX := impl_LoseDisk.row_rd l1 l0_0 kk hl0
      have hS := impl_LoseDisk.row_step l1 l0_0 kk hl0
      have hm : l0_0[kk] ∈ l0_0 := List.getElem_mem _
      have hxo := List.all_eq_true.1 HK.out _ hm
      simp only [decide_eq_true_eq] at hxo
      generalize hx : l0_0[kk] = x at *
      generalize hXX : ((impl_LoseDisk.row l0_0 l1).take kk ++ l0_0.drop kk) = X at *
      obtain ⟨go, cap, eo, gb, gl, cl, HG⟩ := Kd.R_form HO.out (by rw [← hXX]; simp; omega)
      injection eo with ea en ec
      subst ea; subst ec
      obtain ⟨ce, hcl, hM, hcc, hfr⟩ := Kd.R_elem HO.out z60 (kk : Int) (by omega) (by omega)
      obtain rfl := k60_openM hM
      rw [show X.getD (kk : Int).toNat z60 = rd_T60 X (kk : Int) from rfl, hX] at hM hcc
      have hy0 : wr.cell? ⟨go, kk * 3, none⟩ = some (.string x.f0) := hcc 0 _ rfl
      have hy1 : wr.cell? ⟨go, kk * 3 + 1, none⟩ = some (.string x.f1) := hcc 1 _ rfl
      have hy2 : wr.cell? ⟨go, kk * 3 + 2, none⟩ = some (.int .i64 x.f2) := hcc 2 _ rfl
      have hz0 : wr.frozen? ⟨go, kk * 3, none⟩ = false := hfr 0
      have hz1 : wr.frozen? ⟨go, kk * 3 + 1, none⟩ = false := hfr 1
      have hz2 : wr.frozen? ⟨go, kk * 3 + 2, none⟩ = false := hfr 2
      have h60 : wr.cell? ⟨g6, 0, none⟩ = some (.slice (some ⟨go, 0, none⟩) n co) := (blk_cell BK6.out 0).trans rfl
      have hltz : (kk : Int) < (n : Int) := by omega
      have f60 := blk_frozen BK6.out 0
      have hne := HO.out.1 go rfl
      have e1 : x.f0 = x.f0 := rfl
      have hxb0 := hxo.1
      have hxb1 := hxo.2.1
      have hxb2 := hxo.2.2
      have hgl : g6 < wr.heap.size := blk_lt BK6.out
      have aa : ∀ (p : Addr) (v : Value) (o : Obj), wr.cell? p = some v → (wr.alloc o).cell? p = some v := fun p v o h => (pw_cell_below (below_alloc (Below.refl _ _) o) h)
      have ab : ∀ (p : Addr) (o : Obj), p.block < wr.heap.size → wr.frozen? p = false → (wr.alloc o).frozen? p = false := fun p o h1 h => ((below_alloc (Below.refl _ _) o).frozen h1).trans h
      have hy1a : ∀ o, (wr.alloc o).cell? ⟨go, kk * 3 + 1, none⟩ = some (.string x.f1) := fun o => aa _ _ o hy1
      have hy2a : ∀ o, (wr.alloc o).cell? ⟨go, kk * 3 + 2, none⟩ = some (.int .i64 x.f2) := fun o => aa _ _ o hy2
      have hz1a : ∀ o, (wr.alloc o).frozen? ⟨go, kk * 3 + 1, none⟩ = false := fun o => ab _ o gl hz1
      have hz2a : ∀ o, (wr.alloc o).frozen? ⟨go, kk * 3 + 2, none⟩ = false := fun o => ab _ o gl hz2
      have h60a : ∀ o, (wr.alloc o).cell? ⟨g6, 0, none⟩ = some (.slice (some ⟨go, 0, none⟩) n co) := fun o => aa _ _ o h60
      have hn1 : go ≠ g6 := hne.2
      have hn2 : g6 ≠ go := Ne.symm hne.2
      have hn3 : go ≠ wr.heap.size := Nat.ne_of_lt gl
      have hn4 : wr.heap.size ≠ go := Nat.ne_of_gt gl
      have HCL := Aside0.mk hcl
      have HCC := Aside0.mk hcc
      have HS := Aside0.mk hS
      have HN4 := Aside0.mk (blk_ne BK4.out HG (by decide))
      clear hcc hfr hM hcl hX hS hm hxo e1 hne HG
      by_cases hl : kk < l1.length
      · have hlz : (kk : Int) < (l1.length : Int) := by omega
        obtain ⟨ad1, ea1, hc1⟩ := ReadsInt.at_ (k := .i64) (Kd.reads_of_C (d := (0 : Int)) (h1 := fun _ => rfl) HR1.out) (kk : Int) (by omega) hlz
        cases ea1
        replace hc1 := (HB.out.cell (World.block_lt_of_cell? w _ hc1)).trans hc1
        simp only [Int.toNat_natCast] at hc1
        have hc1a : ∀ o, (wr.alloc o).cell? (ad1.add kk) = some (.int .i64 (l1.getD kk 0)) := fun o => aa _ _ o hc1
        clear hc1 aa ab
        generalize l1.getD kk 0 = m at *
        obtain ⟨m2, hm2⟩ : ∃ m2 : Int, (if (x.f1.size : Int) < m then (x.f1.size : Int) else m) = m2 := ⟨_, rfl⟩
        obtain ⟨N, hN⟩ : ∃ N : Int, (if x.f2 < m2 then m2 else x.f2) = N := ⟨_, rfl⟩
        have hNe : max x.f2 (min m (x.f1.size : Int)) = N := by rw [← hN, ← hm2]; split <;> split <;> omega
        have hN0 : 0 ≤ N := by rw [← hNe]; omega
        have hN1 : N ≤ (x.f1.size : Int) := by rw [← hNe]; omega
        have HNe := Aside0.mk hNe
        have hNx := hNe
        clear hNe
        have HP := Aside0.mk (Kd.R_seg HO.out (kk : Int) (by omega) (by omega) (c := [.string x.f0, .string x.f1, .int .i64 x.f2]) (seg := [.string (x.f1.extract 0 (N).toNat), .int .i64 (N)]) (j := 1) HCL.out HCC.out (show 1 + 2 ≤ 3 from by decide) (x' := impl_LoseDisk.one x m) (by unfold impl_LoseDisk.one; rw [HNe.out]; exact k60_mkM _ _ _ (⟨x.f0, x.f1.extract 0 (N).toNat, N⟩ : S60)) (okp := fun k => (True ∧ k ≠ g6) ∧ k ≠ go) (fun _ hk => hk)).1
        clear hNx
        go_wp2
        go_region
        go_wp2
        go_roundg (n - (kk + 1))
        case measure => omega
        case rel =>
          refine ⟨kk + 1, by omega, by omega, by go_num, ⟨?_⟩, ⟨?_⟩, ⟨?_⟩, ⟨?_⟩⟩
          · rw [← HS.out]
            have hp := HP.out
            rw [Int.toNat_natCast] at hp
            exact Kd.R_drew (Kd.R_alloc hp _)
          · exact blk_drew (blk_alloc (blk_far (blk_far BK6.out hn2 _) hn2 _) _)
          · exact blk_drew (blk_alloc (blk_far (blk_far BK4.out HN4.out _) HN4.out _) _)
          · exact below_drew1 (below_alloc (below_set (below_set HB.out gb) gb) _)
      · have hlz : (l1.length : Int) ≤ (kk : Int) := by omega
        have hg0 : l1.getD kk 0 = 0 := by rw [List.getD_eq_getElem?_getD, List.getElem?_eq_none (by omega)]; rfl
        rw [hg0] at HS
        have HNe : Aside0 (max x.f2 (min 0 (x.f1.size : Int)) = x.f2) := Aside0.mk (by omega)
        have hNx := HNe.out
        clear aa ab hg0
        have HP := Aside0.mk (Kd.R_seg HO.out (kk : Int) (by omega) (by omega) (c := [.string x.f0, .string x.f1, .int .i64 x.f2]) (seg := [.string (x.f1.extract 0 (x.f2).toNat), .int .i64 (x.f2)]) (j := 1) HCL.out HCC.out (show 1 + 2 ≤ 3 from by decide) (x' := impl_LoseDisk.one x 0) (by unfold impl_LoseDisk.one; rw [HNe.out]; exact k60_mkM _ _ _ (⟨x.f0, x.f1.extract 0 (x.f2).toNat, x.f2⟩ : S60)) (okp := fun k => (True ∧ k ≠ g6) ∧ k ≠ go) (fun _ hk => hk)).1
        clear hNx
        go_wp2
        go_region
        go_wp2
        go_roundg (n - (kk + 1))
        case measure => omega
        case rel =>
          refine ⟨kk + 1, by omega, by omega, by go_num, ⟨?_⟩, ⟨?_⟩, ⟨?_⟩, ⟨?_⟩⟩
          · rw [← HS.out]
            have hp := HP.out
            rw [Int.toNat_natCast] at hp
            exact Kd.R_drew (Kd.R_alloc hp _)
          · exact blk_drew (blk_alloc (blk_far (blk_far BK6.out hn2 _) hn2 _) _)
          · exact blk_drew (blk_alloc (blk_far (blk_far BK4.out HN4.out _) HN4.out _) _)
          · exact below_drew1 (below_alloc (below_set (below_set HB.out gb) gb) _)
    · obtain rfl : kk = n := by omega
      have hltz : ¬ (kk : Int) < (kk : Int) := by omega
      have h60 : wr.cell? ⟨g6, 0, none⟩ = some (.slice Ao kk co) := (blk_cell BK6.out 0).trans rfl
      have h40 : wr.cell? ⟨g4, 0, none⟩ = some (.slice none 0 0) := (blk_cell BK4.out 0).trans rfl
      have f40 := blk_frozen BK4.out 0
      have HX : Aside0 ((impl_LoseDisk.row l0_0 l1).take kk ++ l0_0.drop kk = impl_LoseDisk.row l0_0 l1) := Aside0.mk (by rw [List.take_of_length_le (by rw [HNL.out]; exact Nat.le_refl _), List.drop_of_length_le (by rw [HN.out]; exact Nat.le_refl _), List.append_nil])
      rw [HX.out] at HO
      go_wp2
      refine bodyPost_ret (results_ct rfl _ _ g4 52 #[.slice Ao kk co] (0, 0) _ rfl (by first | exact blk_set BK4.out 0 _ | simpa using blk_set BK4.out 0 (.slice Ao kk co)) Try.underlying52 rfl (by kernel_rfl)) rfl ?_
      exact ⟨_, rfl, Kd.R_mono (Kd.R_far (p := ⟨g4, 0, none⟩) (Kd.R_types HO.out BK4.out (by decide)) (fun _ hk => hk.2) _) (fun _ _ => trivial), below_set HB.out GE4.out⟩
def impl_LoseDisk.f (k : Nat) (l0_0 : List S60) (l1 : List Int) : Option (List S60 × Bool) := (impl_DiskOk.f k l0_0).bind fun t => if t = true then (if l0_0.length < 3518437208883 ∧ impl_LoseDisk.okr l0_0 = true then some (impl_LoseDisk.row l0_0 l1, true) else none) else some ([], false)
theorem impl_LoseDisk.mono : ∀ a0 a1 k, LeO (impl_LoseDisk.f k a0 a1) (impl_LoseDisk.f (k + 1) a0 a1) :=
  fun a0 a1 k => LeO.bind (impl_DiskOk.mono a0 k) (fun _ => LeO.refl _)
set_option maxHeartbeats 8000000 in
set_option maxRecDepth 100000 in
theorem impl_LoseDisk.calls (k : Nat) (A0_0 : Option Addr) (c0_0 : Nat) (l0_0 : List S60) (A1 : Option Addr) (c1 : Nat) (l1 : List Int) (r1 : List S60) (r2 : Bool) (w : World) (hr0_0 : Kd.C k60 w A0_0 l0_0.length l0_0) (hc0_0 : l0_0.length ≤ c0_0) (hr1 : Kd.C (Kd.int .i64) w A1 l1.length l1) (hc1 : l1.length ≤ c1) (h : impl_LoseDisk.f k l0_0 l1 = some (r1, r2)) :
    Calls Try.prog 31 #[.agg #[.slice A0_0 l0_0.length c0_0], .slice A1 l1.length c1] w fun e w' => ∃ v0_ : Value, e = .returned (.tuple #[.agg #[v0_], .bool r2]) ∧ Kd.R k60 60 w' w.heap.size (fun _ => True) v0_ r1 ∧ Below w.heap.size w w' := by
  obtain ⟨t, ht, hr⟩ := Option.bind_eq_some_iff.mp h
  clear h
  cases t with
  | true =>
    simp only [if_true] at hr
    split at hr
    · rename_i hq
      obtain ⟨rfl, rfl⟩ := Prod.mk.inj (Option.some.inj hr)
      exact impl_LoseDisk.yes k A0_0 c0_0 l0_0 A1 c1 l1 w hr0_0 hc0_0 hr1 hc1 ht hq.1 hq.2
    · cases hr
  | false =>
    simp only [Bool.false_eq_true, if_false] at hr
    obtain ⟨rfl, rfl⟩ := Prod.mk.inj (Option.some.inj hr)
    have hu52 := Try.underlying52
    have HR := Aside0.mk hr0_0
    have HC := Aside0.mk hc0_0
    have HT := Aside0.mk ht
    clear hr0_0 hc0_0 hr1 hc1 ht hr
    have HB := Aside0.mk (Below.refl w.heap.size w)
    go_enter Try.func31, Try.ntmps31
    go_wp2_with (first
      | ((with_reducible refine gate_dst (N := 2) rfl ?_); refine box_event ?hg (N := 2) ?hd (cs := #[.slice A0_0 l0_0.length c0_0]) (t := 52) ?hr ?_; (case hd => rfl); (case hg => rfl); (case hr => first | (go_simp; done) | (go_simp; rfl)); intro g2 hg w2 hbox hb; have BK2 := Aside0.mk hbox; replace HB := bs_ HB hb; clear hb hbox hg)
      | ((with_reducible refine gate_dst (N := 4) rfl ?_); refine box_event ?hg (N := 4) ?hd (cs := #[.slice none 0 0]) (t := 52) ?hr ?_; (case hd => rfl); (case hg => rfl); (case hr => first | (go_simp; done) | (go_simp; rfl)); intro g4 hg w4 hbox hb; have BK4 := Aside0.mk hbox; have GE4 : Aside0 (w.heap.size ≤ g4) := bz_ hg; replace BK2 := bb_ BK2 hb; replace HB := bs_ HB hb; clear hb hbox hg; have hcz2 : w4.cell? ⟨g2, 0, none⟩ = some (.slice A0_0 l0_0.length c0_0) := (blk_cell BK2.out 0).trans rfl; have hfz2 := blk_frozen BK2.out 0)
      | (go_at_call 34; (with_reducible refine (impl_DiskOk.calls k _ _ l0_0 false _ (Kd.C_below HR.out HB.out) HC.out HT.out).mono ?_); rintro e w5 ⟨rfl, hb⟩; replace BK4 := bb_ BK4 hb; replace HB := bs_ HB hb; clear hb; have hcz5 : w5.cell? ⟨g4, 0, none⟩ = some (.slice none 0 0) := (blk_cell BK4.out 0).trans rfl; have hfz5 := blk_frozen BK4.out 0))
    refine bodyPost_ret (results_ct rfl _ _ g4 52 #[.slice none 0 0] (0, 0) _ rfl (by simpa using blk_set BK4.out 0 (.slice none 0 0)) Try.underlying52 rfl (by kernel_rfl)) rfl ?_
    exact ⟨_, rfl, Kd.R_nil _ _ _ _ _, below_set HB.out GE4.out⟩

/-! ### laws_sameDisk: function 32 -/
def laws_sameDisk.l0 : Nat → Int → List (S60) → List (S60) → Option (Bool)
  | 0, _, _, _ => none
  | k + 1, x5, x215000, x216000 => if x5 < (x215000.length : Int) then (if 0 ≤ x5 then (if x5 < (x216000.length : Int) then (if (!((((rd_T60 x215000 x5).f0).toList) == (((rd_T60 x216000 x5).f0).toList)) || (!((((rd_T60 x215000 x5).f1).toList) == (((rd_T60 x216000 x5).f1).toList)) || (!(((rd_T60 x215000 x5).f2) == ((rd_T60 x216000 x5).f2))))) = true then (some false) else (laws_sameDisk.l0 k (wrap64 (x5 + 1)) x215000 x216000)) else (none)) else (none)) else (some true)
def laws_sameDisk.f (k : Nat) (l0_0 : List (S60)) (l1_0 : List (S60)) : Option (Bool) := if (l0_0.length : Int) = (l1_0.length : Int) then (laws_sameDisk.l0 k 0 l0_0 l1_0) else (some false)
theorem laws_sameDisk.mono_l : ∀ k, (∀ y0 y1 y2, LeO (laws_sameDisk.l0 k y0 y1 y2) (laws_sameDisk.l0 (k + 1) y0 y1 y2))
  | 0 => fun _ _ _ r h => by simp [laws_sameDisk.l0] at h
  | k + 1 => by
    have ih0 := laws_sameDisk.mono_l k
    · intro y0 y1 y2
      unfold laws_sameDisk.l0
      repeat' first
      | (with_reducible exact ih0 _ _ _)
      | (with_reducible exact LeO.refl _)
      | (with_reducible exact LeO.none _)
      | (with_reducible refine LeO.ite ?_ ?_)
      | (with_reducible refine LeO.bind ?_ (fun _ => ?_))
      | exact ih0 _ _ _
      | exact LeO.none _
      | refine LeO.ite ?_ ?_
      | refine LeO.bind ?_ (fun _ => ?_)
theorem laws_sameDisk.mono : ∀ a0 a1 k, LeO (laws_sameDisk.f k a0 a1) (laws_sameDisk.f (k + 1) a0 a1) := by
  intro a0 a1 k
  have ih0 := laws_sameDisk.mono_l k
  unfold laws_sameDisk.f
  repeat' first
      | (with_reducible exact ih0 _ _ _)
      | (with_reducible exact LeO.refl _)
      | (with_reducible exact LeO.none _)
      | (with_reducible refine LeO.ite ?_ ?_)
      | (with_reducible refine LeO.bind ?_ (fun _ => ?_))
      | exact ih0 _ _ _
      | exact LeO.none _
      | refine LeO.ite ?_ ?_
      | refine LeO.bind ?_ (fun _ => ?_)
set_option maxHeartbeats 8000000 in
set_option maxRecDepth 100000 in
theorem laws_sameDisk.calls (k : Nat) (A0_0 : Option Addr) (c0_0 : Nat) (l0_0 : List (S60)) (A1_0 : Option Addr) (c1_0 : Nat) (l1_0 : List (S60)) (r : Bool) (w : World) (hr0_0 : Kd.C k60 w A0_0 l0_0.length l0_0) (hc0_0 : l0_0.length ≤ c0_0) (hr1_0 : Kd.C k60 w A1_0 l1_0.length l1_0) (hc1_0 : l1_0.length ≤ c1_0) (h : laws_sameDisk.f k l0_0 l1_0 = some r) :
    Calls Try.prog 32 #[.agg #[.slice A0_0 l0_0.length c0_0], .agg #[.slice A1_0 l1_0.length c1_0]] w fun e w' => e = .returned (.bool r) ∧ Below w.heap.size w w' := by
  have hu52 := Try.underlying52
  have hu60 := Try.underlying60
  have HR0_0 := Aside0.mk hr0_0
  have HC0_0 := Aside0.mk hc0_0
  clear hr0_0 hc0_0
  have HR1_0 := Aside0.mk hr1_0
  have HC1_0 := Aside0.mk hc1_0
  clear hr1_0 hc1_0
  have HB := Aside0.mk (Below.refl w.heap.size w)
  have H : (if (l0_0.length : Int) = (l1_0.length : Int) then (laws_sameDisk.l0 k 0 l0_0 l1_0) else (some false)) = some r := h
  clear h
  by_cases c3 : (l0_0.length : Int) = (l1_0.length : Int)
  · rw [if_pos c3] at H
    have c3b0 : ((l0_0.length : Int) == (l1_0.length : Int)) = true := beq_iff_eq.mpr c3
    have c3b1 : ((l0_0.length : Int) != (l1_0.length : Int)) = false := bne_eq_false_iff_eq.mpr c3
    have c3b2 : (l0_0.length == l1_0.length) = true := by first | simpa using c3 | (simp at c3 ⊢; omega)
    clear c3
    have H' := Aside0.mk H
    clear H
    go_enter Try.func32, Try.ntmps32
    go_wp2_with (first | ((with_reducible refine gate_dst (N := 2) rfl ?_); refine box_event ?hg (N := 2) ?hd (cs := #[.slice A0_0 l0_0.length c0_0]) (t := 52) ?hr ?_; (case hd => rfl); (case hg => rfl); (case hr => first | (go_simp; done) | (go_simp; rfl)); intro gb214 hg w4 hbox hb; have n0_ := Aside0.mk (below_step (by repeat (first | (with_reducible first | exact HB.out | apply below_alloc | apply pw_below_drewN | apply below_drew1) | exact HB.out)) hb); have n1_ := Aside0.mk (hbox); have n2_ := Aside0.mk ((by rw [hg]; exact (below_size (by repeat (first | (with_reducible first | exact HB.out | apply below_alloc | apply pw_below_drewN | apply below_drew1) | exact HB.out))) : w.heap.size ≤ gb214)); have n3_ := Aside0.mk ((by rw [hg]; exact (below_size (by repeat (first | (with_reducible first | exact HB.out | apply below_alloc | apply pw_below_drewN | apply below_drew1) | exact HB.out))) : w.heap.size ≤ gb214)); clear HB; have HB := n0_; have BK214 := n1_; have GW214 := n2_; have GE214 := n3_; clear n0_ n1_ n2_ n3_; clear hb hbox hg) | ((with_reducible refine gate_dst (N := 3) rfl ?_); refine box_event ?hg (N := 3) ?hd (cs := #[.slice A1_0 l1_0.length c1_0]) (t := 52) ?hr ?_; (case hd => rfl); (case hg => rfl); (case hr => first | (go_simp; done) | (go_simp; rfl)); intro gb215 hg w5 hbox hb; have n0_ := Aside0.mk (blk_below (g := gb214) (o := .cells #[.slice A0_0 l0_0.length c0_0] 52 (0, 0)) (by (with_reducible repeat (first | refine blk_drewN ?_ _ | refine blk_drew ?_ | refine blk_alloc ?_ _)); exact BK214.out) hb); have n1_ := Aside0.mk (below_step (by repeat (first | (with_reducible first | exact HB.out | apply below_alloc | apply pw_below_drewN | apply below_drew1 | refine below_set ?_ GE214.out) | exact HB.out)) hb); have n2_ := Aside0.mk (hbox); have n3_ := Aside0.mk ((by rw [hg]; exact (below_size (by repeat (first | (with_reducible first | exact HB.out | apply below_alloc | apply pw_below_drewN | apply below_drew1 | refine below_set ?_ GE214.out) | exact HB.out))) : w.heap.size ≤ gb215)); have n4_ := Aside0.mk ((by rw [hg]; exact (below_size (by repeat (first | (with_reducible first | exact HB.out | apply below_alloc | apply pw_below_drewN | apply below_drew1 | refine below_set ?_ GE214.out) | exact HB.out))) : w.heap.size ≤ gb215)); have n5_ := Aside0.mk ((by rw [hg]; exact Nat.ne_of_lt (blk_lt (g := gb214) (o := .cells #[.slice A0_0 l0_0.length c0_0] 52 (0, 0)) (by (with_reducible repeat (first | refine blk_drewN ?_ _ | refine blk_drew ?_ | refine blk_alloc ?_ _)); exact BK214.out)) : gb214 ≠ gb215)); have n6_ := Aside0.mk ((by rw [hg]; exact Nat.ne_of_gt (blk_lt (g := gb214) (o := .cells #[.slice A0_0 l0_0.length c0_0] 52 (0, 0)) (by (with_reducible repeat (first | refine blk_drewN ?_ _ | refine blk_drew ?_ | refine blk_alloc ?_ _)); exact BK214.out)) : gb215 ≠ gb214)); clear BK214; clear HB; have BK214 := n0_; have HB := n1_; have BK215 := n2_; have GW215 := n3_; have GE215 := n4_; have NB214_215 := n5_; have NB215_214 := n6_; clear n0_ n1_ n2_ n3_ n4_ n5_ n6_; clear hb hbox hg; have hnb6 := NB214_215.out; have hnc6 := NB215_214.out; have hcz7_0 : w5.cell? ⟨gb214, 0, none⟩ = some (.slice A0_0 l0_0.length c0_0) := (blk_cell BK214.out 0).trans rfl; have hfz7_0 := blk_frozen BK214.out 0; have hcz8_0 : w5.cell? ⟨gb215, 0, none⟩ = some (.slice A1_0 l1_0.length c1_0) := (blk_cell BK215.out 0).trans rfl; have hfz8_0 := blk_frozen BK215.out 0))
    repeat (go_quiet (first | ((with_reducible refine gate_dst (N := 2) rfl ?_); refine box_event ?hg (N := 2) ?hd (cs := #[.slice A0_0 l0_0.length c0_0]) (t := 52) ?hr ?_; (case hd => rfl); (case hg => rfl); (case hr => first | (go_simp; done) | (go_simp; rfl)); intro gb214 hg w4 hbox hb; have n0_ := Aside0.mk (below_step (by repeat (first | (with_reducible first | exact HB.out | apply below_alloc | apply pw_below_drewN | apply below_drew1) | exact HB.out)) hb); have n1_ := Aside0.mk (hbox); have n2_ := Aside0.mk ((by rw [hg]; exact (below_size (by repeat (first | (with_reducible first | exact HB.out | apply below_alloc | apply pw_below_drewN | apply below_drew1) | exact HB.out))) : w.heap.size ≤ gb214)); have n3_ := Aside0.mk ((by rw [hg]; exact (below_size (by repeat (first | (with_reducible first | exact HB.out | apply below_alloc | apply pw_below_drewN | apply below_drew1) | exact HB.out))) : w.heap.size ≤ gb214)); clear HB; have HB := n0_; have BK214 := n1_; have GW214 := n2_; have GE214 := n3_; clear n0_ n1_ n2_ n3_; clear hb hbox hg) | ((with_reducible refine gate_dst (N := 3) rfl ?_); refine box_event ?hg (N := 3) ?hd (cs := #[.slice A1_0 l1_0.length c1_0]) (t := 52) ?hr ?_; (case hd => rfl); (case hg => rfl); (case hr => first | (go_simp; done) | (go_simp; rfl)); intro gb215 hg w5 hbox hb; have n0_ := Aside0.mk (blk_below (g := gb214) (o := .cells #[.slice A0_0 l0_0.length c0_0] 52 (0, 0)) (by (with_reducible repeat (first | refine blk_drewN ?_ _ | refine blk_drew ?_ | refine blk_alloc ?_ _)); exact BK214.out) hb); have n1_ := Aside0.mk (below_step (by repeat (first | (with_reducible first | exact HB.out | apply below_alloc | apply pw_below_drewN | apply below_drew1 | refine below_set ?_ GE214.out) | exact HB.out)) hb); have n2_ := Aside0.mk (hbox); have n3_ := Aside0.mk ((by rw [hg]; exact (below_size (by repeat (first | (with_reducible first | exact HB.out | apply below_alloc | apply pw_below_drewN | apply below_drew1 | refine below_set ?_ GE214.out) | exact HB.out))) : w.heap.size ≤ gb215)); have n4_ := Aside0.mk ((by rw [hg]; exact (below_size (by repeat (first | (with_reducible first | exact HB.out | apply below_alloc | apply pw_below_drewN | apply below_drew1 | refine below_set ?_ GE214.out) | exact HB.out))) : w.heap.size ≤ gb215)); have n5_ := Aside0.mk ((by rw [hg]; exact Nat.ne_of_lt (blk_lt (g := gb214) (o := .cells #[.slice A0_0 l0_0.length c0_0] 52 (0, 0)) (by (with_reducible repeat (first | refine blk_drewN ?_ _ | refine blk_drew ?_ | refine blk_alloc ?_ _)); exact BK214.out)) : gb214 ≠ gb215)); have n6_ := Aside0.mk ((by rw [hg]; exact Nat.ne_of_gt (blk_lt (g := gb214) (o := .cells #[.slice A0_0 l0_0.length c0_0] 52 (0, 0)) (by (with_reducible repeat (first | refine blk_drewN ?_ _ | refine blk_drew ?_ | refine blk_alloc ?_ _)); exact BK214.out)) : gb215 ≠ gb214)); clear BK214; clear HB; have BK214 := n0_; have HB := n1_; have BK215 := n2_; have GW215 := n3_; have GE215 := n4_; have NB214_215 := n5_; have NB215_214 := n6_; clear n0_ n1_ n2_ n3_ n4_ n5_ n6_; clear hb hbox hg; have hnb6 := NB214_215.out; have hnc6 := NB215_214.out; have hcz7_0 : w5.cell? ⟨gb214, 0, none⟩ = some (.slice A0_0 l0_0.length c0_0) := (blk_cell BK214.out 0).trans rfl; have hfz7_0 := blk_frozen BK214.out 0; have hcz8_0 : w5.cell? ⟨gb215, 0, none⟩ = some (.slice A1_0 l1_0.length c1_0) := (blk_cell BK215.out 0).trans rfl; have hfz8_0 := blk_frozen BK215.out 0)); try go_wp2_with (first | ((with_reducible refine gate_dst (N := 2) rfl ?_); refine box_event ?hg (N := 2) ?hd (cs := #[.slice A0_0 l0_0.length c0_0]) (t := 52) ?hr ?_; (case hd => rfl); (case hg => rfl); (case hr => first | (go_simp; done) | (go_simp; rfl)); intro gb214 hg w4 hbox hb; have n0_ := Aside0.mk (below_step (by repeat (first | (with_reducible first | exact HB.out | apply below_alloc | apply pw_below_drewN | apply below_drew1) | exact HB.out)) hb); have n1_ := Aside0.mk (hbox); have n2_ := Aside0.mk ((by rw [hg]; exact (below_size (by repeat (first | (with_reducible first | exact HB.out | apply below_alloc | apply pw_below_drewN | apply below_drew1) | exact HB.out))) : w.heap.size ≤ gb214)); have n3_ := Aside0.mk ((by rw [hg]; exact (below_size (by repeat (first | (with_reducible first | exact HB.out | apply below_alloc | apply pw_below_drewN | apply below_drew1) | exact HB.out))) : w.heap.size ≤ gb214)); clear HB; have HB := n0_; have BK214 := n1_; have GW214 := n2_; have GE214 := n3_; clear n0_ n1_ n2_ n3_; clear hb hbox hg) | ((with_reducible refine gate_dst (N := 3) rfl ?_); refine box_event ?hg (N := 3) ?hd (cs := #[.slice A1_0 l1_0.length c1_0]) (t := 52) ?hr ?_; (case hd => rfl); (case hg => rfl); (case hr => first | (go_simp; done) | (go_simp; rfl)); intro gb215 hg w5 hbox hb; have n0_ := Aside0.mk (blk_below (g := gb214) (o := .cells #[.slice A0_0 l0_0.length c0_0] 52 (0, 0)) (by (with_reducible repeat (first | refine blk_drewN ?_ _ | refine blk_drew ?_ | refine blk_alloc ?_ _)); exact BK214.out) hb); have n1_ := Aside0.mk (below_step (by repeat (first | (with_reducible first | exact HB.out | apply below_alloc | apply pw_below_drewN | apply below_drew1 | refine below_set ?_ GE214.out) | exact HB.out)) hb); have n2_ := Aside0.mk (hbox); have n3_ := Aside0.mk ((by rw [hg]; exact (below_size (by repeat (first | (with_reducible first | exact HB.out | apply below_alloc | apply pw_below_drewN | apply below_drew1 | refine below_set ?_ GE214.out) | exact HB.out))) : w.heap.size ≤ gb215)); have n4_ := Aside0.mk ((by rw [hg]; exact (below_size (by repeat (first | (with_reducible first | exact HB.out | apply below_alloc | apply pw_below_drewN | apply below_drew1 | refine below_set ?_ GE214.out) | exact HB.out))) : w.heap.size ≤ gb215)); have n5_ := Aside0.mk ((by rw [hg]; exact Nat.ne_of_lt (blk_lt (g := gb214) (o := .cells #[.slice A0_0 l0_0.length c0_0] 52 (0, 0)) (by (with_reducible repeat (first | refine blk_drewN ?_ _ | refine blk_drew ?_ | refine blk_alloc ?_ _)); exact BK214.out)) : gb214 ≠ gb215)); have n6_ := Aside0.mk ((by rw [hg]; exact Nat.ne_of_gt (blk_lt (g := gb214) (o := .cells #[.slice A0_0 l0_0.length c0_0] 52 (0, 0)) (by (with_reducible repeat (first | refine blk_drewN ?_ _ | refine blk_drew ?_ | refine blk_alloc ?_ _)); exact BK214.out)) : gb215 ≠ gb214)); clear BK214; clear HB; have BK214 := n0_; have HB := n1_; have BK215 := n2_; have GW215 := n3_; have GE215 := n4_; have NB214_215 := n5_; have NB215_214 := n6_; clear n0_ n1_ n2_ n3_ n4_ n5_ n6_; clear hb hbox hg; have hnb6 := NB214_215.out; have hnc6 := NB215_214.out; have hcz7_0 : w5.cell? ⟨gb214, 0, none⟩ = some (.slice A0_0 l0_0.length c0_0) := (blk_cell BK214.out 0).trans rfl; have hfz7_0 := blk_frozen BK214.out 0; have hcz8_0 : w5.cell? ⟨gb215, 0, none⟩ = some (.slice A1_0 l1_0.length c1_0) := (blk_cell BK215.out 0).trans rfl; have hfz8_0 := blk_frozen BK215.out 0)))
    go_loopg [5] k (fun kq v5 w' => ∃ (x5_1 : Int), v5 = .int .i64 x5_1 ∧ Aside0 (laws_sameDisk.l0 kq x5_1 l0_0 l1_0 = some r) ∧ Aside0 (kq ≤ k) ∧ Aside0 (w'.heap[gb214]? = some (.cells #[(.slice A0_0 l0_0.length c0_0)] 52 (0, 0))) ∧ Aside0 (w'.heap[gb215]? = some (.cells #[(.slice A1_0 l1_0.length c1_0)] 52 (0, 0))) ∧ Aside0 (Below w.heap.size w w'))
    case atStart => exact ⟨(0), (by first | rfl | (simp; done) | (simp [*]; done)), H', ⟨Nat.le_refl _⟩, ⟨by (with_reducible repeat (first | refine blk_drewN ?_ _ | refine blk_drew ?_ | refine blk_alloc ?_ _)); exact BK214.out⟩, ⟨by (with_reducible repeat (first | refine blk_drewN ?_ _ | refine blk_drew ?_ | refine blk_alloc ?_ _)); exact BK215.out⟩, ⟨by repeat (first | (with_reducible first | exact HB.out | apply below_alloc | apply pw_below_drewN | apply below_drew1 | refine below_set ?_ GE214.out | refine below_set ?_ GE215.out) | exact HB.out)⟩⟩
    case round =>
      clear H'
      try clear c1
      try clear p2
      try clear c3
      try clear c3b0
      try clear c3b1
      try clear c3b2
      try clear c6
      try clear hcz7_0
      try clear hcz8_0
      try clear hfz7_0
      try clear hfz8_0
      obtain ⟨x5_1, rfl, HA, HK1, BK214, BK215, HB⟩ := hrel
      cases gk with
      | zero => exact absurd HA.out (by simp [laws_sameDisk.l0])
      | succ k1 =>
        have H := HA.out
        clear HA
        simp only [laws_sameDisk.l0] at H
        by_cases c9 : x5_1 < (l0_0.length : Int)
        · rw [if_pos c9] at H
          have c9b0 : decide (x5_1 < (l0_0.length : Int)) = true := decide_eq_true c9
          clear c9
          by_cases c10 : 0 ≤ x5_1
          · rw [if_pos c10] at H
            have c10b0 : decide (0 ≤ x5_1) = true := decide_eq_true c10
            clear c10
            by_cases c11 : x5_1 < (l1_0.length : Int)
            · rw [if_pos c11] at H
              have c11b0 : decide (x5_1 < (l1_0.length : Int)) = true := decide_eq_true c11
              clear c11
              by_cases c12 : (!((((rd_T60 l0_0 x5_1).f0).toList) == (((rd_T60 l1_0 x5_1).f0).toList)) || (!((((rd_T60 l0_0 x5_1).f1).toList) == (((rd_T60 l1_0 x5_1).f1).toList)) || (!(((rd_T60 l0_0 x5_1).f2) == ((rd_T60 l1_0 x5_1).f2))))) = true
              · rw [if_pos c12] at H
                have c12b0 : (!((((rd_T60 l0_0 x5_1).f0).toList) == (((rd_T60 l1_0 x5_1).f0).toList)) || (!((((rd_T60 l0_0 x5_1).f1).toList) == (((rd_T60 l1_0 x5_1).f1).toList)) || (!(((rd_T60 l0_0 x5_1).f2) == ((rd_T60 l1_0 x5_1).f2))))) = true := c12
                clear c12
                obtain rfl := Option.some.inj H
                have hnb13 := NB214_215.out
                have hnc13 := NB215_214.out
                have hcz14_0 : wr.cell? ⟨gb214, 0, none⟩ = some (.slice A0_0 l0_0.length c0_0) := (blk_cell BK214.out 0).trans rfl
                have hfz14_0 := blk_frozen BK214.out 0
                have p216 : 0 ≤ (x5_1 : Int) := of_decide_eq_true (by first | (with_reducible assumption) | assumption)
                have q216 : x5_1 < (l0_0.length : Int) := of_decide_eq_true (by first | (with_reducible assumption) | assumption)
                obtain ⟨ad216, e216, hx216_0, hx216_1, hx216_2⟩ := at_T60 HR0_0.out x5_1 p216 q216
                cases e216
                replace hx216_0 := (HB.out.cell (World.block_lt_of_cell? w _ hx216_0)).trans hx216_0
                replace hx216_1 := (HB.out.cell (World.block_lt_of_cell? w _ hx216_1)).trans hx216_1
                replace hx216_2 := (HB.out.cell (World.block_lt_of_cell? w _ hx216_2)).trans hx216_2
                replace p216 := eq_true p216
                replace q216 := eq_true q216
                have hcz15_0 : wr.cell? ⟨gb215, 0, none⟩ = some (.slice A1_0 l1_0.length c1_0) := (blk_cell BK215.out 0).trans rfl
                have hfz15_0 := blk_frozen BK215.out 0
                have p217 : 0 ≤ (x5_1 : Int) := of_decide_eq_true (by first | (with_reducible assumption) | assumption)
                have q217 : x5_1 < (l1_0.length : Int) := of_decide_eq_true (by first | (with_reducible assumption) | assumption)
                obtain ⟨ad217, e217, hx217_0, hx217_1, hx217_2⟩ := at_T60 HR1_0.out x5_1 p217 q217
                cases e217
                replace hx217_0 := (HB.out.cell (World.block_lt_of_cell? w _ hx217_0)).trans hx217_0
                replace hx217_1 := (HB.out.cell (World.block_lt_of_cell? w _ hx217_1)).trans hx217_1
                replace hx217_2 := (HB.out.cell (World.block_lt_of_cell? w _ hx217_2)).trans hx217_2
                replace p217 := eq_true p217
                replace q217 := eq_true q217
                go_wp2
                repeat (go_quiet (fail); try go_wp2)
                go_ret
                exact ⟨by first | rfl | (simp [errW_none, errW_some] <;> rfl) | (simp [*, errW_none, errW_some] <;> rfl), by repeat (first | (with_reducible first | exact HB.out | apply below_alloc | apply pw_below_drewN | apply below_drew1 | refine below_set ?_ GE214.out | refine below_set ?_ GE215.out) | exact HB.out)⟩
              · rw [if_neg c12] at H
                have c12b0 : (!((((rd_T60 l0_0 x5_1).f0).toList) == (((rd_T60 l1_0 x5_1).f0).toList)) || (!((((rd_T60 l0_0 x5_1).f1).toList) == (((rd_T60 l1_0 x5_1).f1).toList)) || (!(((rd_T60 l0_0 x5_1).f2) == ((rd_T60 l1_0 x5_1).f2))))) = false := by simpa using c12
                clear c12
                have H' := Aside0.mk H
                clear H
                have hnb16 := NB214_215.out
                have hnc16 := NB215_214.out
                have hcz17_0 : wr.cell? ⟨gb214, 0, none⟩ = some (.slice A0_0 l0_0.length c0_0) := (blk_cell BK214.out 0).trans rfl
                have hfz17_0 := blk_frozen BK214.out 0
                have p216 : 0 ≤ (x5_1 : Int) := of_decide_eq_true (by first | (with_reducible assumption) | assumption)
                have q216 : x5_1 < (l0_0.length : Int) := of_decide_eq_true (by first | (with_reducible assumption) | assumption)
                obtain ⟨ad216, e216, hx216_0, hx216_1, hx216_2⟩ := at_T60 HR0_0.out x5_1 p216 q216
                cases e216
                replace hx216_0 := (HB.out.cell (World.block_lt_of_cell? w _ hx216_0)).trans hx216_0
                replace hx216_1 := (HB.out.cell (World.block_lt_of_cell? w _ hx216_1)).trans hx216_1
                replace hx216_2 := (HB.out.cell (World.block_lt_of_cell? w _ hx216_2)).trans hx216_2
                replace p216 := eq_true p216
                replace q216 := eq_true q216
                have hcz18_0 : wr.cell? ⟨gb215, 0, none⟩ = some (.slice A1_0 l1_0.length c1_0) := (blk_cell BK215.out 0).trans rfl
                have hfz18_0 := blk_frozen BK215.out 0
                have p217 : 0 ≤ (x5_1 : Int) := of_decide_eq_true (by first | (with_reducible assumption) | assumption)
                have q217 : x5_1 < (l1_0.length : Int) := of_decide_eq_true (by first | (with_reducible assumption) | assumption)
                obtain ⟨ad217, e217, hx217_0, hx217_1, hx217_2⟩ := at_T60 HR1_0.out x5_1 p217 q217
                cases e217
                replace hx217_0 := (HB.out.cell (World.block_lt_of_cell? w _ hx217_0)).trans hx217_0
                replace hx217_1 := (HB.out.cell (World.block_lt_of_cell? w _ hx217_1)).trans hx217_1
                replace hx217_2 := (HB.out.cell (World.block_lt_of_cell? w _ hx217_2)).trans hx217_2
                replace p217 := eq_true p217
                replace q217 := eq_true q217
                go_wp2
                repeat (go_quiet (fail); try go_wp2)
                go_roundg k1
                case measure => have := HK1.out; omega
                case rel => exact ⟨(wrap64 (x5_1 + 1)), (by first | rfl | (simp; done) | (simp [*]; done)), H', ⟨by have := HK1.out; omega⟩, ⟨by (with_reducible repeat (first | refine blk_drewN ?_ _ | refine blk_drew ?_ | refine blk_alloc ?_ _)); exact BK214.out⟩, ⟨by (with_reducible repeat (first | refine blk_drewN ?_ _ | refine blk_drew ?_ | refine blk_alloc ?_ _)); exact BK215.out⟩, ⟨by repeat (first | (with_reducible first | exact HB.out | apply below_alloc | apply pw_below_drewN | apply below_drew1 | refine below_set ?_ GE214.out | refine below_set ?_ GE215.out) | exact HB.out)⟩⟩
            · rw [if_neg c11] at H
              exact absurd H (by simp)
          · rw [if_neg c10] at H
            exact absurd H (by simp)
        · rw [if_neg c9] at H
          have c9b0 : decide (x5_1 < (l0_0.length : Int)) = false := decide_eq_false c9
          clear c9
          obtain rfl := Option.some.inj H
          have hnb19 := NB214_215.out
          have hnc19 := NB215_214.out
          have hcz20_0 : wr.cell? ⟨gb214, 0, none⟩ = some (.slice A0_0 l0_0.length c0_0) := (blk_cell BK214.out 0).trans rfl
          have hfz20_0 := blk_frozen BK214.out 0
          go_wp2
          repeat (go_quiet (fail); try go_wp2)
          go_ret
          exact ⟨by first | rfl | (simp [errW_none, errW_some] <;> rfl) | (simp [*, errW_none, errW_some] <;> rfl), by repeat (first | (with_reducible first | exact HB.out | apply below_alloc | apply pw_below_drewN | apply below_drew1 | refine below_set ?_ GE214.out | refine below_set ?_ GE215.out) | exact HB.out)⟩
  · rw [if_neg c3] at H
    have c3b0 : ((l0_0.length : Int) == (l1_0.length : Int)) = false := beq_eq_false_iff_ne.mpr c3
    have c3b1 : ((l0_0.length : Int) != (l1_0.length : Int)) = true := bne_iff_ne.mpr c3
    have c3b2 : (l0_0.length == l1_0.length) = false := by first | simpa using c3 | (simp at c3 ⊢; omega)
    obtain rfl := Option.some.inj H
    go_enter Try.func32, Try.ntmps32
    go_wp2_with (first | ((with_reducible refine gate_dst (N := 2) rfl ?_); refine box_event ?hg (N := 2) ?hd (cs := #[.slice A0_0 l0_0.length c0_0]) (t := 52) ?hr ?_; (case hd => rfl); (case hg => rfl); (case hr => first | (go_simp; done) | (go_simp; rfl)); intro gb214 hg w21 hbox hb; have n0_ := Aside0.mk (below_step (by repeat (first | (with_reducible first | exact HB.out | apply below_alloc | apply pw_below_drewN | apply below_drew1) | exact HB.out)) hb); have n1_ := Aside0.mk (hbox); have n2_ := Aside0.mk ((by rw [hg]; exact (below_size (by repeat (first | (with_reducible first | exact HB.out | apply below_alloc | apply pw_below_drewN | apply below_drew1) | exact HB.out))) : w.heap.size ≤ gb214)); have n3_ := Aside0.mk ((by rw [hg]; exact (below_size (by repeat (first | (with_reducible first | exact HB.out | apply below_alloc | apply pw_below_drewN | apply below_drew1) | exact HB.out))) : w.heap.size ≤ gb214)); clear HB; have HB := n0_; have BK214 := n1_; have GW214 := n2_; have GE214 := n3_; clear n0_ n1_ n2_ n3_; clear hb hbox hg) | ((with_reducible refine gate_dst (N := 3) rfl ?_); refine box_event ?hg (N := 3) ?hd (cs := #[.slice A1_0 l1_0.length c1_0]) (t := 52) ?hr ?_; (case hd => rfl); (case hg => rfl); (case hr => first | (go_simp; done) | (go_simp; rfl)); intro gb215 hg w22 hbox hb; have n0_ := Aside0.mk (blk_below (g := gb214) (o := .cells #[.slice A0_0 l0_0.length c0_0] 52 (0, 0)) (by (with_reducible repeat (first | refine blk_drewN ?_ _ | refine blk_drew ?_ | refine blk_alloc ?_ _)); exact BK214.out) hb); have n1_ := Aside0.mk (below_step (by repeat (first | (with_reducible first | exact HB.out | apply below_alloc | apply pw_below_drewN | apply below_drew1 | refine below_set ?_ GE214.out) | exact HB.out)) hb); have n2_ := Aside0.mk (hbox); have n3_ := Aside0.mk ((by rw [hg]; exact (below_size (by repeat (first | (with_reducible first | exact HB.out | apply below_alloc | apply pw_below_drewN | apply below_drew1 | refine below_set ?_ GE214.out) | exact HB.out))) : w.heap.size ≤ gb215)); have n4_ := Aside0.mk ((by rw [hg]; exact (below_size (by repeat (first | (with_reducible first | exact HB.out | apply below_alloc | apply pw_below_drewN | apply below_drew1 | refine below_set ?_ GE214.out) | exact HB.out))) : w.heap.size ≤ gb215)); have n5_ := Aside0.mk ((by rw [hg]; exact Nat.ne_of_lt (blk_lt (g := gb214) (o := .cells #[.slice A0_0 l0_0.length c0_0] 52 (0, 0)) (by (with_reducible repeat (first | refine blk_drewN ?_ _ | refine blk_drew ?_ | refine blk_alloc ?_ _)); exact BK214.out)) : gb214 ≠ gb215)); have n6_ := Aside0.mk ((by rw [hg]; exact Nat.ne_of_gt (blk_lt (g := gb214) (o := .cells #[.slice A0_0 l0_0.length c0_0] 52 (0, 0)) (by (with_reducible repeat (first | refine blk_drewN ?_ _ | refine blk_drew ?_ | refine blk_alloc ?_ _)); exact BK214.out)) : gb215 ≠ gb214)); clear BK214; clear HB; have BK214 := n0_; have HB := n1_; have BK215 := n2_; have GW215 := n3_; have GE215 := n4_; have NB214_215 := n5_; have NB215_214 := n6_; clear n0_ n1_ n2_ n3_ n4_ n5_ n6_; clear hb hbox hg; have hnb23 := NB214_215.out; have hnc23 := NB215_214.out; have hcz24_0 : w22.cell? ⟨gb214, 0, none⟩ = some (.slice A0_0 l0_0.length c0_0) := (blk_cell BK214.out 0).trans rfl; have hfz24_0 := blk_frozen BK214.out 0; have hcz25_0 : w22.cell? ⟨gb215, 0, none⟩ = some (.slice A1_0 l1_0.length c1_0) := (blk_cell BK215.out 0).trans rfl; have hfz25_0 := blk_frozen BK215.out 0))
    repeat (go_quiet (first | ((with_reducible refine gate_dst (N := 2) rfl ?_); refine box_event ?hg (N := 2) ?hd (cs := #[.slice A0_0 l0_0.length c0_0]) (t := 52) ?hr ?_; (case hd => rfl); (case hg => rfl); (case hr => first | (go_simp; done) | (go_simp; rfl)); intro gb214 hg w21 hbox hb; have n0_ := Aside0.mk (below_step (by repeat (first | (with_reducible first | exact HB.out | apply below_alloc | apply pw_below_drewN | apply below_drew1) | exact HB.out)) hb); have n1_ := Aside0.mk (hbox); have n2_ := Aside0.mk ((by rw [hg]; exact (below_size (by repeat (first | (with_reducible first | exact HB.out | apply below_alloc | apply pw_below_drewN | apply below_drew1) | exact HB.out))) : w.heap.size ≤ gb214)); have n3_ := Aside0.mk ((by rw [hg]; exact (below_size (by repeat (first | (with_reducible first | exact HB.out | apply below_alloc | apply pw_below_drewN | apply below_drew1) | exact HB.out))) : w.heap.size ≤ gb214)); clear HB; have HB := n0_; have BK214 := n1_; have GW214 := n2_; have GE214 := n3_; clear n0_ n1_ n2_ n3_; clear hb hbox hg) | ((with_reducible refine gate_dst (N := 3) rfl ?_); refine box_event ?hg (N := 3) ?hd (cs := #[.slice A1_0 l1_0.length c1_0]) (t := 52) ?hr ?_; (case hd => rfl); (case hg => rfl); (case hr => first | (go_simp; done) | (go_simp; rfl)); intro gb215 hg w22 hbox hb; have n0_ := Aside0.mk (blk_below (g := gb214) (o := .cells #[.slice A0_0 l0_0.length c0_0] 52 (0, 0)) (by (with_reducible repeat (first | refine blk_drewN ?_ _ | refine blk_drew ?_ | refine blk_alloc ?_ _)); exact BK214.out) hb); have n1_ := Aside0.mk (below_step (by repeat (first | (with_reducible first | exact HB.out | apply below_alloc | apply pw_below_drewN | apply below_drew1 | refine below_set ?_ GE214.out) | exact HB.out)) hb); have n2_ := Aside0.mk (hbox); have n3_ := Aside0.mk ((by rw [hg]; exact (below_size (by repeat (first | (with_reducible first | exact HB.out | apply below_alloc | apply pw_below_drewN | apply below_drew1 | refine below_set ?_ GE214.out) | exact HB.out))) : w.heap.size ≤ gb215)); have n4_ := Aside0.mk ((by rw [hg]; exact (below_size (by repeat (first | (with_reducible first | exact HB.out | apply below_alloc | apply pw_below_drewN | apply below_drew1 | refine below_set ?_ GE214.out) | exact HB.out))) : w.heap.size ≤ gb215)); have n5_ := Aside0.mk ((by rw [hg]; exact Nat.ne_of_lt (blk_lt (g := gb214) (o := .cells #[.slice A0_0 l0_0.length c0_0] 52 (0, 0)) (by (with_reducible repeat (first | refine blk_drewN ?_ _ | refine blk_drew ?_ | refine blk_alloc ?_ _)); exact BK214.out)) : gb214 ≠ gb215)); have n6_ := Aside0.mk ((by rw [hg]; exact Nat.ne_of_gt (blk_lt (g := gb214) (o := .cells #[.slice A0_0 l0_0.length c0_0] 52 (0, 0)) (by (with_reducible repeat (first | refine blk_drewN ?_ _ | refine blk_drew ?_ | refine blk_alloc ?_ _)); exact BK214.out)) : gb215 ≠ gb214)); clear BK214; clear HB; have BK214 := n0_; have HB := n1_; have BK215 := n2_; have GW215 := n3_; have GE215 := n4_; have NB214_215 := n5_; have NB215_214 := n6_; clear n0_ n1_ n2_ n3_ n4_ n5_ n6_; clear hb hbox hg; have hnb23 := NB214_215.out; have hnc23 := NB215_214.out; have hcz24_0 : w22.cell? ⟨gb214, 0, none⟩ = some (.slice A0_0 l0_0.length c0_0) := (blk_cell BK214.out 0).trans rfl; have hfz24_0 := blk_frozen BK214.out 0; have hcz25_0 : w22.cell? ⟨gb215, 0, none⟩ = some (.slice A1_0 l1_0.length c1_0) := (blk_cell BK215.out 0).trans rfl; have hfz25_0 := blk_frozen BK215.out 0)); try go_wp2_with (first | ((with_reducible refine gate_dst (N := 2) rfl ?_); refine box_event ?hg (N := 2) ?hd (cs := #[.slice A0_0 l0_0.length c0_0]) (t := 52) ?hr ?_; (case hd => rfl); (case hg => rfl); (case hr => first | (go_simp; done) | (go_simp; rfl)); intro gb214 hg w21 hbox hb; have n0_ := Aside0.mk (below_step (by repeat (first | (with_reducible first | exact HB.out | apply below_alloc | apply pw_below_drewN | apply below_drew1) | exact HB.out)) hb); have n1_ := Aside0.mk (hbox); have n2_ := Aside0.mk ((by rw [hg]; exact (below_size (by repeat (first | (with_reducible first | exact HB.out | apply below_alloc | apply pw_below_drewN | apply below_drew1) | exact HB.out))) : w.heap.size ≤ gb214)); have n3_ := Aside0.mk ((by rw [hg]; exact (below_size (by repeat (first | (with_reducible first | exact HB.out | apply below_alloc | apply pw_below_drewN | apply below_drew1) | exact HB.out))) : w.heap.size ≤ gb214)); clear HB; have HB := n0_; have BK214 := n1_; have GW214 := n2_; have GE214 := n3_; clear n0_ n1_ n2_ n3_; clear hb hbox hg) | ((with_reducible refine gate_dst (N := 3) rfl ?_); refine box_event ?hg (N := 3) ?hd (cs := #[.slice A1_0 l1_0.length c1_0]) (t := 52) ?hr ?_; (case hd => rfl); (case hg => rfl); (case hr => first | (go_simp; done) | (go_simp; rfl)); intro gb215 hg w22 hbox hb; have n0_ := Aside0.mk (blk_below (g := gb214) (o := .cells #[.slice A0_0 l0_0.length c0_0] 52 (0, 0)) (by (with_reducible repeat (first | refine blk_drewN ?_ _ | refine blk_drew ?_ | refine blk_alloc ?_ _)); exact BK214.out) hb); have n1_ := Aside0.mk (below_step (by repeat (first | (with_reducible first | exact HB.out | apply below_alloc | apply pw_below_drewN | apply below_drew1 | refine below_set ?_ GE214.out) | exact HB.out)) hb); have n2_ := Aside0.mk (hbox); have n3_ := Aside0.mk ((by rw [hg]; exact (below_size (by repeat (first | (with_reducible first | exact HB.out | apply below_alloc | apply pw_below_drewN | apply below_drew1 | refine below_set ?_ GE214.out) | exact HB.out))) : w.heap.size ≤ gb215)); have n4_ := Aside0.mk ((by rw [hg]; exact (below_size (by repeat (first | (with_reducible first | exact HB.out | apply below_alloc | apply pw_below_drewN | apply below_drew1 | refine below_set ?_ GE214.out) | exact HB.out))) : w.heap.size ≤ gb215)); have n5_ := Aside0.mk ((by rw [hg]; exact Nat.ne_of_lt (blk_lt (g := gb214) (o := .cells #[.slice A0_0 l0_0.length c0_0] 52 (0, 0)) (by (with_reducible repeat (first | refine blk_drewN ?_ _ | refine blk_drew ?_ | refine blk_alloc ?_ _)); exact BK214.out)) : gb214 ≠ gb215)); have n6_ := Aside0.mk ((by rw [hg]; exact Nat.ne_of_gt (blk_lt (g := gb214) (o := .cells #[.slice A0_0 l0_0.length c0_0] 52 (0, 0)) (by (with_reducible repeat (first | refine blk_drewN ?_ _ | refine blk_drew ?_ | refine blk_alloc ?_ _)); exact BK214.out)) : gb215 ≠ gb214)); clear BK214; clear HB; have BK214 := n0_; have HB := n1_; have BK215 := n2_; have GW215 := n3_; have GE215 := n4_; have NB214_215 := n5_; have NB215_214 := n6_; clear n0_ n1_ n2_ n3_ n4_ n5_ n6_; clear hb hbox hg; have hnb23 := NB214_215.out; have hnc23 := NB215_214.out; have hcz24_0 : w22.cell? ⟨gb214, 0, none⟩ = some (.slice A0_0 l0_0.length c0_0) := (blk_cell BK214.out 0).trans rfl; have hfz24_0 := blk_frozen BK214.out 0; have hcz25_0 : w22.cell? ⟨gb215, 0, none⟩ = some (.slice A1_0 l1_0.length c1_0) := (blk_cell BK215.out 0).trans rfl; have hfz25_0 := blk_frozen BK215.out 0)))
    go_ret
    exact ⟨by first | rfl | (simp [errW_none, errW_some] <;> rfl) | (simp [*, errW_none, errW_some] <;> rfl), by repeat (first | (with_reducible first | exact HB.out | apply below_alloc | apply pw_below_drewN | apply below_drew1 | refine below_set ?_ GE214.out | refine below_set ?_ GE215.out) | exact HB.out)⟩

/-! ### impl_File_126: function 126 -/
set_option maxHeartbeats 4000000 in
set_option maxRecDepth 100000 in
/-- slices.IndexFunc over files, with whatever function value answers 'p' and leaves what was as it was. -/
theorem fileIndexFunc (p : S60 → Bool) (g : Nat) (lb : Array Value) (eg : ∀ args w, (callFunc g args).run Try.prog w = .ok (.enter g args) w) (A0 : Option Addr) (c0 : Nat) (l0 : List S60) (w : World)
    (hr0 : Kd.C k60 w A0 l0.length l0) (hc0 : l0.length ≤ c0)
    (hp : ∀ (W : World) (x : S60), Below w.heap.size w W → Calls Try.prog g (#[.agg #[.string x.f0, .string x.f1, .int .i64 x.f2]] ++ lb) W fun e w' => e = .returned (.bool (p x)) ∧ Below W.heap.size W w') :
    Calls Try.prog 126 #[.slice A0 l0.length c0, .func (.func g) #[] lb] w fun e w' => e = .returned (.int .i64 (M.idxP p l0 0)) ∧ Below w.heap.size w w' := by
  have hu := Try.underlying60
  have HR0 := Aside0.mk hr0
  have hlen := hr0.2.1
  have HP := Aside0.mk hp
  have HC0 := Aside0.mk hc0
  clear hr0 hc0 hp
  generalize hn : l0.length = n at *
  have HN := Aside0.mk hn
  clear hn
  go_enter Try.func126, Try.ntmps126
  go_wp2
  go_loopg [5, 8] n (fun gg _ s8 wr => ∃ kk : Nat, kk ≤ n ∧ n - kk ≤ gg ∧ s8 = .int .i64 kk ∧ Aside0 (Below w.heap.size w wr) ∧ Aside0 (M.idxP p l0 0 = M.idxP p (l0.drop kk) kk))
  case atStart => exact ⟨0, Nat.zero_le _, by omega, rfl, ⟨Below.refl _ w⟩, ⟨rfl⟩⟩
  case round =>
    obtain ⟨kk, hkk, hg, rfl, HB, HA⟩ := hrel
    by_cases hlt : kk < n
    · have hltz : (kk : Int) < (n : Int) := by omega
      have hl0 : kk < l0.length := by rw [HN.out]; exact hlt
      obtain ⟨ad, e0, hx0, hx1, hx2⟩ := at_T60 HR0.out (kk : Int) (by omega) (by omega)
      cases e0
      simp only [Int.toNat_natCast] at hx0 hx1 hx2
      replace hx0 := (HB.out.cell (World.block_lt_of_cell? w _ hx0)).trans hx0
      replace hx1 := (HB.out.cell (World.block_lt_of_cell? w _ hx1)).trans hx1
      replace hx2 := (HB.out.cell (World.block_lt_of_cell? w _ hx2)).trans hx2
      have hdrop : M.idxP p (l0.drop kk) kk = if p (rd_T60 l0 (kk : Int)) = true then (kk : Int) else M.idxP p (l0.drop (kk + 1)) ((kk + 1 : Nat) : Int) := by
        rw [List.drop_eq_getElem_cons hl0]
        have : rd_T60 l0 (kk : Int) = l0[kk] := by simp [rd_T60, List.getD_eq_getElem?_getD, List.getElem?_eq_getElem hl0]
        rw [this]; rfl
      have HD := Aside0.mk hdrop
      clear hdrop hl0
      generalize rd_T60 l0 (kk : Int) = x at *
      have hcall := HP.out wr x HB.out
      cases hq : p x with
      | true =>
        rw [hq] at hcall
        have HQ := Aside0.mk hq
        clear hq
        go_wp2_with (go_at_fn g; refine hcall.mono ?_; rintro e w' ⟨rfl, hb'⟩)
        go_ret
        refine ⟨?_, below_then HB.out HB.out.size hb'⟩
        rw [HA.out, HD.out, if_pos HQ.out]
        rfl
      | false =>
        rw [hq] at hcall
        have HQ := Aside0.mk hq
        clear hq
        go_wp2_with (go_at_fn g; refine hcall.mono ?_; rintro e w' ⟨rfl, hb'⟩)
        go_roundg (n - (kk + 1))
        case measure => omega
        case rel =>
          refine ⟨kk + 1, by omega, by omega, by go_num, ⟨below_then HB.out HB.out.size hb'⟩, ⟨?_⟩⟩
          rw [HA.out, HD.out, if_neg (by rw [HQ.out]; simp)]
    · have hltz : ¬ (kk : Int) < (n : Int) := by omega
      go_wp2
      go_ret
      refine ⟨?_, HB.out⟩
      rw [HA.out, List.drop_of_length_le (by rw [HN.out]; omega)]
      rfl

/-! ### impl_File_87: function 87 -/
set_option maxHeartbeats 4000000 in
set_option maxRecDepth 100000 in
/-- slices.ContainsFunc over files. -/
theorem fileContainsFunc (p : S60 → Bool) (g : Nat) (lb : Array Value) (eg : ∀ args w, (callFunc g args).run Try.prog w = .ok (.enter g args) w) (A0 : Option Addr) (c0 : Nat) (l0 : List S60) (w : World)
    (hr0 : Kd.C k60 w A0 l0.length l0) (hc0 : l0.length ≤ c0)
    (hp : ∀ (W : World) (x : S60), Below w.heap.size w W → Calls Try.prog g (#[.agg #[.string x.f0, .string x.f1, .int .i64 x.f2]] ++ lb) W fun e w' => e = .returned (.bool (p x)) ∧ Below W.heap.size W w') :
    Calls Try.prog 87 #[.slice A0 l0.length c0, .func (.func g) #[] lb] w fun e w' => e = .returned (.bool (decide (0 ≤ M.idxP p l0 0))) ∧ Below w.heap.size w w' := by
  have HX := Aside0.mk (fileIndexFunc p g lb eg A0 c0 l0 w hr0 hc0 hp)
  clear hr0 hc0 hp eg
  generalize M.idxP p l0 0 = r at *
  go_enter Try.func87, Try.ntmps87
  go_wp2_with (go_at_call 126; refine HX.out.mono ?_; rintro e w' ⟨rfl, hb'⟩)
  go_ret
  exact ⟨by first | rfl | (simp; done), hb'⟩

/-! ### impl_AllKept: function 33 -/
def impl_AllKept.f (k : Nat) (l0_0 : List S60) : Option Bool := (impl_DiskOk.f k l0_0).bind fun t => if t = true then some (!decide (0 ≤ M.idxP (fun x : S60 => x.f2 != (x.f1.size : Int)) l0_0 0)) else some false
theorem impl_AllKept.mono : ∀ a0 k, LeO (impl_AllKept.f k a0) (impl_AllKept.f (k + 1) a0) :=
  fun a0 k => LeO.bind (impl_DiskOk.mono a0 k) (fun _ => LeO.refl _)
set_option maxHeartbeats 4000000 in
set_option maxRecDepth 100000 in
theorem impl_AllKept.one (x0 x1 : ByteArray) (x2 : Int) (w : World) :
    Calls Try.prog 88 #[.agg #[.string x0, .string x1, .int .i64 x2]] w fun e w' => e = .returned (.bool (x2 != (x1.size : Int))) ∧ Below w.heap.size w w' := by
  have hu := Try.underlying60
  go_enter Try.func88, Try.ntmps88
  go_wp2
  repeat (go_quiet (fail); try go_wp2)
  go_ret
  exact ⟨by first | rfl | (simp [bne]; done), by repeat (first | exact Below.refl _ _ | apply below_alloc | apply pw_below_drewN | apply below_drew1)⟩
set_option maxHeartbeats 4000000 in
set_option maxRecDepth 100000 in
theorem impl_AllKept.calls (k : Nat) (A0_0 : Option Addr) (c0_0 : Nat) (l0_0 : List S60) (r : Bool) (w : World) (hr0_0 : Kd.C k60 w A0_0 l0_0.length l0_0) (hc0_0 : l0_0.length ≤ c0_0) (h : impl_AllKept.f k l0_0 = some r) :
    Calls Try.prog 33 #[.agg #[.slice A0_0 l0_0.length c0_0]] w fun e w' => e = .returned (.bool r) ∧ Below w.heap.size w w' := by
  obtain ⟨t, ht, hr⟩ := Option.bind_eq_some_iff.mp h
  clear h
  have hu := Try.underlying52
  have HR := Aside0.mk hr0_0
  have HC := Aside0.mk hc0_0
  clear hr0_0 hc0_0
  have eg : ∀ args w, (callFunc 88 args).run Try.prog w = .ok (.enter 88 args) w := enters_of Try.func88 (by kernel_rfl) rfl
  have hB1 : Below w.heap.size w (w.alloc (.cells #[.slice A0_0 l0_0.length c0_0] 52)) := below_alloc (Below.refl _ _) _
  have hb0 : (w.alloc (.cells #[.slice A0_0 l0_0.length c0_0] 52)).heap[w.heap.size]? = some (.cells #[.slice A0_0 l0_0.length c0_0] 52 (0, 0)) := by
    simpa using heap_alloc_new w (.cells #[.slice A0_0 l0_0.length c0_0] 52)
  have HL := Aside0.mk (blk_lt hb0)
  have HC0 := Aside0.mk ((blk_cell hb0 0).trans rfl : (w.alloc (.cells #[.slice A0_0 l0_0.length c0_0] 52)).cell? ⟨w.heap.size, 0, none⟩ = some (.slice A0_0 l0_0.length c0_0))
  have HB1 := Aside0.mk hB1
  clear hB1 hb0
  have HT := Aside0.mk ht
  clear ht
  cases t with
  | false =>
    obtain rfl : false = r := by simpa using hr
    clear hr eg
    go_enter Try.func33, Try.ntmps33
    go_wp2_with (go_at_call 34; refine (impl_DiskOk.calls k _ _ l0_0 false _ (Kd.C_alloc HR.out _) HC.out HT.out).mono ?_; rintro e w' ⟨rfl, hb'⟩)
    go_ret
    exact ⟨rfl, below_then HB1.out HB1.out.size hb'⟩
  | true =>
    obtain rfl : (!decide (0 ≤ M.idxP (fun x : S60 => x.f2 != (x.f1.size : Int)) l0_0 0)) = r := by simpa using hr
    clear hr
    go_enter Try.func33, Try.ntmps33
    go_wp2_with (first
      | (go_at_call 34; refine (impl_DiskOk.calls k _ _ l0_0 true _ (Kd.C_alloc HR.out _) HC.out HT.out).mono ?_; rintro e w' ⟨rfl, hb'⟩; have hc1 := (hb'.cell (p := ⟨w.heap.size, 0, none⟩) HL.out).trans HC0.out; have HB' := Aside0.mk hb'; clear hb')
      | (go_at_call 87; refine (fileContainsFunc (fun x : S60 => x.f2 != (x.f1.size : Int)) 88 #[] eg A0_0 c0_0 l0_0 _ (Kd.C_below (Kd.C_alloc HR.out _) HB'.out) HC.out (fun W x _ => impl_AllKept.one x.f0 x.f1 x.f2 W)).mono ?_; rintro e w'' ⟨rfl, hb''⟩))
    go_ret
    exact ⟨rfl, below_then (below_then HB1.out HB1.out.size HB'.out) (below_then HB1.out HB1.out.size HB'.out).size hb''⟩

/-! ### laws_begins: function 35 -/
def laws_begins.f (a0 : ByteArray) (a1 : ByteArray) : Option (Bool) := if (a0.size : Int) ≤ (a1.size : Int) then (if 0 ≤ (a0.size : Int) then (some ((a1.extract 0 ((a0.size : Int) : Int).toNat).toList == a0.toList)) else (none)) else (some false)
set_option maxHeartbeats 8000000 in
set_option maxRecDepth 100000 in
theorem laws_begins.calls (a0 : ByteArray) (a1 : ByteArray) (r : Bool) (w : World) (h : laws_begins.f a0 a1 = some r) :
    Calls Try.prog 35 #[.string a0, .string a1] w fun e w' => e = .returned (.bool r) ∧ Drawn0 w w' := by
  have H : (if (a0.size : Int) ≤ (a1.size : Int) then (if 0 ≤ (a0.size : Int) then (some ((a1.extract 0 ((a0.size : Int) : Int).toNat).toList == a0.toList)) else (none)) else (some false)) = some r := h
  clear h
  by_cases c3 : (a0.size : Int) ≤ (a1.size : Int)
  · rw [if_pos c3] at H
    have c3b0 : decide ((a0.size : Int) ≤ (a1.size : Int)) = true := decide_eq_true c3
    have c3b1 : decide (a0.size ≤ a1.size) = true := decide_eq_true (Int.ofNat_le.mp c3)
    clear c3
    by_cases c4 : 0 ≤ (a0.size : Int)
    · rw [if_pos c4] at H
      have c4b0 := eq_true c4
      have c4b1 : decide (0 ≤ (a0.size : Int)) = true := decide_eq_true c4
      clear c4
      have c5b0 := eq_true (of_decide_eq_true (by first | (with_reducible assumption) | assumption) : (a0.size : Int) ≤ (a1.size : Int))
      obtain rfl := Option.some.inj H
      go_enter Try.func35, Try.ntmps35
      go_wp2
      go_ret
      exact ⟨by first | rfl | (simp; done) | (simp [*]; done), by repeat (first | exact Drawn0.refl _ | apply Drawn0.step)⟩
    · rw [if_neg c4] at H
      exact absurd H (by simp)
  · rw [if_neg c3] at H
    have c3b0 : decide ((a0.size : Int) ≤ (a1.size : Int)) = false := decide_eq_false c3
    have c3b1 : decide (a0.size ≤ a1.size) = false := decide_eq_false (fun h => c3 (Int.ofNat_le.mpr h))
    clear c3
    obtain rfl := Option.some.inj H
    go_enter Try.func35, Try.ntmps35
    go_wp2
    go_ret
    exact ⟨by first | rfl | (simp; done) | (simp [*]; done), by repeat (first | exact Drawn0.refl _ | apply Drawn0.step)⟩

end Go.Proofs.Ytknbkjajfiediaa.QFnKeeps
