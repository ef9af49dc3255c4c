/- The law FnExactLogLast answers true at every input; no condition. -/
import Derived.Test.YtbdjdobockghhaaPFnExactLogLastx3
import Derived.Test.YtbdjdobockghhaaMath
namespace Go.Proofs.Ytbdjdobockghhaa.PFnExactLogLast
open Go.RowKit
/-- What is left to be shown of the law: over numbers, texts and lists alone. -/
def laws_FnExactLogLast.Pure : Prop := ∀ (a0_0 : Int) (a0_1 : Int) (l0_2 : List (S44)), ((Lit.int .i64 a0_0).wf = true ∧ (Lit.int .i64 a0_1).wf = true ∧ (l0_2.length ≤ maxLen ∧ ∀ x ∈ l0_2, ((Lit.int .i64 x.f0).wf = true ∧ (Lit.int .i64 x.f1).wf = true ∧ x.f2.size ≤ maxLen))) → ∃ k, laws_FnExactLogLast.f k a0_0 a0_1 l0_2 = some true
end Go.Proofs.Ytbdjdobockghhaa.PFnExactLogLast
namespace Go.Proofs.Ytbdjdobockghhaa.Pure
open Go.RowKit Go.Proofs.Ytbdjdobockghhaa.PFnExactLogLast Go.Proofs.YtbdjdobockghhaaW.PrintWords Go.Proofs.YtbdjdobockghhaaW.PrintLast Go.Proofs.YtbdjdobockghhaaW.PrintMore Go.Proofs.Ytbdjdobockghhaa.M
set_option linter.unusedVariables false
set_option linter.unusedSimpArgs false
set_option maxRecDepth 4000

theorem laws_szEntry_is (a b : Int) (c : ByteArray) (left : Int) (h0 : 0 ≤ left) (h1 : left ≤ 1048576) (hc : c.size ≤ maxLen) :
    ∃ r, laws_szEntry.f a b c left = some r ∧ (r < 0 ∨ 0 ≤ r ∧ r ≤ left ∧ (c.size : Int) ≤ left) := by
  unfold laws_szEntry.f
  simp only [maxLen] at hc
  rw [w64 (x := left - (c.size : Int)) (by omega) (by omega)]
  by_cases h : left - (c.size : Int) < 0
  · exact ⟨-1, by rw [if_pos h], .inl (by omega)⟩
  · exact ⟨_, by rw [if_neg h], .inr (by omega)⟩
abbrev LEn := S44
abbrev IEn := S47
def toEn (x : LEn) : IEn := ⟨x.f0, x.f1, x.f2⟩
theorem rd_LEn {l : List LEn} {i : Nat} (h : i < l.length) : rd_T44 l (i : Int) = l[i] := by
  simp [rd_T44, List.getD_eq_getElem?_getD, List.getElem?_eq_getElem h]
theorem rd_IEn {l : List IEn} {i : Nat} (h : i < l.length) : rd_T47 l (i : Int) = l[i] := by
  simp [rd_T47, List.getD_eq_getElem?_getD, List.getElem?_eq_getElem h]
theorem laws_szEntryS_l0 (l : List LEn) (hl : l.length ≤ 1048576) (hg : ∀ x ∈ l, x.f2.size ≤ maxLen) : ∀ (d i : Nat) (left : Int), i + d = l.length → 0 ≤ left → left ≤ 1048576 →
    ∃ r, Ev (fun k => laws_szEntryS.l0 k l left (i : Int)) r ∧ (r < 0 ∨ 0 ≤ r ∧ r ≤ left ∧ ∀ x ∈ l.drop i, (x.f2.size : Int) ≤ left)
  | 0, i, left, h, h0, h1 => by
    refine ⟨left, Ev.step (f := fun k => some left) (fun k => ?_) (Ev.now _), .inr ⟨h0, by omega, ?_⟩⟩
    · simp only [laws_szEntryS.l0]; rw [if_neg (by omega)]
    · rw [List.drop_of_length_le (by omega)]; simp
  | d + 1, i, left, h, h0, h1 => by
    have hi : i < l.length := by omega
    obtain ⟨r, hr, hx⟩ := laws_szEntry_is l[i].f0 l[i].f1 l[i].f2 left h0 h1 (hg _ (List.getElem_mem hi))
    rcases hx with hx | ⟨hx0, hx1, hx2⟩
    · refine ⟨-1, Ev.step (f := fun k => some (-1)) (fun k => ?_) (Ev.now _), .inl (by omega)⟩
      simp only [laws_szEntryS.l0]
      rw [if_pos (by omega), if_pos (by omega), rd_LEn hi, hr, Option.bind_some, if_pos hx]
    · obtain ⟨r', hr', hy⟩ := laws_szEntryS_l0 l hl hg d (i + 1) r (by omega) (by omega) (by omega)
      refine ⟨r', Ev.step (f := fun k => laws_szEntryS.l0 k l r ((i + 1 : Nat) : Int)) (fun k => ?_) hr', ?_⟩
      · simp only [laws_szEntryS.l0]
        rw [if_pos (by omega), if_pos (by omega), rd_LEn hi, hr, Option.bind_some, if_neg (by omega), w64 (x := (i : Int) + 1) (by omega) (by omega)]; rfl
      · rcases hy with hy | ⟨hy0, hy1, hy2⟩
        · exact .inl hy
        · refine .inr ⟨hy0, by omega, ?_⟩
          rw [List.drop_eq_getElem_cons hi]
          intro x hx
          rcases List.mem_cons.1 hx with rfl | hx
          · exact hx2
          · have := hy2 x hx; omega
theorem laws_szEntryS_ev (l : List LEn) (left : Int) (hl : l.length ≤ maxLen) (hg : ∀ x ∈ l, x.f2.size ≤ maxLen) (h0 : 0 ≤ left) (h1 : left ≤ 1048576) :
    ∃ r, Ev (fun k => laws_szEntryS.f k l left) r ∧ (r < 0 ∨ 0 ≤ r ∧ r ≤ left ∧ l.length ≤ 1048576 ∧ ∀ x ∈ l, (x.f2.size : Int) ≤ left) := by
  simp only [maxLen] at hl
  have e : wrap64 (left - (l.length : Int)) = left - l.length := w64 (by omega) (by omega)
  by_cases h : left - (l.length : Int) < 0
  · exact ⟨-1, by unfold laws_szEntryS.f; rw [e]; exact Ev.pos h (Ev.now _), .inl (by omega)⟩
  · obtain ⟨r, hr, hx⟩ := laws_szEntryS_l0 l (by omega) hg l.length 0 (left - l.length) (by omega) (by omega) (by omega)
    refine ⟨r, by unfold laws_szEntryS.f; rw [e]; exact Ev.neg h hr, ?_⟩
    rcases hx with hx | ⟨hx0, hx1, hx2⟩
    · exact .inl hx
    · exact .inr ⟨hx0, by omega, by omega, fun x hx => by have := hx2 x (by simpa using hx); omega⟩
theorem laws_szLog_ev (a b : Int) (l : List LEn) (left : Int) (hl : l.length ≤ maxLen) (hg : ∀ x ∈ l, x.f2.size ≤ maxLen) (h0 : 0 ≤ left) (h1 : left ≤ 1048576) :
    ∃ r, Ev (fun k => laws_szLog.f k a b l left) r ∧ (r < 0 ∨ 0 ≤ r ∧ r ≤ left ∧ l.length ≤ 1048576 ∧ ∀ x ∈ l, (x.f2.size : Int) ≤ left) := by
  obtain ⟨r, hr, hx⟩ := laws_szEntryS_ev l left hl hg h0 h1
  by_cases h : r < 0
  · exact ⟨-1, by unfold laws_szLog.f; exact Ev.bind hr (Ev.pos h (Ev.now _)), .inl (by omega)⟩
  · refine ⟨r, by unfold laws_szLog.f; exact Ev.bind hr (Ev.neg h (Ev.now _)), ?_⟩
    rcases hx with hx | hx
    · exact absurd hx h
    · exact .inr hx
def logLast (a b : Int) (l : List IEn) : Int × Int := if l.length = 0 then (a, b) else (wrap64 (a + (l.length : Int)), (rd_T47 l ((l.length : Int) - 1)).f0)
theorem spec_LogLast_is (a b : Int) (l : List IEn) (hl : l.length ≤ 1048576) : spec_LogLast.f a b l = some (logLast a b l) := by
  unfold spec_LogLast.f logLast
  by_cases h : (l.length : Int) = 0
  · rw [if_pos h, if_pos (by omega)]
  · rw [if_neg h, w64 (x := (l.length : Int) - 1) (by omega) (by omega), if_pos (by omega), if_pos (by omega), if_neg (by omega)]
theorem laws_toEntry_is (a b : Int) (c : ByteArray) : laws_toEntry.f a b c = some (a, b, c) := rfl
theorem laws_toEntryS_l0 (l : List LEn) (hl : l.length ≤ 1048576) : ∀ (d i : Nat), i + d = l.length →
    Ev (fun k => laws_toEntryS.l0 k l ((l.map toEn).take i ++ List.replicate (l.length - i) z47) (i : Int)) (l.map toEn)
  | 0, i, h => by
    refine Ev.step (f := fun k => some ((l.map toEn).take i ++ List.replicate (l.length - i) z47)) (fun k => ?_) ((Ev.now _).eq ?_)
    · simp only [laws_toEntryS.l0]; rw [if_neg (by omega)]
    · obtain rfl : i = l.length := by omega
      rw [List.take_of_length_le (by simp)]; simp
  | d + 1, i, h => by
    have hi : i < l.length := by omega
    refine Ev.step (f := fun k => laws_toEntryS.l0 k l ((l.map toEn).take (i + 1) ++ List.replicate (l.length - (i + 1)) z47) ((i + 1 : Nat) : Int)) (fun k => ?_) (laws_toEntryS_l0 l hl d (i + 1) (by omega))
    simp only [laws_toEntryS.l0]
    rw [if_pos (by omega), if_pos (by omega), rd_LEn hi, laws_toEntry_is, Option.bind_some, if_pos (by simp [List.length_take]; omega), w64 (x := (i : Int) + 1) (by omega) (by omega)]
    rw [Int.toNat_natCast]
    have e := fill_step (l.map toEn) z47 i l.length (by simpa using hi) (by simp)
    rw [← e, List.getElem_map]; rfl
theorem laws_toEntryS_ev (l : List LEn) (hl : l.length ≤ 1048576) : Ev (fun k => laws_toEntryS.f k l) (l.map toEn) := by
  unfold laws_toEntryS.f
  refine Ev.pos (by omega) (Ev.pos (by omega) ?_)
  have := laws_toEntryS_l0 l hl l.length 0 (by omega)
  simpa using this
theorem laws_toLog_ev (a b : Int) (l : List LEn) (hl : l.length ≤ 1048576) : Ev (fun k => laws_toLog.f k a b l) (a, b, l.map toEn) := by
  unfold laws_toLog.f
  exact Ev.bind (laws_toEntryS_ev l hl) (Ev.now _)
theorem impl_LogLast_is (a b : Int) (l : List IEn) (hl : l.length ≤ 1048576) : impl_LogLast.f a b l = some (logLast a b l) := by
  unfold impl_LogLast.f logLast
  by_cases h : (l.length : Int) = 0
  · rw [if_pos h, if_pos (by omega)]
  · rw [if_neg h, w64 (x := (l.length : Int) - 1) (by omega) (by omega), if_pos (by omega), if_pos (by omega), if_neg (by omega)]
theorem laws_eqEntry_is (a b : Int) (c : ByteArray) : laws_eqEntry.f a b c a b c = some true := by
  unfold laws_eqEntry.f; simp
theorem laws_eqEntryS_l0 (l : List IEn) (hl : l.length ≤ 1048577) : ∀ (d i : Nat), i + d = l.length → Ev (fun k => laws_eqEntryS.l0 k l l (i : Int)) true
  | 0, i, h => by
    refine Ev.step (f := fun k => some true) (fun k => ?_) (Ev.now _)
    simp only [laws_eqEntryS.l0]; rw [if_neg (by omega)]
  | d + 1, i, h => by
    refine Ev.step (f := fun k => laws_eqEntryS.l0 k l l ((i + 1 : Nat) : Int)) (fun k => ?_) (laws_eqEntryS_l0 l hl d (i + 1) (by omega))
    simp only [laws_eqEntryS.l0]
    rw [if_pos (by omega), if_pos (by omega), if_pos (by omega), laws_eqEntry_is, Option.bind_some, if_pos rfl, w64 (x := (i : Int) + 1) (by omega) (by omega)]; rfl
theorem laws_eqEntryS_ev (l : List IEn) (hl : l.length ≤ 1048577) : Ev (fun k => laws_eqEntryS.f k l l) true := by
  unfold laws_eqEntryS.f
  exact Ev.pos rfl (laws_eqEntryS_l0 l hl l.length 0 (by omega))
theorem laws_eqLog_ev (a b : Int) (l : List IEn) (hl : l.length ≤ 1048577) : Ev (fun k => laws_eqLog.f k a b l a b l) true := by
  unfold laws_eqLog.f
  exact Ev.pos rfl (Ev.pos rfl (Ev.bind (laws_eqEntryS_ev l hl) (Ev.pos rfl (Ev.now _))))
theorem FnExactLogLast : laws_FnExactLogLast.Pure := by
  intro a b l hg
  obtain ⟨ha, hb, hl, hx⟩ := hg
  apply Ev.rounds
  unfold laws_FnExactLogLast.f
  obtain ⟨r, hr, hz⟩ := laws_szLog_ev a b l 1048576 hl (fun x h => (hx x h).2.2) (by omega) (by omega)
  refine Ev.bind hr ?_
  rcases hz with hz | ⟨h0, h1, h2, h3⟩
  · exact Ev.pos hz (Ev.now _)
  · have hm : (l.map toEn).length ≤ 1048576 := by simpa using h2
    refine Ev.neg (by omega) (Ev.bind (laws_toLog_ev a b l h2) (Ev.bind0 (spec_LogLast_is _ _ _ hm) (Ev.bind (laws_toLog_ev a b l h2) (Ev.bind0 (impl_LogLast_is _ _ _ hm) (Ev.pos rfl ?_)))))
    exact Ev.step (fun k => rfl) (Ev.neg (by simp) (Ev.bind (laws_toLog_ev a b l h2) (Ev.bind (laws_eqLog_ev a b (l.map toEn) (by omega)) (Ev.pos rfl (Ev.now _)))))

end Go.Proofs.Ytbdjdobockghhaa.Pure
