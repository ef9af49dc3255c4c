/- Of the print's words (YtolakamimfhcjaaGreatDoorMathTab) those that this claim's texts name. -/
import Derived.Lib.LaidTab
import Derived.Lib.ItoaNum
import Derived.Lib.Space
import Derived.Test.YtolakamimfhcjaaGreatDoorTMSem
import Derived.Test.YtolakamimfhcjaaGreatDoorTWords
import Derived.Test.YtolakamimfhcjaaGreatDoorProg
namespace Go.Proofs.YtolakamimfhcjaaGreatDoor
open Go Go.RowKit Go.Proofs.YtolakamimfhcjaaGreatDoorW.PrintWords
set_option linter.unusedVariables false
theorem var_keeps {P:Program} {w W:World} {n:String} {cs:Array Value} (h:w.var? P n=some cs) (hb:Below w.heap.size w W):W.var? P n=some cs:=by
  unfold World.var? at *
  cases hg:P.globalNamed n with
  |none=>simp [hg] at h
  |some g=>
    simp only [hg,Option.bind_some] at h⊢
    have hlt:g<w.heap.size:=by
      rcases Nat.lt_or_ge g w.heap.size with h'|h'
      · exact h'
      · rw [Array.getElem?_eq_none h'] at h;simp at h
    rw [hb.block g hlt]
    exact h
def Tab1 (w:World):Prop:=Lib.TabIs Tryz.prog w "internal/strconv.uint64pow10" .u64 Lib.pow10Tab
def Tab2 (w:World):Prop:=Tab1 w∧(∃tp p,w.var? Tryz.prog "strconv.ErrSyntax" =some #[.iface tp p])∧(∃tp p,w.var? Tryz.prog "strconv.ErrRange" =some #[.iface tp p])
theorem Tab1.keep {w W:World} (h:Tab1 w) (hb:Below w.heap.size w W):Tab1 W:=var_keeps h hb
theorem Tab2.keep {w W:World} (h:Tab2 w) (hb:Below w.heap.size w W):Tab2 W:=by
  obtain⟨h1,⟨t2,p2,h2⟩,t3,p3,h3⟩:=h
  exact⟨h1.keep hb,⟨t2,p2,var_keeps h2 hb⟩,t3,p3,var_keeps h3 hb⟩
def Tab3 (w:World):Prop:=Lib.TabIs Tryz.prog w "strings.asciiSpace" .u8 Lib.asciiSpaceTab
theorem Tab3.keep {w W:World} (h:Tab3 w) (hb:Below w.heap.size w W):Tab3 W:=var_keeps h hb
theorem tab11 {w W0 W:World} (h:Aside0 (Tab1 w)) (h0:Aside0 (Below w.heap.size w W0))
    (hb:Below w.heap.size w W:=by repeat(first|(with_reducible first|exact Aside0.out (by assumption)|apply below_alloc|apply pw_below_drewN|apply below_drew1|refine below_set ?_ (Aside0.out (by assumption)))|exact Aside0.out (by assumption))):Tab1 W:=h.out.keep hb
theorem tab22 {w W0 W:World} (h:Aside0 (Tab2 w)) (h0:Aside0 (Below w.heap.size w W0))
    (hb:Below w.heap.size w W:=by repeat(first|(with_reducible first|exact Aside0.out (by assumption)|apply below_alloc|apply pw_below_drewN|apply below_drew1|refine below_set ?_ (Aside0.out (by assumption)))|exact Aside0.out (by assumption))):Tab2 W:=h.out.keep hb
theorem tab21 {w W0 W:World} (h:Aside0 (Tab2 w)) (h0:Aside0 (Below w.heap.size w W0))
    (hb:Below w.heap.size w W:=by repeat(first|(with_reducible first|exact Aside0.out (by assumption)|apply below_alloc|apply pw_below_drewN|apply below_drew1|refine below_set ?_ (Aside0.out (by assumption)))|exact Aside0.out (by assumption))):Tab1 W:=(h.out.keep hb).1
end Go.Proofs.YtolakamimfhcjaaGreatDoor
