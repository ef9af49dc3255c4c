/- Written by this session's own program (wip/tpl/pp.py): what the law's functions come to, and that the machine's calls do just that. -/
import Derived.Test.YthddngmncmhkoaaProg
import Derived.Below
import Derived.Deep.Draws
import Derived.Deep.AppendLies
import Derived.Maps.AppendAt
import Derived.OwnWalk
import Derived.Laws.BytesArg
import Derived.Laws.MakeOwn
import Derived.Laws.OwnMore
import Derived.Deep.OwnRows
import Derived.Tactics
import Derived.Lib.ConvBytes
import Derived.Laws.Slices
import Derived.WalkKit
import Derived.KernelRfl
import Derived.RowKit3
import Derived.Deep.LoopGhost
import Derived.Deep.QuietTactic
import Derived.BigQuiet
import Derived.WideLaws
import Derived.Deep.DeepCutAuto
import Derived.Deep.CutBlock
import Derived.Deep.RegionHeld3
import Derived.Laws.Rows
import Derived.Lib.AppendStr
import Derived.ArgAppend
import Derived.Laws.IdiomCopy
import Derived.OrdersHeld
import Derived.Laws.BitsLemmas
import Derived.RowKit
import Derived.Test.YthddngmncmhkoaaMathSem
import Derived.Shelf.Abstract
import Derived.Test.YthddngmncmhkoaaMath
import Derived.Test.YthddngmncmhkoaaWWords
import Derived.Test.YthddngmncmhkoaaWLast
import Derived.Test.YthddngmncmhkoaaWTab
import Derived.Test.YthddngmncmhkoaaWFour
import Derived.Test.YthddngmncmhkoaaWQPut
import Derived.Test.YthddngmncmhkoaaWApart
import Derived.Test.YthddngmncmhkoaaWArr
import Derived.Test.YthddngmncmhkoaaWZeros
import Derived.Test.YthddngmncmhkoaaWFoot
import Derived.Test.YthddngmncmhkoaaWKept
import Derived.Test.YthddngmncmhkoaaWShare
import Derived.Test.YthddngmncmhkoaaWN
import Derived.Test.YthddngmncmhkoaaWFootNe
import Derived.Test.YthddngmncmhkoaaWAt
import Derived.Test.YthddngmncmhkoaaWEqStruct
import Derived.Test.YthddngmncmhkoaaWRepsOne
import Derived.Test.YthddngmncmhkoaaWInv
import Derived.Test.YthddngmncmhkoaaWInvWords
import Derived.Test.YthddngmncmhkoaaWGuard
import Derived.Test.YthddngmncmhkoaaWNEv
import Derived.Test.YthddngmncmhkoaaWMore
namespace Go.Proofs.Ythddngmncmhkoaa.QFnFrames
open Go.RowKit Go.Proofs.YthddngmncmhkoaaW.PrintWords Go.Proofs.YthddngmncmhkoaaW.PrintLast Go.Proofs.YthddngmncmhkoaaW.PrintMore
attribute [local go_sem] Go.Proofs.Ythddngmncmhkoaa.Sem.string_geq Go.Proofs.Ythddngmncmhkoaa.Sem.string_leq Go.Proofs.Ythddngmncmhkoaa.Sem.string_gtr
attribute [local go_sem] max2_int min2_int max_two min_two max_three min_three max_four min_four   -- for this text's walks alone
set_option linter.unusedVariables false
set_option linter.unusedSimpArgs false



def errW : Option Int → Value
  | none => .nilIface
  | some c => .iface 0 (.int .i64 c)
theorem errW_none : errW none = .nilIface := rfl
theorem errW_some (c : Int) : errW (some c) = .iface 0 (.int .i64 c) := rfl

theorem info3 : (Try.prog.info? 3).map (fun i => (i.zero, i.size, i.bytes)) = some (some (.int .i64 0), 1, 8) := by kernel_rfl
theorem info5 : (Try.prog.info? 5).map (fun i => (i.zero, i.size, i.bytes)) = some (some (.int .u8 0), 1, 1) := by kernel_rfl
theorem info9 : (Try.prog.info? 9).map (fun i => (i.zero, i.size, i.bytes)) = some (some (.string ⟨#[]⟩), 1, 16) := by kernel_rfl
-- the values' own types

end Go.Proofs.Ythddngmncmhkoaa.QFnFrames
