/- Written by this session's own program (wip/tpl/pp.py): what the law's functions come to, and that the machine's calls do just that. -/
import Derived.Test.YtgnmlgoadkhceaaDoorProg
import Derived.Below
import Derived.Deep.Draws
import Derived.Deep.AppendLies
import Derived.Maps.AppendAt
import Derived.OwnWalk
import Derived.Laws.BytesArg
import Derived.Laws.MakeOwn
import Derived.Laws.OwnMore
import Derived.Deep.OwnRows
import Derived.Tactics
import Derived.Lib.ConvBytes
import Derived.Laws.Slices
import Derived.WalkKit
import Derived.KernelRfl
import Derived.RowKit3
import Derived.Deep.LoopGhost
import Derived.Deep.QuietTactic
import Derived.BigQuiet
import Derived.WideLaws
import Derived.Deep.DeepCutAuto
import Derived.Deep.CutBlock
import Derived.Deep.RegionHeld3
import Derived.Laws.Rows
import Derived.Lib.AppendStr
import Derived.ArgAppend
import Derived.Laws.IdiomCopy
import Derived.OrdersHeld
import Derived.Laws.BitsLemmas
import Derived.RowKit
import Derived.Test.YtgnmlgoadkhceaaDoorMathSem
import Derived.Lib.AppendIntMem
import Derived.Lib.AtoiBound
import Derived.Lib.AtoiErrMem
import Derived.Lib.AtoiOr
import Derived.Lib.AtoiTie
import Derived.Lib.Bytealg
import Derived.Lib.Strings
import Derived.Lib.Walk
import Derived.Shelf.Abstract
import Derived.Test.YtgnmlgoadkhceaaDoorMath
import Derived.Test.YtgnmlgoadkhceaaDoorMathTab
import Derived.Test.YtgnmlgoadkhceaaDoorShelf
import Derived.WalkKit
import Derived.Test.YtgnmlgoadkhceaaDoorWWords
import Derived.Test.YtgnmlgoadkhceaaDoorWLast
import Derived.Test.YtgnmlgoadkhceaaDoorWTab
import Derived.Test.YtgnmlgoadkhceaaDoorWFour
import Derived.Test.YtgnmlgoadkhceaaDoorWQPut
import Derived.Test.YtgnmlgoadkhceaaDoorWApart
import Derived.Test.YtgnmlgoadkhceaaDoorWArr
import Derived.Test.YtgnmlgoadkhceaaDoorWZeros
import Derived.Test.YtgnmlgoadkhceaaDoorWFoot
import Derived.Test.YtgnmlgoadkhceaaDoorWKept
import Derived.Test.YtgnmlgoadkhceaaDoorWShare
import Derived.Test.YtgnmlgoadkhceaaDoorWN
import Derived.Test.YtgnmlgoadkhceaaDoorWFootNe
import Derived.Test.YtgnmlgoadkhceaaDoorWAt
import Derived.Test.YtgnmlgoadkhceaaDoorWEqStruct
import Derived.Test.YtgnmlgoadkhceaaDoorWRepsOne
import Derived.Test.YtgnmlgoadkhceaaDoorWInv
import Derived.Test.YtgnmlgoadkhceaaDoorWInvWords
import Derived.Test.YtgnmlgoadkhceaaDoorWGuard
import Derived.Test.YtgnmlgoadkhceaaDoorWNEv
import Derived.Test.YtgnmlgoadkhceaaDoorWMore
namespace Go.Proofs.YtgnmlgoadkhceaaDoor.QFnNumbers
open Go.RowKit Go.Proofs.YtgnmlgoadkhceaaDoorW.PrintWords Go.Proofs.YtgnmlgoadkhceaaDoorW.PrintLast Go.Proofs.YtgnmlgoadkhceaaDoorW.PrintMore
attribute [local go_sem] Go.Proofs.YtgnmlgoadkhceaaDoor.Sem.string_geq Go.Proofs.YtgnmlgoadkhceaaDoor.Sem.string_leq Go.Proofs.YtgnmlgoadkhceaaDoor.Sem.string_gtr
attribute [local go_sem] max2_int min2_int max_two min_two max_three min_three max_four min_four   -- for this text's walks alone
set_option linter.unusedVariables false
set_option linter.unusedSimpArgs false



def errW : Option Int → Value
  | none => .nilIface
  | some c => .iface 0 (.int .i64 c)
theorem errW_none : errW none = .nilIface := rfl
theorem errW_some (c : Int) : errW (some c) = .iface 0 (.int .i64 c) := rfl

theorem info3 : (Tryd.prog.info? 3).map (fun i => (i.zero, i.size, i.bytes)) = some (some (.int .i64 0), 1, 8) := by kernel_rfl
theorem info5 : (Tryd.prog.info? 5).map (fun i => (i.zero, i.size, i.bytes)) = some (some (.int .u8 0), 1, 1) := by kernel_rfl
-- the values' own types

end Go.Proofs.YtgnmlgoadkhceaaDoor.QFnNumbers
