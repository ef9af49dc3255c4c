/- Written by this session's own program (wip/tpl/pp.py): what the law's functions come to, and that the machine's calls do just that. -/
import Derived.Test.YtgkgoijepkmjbaaProg
import Derived.Below
import Derived.Deep.Draws
import Derived.Deep.AppendLies
import Derived.Maps.AppendAt
import Derived.OwnWalk
import Derived.Laws.BytesArg
import Derived.Laws.MakeOwn
import Derived.Laws.OwnMore
import Derived.Deep.OwnRows
import Derived.Tactics
import Derived.Lib.ConvBytes
import Derived.Laws.Slices
import Derived.WalkKit
import Derived.KernelRfl
import Derived.RowKit3
import Derived.Deep.LoopGhost
import Derived.Deep.QuietTactic
import Derived.BigQuiet
import Derived.WideLaws
import Derived.Deep.DeepCutAuto
import Derived.Deep.CutBlock
import Derived.Deep.RegionHeld3
import Derived.Laws.Rows
import Derived.Lib.AppendStr
import Derived.ArgAppend
import Derived.Laws.IdiomCopy
import Derived.OrdersHeld
import Derived.Laws.BitsLemmas
import Derived.RowKit
import Derived.Test.YtgkgoijepkmjbaaMathSem
import Derived.Lib.Bytealg
import Derived.Lib.Strings
import Derived.Lib.Walk
import Derived.Test.YtgkgoijepkmjbaaWWords
import Derived.Test.YtgkgoijepkmjbaaWLast
import Derived.Test.YtgkgoijepkmjbaaWTab
import Derived.Test.YtgkgoijepkmjbaaWFour
import Derived.Test.YtgkgoijepkmjbaaWQPut
import Derived.Test.YtgkgoijepkmjbaaWApart
import Derived.Test.YtgkgoijepkmjbaaWArr
import Derived.Test.YtgkgoijepkmjbaaWZeros
import Derived.Test.YtgkgoijepkmjbaaWFoot
import Derived.Test.YtgkgoijepkmjbaaWKept
import Derived.Test.YtgkgoijepkmjbaaWShare
import Derived.Test.YtgkgoijepkmjbaaWN
import Derived.Test.YtgkgoijepkmjbaaWFootNe
import Derived.Test.YtgkgoijepkmjbaaWAt
import Derived.Test.YtgkgoijepkmjbaaWEqStruct
import Derived.Test.YtgkgoijepkmjbaaWRepsOne
import Derived.Test.YtgkgoijepkmjbaaWInv
import Derived.Test.YtgkgoijepkmjbaaWInvWords
import Derived.Test.YtgkgoijepkmjbaaWGuard
import Derived.Test.YtgkgoijepkmjbaaWNEv
import Derived.Test.YtgkgoijepkmjbaaWMore
namespace Go.Proofs.Ytgkgoijepkmjbaa.QFnExactUnhex
open Go.RowKit Go.Proofs.YtgkgoijepkmjbaaW.PrintWords Go.Proofs.YtgkgoijepkmjbaaW.PrintLast Go.Proofs.YtgkgoijepkmjbaaW.PrintMore
attribute [local go_sem] Go.Proofs.Ytgkgoijepkmjbaa.Sem.string_geq Go.Proofs.Ytgkgoijepkmjbaa.Sem.string_leq Go.Proofs.Ytgkgoijepkmjbaa.Sem.string_gtr
attribute [local go_sem] max2_int min2_int max_two min_two max_three min_three max_four min_four   -- for this text's walks alone
set_option linter.unusedVariables false
set_option linter.unusedSimpArgs false



def errW : Option Int → Value
  | none => .nilIface
  | some c => .iface 0 (.int .i64 c)
theorem errW_none : errW none = .nilIface := rfl
theorem errW_some (c : Int) : errW (some c) = .iface 0 (.int .i64 c) := rfl

theorem info5 : (Try.prog.info? 5).map (fun i => (i.zero, i.size, i.bytes)) = some (some (.int .u8 0), 1, 1) := by kernel_rfl
-- the values' own types

end Go.Proofs.Ytgkgoijepkmjbaa.QFnExactUnhex
