/- Written by this session's own program (wip/tpl/pp.py): what the law's functions come to, and that the machine's calls do just that. -/
import Derived.Test.YtcbfdokmkhmabaaProg
import Derived.Below
import Derived.Deep.Draws
import Derived.Deep.AppendLies
import Derived.Maps.AppendAt
import Derived.OwnWalk
import Derived.Laws.BytesArg
import Derived.Laws.MakeOwn
import Derived.Laws.OwnMore
import Derived.Deep.OwnRows
import Derived.Tactics
import Derived.Lib.ConvBytes
import Derived.Laws.Slices
import Derived.WalkKit
import Derived.KernelRfl
import Derived.RowKit3
import Derived.Deep.LoopGhost
import Derived.Deep.QuietTactic
import Derived.BigQuiet
import Derived.WideLaws
import Derived.Deep.DeepCutAuto
import Derived.Deep.CutBlock
import Derived.Deep.RegionHeld3
import Derived.Laws.Rows
import Derived.Lib.AppendStr
import Derived.ArgAppend
import Derived.Laws.IdiomCopy
import Derived.OrdersHeld
import Derived.Laws.BitsLemmas
import Derived.RowKit
import Derived.Test.YtcbfdokmkhmabaaTMSem
import Derived.Test.YtcbfdokmkhmabaaTM
import Derived.Test.YtcbfdokmkhmabaaTWords
import Derived.Test.YtcbfdokmkhmabaaTLast
import Derived.Test.YtcbfdokmkhmabaaTTab
import Derived.Test.YtcbfdokmkhmabaaTFour
import Derived.Test.YtcbfdokmkhmabaaTQPut
import Derived.Test.YtcbfdokmkhmabaaTApart
import Derived.Test.YtcbfdokmkhmabaaTArr
import Derived.Test.YtcbfdokmkhmabaaTZeros
import Derived.Test.YtcbfdokmkhmabaaTFoot
import Derived.Test.YtcbfdokmkhmabaaTKept
import Derived.Test.YtcbfdokmkhmabaaTShare
import Derived.Test.YtcbfdokmkhmabaaTN
import Derived.Test.YtcbfdokmkhmabaaTFootNe
import Derived.Test.YtcbfdokmkhmabaaTAt
import Derived.Test.YtcbfdokmkhmabaaTEqStruct
import Derived.Test.YtcbfdokmkhmabaaTRepsOne
import Derived.Test.YtcbfdokmkhmabaaTInv
import Derived.Test.YtcbfdokmkhmabaaTInvWords
import Derived.Test.YtcbfdokmkhmabaaTGuard
import Derived.Test.YtcbfdokmkhmabaaTNEv
import Derived.Test.YtcbfdokmkhmabaaTMore
namespace Go.Proofs.Ytcbfdokmkhmabaa.QFnExactReadSnap
open Go.RowKit Go.Proofs.YtcbfdokmkhmabaaW.PrintWords Go.Proofs.YtcbfdokmkhmabaaW.PrintLast Go.Proofs.YtcbfdokmkhmabaaW.PrintMore
attribute [local go_sem] Go.Proofs.Ytcbfdokmkhmabaa.Sem.string_geq Go.Proofs.Ytcbfdokmkhmabaa.Sem.string_leq Go.Proofs.Ytcbfdokmkhmabaa.Sem.string_gtr
attribute [local go_sem] max2_int min2_int max_two min_two max_three min_three max_four min_four   -- for this text's walks alone
set_option linter.unusedVariables false
set_option linter.unusedSimpArgs false



def errW : Option Int → Value
  | none => .nilIface
  | some c => .iface 0 (.int .i64 c)
theorem errW_none : errW none = .nilIface := rfl
theorem errW_some (c : Int) : errW (some c) = .iface 0 (.int .i64 c) := rfl

theorem info3 : (Try.prog.info? 3).map (fun i => (i.zero, i.size, i.bytes)) = some (some (.int .i64 0), 1, 8) := by kernel_rfl
theorem info5 : (Try.prog.info? 5).map (fun i => (i.zero, i.size, i.bytes)) = some (some (.int .u8 0), 1, 1) := by kernel_rfl
-- the values' own types

end Go.Proofs.Ytcbfdokmkhmabaa.QFnExactReadSnap
