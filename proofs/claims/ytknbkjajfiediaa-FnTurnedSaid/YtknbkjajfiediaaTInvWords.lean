-- Of the print's words (YtknbkjajfiediaaWInvWords) those that this claim's texts name.
import Derived.Test.YtknbkjajfiediaaTInv
import Derived.Test.YtknbkjajfiediaaTFootNe
namespace Go.Proofs.YtknbkjajfiediaaW.PrintWords
open Go.RowKit
end Go.Proofs.YtknbkjajfiediaaW.PrintWords
namespace Go.Proofs.YtknbkjajfiediaaW.PrintLast
section
variable {ops : Array Oper} {a : Act} {o og : Oper} {g : Nat} {t : Tmp} {u : Bool}
end
end Go.Proofs.YtknbkjajfiediaaW.PrintLast
