-- Of the print's words (YtknbkjajfiediaaDoorWInvWords) those that this claim's texts name.
import Derived.Test.YtknbkjajfiediaaDoorTInv
import Derived.Test.YtknbkjajfiediaaDoorTFootNe
namespace Go.Proofs.YtknbkjajfiediaaDoorW.PrintWords
open Go.RowKit
end Go.Proofs.YtknbkjajfiediaaDoorW.PrintWords
namespace Go.Proofs.YtknbkjajfiediaaDoorW.PrintLast
section
variable {ops : Array Oper} {a : Act} {o og : Oper} {g : Nat} {t : Tmp} {u : Bool}
end
end Go.Proofs.YtknbkjajfiediaaDoorW.PrintLast
