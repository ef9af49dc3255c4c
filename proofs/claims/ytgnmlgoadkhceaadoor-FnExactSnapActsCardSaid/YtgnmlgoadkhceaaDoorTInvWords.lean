-- Of the print's words (YtgnmlgoadkhceaaDoorWInvWords) those that this claim's texts name.
import Derived.Test.YtgnmlgoadkhceaaDoorTInv
import Derived.Test.YtgnmlgoadkhceaaDoorTFootNe
namespace Go.Proofs.YtgnmlgoadkhceaaDoorW.PrintWords
open Go.RowKit
end Go.Proofs.YtgnmlgoadkhceaaDoorW.PrintWords
namespace Go.Proofs.YtgnmlgoadkhceaaDoorW.PrintLast
section
variable {ops : Array Oper} {a : Act} {o og : Oper} {g : Nat} {t : Tmp} {u : Bool}
end
end Go.Proofs.YtgnmlgoadkhceaaDoorW.PrintLast
