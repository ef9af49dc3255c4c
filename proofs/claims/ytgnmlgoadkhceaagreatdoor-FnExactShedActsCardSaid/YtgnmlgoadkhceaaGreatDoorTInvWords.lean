-- Of the print's words (YtgnmlgoadkhceaaGreatDoorWInvWords) those that this claim's texts name.
import Derived.Test.YtgnmlgoadkhceaaGreatDoorTInv
import Derived.Test.YtgnmlgoadkhceaaGreatDoorTFootNe
namespace Go.Proofs.YtgnmlgoadkhceaaGreatDoorW.PrintWords
open Go.RowKit
end Go.Proofs.YtgnmlgoadkhceaaGreatDoorW.PrintWords
namespace Go.Proofs.YtgnmlgoadkhceaaGreatDoorW.PrintLast
section
variable {ops : Array Oper} {a : Act} {o og : Oper} {g : Nat} {t : Tmp} {u : Bool}
end
end Go.Proofs.YtgnmlgoadkhceaaGreatDoorW.PrintLast
