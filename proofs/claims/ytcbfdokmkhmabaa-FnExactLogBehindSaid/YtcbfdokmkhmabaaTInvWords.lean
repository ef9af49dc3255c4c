-- Of the print's words (YtcbfdokmkhmabaaWInvWords) those that this claim's texts name.
import Derived.Test.YtcbfdokmkhmabaaTInv
import Derived.Test.YtcbfdokmkhmabaaTFootNe
namespace Go.Proofs.YtcbfdokmkhmabaaW.PrintWords
open Go.RowKit
end Go.Proofs.YtcbfdokmkhmabaaW.PrintWords
namespace Go.Proofs.YtcbfdokmkhmabaaW.PrintLast
section
variable {ops : Array Oper} {a : Act} {o og : Oper} {g : Nat} {t : Tmp} {u : Bool}
end
end Go.Proofs.YtcbfdokmkhmabaaW.PrintLast
