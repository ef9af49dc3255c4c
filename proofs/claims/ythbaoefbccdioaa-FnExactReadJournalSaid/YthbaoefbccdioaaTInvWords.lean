-- Of the print's words (YthbaoefbccdioaaWInvWords) those that this claim's texts name.
import Derived.Test.YthbaoefbccdioaaTInv
import Derived.Test.YthbaoefbccdioaaTFootNe
namespace Go.Proofs.YthbaoefbccdioaaW.PrintWords
open Go.RowKit
end Go.Proofs.YthbaoefbccdioaaW.PrintWords
namespace Go.Proofs.YthbaoefbccdioaaW.PrintLast
section
variable {ops : Array Oper} {a : Act} {o og : Oper} {g : Nat} {t : Tmp} {u : Bool}
end
end Go.Proofs.YthbaoefbccdioaaW.PrintLast
