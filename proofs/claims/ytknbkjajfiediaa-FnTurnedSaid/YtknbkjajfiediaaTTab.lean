-- Of the print's words (YtknbkjajfiediaaWTab) those that this claim's texts name.
import Derived.Test.YtknbkjajfiediaaTLast
import Derived.Test.YtknbkjajfiediaaTWords
namespace Go.Proofs.YtknbkjajfiediaaW.PrintLast
open Go.Proofs.YtknbkjajfiediaaW.PrintWords (Aside0)
section
variable {md : Region.Mode} {ops : Array Oper} {T : Bool × List (List Nat × List Nat)} {l l' li lj lk : Array Bool} {ds : List Nat} {i j k : Nat}
end
end Go.Proofs.YtknbkjajfiediaaW.PrintLast
