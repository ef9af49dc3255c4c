-- Of the print's words (YtknbkjajfiediaaDoorWTab) those that this claim's texts name.
import Derived.Test.YtknbkjajfiediaaDoorTLast
import Derived.Test.YtknbkjajfiediaaDoorTWords
namespace Go.Proofs.YtknbkjajfiediaaDoorW.PrintLast
open Go.Proofs.YtknbkjajfiediaaDoorW.PrintWords (Aside0)
section
variable {md : Region.Mode} {ops : Array Oper} {T : Bool × List (List Nat × List Nat)} {l l' li lj lk : Array Bool} {ds : List Nat} {i j k : Nat}
end
end Go.Proofs.YtknbkjajfiediaaDoorW.PrintLast
