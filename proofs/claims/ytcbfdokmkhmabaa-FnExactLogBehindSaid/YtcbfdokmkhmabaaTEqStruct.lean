-- Of the print's words (YtcbfdokmkhmabaaWEqStruct) those that this claim's texts name.
import Derived.Test.YtcbfdokmkhmabaaTWords
import Derived.Laws.StructEq
namespace Go.Proofs.YtcbfdokmkhmabaaW.PrintWords
open Go.RowKit
section
variable {P : Program} {d : Nat} {xs ys : Array Value} {f : Field} {fs : List Field} {a b : Value} {r s : Bool} {w : World}
end
end Go.Proofs.YtcbfdokmkhmabaaW.PrintWords
