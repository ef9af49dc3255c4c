-- Of the print's words (YtgnmlgoadkhceaaDoorWEqStruct) those that this claim's texts name.
import Derived.Test.YtgnmlgoadkhceaaDoorTWords
import Derived.Laws.StructEq
namespace Go.Proofs.YtgnmlgoadkhceaaDoorW.PrintWords
open Go.RowKit
section
variable {P : Program} {d : Nat} {xs ys : Array Value} {f : Field} {fs : List Field} {a b : Value} {r s : Bool} {w : World}
end
end Go.Proofs.YtgnmlgoadkhceaaDoorW.PrintWords
