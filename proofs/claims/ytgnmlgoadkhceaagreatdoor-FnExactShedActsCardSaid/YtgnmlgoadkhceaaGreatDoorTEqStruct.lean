-- Of the print's words (YtgnmlgoadkhceaaGreatDoorWEqStruct) those that this claim's texts name.
import Derived.Test.YtgnmlgoadkhceaaGreatDoorTWords
import Derived.Laws.StructEq
namespace Go.Proofs.YtgnmlgoadkhceaaGreatDoorW.PrintWords
open Go.RowKit
section
variable {P : Program} {d : Nat} {xs ys : Array Value} {f : Field} {fs : List Field} {a b : Value} {r s : Bool} {w : World}
end
end Go.Proofs.YtgnmlgoadkhceaaGreatDoorW.PrintWords
