-- Of the print's words (YthbaoefbccdioaaWEqStruct) those that this claim's texts name.
import Derived.Test.YthbaoefbccdioaaTWords
import Derived.Laws.StructEq
namespace Go.Proofs.YthbaoefbccdioaaW.PrintWords
open Go.RowKit
section
variable {P : Program} {d : Nat} {xs ys : Array Value} {f : Field} {fs : List Field} {a b : Value} {r s : Bool} {w : World}
end
end Go.Proofs.YthbaoefbccdioaaW.PrintWords
