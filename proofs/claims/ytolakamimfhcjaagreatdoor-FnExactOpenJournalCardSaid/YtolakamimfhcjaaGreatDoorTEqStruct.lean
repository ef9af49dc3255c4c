/- Of the print's words (YtolakamimfhcjaaGreatDoorWEqStruct) those that this claim's texts name. -/
import Derived.Test.YtolakamimfhcjaaGreatDoorTWords
import Derived.Laws.StructEq
namespace Go.Proofs.YtolakamimfhcjaaGreatDoorW.PrintWords
open Go.RowKit
section
variable {P:Program} {d:Nat} {xs ys:Array Value} {f:Field} {fs:List Field} {a b:Value} {r s:Bool} {w:World}
end
end Go.Proofs.YtolakamimfhcjaaGreatDoorW.PrintWords
