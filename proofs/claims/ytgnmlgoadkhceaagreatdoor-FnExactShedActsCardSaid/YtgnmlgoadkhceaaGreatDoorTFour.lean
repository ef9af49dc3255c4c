-- Of the print's words (YtgnmlgoadkhceaaGreatDoorWFour) those that this claim's texts name.
import Derived.Test.YtgnmlgoadkhceaaGreatDoorTTab
namespace Go.Proofs.YtgnmlgoadkhceaaGreatDoorW.PrintLast
section
variable {P : Program} {ops : Array Oper} {Q : Exit → Act → World → Prop} {md : Region.Mode} {S : World → Prop} {ds : List Nat} {T : Bool × List (List Nat × List Nat)}
end
end Go.Proofs.YtgnmlgoadkhceaaGreatDoorW.PrintLast
