/- Of the print's words (YtolakamimfhcjaaGreatDoorWInvWords) those that this claim's texts name. -/
import Derived.Test.YtolakamimfhcjaaGreatDoorTInv
import Derived.Test.YtolakamimfhcjaaGreatDoorTFootNe
namespace Go.Proofs.YtolakamimfhcjaaGreatDoorW.PrintWords
open Go.RowKit
end Go.Proofs.YtolakamimfhcjaaGreatDoorW.PrintWords
namespace Go.Proofs.YtolakamimfhcjaaGreatDoorW.PrintLast
section
variable {ops:Array Oper} {a:Act} {o og:Oper} {g:Nat} {t:Tmp} {u:Bool}
end
end Go.Proofs.YtolakamimfhcjaaGreatDoorW.PrintLast
