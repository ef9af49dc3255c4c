/- Of the print's words (YtolakamimfhcjaaGreatDoorWSized) those that this claim's texts name. -/
import Derived.SizedLaws
import Derived.ChangeSlices
namespace Go.Proofs.YtolakamimfhcjaaGreatDoorW.PrintWords
open Go.ChangeShapes Go.WideShapes
end Go.Proofs.YtolakamimfhcjaaGreatDoorW.PrintWords
