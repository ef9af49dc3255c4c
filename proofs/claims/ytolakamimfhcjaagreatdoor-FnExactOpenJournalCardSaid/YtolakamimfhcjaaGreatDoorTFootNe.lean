/- Of the print's words (YtolakamimfhcjaaGreatDoorWFootNe) those that this claim's texts name. -/
import Derived.Test.YtolakamimfhcjaaGreatDoorTN
namespace Go.Proofs.YtolakamimfhcjaaGreatDoorW.PrintWords
open Go.RowKit
namespace Kd
section
variable {α:Type} {d:Kd α} {W:World} {g n:Nat} {S ok:Nat→Prop} {A:Option Addr} {ad:Addr} {xs:List α}
end
end Kd
end Go.Proofs.YtolakamimfhcjaaGreatDoorW.PrintWords
