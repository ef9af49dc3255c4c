-- Of the print's words (YtknbkjajfiediaaDoorWFootNe) those that this claim's texts name.
import Derived.Test.YtknbkjajfiediaaDoorTN
namespace Go.Proofs.YtknbkjajfiediaaDoorW.PrintWords
open Go.RowKit
namespace Kd
section
variable {α : Type} {d : Kd α} {W : World} {g n : Nat} {S ok : Nat → Prop} {A : Option Addr} {ad : Addr} {xs : List α}
end
end Kd
end Go.Proofs.YtknbkjajfiediaaDoorW.PrintWords
