-- Of the print's words (YtknbkjajfiediaaDoorWGuard) those that this claim's texts name.
import Derived.Test.YtknbkjajfiediaaDoorTWords
namespace Go.Proofs.YtknbkjajfiediaaDoorW.PrintWords
open Go.RowKit
section
variable {P : Program} {ops : Array Oper} {rest : List Oper} {o : Oper} {a : Act} {Q : Exit → Act → World → Prop} {W : World}
end
end Go.Proofs.YtknbkjajfiediaaDoorW.PrintWords
