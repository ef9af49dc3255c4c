-- Of the print's words (YtknbkjajfiediaaWGuard) those that this claim's texts name.
import Derived.Test.YtknbkjajfiediaaTWords
namespace Go.Proofs.YtknbkjajfiediaaW.PrintWords
open Go.RowKit
section
variable {P : Program} {ops : Array Oper} {rest : List Oper} {o : Oper} {a : Act} {Q : Exit → Act → World → Prop} {W : World}
end
end Go.Proofs.YtknbkjajfiediaaW.PrintWords
