/- The law FnExactConstants answers true at every input; no condition. -/
import Derived.Test.YtgkgoijepkmjbaaPFnExactConstantsx1
import Derived.Test.YtgkgoijepkmjbaaMath
namespace Go.Proofs.Ytgkgoijepkmjbaa.Pure
open Go.RowKit Go.Proofs.Ytgkgoijepkmjbaa.PFnExactConstants Go.Proofs.YtgkgoijepkmjbaaW.PrintWords Go.Proofs.YtgkgoijepkmjbaaW.PrintLast Go.Proofs.Ytgkgoijepkmjbaa.M
set_option linter.unusedVariables false
set_option linter.unusedSimpArgs false
set_option maxRecDepth 4000

/-- Every constant has its value. -/
theorem FnExactConstants : laws_FnExactConstants.Pure := by
  unfold laws_FnExactConstants.Pure laws_FnExactConstants.f
  simp

end Go.Proofs.Ytgkgoijepkmjbaa.Pure
