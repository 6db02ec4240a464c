/- The plain law behind FnExactConstants: the constants are the document's. Condition: none beyond the row's own. -/
import Derived.Test.YtnkjpegammijiaaXPLawsFnExactConstants
namespace Go.Proofs.Ytnkjpegammijiaa.Pure
open Go.RowKit Go.Proofs.Ytnkjpegammijiaa.P Go.Proofs.YtnkjpegammijiaaW.PrintWords Go.Proofs.YtnkjpegammijiaaW.PrintLast
set_option linter.unusedVariables false
set_option linter.unusedSimpArgs false
theorem FnExactConstants : laws_FnExactConstants.Pure := rfl
end Go.Proofs.Ytnkjpegammijiaa.Pure
