/- The program's constants are the reference's. No condition. -/
import Derived.Test.YtbmijcalkofegaaPFnExactConstantsx1
namespace Go.Proofs.Ytbmijcalkofegaa.Pure
open Go.RowKit Go.Proofs.Ytbmijcalkofegaa.PFnExactConstants Go.Proofs.YtbmijcalkofegaaW.PrintWords Go.Proofs.YtbmijcalkofegaaW.PrintLast Go.Proofs.YtbmijcalkofegaaW.PrintMore
set_option linter.unusedVariables false
set_option linter.unusedSimpArgs false
theorem FnExactConstants : laws_FnExactConstants.Pure := rfl
end Go.Proofs.Ytbmijcalkofegaa.Pure
