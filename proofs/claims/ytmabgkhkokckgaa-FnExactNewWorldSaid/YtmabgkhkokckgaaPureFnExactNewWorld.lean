/- The program's NewWorld and the reference's answer alike. No condition. -/
import Derived.Test.YtmabgkhkokckgaaPFnExactNewWorldx4
namespace Go.Proofs.Ytmabgkhkokckgaa.Pure
open Go.RowKit Go.Proofs.Ytmabgkhkokckgaa.PFnExactNewWorld Go.Proofs.YtmabgkhkokckgaaW.PrintWords Go.Proofs.YtmabgkhkokckgaaW.PrintLast Go.Proofs.YtmabgkhkokckgaaW.PrintMore
set_option linter.unusedVariables false
set_option linter.unusedSimpArgs false
theorem FnExactNewWorld : laws_FnExactNewWorld.Pure := ⟨3, rfl⟩
end Go.Proofs.Ytmabgkhkokckgaa.Pure
