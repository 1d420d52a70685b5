/- The pure statement of FnExactConstants: what the printed functions tell is what the reference tells. No condition but the arguments' own bounds. -/
import Derived.Test.YtkollihfejkklaaPFnExactConstantsx1
namespace Go.Proofs.Ytkollihfejkklaa.Pure
namespace FnExactConstantsUses
open Go.RowKit Go.Proofs.Ytkollihfejkklaa.PFnExactConstants Go.Proofs.YtkollihfejkklaaW.PrintWords Go.Proofs.YtkollihfejkklaaW.PrintLast Go.Proofs.YtkollihfejkklaaW.PrintMore 
set_option linter.unusedVariables false
set_option linter.unusedSimpArgs false


end FnExactConstantsUses
open Go.RowKit Go.Proofs.Ytkollihfejkklaa.PFnExactConstants Go.Proofs.YtkollihfejkklaaW.PrintWords Go.Proofs.YtkollihfejkklaaW.PrintLast Go.Proofs.YtkollihfejkklaaW.PrintMore  FnExactConstantsUses
set_option linter.unusedVariables false
theorem FnExactConstants : laws_FnExactConstants.Pure := by
  rfl
end Go.Proofs.Ytkollihfejkklaa.Pure
