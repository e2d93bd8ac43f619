/- FnExactConstants: it answers true. No condition. -/
import Derived.Test.YtglhpekiglfjiaaPFnExactConstantsx1
set_option linter.unusedVariables false
set_option linter.unusedSimpArgs false
namespace Go.Proofs.Ytglhpekiglfjiaa.Pure
open Go.RowKit Go.Proofs.Ytglhpekiglfjiaa.PFnExactConstants
theorem FnExactConstants : laws_FnExactConstants.Pure := rfl
end Go.Proofs.Ytglhpekiglfjiaa.Pure
