/- Joined texts of a claim: the printed functions and what is proved of them. -/
import Derived.Test.YtlmolloallhclaaYHx0
import Derived.Test.YtlmolloallhclaaMa4
import Derived.Test.YtlmolloallhclaaMa1
namespace Go.Proofs.Ytlmolloallhclaa.H
open Go.RowKit Go.Proofs.YtlmolloallhclaaW.PrintWords Go.Proofs.YtlmolloallhclaaW.PrintLast Go.Proofs.YtlmolloallhclaaW.PrintMore
attribute [local go_sem] max2_int min2_int max_two min_two max_three min_three max_four min_four   -- for this text's walks alone
set_option linter.unusedVariables false
set_option linter.unusedSimpArgs false
end Go.Proofs.Ytlmolloallhclaa.H
