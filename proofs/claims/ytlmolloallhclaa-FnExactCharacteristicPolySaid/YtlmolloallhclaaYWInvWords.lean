/- The words that print.sh printed for this seat, as far as the claims reach them, and the session's own. -/
import Derived.Test.YtlmolloallhclaaYWInv
import Derived.Test.YtlmolloallhclaaYWFootNe
namespace Go.Proofs.YtlmolloallhclaaW.PrintWords
open Go.RowKit
end Go.Proofs.YtlmolloallhclaaW.PrintWords
namespace Go.Proofs.YtlmolloallhclaaW.PrintLast
end Go.Proofs.YtlmolloallhclaaW.PrintLast
