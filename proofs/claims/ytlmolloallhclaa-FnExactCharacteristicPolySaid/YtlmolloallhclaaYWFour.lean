/- The words that print.sh printed for this seat, as far as the claims reach them, and the session's own. -/
import Derived.Test.YtlmolloallhclaaYWTab
namespace Go.Proofs.YtlmolloallhclaaW.PrintLast
end Go.Proofs.YtlmolloallhclaaW.PrintLast
