/- The words that print.sh printed for this seat, as far as the claims reach them, and the session's own. -/
import Derived.Test.YtjbajagjknhpoaaYWTab
/-! ### 56. Four, five, six operations that may come up next, in any order -/
namespace Go.Proofs.YtjbajagjknhpoaaW.PrintLast
end Go.Proofs.YtjbajagjknhpoaaW.PrintLast
