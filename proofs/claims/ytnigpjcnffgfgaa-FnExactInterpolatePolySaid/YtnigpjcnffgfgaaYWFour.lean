/- The words that print.sh printed for this seat, as far as the claims reach them, and the session's own. -/
import Derived.Test.YtnigpjcnffgfgaaYWTab
namespace Go.Proofs.YtnigpjcnffgfgaaW.PrintLast
end Go.Proofs.YtnigpjcnffgfgaaW.PrintLast
