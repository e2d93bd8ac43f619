/- The words that print.sh printed for this seat, as far as the claims reach them, and the session's own. -/
import Derived.Test.YthiignohbooelaaYWTab
namespace Go.Proofs.YthiignohbooelaaW.PrintLast
end Go.Proofs.YthiignohbooelaaW.PrintLast
