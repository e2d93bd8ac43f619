/- The words that print.sh printed for this seat, as far as the claims reach them, and the session's own. -/
import Derived.Test.YthiignohbooelaaYWInv
import Derived.Test.YthiignohbooelaaYWFootNe
namespace Go.Proofs.YthiignohbooelaaW.PrintWords
open Go.RowKit
end Go.Proofs.YthiignohbooelaaW.PrintWords
namespace Go.Proofs.YthiignohbooelaaW.PrintLast
end Go.Proofs.YthiignohbooelaaW.PrintLast
