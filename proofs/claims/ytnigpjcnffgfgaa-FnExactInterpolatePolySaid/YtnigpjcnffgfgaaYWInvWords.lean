/- The words that print.sh printed for this seat, as far as the claims reach them, and the session's own. -/
import Derived.Test.YtnigpjcnffgfgaaYWInv
import Derived.Test.YtnigpjcnffgfgaaYWFootNe
namespace Go.Proofs.YtnigpjcnffgfgaaW.PrintWords
open Go.RowKit
end Go.Proofs.YtnigpjcnffgfgaaW.PrintWords
namespace Go.Proofs.YtnigpjcnffgfgaaW.PrintLast
end Go.Proofs.YtnigpjcnffgfgaaW.PrintLast
