/- The words that print.sh printed for this seat, as far as the claims reach them, and the session's own. -/
import Derived.Test.YtnigpjcnffgfgaaYWN
namespace Go.Proofs.YtnigpjcnffgfgaaW.PrintWords
open Go.RowKit
namespace Kd
end Kd
end Go.Proofs.YtnigpjcnffgfgaaW.PrintWords
