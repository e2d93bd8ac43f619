/- The words that print.sh printed for this seat, as far as the claims reach them, and the session's own. -/
import Derived.Test.YtjbajagjknhpoaaYWInv
import Derived.Test.YtjbajagjknhpoaaYWFootNe
namespace Go.Proofs.YtjbajagjknhpoaaW.PrintWords
open Go.RowKit
end Go.Proofs.YtjbajagjknhpoaaW.PrintWords
namespace Go.Proofs.YtjbajagjknhpoaaW.PrintLast
end Go.Proofs.YtjbajagjknhpoaaW.PrintLast
