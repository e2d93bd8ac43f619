/- The words that print.sh printed for this seat, as far as the claims reach them, and the session's own. -/
import Derived.Test.YtjbajagjknhpoaaYWN
/-! ### 52. A row that stays read whatever happens to a block (a set of blocks) doesn't lie there -/
namespace Go.Proofs.YtjbajagjknhpoaaW.PrintWords
open Go.RowKit
namespace Kd
end Kd
end Go.Proofs.YtjbajagjknhpoaaW.PrintWords
