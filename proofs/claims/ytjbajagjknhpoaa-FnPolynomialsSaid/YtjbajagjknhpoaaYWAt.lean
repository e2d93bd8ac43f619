/- The words that print.sh printed for this seat, as far as the claims reach them, and the session's own. -/
import Derived.Test.YtjbajagjknhpoaaYWFootNe
/-! ### 54. Behind orders that were drawn quietly: the same facts at the world's new name; a flat row's foot -/
namespace Go.Proofs.YtjbajagjknhpoaaW.PrintWords
open Go.RowKit
namespace Kd
end Kd
end Go.Proofs.YtjbajagjknhpoaaW.PrintWords
