/- The words that print.sh printed for this seat, as far as the claims reach them, and the session's own. -/
import Derived.Test.YtjbajagjknhpoaaYWApart
import Derived.Test.YtjbajagjknhpoaaYWArr
/-! ### 42. append(v, make([]T, n)...): the operation comes as_ append with the number in the second place -/
namespace Go.Proofs.YtjbajagjknhpoaaW.PrintWords
open Go.RowKit
namespace Kd
end Kd
end Go.Proofs.YtjbajagjknhpoaaW.PrintWords
