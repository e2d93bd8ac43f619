/- The words that print.sh printed for this seat, as far as the claims reach them, and the session's own. -/
import Derived.Test.YtjbajagjknhpoaaYWWords
/-! ### 41. Arrays '[n]T' as_ values: a kind (a field, an element of a row), an element read, an element set -/
namespace Go.Proofs.YtjbajagjknhpoaaW.PrintWords
open Go.RowKit
namespace Kd
end Kd
end Go.Proofs.YtjbajagjknhpoaaW.PrintWords
