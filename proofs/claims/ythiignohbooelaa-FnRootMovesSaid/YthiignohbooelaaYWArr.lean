/- The words that print.sh printed for this seat, as far as the claims reach them, and the session's own. -/
import Derived.Test.YthiignohbooelaaYWWords
/-! ### 41. Arrays '[n]T' as_ values: a kind (a field, an element of a row), an element read, an element set -/
namespace Go.Proofs.YthiignohbooelaaW.PrintWords
open Go.RowKit
namespace Kd
end Kd
end Go.Proofs.YthiignohbooelaaW.PrintWords
