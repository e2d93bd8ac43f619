/- The words that print.sh printed for this seat, as far as the claims reach them, and the session's own. -/
import Derived.Test.YtjbajagjknhpoaaYWWords
import Derived.Laws.StructEq
/-! ### 53. '==' of structs as_ one Bool -/
namespace Go.Proofs.YtjbajagjknhpoaaW.PrintWords
open Go.RowKit
end Go.Proofs.YtjbajagjknhpoaaW.PrintWords
