/- The words that print.sh printed for this seat, as far as the claims reach them, and the session's own. -/
import Derived.Test.YtlmolloallhclaaYWWords
import Derived.Laws.StructEq
namespace Go.Proofs.YtlmolloallhclaaW.PrintWords
open Go.RowKit
end Go.Proofs.YtlmolloallhclaaW.PrintWords
