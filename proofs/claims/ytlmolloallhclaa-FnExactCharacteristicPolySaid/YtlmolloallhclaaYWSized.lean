/- The words that print.sh printed for this seat, as far as the claims reach them, and the session's own. -/
import Derived.SizedLaws
import Derived.ChangeSlices
namespace Go.Proofs.YtlmolloallhclaaW.PrintWords
open Go.ChangeShapes Go.WideShapes
end Go.Proofs.YtlmolloallhclaaW.PrintWords
