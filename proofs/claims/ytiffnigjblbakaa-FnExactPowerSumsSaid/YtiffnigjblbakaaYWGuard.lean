/- The words that print.sh printed for this seat, as far as the claims reach them, and the session's own. -/
import Derived.Test.YtiffnigjblbakaaYWWords
/-! ### 58. A guarded operation whose guard is known to want it: the same goal without the guard -/
namespace Go.Proofs.YtiffnigjblbakaaW.PrintWords
open Go.RowKit
end Go.Proofs.YtiffnigjblbakaaW.PrintWords
