/- The words that print.sh printed for this seat, as far as the claims reach them, and the session's own. -/
import Derived.Test.YtiffnigjblbakaaYWInv
import Derived.Test.YtiffnigjblbakaaYWFootNe
namespace Go.Proofs.YtiffnigjblbakaaW.PrintWords
open Go.RowKit
end Go.Proofs.YtiffnigjblbakaaW.PrintWords
namespace Go.Proofs.YtiffnigjblbakaaW.PrintLast
end Go.Proofs.YtiffnigjblbakaaW.PrintLast
