/- The words that print.sh printed for this seat, as far as the claims reach them, and the session's own. -/
import Derived.Test.YtmadpicanmjhhaaDoorYWTab
namespace Go.Proofs.YtmadpicanmjhhaaDoorW.PrintLast
end Go.Proofs.YtmadpicanmjhhaaDoorW.PrintLast
