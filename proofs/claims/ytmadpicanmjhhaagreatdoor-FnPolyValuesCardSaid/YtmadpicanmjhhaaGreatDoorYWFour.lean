/- The words that print.sh printed for this seat, as far as the claims reach them, and the session's own. -/
import Derived.Test.YtmadpicanmjhhaaGreatDoorYWTab
namespace Go.Proofs.YtmadpicanmjhhaaGreatDoorW.PrintLast
end Go.Proofs.YtmadpicanmjhhaaGreatDoorW.PrintLast
