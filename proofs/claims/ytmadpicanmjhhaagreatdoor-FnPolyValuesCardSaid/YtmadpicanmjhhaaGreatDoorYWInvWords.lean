/- The words that print.sh printed for this seat, as far as the claims reach them, and the session's own. -/
import Derived.Test.YtmadpicanmjhhaaGreatDoorYWInv
import Derived.Test.YtmadpicanmjhhaaGreatDoorYWFootNe
namespace Go.Proofs.YtmadpicanmjhhaaGreatDoorW.PrintWords
open Go.RowKit
end Go.Proofs.YtmadpicanmjhhaaGreatDoorW.PrintWords
namespace Go.Proofs.YtmadpicanmjhhaaGreatDoorW.PrintLast
end Go.Proofs.YtmadpicanmjhhaaGreatDoorW.PrintLast
