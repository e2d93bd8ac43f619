/- The words that print.sh printed for this seat, as far as the claims reach them, and the session's own. -/
import Derived.Test.YtmadpicanmjhhaaGreatDoorYWWords
import Derived.Laws.StructEq
namespace Go.Proofs.YtmadpicanmjhhaaGreatDoorW.PrintWords
open Go.RowKit
end Go.Proofs.YtmadpicanmjhhaaGreatDoorW.PrintWords
