/- The words that print.sh printed for this seat, as far as the claims reach them, and the session's own. -/
import Derived.Test.YtmadpicanmjhhaaDoorYWWords
namespace Go.Proofs.YtmadpicanmjhhaaDoorW.PrintWords
open Go.RowKit
end Go.Proofs.YtmadpicanmjhhaaDoorW.PrintWords
