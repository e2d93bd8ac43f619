/- The words that print.sh printed for this seat, as far as the claims reach them, and the session's own. -/
import Derived.Test.YtmadpicanmjhhaaDoorYWApart
import Derived.Test.YtmadpicanmjhhaaDoorYWArr
namespace Go.Proofs.YtmadpicanmjhhaaDoorW.PrintWords
open Go.RowKit
namespace Kd
end Kd
end Go.Proofs.YtmadpicanmjhhaaDoorW.PrintWords
