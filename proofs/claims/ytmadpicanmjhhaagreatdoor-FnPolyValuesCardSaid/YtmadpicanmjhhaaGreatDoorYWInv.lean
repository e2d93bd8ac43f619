/- The words that print.sh printed for this seat, as far as the claims reach them, and the session's own. -/
import Derived.Test.YtmadpicanmjhhaaGreatDoorYWTab
namespace Go.Proofs.YtmadpicanmjhhaaGreatDoorW.PrintLast
def up (b : Nat → Bool) (i : Nat) : Nat → Bool := fun j => if j = i then true else b j
end Go.Proofs.YtmadpicanmjhhaaGreatDoorW.PrintLast
