/- The words that print.sh printed for this seat, as far as the claims reach them, and the session's own. -/
import Derived.Test.YtnigpjcnffgfgaaYWTab
namespace Go.Proofs.YtnigpjcnffgfgaaW.PrintLast
def up (b : Nat → Bool) (i : Nat) : Nat → Bool := fun j => if j = i then true else b j
end Go.Proofs.YtnigpjcnffgfgaaW.PrintLast
