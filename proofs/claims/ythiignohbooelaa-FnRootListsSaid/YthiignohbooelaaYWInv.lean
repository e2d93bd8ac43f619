/- The words that print.sh printed for this seat, as far as the claims reach them, and the session's own. -/
import Derived.Test.YthiignohbooelaaYWTab
namespace Go.Proofs.YthiignohbooelaaW.PrintLast
def lof (n : Nat) (O : List Nat) (b : Nat → Bool) : List Bool := (List.range n).map fun j => if O.contains j then b j else true
end Go.Proofs.YthiignohbooelaaW.PrintLast
