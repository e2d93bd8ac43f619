/- The words that print.sh printed for this seat, as far as the claims reach them, and the session's own. -/
import Derived.Test.YtlmolloallhclaaYWTab
namespace Go.Proofs.YtlmolloallhclaaW.PrintLast
def up (b : Nat → Bool) (i : Nat) : Nat → Bool := fun j => if j = i then true else b j
theorem up_self (b : Nat → Bool) (i : Nat) : up b i i = true := by simp [up]
end Go.Proofs.YtlmolloallhclaaW.PrintLast
