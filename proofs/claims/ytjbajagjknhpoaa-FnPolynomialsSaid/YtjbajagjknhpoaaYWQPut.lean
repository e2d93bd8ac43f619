/- The words that print.sh printed for this seat, as far as the claims reach them, and the session's own. -/
import Derived.Test.YtjbajagjknhpoaaYWWords
import Derived.Test.YtjbajagjknhpoaaYWLast
/-! ### 39. Stores into a row that may begin inside its block (Q): Q_form, Q_elem, Q_seg; scalars: Q_cell, Q_putg -/
namespace Go.Proofs.YtjbajagjknhpoaaW.PrintWords
open Go.RowKit
namespace Kd
end Kd
end Go.Proofs.YtjbajagjknhpoaaW.PrintWords
