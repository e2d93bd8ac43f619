/- The words that print.sh printed for this seat, as far as the claims reach them, and the session's own. -/
import Derived.Test.YtnigpjcnffgfgaaProg
import Derived.Test.YtnigpjcnffgfgaaYHW
import Derived.Below
import Derived.Deep.Draws
import Derived.Deep.AppendLies
import Derived.Maps.AppendAt
import Derived.OwnWalk
import Derived.Laws.BytesArg
import Derived.Laws.MakeOwn
import Derived.Laws.OwnMore
import Derived.Deep.OwnRows
import Derived.Tactics
import Derived.Lib.ConvBytes
import Derived.Laws.Slices
import Derived.WalkKit
import Derived.KernelRfl
import Derived.RowKit3
import Derived.Deep.LoopGhost
import Derived.Deep.QuietTactic
import Derived.BigQuiet
import Derived.WideLaws
import Derived.Deep.DeepCutAuto
import Derived.Deep.CutBlock
import Derived.Deep.RegionHeld3
import Derived.Laws.Rows
import Derived.Lib.AppendStr
import Derived.ArgAppend
import Derived.Laws.IdiomCopy
import Derived.OrdersHeld
import Derived.Laws.BitsLemmas
import Derived.RowKit
import Derived.RangeFuncNested
import Derived.RangeFuncBound
import Derived.RangeFuncCalls
import Derived.RangeFuncLeaves
import Derived.RangeFuncBox
import Derived.Shelf.Abstract
import Derived.Shelf.RegionOpen
import Derived.OwnWalkIn
import Derived.TacticsInMore
import Derived.LoopNIn
import Derived.LoopIn
import Derived.Lib.SliceRun
import Derived.Test.YtnigpjcnffgfgaaYWWords
import Derived.Test.YtnigpjcnffgfgaaYWLast
import Derived.Test.YtnigpjcnffgfgaaYWTab
import Derived.Test.YtnigpjcnffgfgaaYWFour
import Derived.Test.YtnigpjcnffgfgaaYWQPut
import Derived.Test.YtnigpjcnffgfgaaYWApart
import Derived.Test.YtnigpjcnffgfgaaYWArr
import Derived.Test.YtnigpjcnffgfgaaYWZeros
import Derived.Test.YtnigpjcnffgfgaaYWFoot
import Derived.Test.YtnigpjcnffgfgaaYWKept
import Derived.Test.YtnigpjcnffgfgaaYWShare
import Derived.Test.YtnigpjcnffgfgaaYWN
import Derived.Test.YtnigpjcnffgfgaaYWFootNe
import Derived.Test.YtnigpjcnffgfgaaYWAt
import Derived.Test.YtnigpjcnffgfgaaYWEqStruct
import Derived.Test.YtnigpjcnffgfgaaYWRepsOne
import Derived.Test.YtnigpjcnffgfgaaYWInv
import Derived.Test.YtnigpjcnffgfgaaYWInvWords
import Derived.Test.YtnigpjcnffgfgaaYWGuard
import Derived.Test.YtnigpjcnffgfgaaYWNEv
import Derived.Test.YtnigpjcnffgfgaaYWMore
namespace Go.Proofs.Ytnigpjcnffgfgaa.H
open Go.RowKit Go.Proofs.YtnigpjcnffgfgaaW.PrintWords Go.Proofs.YtnigpjcnffgfgaaW.PrintLast Go.Proofs.YtnigpjcnffgfgaaW.PrintMore
attribute [local go_sem] max2_int min2_int max_two min_two max_three min_three max_four min_four   -- for this text's walks alone
set_option linter.unusedVariables false
set_option linter.unusedSimpArgs false
def errW : Option Int → Value
  | none => .nilIface
  | some c => .iface 0 (.int .i64 c)
theorem errW_none : errW none = .nilIface := rfl
theorem errW_some (c : Int) : errW (some c) = .iface 0 (.int .i64 c) := rfl
theorem info2 : (Try.prog.info? 2).map (fun i => (i.zero, i.size, i.bytes)) = some (some (.int .i64 0), 1, 8) := by kernel_rfl
end Go.Proofs.Ytnigpjcnffgfgaa.H
