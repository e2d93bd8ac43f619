/-
  No cell of these rows narrows 'for every input' (looked for: loops, veiled, ifaces, maps, wideKeys, modest, calm, conditions, laid).
  DERIVED. THE GIVEN ROWS OF THIS SEAT. 6 by the template 'for every input the law returns true; each argument reads behind the call as it read before'; 0 by the template 'total and deterministic' (their statements: YtcimpcdgdffnpaaTotals.lean).
  GIVEN WITH THE SEED: the statements are not yours to turn. If you find one false, say at which input.
  Laid BY PROGRAM, IN A SANDBOX (cutbox-rows.mjs): the forced cells as the released guide's own fill.sh prints them over the translation c9940c0c13637653… (all of the seat's roots in one cut). By AI agents, Wed Nov 11 2026. No macro, syntax, notation, axiom, sorry.
-/
import Derived.Test.YtcimpcdgdffnpaaChecked
import GoSem.Claim
import GoSem.ClaimJoined
import GoSem.ClaimMapViews
import Derived.JoinedTies
import Derived.KernelRfl
namespace Go.Proofs.Ytcimpcdgdffnpaa
/- THE CELL 'sum', in the pinned program and in every row, IS THE sha256 OF THE DUMP (.gsa) THAT YtcimpcdgdffnpaaProg.lean LOADS. Nothing in Lean hashes anything: it is a label: what it is worth is what the hold of that sum in a sandbox is worth. -/
noncomputable def Try.pinned : Pinned := { name := "ytcimpcdgdffnpaa", sum := "c9940c0c13637653fdfbcb945291793b1ba5ce89aadbebbce96f09f47a052840", checked := Try.checked }
namespace Rows
def none {H : Type} : Left H := { results := [], args := [] }

/-- 'laws.FnExactValueAt': WHATEVER THE INPUT: true; the input reads as it did. -/
def fnExactValueAtSpec : ChangeSpec := { name := "fnExactValueAt", fn := fun _ => fun
  | [d1, d2, d3] => { results := [.lit (.bool true)], args := [d1, d2, d3] }
  | _ => none }
def fnExactValueAtRow : OpenClaim := { program := "ytcimpcdgdffnpaa", sum := "c9940c0c13637653fdfbcb945291793b1ba5ce89aadbebbce96f09f47a052840", func := "loop.example/g01283/laws.FnExactValueAt", spec := "fnExactValueAt", unfollowed := true, recurses := true, apart := false }
def FnExactValueAtSaid : Prop := fnExactValueAtRow.holds Try.pinned (OpenSpec.ofChange fnExactValueAtSpec)

/-- ITS FALSE NEIGHBOUR: 'it returns false'. Refute it at one input. -/
def fnExactValueAtWrong : ChangeSpec := { name := "fnExactValueAt", fn := fun _ => fun
  | [d1, d2, d3] => { results := [.lit (.bool false)], args := [d1, d2, d3] }
  | _ => none }
def FnExactValueAtWrongFalsely : Prop := fnExactValueAtRow.holds Try.pinned (OpenSpec.ofChange fnExactValueAtWrong)

/-- 'laws.FnExactShiftPoly': WHATEVER THE INPUT: true; the input reads as it did. -/
def fnExactShiftPolySpec : ChangeSpec := { name := "fnExactShiftPoly", fn := fun _ => fun
  | [d1, d2, d3] => { results := [.lit (.bool true)], args := [d1, d2, d3] }
  | _ => none }
def fnExactShiftPolyRow : OpenClaim := { program := "ytcimpcdgdffnpaa", sum := "c9940c0c13637653fdfbcb945291793b1ba5ce89aadbebbce96f09f47a052840", func := "loop.example/g01283/laws.FnExactShiftPoly", spec := "fnExactShiftPoly", unfollowed := true, recurses := true, apart := false }
def FnExactShiftPolySaid : Prop := fnExactShiftPolyRow.holds Try.pinned (OpenSpec.ofChange fnExactShiftPolySpec)

/-- ITS FALSE NEIGHBOUR: 'it returns false'. Refute it at one input. -/
def fnExactShiftPolyWrong : ChangeSpec := { name := "fnExactShiftPoly", fn := fun _ => fun
  | [d1, d2, d3] => { results := [.lit (.bool false)], args := [d1, d2, d3] }
  | _ => none }
def FnExactShiftPolyWrongFalsely : Prop := fnExactShiftPolyRow.holds Try.pinned (OpenSpec.ofChange fnExactShiftPolyWrong)

/-- 'laws.FnExactComposePolys': WHATEVER THE INPUT: true; the input reads as it did. -/
def fnExactComposePolysSpec : ChangeSpec := { name := "fnExactComposePolys", fn := fun _ => fun
  | [d1, d2, d3] => { results := [.lit (.bool true)], args := [d1, d2, d3] }
  | _ => none }
def fnExactComposePolysRow : OpenClaim := { program := "ytcimpcdgdffnpaa", sum := "c9940c0c13637653fdfbcb945291793b1ba5ce89aadbebbce96f09f47a052840", func := "loop.example/g01283/laws.FnExactComposePolys", spec := "fnExactComposePolys", unfollowed := true, recurses := true, apart := false }
def FnExactComposePolysSaid : Prop := fnExactComposePolysRow.holds Try.pinned (OpenSpec.ofChange fnExactComposePolysSpec)

/-- ITS FALSE NEIGHBOUR: 'it returns false'. Refute it at one input. -/
def fnExactComposePolysWrong : ChangeSpec := { name := "fnExactComposePolys", fn := fun _ => fun
  | [d1, d2, d3] => { results := [.lit (.bool false)], args := [d1, d2, d3] }
  | _ => none }
def FnExactComposePolysWrongFalsely : Prop := fnExactComposePolysRow.holds Try.pinned (OpenSpec.ofChange fnExactComposePolysWrong)

/-- 'laws.FnExactMoveRoots': WHATEVER THE INPUT: true; the input reads as it did. -/
def fnExactMoveRootsSpec : ChangeSpec := { name := "fnExactMoveRoots", fn := fun _ => fun
  | [d1, d2, d3] => { results := [.lit (.bool true)], args := [d1, d2, d3] }
  | _ => none }
def fnExactMoveRootsRow : OpenClaim := { program := "ytcimpcdgdffnpaa", sum := "c9940c0c13637653fdfbcb945291793b1ba5ce89aadbebbce96f09f47a052840", func := "loop.example/g01283/laws.FnExactMoveRoots", spec := "fnExactMoveRoots", unfollowed := true, recurses := true, apart := false }
def FnExactMoveRootsSaid : Prop := fnExactMoveRootsRow.holds Try.pinned (OpenSpec.ofChange fnExactMoveRootsSpec)

/-- ITS FALSE NEIGHBOUR: 'it returns false'. Refute it at one input. -/
def fnExactMoveRootsWrong : ChangeSpec := { name := "fnExactMoveRoots", fn := fun _ => fun
  | [d1, d2, d3] => { results := [.lit (.bool false)], args := [d1, d2, d3] }
  | _ => none }
def FnExactMoveRootsWrongFalsely : Prop := fnExactMoveRootsRow.holds Try.pinned (OpenSpec.ofChange fnExactMoveRootsWrong)

/-- 'laws.FnExactScaleRoots': WHATEVER THE INPUT: true; the input reads as it did. -/
def fnExactScaleRootsSpec : ChangeSpec := { name := "fnExactScaleRoots", fn := fun _ => fun
  | [d1, d2, d3] => { results := [.lit (.bool true)], args := [d1, d2, d3] }
  | _ => none }
def fnExactScaleRootsRow : OpenClaim := { program := "ytcimpcdgdffnpaa", sum := "c9940c0c13637653fdfbcb945291793b1ba5ce89aadbebbce96f09f47a052840", func := "loop.example/g01283/laws.FnExactScaleRoots", spec := "fnExactScaleRoots", unfollowed := true, recurses := true, apart := false }
def FnExactScaleRootsSaid : Prop := fnExactScaleRootsRow.holds Try.pinned (OpenSpec.ofChange fnExactScaleRootsSpec)

/-- ITS FALSE NEIGHBOUR: 'it returns false'. Refute it at one input. -/
def fnExactScaleRootsWrong : ChangeSpec := { name := "fnExactScaleRoots", fn := fun _ => fun
  | [d1, d2, d3] => { results := [.lit (.bool false)], args := [d1, d2, d3] }
  | _ => none }
def FnExactScaleRootsWrongFalsely : Prop := fnExactScaleRootsRow.holds Try.pinned (OpenSpec.ofChange fnExactScaleRootsWrong)

/-- 'laws.FnExactRootsIn': WHATEVER THE INPUT: true; the input reads as it did. -/
def fnExactRootsInSpec : ChangeSpec := { name := "fnExactRootsIn", fn := fun _ => fun
  | [d1, d2] => { results := [.lit (.bool true)], args := [d1, d2] }
  | _ => none }
def fnExactRootsInRow : OpenClaim := { program := "ytcimpcdgdffnpaa", sum := "c9940c0c13637653fdfbcb945291793b1ba5ce89aadbebbce96f09f47a052840", func := "loop.example/g01283/laws.FnExactRootsIn", spec := "fnExactRootsIn", unfollowed := true, recurses := true, apart := false }
def FnExactRootsInSaid : Prop := fnExactRootsInRow.holds Try.pinned (OpenSpec.ofChange fnExactRootsInSpec)

/-- ITS FALSE NEIGHBOUR: 'it returns false'. Refute it at one input. -/
def fnExactRootsInWrong : ChangeSpec := { name := "fnExactRootsIn", fn := fun _ => fun
  | [d1, d2] => { results := [.lit (.bool false)], args := [d1, d2] }
  | _ => none }
def FnExactRootsInWrongFalsely : Prop := fnExactRootsInRow.holds Try.pinned (OpenSpec.ofChange fnExactRootsInWrong)

/- THE SECOND FORM. 'bulk': how many values and letters a reading holds, each counted each time it is reached (what is shared counts as often as it is met; a slice's spare places count too). A statement '..UptoSaid' is the law's where the arguments, and the package variables that the reading takes, are together of bulk at most 1048576: NARROWER than '..Said'. Prove '..Said' where nothing that the law and all that it calls make is longer than what came in: it says more and counts as full. Else prove '..UptoSaid'. A law counts once. -/
mutual
def uptoBulk {H : Type} : DataW H → Nat
  | .lit (.string bytes) => bytes.length + 1
  | .lit _ => 1
  | .nil => 1
  | .ptr d => uptoBulk d + 1
  | .slice elems spare => uptoBulkAll elems + uptoBulkAll spare + 1
  | .agg parts => uptoBulkAll parts + 1
  | .iface _ d => uptoBulk d + 1
  | .map entries => uptoBulkEntries entries + 1
  | .held _ => 1
def uptoBulkAll {H : Type} : List (DataW H) → Nat
  | [] => 0
  | d :: r => uptoBulk d + uptoBulkAll r
def uptoBulkEntries {H : Type} : List (Lit × DataW H) → Nat
  | [] => 0
  | x :: r => uptoBulkEntry x + uptoBulkEntries r
def uptoBulkEntry {H : Type} : Lit × DataW H → Nat
  | (.string bytes, d) => bytes.length + uptoBulk d + 1
  | (_, d) => uptoBulk d + 1
 end
def uptoSmall : (H : Type) → List (DataW H) → Bool := fun _ ds => decide (uptoBulkAll ds ≤ 1048576)
def OpenSpec.upto (s : _root_.Go.ChangeSpec) : _root_.Go.OpenSpec := { _root_.Go.OpenSpec.ofChange s with cond := some uptoSmall }

/-- 'laws.FnExactValueAt', WHERE WHAT IT READS IS OF BULK AT MOST 1048576: true; the input reads as it did. -/
def fnExactValueAtUptoRow : OpenClaim := { program := "ytcimpcdgdffnpaa", sum := "c9940c0c13637653fdfbcb945291793b1ba5ce89aadbebbce96f09f47a052840", func := "loop.example/g01283/laws.FnExactValueAt", spec := "fnExactValueAt", unfollowed := true, recurses := true, apart := false, narrowed := true }
def FnExactValueAtUptoSaid : Prop := fnExactValueAtUptoRow.holds Try.pinned (OpenSpec.upto fnExactValueAtSpec)

/-- 'laws.FnExactShiftPoly', WHERE WHAT IT READS IS OF BULK AT MOST 1048576: true; the input reads as it did. -/
def fnExactShiftPolyUptoRow : OpenClaim := { program := "ytcimpcdgdffnpaa", sum := "c9940c0c13637653fdfbcb945291793b1ba5ce89aadbebbce96f09f47a052840", func := "loop.example/g01283/laws.FnExactShiftPoly", spec := "fnExactShiftPoly", unfollowed := true, recurses := true, apart := false, narrowed := true }
def FnExactShiftPolyUptoSaid : Prop := fnExactShiftPolyUptoRow.holds Try.pinned (OpenSpec.upto fnExactShiftPolySpec)

/-- 'laws.FnExactComposePolys', WHERE WHAT IT READS IS OF BULK AT MOST 1048576: true; the input reads as it did. -/
def fnExactComposePolysUptoRow : OpenClaim := { program := "ytcimpcdgdffnpaa", sum := "c9940c0c13637653fdfbcb945291793b1ba5ce89aadbebbce96f09f47a052840", func := "loop.example/g01283/laws.FnExactComposePolys", spec := "fnExactComposePolys", unfollowed := true, recurses := true, apart := false, narrowed := true }
def FnExactComposePolysUptoSaid : Prop := fnExactComposePolysUptoRow.holds Try.pinned (OpenSpec.upto fnExactComposePolysSpec)

/-- 'laws.FnExactMoveRoots', WHERE WHAT IT READS IS OF BULK AT MOST 1048576: true; the input reads as it did. -/
def fnExactMoveRootsUptoRow : OpenClaim := { program := "ytcimpcdgdffnpaa", sum := "c9940c0c13637653fdfbcb945291793b1ba5ce89aadbebbce96f09f47a052840", func := "loop.example/g01283/laws.FnExactMoveRoots", spec := "fnExactMoveRoots", unfollowed := true, recurses := true, apart := false, narrowed := true }
def FnExactMoveRootsUptoSaid : Prop := fnExactMoveRootsUptoRow.holds Try.pinned (OpenSpec.upto fnExactMoveRootsSpec)

/-- 'laws.FnExactScaleRoots', WHERE WHAT IT READS IS OF BULK AT MOST 1048576: true; the input reads as it did. -/
def fnExactScaleRootsUptoRow : OpenClaim := { program := "ytcimpcdgdffnpaa", sum := "c9940c0c13637653fdfbcb945291793b1ba5ce89aadbebbce96f09f47a052840", func := "loop.example/g01283/laws.FnExactScaleRoots", spec := "fnExactScaleRoots", unfollowed := true, recurses := true, apart := false, narrowed := true }
def FnExactScaleRootsUptoSaid : Prop := fnExactScaleRootsUptoRow.holds Try.pinned (OpenSpec.upto fnExactScaleRootsSpec)

/-- 'laws.FnExactRootsIn', WHERE WHAT IT READS IS OF BULK AT MOST 1048576: true; the input reads as it did. -/
def fnExactRootsInUptoRow : OpenClaim := { program := "ytcimpcdgdffnpaa", sum := "c9940c0c13637653fdfbcb945291793b1ba5ce89aadbebbce96f09f47a052840", func := "loop.example/g01283/laws.FnExactRootsIn", spec := "fnExactRootsIn", unfollowed := true, recurses := true, apart := false, narrowed := true }
def FnExactRootsInUptoSaid : Prop := fnExactRootsInUptoRow.holds Try.pinned (OpenSpec.upto fnExactRootsInSpec)

end Rows
end Go.Proofs.Ytcimpcdgdffnpaa
