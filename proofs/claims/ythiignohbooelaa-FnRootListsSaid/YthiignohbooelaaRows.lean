/-
  No cell of these rows narrows 'for every input' (looked for: loops, veiled, ifaces, maps, wideKeys, modest, calm, conditions, laid).
  DERIVED. THE GIVEN ROWS OF THIS SEAT. 3 by the template 'for every input the law returns true; each argument reads behind the call as it read before'; 0 by the template 'total and deterministic' (their statements: YthiignohbooelaaTotals.lean).
  GIVEN WITH THE SEED: the statements are not yours to turn. If you find one false, say at which input.
  Laid BY PROGRAM, IN A SANDBOX (cutbox-rows.mjs): the forced cells as the released guide's own fill.sh prints them over the translation 6ea4663dbf126cb3… (all of the seat's roots in one cut). By AI agents, Wed Nov 11 2026. No macro, syntax, notation, axiom, sorry.
-/
import Derived.Test.YthiignohbooelaaChecked
import GoSem.Claim
import GoSem.ClaimJoined
import GoSem.ClaimMapViews
import Derived.JoinedTies
import Derived.KernelRfl
namespace Go.Proofs.Ythiignohbooelaa
/- THE CELL 'sum', in the pinned program and in every row, IS THE sha256 OF THE DUMP (.gsa) THAT YthiignohbooelaaProg.lean LOADS. Nothing in Lean hashes anything: it is a label: what it is worth is what the hold of that sum in a sandbox is worth. -/
noncomputable def Try.pinned : Pinned := { name := "ythiignohbooelaa", sum := "6ea4663dbf126cb381ad333509be114f81bc3b3258419407adebc4bc16f27f79", checked := Try.checked }
namespace Rows
def none {H : Type} : Left H := { results := [], args := [] }

/-- 'laws.FnRootMoves': WHATEVER THE INPUT: true; the input reads as it did. -/
def fnRootMovesSpec : ChangeSpec := { name := "fnRootMoves", fn := fun _ => fun
  | [d] => { results := [.lit (.bool true)], args := [d] }
  | _ => none }
def fnRootMovesRow : OpenClaim := { program := "ythiignohbooelaa", sum := "6ea4663dbf126cb381ad333509be114f81bc3b3258419407adebc4bc16f27f79", func := "loop.example/g01283/laws.FnRootMoves", spec := "fnRootMoves", unfollowed := true, recurses := true, apart := false }
def FnRootMovesSaid : Prop := fnRootMovesRow.holds Try.pinned (OpenSpec.ofChange fnRootMovesSpec)

/-- ITS FALSE NEIGHBOUR: 'it returns false'. Refute it at one input. -/
def fnRootMovesWrong : ChangeSpec := { name := "fnRootMoves", fn := fun _ => fun
  | [d] => { results := [.lit (.bool false)], args := [d] }
  | _ => none }
def FnRootMovesWrongFalsely : Prop := fnRootMovesRow.holds Try.pinned (OpenSpec.ofChange fnRootMovesWrong)

/-- 'laws.FnRootLists': WHATEVER THE INPUT: true; the input reads as it did. -/
def fnRootListsSpec : ChangeSpec := { name := "fnRootLists", fn := fun _ => fun
  | [d] => { results := [.lit (.bool true)], args := [d] }
  | _ => none }
def fnRootListsRow : OpenClaim := { program := "ythiignohbooelaa", sum := "6ea4663dbf126cb381ad333509be114f81bc3b3258419407adebc4bc16f27f79", func := "loop.example/g01283/laws.FnRootLists", spec := "fnRootLists", unfollowed := true, recurses := true, apart := false }
def FnRootListsSaid : Prop := fnRootListsRow.holds Try.pinned (OpenSpec.ofChange fnRootListsSpec)

/-- ITS FALSE NEIGHBOUR: 'it returns false'. Refute it at one input. -/
def fnRootListsWrong : ChangeSpec := { name := "fnRootLists", fn := fun _ => fun
  | [d] => { results := [.lit (.bool false)], args := [d] }
  | _ => none }
def FnRootListsWrongFalsely : Prop := fnRootListsRow.holds Try.pinned (OpenSpec.ofChange fnRootListsWrong)

/-- 'laws.FnExactPowerSums': WHATEVER THE INPUT: true; the input reads as it did. -/
def fnExactPowerSumsSpec : ChangeSpec := { name := "fnExactPowerSums", fn := fun _ => fun
  | [d1, d2, d3] => { results := [.lit (.bool true)], args := [d1, d2, d3] }
  | _ => none }
def fnExactPowerSumsRow : OpenClaim := { program := "ythiignohbooelaa", sum := "6ea4663dbf126cb381ad333509be114f81bc3b3258419407adebc4bc16f27f79", func := "loop.example/g01283/laws.FnExactPowerSums", spec := "fnExactPowerSums", unfollowed := true, recurses := true, apart := false }
def FnExactPowerSumsSaid : Prop := fnExactPowerSumsRow.holds Try.pinned (OpenSpec.ofChange fnExactPowerSumsSpec)

/-- ITS FALSE NEIGHBOUR: 'it returns false'. Refute it at one input. -/
def fnExactPowerSumsWrong : ChangeSpec := { name := "fnExactPowerSums", fn := fun _ => fun
  | [d1, d2, d3] => { results := [.lit (.bool false)], args := [d1, d2, d3] }
  | _ => none }
def FnExactPowerSumsWrongFalsely : Prop := fnExactPowerSumsRow.holds Try.pinned (OpenSpec.ofChange fnExactPowerSumsWrong)

/- THE SECOND FORM. 'bulk': how many values and letters a reading holds, each counted each time it is reached (what is shared counts as often as it is met; a slice's spare places count too). A statement '..UptoSaid' is the law's where the arguments, and the package variables that the reading takes, are together of bulk at most 1048576: NARROWER than '..Said'. Prove '..Said' where nothing that the law and all that it calls make is longer than what came in: it says more and counts as full. Else prove '..UptoSaid'. A law counts once. -/
mutual
def uptoBulk {H : Type} : DataW H → Nat
  | .lit (.string bytes) => bytes.length + 1
  | .lit _ => 1
  | .nil => 1
  | .ptr d => uptoBulk d + 1
  | .slice elems spare => uptoBulkAll elems + uptoBulkAll spare + 1
  | .agg parts => uptoBulkAll parts + 1
  | .iface _ d => uptoBulk d + 1
  | .map entries => uptoBulkEntries entries + 1
  | .held _ => 1
def uptoBulkAll {H : Type} : List (DataW H) → Nat
  | [] => 0
  | d :: r => uptoBulk d + uptoBulkAll r
def uptoBulkEntries {H : Type} : List (Lit × DataW H) → Nat
  | [] => 0
  | x :: r => uptoBulkEntry x + uptoBulkEntries r
def uptoBulkEntry {H : Type} : Lit × DataW H → Nat
  | (.string bytes, d) => bytes.length + uptoBulk d + 1
  | (_, d) => uptoBulk d + 1
 end
def uptoSmall : (H : Type) → List (DataW H) → Bool := fun _ ds => decide (uptoBulkAll ds ≤ 1048576)
def OpenSpec.upto (s : _root_.Go.ChangeSpec) : _root_.Go.OpenSpec := { _root_.Go.OpenSpec.ofChange s with cond := some uptoSmall }

/-- 'laws.FnRootMoves', WHERE WHAT IT READS IS OF BULK AT MOST 1048576: true; the input reads as it did. -/
def fnRootMovesUptoRow : OpenClaim := { program := "ythiignohbooelaa", sum := "6ea4663dbf126cb381ad333509be114f81bc3b3258419407adebc4bc16f27f79", func := "loop.example/g01283/laws.FnRootMoves", spec := "fnRootMoves", unfollowed := true, recurses := true, apart := false, narrowed := true }
def FnRootMovesUptoSaid : Prop := fnRootMovesUptoRow.holds Try.pinned (OpenSpec.upto fnRootMovesSpec)

/-- 'laws.FnRootLists', WHERE WHAT IT READS IS OF BULK AT MOST 1048576: true; the input reads as it did. -/
def fnRootListsUptoRow : OpenClaim := { program := "ythiignohbooelaa", sum := "6ea4663dbf126cb381ad333509be114f81bc3b3258419407adebc4bc16f27f79", func := "loop.example/g01283/laws.FnRootLists", spec := "fnRootLists", unfollowed := true, recurses := true, apart := false, narrowed := true }
def FnRootListsUptoSaid : Prop := fnRootListsUptoRow.holds Try.pinned (OpenSpec.upto fnRootListsSpec)

/-- 'laws.FnExactPowerSums', WHERE WHAT IT READS IS OF BULK AT MOST 1048576: true; the input reads as it did. -/
def fnExactPowerSumsUptoRow : OpenClaim := { program := "ythiignohbooelaa", sum := "6ea4663dbf126cb381ad333509be114f81bc3b3258419407adebc4bc16f27f79", func := "loop.example/g01283/laws.FnExactPowerSums", spec := "fnExactPowerSums", unfollowed := true, recurses := true, apart := false, narrowed := true }
def FnExactPowerSumsUptoSaid : Prop := fnExactPowerSumsUptoRow.holds Try.pinned (OpenSpec.upto fnExactPowerSumsSpec)

end Rows
end Go.Proofs.Ythiignohbooelaa
