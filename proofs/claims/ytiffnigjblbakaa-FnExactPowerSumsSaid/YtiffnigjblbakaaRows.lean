/-
  No cell of these rows narrows 'for every input' (looked for: loops, veiled, ifaces, maps, wideKeys, modest, calm, conditions, laid).
  DERIVED. THE GIVEN ROWS OF THIS SEAT. 5 by the template 'for every input the law returns true; each argument reads behind the call as it read before'; 0 by the template 'total and deterministic' (their statements: YtiffnigjblbakaaTotals.lean).
  GIVEN WITH THE SEED: the statements are not yours to turn. If you find one false, say at which input.
  Laid BY PROGRAM, IN A SANDBOX (cutbox-rows.mjs): the forced cells as the released guide's own fill.sh prints them over the translation 6ea4d13026ea3ab2… (all of the seat's roots in one cut). By AI agents, Wed Nov 11 2026. No macro, syntax, notation, axiom, sorry.
-/
import Derived.Test.YtiffnigjblbakaaChecked
import GoSem.Claim
import GoSem.ClaimJoined
import GoSem.ClaimMapViews
import Derived.JoinedTies
import Derived.KernelRfl
namespace Go.Proofs.Ytiffnigjblbakaa
/- THE CELL 'sum', in the pinned program and in every row, IS THE sha256 OF THE DUMP (.gsa) THAT YtiffnigjblbakaaProg.lean LOADS. Nothing in Lean hashes anything: it is a label: what it is worth is what the hold of that sum in a sandbox is worth. -/
noncomputable def Try.pinned : Pinned := { name := "ytiffnigjblbakaa", sum := "6ea4d13026ea3ab2f87e458fba20160ef8780ef60d953bb8648416eecd7fdd7b", checked := Try.checked }
namespace Rows
def none {H : Type} : Left H := { results := [], args := [] }

/-- 'laws.FnExactMomentsOfNodes': WHATEVER THE INPUT: true; the input reads as it did. -/
def fnExactMomentsOfNodesSpec : ChangeSpec := { name := "fnExactMomentsOfNodes", fn := fun _ => fun
  | [d1, d2, d3, d4] => { results := [.lit (.bool true)], args := [d1, d2, d3, d4] }
  | _ => none }
def fnExactMomentsOfNodesRow : OpenClaim := { program := "ytiffnigjblbakaa", sum := "6ea4d13026ea3ab2f87e458fba20160ef8780ef60d953bb8648416eecd7fdd7b", func := "loop.example/g01283/laws.FnExactMomentsOfNodes", spec := "fnExactMomentsOfNodes", unfollowed := true, recurses := true, apart := false }
def FnExactMomentsOfNodesSaid : Prop := fnExactMomentsOfNodesRow.holds Try.pinned (OpenSpec.ofChange fnExactMomentsOfNodesSpec)

/-- ITS FALSE NEIGHBOUR: 'it returns false'. Refute it at one input. -/
def fnExactMomentsOfNodesWrong : ChangeSpec := { name := "fnExactMomentsOfNodes", fn := fun _ => fun
  | [d1, d2, d3, d4] => { results := [.lit (.bool false)], args := [d1, d2, d3, d4] }
  | _ => none }
def FnExactMomentsOfNodesWrongFalsely : Prop := fnExactMomentsOfNodesRow.holds Try.pinned (OpenSpec.ofChange fnExactMomentsOfNodesWrong)

/-- 'laws.FnPolynomials': WHATEVER THE INPUT: true; the input reads as it did. -/
def fnPolynomialsSpec : ChangeSpec := { name := "fnPolynomials", fn := fun _ => fun
  | [d] => { results := [.lit (.bool true)], args := [d] }
  | _ => none }
def fnPolynomialsRow : OpenClaim := { program := "ytiffnigjblbakaa", sum := "6ea4d13026ea3ab2f87e458fba20160ef8780ef60d953bb8648416eecd7fdd7b", func := "loop.example/g01283/laws.FnPolynomials", spec := "fnPolynomials", unfollowed := true, recurses := true, apart := false }
def FnPolynomialsSaid : Prop := fnPolynomialsRow.holds Try.pinned (OpenSpec.ofChange fnPolynomialsSpec)

/-- ITS FALSE NEIGHBOUR: 'it returns false'. Refute it at one input. -/
def fnPolynomialsWrong : ChangeSpec := { name := "fnPolynomials", fn := fun _ => fun
  | [d] => { results := [.lit (.bool false)], args := [d] }
  | _ => none }
def FnPolynomialsWrongFalsely : Prop := fnPolynomialsRow.holds Try.pinned (OpenSpec.ofChange fnPolynomialsWrong)

/-- 'laws.FnExactFindJacobi': WHATEVER THE INPUT: true; the input reads as it did. -/
def fnExactFindJacobiSpec : ChangeSpec := { name := "fnExactFindJacobi", fn := fun _ => fun
  | [d1, d2, d3, d4] => { results := [.lit (.bool true)], args := [d1, d2, d3, d4] }
  | _ => none }
def fnExactFindJacobiRow : OpenClaim := { program := "ytiffnigjblbakaa", sum := "6ea4d13026ea3ab2f87e458fba20160ef8780ef60d953bb8648416eecd7fdd7b", func := "loop.example/g01283/laws.FnExactFindJacobi", spec := "fnExactFindJacobi", unfollowed := true, recurses := true, apart := false }
def FnExactFindJacobiSaid : Prop := fnExactFindJacobiRow.holds Try.pinned (OpenSpec.ofChange fnExactFindJacobiSpec)

/-- ITS FALSE NEIGHBOUR: 'it returns false'. Refute it at one input. -/
def fnExactFindJacobiWrong : ChangeSpec := { name := "fnExactFindJacobi", fn := fun _ => fun
  | [d1, d2, d3, d4] => { results := [.lit (.bool false)], args := [d1, d2, d3, d4] }
  | _ => none }
def FnExactFindJacobiWrongFalsely : Prop := fnExactFindJacobiRow.holds Try.pinned (OpenSpec.ofChange fnExactFindJacobiWrong)

/-- 'laws.FnExactQuotientsOf': WHATEVER THE INPUT: true; the input reads as it did. -/
def fnExactQuotientsOfSpec : ChangeSpec := { name := "fnExactQuotientsOf", fn := fun _ => fun
  | [d1, d2, d3] => { results := [.lit (.bool true)], args := [d1, d2, d3] }
  | _ => none }
def fnExactQuotientsOfRow : OpenClaim := { program := "ytiffnigjblbakaa", sum := "6ea4d13026ea3ab2f87e458fba20160ef8780ef60d953bb8648416eecd7fdd7b", func := "loop.example/g01283/laws.FnExactQuotientsOf", spec := "fnExactQuotientsOf", unfollowed := true, recurses := true, apart := false }
def FnExactQuotientsOfSaid : Prop := fnExactQuotientsOfRow.holds Try.pinned (OpenSpec.ofChange fnExactQuotientsOfSpec)

/-- ITS FALSE NEIGHBOUR: 'it returns false'. Refute it at one input. -/
def fnExactQuotientsOfWrong : ChangeSpec := { name := "fnExactQuotientsOf", fn := fun _ => fun
  | [d1, d2, d3] => { results := [.lit (.bool false)], args := [d1, d2, d3] }
  | _ => none }
def FnExactQuotientsOfWrongFalsely : Prop := fnExactQuotientsOfRow.holds Try.pinned (OpenSpec.ofChange fnExactQuotientsOfWrong)

/-- 'laws.FnExactPowerSums': WHATEVER THE INPUT: true; the input reads as it did. -/
def fnExactPowerSumsSpec : ChangeSpec := { name := "fnExactPowerSums", fn := fun _ => fun
  | [d1, d2, d3] => { results := [.lit (.bool true)], args := [d1, d2, d3] }
  | _ => none }
def fnExactPowerSumsRow : OpenClaim := { program := "ytiffnigjblbakaa", sum := "6ea4d13026ea3ab2f87e458fba20160ef8780ef60d953bb8648416eecd7fdd7b", func := "loop.example/g01283/laws.FnExactPowerSums", spec := "fnExactPowerSums", unfollowed := true, recurses := true, apart := false }
def FnExactPowerSumsSaid : Prop := fnExactPowerSumsRow.holds Try.pinned (OpenSpec.ofChange fnExactPowerSumsSpec)

/-- ITS FALSE NEIGHBOUR: 'it returns false'. Refute it at one input. -/
def fnExactPowerSumsWrong : ChangeSpec := { name := "fnExactPowerSums", fn := fun _ => fun
  | [d1, d2, d3] => { results := [.lit (.bool false)], args := [d1, d2, d3] }
  | _ => none }
def FnExactPowerSumsWrongFalsely : Prop := fnExactPowerSumsRow.holds Try.pinned (OpenSpec.ofChange fnExactPowerSumsWrong)

/- THE SECOND FORM. 'bulk': how many values and letters a reading holds, each counted each time it is reached (what is shared counts as often as it is met; a slice's spare places count too). A statement '..UptoSaid' is the law's where the arguments, and the package variables that the reading takes, are together of bulk at most 1048576: NARROWER than '..Said'. Prove '..Said' where nothing that the law and all that it calls make is longer than what came in: it says more and counts as full. Else prove '..UptoSaid'. A law counts once. -/
mutual
def uptoBulk {H : Type} : DataW H → Nat
  | .lit (.string bytes) => bytes.length + 1
  | .lit _ => 1
  | .nil => 1
  | .ptr d => uptoBulk d + 1
  | .slice elems spare => uptoBulkAll elems + uptoBulkAll spare + 1
  | .agg parts => uptoBulkAll parts + 1
  | .iface _ d => uptoBulk d + 1
  | .map entries => uptoBulkEntries entries + 1
  | .held _ => 1
def uptoBulkAll {H : Type} : List (DataW H) → Nat
  | [] => 0
  | d :: r => uptoBulk d + uptoBulkAll r
def uptoBulkEntries {H : Type} : List (Lit × DataW H) → Nat
  | [] => 0
  | x :: r => uptoBulkEntry x + uptoBulkEntries r
def uptoBulkEntry {H : Type} : Lit × DataW H → Nat
  | (.string bytes, d) => bytes.length + uptoBulk d + 1
  | (_, d) => uptoBulk d + 1
 end
def uptoSmall : (H : Type) → List (DataW H) → Bool := fun _ ds => decide (uptoBulkAll ds ≤ 1048576)
def OpenSpec.upto (s : _root_.Go.ChangeSpec) : _root_.Go.OpenSpec := { _root_.Go.OpenSpec.ofChange s with cond := some uptoSmall }

/-- 'laws.FnExactMomentsOfNodes', WHERE WHAT IT READS IS OF BULK AT MOST 1048576: true; the input reads as it did. -/
def fnExactMomentsOfNodesUptoRow : OpenClaim := { program := "ytiffnigjblbakaa", sum := "6ea4d13026ea3ab2f87e458fba20160ef8780ef60d953bb8648416eecd7fdd7b", func := "loop.example/g01283/laws.FnExactMomentsOfNodes", spec := "fnExactMomentsOfNodes", unfollowed := true, recurses := true, apart := false, narrowed := true }
def FnExactMomentsOfNodesUptoSaid : Prop := fnExactMomentsOfNodesUptoRow.holds Try.pinned (OpenSpec.upto fnExactMomentsOfNodesSpec)

/-- 'laws.FnPolynomials', WHERE WHAT IT READS IS OF BULK AT MOST 1048576: true; the input reads as it did. -/
def fnPolynomialsUptoRow : OpenClaim := { program := "ytiffnigjblbakaa", sum := "6ea4d13026ea3ab2f87e458fba20160ef8780ef60d953bb8648416eecd7fdd7b", func := "loop.example/g01283/laws.FnPolynomials", spec := "fnPolynomials", unfollowed := true, recurses := true, apart := false, narrowed := true }
def FnPolynomialsUptoSaid : Prop := fnPolynomialsUptoRow.holds Try.pinned (OpenSpec.upto fnPolynomialsSpec)

/-- 'laws.FnExactFindJacobi', WHERE WHAT IT READS IS OF BULK AT MOST 1048576: true; the input reads as it did. -/
def fnExactFindJacobiUptoRow : OpenClaim := { program := "ytiffnigjblbakaa", sum := "6ea4d13026ea3ab2f87e458fba20160ef8780ef60d953bb8648416eecd7fdd7b", func := "loop.example/g01283/laws.FnExactFindJacobi", spec := "fnExactFindJacobi", unfollowed := true, recurses := true, apart := false, narrowed := true }
def FnExactFindJacobiUptoSaid : Prop := fnExactFindJacobiUptoRow.holds Try.pinned (OpenSpec.upto fnExactFindJacobiSpec)

/-- 'laws.FnExactQuotientsOf', WHERE WHAT IT READS IS OF BULK AT MOST 1048576: true; the input reads as it did. -/
def fnExactQuotientsOfUptoRow : OpenClaim := { program := "ytiffnigjblbakaa", sum := "6ea4d13026ea3ab2f87e458fba20160ef8780ef60d953bb8648416eecd7fdd7b", func := "loop.example/g01283/laws.FnExactQuotientsOf", spec := "fnExactQuotientsOf", unfollowed := true, recurses := true, apart := false, narrowed := true }
def FnExactQuotientsOfUptoSaid : Prop := fnExactQuotientsOfUptoRow.holds Try.pinned (OpenSpec.upto fnExactQuotientsOfSpec)

/-- 'laws.FnExactPowerSums', WHERE WHAT IT READS IS OF BULK AT MOST 1048576: true; the input reads as it did. -/
def fnExactPowerSumsUptoRow : OpenClaim := { program := "ytiffnigjblbakaa", sum := "6ea4d13026ea3ab2f87e458fba20160ef8780ef60d953bb8648416eecd7fdd7b", func := "loop.example/g01283/laws.FnExactPowerSums", spec := "fnExactPowerSums", unfollowed := true, recurses := true, apart := false, narrowed := true }
def FnExactPowerSumsUptoSaid : Prop := fnExactPowerSumsUptoRow.holds Try.pinned (OpenSpec.upto fnExactPowerSumsSpec)

end Rows
end Go.Proofs.Ytiffnigjblbakaa
