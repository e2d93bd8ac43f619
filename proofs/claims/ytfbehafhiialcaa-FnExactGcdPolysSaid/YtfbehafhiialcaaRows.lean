/-
  No cell of these rows narrows 'for every input' (looked for: loops, veiled, ifaces, maps, wideKeys, modest, calm, conditions, laid).
  DERIVED. THE GIVEN ROWS OF THIS SEAT. 6 by the template 'for every input the law returns true; each argument reads behind the call as it read before'; 0 by the template 'total and deterministic' (their statements: YtfbehafhiialcaaTotals.lean).
  GIVEN WITH THE SEED: the statements are not yours to turn. If you find one false, say at which input.
  Laid BY PROGRAM, IN A SANDBOX (cutbox-rows.mjs): the forced cells as the released guide's own fill.sh prints them over the translation 6e23902efe76b29c… (all of the seat's roots in one cut). By AI agents, Wed Nov 11 2026. No macro, syntax, notation, axiom, sorry.
-/
import Derived.Test.YtfbehafhiialcaaChecked
import GoSem.Claim
import GoSem.ClaimJoined
import GoSem.ClaimMapViews
import Derived.JoinedTies
import Derived.KernelRfl
namespace Go.Proofs.Ytfbehafhiialcaa
/- THE CELL 'sum', in the pinned program and in every row, IS THE sha256 OF THE DUMP (.gsa) THAT YtfbehafhiialcaaProg.lean LOADS. Nothing in Lean hashes anything: it is a label: what it is worth is what the hold of that sum in a sandbox is worth. -/
noncomputable def Try.pinned : Pinned := { name := "ytfbehafhiialcaa", sum := "6e23902efe76b29c030880e586f4228da5bf0ea845bb673a6e29bccf62b83165", checked := Try.checked }
namespace Rows
def none {H : Type} : Left H := { results := [], args := [] }

/-- 'laws.FnExactGcdPolys': WHATEVER THE INPUT: true; the input reads as it did. -/
def fnExactGcdPolysSpec : ChangeSpec := { name := "fnExactGcdPolys", fn := fun _ => fun
  | [d1, d2, d3] => { results := [.lit (.bool true)], args := [d1, d2, d3] }
  | _ => none }
def fnExactGcdPolysRow : OpenClaim := { program := "ytfbehafhiialcaa", sum := "6e23902efe76b29c030880e586f4228da5bf0ea845bb673a6e29bccf62b83165", func := "loop.example/g01283/laws.FnExactGcdPolys", spec := "fnExactGcdPolys", unfollowed := true, recurses := true, apart := false }
def FnExactGcdPolysSaid : Prop := fnExactGcdPolysRow.holds Try.pinned (OpenSpec.ofChange fnExactGcdPolysSpec)

/-- ITS FALSE NEIGHBOUR: 'it returns false'. Refute it at one input. -/
def fnExactGcdPolysWrong : ChangeSpec := { name := "fnExactGcdPolys", fn := fun _ => fun
  | [d1, d2, d3] => { results := [.lit (.bool false)], args := [d1, d2, d3] }
  | _ => none }
def FnExactGcdPolysWrongFalsely : Prop := fnExactGcdPolysRow.holds Try.pinned (OpenSpec.ofChange fnExactGcdPolysWrong)

/-- 'laws.FnExactPolynomialOfRoots': WHATEVER THE INPUT: true; the input reads as it did. -/
def fnExactPolynomialOfRootsSpec : ChangeSpec := { name := "fnExactPolynomialOfRoots", fn := fun _ => fun
  | [d1, d2] => { results := [.lit (.bool true)], args := [d1, d2] }
  | _ => none }
def fnExactPolynomialOfRootsRow : OpenClaim := { program := "ytfbehafhiialcaa", sum := "6e23902efe76b29c030880e586f4228da5bf0ea845bb673a6e29bccf62b83165", func := "loop.example/g01283/laws.FnExactPolynomialOfRoots", spec := "fnExactPolynomialOfRoots", unfollowed := true, recurses := true, apart := false }
def FnExactPolynomialOfRootsSaid : Prop := fnExactPolynomialOfRootsRow.holds Try.pinned (OpenSpec.ofChange fnExactPolynomialOfRootsSpec)

/-- ITS FALSE NEIGHBOUR: 'it returns false'. Refute it at one input. -/
def fnExactPolynomialOfRootsWrong : ChangeSpec := { name := "fnExactPolynomialOfRoots", fn := fun _ => fun
  | [d1, d2] => { results := [.lit (.bool false)], args := [d1, d2] }
  | _ => none }
def FnExactPolynomialOfRootsWrongFalsely : Prop := fnExactPolynomialOfRootsRow.holds Try.pinned (OpenSpec.ofChange fnExactPolynomialOfRootsWrong)

/-- 'laws.FnExactReversePolynomial': WHATEVER THE INPUT: true; the input reads as it did. -/
def fnExactReversePolynomialSpec : ChangeSpec := { name := "fnExactReversePolynomial", fn := fun _ => fun
  | [d1, d2] => { results := [.lit (.bool true)], args := [d1, d2] }
  | _ => none }
def fnExactReversePolynomialRow : OpenClaim := { program := "ytfbehafhiialcaa", sum := "6e23902efe76b29c030880e586f4228da5bf0ea845bb673a6e29bccf62b83165", func := "loop.example/g01283/laws.FnExactReversePolynomial", spec := "fnExactReversePolynomial", unfollowed := true, recurses := true, apart := false }
def FnExactReversePolynomialSaid : Prop := fnExactReversePolynomialRow.holds Try.pinned (OpenSpec.ofChange fnExactReversePolynomialSpec)

/-- ITS FALSE NEIGHBOUR: 'it returns false'. Refute it at one input. -/
def fnExactReversePolynomialWrong : ChangeSpec := { name := "fnExactReversePolynomial", fn := fun _ => fun
  | [d1, d2] => { results := [.lit (.bool false)], args := [d1, d2] }
  | _ => none }
def FnExactReversePolynomialWrongFalsely : Prop := fnExactReversePolynomialRow.holds Try.pinned (OpenSpec.ofChange fnExactReversePolynomialWrong)

/-- 'laws.FnExactMultiplicityOf': WHATEVER THE INPUT: true; the input reads as it did. -/
def fnExactMultiplicityOfSpec : ChangeSpec := { name := "fnExactMultiplicityOf", fn := fun _ => fun
  | [d1, d2, d3] => { results := [.lit (.bool true)], args := [d1, d2, d3] }
  | _ => none }
def fnExactMultiplicityOfRow : OpenClaim := { program := "ytfbehafhiialcaa", sum := "6e23902efe76b29c030880e586f4228da5bf0ea845bb673a6e29bccf62b83165", func := "loop.example/g01283/laws.FnExactMultiplicityOf", spec := "fnExactMultiplicityOf", unfollowed := true, recurses := true, apart := false }
def FnExactMultiplicityOfSaid : Prop := fnExactMultiplicityOfRow.holds Try.pinned (OpenSpec.ofChange fnExactMultiplicityOfSpec)

/-- ITS FALSE NEIGHBOUR: 'it returns false'. Refute it at one input. -/
def fnExactMultiplicityOfWrong : ChangeSpec := { name := "fnExactMultiplicityOf", fn := fun _ => fun
  | [d1, d2, d3] => { results := [.lit (.bool false)], args := [d1, d2, d3] }
  | _ => none }
def FnExactMultiplicityOfWrongFalsely : Prop := fnExactMultiplicityOfRow.holds Try.pinned (OpenSpec.ofChange fnExactMultiplicityOfWrong)

/-- 'laws.FnExactDoesSplit': WHATEVER THE INPUT: true; the input reads as it did. -/
def fnExactDoesSplitSpec : ChangeSpec := { name := "fnExactDoesSplit", fn := fun _ => fun
  | [d1, d2] => { results := [.lit (.bool true)], args := [d1, d2] }
  | _ => none }
def fnExactDoesSplitRow : OpenClaim := { program := "ytfbehafhiialcaa", sum := "6e23902efe76b29c030880e586f4228da5bf0ea845bb673a6e29bccf62b83165", func := "loop.example/g01283/laws.FnExactDoesSplit", spec := "fnExactDoesSplit", unfollowed := true, recurses := true, apart := false }
def FnExactDoesSplitSaid : Prop := fnExactDoesSplitRow.holds Try.pinned (OpenSpec.ofChange fnExactDoesSplitSpec)

/-- ITS FALSE NEIGHBOUR: 'it returns false'. Refute it at one input. -/
def fnExactDoesSplitWrong : ChangeSpec := { name := "fnExactDoesSplit", fn := fun _ => fun
  | [d1, d2] => { results := [.lit (.bool false)], args := [d1, d2] }
  | _ => none }
def FnExactDoesSplitWrongFalsely : Prop := fnExactDoesSplitRow.holds Try.pinned (OpenSpec.ofChange fnExactDoesSplitWrong)

/-- 'laws.FnExactPowerPoly': WHATEVER THE INPUT: true; the input reads as it did. -/
def fnExactPowerPolySpec : ChangeSpec := { name := "fnExactPowerPoly", fn := fun _ => fun
  | [d1, d2, d3] => { results := [.lit (.bool true)], args := [d1, d2, d3] }
  | _ => none }
def fnExactPowerPolyRow : OpenClaim := { program := "ytfbehafhiialcaa", sum := "6e23902efe76b29c030880e586f4228da5bf0ea845bb673a6e29bccf62b83165", func := "loop.example/g01283/laws.FnExactPowerPoly", spec := "fnExactPowerPoly", unfollowed := true, recurses := true, apart := false }
def FnExactPowerPolySaid : Prop := fnExactPowerPolyRow.holds Try.pinned (OpenSpec.ofChange fnExactPowerPolySpec)

/-- ITS FALSE NEIGHBOUR: 'it returns false'. Refute it at one input. -/
def fnExactPowerPolyWrong : ChangeSpec := { name := "fnExactPowerPoly", fn := fun _ => fun
  | [d1, d2, d3] => { results := [.lit (.bool false)], args := [d1, d2, d3] }
  | _ => none }
def FnExactPowerPolyWrongFalsely : Prop := fnExactPowerPolyRow.holds Try.pinned (OpenSpec.ofChange fnExactPowerPolyWrong)

/- THE SECOND FORM. 'bulk': how many values and letters a reading holds, each counted each time it is reached (what is shared counts as often as it is met; a slice's spare places count too). A statement '..UptoSaid' is the law's where the arguments, and the package variables that the reading takes, are together of bulk at most 1048576: NARROWER than '..Said'. Prove '..Said' where nothing that the law and all that it calls make is longer than what came in: it says more and counts as full. Else prove '..UptoSaid'. A law counts once. -/
mutual
def uptoBulk {H : Type} : DataW H → Nat
  | .lit (.string bytes) => bytes.length + 1
  | .lit _ => 1
  | .nil => 1
  | .ptr d => uptoBulk d + 1
  | .slice elems spare => uptoBulkAll elems + uptoBulkAll spare + 1
  | .agg parts => uptoBulkAll parts + 1
  | .iface _ d => uptoBulk d + 1
  | .map entries => uptoBulkEntries entries + 1
  | .held _ => 1
def uptoBulkAll {H : Type} : List (DataW H) → Nat
  | [] => 0
  | d :: r => uptoBulk d + uptoBulkAll r
def uptoBulkEntries {H : Type} : List (Lit × DataW H) → Nat
  | [] => 0
  | x :: r => uptoBulkEntry x + uptoBulkEntries r
def uptoBulkEntry {H : Type} : Lit × DataW H → Nat
  | (.string bytes, d) => bytes.length + uptoBulk d + 1
  | (_, d) => uptoBulk d + 1
 end
def uptoSmall : (H : Type) → List (DataW H) → Bool := fun _ ds => decide (uptoBulkAll ds ≤ 1048576)
def OpenSpec.upto (s : _root_.Go.ChangeSpec) : _root_.Go.OpenSpec := { _root_.Go.OpenSpec.ofChange s with cond := some uptoSmall }

/-- 'laws.FnExactGcdPolys', WHERE WHAT IT READS IS OF BULK AT MOST 1048576: true; the input reads as it did. -/
def fnExactGcdPolysUptoRow : OpenClaim := { program := "ytfbehafhiialcaa", sum := "6e23902efe76b29c030880e586f4228da5bf0ea845bb673a6e29bccf62b83165", func := "loop.example/g01283/laws.FnExactGcdPolys", spec := "fnExactGcdPolys", unfollowed := true, recurses := true, apart := false, narrowed := true }
def FnExactGcdPolysUptoSaid : Prop := fnExactGcdPolysUptoRow.holds Try.pinned (OpenSpec.upto fnExactGcdPolysSpec)

/-- 'laws.FnExactPolynomialOfRoots', WHERE WHAT IT READS IS OF BULK AT MOST 1048576: true; the input reads as it did. -/
def fnExactPolynomialOfRootsUptoRow : OpenClaim := { program := "ytfbehafhiialcaa", sum := "6e23902efe76b29c030880e586f4228da5bf0ea845bb673a6e29bccf62b83165", func := "loop.example/g01283/laws.FnExactPolynomialOfRoots", spec := "fnExactPolynomialOfRoots", unfollowed := true, recurses := true, apart := false, narrowed := true }
def FnExactPolynomialOfRootsUptoSaid : Prop := fnExactPolynomialOfRootsUptoRow.holds Try.pinned (OpenSpec.upto fnExactPolynomialOfRootsSpec)

/-- 'laws.FnExactReversePolynomial', WHERE WHAT IT READS IS OF BULK AT MOST 1048576: true; the input reads as it did. -/
def fnExactReversePolynomialUptoRow : OpenClaim := { program := "ytfbehafhiialcaa", sum := "6e23902efe76b29c030880e586f4228da5bf0ea845bb673a6e29bccf62b83165", func := "loop.example/g01283/laws.FnExactReversePolynomial", spec := "fnExactReversePolynomial", unfollowed := true, recurses := true, apart := false, narrowed := true }
def FnExactReversePolynomialUptoSaid : Prop := fnExactReversePolynomialUptoRow.holds Try.pinned (OpenSpec.upto fnExactReversePolynomialSpec)

/-- 'laws.FnExactMultiplicityOf', WHERE WHAT IT READS IS OF BULK AT MOST 1048576: true; the input reads as it did. -/
def fnExactMultiplicityOfUptoRow : OpenClaim := { program := "ytfbehafhiialcaa", sum := "6e23902efe76b29c030880e586f4228da5bf0ea845bb673a6e29bccf62b83165", func := "loop.example/g01283/laws.FnExactMultiplicityOf", spec := "fnExactMultiplicityOf", unfollowed := true, recurses := true, apart := false, narrowed := true }
def FnExactMultiplicityOfUptoSaid : Prop := fnExactMultiplicityOfUptoRow.holds Try.pinned (OpenSpec.upto fnExactMultiplicityOfSpec)

/-- 'laws.FnExactDoesSplit', WHERE WHAT IT READS IS OF BULK AT MOST 1048576: true; the input reads as it did. -/
def fnExactDoesSplitUptoRow : OpenClaim := { program := "ytfbehafhiialcaa", sum := "6e23902efe76b29c030880e586f4228da5bf0ea845bb673a6e29bccf62b83165", func := "loop.example/g01283/laws.FnExactDoesSplit", spec := "fnExactDoesSplit", unfollowed := true, recurses := true, apart := false, narrowed := true }
def FnExactDoesSplitUptoSaid : Prop := fnExactDoesSplitUptoRow.holds Try.pinned (OpenSpec.upto fnExactDoesSplitSpec)

/-- 'laws.FnExactPowerPoly', WHERE WHAT IT READS IS OF BULK AT MOST 1048576: true; the input reads as it did. -/
def fnExactPowerPolyUptoRow : OpenClaim := { program := "ytfbehafhiialcaa", sum := "6e23902efe76b29c030880e586f4228da5bf0ea845bb673a6e29bccf62b83165", func := "loop.example/g01283/laws.FnExactPowerPoly", spec := "fnExactPowerPoly", unfollowed := true, recurses := true, apart := false, narrowed := true }
def FnExactPowerPolyUptoSaid : Prop := fnExactPowerPolyUptoRow.holds Try.pinned (OpenSpec.upto fnExactPowerPolySpec)

end Rows
end Go.Proofs.Ytfbehafhiialcaa
