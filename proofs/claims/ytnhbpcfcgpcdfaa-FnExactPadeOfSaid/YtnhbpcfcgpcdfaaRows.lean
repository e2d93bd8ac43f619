/-
  No cell of these rows narrows 'for every input' (looked for: loops, veiled, ifaces, maps, wideKeys, modest, calm, conditions, laid).
  DERIVED. THE GIVEN ROWS OF THIS SEAT. 6 by the template 'for every input the law returns true; each argument reads behind the call as it read before'; 0 by the template 'total and deterministic' (their statements: YtnhbpcfcgpcdfaaTotals.lean).
  GIVEN WITH THE SEED: the statements are not yours to turn. If you find one false, say at which input.
  Laid BY PROGRAM, IN A SANDBOX (cutbox-rows.mjs): the forced cells as the released guide's own fill.sh prints them over the translation 8cc5ed93c947e7e2… (all of the seat's roots in one cut). By AI agents, Wed Nov 11 2026. No macro, syntax, notation, axiom, sorry.
-/
import Derived.Test.YtnhbpcfcgpcdfaaChecked
import GoSem.Claim
import GoSem.ClaimJoined
import GoSem.ClaimMapViews
import Derived.JoinedTies
import Derived.KernelRfl
namespace Go.Proofs.Ytnhbpcfcgpcdfaa
/- THE CELL 'sum', in the pinned program and in every row, IS THE sha256 OF THE DUMP (.gsa) THAT YtnhbpcfcgpcdfaaProg.lean LOADS. Nothing in Lean hashes anything: it is a label: what it is worth is what the hold of that sum in a sandbox is worth. -/
noncomputable def Try.pinned : Pinned := { name := "ytnhbpcfcgpcdfaa", sum := "8cc5ed93c947e7e2e6957dee97987586026b5c0ae61789ad0b676ca2660f0b51", checked := Try.checked }
namespace Rows
def none {H : Type} : Left H := { results := [], args := [] }

/-- 'laws.FnExactIsSimplePolynomial': WHATEVER THE INPUT: true; the input reads as it did. -/
def fnExactIsSimplePolynomialSpec : ChangeSpec := { name := "fnExactIsSimplePolynomial", fn := fun _ => fun
  | [d1, d2] => { results := [.lit (.bool true)], args := [d1, d2] }
  | _ => none }
def fnExactIsSimplePolynomialRow : OpenClaim := { program := "ytnhbpcfcgpcdfaa", sum := "8cc5ed93c947e7e2e6957dee97987586026b5c0ae61789ad0b676ca2660f0b51", func := "loop.example/g01283/laws.FnExactIsSimplePolynomial", spec := "fnExactIsSimplePolynomial", unfollowed := true, recurses := true, apart := false }
def FnExactIsSimplePolynomialSaid : Prop := fnExactIsSimplePolynomialRow.holds Try.pinned (OpenSpec.ofChange fnExactIsSimplePolynomialSpec)

/-- ITS FALSE NEIGHBOUR: 'it returns false'. Refute it at one input. -/
def fnExactIsSimplePolynomialWrong : ChangeSpec := { name := "fnExactIsSimplePolynomial", fn := fun _ => fun
  | [d1, d2] => { results := [.lit (.bool false)], args := [d1, d2] }
  | _ => none }
def FnExactIsSimplePolynomialWrongFalsely : Prop := fnExactIsSimplePolynomialRow.holds Try.pinned (OpenSpec.ofChange fnExactIsSimplePolynomialWrong)

/-- 'laws.FnExactSimplePart': WHATEVER THE INPUT: true; the input reads as it did. -/
def fnExactSimplePartSpec : ChangeSpec := { name := "fnExactSimplePart", fn := fun _ => fun
  | [d1, d2] => { results := [.lit (.bool true)], args := [d1, d2] }
  | _ => none }
def fnExactSimplePartRow : OpenClaim := { program := "ytnhbpcfcgpcdfaa", sum := "8cc5ed93c947e7e2e6957dee97987586026b5c0ae61789ad0b676ca2660f0b51", func := "loop.example/g01283/laws.FnExactSimplePart", spec := "fnExactSimplePart", unfollowed := true, recurses := true, apart := false }
def FnExactSimplePartSaid : Prop := fnExactSimplePartRow.holds Try.pinned (OpenSpec.ofChange fnExactSimplePartSpec)

/-- ITS FALSE NEIGHBOUR: 'it returns false'. Refute it at one input. -/
def fnExactSimplePartWrong : ChangeSpec := { name := "fnExactSimplePart", fn := fun _ => fun
  | [d1, d2] => { results := [.lit (.bool false)], args := [d1, d2] }
  | _ => none }
def FnExactSimplePartWrongFalsely : Prop := fnExactSimplePartRow.holds Try.pinned (OpenSpec.ofChange fnExactSimplePartWrong)

/-- 'laws.FnExactCommonRoots': WHATEVER THE INPUT: true; the input reads as it did. -/
def fnExactCommonRootsSpec : ChangeSpec := { name := "fnExactCommonRoots", fn := fun _ => fun
  | [d1, d2, d3] => { results := [.lit (.bool true)], args := [d1, d2, d3] }
  | _ => none }
def fnExactCommonRootsRow : OpenClaim := { program := "ytnhbpcfcgpcdfaa", sum := "8cc5ed93c947e7e2e6957dee97987586026b5c0ae61789ad0b676ca2660f0b51", func := "loop.example/g01283/laws.FnExactCommonRoots", spec := "fnExactCommonRoots", unfollowed := true, recurses := true, apart := false }
def FnExactCommonRootsSaid : Prop := fnExactCommonRootsRow.holds Try.pinned (OpenSpec.ofChange fnExactCommonRootsSpec)

/-- ITS FALSE NEIGHBOUR: 'it returns false'. Refute it at one input. -/
def fnExactCommonRootsWrong : ChangeSpec := { name := "fnExactCommonRoots", fn := fun _ => fun
  | [d1, d2, d3] => { results := [.lit (.bool false)], args := [d1, d2, d3] }
  | _ => none }
def FnExactCommonRootsWrongFalsely : Prop := fnExactCommonRootsRow.holds Try.pinned (OpenSpec.ofChange fnExactCommonRootsWrong)

/-- 'laws.FnExactPowerSums': WHATEVER THE INPUT: true; the input reads as it did. -/
def fnExactPowerSumsSpec : ChangeSpec := { name := "fnExactPowerSums", fn := fun _ => fun
  | [d1, d2, d3] => { results := [.lit (.bool true)], args := [d1, d2, d3] }
  | _ => none }
def fnExactPowerSumsRow : OpenClaim := { program := "ytnhbpcfcgpcdfaa", sum := "8cc5ed93c947e7e2e6957dee97987586026b5c0ae61789ad0b676ca2660f0b51", func := "loop.example/g01283/laws.FnExactPowerSums", spec := "fnExactPowerSums", unfollowed := true, recurses := true, apart := false }
def FnExactPowerSumsSaid : Prop := fnExactPowerSumsRow.holds Try.pinned (OpenSpec.ofChange fnExactPowerSumsSpec)

/-- ITS FALSE NEIGHBOUR: 'it returns false'. Refute it at one input. -/
def fnExactPowerSumsWrong : ChangeSpec := { name := "fnExactPowerSums", fn := fun _ => fun
  | [d1, d2, d3] => { results := [.lit (.bool false)], args := [d1, d2, d3] }
  | _ => none }
def FnExactPowerSumsWrongFalsely : Prop := fnExactPowerSumsRow.holds Try.pinned (OpenSpec.ofChange fnExactPowerSumsWrong)

/-- 'laws.FnExactQuotientsOf': WHATEVER THE INPUT: true; the input reads as it did. -/
def fnExactQuotientsOfSpec : ChangeSpec := { name := "fnExactQuotientsOf", fn := fun _ => fun
  | [d1, d2, d3] => { results := [.lit (.bool true)], args := [d1, d2, d3] }
  | _ => none }
def fnExactQuotientsOfRow : OpenClaim := { program := "ytnhbpcfcgpcdfaa", sum := "8cc5ed93c947e7e2e6957dee97987586026b5c0ae61789ad0b676ca2660f0b51", func := "loop.example/g01283/laws.FnExactQuotientsOf", spec := "fnExactQuotientsOf", unfollowed := true, recurses := true, apart := false }
def FnExactQuotientsOfSaid : Prop := fnExactQuotientsOfRow.holds Try.pinned (OpenSpec.ofChange fnExactQuotientsOfSpec)

/-- ITS FALSE NEIGHBOUR: 'it returns false'. Refute it at one input. -/
def fnExactQuotientsOfWrong : ChangeSpec := { name := "fnExactQuotientsOf", fn := fun _ => fun
  | [d1, d2, d3] => { results := [.lit (.bool false)], args := [d1, d2, d3] }
  | _ => none }
def FnExactQuotientsOfWrongFalsely : Prop := fnExactQuotientsOfRow.holds Try.pinned (OpenSpec.ofChange fnExactQuotientsOfWrong)

/-- 'laws.FnExactPadeOf': WHATEVER THE INPUT: true; the input reads as it did. -/
def fnExactPadeOfSpec : ChangeSpec := { name := "fnExactPadeOf", fn := fun _ => fun
  | [d1, d2, d3, d4] => { results := [.lit (.bool true)], args := [d1, d2, d3, d4] }
  | _ => none }
def fnExactPadeOfRow : OpenClaim := { program := "ytnhbpcfcgpcdfaa", sum := "8cc5ed93c947e7e2e6957dee97987586026b5c0ae61789ad0b676ca2660f0b51", func := "loop.example/g01283/laws.FnExactPadeOf", spec := "fnExactPadeOf", unfollowed := true, recurses := true, apart := false }
def FnExactPadeOfSaid : Prop := fnExactPadeOfRow.holds Try.pinned (OpenSpec.ofChange fnExactPadeOfSpec)

/-- ITS FALSE NEIGHBOUR: 'it returns false'. Refute it at one input. -/
def fnExactPadeOfWrong : ChangeSpec := { name := "fnExactPadeOf", fn := fun _ => fun
  | [d1, d2, d3, d4] => { results := [.lit (.bool false)], args := [d1, d2, d3, d4] }
  | _ => none }
def FnExactPadeOfWrongFalsely : Prop := fnExactPadeOfRow.holds Try.pinned (OpenSpec.ofChange fnExactPadeOfWrong)

/- THE SECOND FORM. 'bulk': how many values and letters a reading holds, each counted each time it is reached (what is shared counts as often as it is met; a slice's spare places count too). A statement '..UptoSaid' is the law's where the arguments, and the package variables that the reading takes, are together of bulk at most 1048576: NARROWER than '..Said'. Prove '..Said' where nothing that the law and all that it calls make is longer than what came in: it says more and counts as full. Else prove '..UptoSaid'. A law counts once. -/
mutual
def uptoBulk {H : Type} : DataW H → Nat
  | .lit (.string bytes) => bytes.length + 1
  | .lit _ => 1
  | .nil => 1
  | .ptr d => uptoBulk d + 1
  | .slice elems spare => uptoBulkAll elems + uptoBulkAll spare + 1
  | .agg parts => uptoBulkAll parts + 1
  | .iface _ d => uptoBulk d + 1
  | .map entries => uptoBulkEntries entries + 1
  | .held _ => 1
def uptoBulkAll {H : Type} : List (DataW H) → Nat
  | [] => 0
  | d :: r => uptoBulk d + uptoBulkAll r
def uptoBulkEntries {H : Type} : List (Lit × DataW H) → Nat
  | [] => 0
  | x :: r => uptoBulkEntry x + uptoBulkEntries r
def uptoBulkEntry {H : Type} : Lit × DataW H → Nat
  | (.string bytes, d) => bytes.length + uptoBulk d + 1
  | (_, d) => uptoBulk d + 1
 end
def uptoSmall : (H : Type) → List (DataW H) → Bool := fun _ ds => decide (uptoBulkAll ds ≤ 1048576)
def OpenSpec.upto (s : _root_.Go.ChangeSpec) : _root_.Go.OpenSpec := { _root_.Go.OpenSpec.ofChange s with cond := some uptoSmall }

/-- 'laws.FnExactIsSimplePolynomial', WHERE WHAT IT READS IS OF BULK AT MOST 1048576: true; the input reads as it did. -/
def fnExactIsSimplePolynomialUptoRow : OpenClaim := { program := "ytnhbpcfcgpcdfaa", sum := "8cc5ed93c947e7e2e6957dee97987586026b5c0ae61789ad0b676ca2660f0b51", func := "loop.example/g01283/laws.FnExactIsSimplePolynomial", spec := "fnExactIsSimplePolynomial", unfollowed := true, recurses := true, apart := false, narrowed := true }
def FnExactIsSimplePolynomialUptoSaid : Prop := fnExactIsSimplePolynomialUptoRow.holds Try.pinned (OpenSpec.upto fnExactIsSimplePolynomialSpec)

/-- 'laws.FnExactSimplePart', WHERE WHAT IT READS IS OF BULK AT MOST 1048576: true; the input reads as it did. -/
def fnExactSimplePartUptoRow : OpenClaim := { program := "ytnhbpcfcgpcdfaa", sum := "8cc5ed93c947e7e2e6957dee97987586026b5c0ae61789ad0b676ca2660f0b51", func := "loop.example/g01283/laws.FnExactSimplePart", spec := "fnExactSimplePart", unfollowed := true, recurses := true, apart := false, narrowed := true }
def FnExactSimplePartUptoSaid : Prop := fnExactSimplePartUptoRow.holds Try.pinned (OpenSpec.upto fnExactSimplePartSpec)

/-- 'laws.FnExactCommonRoots', WHERE WHAT IT READS IS OF BULK AT MOST 1048576: true; the input reads as it did. -/
def fnExactCommonRootsUptoRow : OpenClaim := { program := "ytnhbpcfcgpcdfaa", sum := "8cc5ed93c947e7e2e6957dee97987586026b5c0ae61789ad0b676ca2660f0b51", func := "loop.example/g01283/laws.FnExactCommonRoots", spec := "fnExactCommonRoots", unfollowed := true, recurses := true, apart := false, narrowed := true }
def FnExactCommonRootsUptoSaid : Prop := fnExactCommonRootsUptoRow.holds Try.pinned (OpenSpec.upto fnExactCommonRootsSpec)

/-- 'laws.FnExactPowerSums', WHERE WHAT IT READS IS OF BULK AT MOST 1048576: true; the input reads as it did. -/
def fnExactPowerSumsUptoRow : OpenClaim := { program := "ytnhbpcfcgpcdfaa", sum := "8cc5ed93c947e7e2e6957dee97987586026b5c0ae61789ad0b676ca2660f0b51", func := "loop.example/g01283/laws.FnExactPowerSums", spec := "fnExactPowerSums", unfollowed := true, recurses := true, apart := false, narrowed := true }
def FnExactPowerSumsUptoSaid : Prop := fnExactPowerSumsUptoRow.holds Try.pinned (OpenSpec.upto fnExactPowerSumsSpec)

/-- 'laws.FnExactQuotientsOf', WHERE WHAT IT READS IS OF BULK AT MOST 1048576: true; the input reads as it did. -/
def fnExactQuotientsOfUptoRow : OpenClaim := { program := "ytnhbpcfcgpcdfaa", sum := "8cc5ed93c947e7e2e6957dee97987586026b5c0ae61789ad0b676ca2660f0b51", func := "loop.example/g01283/laws.FnExactQuotientsOf", spec := "fnExactQuotientsOf", unfollowed := true, recurses := true, apart := false, narrowed := true }
def FnExactQuotientsOfUptoSaid : Prop := fnExactQuotientsOfUptoRow.holds Try.pinned (OpenSpec.upto fnExactQuotientsOfSpec)

/-- 'laws.FnExactPadeOf', WHERE WHAT IT READS IS OF BULK AT MOST 1048576: true; the input reads as it did. -/
def fnExactPadeOfUptoRow : OpenClaim := { program := "ytnhbpcfcgpcdfaa", sum := "8cc5ed93c947e7e2e6957dee97987586026b5c0ae61789ad0b676ca2660f0b51", func := "loop.example/g01283/laws.FnExactPadeOf", spec := "fnExactPadeOf", unfollowed := true, recurses := true, apart := false, narrowed := true }
def FnExactPadeOfUptoSaid : Prop := fnExactPadeOfUptoRow.holds Try.pinned (OpenSpec.upto fnExactPadeOfSpec)

end Rows
end Go.Proofs.Ytnhbpcfcgpcdfaa
