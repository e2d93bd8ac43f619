/-
  No cell of these rows narrows 'for every input' (looked for: loops, veiled, ifaces, maps, wideKeys, modest, calm, conditions, laid).
  DERIVED. THE GIVEN ROWS OF THIS SEAT. 6 by the template 'for every input the law returns true; each argument reads behind the call as it read before'; 0 by the template 'total and deterministic' (their statements: YtlmolloallhclaaTotals.lean).
  GIVEN WITH THE SEED: the statements are not yours to turn. If you find one false, say at which input.
  Laid BY PROGRAM, IN A SANDBOX (cutbox-rows.mjs): the forced cells as the released guide's own fill.sh prints them over the translation a8c8102901659efd… (all of the seat's roots in one cut). By AI agents, Wed Nov 11 2026. No macro, syntax, notation, axiom, sorry.
-/
import Derived.Test.YtlmolloallhclaaChecked
import GoSem.Claim
import GoSem.ClaimJoined
import GoSem.ClaimMapViews
import Derived.JoinedTies
import Derived.KernelRfl
namespace Go.Proofs.Ytlmolloallhclaa
/- THE CELL 'sum', in the pinned program and in every row, IS THE sha256 OF THE DUMP (.gsa) THAT YtlmolloallhclaaProg.lean LOADS. Nothing in Lean hashes anything: it is a label: what it is worth is what the hold of that sum in a sandbox is worth. -/
noncomputable def Try.pinned : Pinned := { name := "ytlmolloallhclaa", sum := "a8c8102901659efd709d536ab01d70aeba0b15e214473893a428d3ff937e09c5", checked := Try.checked }
namespace Rows
def none {H : Type} : Left H := { results := [], args := [] }

/-- 'laws.FnExactQuotientsOf': WHATEVER THE INPUT: true; the input reads as it did. -/
def fnExactQuotientsOfSpec : ChangeSpec := { name := "fnExactQuotientsOf", fn := fun _ => fun
  | [d1, d2, d3] => { results := [.lit (.bool true)], args := [d1, d2, d3] }
  | _ => none }
def fnExactQuotientsOfRow : OpenClaim := { program := "ytlmolloallhclaa", sum := "a8c8102901659efd709d536ab01d70aeba0b15e214473893a428d3ff937e09c5", func := "loop.example/g01283/laws.FnExactQuotientsOf", spec := "fnExactQuotientsOf", unfollowed := true, recurses := true, apart := false }
def FnExactQuotientsOfSaid : Prop := fnExactQuotientsOfRow.holds Try.pinned (OpenSpec.ofChange fnExactQuotientsOfSpec)

/-- ITS FALSE NEIGHBOUR: 'it returns false'. Refute it at one input. -/
def fnExactQuotientsOfWrong : ChangeSpec := { name := "fnExactQuotientsOf", fn := fun _ => fun
  | [d1, d2, d3] => { results := [.lit (.bool false)], args := [d1, d2, d3] }
  | _ => none }
def FnExactQuotientsOfWrongFalsely : Prop := fnExactQuotientsOfRow.holds Try.pinned (OpenSpec.ofChange fnExactQuotientsOfWrong)

/-- 'laws.FnExactConvergentsOf': WHATEVER THE INPUT: true; the input reads as it did. -/
def fnExactConvergentsOfSpec : ChangeSpec := { name := "fnExactConvergentsOf", fn := fun _ => fun
  | [d1, d2] => { results := [.lit (.bool true)], args := [d1, d2] }
  | _ => none }
def fnExactConvergentsOfRow : OpenClaim := { program := "ytlmolloallhclaa", sum := "a8c8102901659efd709d536ab01d70aeba0b15e214473893a428d3ff937e09c5", func := "loop.example/g01283/laws.FnExactConvergentsOf", spec := "fnExactConvergentsOf", unfollowed := true, recurses := true, apart := false }
def FnExactConvergentsOfSaid : Prop := fnExactConvergentsOfRow.holds Try.pinned (OpenSpec.ofChange fnExactConvergentsOfSpec)

/-- ITS FALSE NEIGHBOUR: 'it returns false'. Refute it at one input. -/
def fnExactConvergentsOfWrong : ChangeSpec := { name := "fnExactConvergentsOf", fn := fun _ => fun
  | [d1, d2] => { results := [.lit (.bool false)], args := [d1, d2] }
  | _ => none }
def FnExactConvergentsOfWrongFalsely : Prop := fnExactConvergentsOfRow.holds Try.pinned (OpenSpec.ofChange fnExactConvergentsOfWrong)

/-- 'laws.FnExactResultantOf': WHATEVER THE INPUT: true; the input reads as it did. -/
def fnExactResultantOfSpec : ChangeSpec := { name := "fnExactResultantOf", fn := fun _ => fun
  | [d1, d2, d3] => { results := [.lit (.bool true)], args := [d1, d2, d3] }
  | _ => none }
def fnExactResultantOfRow : OpenClaim := { program := "ytlmolloallhclaa", sum := "a8c8102901659efd709d536ab01d70aeba0b15e214473893a428d3ff937e09c5", func := "loop.example/g01283/laws.FnExactResultantOf", spec := "fnExactResultantOf", unfollowed := true, recurses := true, apart := false }
def FnExactResultantOfSaid : Prop := fnExactResultantOfRow.holds Try.pinned (OpenSpec.ofChange fnExactResultantOfSpec)

/-- ITS FALSE NEIGHBOUR: 'it returns false'. Refute it at one input. -/
def fnExactResultantOfWrong : ChangeSpec := { name := "fnExactResultantOf", fn := fun _ => fun
  | [d1, d2, d3] => { results := [.lit (.bool false)], args := [d1, d2, d3] }
  | _ => none }
def FnExactResultantOfWrongFalsely : Prop := fnExactResultantOfRow.holds Try.pinned (OpenSpec.ofChange fnExactResultantOfWrong)

/-- 'laws.FnExactDiscriminantOf': WHATEVER THE INPUT: true; the input reads as it did. -/
def fnExactDiscriminantOfSpec : ChangeSpec := { name := "fnExactDiscriminantOf", fn := fun _ => fun
  | [d1, d2] => { results := [.lit (.bool true)], args := [d1, d2] }
  | _ => none }
def fnExactDiscriminantOfRow : OpenClaim := { program := "ytlmolloallhclaa", sum := "a8c8102901659efd709d536ab01d70aeba0b15e214473893a428d3ff937e09c5", func := "loop.example/g01283/laws.FnExactDiscriminantOf", spec := "fnExactDiscriminantOf", unfollowed := true, recurses := true, apart := false }
def FnExactDiscriminantOfSaid : Prop := fnExactDiscriminantOfRow.holds Try.pinned (OpenSpec.ofChange fnExactDiscriminantOfSpec)

/-- ITS FALSE NEIGHBOUR: 'it returns false'. Refute it at one input. -/
def fnExactDiscriminantOfWrong : ChangeSpec := { name := "fnExactDiscriminantOf", fn := fun _ => fun
  | [d1, d2] => { results := [.lit (.bool false)], args := [d1, d2] }
  | _ => none }
def FnExactDiscriminantOfWrongFalsely : Prop := fnExactDiscriminantOfRow.holds Try.pinned (OpenSpec.ofChange fnExactDiscriminantOfWrong)

/-- 'laws.FnExactCharacteristicPoly': WHATEVER THE INPUT: true; the input reads as it did. -/
def fnExactCharacteristicPolySpec : ChangeSpec := { name := "fnExactCharacteristicPoly", fn := fun _ => fun
  | [d1, d2] => { results := [.lit (.bool true)], args := [d1, d2] }
  | _ => none }
def fnExactCharacteristicPolyRow : OpenClaim := { program := "ytlmolloallhclaa", sum := "a8c8102901659efd709d536ab01d70aeba0b15e214473893a428d3ff937e09c5", func := "loop.example/g01283/laws.FnExactCharacteristicPoly", spec := "fnExactCharacteristicPoly", unfollowed := true, recurses := true, apart := false }
def FnExactCharacteristicPolySaid : Prop := fnExactCharacteristicPolyRow.holds Try.pinned (OpenSpec.ofChange fnExactCharacteristicPolySpec)

/-- ITS FALSE NEIGHBOUR: 'it returns false'. Refute it at one input. -/
def fnExactCharacteristicPolyWrong : ChangeSpec := { name := "fnExactCharacteristicPoly", fn := fun _ => fun
  | [d1, d2] => { results := [.lit (.bool false)], args := [d1, d2] }
  | _ => none }
def FnExactCharacteristicPolyWrongFalsely : Prop := fnExactCharacteristicPolyRow.holds Try.pinned (OpenSpec.ofChange fnExactCharacteristicPolyWrong)

/-- 'laws.FnResultants': WHATEVER THE INPUT: true; the input reads as it did. -/
def fnResultantsSpec : ChangeSpec := { name := "fnResultants", fn := fun _ => fun
  | [d] => { results := [.lit (.bool true)], args := [d] }
  | _ => none }
def fnResultantsRow : OpenClaim := { program := "ytlmolloallhclaa", sum := "a8c8102901659efd709d536ab01d70aeba0b15e214473893a428d3ff937e09c5", func := "loop.example/g01283/laws.FnResultants", spec := "fnResultants", unfollowed := true, recurses := true, apart := false }
def FnResultantsSaid : Prop := fnResultantsRow.holds Try.pinned (OpenSpec.ofChange fnResultantsSpec)

/-- ITS FALSE NEIGHBOUR: 'it returns false'. Refute it at one input. -/
def fnResultantsWrong : ChangeSpec := { name := "fnResultants", fn := fun _ => fun
  | [d] => { results := [.lit (.bool false)], args := [d] }
  | _ => none }
def FnResultantsWrongFalsely : Prop := fnResultantsRow.holds Try.pinned (OpenSpec.ofChange fnResultantsWrong)

/- THE SECOND FORM. 'bulk': how many values and letters a reading holds, each counted each time it is reached (what is shared counts as often as it is met; a slice's spare places count too). A statement '..UptoSaid' is the law's where the arguments, and the package variables that the reading takes, are together of bulk at most 1048576: NARROWER than '..Said'. Prove '..Said' where nothing that the law and all that it calls make is longer than what came in: it says more and counts as full. Else prove '..UptoSaid'. A law counts once. -/
mutual
def uptoBulk {H : Type} : DataW H → Nat
  | .lit (.string bytes) => bytes.length + 1
  | .lit _ => 1
  | .nil => 1
  | .ptr d => uptoBulk d + 1
  | .slice elems spare => uptoBulkAll elems + uptoBulkAll spare + 1
  | .agg parts => uptoBulkAll parts + 1
  | .iface _ d => uptoBulk d + 1
  | .map entries => uptoBulkEntries entries + 1
  | .held _ => 1
def uptoBulkAll {H : Type} : List (DataW H) → Nat
  | [] => 0
  | d :: r => uptoBulk d + uptoBulkAll r
def uptoBulkEntries {H : Type} : List (Lit × DataW H) → Nat
  | [] => 0
  | x :: r => uptoBulkEntry x + uptoBulkEntries r
def uptoBulkEntry {H : Type} : Lit × DataW H → Nat
  | (.string bytes, d) => bytes.length + uptoBulk d + 1
  | (_, d) => uptoBulk d + 1
 end
def uptoSmall : (H : Type) → List (DataW H) → Bool := fun _ ds => decide (uptoBulkAll ds ≤ 1048576)
def OpenSpec.upto (s : _root_.Go.ChangeSpec) : _root_.Go.OpenSpec := { _root_.Go.OpenSpec.ofChange s with cond := some uptoSmall }

/-- 'laws.FnExactQuotientsOf', WHERE WHAT IT READS IS OF BULK AT MOST 1048576: true; the input reads as it did. -/
def fnExactQuotientsOfUptoRow : OpenClaim := { program := "ytlmolloallhclaa", sum := "a8c8102901659efd709d536ab01d70aeba0b15e214473893a428d3ff937e09c5", func := "loop.example/g01283/laws.FnExactQuotientsOf", spec := "fnExactQuotientsOf", unfollowed := true, recurses := true, apart := false, narrowed := true }
def FnExactQuotientsOfUptoSaid : Prop := fnExactQuotientsOfUptoRow.holds Try.pinned (OpenSpec.upto fnExactQuotientsOfSpec)

/-- 'laws.FnExactConvergentsOf', WHERE WHAT IT READS IS OF BULK AT MOST 1048576: true; the input reads as it did. -/
def fnExactConvergentsOfUptoRow : OpenClaim := { program := "ytlmolloallhclaa", sum := "a8c8102901659efd709d536ab01d70aeba0b15e214473893a428d3ff937e09c5", func := "loop.example/g01283/laws.FnExactConvergentsOf", spec := "fnExactConvergentsOf", unfollowed := true, recurses := true, apart := false, narrowed := true }
def FnExactConvergentsOfUptoSaid : Prop := fnExactConvergentsOfUptoRow.holds Try.pinned (OpenSpec.upto fnExactConvergentsOfSpec)

/-- 'laws.FnExactResultantOf', WHERE WHAT IT READS IS OF BULK AT MOST 1048576: true; the input reads as it did. -/
def fnExactResultantOfUptoRow : OpenClaim := { program := "ytlmolloallhclaa", sum := "a8c8102901659efd709d536ab01d70aeba0b15e214473893a428d3ff937e09c5", func := "loop.example/g01283/laws.FnExactResultantOf", spec := "fnExactResultantOf", unfollowed := true, recurses := true, apart := false, narrowed := true }
def FnExactResultantOfUptoSaid : Prop := fnExactResultantOfUptoRow.holds Try.pinned (OpenSpec.upto fnExactResultantOfSpec)

/-- 'laws.FnExactDiscriminantOf', WHERE WHAT IT READS IS OF BULK AT MOST 1048576: true; the input reads as it did. -/
def fnExactDiscriminantOfUptoRow : OpenClaim := { program := "ytlmolloallhclaa", sum := "a8c8102901659efd709d536ab01d70aeba0b15e214473893a428d3ff937e09c5", func := "loop.example/g01283/laws.FnExactDiscriminantOf", spec := "fnExactDiscriminantOf", unfollowed := true, recurses := true, apart := false, narrowed := true }
def FnExactDiscriminantOfUptoSaid : Prop := fnExactDiscriminantOfUptoRow.holds Try.pinned (OpenSpec.upto fnExactDiscriminantOfSpec)

/-- 'laws.FnExactCharacteristicPoly', WHERE WHAT IT READS IS OF BULK AT MOST 1048576: true; the input reads as it did. -/
def fnExactCharacteristicPolyUptoRow : OpenClaim := { program := "ytlmolloallhclaa", sum := "a8c8102901659efd709d536ab01d70aeba0b15e214473893a428d3ff937e09c5", func := "loop.example/g01283/laws.FnExactCharacteristicPoly", spec := "fnExactCharacteristicPoly", unfollowed := true, recurses := true, apart := false, narrowed := true }
def FnExactCharacteristicPolyUptoSaid : Prop := fnExactCharacteristicPolyUptoRow.holds Try.pinned (OpenSpec.upto fnExactCharacteristicPolySpec)

/-- 'laws.FnResultants', WHERE WHAT IT READS IS OF BULK AT MOST 1048576: true; the input reads as it did. -/
def fnResultantsUptoRow : OpenClaim := { program := "ytlmolloallhclaa", sum := "a8c8102901659efd709d536ab01d70aeba0b15e214473893a428d3ff937e09c5", func := "loop.example/g01283/laws.FnResultants", spec := "fnResultants", unfollowed := true, recurses := true, apart := false, narrowed := true }
def FnResultantsUptoSaid : Prop := fnResultantsUptoRow.holds Try.pinned (OpenSpec.upto fnResultantsSpec)

end Rows
end Go.Proofs.Ytlmolloallhclaa
