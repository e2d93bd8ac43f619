/-
  No cell of these rows narrows 'for every input' (looked for: loops, veiled, ifaces, maps, wideKeys, modest, calm, conditions, laid).
  DERIVED. THE GIVEN ROWS OF THIS SEAT. 6 by the template 'for every input the law returns true; each argument reads behind the call as it read before'; 0 by the template 'total and deterministic' (their statements: YtcalaanklbejmaaTotals.lean).
  GIVEN WITH THE SEED: the statements are not yours to turn. If you find one false, say at which input.
  Laid BY PROGRAM, IN A SANDBOX (cutbox-rows.mjs): the forced cells as the released guide's own fill.sh prints them over the translation 3f47e2312779dc2a… (all of the seat's roots in one cut). By AI agents, Wed Nov 11 2026. No macro, syntax, notation, axiom, sorry.
-/
import Derived.Test.YtcalaanklbejmaaChecked
import GoSem.Claim
import GoSem.ClaimJoined
import GoSem.ClaimMapViews
import Derived.JoinedTies
import Derived.KernelRfl
namespace Go.Proofs.Ytcalaanklbejmaa
/- THE CELL 'sum', in the pinned program and in every row, IS THE sha256 OF THE DUMP (.gsa) THAT YtcalaanklbejmaaProg.lean LOADS. Nothing in Lean hashes anything: it is a label: what it is worth is what the hold of that sum in a sandbox is worth. -/
noncomputable def Try.pinned : Pinned := { name := "ytcalaanklbejmaa", sum := "3f47e2312779dc2a596393117b788342b2d3b7cc805ce5e4f5db6438b64aff2a", checked := Try.checked }
namespace Rows
def none {H : Type} : Left H := { results := [], args := [] }

/-- 'laws.FnExactMultiplySeries': WHATEVER THE INPUT: true; the input reads as it did. -/
def fnExactMultiplySeriesSpec : ChangeSpec := { name := "fnExactMultiplySeries", fn := fun _ => fun
  | [d1, d2, d3] => { results := [.lit (.bool true)], args := [d1, d2, d3] }
  | _ => none }
def fnExactMultiplySeriesRow : OpenClaim := { program := "ytcalaanklbejmaa", sum := "3f47e2312779dc2a596393117b788342b2d3b7cc805ce5e4f5db6438b64aff2a", func := "loop.example/g01283/laws.FnExactMultiplySeries", spec := "fnExactMultiplySeries", unfollowed := true, recurses := true, apart := false }
def FnExactMultiplySeriesSaid : Prop := fnExactMultiplySeriesRow.holds Try.pinned (OpenSpec.ofChange fnExactMultiplySeriesSpec)

/-- ITS FALSE NEIGHBOUR: 'it returns false'. Refute it at one input. -/
def fnExactMultiplySeriesWrong : ChangeSpec := { name := "fnExactMultiplySeries", fn := fun _ => fun
  | [d1, d2, d3] => { results := [.lit (.bool false)], args := [d1, d2, d3] }
  | _ => none }
def FnExactMultiplySeriesWrongFalsely : Prop := fnExactMultiplySeriesRow.holds Try.pinned (OpenSpec.ofChange fnExactMultiplySeriesWrong)

/-- 'laws.FnExactInverseSeries': WHATEVER THE INPUT: true; the input reads as it did. -/
def fnExactInverseSeriesSpec : ChangeSpec := { name := "fnExactInverseSeries", fn := fun _ => fun
  | [d1, d2] => { results := [.lit (.bool true)], args := [d1, d2] }
  | _ => none }
def fnExactInverseSeriesRow : OpenClaim := { program := "ytcalaanklbejmaa", sum := "3f47e2312779dc2a596393117b788342b2d3b7cc805ce5e4f5db6438b64aff2a", func := "loop.example/g01283/laws.FnExactInverseSeries", spec := "fnExactInverseSeries", unfollowed := true, recurses := true, apart := false }
def FnExactInverseSeriesSaid : Prop := fnExactInverseSeriesRow.holds Try.pinned (OpenSpec.ofChange fnExactInverseSeriesSpec)

/-- ITS FALSE NEIGHBOUR: 'it returns false'. Refute it at one input. -/
def fnExactInverseSeriesWrong : ChangeSpec := { name := "fnExactInverseSeries", fn := fun _ => fun
  | [d1, d2] => { results := [.lit (.bool false)], args := [d1, d2] }
  | _ => none }
def FnExactInverseSeriesWrongFalsely : Prop := fnExactInverseSeriesRow.holds Try.pinned (OpenSpec.ofChange fnExactInverseSeriesWrong)

/-- 'laws.FnExactSeriesOf': WHATEVER THE INPUT: true; the input reads as it did. -/
def fnExactSeriesOfSpec : ChangeSpec := { name := "fnExactSeriesOf", fn := fun _ => fun
  | [d1, d2, d3, d4] => { results := [.lit (.bool true)], args := [d1, d2, d3, d4] }
  | _ => none }
def fnExactSeriesOfRow : OpenClaim := { program := "ytcalaanklbejmaa", sum := "3f47e2312779dc2a596393117b788342b2d3b7cc805ce5e4f5db6438b64aff2a", func := "loop.example/g01283/laws.FnExactSeriesOf", spec := "fnExactSeriesOf", unfollowed := true, recurses := true, apart := false }
def FnExactSeriesOfSaid : Prop := fnExactSeriesOfRow.holds Try.pinned (OpenSpec.ofChange fnExactSeriesOfSpec)

/-- ITS FALSE NEIGHBOUR: 'it returns false'. Refute it at one input. -/
def fnExactSeriesOfWrong : ChangeSpec := { name := "fnExactSeriesOf", fn := fun _ => fun
  | [d1, d2, d3, d4] => { results := [.lit (.bool false)], args := [d1, d2, d3, d4] }
  | _ => none }
def FnExactSeriesOfWrongFalsely : Prop := fnExactSeriesOfRow.holds Try.pinned (OpenSpec.ofChange fnExactSeriesOfWrong)

/-- 'laws.FnExactJacobiOfSteps': WHATEVER THE INPUT: true; the input reads as it did. -/
def fnExactJacobiOfStepsSpec : ChangeSpec := { name := "fnExactJacobiOfSteps", fn := fun _ => fun
  | [d1, d2] => { results := [.lit (.bool true)], args := [d1, d2] }
  | _ => none }
def fnExactJacobiOfStepsRow : OpenClaim := { program := "ytcalaanklbejmaa", sum := "3f47e2312779dc2a596393117b788342b2d3b7cc805ce5e4f5db6438b64aff2a", func := "loop.example/g01283/laws.FnExactJacobiOfSteps", spec := "fnExactJacobiOfSteps", unfollowed := true, recurses := true, apart := false }
def FnExactJacobiOfStepsSaid : Prop := fnExactJacobiOfStepsRow.holds Try.pinned (OpenSpec.ofChange fnExactJacobiOfStepsSpec)

/-- ITS FALSE NEIGHBOUR: 'it returns false'. Refute it at one input. -/
def fnExactJacobiOfStepsWrong : ChangeSpec := { name := "fnExactJacobiOfSteps", fn := fun _ => fun
  | [d1, d2] => { results := [.lit (.bool false)], args := [d1, d2] }
  | _ => none }
def FnExactJacobiOfStepsWrongFalsely : Prop := fnExactJacobiOfStepsRow.holds Try.pinned (OpenSpec.ofChange fnExactJacobiOfStepsWrong)

/-- 'laws.FnExactMomentsOfSteps': WHATEVER THE INPUT: true; the input reads as it did. -/
def fnExactMomentsOfStepsSpec : ChangeSpec := { name := "fnExactMomentsOfSteps", fn := fun _ => fun
  | [d1, d2, d3] => { results := [.lit (.bool true)], args := [d1, d2, d3] }
  | _ => none }
def fnExactMomentsOfStepsRow : OpenClaim := { program := "ytcalaanklbejmaa", sum := "3f47e2312779dc2a596393117b788342b2d3b7cc805ce5e4f5db6438b64aff2a", func := "loop.example/g01283/laws.FnExactMomentsOfSteps", spec := "fnExactMomentsOfSteps", unfollowed := true, recurses := true, apart := false }
def FnExactMomentsOfStepsSaid : Prop := fnExactMomentsOfStepsRow.holds Try.pinned (OpenSpec.ofChange fnExactMomentsOfStepsSpec)

/-- ITS FALSE NEIGHBOUR: 'it returns false'. Refute it at one input. -/
def fnExactMomentsOfStepsWrong : ChangeSpec := { name := "fnExactMomentsOfSteps", fn := fun _ => fun
  | [d1, d2, d3] => { results := [.lit (.bool false)], args := [d1, d2, d3] }
  | _ => none }
def FnExactMomentsOfStepsWrongFalsely : Prop := fnExactMomentsOfStepsRow.holds Try.pinned (OpenSpec.ofChange fnExactMomentsOfStepsWrong)

/-- 'laws.FnExactFindJacobi': WHATEVER THE INPUT: true; the input reads as it did. -/
def fnExactFindJacobiSpec : ChangeSpec := { name := "fnExactFindJacobi", fn := fun _ => fun
  | [d1, d2, d3, d4] => { results := [.lit (.bool true)], args := [d1, d2, d3, d4] }
  | _ => none }
def fnExactFindJacobiRow : OpenClaim := { program := "ytcalaanklbejmaa", sum := "3f47e2312779dc2a596393117b788342b2d3b7cc805ce5e4f5db6438b64aff2a", func := "loop.example/g01283/laws.FnExactFindJacobi", spec := "fnExactFindJacobi", unfollowed := true, recurses := true, apart := false }
def FnExactFindJacobiSaid : Prop := fnExactFindJacobiRow.holds Try.pinned (OpenSpec.ofChange fnExactFindJacobiSpec)

/-- ITS FALSE NEIGHBOUR: 'it returns false'. Refute it at one input. -/
def fnExactFindJacobiWrong : ChangeSpec := { name := "fnExactFindJacobi", fn := fun _ => fun
  | [d1, d2, d3, d4] => { results := [.lit (.bool false)], args := [d1, d2, d3, d4] }
  | _ => none }
def FnExactFindJacobiWrongFalsely : Prop := fnExactFindJacobiRow.holds Try.pinned (OpenSpec.ofChange fnExactFindJacobiWrong)

/- THE SECOND FORM. 'bulk': how many values and letters a reading holds, each counted each time it is reached (what is shared counts as often as it is met; a slice's spare places count too). A statement '..UptoSaid' is the law's where the arguments, and the package variables that the reading takes, are together of bulk at most 1048576: NARROWER than '..Said'. Prove '..Said' where nothing that the law and all that it calls make is longer than what came in: it says more and counts as full. Else prove '..UptoSaid'. A law counts once. -/
mutual
def uptoBulk {H : Type} : DataW H → Nat
  | .lit (.string bytes) => bytes.length + 1
  | .lit _ => 1
  | .nil => 1
  | .ptr d => uptoBulk d + 1
  | .slice elems spare => uptoBulkAll elems + uptoBulkAll spare + 1
  | .agg parts => uptoBulkAll parts + 1
  | .iface _ d => uptoBulk d + 1
  | .map entries => uptoBulkEntries entries + 1
  | .held _ => 1
def uptoBulkAll {H : Type} : List (DataW H) → Nat
  | [] => 0
  | d :: r => uptoBulk d + uptoBulkAll r
def uptoBulkEntries {H : Type} : List (Lit × DataW H) → Nat
  | [] => 0
  | x :: r => uptoBulkEntry x + uptoBulkEntries r
def uptoBulkEntry {H : Type} : Lit × DataW H → Nat
  | (.string bytes, d) => bytes.length + uptoBulk d + 1
  | (_, d) => uptoBulk d + 1
 end
def uptoSmall : (H : Type) → List (DataW H) → Bool := fun _ ds => decide (uptoBulkAll ds ≤ 1048576)
def OpenSpec.upto (s : _root_.Go.ChangeSpec) : _root_.Go.OpenSpec := { _root_.Go.OpenSpec.ofChange s with cond := some uptoSmall }

/-- 'laws.FnExactMultiplySeries', WHERE WHAT IT READS IS OF BULK AT MOST 1048576: true; the input reads as it did. -/
def fnExactMultiplySeriesUptoRow : OpenClaim := { program := "ytcalaanklbejmaa", sum := "3f47e2312779dc2a596393117b788342b2d3b7cc805ce5e4f5db6438b64aff2a", func := "loop.example/g01283/laws.FnExactMultiplySeries", spec := "fnExactMultiplySeries", unfollowed := true, recurses := true, apart := false, narrowed := true }
def FnExactMultiplySeriesUptoSaid : Prop := fnExactMultiplySeriesUptoRow.holds Try.pinned (OpenSpec.upto fnExactMultiplySeriesSpec)

/-- 'laws.FnExactInverseSeries', WHERE WHAT IT READS IS OF BULK AT MOST 1048576: true; the input reads as it did. -/
def fnExactInverseSeriesUptoRow : OpenClaim := { program := "ytcalaanklbejmaa", sum := "3f47e2312779dc2a596393117b788342b2d3b7cc805ce5e4f5db6438b64aff2a", func := "loop.example/g01283/laws.FnExactInverseSeries", spec := "fnExactInverseSeries", unfollowed := true, recurses := true, apart := false, narrowed := true }
def FnExactInverseSeriesUptoSaid : Prop := fnExactInverseSeriesUptoRow.holds Try.pinned (OpenSpec.upto fnExactInverseSeriesSpec)

/-- 'laws.FnExactSeriesOf', WHERE WHAT IT READS IS OF BULK AT MOST 1048576: true; the input reads as it did. -/
def fnExactSeriesOfUptoRow : OpenClaim := { program := "ytcalaanklbejmaa", sum := "3f47e2312779dc2a596393117b788342b2d3b7cc805ce5e4f5db6438b64aff2a", func := "loop.example/g01283/laws.FnExactSeriesOf", spec := "fnExactSeriesOf", unfollowed := true, recurses := true, apart := false, narrowed := true }
def FnExactSeriesOfUptoSaid : Prop := fnExactSeriesOfUptoRow.holds Try.pinned (OpenSpec.upto fnExactSeriesOfSpec)

/-- 'laws.FnExactJacobiOfSteps', WHERE WHAT IT READS IS OF BULK AT MOST 1048576: true; the input reads as it did. -/
def fnExactJacobiOfStepsUptoRow : OpenClaim := { program := "ytcalaanklbejmaa", sum := "3f47e2312779dc2a596393117b788342b2d3b7cc805ce5e4f5db6438b64aff2a", func := "loop.example/g01283/laws.FnExactJacobiOfSteps", spec := "fnExactJacobiOfSteps", unfollowed := true, recurses := true, apart := false, narrowed := true }
def FnExactJacobiOfStepsUptoSaid : Prop := fnExactJacobiOfStepsUptoRow.holds Try.pinned (OpenSpec.upto fnExactJacobiOfStepsSpec)

/-- 'laws.FnExactMomentsOfSteps', WHERE WHAT IT READS IS OF BULK AT MOST 1048576: true; the input reads as it did. -/
def fnExactMomentsOfStepsUptoRow : OpenClaim := { program := "ytcalaanklbejmaa", sum := "3f47e2312779dc2a596393117b788342b2d3b7cc805ce5e4f5db6438b64aff2a", func := "loop.example/g01283/laws.FnExactMomentsOfSteps", spec := "fnExactMomentsOfSteps", unfollowed := true, recurses := true, apart := false, narrowed := true }
def FnExactMomentsOfStepsUptoSaid : Prop := fnExactMomentsOfStepsUptoRow.holds Try.pinned (OpenSpec.upto fnExactMomentsOfStepsSpec)

/-- 'laws.FnExactFindJacobi', WHERE WHAT IT READS IS OF BULK AT MOST 1048576: true; the input reads as it did. -/
def fnExactFindJacobiUptoRow : OpenClaim := { program := "ytcalaanklbejmaa", sum := "3f47e2312779dc2a596393117b788342b2d3b7cc805ce5e4f5db6438b64aff2a", func := "loop.example/g01283/laws.FnExactFindJacobi", spec := "fnExactFindJacobi", unfollowed := true, recurses := true, apart := false, narrowed := true }
def FnExactFindJacobiUptoSaid : Prop := fnExactFindJacobiUptoRow.holds Try.pinned (OpenSpec.upto fnExactFindJacobiSpec)

end Rows
end Go.Proofs.Ytcalaanklbejmaa
