/-
  No cell of these rows narrows 'for every input' (looked for: loops, veiled, ifaces, maps, wideKeys, modest, calm, conditions, laid).
  DERIVED. THE GIVEN ROWS OF THIS SEAT. 6 by the template 'for every input the law returns true; each argument reads behind the call as it read before'; 0 by the template 'total and deterministic' (their statements: YtepigphelclpcaaTotals.lean).
  GIVEN WITH THE SEED: the statements are not yours to turn. If you find one false, say at which input.
  Laid BY PROGRAM, IN A SANDBOX (cutbox-rows.mjs): the forced cells as the released guide's own fill.sh prints them over the translation 8fd02236fa9f73da… (all of the seat's roots in one cut). By AI agents, Wed Nov 11 2026. No macro, syntax, notation, axiom, sorry.
-/
import Derived.Test.YtepigphelclpcaaChecked
import GoSem.Claim
import GoSem.ClaimJoined
import GoSem.ClaimMapViews
import Derived.JoinedTies
import Derived.KernelRfl
namespace Go.Proofs.Ytepigphelclpcaa
/- THE CELL 'sum', in the pinned program and in every row, IS THE sha256 OF THE DUMP (.gsa) THAT YtepigphelclpcaaProg.lean LOADS. Nothing in Lean hashes anything: it is a label: what it is worth is what the hold of that sum in a sandbox is worth. -/
noncomputable def Try.pinned : Pinned := { name := "ytepigphelclpcaa", sum := "8fd02236fa9f73dab5bf02dace6c514259c92e5cbb51fd9bccde601dd0c2ba8d", checked := Try.checked }
namespace Rows
def none {H : Type} : Left H := { results := [], args := [] }

/-- 'laws.FnExactJacobiOfSteps': WHATEVER THE INPUT: true; the input reads as it did. -/
def fnExactJacobiOfStepsSpec : ChangeSpec := { name := "fnExactJacobiOfSteps", fn := fun _ => fun
  | [d1, d2] => { results := [.lit (.bool true)], args := [d1, d2] }
  | _ => none }
def fnExactJacobiOfStepsRow : OpenClaim := { program := "ytepigphelclpcaa", sum := "8fd02236fa9f73dab5bf02dace6c514259c92e5cbb51fd9bccde601dd0c2ba8d", func := "loop.example/g01283/laws.FnExactJacobiOfSteps", spec := "fnExactJacobiOfSteps", unfollowed := true, recurses := true, apart := false }
def FnExactJacobiOfStepsSaid : Prop := fnExactJacobiOfStepsRow.holds Try.pinned (OpenSpec.ofChange fnExactJacobiOfStepsSpec)

/-- ITS FALSE NEIGHBOUR: 'it returns false'. Refute it at one input. -/
def fnExactJacobiOfStepsWrong : ChangeSpec := { name := "fnExactJacobiOfSteps", fn := fun _ => fun
  | [d1, d2] => { results := [.lit (.bool false)], args := [d1, d2] }
  | _ => none }
def FnExactJacobiOfStepsWrongFalsely : Prop := fnExactJacobiOfStepsRow.holds Try.pinned (OpenSpec.ofChange fnExactJacobiOfStepsWrong)

/-- 'laws.FnPrimeNumbers': WHATEVER THE INPUT: true; the input reads as it did. -/
def fnPrimeNumbersSpec : ChangeSpec := { name := "fnPrimeNumbers", fn := fun _ => fun
  | [d] => { results := [.lit (.bool true)], args := [d] }
  | _ => none }
def fnPrimeNumbersRow : OpenClaim := { program := "ytepigphelclpcaa", sum := "8fd02236fa9f73dab5bf02dace6c514259c92e5cbb51fd9bccde601dd0c2ba8d", func := "loop.example/g01283/laws.FnPrimeNumbers", spec := "fnPrimeNumbers", apart := false }
def FnPrimeNumbersSaid : Prop := fnPrimeNumbersRow.holds Try.pinned (OpenSpec.ofChange fnPrimeNumbersSpec)

/-- ITS FALSE NEIGHBOUR: 'it returns false'. Refute it at one input. -/
def fnPrimeNumbersWrong : ChangeSpec := { name := "fnPrimeNumbers", fn := fun _ => fun
  | [d] => { results := [.lit (.bool false)], args := [d] }
  | _ => none }
def FnPrimeNumbersWrongFalsely : Prop := fnPrimeNumbersRow.holds Try.pinned (OpenSpec.ofChange fnPrimeNumbersWrong)

/-- 'laws.FnExactAreMoments': WHATEVER THE INPUT: true; the input reads as it did. -/
def fnExactAreMomentsSpec : ChangeSpec := { name := "fnExactAreMoments", fn := fun _ => fun
  | [d] => { results := [.lit (.bool true)], args := [d] }
  | _ => none }
def fnExactAreMomentsRow : OpenClaim := { program := "ytepigphelclpcaa", sum := "8fd02236fa9f73dab5bf02dace6c514259c92e5cbb51fd9bccde601dd0c2ba8d", func := "loop.example/g01283/laws.FnExactAreMoments", spec := "fnExactAreMoments", unfollowed := true, recurses := true, apart := false }
def FnExactAreMomentsSaid : Prop := fnExactAreMomentsRow.holds Try.pinned (OpenSpec.ofChange fnExactAreMomentsSpec)

/-- ITS FALSE NEIGHBOUR: 'it returns false'. Refute it at one input. -/
def fnExactAreMomentsWrong : ChangeSpec := { name := "fnExactAreMoments", fn := fun _ => fun
  | [d] => { results := [.lit (.bool false)], args := [d] }
  | _ => none }
def FnExactAreMomentsWrongFalsely : Prop := fnExactAreMomentsRow.holds Try.pinned (OpenSpec.ofChange fnExactAreMomentsWrong)

/-- 'laws.FnExactIsJacobi': WHATEVER THE INPUT: true; the input reads as it did. -/
def fnExactIsJacobiSpec : ChangeSpec := { name := "fnExactIsJacobi", fn := fun _ => fun
  | [d] => { results := [.lit (.bool true)], args := [d] }
  | _ => none }
def fnExactIsJacobiRow : OpenClaim := { program := "ytepigphelclpcaa", sum := "8fd02236fa9f73dab5bf02dace6c514259c92e5cbb51fd9bccde601dd0c2ba8d", func := "loop.example/g01283/laws.FnExactIsJacobi", spec := "fnExactIsJacobi", unfollowed := true, recurses := true, apart := false }
def FnExactIsJacobiSaid : Prop := fnExactIsJacobiRow.holds Try.pinned (OpenSpec.ofChange fnExactIsJacobiSpec)

/-- ITS FALSE NEIGHBOUR: 'it returns false'. Refute it at one input. -/
def fnExactIsJacobiWrong : ChangeSpec := { name := "fnExactIsJacobi", fn := fun _ => fun
  | [d] => { results := [.lit (.bool false)], args := [d] }
  | _ => none }
def FnExactIsJacobiWrongFalsely : Prop := fnExactIsJacobiRow.holds Try.pinned (OpenSpec.ofChange fnExactIsJacobiWrong)

/-- 'laws.FnExactMomentsOfSteps': WHATEVER THE INPUT: true; the input reads as it did. -/
def fnExactMomentsOfStepsSpec : ChangeSpec := { name := "fnExactMomentsOfSteps", fn := fun _ => fun
  | [d1, d2, d3] => { results := [.lit (.bool true)], args := [d1, d2, d3] }
  | _ => none }
def fnExactMomentsOfStepsRow : OpenClaim := { program := "ytepigphelclpcaa", sum := "8fd02236fa9f73dab5bf02dace6c514259c92e5cbb51fd9bccde601dd0c2ba8d", func := "loop.example/g01283/laws.FnExactMomentsOfSteps", spec := "fnExactMomentsOfSteps", unfollowed := true, recurses := true, apart := false }
def FnExactMomentsOfStepsSaid : Prop := fnExactMomentsOfStepsRow.holds Try.pinned (OpenSpec.ofChange fnExactMomentsOfStepsSpec)

/-- ITS FALSE NEIGHBOUR: 'it returns false'. Refute it at one input. -/
def fnExactMomentsOfStepsWrong : ChangeSpec := { name := "fnExactMomentsOfSteps", fn := fun _ => fun
  | [d1, d2, d3] => { results := [.lit (.bool false)], args := [d1, d2, d3] }
  | _ => none }
def FnExactMomentsOfStepsWrongFalsely : Prop := fnExactMomentsOfStepsRow.holds Try.pinned (OpenSpec.ofChange fnExactMomentsOfStepsWrong)

/-- 'laws.FnExactInterpolatePoly': WHATEVER THE INPUT: true; the input reads as it did. -/
def fnExactInterpolatePolySpec : ChangeSpec := { name := "fnExactInterpolatePoly", fn := fun _ => fun
  | [d1, d2, d3] => { results := [.lit (.bool true)], args := [d1, d2, d3] }
  | _ => none }
def fnExactInterpolatePolyRow : OpenClaim := { program := "ytepigphelclpcaa", sum := "8fd02236fa9f73dab5bf02dace6c514259c92e5cbb51fd9bccde601dd0c2ba8d", func := "loop.example/g01283/laws.FnExactInterpolatePoly", spec := "fnExactInterpolatePoly", unfollowed := true, recurses := true, apart := false }
def FnExactInterpolatePolySaid : Prop := fnExactInterpolatePolyRow.holds Try.pinned (OpenSpec.ofChange fnExactInterpolatePolySpec)

/-- ITS FALSE NEIGHBOUR: 'it returns false'. Refute it at one input. -/
def fnExactInterpolatePolyWrong : ChangeSpec := { name := "fnExactInterpolatePoly", fn := fun _ => fun
  | [d1, d2, d3] => { results := [.lit (.bool false)], args := [d1, d2, d3] }
  | _ => none }
def FnExactInterpolatePolyWrongFalsely : Prop := fnExactInterpolatePolyRow.holds Try.pinned (OpenSpec.ofChange fnExactInterpolatePolyWrong)

/- THE SECOND FORM. 'bulk': how many values and letters a reading holds, each counted each time it is reached (what is shared counts as often as it is met; a slice's spare places count too). A statement '..UptoSaid' is the law's where the arguments, and the package variables that the reading takes, are together of bulk at most 1048576: NARROWER than '..Said'. Prove '..Said' where nothing that the law and all that it calls make is longer than what came in: it says more and counts as full. Else prove '..UptoSaid'. A law counts once. -/
mutual
def uptoBulk {H : Type} : DataW H → Nat
  | .lit (.string bytes) => bytes.length + 1
  | .lit _ => 1
  | .nil => 1
  | .ptr d => uptoBulk d + 1
  | .slice elems spare => uptoBulkAll elems + uptoBulkAll spare + 1
  | .agg parts => uptoBulkAll parts + 1
  | .iface _ d => uptoBulk d + 1
  | .map entries => uptoBulkEntries entries + 1
  | .held _ => 1
def uptoBulkAll {H : Type} : List (DataW H) → Nat
  | [] => 0
  | d :: r => uptoBulk d + uptoBulkAll r
def uptoBulkEntries {H : Type} : List (Lit × DataW H) → Nat
  | [] => 0
  | x :: r => uptoBulkEntry x + uptoBulkEntries r
def uptoBulkEntry {H : Type} : Lit × DataW H → Nat
  | (.string bytes, d) => bytes.length + uptoBulk d + 1
  | (_, d) => uptoBulk d + 1
 end
def uptoSmall : (H : Type) → List (DataW H) → Bool := fun _ ds => decide (uptoBulkAll ds ≤ 1048576)
def OpenSpec.upto (s : _root_.Go.ChangeSpec) : _root_.Go.OpenSpec := { _root_.Go.OpenSpec.ofChange s with cond := some uptoSmall }

/-- 'laws.FnExactJacobiOfSteps', WHERE WHAT IT READS IS OF BULK AT MOST 1048576: true; the input reads as it did. -/
def fnExactJacobiOfStepsUptoRow : OpenClaim := { program := "ytepigphelclpcaa", sum := "8fd02236fa9f73dab5bf02dace6c514259c92e5cbb51fd9bccde601dd0c2ba8d", func := "loop.example/g01283/laws.FnExactJacobiOfSteps", spec := "fnExactJacobiOfSteps", unfollowed := true, recurses := true, apart := false, narrowed := true }
def FnExactJacobiOfStepsUptoSaid : Prop := fnExactJacobiOfStepsUptoRow.holds Try.pinned (OpenSpec.upto fnExactJacobiOfStepsSpec)

/-- 'laws.FnPrimeNumbers', WHERE WHAT IT READS IS OF BULK AT MOST 1048576: true; the input reads as it did. -/
def fnPrimeNumbersUptoRow : OpenClaim := { program := "ytepigphelclpcaa", sum := "8fd02236fa9f73dab5bf02dace6c514259c92e5cbb51fd9bccde601dd0c2ba8d", func := "loop.example/g01283/laws.FnPrimeNumbers", spec := "fnPrimeNumbers", apart := false, narrowed := true }
def FnPrimeNumbersUptoSaid : Prop := fnPrimeNumbersUptoRow.holds Try.pinned (OpenSpec.upto fnPrimeNumbersSpec)

/-- 'laws.FnExactAreMoments', WHERE WHAT IT READS IS OF BULK AT MOST 1048576: true; the input reads as it did. -/
def fnExactAreMomentsUptoRow : OpenClaim := { program := "ytepigphelclpcaa", sum := "8fd02236fa9f73dab5bf02dace6c514259c92e5cbb51fd9bccde601dd0c2ba8d", func := "loop.example/g01283/laws.FnExactAreMoments", spec := "fnExactAreMoments", unfollowed := true, recurses := true, apart := false, narrowed := true }
def FnExactAreMomentsUptoSaid : Prop := fnExactAreMomentsUptoRow.holds Try.pinned (OpenSpec.upto fnExactAreMomentsSpec)

/-- 'laws.FnExactIsJacobi', WHERE WHAT IT READS IS OF BULK AT MOST 1048576: true; the input reads as it did. -/
def fnExactIsJacobiUptoRow : OpenClaim := { program := "ytepigphelclpcaa", sum := "8fd02236fa9f73dab5bf02dace6c514259c92e5cbb51fd9bccde601dd0c2ba8d", func := "loop.example/g01283/laws.FnExactIsJacobi", spec := "fnExactIsJacobi", unfollowed := true, recurses := true, apart := false, narrowed := true }
def FnExactIsJacobiUptoSaid : Prop := fnExactIsJacobiUptoRow.holds Try.pinned (OpenSpec.upto fnExactIsJacobiSpec)

/-- 'laws.FnExactMomentsOfSteps', WHERE WHAT IT READS IS OF BULK AT MOST 1048576: true; the input reads as it did. -/
def fnExactMomentsOfStepsUptoRow : OpenClaim := { program := "ytepigphelclpcaa", sum := "8fd02236fa9f73dab5bf02dace6c514259c92e5cbb51fd9bccde601dd0c2ba8d", func := "loop.example/g01283/laws.FnExactMomentsOfSteps", spec := "fnExactMomentsOfSteps", unfollowed := true, recurses := true, apart := false, narrowed := true }
def FnExactMomentsOfStepsUptoSaid : Prop := fnExactMomentsOfStepsUptoRow.holds Try.pinned (OpenSpec.upto fnExactMomentsOfStepsSpec)

/-- 'laws.FnExactInterpolatePoly', WHERE WHAT IT READS IS OF BULK AT MOST 1048576: true; the input reads as it did. -/
def fnExactInterpolatePolyUptoRow : OpenClaim := { program := "ytepigphelclpcaa", sum := "8fd02236fa9f73dab5bf02dace6c514259c92e5cbb51fd9bccde601dd0c2ba8d", func := "loop.example/g01283/laws.FnExactInterpolatePoly", spec := "fnExactInterpolatePoly", unfollowed := true, recurses := true, apart := false, narrowed := true }
def FnExactInterpolatePolyUptoSaid : Prop := fnExactInterpolatePolyUptoRow.holds Try.pinned (OpenSpec.upto fnExactInterpolatePolySpec)

end Rows
end Go.Proofs.Ytepigphelclpcaa
