/-
  DERIVED. GIVEN WITH THE SEED: THE CARDS: each row of YtmadpicanmjhhaaGreatDoorRows.lean that lists a variable, with what it lists TIED to the program's text (the seventh form; the later family's looks); each row that meets fmt, with fmt's text TOLD by the authors' own Lean function (tested against real Go, not proved from fmt's source: count such statements apart). THE CARD IS WHAT COUNTS. Prove the row's statement (the work); the ties are given (YtmadpicanmjhhaaGreatDoorTie.lean); close each card by the builder's one call (the guide's Derived/Test/ToyasCard.lean, 'card_holds'). Laid BY PROGRAM, IN A SANDBOX (cutbox-door.mjs). By AI agents, Wed Nov 11 2026. No macro, syntax, notation, axiom, sorry.
-/
import Derived.Test.YtmadpicanmjhhaaGreatDoorRows
import GoSem.ClaimSeven
namespace Go.Proofs.YtmadpicanmjhhaaGreatDoor
namespace Rows

/-- THE TIED CARD OF 'laws.FnPolyValues'. -/
def fnPolyValuesCard : Claim7 := { stood := { row := fnPolyValuesRow, standIns := [], harness := (true, "cfdbb718550aa0945078cf1754755e4e4cb05ecc831118e576509629e6974388"), looks := true }, kinds := [], alts := [], laidByText := true, laidKinds := [.data, .data, .data, .data, .sentinel, .sentinel, .pinned], laidTests := true, laidLooks := .later }
def FnPolyValuesCardSaid : Prop := Claim7.holds Tryz.pinned (.plain (OpenSpec.ofChange fnPolyValuesSpec)) fnPolyValuesCard

/-- THE SECOND FORM's CARD OF 'laws.FnPolyValues'. -/
def fnPolyValuesUptoCard : Claim7 := { stood := { row := fnPolyValuesUptoRow, standIns := [], harness := (true, "cfdbb718550aa0945078cf1754755e4e4cb05ecc831118e576509629e6974388"), looks := true }, kinds := [], alts := [], laidByText := true, laidKinds := [.data, .data, .data, .data, .sentinel, .sentinel, .pinned], laidTests := true, laidLooks := .later }
def FnPolyValuesUptoCardSaid : Prop := Claim7.holds Tryz.pinned (.plain (OpenSpec.upto fnPolyValuesSpec)) fnPolyValuesUptoCard
end Rows
end Go.Proofs.YtmadpicanmjhhaaGreatDoor
