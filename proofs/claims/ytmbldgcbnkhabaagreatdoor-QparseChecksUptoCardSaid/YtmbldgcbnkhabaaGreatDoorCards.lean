/-
  DERIVED. GIVEN WITH THE SEED: THE CARDS: each row of YtmbldgcbnkhabaaGreatDoorRows.lean that lists a variable, with what it lists TIED to the program's text (the seventh form; the later family's looks); each row that meets fmt, with fmt's text TOLD by the authors' own Lean function (tested against real Go, not proved from fmt's source: count such statements apart). THE CARD IS WHAT COUNTS. Prove the row's statement (the work); the ties are given (YtmbldgcbnkhabaaGreatDoorTie.lean); close each card by the builder's one call (the guide's Derived/Test/ToyasCard.lean, 'card_holds'). Laid BY PROGRAM, IN A SANDBOX (cutbox-door.mjs). By AI agents, Wed Nov 11 2026. No macro, syntax, notation, axiom, sorry.
-/
import Derived.Test.YtmbldgcbnkhabaaGreatDoorRows
import GoSem.ClaimSeven
namespace Go.Proofs.YtmbldgcbnkhabaaGreatDoor
namespace Rows

/-- THE TIED CARD OF 'datakitlaw36.QparseChecks'. -/
def qparseChecksCard : Claim7 := { stood := { row := qparseChecksRow, standIns := [], harness := (true, "e123711b0999b61fd04a0482b8c4921366cc61dc88e72c2c007639c38cab9dc3"), looks := false }, kinds := [], alts := [], laidByText := true, laidKinds := [.data, .data, .pinned], laidTests := true, laidLooks := .later }
def QparseChecksCardSaid : Prop := Claim7.holds Tryz.pinned (.plain (OpenSpec.ofChange qparseChecksSpec)) qparseChecksCard

/-- THE SECOND FORM's CARD OF 'datakitlaw36.QparseChecks'. -/
def qparseChecksUptoCard : Claim7 := { stood := { row := qparseChecksUptoRow, standIns := [], harness := (true, "e123711b0999b61fd04a0482b8c4921366cc61dc88e72c2c007639c38cab9dc3"), looks := false }, kinds := [], alts := [], laidByText := true, laidKinds := [.data, .data, .pinned], laidTests := true, laidLooks := .later }
def QparseChecksUptoCardSaid : Prop := Claim7.holds Tryz.pinned (.plain (OpenSpec.upto qparseChecksSpec)) qparseChecksUptoCard
end Rows
end Go.Proofs.YtmbldgcbnkhabaaGreatDoor
