/-
  DERIVED. GIVEN WITH THE SEED: THE CARDS: each row of YtejkmmmdkapbjaaGreatDoorRows.lean that lists a variable, with what it lists TIED to the program's text (the seventh form; the later family's looks); each row that meets fmt, with fmt's text TOLD by the authors' own Lean function (tested against real Go, not proved from fmt's source: count such statements apart). THE CARD IS WHAT COUNTS. Prove the row's statement (the work); the ties are given (YtejkmmmdkapbjaaGreatDoorTie.lean); close each card by the builder's one call (the guide's Derived/Test/ToyasCard.lean, 'card_holds'). Laid BY PROGRAM, IN A SANDBOX (cutbox-door.mjs). By AI agents, Wed Nov 11 2026. No macro, syntax, notation, axiom, sorry.
-/
import Derived.Test.YtejkmmmdkapbjaaGreatDoorRows
import GoSem.ClaimSeven
namespace Go.Proofs.YtejkmmmdkapbjaaGreatDoor
namespace Rows

/-- THE TIED CARD OF 'datakitlaw42.QvmNil'. -/
def qvmNilCard : Claim7 := { stood := { row := qvmNilRow, standIns := [], harness := (true, "c6dbbf1e69d2037cd6464facd283e63b1754d93b4b91bfb2a2bdab72bad3274e"), looks := true }, kinds := [], alts := [], laidByText := true, laidKinds := [.data, .data, .data, .data, .sentinel, .sentinel, .listed, .data, .pinned], laidTests := true, laidLooks := .later }
def QvmNilCardSaid : Prop := Claim7.holds Tryz.pinned (.plain (OpenSpec.ofChange qvmNilSpec)) qvmNilCard

/-- THE SECOND FORM's CARD OF 'datakitlaw42.QvmNil'. -/
def qvmNilUptoCard : Claim7 := { stood := { row := qvmNilUptoRow, standIns := [], harness := (true, "c6dbbf1e69d2037cd6464facd283e63b1754d93b4b91bfb2a2bdab72bad3274e"), looks := true }, kinds := [], alts := [], laidByText := true, laidKinds := [.data, .data, .data, .data, .sentinel, .sentinel, .listed, .data, .pinned], laidTests := true, laidLooks := .later }
def QvmNilUptoCardSaid : Prop := Claim7.holds Tryz.pinned (.plain (OpenSpec.upto qvmNilSpec)) qvmNilUptoCard
end Rows
end Go.Proofs.YtejkmmmdkapbjaaGreatDoor
