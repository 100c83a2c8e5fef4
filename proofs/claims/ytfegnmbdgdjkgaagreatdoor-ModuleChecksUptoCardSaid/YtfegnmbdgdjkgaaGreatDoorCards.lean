/-
  DERIVED. GIVEN WITH THE SEED: THE CARDS: each row of YtfegnmbdgdjkgaaGreatDoorRows.lean that lists a variable, with what it lists TIED to the program's text (the seventh form; the later family's looks); each row that meets fmt, with fmt's text TOLD by the authors' own Lean function (tested against real Go, not proved from fmt's source: count such statements apart). THE CARD IS WHAT COUNTS. Prove the row's statement (the work); the ties are given (YtfegnmbdgdjkgaaGreatDoorTie.lean); close each card by the builder's one call (the guide's Derived/Test/ToyasCard.lean, 'card_holds'). Laid BY PROGRAM, IN A SANDBOX (cutbox-door.mjs). By AI agents, Wed Nov 11 2026. No macro, syntax, notation, axiom, sorry.
-/
import Derived.Test.YtfegnmbdgdjkgaaGreatDoorRows
import GoSem.ClaimSeven
namespace Go.Proofs.YtfegnmbdgdjkgaaGreatDoor
namespace Rows

/-- THE TIED CARD OF 'datakitlaw38.ModuleChecks'. -/
def moduleChecksCard : Claim7 := { stood := { row := moduleChecksRow, standIns := [], harness := (true, "852dee13851fbb6bf9485f693dd0bad584de5943796207111b4d5f0ec8ac39e0"), looks := false }, kinds := [], alts := [], laidByText := true, laidKinds := [.data, .listed, .data, .data, .pinned], laidTests := true, laidLooks := .later }
def ModuleChecksCardSaid : Prop := Claim7.holds Tryz.pinned (.plain (OpenSpec.ofChange moduleChecksSpec)) moduleChecksCard

/-- THE SECOND FORM's CARD OF 'datakitlaw38.ModuleChecks'. -/
def moduleChecksUptoCard : Claim7 := { stood := { row := moduleChecksUptoRow, standIns := [], harness := (true, "852dee13851fbb6bf9485f693dd0bad584de5943796207111b4d5f0ec8ac39e0"), looks := false }, kinds := [], alts := [], laidByText := true, laidKinds := [.data, .listed, .data, .data, .pinned], laidTests := true, laidLooks := .later }
def ModuleChecksUptoCardSaid : Prop := Claim7.holds Tryz.pinned (.plain (OpenSpec.upto moduleChecksSpec)) moduleChecksUptoCard
end Rows
end Go.Proofs.YtfegnmbdgdjkgaaGreatDoor
