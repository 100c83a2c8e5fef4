/-
  DERIVED. GIVEN WITH THE SEED: THE CARDS: each row of YtniljgkkcnekgaaGreatDoorRows.lean that lists a variable, with what it lists TIED to the program's text (the seventh form; the later family's looks); each row that meets fmt, with fmt's text TOLD by the authors' own Lean function (tested against real Go, not proved from fmt's source: count such statements apart). THE CARD IS WHAT COUNTS. Prove the row's statement (the work); the ties are given (YtniljgkkcnekgaaGreatDoorTie.lean); close each card by the builder's one call (the guide's Derived/Test/ToyasCard.lean, 'card_holds'). Laid BY PROGRAM, IN A SANDBOX (cutbox-door.mjs). By AI agents, Wed Nov 11 2026. No macro, syntax, notation, axiom, sorry.
-/
import Derived.Test.YtniljgkkcnekgaaGreatDoorRows
import GoSem.ClaimSeven
namespace Go.Proofs.YtniljgkkcnekgaaGreatDoor
namespace Rows

/-- THE TIED CARD OF 'datakitlaw41.QcodeTexts'. -/
def qcodeTextsCard : Claim7 := { stood := { row := qcodeTextsRow, standIns := [], harness := (true, "08cb6afa8de260b81040de8dcd4f056b0fd99193a1c19e2badeb5ea83d07899e"), looks := false }, kinds := [], alts := [], laidByText := true, laidKinds := [.data, .data, .data, .data, .data, .pinned], laidTests := true, laidLooks := .later }
def QcodeTextsCardSaid : Prop := Claim7.holds Tryz.pinned (.plain (OpenSpec.ofChange qcodeTextsSpec)) qcodeTextsCard

/-- THE SECOND FORM's CARD OF 'datakitlaw41.QcodeTexts'. -/
def qcodeTextsUptoCard : Claim7 := { stood := { row := qcodeTextsUptoRow, standIns := [], harness := (true, "08cb6afa8de260b81040de8dcd4f056b0fd99193a1c19e2badeb5ea83d07899e"), looks := false }, kinds := [], alts := [], laidByText := true, laidKinds := [.data, .data, .data, .data, .data, .pinned], laidTests := true, laidLooks := .later }
def QcodeTextsUptoCardSaid : Prop := Claim7.holds Tryz.pinned (.plain (OpenSpec.upto qcodeTextsSpec)) qcodeTextsUptoCard
end Rows
end Go.Proofs.YtniljgkkcnekgaaGreatDoor
