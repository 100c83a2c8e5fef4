/-
  DERIVED. GIVEN WITH THE SEED: THE CARDS: each row of YtnoddigkafldfaaDoorRows.lean that lists a variable, with what it lists TIED to the program's text (the seventh form; the later family's looks); each row that meets fmt, with fmt's text TOLD by the authors' own Lean function (tested against real Go, not proved from fmt's source: count such statements apart). THE CARD IS WHAT COUNTS. Prove the row's statement (the work); the ties are given (YtnoddigkafldfaaDoorTie.lean); close each card by the builder's one call (the guide's Derived/Test/ToyasCard.lean, 'card_holds'). Laid BY PROGRAM, IN A SANDBOX (cutbox-door.mjs). By AI agents, Wed Nov 11 2026. No macro, syntax, notation, axiom, sorry.
-/
import Derived.Test.YtnoddigkafldfaaDoorRows
import GoSem.ClaimSeven
namespace Go.Proofs.YtnoddigkafldfaaDoor
namespace Rows

/-- THE TIED CARD OF 'datakitlaw41.QcodeChecks'. -/
def qcodeChecksCard : Claim7 := { stood := { row := qcodeChecksRow, standIns := [], harness := (true, "b6fc40b867cf13f76c41811ab76795dfafb2f041b26240959beeb92983e43878"), looks := false }, kinds := [], alts := [], laidByText := true, laidKinds := [.data, .listed, .data, .pinned], laidTests := true, laidLooks := .later }
def QcodeChecksCardSaid : Prop := Claim7.holds Tryd.pinned (.plain (OpenSpec.ofChange qcodeChecksSpec)) qcodeChecksCard

/-- THE SECOND FORM's CARD OF 'datakitlaw41.QcodeChecks'. -/
def qcodeChecksUptoCard : Claim7 := { stood := { row := qcodeChecksUptoRow, standIns := [], harness := (true, "b6fc40b867cf13f76c41811ab76795dfafb2f041b26240959beeb92983e43878"), looks := false }, kinds := [], alts := [], laidByText := true, laidKinds := [.data, .listed, .data, .pinned], laidTests := true, laidLooks := .later }
def QcodeChecksUptoCardSaid : Prop := Claim7.holds Tryd.pinned (.plain (OpenSpec.upto qcodeChecksSpec)) qcodeChecksUptoCard
end Rows
end Go.Proofs.YtnoddigkafldfaaDoor
