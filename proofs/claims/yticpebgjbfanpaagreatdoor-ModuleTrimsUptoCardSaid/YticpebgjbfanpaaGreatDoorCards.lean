/-
  DERIVED. GIVEN WITH THE SEED: THE CARDS: each row of YticpebgjbfanpaaGreatDoorRows.lean that lists a variable, with what it lists TIED to the program's text (the seventh form; the later family's looks); each row that meets fmt, with fmt's text TOLD by the authors' own Lean function (tested against real Go, not proved from fmt's source: count such statements apart). THE CARD IS WHAT COUNTS. Prove the row's statement (the work); the ties are given (YticpebgjbfanpaaGreatDoorTie.lean); close each card by the builder's one call (the guide's Derived/Test/ToyasCard.lean, 'card_holds'). Laid BY PROGRAM, IN A SANDBOX (cutbox-door.mjs). By AI agents, Wed Nov 11 2026. No macro, syntax, notation, axiom, sorry.
-/
import Derived.Test.YticpebgjbfanpaaGreatDoorRows
import GoSem.ClaimSeven
namespace Go.Proofs.YticpebgjbfanpaaGreatDoor
namespace Rows

/-- THE TIED CARD OF 'datakitlaw43.QanalyzePlans'. -/
def qanalyzePlansCard : Claim7 := { stood := { row := qanalyzePlansRow, standIns := [], harness := (true, "00a47fe92b89b28460b1429c0d67b0cf11006065464c9359e14c24ae2c0aa4fb"), looks := false }, kinds := [], alts := [], laidByText := true, laidKinds := [.data, .listed, .data, .data, .pinned], laidTests := true, laidLooks := .later }
def QanalyzePlansCardSaid : Prop := Claim7.holds Tryz.pinned (.plain (OpenSpec.ofChange qanalyzePlansSpec)) qanalyzePlansCard

/-- THE TIED CARD OF 'datakitlaw38.ModuleTrims'. -/
def moduleTrimsCard : Claim7 := { stood := { row := moduleTrimsRow, standIns := [], harness := (true, "00a47fe92b89b28460b1429c0d67b0cf11006065464c9359e14c24ae2c0aa4fb"), looks := false }, kinds := [], alts := [], laidByText := true, laidKinds := [.data, .listed, .data, .data, .pinned], laidTests := true, laidLooks := .later }
def ModuleTrimsCardSaid : Prop := Claim7.holds Tryz.pinned (.plain (OpenSpec.ofChange moduleTrimsSpec)) moduleTrimsCard

/-- THE SECOND FORM's CARD OF 'datakitlaw43.QanalyzePlans'. -/
def qanalyzePlansUptoCard : Claim7 := { stood := { row := qanalyzePlansUptoRow, standIns := [], harness := (true, "00a47fe92b89b28460b1429c0d67b0cf11006065464c9359e14c24ae2c0aa4fb"), looks := false }, kinds := [], alts := [], laidByText := true, laidKinds := [.data, .listed, .data, .data, .pinned], laidTests := true, laidLooks := .later }
def QanalyzePlansUptoCardSaid : Prop := Claim7.holds Tryz.pinned (.plain (OpenSpec.upto qanalyzePlansSpec)) qanalyzePlansUptoCard

/-- THE SECOND FORM's CARD OF 'datakitlaw38.ModuleTrims'. -/
def moduleTrimsUptoCard : Claim7 := { stood := { row := moduleTrimsUptoRow, standIns := [], harness := (true, "00a47fe92b89b28460b1429c0d67b0cf11006065464c9359e14c24ae2c0aa4fb"), looks := false }, kinds := [], alts := [], laidByText := true, laidKinds := [.data, .listed, .data, .data, .pinned], laidTests := true, laidLooks := .later }
def ModuleTrimsUptoCardSaid : Prop := Claim7.holds Tryz.pinned (.plain (OpenSpec.upto moduleTrimsSpec)) moduleTrimsUptoCard
end Rows
end Go.Proofs.YticpebgjbfanpaaGreatDoor
