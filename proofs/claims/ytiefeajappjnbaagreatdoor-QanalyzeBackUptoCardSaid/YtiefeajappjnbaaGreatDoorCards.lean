/-
  DERIVED. GIVEN WITH THE SEED: THE CARDS: each row of YtiefeajappjnbaaGreatDoorRows.lean that lists a variable, with what it lists TIED to the program's text (the seventh form; the later family's looks); each row that meets fmt, with fmt's text TOLD by the authors' own Lean function (tested against real Go, not proved from fmt's source: count such statements apart). THE CARD IS WHAT COUNTS. Prove the row's statement (the work); the ties are given (YtiefeajappjnbaaGreatDoorTie.lean); close each card by the builder's one call (the guide's Derived/Test/ToyasCard.lean, 'card_holds'). Laid BY PROGRAM, IN A SANDBOX (cutbox-door.mjs). By AI agents, Wed Nov 11 2026. No macro, syntax, notation, axiom, sorry.
-/
import Derived.Test.YtiefeajappjnbaaGreatDoorRows
import GoSem.ClaimSeven
namespace Go.Proofs.YtiefeajappjnbaaGreatDoor
namespace Rows

/-- THE TIED CARD OF 'datakitlaw36.QparseTexts'. -/
def qparseTextsCard : Claim7 := { stood := { row := qparseTextsRow, standIns := [], harness := (true, "f94b261f9f684975548b5bdb8fb400176d4db720d3d9f8962ebfd414fd35d485"), looks := false }, kinds := [], alts := [], laidByText := true, laidKinds := [.data, .data, .pinned], laidTests := true, laidLooks := .later }
def QparseTextsCardSaid : Prop := Claim7.holds Tryz.pinned (.plain (OpenSpec.ofChange qparseTextsSpec)) qparseTextsCard

/-- THE TIED CARD OF 'datakitlaw36.QparseModuleTexts'. -/
def qparseModuleTextsCard : Claim7 := { stood := { row := qparseModuleTextsRow, standIns := [], harness := (true, "f94b261f9f684975548b5bdb8fb400176d4db720d3d9f8962ebfd414fd35d485"), looks := false }, kinds := [], alts := [], laidByText := true, laidKinds := [.data, .data, .pinned], laidTests := true, laidLooks := .later }
def QparseModuleTextsCardSaid : Prop := Claim7.holds Tryz.pinned (.plain (OpenSpec.ofChange qparseModuleTextsSpec)) qparseModuleTextsCard

/-- THE TIED CARD OF 'datakitlaw38.ModuleOrders'. -/
def moduleOrdersCard : Claim7 := { stood := { row := moduleOrdersRow, standIns := [], harness := (true, "f94b261f9f684975548b5bdb8fb400176d4db720d3d9f8962ebfd414fd35d485"), looks := false }, kinds := [], alts := [], laidByText := true, laidKinds := [.data, .data, .pinned], laidTests := true, laidLooks := .later }
def ModuleOrdersCardSaid : Prop := Claim7.holds Tryz.pinned (.plain (OpenSpec.ofChange moduleOrdersSpec)) moduleOrdersCard

/-- THE TIED CARD OF 'datakitlaw43.QanalyzeBack'. -/
def qanalyzeBackCard : Claim7 := { stood := { row := qanalyzeBackRow, standIns := [], harness := (true, "f94b261f9f684975548b5bdb8fb400176d4db720d3d9f8962ebfd414fd35d485"), looks := false }, kinds := [], alts := [], laidByText := true, laidKinds := [.data, .listed, .data, .data, .pinned], laidTests := true, laidLooks := .later }
def QanalyzeBackCardSaid : Prop := Claim7.holds Tryz.pinned (.plain (OpenSpec.ofChange qanalyzeBackSpec)) qanalyzeBackCard

/-- THE SECOND FORM's CARD OF 'datakitlaw36.QparseTexts'. -/
def qparseTextsUptoCard : Claim7 := { stood := { row := qparseTextsUptoRow, standIns := [], harness := (true, "f94b261f9f684975548b5bdb8fb400176d4db720d3d9f8962ebfd414fd35d485"), looks := false }, kinds := [], alts := [], laidByText := true, laidKinds := [.data, .data, .pinned], laidTests := true, laidLooks := .later }
def QparseTextsUptoCardSaid : Prop := Claim7.holds Tryz.pinned (.plain (OpenSpec.upto qparseTextsSpec)) qparseTextsUptoCard

/-- THE SECOND FORM's CARD OF 'datakitlaw36.QparseModuleTexts'. -/
def qparseModuleTextsUptoCard : Claim7 := { stood := { row := qparseModuleTextsUptoRow, standIns := [], harness := (true, "f94b261f9f684975548b5bdb8fb400176d4db720d3d9f8962ebfd414fd35d485"), looks := false }, kinds := [], alts := [], laidByText := true, laidKinds := [.data, .data, .pinned], laidTests := true, laidLooks := .later }
def QparseModuleTextsUptoCardSaid : Prop := Claim7.holds Tryz.pinned (.plain (OpenSpec.upto qparseModuleTextsSpec)) qparseModuleTextsUptoCard

/-- THE SECOND FORM's CARD OF 'datakitlaw38.ModuleOrders'. -/
def moduleOrdersUptoCard : Claim7 := { stood := { row := moduleOrdersUptoRow, standIns := [], harness := (true, "f94b261f9f684975548b5bdb8fb400176d4db720d3d9f8962ebfd414fd35d485"), looks := false }, kinds := [], alts := [], laidByText := true, laidKinds := [.data, .data, .pinned], laidTests := true, laidLooks := .later }
def ModuleOrdersUptoCardSaid : Prop := Claim7.holds Tryz.pinned (.plain (OpenSpec.upto moduleOrdersSpec)) moduleOrdersUptoCard

/-- THE SECOND FORM's CARD OF 'datakitlaw43.QanalyzeBack'. -/
def qanalyzeBackUptoCard : Claim7 := { stood := { row := qanalyzeBackUptoRow, standIns := [], harness := (true, "f94b261f9f684975548b5bdb8fb400176d4db720d3d9f8962ebfd414fd35d485"), looks := false }, kinds := [], alts := [], laidByText := true, laidKinds := [.data, .listed, .data, .data, .pinned], laidTests := true, laidLooks := .later }
def QanalyzeBackUptoCardSaid : Prop := Claim7.holds Tryz.pinned (.plain (OpenSpec.upto qanalyzeBackSpec)) qanalyzeBackUptoCard
end Rows
end Go.Proofs.YtiefeajappjnbaaGreatDoor
