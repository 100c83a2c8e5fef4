/-
  DERIVED. GIVEN WITH THE SEED: THE CARDS: each row of YtmbldgcbnkhabaaDoorRows.lean that lists a variable, with what it lists TIED to the program's text (the seventh form; the later family's looks); each row that meets fmt, with fmt's text TOLD by the authors' own Lean function (tested against real Go, not proved from fmt's source: count such statements apart). THE CARD IS WHAT COUNTS. Prove the row's statement (the work); the ties are given (YtmbldgcbnkhabaaDoorTie.lean); close each card by the builder's one call (the guide's Derived/Test/ToyasCard.lean, 'card_holds'). Laid BY PROGRAM, IN A SANDBOX (cutbox-door.mjs). By AI agents, Wed Nov 11 2026. No macro, syntax, notation, axiom, sorry.
-/
import Derived.Test.YtmbldgcbnkhabaaDoorRows
import GoSem.ClaimSeven
namespace Go.Proofs.YtmbldgcbnkhabaaDoor
namespace Rows

/-- THE TIED CARD OF 'datakitlaw37.BuiltinIndexes'. -/
def builtinIndexesCard : Claim7 := { stood := { row := builtinIndexesRow, standIns := [], harness := (true, "34e9913b796343fb23ee6132b4a6291072521808ec41e73e41116adf195e6c11"), looks := false }, kinds := [], alts := [], laidByText := true, laidKinds := [.data, .pinned], laidTests := true, laidLooks := .later }
def BuiltinIndexesCardSaid : Prop := Claim7.holds Tryd.pinned (.plain (OpenSpec.ofChange builtinIndexesSpec)) builtinIndexesCard

/-- THE TIED CARD OF 'datakitlaw37.BuiltinSlices'. -/
def builtinSlicesCard : Claim7 := { stood := { row := builtinSlicesRow, standIns := [], harness := (true, "34e9913b796343fb23ee6132b4a6291072521808ec41e73e41116adf195e6c11"), looks := false }, kinds := [], alts := [], laidByText := true, laidKinds := [.data, .pinned], laidTests := true, laidLooks := .later }
def BuiltinSlicesCardSaid : Prop := Claim7.holds Tryd.pinned (.plain (OpenSpec.ofChange builtinSlicesSpec)) builtinSlicesCard

/-- THE SECOND FORM's CARD OF 'datakitlaw37.BuiltinIndexes'. -/
def builtinIndexesUptoCard : Claim7 := { stood := { row := builtinIndexesUptoRow, standIns := [], harness := (true, "34e9913b796343fb23ee6132b4a6291072521808ec41e73e41116adf195e6c11"), looks := false }, kinds := [], alts := [], laidByText := true, laidKinds := [.data, .pinned], laidTests := true, laidLooks := .later }
def BuiltinIndexesUptoCardSaid : Prop := Claim7.holds Tryd.pinned (.plain (OpenSpec.upto builtinIndexesSpec)) builtinIndexesUptoCard

/-- THE SECOND FORM's CARD OF 'datakitlaw37.BuiltinSlices'. -/
def builtinSlicesUptoCard : Claim7 := { stood := { row := builtinSlicesUptoRow, standIns := [], harness := (true, "34e9913b796343fb23ee6132b4a6291072521808ec41e73e41116adf195e6c11"), looks := false }, kinds := [], alts := [], laidByText := true, laidKinds := [.data, .pinned], laidTests := true, laidLooks := .later }
def BuiltinSlicesUptoCardSaid : Prop := Claim7.holds Tryd.pinned (.plain (OpenSpec.upto builtinSlicesSpec)) builtinSlicesUptoCard
end Rows
end Go.Proofs.YtmbldgcbnkhabaaDoor
