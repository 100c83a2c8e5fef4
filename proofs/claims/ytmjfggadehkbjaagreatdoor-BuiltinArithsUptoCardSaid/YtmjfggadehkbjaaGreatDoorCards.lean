/-
  DERIVED. GIVEN WITH THE SEED: THE CARDS: each row of YtmjfggadehkbjaaGreatDoorRows.lean that lists a variable, with what it lists TIED to the program's text (the seventh form; the later family's looks); each row that meets fmt, with fmt's text TOLD by the authors' own Lean function (tested against real Go, not proved from fmt's source: count such statements apart). THE CARD IS WHAT COUNTS. Prove the row's statement (the work); the ties are given (YtmjfggadehkbjaaGreatDoorTie.lean); close each card by the builder's one call (the guide's Derived/Test/ToyasCard.lean, 'card_holds'). Laid BY PROGRAM, IN A SANDBOX (cutbox-door.mjs). By AI agents, Wed Nov 11 2026. No macro, syntax, notation, axiom, sorry.
-/
import Derived.Test.YtmjfggadehkbjaaGreatDoorRows
import GoSem.ClaimSeven
namespace Go.Proofs.YtmjfggadehkbjaaGreatDoor
namespace Rows

/-- THE TIED CARD OF 'datakitlaw37.BuiltinCompares'. -/
def builtinComparesCard : Claim7 := { stood := { row := builtinComparesRow, standIns := [], harness := (true, "12f5c905d774a082e0c79486de232b095252090e623b8446f65677e7b7397622"), looks := false }, kinds := [], alts := [], laidByText := true, laidKinds := [.data, .pinned], laidTests := true, laidLooks := .later }
def BuiltinComparesCardSaid : Prop := Claim7.holds Tryz.pinned (.plain (OpenSpec.ofChange builtinComparesSpec)) builtinComparesCard

/-- THE TIED CARD OF 'datakitlaw37.BuiltinAriths'. -/
def builtinArithsCard : Claim7 := { stood := { row := builtinArithsRow, standIns := [], harness := (true, "12f5c905d774a082e0c79486de232b095252090e623b8446f65677e7b7397622"), looks := false }, kinds := [], alts := [], laidByText := true, laidKinds := [.data, .pinned], laidTests := true, laidLooks := .later }
def BuiltinArithsCardSaid : Prop := Claim7.holds Tryz.pinned (.plain (OpenSpec.ofChange builtinArithsSpec)) builtinArithsCard

/-- THE SECOND FORM's CARD OF 'datakitlaw37.BuiltinCompares'. -/
def builtinComparesUptoCard : Claim7 := { stood := { row := builtinComparesUptoRow, standIns := [], harness := (true, "12f5c905d774a082e0c79486de232b095252090e623b8446f65677e7b7397622"), looks := false }, kinds := [], alts := [], laidByText := true, laidKinds := [.data, .pinned], laidTests := true, laidLooks := .later }
def BuiltinComparesUptoCardSaid : Prop := Claim7.holds Tryz.pinned (.plain (OpenSpec.upto builtinComparesSpec)) builtinComparesUptoCard

/-- THE SECOND FORM's CARD OF 'datakitlaw37.BuiltinAriths'. -/
def builtinArithsUptoCard : Claim7 := { stood := { row := builtinArithsUptoRow, standIns := [], harness := (true, "12f5c905d774a082e0c79486de232b095252090e623b8446f65677e7b7397622"), looks := false }, kinds := [], alts := [], laidByText := true, laidKinds := [.data, .pinned], laidTests := true, laidLooks := .later }
def BuiltinArithsUptoCardSaid : Prop := Claim7.holds Tryz.pinned (.plain (OpenSpec.upto builtinArithsSpec)) builtinArithsUptoCard
end Rows
end Go.Proofs.YtmjfggadehkbjaaGreatDoor
