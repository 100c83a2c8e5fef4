/-
  DERIVED. GIVEN WITH THE SEED: THE CARDS: each row of YtbpdbmjfnbpihaaDoorRows.lean that lists a variable, with what it lists TIED to the program's text (the seventh form; the later family's looks); each row that meets fmt, with fmt's text TOLD by the authors' own Lean function (tested against real Go, not proved from fmt's source: count such statements apart). THE CARD IS WHAT COUNTS. Prove the row's statement (the work); the ties are given (YtbpdbmjfnbpihaaDoorTie.lean); close each card by the builder's one call (the guide's Derived/Test/ToyasCard.lean, 'card_holds'). Laid BY PROGRAM, IN A SANDBOX (cutbox-door.mjs). By AI agents, Wed Nov 11 2026. No macro, syntax, notation, axiom, sorry.
-/
import Derived.Test.YtbpdbmjfnbpihaaDoorRows
import GoSem.ClaimSeven
namespace Go.Proofs.YtbpdbmjfnbpihaaDoor
namespace Rows

/-- THE TIED CARD OF 'datakitlaw35.QlexWords'. -/
def qlexWordsCard : Claim7 := { stood := { row := qlexWordsRow, standIns := [], harness := (true, "41fe893ad1bbb624679d48fab2f23ba1e94356305febb523f204b24127709f7d"), looks := false }, kinds := [], alts := [], laidByText := true, laidKinds := [.data], laidTests := true, laidLooks := .later }
def QlexWordsCardSaid : Prop := Claim7.holds Tryd.pinned (.plain (OpenSpec.ofChange qlexWordsSpec)) qlexWordsCard

/-- THE TIED CARD OF 'datakitlaw37.BuiltinNames'. -/
def builtinNamesCard : Claim7 := { stood := { row := builtinNamesRow, standIns := [], harness := (true, "41fe893ad1bbb624679d48fab2f23ba1e94356305febb523f204b24127709f7d"), looks := false }, kinds := [], alts := [], laidByText := true, laidKinds := [.listed, .data], laidTests := true, laidLooks := .later }
def BuiltinNamesCardSaid : Prop := Claim7.holds Tryd.pinned (.plain (OpenSpec.ofChange builtinNamesSpec)) builtinNamesCard

/-- THE TIED CARD OF 'datakitlaw35.QlexWhole'. -/
def qlexWholeCard : Claim7 := { stood := { row := qlexWholeRow, standIns := [], harness := (true, "41fe893ad1bbb624679d48fab2f23ba1e94356305febb523f204b24127709f7d"), looks := false }, kinds := [], alts := [], laidByText := true, laidKinds := [.data, .pinned], laidTests := true, laidLooks := .later }
def QlexWholeCardSaid : Prop := Claim7.holds Tryd.pinned (.plain (OpenSpec.ofChange qlexWholeSpec)) qlexWholeCard

/-- THE TIED CARD OF 'datakitlaw35.QlexBack'. -/
def qlexBackCard : Claim7 := { stood := { row := qlexBackRow, standIns := [], harness := (true, "41fe893ad1bbb624679d48fab2f23ba1e94356305febb523f204b24127709f7d"), looks := false }, kinds := [], alts := [], laidByText := true, laidKinds := [.data, .pinned], laidTests := true, laidLooks := .later }
def QlexBackCardSaid : Prop := Claim7.holds Tryd.pinned (.plain (OpenSpec.ofChange qlexBackSpec)) qlexBackCard

/-- THE SECOND FORM's CARD OF 'datakitlaw35.QlexWords'. -/
def qlexWordsUptoCard : Claim7 := { stood := { row := qlexWordsUptoRow, standIns := [], harness := (true, "41fe893ad1bbb624679d48fab2f23ba1e94356305febb523f204b24127709f7d"), looks := false }, kinds := [], alts := [], laidByText := true, laidKinds := [.data], laidTests := true, laidLooks := .later }
def QlexWordsUptoCardSaid : Prop := Claim7.holds Tryd.pinned (.plain (OpenSpec.upto qlexWordsSpec)) qlexWordsUptoCard

/-- THE SECOND FORM's CARD OF 'datakitlaw37.BuiltinNames'. -/
def builtinNamesUptoCard : Claim7 := { stood := { row := builtinNamesUptoRow, standIns := [], harness := (true, "41fe893ad1bbb624679d48fab2f23ba1e94356305febb523f204b24127709f7d"), looks := false }, kinds := [], alts := [], laidByText := true, laidKinds := [.listed, .data], laidTests := true, laidLooks := .later }
def BuiltinNamesUptoCardSaid : Prop := Claim7.holds Tryd.pinned (.plain (OpenSpec.upto builtinNamesSpec)) builtinNamesUptoCard

/-- THE SECOND FORM's CARD OF 'datakitlaw35.QlexWhole'. -/
def qlexWholeUptoCard : Claim7 := { stood := { row := qlexWholeUptoRow, standIns := [], harness := (true, "41fe893ad1bbb624679d48fab2f23ba1e94356305febb523f204b24127709f7d"), looks := false }, kinds := [], alts := [], laidByText := true, laidKinds := [.data, .pinned], laidTests := true, laidLooks := .later }
def QlexWholeUptoCardSaid : Prop := Claim7.holds Tryd.pinned (.plain (OpenSpec.upto qlexWholeSpec)) qlexWholeUptoCard

/-- THE SECOND FORM's CARD OF 'datakitlaw35.QlexBack'. -/
def qlexBackUptoCard : Claim7 := { stood := { row := qlexBackUptoRow, standIns := [], harness := (true, "41fe893ad1bbb624679d48fab2f23ba1e94356305febb523f204b24127709f7d"), looks := false }, kinds := [], alts := [], laidByText := true, laidKinds := [.data, .pinned], laidTests := true, laidLooks := .later }
def QlexBackUptoCardSaid : Prop := Claim7.holds Tryd.pinned (.plain (OpenSpec.upto qlexBackSpec)) qlexBackUptoCard
end Rows
end Go.Proofs.YtbpdbmjfnbpihaaDoor
