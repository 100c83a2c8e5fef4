/- Closed facts of the row and of the card of BuiltinSorts. -/
import Derived.Test.YtagkjofpncpcpaaGreatDoorRows
import Derived.ProofKit
import Derived.SevenTiedAt
namespace Go.Proofs.YtagkjofpncpcpaaGreatDoor
theorem jnamed:Tryz.pinned.checked.prog.funcNamed Rows.builtinSortsUptoRow.func=some 3:=by kernel_rfl
theorem jinst:Tryz.f3.isInstance Tryz.pinned.checked.prog Rows.builtinSortsUptoRow.origin Rows.builtinSortsUptoRow.targs:=of_decide_eq_true (by kernel_rfl)
theorem jwrap:Tryz.f3.isWrapper Tryz.pinned.checked.prog Rows.builtinSortsUptoRow.wrapper Rows.builtinSortsUptoRow.mainSum:=by unfold Func.isWrapper;first | (rw [if_pos (by decide +kernel)];kernel_rfl) | (rw [if_neg (by decide +kernel)];exact ⟨rfl,rfl⟩)
theorem jbyText:Rows.builtinSortsUptoRow.wfByText (Rows.OpenSpec.upto Rows.builtinSortsSpec)=true:=by kernel_rfl
theorem jgoes:false=Rows.builtinSortsUptoRow.goesBy Tryz.pinned.checked.prog:=by kernel_rfl
theorem jlooks:true=Tryz.pinned.checked.prog.looks []:=by kernel_rfl
theorem jmain : Tryz.pinned.checked.prog.mainIs = some (true, "fef05286fa9f86435fb10662b43e579e9a3a5485f2208009ac5de32a12aa63c0".toList) := by kernel_rfl
end Go.Proofs.YtagkjofpncpcpaaGreatDoor
