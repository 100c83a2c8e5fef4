/- Other closed facts of the row and the card, each a declaration of its own. -/
import Derived.Test.YtejkmmmdkapbjaaGreatDoorRows
import Derived.ProofKit
import Derived.SevenTiedAt
namespace Go.Proofs.YtejkmmmdkapbjaaGreatDoor.facts
theorem named : Tryz.pinned.checked.prog.funcNamed Rows.qvmNilRow.func = some 3 := by kernel_rfl
theorem inst : Tryz.f3.isInstance Tryz.pinned.checked.prog Rows.qvmNilRow.origin Rows.qvmNilRow.targs := of_decide_eq_true (by kernel_rfl)
theorem wrap : Tryz.f3.isWrapper Tryz.pinned.checked.prog Rows.qvmNilRow.wrapper Rows.qvmNilRow.mainSum := by unfold Func.isWrapper; first | (rw [if_pos (by decide +kernel)]; kernel_rfl) | (rw [if_neg (by decide +kernel)]; exact ⟨rfl, rfl⟩)
theorem byText : Rows.qvmNilRow.wfByText (OpenSpec.ofChange Rows.qvmNilSpec) = true := by kernel_rfl
theorem goes : false = Rows.qvmNilRow.goesBy Tryz.pinned.checked.prog := by kernel_rfl
theorem looks : true = Tryz.pinned.checked.prog.looks [] := by kernel_rfl
theorem main : Tryz.pinned.checked.prog.mainIs = some (true, "c6dbbf1e69d2037cd6464facd283e63b1754d93b4b91bfb2a2bdab72bad3274e".toList) := by kernel_rfl
end Go.Proofs.YtejkmmmdkapbjaaGreatDoor.facts
