/- Closed facts of the row of BuiltinEntries. -/
import Derived.Test.YtagkjofpncpcpaaGreatDoorRows
import Derived.ProofKit
namespace Go.Proofs.YtagkjofpncpcpaaGreatDoor
theorem jk1:(Rows.builtinEntriesUptoRow.wf (OpenSpec.ofChange (Rows.OpenSpec.upto Rows.builtinEntriesSpec).bare))=true:=by kernel_rfl
theorem jk2:(laidOutB Tryz.pinned.checked.prog)=true:=by kernel_rfl
theorem jk3:(mapsRowed Tryz.pinned.checked.prog)=true:=by kernel_rfl
theorem jk4:(Tryz.f4.params.all (Tryz.pinned.checked.prog.readableRec ·))=true:=by kernel_rfl
theorem jk5:(namedTie Tryz.pinned.checked.prog Rows.builtinEntriesUptoRow.named (Rows.OpenSpec.upto Rows.builtinEntriesSpec).bare.vars)=true:=by kernel_rfl
theorem jk6:((Rows.builtinEntriesUptoRow.stops==[]))=true:=by kernel_rfl
theorem jk7:((Tryz.pinned.checked.prog.stops==[]))=true:=by kernel_rfl
theorem jk8:((Rows.builtinEntriesUptoRow.knobs==[]))=true:=by kernel_rfl
theorem jk9:((Tryz.pinned.checked.prog.stopKnobs==[]))=true:=by kernel_rfl
theorem jk10:((Rows.builtinEntriesUptoRow.inPlace==Tryz.pinned.checked.prog.inPlace 4))=true:=by kernel_rfl
theorem jk11:((Rows.builtinEntriesUptoRow.unfollowed==Tryz.pinned.checked.prog.unfollowed 4))=true:=by kernel_rfl
theorem jk12:((Rows.builtinEntriesUptoRow.recurses==Tryz.pinned.checked.prog.recurses 4))=true:=by kernel_rfl
end Go.Proofs.YtagkjofpncpcpaaGreatDoor
