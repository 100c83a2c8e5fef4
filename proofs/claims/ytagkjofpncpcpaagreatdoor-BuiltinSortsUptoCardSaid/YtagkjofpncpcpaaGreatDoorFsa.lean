/- Closed facts of the row of BuiltinSorts. -/
import Derived.Test.YtagkjofpncpcpaaGreatDoorRows
import Derived.ProofKit
namespace Go.Proofs.YtagkjofpncpcpaaGreatDoor
theorem jk1:(Rows.builtinSortsUptoRow.wf (OpenSpec.ofChange (Rows.OpenSpec.upto Rows.builtinSortsSpec).bare))=true:=by kernel_rfl
theorem jk2:(laidOutB Tryz.pinned.checked.prog)=true:=by kernel_rfl
theorem jk3:(mapsRowed Tryz.pinned.checked.prog)=true:=by kernel_rfl
theorem jk4:(Tryz.f3.params.all (Tryz.pinned.checked.prog.readableRec ·))=true:=by kernel_rfl
theorem jk5:(namedTie Tryz.pinned.checked.prog Rows.builtinSortsUptoRow.named (Rows.OpenSpec.upto Rows.builtinSortsSpec).bare.vars)=true:=by kernel_rfl
theorem jk6:((Rows.builtinSortsUptoRow.stops==[]))=true:=by kernel_rfl
theorem jk7:((Tryz.pinned.checked.prog.stops==[]))=true:=by kernel_rfl
theorem jk8:((Rows.builtinSortsUptoRow.knobs==[]))=true:=by kernel_rfl
theorem jk9:((Tryz.pinned.checked.prog.stopKnobs==[]))=true:=by kernel_rfl
theorem jk10:((Rows.builtinSortsUptoRow.inPlace==Tryz.pinned.checked.prog.inPlace 3))=true:=by kernel_rfl
theorem jk11:((Rows.builtinSortsUptoRow.unfollowed==Tryz.pinned.checked.prog.unfollowed 3))=true:=by kernel_rfl
theorem jk12:((Rows.builtinSortsUptoRow.recurses==Tryz.pinned.checked.prog.recurses 3))=true:=by kernel_rfl
end Go.Proofs.YtagkjofpncpcpaaGreatDoor
