/- Closed facts of the row of BuiltinJoins. -/
import Derived.Test.YtagkjofpncpcpaaGreatDoorRows
import Derived.ProofKit
namespace Go.Proofs.YtagkjofpncpcpaaGreatDoor
theorem jk1:(Rows.builtinJoinsRow.wf (OpenSpec.ofChange Rows.builtinJoinsSpec))=true:=by kernel_rfl
theorem jk2:(laidOutB Tryz.pinned.checked.prog)=true:=by kernel_rfl
theorem jk3:(mapsRowed Tryz.pinned.checked.prog)=true:=by kernel_rfl
theorem jk4:(Tryz.f5.params.all (Tryz.pinned.checked.prog.readableRec ·))=true:=by kernel_rfl
theorem jk5:(namedTie Tryz.pinned.checked.prog Rows.builtinJoinsRow.named Rows.builtinJoinsSpec.vars)=true:=by kernel_rfl
theorem jk6:((Rows.builtinJoinsRow.stops==[]))=true:=by kernel_rfl
theorem jk7:((Tryz.pinned.checked.prog.stops==[]))=true:=by kernel_rfl
theorem jk8:((Rows.builtinJoinsRow.knobs==[]))=true:=by kernel_rfl
theorem jk9:((Tryz.pinned.checked.prog.stopKnobs==[]))=true:=by kernel_rfl
theorem jk10:((Rows.builtinJoinsRow.inPlace==Tryz.pinned.checked.prog.inPlace 5))=true:=by kernel_rfl
theorem jk11:((Rows.builtinJoinsRow.unfollowed==Tryz.pinned.checked.prog.unfollowed 5))=true:=by kernel_rfl
theorem jk12:((Rows.builtinJoinsRow.recurses==Tryz.pinned.checked.prog.recurses 5))=true:=by kernel_rfl
end Go.Proofs.YtagkjofpncpcpaaGreatDoor
