/- Closed facts of the row of BuiltinJoins. -/
import Derived.Test.YtagkjofpncpcpaaGreatDoorRows
import Derived.ProofKit
namespace Go.Proofs.YtagkjofpncpcpaaGreatDoor
theorem jk13:((Rows.builtinJoinsRow.named==Tryz.pinned.checked.prog.varsNamed 5))=true:=by kernel_rfl
theorem jk14:((Rows.builtinJoinsRow.maps==(Tryz.f5.params.toList++Rows.builtinJoinsSpec.plain.varTypes Tryz.pinned.checked.prog).any (Tryz.pinned.checked.prog.mapsRec ·)))=true:=by kernel_rfl
theorem jk15:((Rows.builtinJoinsRow.ifaces==(Tryz.f5.params.toList++Rows.builtinJoinsSpec.plain.varTypes Tryz.pinned.checked.prog).any (Tryz.pinned.checked.prog.ifacesRec ·)))=true:=by kernel_rfl
theorem jk16:((Rows.builtinJoinsRow.mapsOut==Tryz.pinned.checked.prog.mapsAmong Tryz.f5.resultTypes.toList))=true:=by kernel_rfl
theorem jk17:((Rows.builtinJoinsRow.loops==(Tryz.f5.params.toList++Rows.builtinJoinsSpec.plain.varTypes Tryz.pinned.checked.prog).any (Tryz.pinned.checked.prog.loopsFrom ·)))=true:=by kernel_rfl
theorem jk18:((Rows.builtinJoinsRow.wideKeys==(Tryz.f5.params.toList++Rows.builtinJoinsSpec.plain.varTypes Tryz.pinned.checked.prog++Tryz.f5.resultTypes.toList).any (Tryz.pinned.checked.prog.wideKeysFrom ·)))=true:=by kernel_rfl
theorem jk19:(Rows.builtinJoinsSpec.vars.all (Tryz.pinned.checked.prog.varReadable ·))=true:=by kernel_rfl
theorem jk20:(Tryz.f5.resultTypes.all (fun t=>Tryz.pinned.checked.prog.readableRec t&&decide (t<Tryz.pinned.checked.prog.types.size)))=true:=by kernel_rfl
theorem jk21:((Rows.builtinJoinsRow.ifacesOut==Tryz.f5.resultTypes.toList.any (Tryz.pinned.checked.prog.ifacesRec ·)))=true:=by kernel_rfl
theorem jk22:((Rows.builtinJoinsRow.loopsOut==Tryz.f5.resultTypes.toList.any (Tryz.pinned.checked.prog.loopsFrom ·)))=true:=by kernel_rfl
theorem jk23:((Rows.builtinJoinsRow.plainKeys==Tryz.pinned.checked.prog.plainKeys))=true:=by kernel_rfl
theorem jk24:(Rows.builtinJoinsRow.shortTexts.isNone)=true:=by kernel_rfl
theorem jk25:(Tryz.pinned.checked.prog.stopsHeard)=true:=by kernel_rfl
theorem jk26:(Tryz.pinned.checked.prog.mayEnter)=true:=by kernel_rfl
theorem jk27:((Rows.builtinJoinsRow.lifted==Tryz.pinned.checked.prog.liftsFinal))=true:=by kernel_rfl
theorem jk28:((Tryz.pinned.checked.prog.make==some Rows.builtinJoinsRow.make))=true:=by kernel_rfl
theorem jk29:((Rows.builtinJoinsRow.kinds==(if Rows.builtinJoinsRow.domain.isEmpty then [] else Tryz.f5.params.toList.map fun t=>match Tryz.pinned.checked.prog.underlying t with | some (.int k)=>some k | _=>none)))=true:=by kernel_rfl
theorem jk30:((Rows.builtinJoinsRow.pinned==Rows.builtinJoinsRow.pinnedBy))=true:=by kernel_rfl
theorem jk31:((Rows.builtinJoinsRow.veiled==(Tryz.f5.params.toList++Rows.builtinJoinsSpec.plain.varTypes Tryz.pinned.checked.prog++Tryz.f5.resultTypes.toList).any (Tryz.pinned.checked.prog.veiledRec ·)))=true:=by kernel_rfl
theorem jk32:(Rows.builtinJoinsRow.veiledFits Tryz.pinned.checked.prog Tryz.f5.params.toList (Tryz.f5.params.toList++Rows.builtinJoinsSpec.plain.varTypes Tryz.pinned.checked.prog++Tryz.f5.resultTypes.toList))=true:=by kernel_rfl
end Go.Proofs.YtagkjofpncpcpaaGreatDoor
