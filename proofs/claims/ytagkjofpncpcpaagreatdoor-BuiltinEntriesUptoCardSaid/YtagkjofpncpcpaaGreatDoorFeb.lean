/- Closed facts of the row of BuiltinEntries. -/
import Derived.Test.YtagkjofpncpcpaaGreatDoorRows
import Derived.ProofKit
namespace Go.Proofs.YtagkjofpncpcpaaGreatDoor
theorem jk13:((Rows.builtinEntriesUptoRow.named==Tryz.pinned.checked.prog.varsNamed 4))=true:=by kernel_rfl
theorem jk14:((Rows.builtinEntriesUptoRow.maps==(Tryz.f4.params.toList++(Rows.OpenSpec.upto Rows.builtinEntriesSpec).bare.plain.varTypes Tryz.pinned.checked.prog).any (Tryz.pinned.checked.prog.mapsRec ·)))=true:=by kernel_rfl
theorem jk15:((Rows.builtinEntriesUptoRow.ifaces==(Tryz.f4.params.toList++(Rows.OpenSpec.upto Rows.builtinEntriesSpec).bare.plain.varTypes Tryz.pinned.checked.prog).any (Tryz.pinned.checked.prog.ifacesRec ·)))=true:=by kernel_rfl
theorem jk16:((Rows.builtinEntriesUptoRow.mapsOut==Tryz.pinned.checked.prog.mapsAmong Tryz.f4.resultTypes.toList))=true:=by kernel_rfl
theorem jk17:((Rows.builtinEntriesUptoRow.loops==(Tryz.f4.params.toList++(Rows.OpenSpec.upto Rows.builtinEntriesSpec).bare.plain.varTypes Tryz.pinned.checked.prog).any (Tryz.pinned.checked.prog.loopsFrom ·)))=true:=by kernel_rfl
theorem jk18:((Rows.builtinEntriesUptoRow.wideKeys==(Tryz.f4.params.toList++(Rows.OpenSpec.upto Rows.builtinEntriesSpec).bare.plain.varTypes Tryz.pinned.checked.prog++Tryz.f4.resultTypes.toList).any (Tryz.pinned.checked.prog.wideKeysFrom ·)))=true:=by kernel_rfl
theorem jk19:((Rows.OpenSpec.upto Rows.builtinEntriesSpec).bare.vars.all (Tryz.pinned.checked.prog.varReadable ·))=true:=by kernel_rfl
theorem jk20:(Tryz.f4.resultTypes.all (fun t=>Tryz.pinned.checked.prog.readableRec t&&decide (t<Tryz.pinned.checked.prog.types.size)))=true:=by kernel_rfl
theorem jk21:((Rows.builtinEntriesUptoRow.ifacesOut==Tryz.f4.resultTypes.toList.any (Tryz.pinned.checked.prog.ifacesRec ·)))=true:=by kernel_rfl
theorem jk22:((Rows.builtinEntriesUptoRow.loopsOut==Tryz.f4.resultTypes.toList.any (Tryz.pinned.checked.prog.loopsFrom ·)))=true:=by kernel_rfl
theorem jk23:((Rows.builtinEntriesUptoRow.plainKeys==Tryz.pinned.checked.prog.plainKeys))=true:=by kernel_rfl
theorem jk24:(Rows.builtinEntriesUptoRow.shortTexts.isNone)=true:=by kernel_rfl
theorem jk25:(Tryz.pinned.checked.prog.stopsHeard)=true:=by kernel_rfl
theorem jk26:(Tryz.pinned.checked.prog.mayEnter)=true:=by kernel_rfl
theorem jk27:((Rows.builtinEntriesUptoRow.lifted==Tryz.pinned.checked.prog.liftsFinal))=true:=by kernel_rfl
theorem jk28:((Tryz.pinned.checked.prog.make==some Rows.builtinEntriesUptoRow.make))=true:=by kernel_rfl
theorem jk29:((Rows.builtinEntriesUptoRow.kinds==(if Rows.builtinEntriesUptoRow.domain.isEmpty then [] else Tryz.f4.params.toList.map fun t=>match Tryz.pinned.checked.prog.underlying t with | some (.int k)=>some k | _=>none)))=true:=by kernel_rfl
theorem jk30:((Rows.builtinEntriesUptoRow.pinned==Rows.builtinEntriesUptoRow.pinnedBy))=true:=by kernel_rfl
theorem jk31:((Rows.builtinEntriesUptoRow.veiled==(Tryz.f4.params.toList++(Rows.OpenSpec.upto Rows.builtinEntriesSpec).bare.plain.varTypes Tryz.pinned.checked.prog++Tryz.f4.resultTypes.toList).any (Tryz.pinned.checked.prog.veiledRec ·)))=true:=by kernel_rfl
theorem jk32:(Rows.builtinEntriesUptoRow.veiledFits Tryz.pinned.checked.prog Tryz.f4.params.toList (Tryz.f4.params.toList++(Rows.OpenSpec.upto Rows.builtinEntriesSpec).bare.plain.varTypes Tryz.pinned.checked.prog++Tryz.f4.resultTypes.toList))=true:=by kernel_rfl
end Go.Proofs.YtagkjofpncpcpaaGreatDoor
