/- Closed facts of the row of BuiltinSorts. -/
import Derived.Test.YtagkjofpncpcpaaGreatDoorRows
import Derived.ProofKit
namespace Go.Proofs.YtagkjofpncpcpaaGreatDoor
theorem jk13:((Rows.builtinSortsUptoRow.named==Tryz.pinned.checked.prog.varsNamed 3))=true:=by kernel_rfl
theorem jk14:((Rows.builtinSortsUptoRow.maps==(Tryz.f3.params.toList++(Rows.OpenSpec.upto Rows.builtinSortsSpec).bare.plain.varTypes Tryz.pinned.checked.prog).any (Tryz.pinned.checked.prog.mapsRec ·)))=true:=by kernel_rfl
theorem jk15:((Rows.builtinSortsUptoRow.ifaces==(Tryz.f3.params.toList++(Rows.OpenSpec.upto Rows.builtinSortsSpec).bare.plain.varTypes Tryz.pinned.checked.prog).any (Tryz.pinned.checked.prog.ifacesRec ·)))=true:=by kernel_rfl
theorem jk16:((Rows.builtinSortsUptoRow.mapsOut==Tryz.pinned.checked.prog.mapsAmong Tryz.f3.resultTypes.toList))=true:=by kernel_rfl
theorem jk17:((Rows.builtinSortsUptoRow.loops==(Tryz.f3.params.toList++(Rows.OpenSpec.upto Rows.builtinSortsSpec).bare.plain.varTypes Tryz.pinned.checked.prog).any (Tryz.pinned.checked.prog.loopsFrom ·)))=true:=by kernel_rfl
theorem jk18:((Rows.builtinSortsUptoRow.wideKeys==(Tryz.f3.params.toList++(Rows.OpenSpec.upto Rows.builtinSortsSpec).bare.plain.varTypes Tryz.pinned.checked.prog++Tryz.f3.resultTypes.toList).any (Tryz.pinned.checked.prog.wideKeysFrom ·)))=true:=by kernel_rfl
theorem jk19:((Rows.OpenSpec.upto Rows.builtinSortsSpec).bare.vars.all (Tryz.pinned.checked.prog.varReadable ·))=true:=by kernel_rfl
theorem jk20:(Tryz.f3.resultTypes.all (fun t=>Tryz.pinned.checked.prog.readableRec t&&decide (t<Tryz.pinned.checked.prog.types.size)))=true:=by kernel_rfl
theorem jk21:((Rows.builtinSortsUptoRow.ifacesOut==Tryz.f3.resultTypes.toList.any (Tryz.pinned.checked.prog.ifacesRec ·)))=true:=by kernel_rfl
theorem jk22:((Rows.builtinSortsUptoRow.loopsOut==Tryz.f3.resultTypes.toList.any (Tryz.pinned.checked.prog.loopsFrom ·)))=true:=by kernel_rfl
theorem jk23:((Rows.builtinSortsUptoRow.plainKeys==Tryz.pinned.checked.prog.plainKeys))=true:=by kernel_rfl
theorem jk24:(Rows.builtinSortsUptoRow.shortTexts.isNone)=true:=by kernel_rfl
theorem jk25:(Tryz.pinned.checked.prog.stopsHeard)=true:=by kernel_rfl
theorem jk26:(Tryz.pinned.checked.prog.mayEnter)=true:=by kernel_rfl
theorem jk27:((Rows.builtinSortsUptoRow.lifted==Tryz.pinned.checked.prog.liftsFinal))=true:=by kernel_rfl
theorem jk28:((Tryz.pinned.checked.prog.make==some Rows.builtinSortsUptoRow.make))=true:=by kernel_rfl
theorem jk29:((Rows.builtinSortsUptoRow.kinds==(if Rows.builtinSortsUptoRow.domain.isEmpty then [] else Tryz.f3.params.toList.map fun t=>match Tryz.pinned.checked.prog.underlying t with | some (.int k)=>some k | _=>none)))=true:=by kernel_rfl
theorem jk30:((Rows.builtinSortsUptoRow.pinned==Rows.builtinSortsUptoRow.pinnedBy))=true:=by kernel_rfl
theorem jk31:((Rows.builtinSortsUptoRow.veiled==(Tryz.f3.params.toList++(Rows.OpenSpec.upto Rows.builtinSortsSpec).bare.plain.varTypes Tryz.pinned.checked.prog++Tryz.f3.resultTypes.toList).any (Tryz.pinned.checked.prog.veiledRec ·)))=true:=by kernel_rfl
theorem jk32:(Rows.builtinSortsUptoRow.veiledFits Tryz.pinned.checked.prog Tryz.f3.params.toList (Tryz.f3.params.toList++(Rows.OpenSpec.upto Rows.builtinSortsSpec).bare.plain.varTypes Tryz.pinned.checked.prog++Tryz.f3.resultTypes.toList))=true:=by kernel_rfl
end Go.Proofs.YtagkjofpncpcpaaGreatDoor
