/- The closed facts of the row of BuiltinSorts, joined. -/
import Derived.Test.YtagkjofpncpcpaaGreatDoorFsa
import Derived.Test.YtagkjofpncpcpaaGreatDoorFsb
namespace Go.Proofs.YtagkjofpncpcpaaGreatDoor
theorem jandT {a b:Bool} (h:a=true) (k:b=true):(a&&b)=true:=by rw [h,k];rfl
set_option maxRecDepth 100000 in
theorem jclosed:joinedFacts Tryz.pinned.checked.prog 3 Tryz.f3 (Rows.OpenSpec.upto Rows.builtinSortsSpec).bare Rows.builtinSortsUptoRow=true:=(jandT (jandT (jandT (jandT (jandT (jandT (jandT (jandT (jandT (jandT (jandT (jandT (jandT (jandT (jandT (jandT (jandT (jandT (jandT (jandT (jandT (jandT (jandT (jandT (jandT (jandT (jandT (jandT (jandT (jandT (jandT jk1 jk2) jk3) jk4) jk5) jk6) jk7) jk8) jk9) jk10) jk11) jk12) jk13) jk14) jk15) jk16) jk17) jk18) jk19) jk20) jk21) jk22) jk23) jk24) jk25) jk26) jk27) jk28) jk29) jk30) jk31) jk32)
end Go.Proofs.YtagkjofpncpcpaaGreatDoor
