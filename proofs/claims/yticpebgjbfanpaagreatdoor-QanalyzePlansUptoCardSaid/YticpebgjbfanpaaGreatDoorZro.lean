/- The zero value is valid;so is the value of a node that is as its operator asks,but for a literal's. No program here. -/
import Derived.Test.YticpebgjbfanpaaGreatDoorGG
import Derived.Test.YticpebgjbfanpaaGreatDoorGW
namespace Go.Proofs.YticpebgjbfanpaaGreatDoor
open Go.RowKit
theorem zero_chk {v:ValD} (h:zeroB v=true):chkD v=0:=by
 obtain ⟨h0,h1,h2,h3,h4,h5,h6,h7⟩:=of_decide_eq_true h
 have ht:v.text.toList=[]:=toList_nil h4
 have ho:ownB v=true:=(ownB_iff v).2 ⟨by omega,by omega,fun _=>h1,fun _=>h2,fun _=>h3,fun _=>ht,fun _=>by omega,fun _=>by omega,fun _=>by omega⟩
 have hl:v.list=[]:=List.length_eq_zero_iff.1 h6
 have hf:v.fields=[]:=List.length_eq_zero_iff.1 h7
 have hq:¬ (vdecB v.num=false∨(v.kind=3∧vtimeB v.time=false)):=by
  rw [vdec_zero h2]
  rintro (h | ⟨h,_⟩)
  ·cases h
  ·omega
 have h8:oneE v=0:=by
  rw [oneE_k ho hq (valid_empty h4) (by omega)]
  unfold keyD
  rw [hf]
  rfl
 unfold chkD
 rw [show lookD 48 v 0=if (65536:Int)≤0 then (0,10) else if oneE v=0 then kidsL (lookD 47) (kidsD v) (0+1) else (0,oneE v) from rfl,if_neg (by omega),if_pos h8,own_parts ho,hl,hf]
 rfl
theorem form_val {e:ExprD} (h:formB e=true) (h3:e.op≠3):chkD e.val=0:=by
 obtain ⟨_,_,_,_,_,_,_,_,hz,_⟩:=of_decide_eq_true h
 rcases hz with hz | hz
 ·exact absurd hz h3
 ·exact zero_chk hz
end Go.Proofs.YticpebgjbfanpaaGreatDoor
