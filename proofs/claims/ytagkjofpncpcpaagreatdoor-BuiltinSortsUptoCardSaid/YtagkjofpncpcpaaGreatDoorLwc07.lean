/- The law BuiltinCompares: it says yes, of values that lie in memory. -/
import Derived.Test.YtagkjofpncpcpaaGreatDoorProg
import Derived.Test.YtagkjofpncpcpaaGreatDoorGA
import Derived.Test.YtagkjofpncpcpaaGreatDoorGB
import Derived.Test.YtagkjofpncpcpaaGreatDoorGC
import Derived.Test.YtagkjofpncpcpaaGreatDoorGF
import Derived.Test.YtagkjofpncpcpaaGreatDoorGW
import Derived.Laws.CopyRow
import Derived.Lib.Bytealg
import Derived.StillTailTactics
import Derived.Deep.DeepCutAuto
import Derived.Great.BuildSlice
import Derived.Sort.Walk0
import Derived.Deep.DeepMust
import Derived.Laws.BytesString
namespace Go.Proofs.YtagkjofpncpcpaaGreatDoor
open Go.RowKit
theorem wpList_load_mid_g {P:Program} {ops:Array Oper} {rest:List Oper} {op:Oper} {a:Act} {w:World} {Q:Exit→Act→World→Prop} (hw:Region.wanted op (yielded ops a.tmps)=true) (ty:TypeId) (x:Operand) (ho:op.op=.load ty x)
 (b o:Nat) (hx:a.eval x=.pointer (some ⟨b,o,none⟩)) (cs:List Value) (d:TypeDesc) (hc:w.rangeAt b o cs)
 (hu:P.underlying ty=some d) (hd:d.isRow=true) (hi:(P.info? ty).map (·.size)=some cs.length)
 (h:wpList P ops Q rest (a.put op.dst (.agg cs.toArray)) w):wpList P ops Q (op::rest) a w :=
 wpList_step fun K hK=>by rw [if_pos hw];exact wp_load_mid ty x ho b o hx cs d hc hu hd hi (hK _ _ h)
def VlxR (v:ValD) (w:World) (e:Ending) (w':World):Prop:=∃ b,e=.returned (.bool b)∧(b=true→fitsV 60 v∧chkD v=0)∧Below w.heap.size w w'
set_option maxRecDepth 100000 in
set_option maxHeartbeats 1600000 in
theorem valid37x (v:ValD) (w:World) (B N:Nat) (cs:List Value) (hN:N≤4294967296) (hB:B≤w.heap.size) (hv:ValD.At w B N v cs):Calls Tryz.prog 6 #[.agg cs.toArray] w (VlxR v w):=by
 have HV:=Hd hv
 have hl:=Hd (show (Tryz.prog.info? 30).map (·.size)=some cs.length by rw [hv.len];exact sizeV)
 have H0:=Hd (show Below w.heap.size w (w.alloc (.cells cs.toArray 30)) from belowBox w _)
 clear hv
 go_enter Tryz.func6,Tryz.ntmps6
 go_wp2_with ((with_reducible show wpList _ _ _ (⟨some 3,_,_,_,_,_⟩::_) _ _);refine wpList_load_mid rfl 30 _ rfl w.heap.size 0 rfl cs _ (box_at w cs 30).range Tryz.underlying30 rfl hl.out ?_)
 refine (small_ex _ B N v cs (by omega) (Nat.le_trans hB H0.out.size) (HV.out.below (H0.out.mono hB))).mono ?_
 rintro e w1 ⟨b,rfl,hs,hb⟩
 have H1:=Hd (belowThen H0.out hb)
 have R1:=Hd ((box_at w cs 30).then hb (by rw [World.size_alloc];omega))
 cases b with
 | false =>
   clear hs hb
   go_wp2_with fail
   go_ret
   exact ⟨_,rfl,fun h=>(by cases h),H1.out⟩
 | true =>
   have HS:=Hd (hs rfl)
   clear hs hb
   go_wp2_with ((with_reducible show wpList _ _ _ (⟨some 6,_,_,_,_,_⟩::_) _ _);refine wpList_load_mid_g rfl 30 _ rfl w.heap.size 0 rfl cs _ R1.out.range Tryz.underlying30 rfl hl.out ?_)
   refine (check07_exact v _ B N cs hN (Nat.le_trans hB H1.out.size) (HV.out.below (H1.out.mono hB))).mono ?_
   rintro e w2 ⟨rfl,hb⟩
   obtain ⟨k,hk⟩:∃ k,chkD v=k:=⟨_,rfl⟩
   have HK:=Hd hk
   rw [hk]
   have H2:=Hd (belowThen H1.out hb)
   clear hk hb
   go_wp2_with fail
   go_ret
   refine ⟨_,rfl,fun h=>⟨HS.out,HK.out.trans ?_⟩,H2.out⟩
   simpa using h
end Go.Proofs.YtagkjofpncpcpaaGreatDoor
