/- Small laws for the check of values: a counter behind a pointer, the parts of a value. -/
import Derived.Test.YtagkjofpncpcpaaGreatDoorProg
import Derived.Test.YtagkjofpncpcpaaGreatDoorGA
import Derived.Test.YtagkjofpncpcpaaGreatDoorGB
import Derived.Test.YtagkjofpncpcpaaGreatDoorGF
import Derived.Test.YtagkjofpncpcpaaGreatDoorHQ
namespace Go.Proofs.YtagkjofpncpcpaaGreatDoor
open Go.RowKit
structure FB (pb:Nat) (w w':World):Prop where
 os:w'.os=w.os
 tape:w'.tape=w.tape
 output:w'.output=w.output
 size:w.heap.size≤w'.heap.size
 block:∀ k,k<w.heap.size→k≠pb→w'.heap[k]?=w.heap[k]?
theorem FB.refl (pb:Nat) (w:World):FB pb w w:=⟨rfl,rfl,rfl,Nat.le_refl _,fun _ _ _=>rfl⟩
theorem FB.trans {pb:Nat} {a b c:World} (h:FB pb a b) (k:FB pb b c):FB pb a c :=
 ⟨k.os.trans h.os,k.tape.trans h.tape,k.output.trans h.output,Nat.le_trans h.size k.size,fun i hi hn=>(k.block i (Nat.lt_of_lt_of_le hi h.size) hn).trans (h.block i hi hn)⟩
theorem FB.of_below {pb:Nat} {a b:World} (h:Below a.heap.size a b):FB pb a b:=⟨h.os,h.tape,h.output,h.size,fun k hk _=>h.block k hk⟩
theorem FB.setCell {pb:Nat} (a:World) (o:Nat) (u:Value):FB pb a (a.setCell ⟨pb,o,none⟩ u):=⟨rfl,rfl,rfl,by simp,fun k _ hn=>heap_setCell_other a _ k u hn⟩
theorem FB.below {pb B:Nat} {a b:World} (h:FB pb a b) (hB:B≤pb) (hs:B≤a.heap.size):Below B a b:=⟨h.os,h.tape,h.output,h.size,fun k hk=>h.block k (by omega) (by omega)⟩
theorem FB.cells {pb b o:Nat} {a c:World} {cs:List Value} (h:FB pb a c) (hc:CellsAt a b o cs) (hb:b<a.heap.size) (hn:b≠pb):CellsAt c b o cs:=fun j hj=>by
 rw [← hc j hj]
 simp only [World.cell?]
 rw [h.block b hb hn]
def CellI (w:World) (pb:Nat) (x:Int):Prop:=w.heap[pb]?=some (.cells #[.int .i64 x] 3 (0,0))
theorem CellI.cell {w:World} {pb:Nat} {x:Int} (h:CellI w pb x):w.cell? ⟨pb,0,none⟩=some (.int .i64 x):=by rw [cell_of_row w pb 0 _ _ _ h];rfl
theorem CellI.frozen {w:World} {pb:Nat} {x:Int} (h:CellI w pb x):w.frozen? ⟨pb,0,none⟩=false:=frozen_of_row w pb 0 _ _ h
theorem CellI.lt {w:World} {pb:Nat} {x:Int} (h:CellI w pb x):pb<w.heap.size:=by
 rcases Nat.lt_or_ge pb w.heap.size with hlt | hge
 ·exact hlt
 ·unfold CellI at h;rw [Array.getElem?_eq_none hge] at h;cases h
theorem CellI.below {w w':World} {pb:Nat} {x:Int} (h:CellI w pb x) (hb:Below w.heap.size w w'):CellI w' pb x:=(hb.block pb h.lt).trans h
theorem CellI.set {w:World} {pb:Nat} {x:Int} (y:Int) (h:CellI w pb x):CellI (w.setCell ⟨pb,0,none⟩ (.int .i64 y)) pb y:=by
 unfold CellI
 rw [heap_setCell_same w pb 0 _ _ _ h]
 rfl
theorem own_parts {v:ValD} (h:ownB v=true):kidsD v=v.list++v.fields.map (·.2):=by
 obtain ⟨_,_,_,_,_,_,_,h6,h7⟩:=(ownB_iff v).1 h
 unfold kidsD
 by_cases hk:v.kind=7
 ·rw [if_pos hk]
  have:v.list=[]:=List.length_eq_zero_iff.1 (by have:=h6 (by omega);omega)
  rw [this]
  rfl
 ·rw [if_neg hk]
  have:v.fields=[]:=List.length_eq_zero_iff.1 (by have:=h7 hk;omega)
  rw [this]
  simp
theorem drop_list {v:ValD} {k:Nat} (h:k<v.list.length):(v.list++v.fields.map (·.2)).drop k=v.list[k]::(v.list++v.fields.map (·.2)).drop (k+1):=by
 rw [List.drop_eq_getElem_cons (by simp;omega),List.getElem_append_left h]
theorem drop_fields {v:ValD} {k:Nat} (h:k<v.fields.length):(v.list++v.fields.map (·.2)).drop (v.list.length+k)=v.fields[k].2::(v.list++v.fields.map (·.2)).drop (v.list.length+(k+1)):=by
 rw [List.drop_eq_getElem_cons (by simp;omega),List.getElem_append_right (by omega)]
 congr 1
 simp
theorem drop_all (v:ValD):(v.list++v.fields.map (·.2)).drop (v.list.length+v.fields.length)=[]:=List.drop_eq_nil_of_le (by simp)
theorem wpList_load_mid_g' {P:Program} {ops:Array Oper} {rest:List Oper} {op:Oper} {a:Act} {w:World} {Q:Exit→Act→World→Prop} (hw:Region.wanted op (yielded ops a.tmps)=true) (ty:TypeId) (x:Operand) (ho:op.op=.load ty x)
 (b o:Nat) (hx:a.eval x=.pointer (some ⟨b,o,none⟩)) (cs:List Value) (d:TypeDesc) (hc:w.rangeAt b o cs)
 (hu:P.underlying ty=some d) (hd:d.isRow=true) (hi:(P.info? ty).map (·.size)=some cs.length)
 (h:wpList P ops Q rest (a.put op.dst (.agg cs.toArray)) w):wpList P ops Q (op::rest) a w :=
 wpList_step fun K hK=>by rw [if_pos hw];exact wp_load_mid ty x ho b o hx cs d hc hu hd hi (hK _ _ h)
def ChkX (pb:Nat) (r:Int×Int) (w:World) (e:Ending) (w':World):Prop:=e=.returned (.int .i64 r.2)∧FB pb w w'∧∃ x,CellI w' pb x∧(r.2=0→x=r.1)
theorem chk_end {pb:Nat} {y z n:Int} {w w':World} (hz:z≠0) (hf:FB pb w w') (hc:CellI w' pb n):ChkX pb (y,z) w (.returned (.int .i64 z)) w':=⟨rfl,hf,n,hc,fun h=>absurd h hz⟩
end Go.Proofs.YtagkjofpncpcpaaGreatDoor
