/- Rows of any type that may be written: one cell, a part, all of it. -/
import Derived.Test.YtagkjofpncpcpaaGreatDoorProg
import Derived.Test.YtagkjofpncpcpaaGreatDoorGA
import Derived.Test.YtagkjofpncpcpaaGreatDoorGB
import Derived.Laws.CopyRow
import Derived.Shelf.Strings.OnBuilder
import Derived.Shelf.Strings.Trim
import Derived.Shelf.Small.Strs
import Derived.Shelf.Strings.Search3
import Derived.Shelf.Strings.Fields
import Derived.Shelf.Strings.Repeat
import Derived.Shelf.Slices.Turned
import Derived.Deep.AppendLies
import Derived.Lib.Repeat
import Derived.Laws.OwnMore
import Derived.Lib.SliceRun
import Derived.OrdersHeld
import Derived.Laws.CopyOwn
import Derived.Deep.WholeRow
namespace Go.Proofs.YtagkjofpncpcpaaGreatDoor
open Go.RowKit
theorem drewU (w:World):Below w.heap.size w w.drew:=⟨rfl,rfl,rfl,Nat.le_refl _,fun _ _=>rfl⟩
theorem wpAnyH_takeU {P:Program} {ops:Array Oper} {Q:Exit→Act→World→Prop} {md:Region.Mode} {S:World→Prop} {i:Nat} {oi:Oper} {v:Value} {fuel:Nat} {listed:Array Bool} {l:List Value} {df:List Deferred} {w:World} (t:Nat) (hi:ops[i]?=some oi) (hd:oi.dst=some t)
 (hs:Region.noSelect ops=true) (hf:Region.free md ops listed i=true) (hr:(Region.ready md ops listed).contains i=true)
 (hQ:∀ c a w,Q (.panic c) (a.put oi.dst v) w→Q (.panic c) a w) (hy:YieldsIf P ops S oi v ⟨l.toArray,df⟩) (hS:S w)
 (h:wpAnyH P md ops Q S fuel (listed.setIfInBounds i true) ⟨(l.set t v).toArray,df⟩ w):wpAnyH P md ops Q S (fuel+1) listed ⟨l.toArray,df⟩ w:=by
 refine wpAnyH_take hi hs hf hr hQ hy hS ?_
 have e:Act.put (⟨l.toArray,df⟩:Act) oi.dst v=⟨(l.set t v).toArray,df⟩:=by
  rw [hd]
  simp [Act.put]
 rw [e]
 exact h
def RowT (t:TypeId) (w:World) (b:Nat) (cs:List Value):Prop:=w.heap[b]?=some (.cells cs.toArray t (0,0))
theorem RowT.cell {t:TypeId} {w:World} {b j:Nat} {cs:List Value} {v:Value} (h:RowT t w b cs) (hv:cs[j]?=some v):w.cell? ⟨b,j,none⟩=some v:=by
 rw [cell_of_row w b j _ _ _ h];simpa using hv
theorem RowT.frozen {t:TypeId} {w:World} {b:Nat} {cs:List Value} (h:RowT t w b cs) (j:Nat):w.frozen? ⟨b,j,none⟩=false:=frozen_of_row w b j _ _ h
theorem RowT.lt {t:TypeId} {w:World} {b:Nat} {cs:List Value} (h:RowT t w b cs):b<w.heap.size:=(Array.getElem?_eq_some_iff.1 h).1
theorem RowT.below {t:TypeId} {w w':World} {B b:Nat} {cs:List Value} (h:RowT t w b cs) (hb:Below B w w') (hlt:b<B):RowT t w' b cs:=(hb.block b hlt).trans h
theorem RowT.then {t:TypeId} {w w':World} {b:Nat} {cs:List Value} (h:RowT t w b cs) (hb:Below w.heap.size w w'):RowT t w' b cs:=h.below hb h.lt
theorem RowT.cells {t:TypeId} {w:World} {b:Nat} {cs:List Value} (h:RowT t w b cs):CellsAt w b 0 cs:=fun j hj=>by
 rw [Nat.zero_add,cell_of_row w b j _ _ _ h]
 simp
theorem RowT.range {t:TypeId} {w:World} {b:Nat} {cs:List Value} (h:RowT t w b cs):w.rangeAt b 0 cs:=h.cells.range
theorem RowT.alloc {t:TypeId} {w:World} {b:Nat} {cs:List Value} (h:RowT t w b cs) (o:Obj):RowT t (w.alloc o) b cs:=(heap_alloc_old w o h.lt).trans h
theorem RowT.new (w:World) (t:TypeId) (cs:List Value):RowT t (w.alloc (.cells cs.toArray t)) w.heap.size cs:=heap_alloc_new w _
theorem RowT.drew {t:TypeId} {w:World} {b:Nat} {cs:List Value} (h:RowT t w b cs):RowT t w.drew b cs:=h
theorem RowT.set {t:TypeId} {w:World} {b:Nat} {cs:List Value} (h:RowT t w b cs) (j:Nat) (v:Value):RowT t (w.setCell ⟨b,j,none⟩ v) b (cs.set j v):=by
 unfold RowT
 rw [heap_setCell_same w b j _ _ _ h,List.setIfInBounds_toArray]
theorem RowT.setRow {t:TypeId} {w:World} {b:Nat} {cs:List Value} (h:RowT t w b cs) (new:List Value):RowT t (w.setRow b new.toArray) b new:=setRow_heap w b _ _ t _ h
theorem RowT.setRowOther {t:TypeId} {w:World} {b b':Nat} {cs:List Value} (h:RowT t w b cs) (hne:b≠b') (new:Array Value):RowT t (w.setRow b' new) b cs:=(setRow_other w b' b new hne).trans h
theorem cellsOfRange {w:World} {b o:Nat} {cs:List Value} (h:w.rangeAt b o cs):CellsAt w b o cs:=fun j hj=>by rw [List.getElem?_eq_getElem hj];exact h j _ (List.getElem?_eq_getElem hj)
theorem wp_store_at {P:Program} {o:Oper} {a:Act} {w:World} {K:Act→World→Prop} {Q:Exit→Act→World→Prop} (ty:TypeId) (x y:Operand) (ho:o.op=.store ty x y)
 (g q:Nat) (cells:List Value) (hx:a.eval x=.pointer (some ⟨g,q,none⟩)) (hy:a.eval y=.agg cells.toArray)
 (t:TypeId) (old new:List Value) (hg:RowT t w g old) (hi:(P.info? ty).map (·.size)=some cells.length)
 (hn:new=old.take q++cells++old.drop (q+cells.length)) (hfit:q+cells.length≤old.length) (h1:∀ v∈cells,v.oneCell'=true)
 (h:K (a.put o.dst undef) (w.setRow g new.toArray)):o.wp P a w K Q:=by
 have hst:=run_storeCells_at P g q t cells 0 old.toArray w hg (by simpa using hfit) h1
 have hrun:(storeVar ty ⟨g,q,none⟩ (.agg cells.toArray)).run P w=.ok () (w.setRow g new.toArray):=by
  cases hq:P.info? ty with
  | none=>simp [hq] at hi
  | some i =>
    have hs:cells.length=i.size:=by simp [hq] at hi;omega
    simp [storeVar,sizeOf,typeInfo,hq,Value.cells,hs,hn]
    simpa [hs] using hst
 unfold Oper.wp execOp
 simp only [ho,hx,hy,Instr.storeAt,Instr.sureAddr,Sem.run_bind,Sem.run_pure,Result.andThen_ok,hrun]
 exact h
theorem wpList_store_at {P:Program} {ops:Array Oper} {rest:List Oper} {o:Oper} {a:Act} {w:World} {Q:Exit→Act→World→Prop} (hgd:o.guard=none) (ty:TypeId) (x y:Operand) (ho:o.op=.store ty x y)
 (g q:Nat) (cells:List Value) (hx:a.eval x=.pointer (some ⟨g,q,none⟩)) (hy:a.eval y=.agg cells.toArray)
 (t:TypeId) (old new:List Value) (hg:RowT t w g old) (hi:(P.info? ty).map (·.size)=some cells.length)
 (hn:new=old.take q++cells++old.drop (q+cells.length)) (hfit:q+cells.length≤old.length) (h1:∀ v∈cells,v.oneCell'=true)
 (h:wpList P ops Q rest (a.put o.dst undef) (w.setRow g new.toArray)):wpList P ops Q (o::rest) a w :=
 wpList_plain hgd fun _ hK=>wp_store_at ty x y ho g q cells hx hy t old new hg hi hn hfit h1 (hK _ _ h)
end Go.Proofs.YtagkjofpncpcpaaGreatDoor
