/- From the model's reading of a list of values to the values. -/
import Derived.Test.YtagkjofpncpcpaaGreatDoorGA
import Derived.Test.YtagkjofpncpcpaaGreatDoorOpen
namespace Go.Proofs.YtagkjofpncpcpaaGreatDoor
open Go.ChangeShapes Go.WideShapes Go.ChangeAt Go.RowKit Go.Deep
section
variable {H:Type} {enc:TypeId×Value→H} {w:World} {base:Nat} {spare:Nat→Bool} {held:Bool}
theorem open_SV {N fuel:Nat} {cs:List Value} {x:DataW H×List MemPlace} (h:DataW.trod enc Tryz.prog w base spare held fuel 22 cs=some x) (hx:Fits N x.1):∃ a c l,cs=[.slice a (List.length l) c]∧l.length≤N∧ValsAt w w.heap.size N l a:=by
 obtain ⟨a0,len,cap,e,hN,_,hz | ⟨b,o,m,rfl,hm,hb,hi⟩⟩:=slice_cells Tryz.underlying22 (by rw [cellsV];omega) h hx
 ·exact ⟨a0,cap,[],by rw [e,hz];rfl,by simp,trivial⟩
 rw [cellsV] at hi
 obtain ⟨l,hl,hp⟩:=list_of_forall (α:=ValD) (n:=len) (p:=fun i v=>∃ cs,CellsAt w b (o+i * 13) cs∧ValD.At w w.heap.size N v cs) (fun i h=>by
  obtain ⟨cs,y,_,hc,hy,hf⟩:=hi i h
  obtain ⟨v,hv⟩:=open_V m hy hf
  exact ⟨v,cs,hc,hv⟩)
 exact ⟨_,cap,l,by rw [e,hl],by omega,ValsAt_of hb l o hp⟩
end
end Go.Proofs.YtagkjofpncpcpaaGreatDoor
