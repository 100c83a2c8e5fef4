/- From the model's reading of a list of modules to the trees. -/
import Derived.Test.YtiefeajappjnbaaGreatDoorOpm36
import Derived.Test.YtiefeajappjnbaaGreatDoorMos38
namespace Go.Proofs.YtiefeajappjnbaaGreatDoor
open Go.ChangeShapes Go.WideShapes Go.ChangeAt Go.RowKit Go.Deep
instance:Inhabited ModD:=⟨⟨⟨#[]⟩,[],[],default⟩⟩
section
variable {H:Type} {enc:TypeId×Value→H} {w:World} {base:Nat} {spare:Nat→Bool} {held:Bool}
set_option maxRecDepth 100000 in
theorem open_SMOD {N fuel:Nat} {cs:List Value} {x:DataW H×List MemPlace} (h:DataW.trod enc Tryz.prog w base spare held fuel 48 cs=some x) (hx:Fits N x.1):∃ a c l,cs=[.slice a (List.length l) c]∧ModsAt w w.heap.size N l a:=by
 obtain ⟨a0,len,cap,e,hN,_,hz | ⟨b,o,m,rfl,hm,hb,hi⟩⟩:=slice_cells Tryz.underlying48 (by rw [cellsMOD];omega) h hx
 ·exact ⟨a0,cap,[],by rw [e,hz];rfl,trivial⟩
 rw [cellsMOD] at hi
 obtain ⟨l,hl,hp⟩:=list_of_forall (α:=ModD) (n:=len) (p:=fun i v=>∃ cs,CellsAt w b (o+i * 20) cs∧ModD.At w w.heap.size N v cs) (fun i h=>by
  obtain ⟨cs,y,_,hc,hy,hf⟩:=hi i h
  obtain ⟨v,hv⟩:=open_MOD hy hf
  exact ⟨v,cs,hc,hv⟩)
 exact ⟨_,cap,l,by rw [e,hl],ModsAt_of hb l o hp⟩
end
end Go.Proofs.YtiefeajappjnbaaGreatDoor
