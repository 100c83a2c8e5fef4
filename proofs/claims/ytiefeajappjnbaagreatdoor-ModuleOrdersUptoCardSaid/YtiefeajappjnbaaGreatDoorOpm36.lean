/- From the model's reading of a module to the trees. -/
import Derived.Test.YtiefeajappjnbaaGreatDoorGM
import Derived.Test.YtiefeajappjnbaaGreatDoorMop36
namespace Go.Proofs.YtiefeajappjnbaaGreatDoor
open Go.ChangeShapes Go.WideShapes Go.ChangeAt Go.RowKit Go.Deep
theorem cellsMOD:Tryz.prog.cellsOf 44=20:=by kernel_rfl
theorem cellsIMP:Tryz.prog.cellsOf 78=2:=by kernel_rfl
theorem cellsSIMP:Tryz.prog.cellsOf 42=1:=by kernel_rfl
section
variable {H:Type} {enc:TypeId×Value→H} {w:World} {base:Nat} {spare:Nat→Bool} {held:Bool}
theorem ImpsAt_of {B N b:Nat} (hb:b<B):∀ (l:List (ByteArray×ByteArray)) (o:Nat),(∀ i (hi:i<l.length),(l[i].1.size≤N∧l[i].2.size≤N)∧CellsAt w b (o+i * 2) (impC l[i]))→ImpsAt w B N l (some ⟨b,o,none⟩)
 | [],_,_=>trivial
 | p::r,o,h=>by
   obtain ⟨h1,h2⟩:=h 0 (by simp)
   refine ⟨b,o,rfl,hb,h1,by simpa using h2,ImpsAt_of hb r (o+2) fun i hi=>?_⟩
   obtain ⟨h1,h2⟩:=h (i+1) (by simpa using hi)
   exact ⟨h1,by rw [show o+2+i * 2=o+(i+1) * 2 by omega];exact h2⟩
set_option maxRecDepth 100000 in
theorem open_SIMP {N fuel:Nat} {cs:List Value} {x:DataW H×List MemPlace} (h:DataW.trod enc Tryz.prog w base spare held fuel 42 cs=some x) (hx:Fits N x.1):∃ a c l,cs=[.slice a (List.length l) c]∧l.length≤N∧ImpsAt w w.heap.size N l a:=by
 obtain ⟨a0,len,cap,rfl,hN,hm,hz | ⟨b,o,n,rfl,_,hb,hi⟩⟩:=slice_cells Tryz.underlying42 (by rw [cellsIMP];omega) h hx
 ·exact ⟨a0,cap,[],by simp [hz],by simp,trivial⟩
 rw [cellsIMP] at hi
 obtain ⟨l,hl,hp⟩:=list_of_forall (α:=ByteArray×ByteArray) (n:=len) (p:=fun i p=>(p.1.size≤N∧p.2.size≤N)∧CellsAt w b (o+i * 2) (impC p)) (fun i h=>by
  obtain ⟨cs,y,hl,hc,hy,hf⟩:=hi i h
  obtain ⟨_,m',_,hg⟩:=struct_parts Tryz.underlying78 hy hf
  obtain ⟨z0,g0,q0⟩:=hg 0 (by decide)
  obtain ⟨z1,g1,q1⟩:=hg 1 (by decide)
  match cs,hl with
  | [c0,c1],_ =>
    simp [cellsS] at g0 g1
    obtain ⟨s,e0,ks⟩:=open_S g0 q0
    obtain ⟨v,e1,kv⟩:=open_S g1 q1
    simp at e0 e1
    subst e0 e1
    exact ⟨(s,v),⟨ks,kv⟩,hc⟩)
 exact ⟨_,cap,l,by rw [hl],by omega,ImpsAt_of hb l o hp⟩
set_option maxRecDepth 100000 in
theorem open_MOD {N fuel:Nat} {cs:List Value} {x:DataW H×List MemPlace} (h:DataW.trod enc Tryz.prog w base spare held fuel 44 cs=some x) (hx:Fits N x.1):∃ m,ModD.At w w.heap.size N m cs:=by
 obtain ⟨hlen,n,hn,hf⟩:=struct_parts Tryz.underlying44 h hx
 rw [cellsMOD] at hlen
 obtain ⟨y0,h0,f0⟩:=hf 0 (by decide)
 obtain ⟨y1,h1,f1⟩:=hf 1 (by decide)
 obtain ⟨y2,h2,f2⟩:=hf 2 (by decide)
 obtain ⟨y3,h3,f3⟩:=hf 3 (by decide)
 match cs,hlen with
 | c0::c1::c2::es,hlen =>
   have hl':es.length=17:=by simpa using hlen
   simp [cellsS,cellsSIMP,cellsSFN,cellsE] at h0 h1 h2 h3
   rw [List.take_of_length_le (by omega)] at h3
   obtain ⟨s,e0,k0⟩:=open_S h0 f0
   obtain ⟨ia,ic,im,e1,k1,k1'⟩:=open_SIMP h1 f1
   have F:∃ la lc l,[c2]=[Value.slice la (List.length l) lc]∧l.length≤N∧FuncsAt w w.heap.size N l la:=by
    obtain ⟨a0,len,cap,e,hN,_,hz | ⟨b,o,m,rfl,hm,hb,hi⟩⟩:=slice_cells Tryz.underlying32 (by rw [cellsFN];omega) h2 f2
    ·exact ⟨a0,cap,[],by rw [e,hz];rfl,by simp,trivial⟩
    rw [cellsFN] at hi
    obtain ⟨l,hl,hp⟩:=list_of_forall (α:=FuncD) (n:=len) (p:=fun i v=>∃ cs,CellsAt w b (o+i * 19) cs∧FuncD.At w w.heap.size N v cs) (fun i h=>by
     obtain ⟨cs,y,_,hc,hy,hf⟩:=hi i h
     obtain ⟨v,hv⟩:=(open_E_FN m).2 hy hf
     exact ⟨v,cs,hc,hv⟩)
    exact ⟨_,cap,l,by rw [e,hl],by omega,FuncsAt_of hb l o hp⟩
   obtain ⟨fa,fc,fl,e2,k2,k2'⟩:=F
   obtain ⟨e,k3⟩:=(open_E_FN n).1 h3 f3
   simp at e0 e1 e2
   subst e0 e1 e2
   exact ⟨⟨s,im,fl,e⟩,ia,fa,ic,fc,es,rfl,k0,k1,k2,k1',k2',k3⟩
end
end Go.Proofs.YtiefeajappjnbaaGreatDoor
