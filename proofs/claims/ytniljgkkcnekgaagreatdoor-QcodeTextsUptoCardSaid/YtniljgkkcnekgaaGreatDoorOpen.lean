/- From the model's reading of an argument to the trees: a value or an expression that came in and can be read lies in memory as a tree, and no string and no list in it is longer than N, where N is as great as the reading's bulk (or as the longest that there is). -/
import Derived.Test.YtniljgkkcnekgaaGreatDoorRows
import Derived.Test.YtniljgkkcnekgaaGreatDoorGA
import Derived.ProofKit
import Derived.OpenShut
import Derived.ShutString
import Derived.ChangeOld
import Derived.Carry
namespace Go.Proofs.YtniljgkkcnekgaaGreatDoor
open Go.ChangeShapes Go.WideShapes Go.ChangeAt Go.RowKit Go.Deep
section
variable {H:Type}
def Fits (N:Nat) (d:DataW H):Prop:=maxLen≤N∨Rows.uptoBulk d≤N
theorem bulk_pos (d:DataW H):1≤Rows.uptoBulk d:=by
 cases d with
 | lit l=>cases l<;>simp [Rows.uptoBulk]
 | nil=>simp [Rows.uptoBulk]
 | ptr d=>simp [Rows.uptoBulk]
 | slice a b=>simp [Rows.uptoBulk]
 | agg p=>simp [Rows.uptoBulk]
 | iface t d=>simp [Rows.uptoBulk]
 | map e=>simp [Rows.uptoBulk]
 | held h=>simp [Rows.uptoBulk]
theorem bulk_mem:∀ (l:List (DataW H)) (d:DataW H),d∈l→Rows.uptoBulk d≤Rows.uptoBulkAll l
 | [],_,h=>by cases h
 | x::r,d,h=>by
   simp only [Rows.uptoBulkAll]
   rcases List.mem_cons.1 h with rfl | h
   ·omega
   ·have:=bulk_mem r d h;omega
theorem bulk_len:∀ (l:List (DataW H)),l.length≤Rows.uptoBulkAll l
 | []=>by simp
 | x::r=>by
   have h1:=bulk_pos x
   have h2:=bulk_len r
   simp only [Rows.uptoBulkAll,List.length_cons]
   omega
theorem Fits.part {N:Nat} {l:List (DataW H)} (h:Fits N (.agg l)) {d:DataW H} (hd:d∈l):Fits N d:=by
 rcases h with h | h
 ·exact .inl h
 ·right
  simp only [Rows.uptoBulk] at h
  have:=bulk_mem l d hd
  omega
theorem Fits.elem {N:Nat} {l s:List (DataW H)} (h:Fits N (.slice l s)) {d:DataW H} (hd:d∈l):Fits N d:=by
 rcases h with h | h
 ·exact .inl h
 ·right
  simp only [Rows.uptoBulk] at h
  have:=bulk_mem l d hd
  omega
theorem Fits.len {N:Nat} {l s:List (DataW H)} (h:Fits N (.slice l s)) (hl:l.length≤maxLen):l.length≤N:=by
 rcases h with h | h
 ·omega
 ·simp only [Rows.uptoBulk] at h
  have:=bulk_len l
  omega
theorem Fits.str {N:Nat} {s:ByteArray} (h:Fits (H:=H) N (.lit (.string s.data.toList))) (hl:s.size≤maxLen):s.size≤N:=by
 rcases h with h | h
 ·omega
 ·simp only [Rows.uptoBulk,Array.length_toList] at h
  have:s.data.size=s.size:=rfl
  omega
end
section
variable {H:Type} {enc:TypeId×Value→H} {P:Program} {w:World} {base:Nat} {spare:Nat→Bool} {held:Bool}
theorem addr_add (b o j:Nat):(⟨b,o,none⟩:Addr).add j=⟨b,o+j,none⟩:=by unfold Addr.add;split<;>simp_all
theorem struct_parts {t:TypeId} {fs:Array Field} {fuel N:Nat} {cs:List Value} {x:DataW H×List MemPlace} (ht:P.underlying t=some (.struct fs)) (h:DataW.trod enc P w base spare held fuel t cs=some x) (hx:Fits N x.1) :
 cs.length=P.cellsOf t∧∃ n,fuel=n+1∧∀ (i:Nat) (hi:i<fs.size),∃ y,DataW.trod enc P w base spare held n fs[i].type ((cs.drop fs[i].offset).take (P.cellsOf fs[i].type))=some y∧Fits N y.1:=by
 obtain ⟨xs,n,hn,rfl,hlen,hxl,hf⟩:=DataW.trod_struct ht h
 refine ⟨hlen,n,hn,fun i hi=>?_⟩
 have h0:=hf i fs[i] (Array.getElem?_eq_getElem hi)
 rw [List.getElem?_eq_getElem (by omega)] at h0
 exact ⟨_,h0,hx.part (List.mem_map_of_mem (List.getElem_mem _))⟩
theorem slice_cells {t e:TypeId} {fuel N:Nat} {cs:List Value} {x:DataW H×List MemPlace} (ht:P.underlying t=some (.slice e)) (hc:0<P.cellsOf e) (h:DataW.trod enc P w base spare held fuel t cs=some x) (hx:Fits N x.1) :
 ∃ a0 len cap,cs=[.slice a0 len cap]∧len≤N∧len≤maxLen∧(len=0∨∃ b o n,a0=some ⟨b,o,none⟩∧fuel=n+1∧b<w.heap.size ∧
  ∀ i,i<len→∃ cs y,cs.length=P.cellsOf e∧CellsAt w b (o+i * P.cellsOf e) cs∧DataW.trod enc P w base spare held n e cs=some y∧Fits N y.1):=by
 rcases DataW.trod_slice ht h with ⟨rfl,_⟩ | ⟨a,len,cap,elems,rest,n,hfu,rfl,rfl,hb,hl,hm,hlen,hel,_,_⟩
 ·exact ⟨none,0,0,rfl,by omega,by omega,.inl rfl⟩
 have hlN:len≤N:=by
  have:=hx.len (by simpa [hlen] using (by omega:len≤maxLen))
  simpa [hlen] using this
 refine ⟨some a,len,cap,rfl,hlN,by omega,?_⟩
 by_cases hz:len=0
 ·exact .inl hz
 have key:∀ i,i<len→∃ cs y,w.cells? base (a.add (i * P.cellsOf e)) (P.cellsOf e)=some cs∧DataW.trod enc P w base spare held n e cs=some y∧Fits N y.1:=fun i hi=>by
  have h1:=hel i hi
  rw [List.getElem?_eq_getElem (by omega)] at h1
  obtain ⟨cs',h2,h3⟩:=Option.bind_eq_some_iff.1 h1
  exact ⟨cs',_,h2,h3,hx.elem (List.mem_map_of_mem (List.getElem_mem _))⟩
 obtain ⟨cs0,y0,h0,_,_⟩:=key 0 (by omega)
 obtain ⟨_,hl0,hat0⟩:=World.cells?_some h0
 have hc0:=hat0 0 hc
 rw [List.getElem?_eq_getElem (by omega)] at hc0
 obtain ⟨b,o,spot⟩:=a
 have hs:=World.cell?_spot hc0
 have hbk:=World.block_lt_of_cell? w _ hc0
 have:spot=none:=by simpa [Addr.add] using hs
 subst this
 have hbk':b<w.heap.size:=by simpa [Addr.add] using hbk
 refine .inr ⟨b,o,n,rfl,hfu,hbk',fun i hi=>?_⟩
 obtain ⟨cs1,y1,h1,h2,h3⟩:=key i hi
 obtain ⟨_,hl1,hat1⟩:=World.cells?_some h1
 refine ⟨cs1,y1,hl1,fun j hj=>?_,h2,h3⟩
 have:=hat1 j (by omega)
 rwa [addr_add,addr_add] at this
theorem I64_of_wf {n:Int} (h:(Lit.int .i64 n).wf=true):I64 n:=by
 exact bounds_i64 h
theorem list_of_forall {α:Type} [Inhabited α] {n:Nat} {p:Nat→α→Prop} (h:∀ i,i<n→∃ x,p i x):∃ l:List α,l.length=n∧∀ i (hi:i<l.length),p i l[i]:=by
 obtain ⟨f,hf⟩:=choose_lt h
 refine ⟨(List.range n).map f,by simp,fun i hi=>?_⟩
 simp only [List.getElem_map,List.getElem_range]
 exact hf i (by simpa using hi)
end
theorem cellsI:Tryz.prog.cellsOf 3=1:=by kernel_rfl
theorem cellsB:Tryz.prog.cellsOf 4=1:=by kernel_rfl
theorem cellsS:Tryz.prog.cellsOf 9=1:=by kernel_rfl
theorem cellsU8:Tryz.prog.cellsOf 5=1:=by kernel_rfl
theorem cellsDEC:Tryz.prog.cellsOf 32=3:=by kernel_rfl
theorem cellsTIME:Tryz.prog.cellsOf 34=4:=by kernel_rfl
theorem cellsSB:Tryz.prog.cellsOf 35=1:=by kernel_rfl
theorem cellsSV:Tryz.prog.cellsOf 36=1:=by kernel_rfl
theorem cellsSF:Tryz.prog.cellsOf 37=1:=by kernel_rfl
theorem cellsV:Tryz.prog.cellsOf 39=13:=by kernel_rfl
theorem cellsFLD:Tryz.prog.cellsOf 76=14:=by kernel_rfl
section
variable {H:Type} {enc:TypeId×Value→H} {w:World} {base:Nat} {spare:Nat→Bool} {held:Bool}
theorem open_I {N fuel:Nat} {cs:List Value} {x:DataW H×List MemPlace} (h:DataW.trod enc Tryz.prog w base spare held fuel 3 cs=some x) (_:Fits N x.1):∃ n,cs=[.int .i64 n]∧I64 n:=by
 obtain ⟨n,e,_,hw⟩:=DataW.trod_int Tryz.underlying3 h
 exact ⟨n,e,I64_of_wf hw⟩
theorem open_B {N fuel:Nat} {cs:List Value} {x:DataW H×List MemPlace} (h:DataW.trod enc Tryz.prog w base spare held fuel 4 cs=some x) (_:Fits N x.1):∃ b,cs=[.bool b]:=by
 obtain ⟨b,e,_⟩:=DataW.trod_bool Tryz.underlying4 h
 exact ⟨b,e⟩
theorem open_S {N fuel:Nat} {cs:List Value} {x:DataW H×List MemPlace} (h:DataW.trod enc Tryz.prog w base spare held fuel 9 cs=some x) (hx:Fits N x.1):∃ s:ByteArray,cs=[.string s]∧s.size≤N:=by
 obtain ⟨s,e,rfl,hm⟩:=DataW.trod_string Tryz.underlying9 h
 exact ⟨s,e,hx.str hm⟩
set_option maxRecDepth 100000 in
theorem open_DEC {N fuel:Nat} {cs:List Value} {x:DataW H×List MemPlace} (h:DataW.trod enc Tryz.prog w base spare held fuel 32 cs=some x) (hx:Fits N x.1):∃ d:DecD,cs=[.bool d.neg,.string d.digits,.int .i64 d.exp]∧d.digits.size≤N∧I64 d.exp:=by
 obtain ⟨hlen,n,_,hf⟩:=struct_parts Tryz.underlying32 h hx
 rw [cellsDEC] at hlen
 match cs,hlen with
 | [c0,c1,c2],_ =>
   obtain ⟨y0,h0,f0⟩:=hf 0 (by decide)
   obtain ⟨y1,h1,f1⟩:=hf 1 (by decide)
   obtain ⟨y2,h2,f2⟩:=hf 2 (by decide)
   simp [cellsI,cellsB,cellsS] at h0 h1 h2
   obtain ⟨a0,e0⟩:=open_B h0 f0
   obtain ⟨a1,e1,k1⟩:=open_S h1 f1
   obtain ⟨a2,e2,k2⟩:=open_I h2 f2
   simp at e0 e1 e2
   subst e0 e1 e2
   exact ⟨⟨a0,a1,a2⟩,rfl,k1,k2⟩
set_option maxRecDepth 100000 in
theorem open_TIME {N fuel:Nat} {cs:List Value} {x:DataW H×List MemPlace} (h:DataW.trod enc Tryz.prog w base spare held fuel 34 cs=some x) (hx:Fits N x.1) :
 ∃ d:TimeD,cs=[.int .i64 d.kind,.int .i64 d.day,.int .i64 d.nano,.int .i64 d.offset]∧I64 d.kind∧I64 d.day∧I64 d.nano∧I64 d.offset:=by
 obtain ⟨hlen,n,_,hf⟩:=struct_parts Tryz.underlying34 h hx
 rw [cellsTIME] at hlen
 match cs,hlen with
 | [c0,c1,c2,c3],_ =>
   obtain ⟨y0,h0,f0⟩:=hf 0 (by decide)
   obtain ⟨y1,h1,f1⟩:=hf 1 (by decide)
   obtain ⟨y2,h2,f2⟩:=hf 2 (by decide)
   obtain ⟨y3,h3,f3⟩:=hf 3 (by decide)
   simp [cellsI] at h0 h1 h2 h3
   obtain ⟨a0,e0,k0⟩:=open_I h0 f0
   obtain ⟨a1,e1,k1⟩:=open_I h1 f1
   obtain ⟨a2,e2,k2⟩:=open_I h2 f2
   obtain ⟨a3,e3,k3⟩:=open_I h3 f3
   simp at e0 e1 e2 e3
   subst e0 e1 e2 e3
   exact ⟨⟨a0,a1,a2,a3⟩,rfl,k0,k1,k2,k3⟩
theorem BytesAt_of {b o:Nat} (hb:b<w.heap.size) {l:List Int} (hc:∀ i (hi:i<l.length),CellsAt w b (o+i) [.int .u8 l[i]]∧0≤l[i]∧l[i]≤255):BytesAt w w.heap.size l (some ⟨b,o,none⟩):=by
 refine .inr ⟨b,o,rfl,hb,fun j hj=>?_,fun x hx=>?_⟩
 ·have hj':j<l.length:=by simpa using hj
  have:=(hc j hj').1 0 (by simp)
  simp [List.getElem?_eq_getElem hj'] at this ⊢
  exact this
 ·obtain ⟨i,hi,rfl⟩:=List.getElem_of_mem hx
  exact (hc i hi).2
theorem ValsAt_of {B N b:Nat} (hb:b<B):∀ (l:List ValD) (o:Nat),(∀ i (hi:i<l.length),∃ cs,CellsAt w b (o+i * 13) cs∧ValD.At w B N l[i] cs)→ValsAt w B N l (some ⟨b,o,none⟩)
 | [],_,_=>trivial
 | v::r,o,h=>by
   obtain ⟨cs,h1,h2⟩:=h 0 (by simp)
   refine ⟨⟨b,o,cs,rfl,hb,by simpa using h1,h2⟩,ValsAt_of hb r (o+13) fun i hi=>?_⟩
   obtain ⟨cs,h1,h2⟩:=h (i+1) (by simpa using hi)
   exact ⟨cs,by rw [show o+13+i * 13=o+(i+1) * 13 by omega];exact h1,h2⟩
theorem FieldsAt_of {B N b:Nat} (hb:b<B):∀ (l:List (ByteArray×ValD)) (o:Nat),(∀ i (hi:i<l.length),∃ cs,l[i].1.size≤N∧CellsAt w b (o+i * 14) (.string l[i].1::cs)∧ValD.At w B N l[i].2 cs)→FieldsAt w B N l (some ⟨b,o,none⟩)
 | [],_,_=>trivial
 | (k,v)::r,o,h=>by
   obtain ⟨cs,h0,h1,h2⟩:=h 0 (by simp)
   refine ⟨⟨b,o,cs,rfl,hb,h0,by simpa using h1,h2⟩,FieldsAt_of hb r (o+14) fun i hi=>?_⟩
   obtain ⟨cs,h0,h1,h2⟩:=h (i+1) (by simpa using hi)
   exact ⟨cs,h0,by rw [show o+14+i * 14=o+(i+1) * 14 by omega];exact h1,h2⟩
theorem open_SB {N fuel:Nat} {cs:List Value} {x:DataW H×List MemPlace} (h:DataW.trod enc Tryz.prog w base spare held fuel 35 cs=some x) (hx:Fits N x.1):∃ a c l,cs=[.slice a (List.length l) c]∧l.length≤N∧BytesAt w w.heap.size l a:=by
 obtain ⟨a0,len,cap,rfl,hN,hm,hz | ⟨b,o,n,rfl,_,hb,hi⟩⟩:=slice_cells Tryz.underlying35 (by rw [cellsU8];omega) h hx
 ·exact ⟨a0,cap,[],by simp [hz],by simp,.inl rfl⟩
 rw [cellsU8] at hi
 obtain ⟨l,hl,hp⟩:=list_of_forall (α:=Int) (n:=len) (p:=fun i k=>CellsAt w b (o+i) [.int .u8 k]∧0≤k∧k≤255) (fun i h=>by
  obtain ⟨cs,y,_,hc,hy,_⟩:=hi i h
  obtain ⟨k,rfl,_,hw⟩:=DataW.trod_int Tryz.underlying5 hy
  have:=bounds_u8 hw
  exact ⟨k,by simpa using hc,this.1,this.2⟩)
 exact ⟨_,cap,l,by rw [hl],by omega,BytesAt_of hb hp⟩
set_option maxRecDepth 100000 in
theorem open_V {N:Nat}:∀ (fuel:Nat) {cs:List Value} {x:DataW H×List MemPlace},DataW.trod enc Tryz.prog w base spare held fuel 39 cs=some x→Fits N x.1→∃ v,ValD.At w w.heap.size N v cs:=by
 intro fuel
 induction fuel using Nat.strongRecOn with
 | ind fuel ih =>
 intro cs x h hx
 obtain ⟨hlen,n,hn,hf⟩:=struct_parts Tryz.underlying39 h hx
 rw [cellsV] at hlen
 match cs,hlen with
 | [c0,c1,c2,c3,c4,c5,c6,c7,c8,c9,c10,c11,c12],_ =>
   obtain ⟨y0,h0,f0⟩:=hf 0 (by decide)
   obtain ⟨y1,h1,f1⟩:=hf 1 (by decide)
   obtain ⟨y2,h2,f2⟩:=hf 2 (by decide)
   obtain ⟨y3,h3,f3⟩:=hf 3 (by decide)
   obtain ⟨y4,h4,f4⟩:=hf 4 (by decide)
   obtain ⟨y5,h5,f5⟩:=hf 5 (by decide)
   obtain ⟨y6,h6,f6⟩:=hf 6 (by decide)
   obtain ⟨y7,h7,f7⟩:=hf 7 (by decide)
   simp [cellsI,cellsB,cellsS,cellsDEC,cellsTIME,cellsSB,cellsSV,cellsSF] at h0 h1 h2 h3 h4 h5 h6 h7
   obtain ⟨k,e0,k0⟩:=open_I h0 f0
   obtain ⟨b,e1⟩:=open_B h1 f1
   obtain ⟨d,e2,k2,k2'⟩:=open_DEC h2 f2
   obtain ⟨t,e3,k3,k3',k3'',k3'''⟩:=open_TIME h3 f3
   obtain ⟨s,e4,k4⟩:=open_S h4 f4
   obtain ⟨ya,yc,y,e5,k5,k5'⟩:=open_SB h5 f5
   have L:∃ la lc l,[c11]=[Value.slice la (List.length l) lc]∧l.length≤N∧ValsAt w w.heap.size N l la:=by
    obtain ⟨a0,len,cap,e,hN,_,hz | ⟨b,o,m,rfl,hm,hb,hi⟩⟩:=slice_cells Tryz.underlying36 (by rw [cellsV];omega) h6 f6
    ·exact ⟨a0,cap,[],by rw [e,hz];rfl,by simp,trivial⟩
    rw [cellsV] at hi
    obtain ⟨l,hl,hp⟩:=list_of_forall (α:=ValD) (n:=len) (p:=fun i v=>∃ cs,CellsAt w b (o+i * 13) cs∧ValD.At w w.heap.size N v cs) (fun i h=>by
     obtain ⟨cs,y,_,hc,hy,hf⟩:=hi i h
     obtain ⟨v,hv⟩:=ih m (by omega) hy hf
     exact ⟨v,cs,hc,hv⟩)
    exact ⟨_,cap,l,by rw [e,hl],by omega,ValsAt_of hb l o hp⟩
   have F:∃ fa fc f,[c12]=[Value.slice fa (List.length f) fc]∧f.length≤N∧FieldsAt w w.heap.size N f fa:=by
    obtain ⟨a0,len,cap,e,hN,_,hz | ⟨b,o,m,rfl,hm,hb,hi⟩⟩:=slice_cells Tryz.underlying37 (by rw [cellsFLD];omega) h7 f7
    ·exact ⟨a0,cap,[],by rw [e,hz];rfl,by simp,trivial⟩
    rw [cellsFLD] at hi
    obtain ⟨l,hl,hp⟩:=list_of_forall (α:=ByteArray×ValD) (n:=len) (p:=fun i v=>∃ cs,v.1.size≤N∧CellsAt w b (o+i * 14) (.string v.1::cs)∧ValD.At w w.heap.size N v.2 cs) (fun i h=>by
     obtain ⟨cs,y,hl,hc,hy,hf⟩:=hi i h
     obtain ⟨_,m',hm',hg⟩:=struct_parts Tryz.underlying76 hy hf
     obtain ⟨z0,g0,q0⟩:=hg 0 (by decide)
     obtain ⟨z1,g1,q1⟩:=hg 1 (by decide)
     match cs,hl with
     | c::cs,hl =>
       have hl':cs.length=13:=by simpa using hl
       simp [cellsS,cellsV] at g0 g1
       rw [List.take_of_length_le (by omega)] at g1
       obtain ⟨s,e,ks⟩:=open_S g0 q0
       obtain ⟨v,hv⟩:=ih m' (by omega) g1 q1
       simp at e
       subst e
       exact ⟨(s,v),cs,ks,hc,hv⟩)
    exact ⟨_,cap,l,by rw [e,hl],by omega,FieldsAt_of hb l o hp⟩
   obtain ⟨la,lc,l,e6,k6,k6'⟩:=L
   obtain ⟨fa,fc,f,e7,k7,k7'⟩:=F
   simp at e0 e1 e2 e3 e4 e5 e6 e7
   obtain ⟨e2,e2',e2''⟩:=e2
   obtain ⟨e3,e3',e3'',e3'''⟩:=e3
   subst e0 e1 e2 e2' e2'' e3 e3' e3'' e3''' e4 e5 e6 e7
   exact ⟨.mk k b d t s y l f,ya,la,fa,yc,lc,fc,rfl,⟨k0,k2',k3,k3',k3'',k3''',k2,k4,k5,k6,k7⟩,k5',k6',k7'⟩
end
end Go.Proofs.YtniljgkkcnekgaaGreatDoor
