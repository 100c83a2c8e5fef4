/- Sums of values but those of maps: builtin.plus, datakitref37.add. -/
import Derived.Test.YtagkjofpncpcpaaGreatDoorProg
import Derived.Test.YtagkjofpncpcpaaGreatDoorGA
import Derived.Test.YtagkjofpncpcpaaGreatDoorGB
import Derived.Test.YtagkjofpncpcpaaGreatDoorGD
import Derived.Test.YtagkjofpncpcpaaGreatDoorRow36
import Derived.Test.YtagkjofpncpcpaaGreatDoorXA
import Derived.Test.YtagkjofpncpcpaaGreatDoorXD
import Derived.Test.YtagkjofpncpcpaaGreatDoorXI
import Derived.Lib.TrimByte
namespace Go.Proofs.YtagkjofpncpcpaaGreatDoor
namespace Stb
end Stb
open Go.RowKit
def putF:List (ByteArray×ValD)→ByteArray×ValD→List (ByteArray×ValD)
 | [],f=>[f]
 | g::r,f=>if g.1.data.toList=f.1.data.toList then (g.1,f.2)::r else g::putF r f
def mapD (l:List (ByteArray×ValD)):ValD:=.mk 7 false ⟨false,⟨#[]⟩,0⟩ ⟨0,0,0,0⟩ ⟨#[]⟩ [] [] l
structure Tval (w W:World) (cs ds zs:List Value):Prop where
 below:Below w.heap.size w W
 one:RowT 30 W w.heap.size cs
 two:RowT 30 W (w.heap.size+1) ds
 res:RowT 30 W (w.heap.size+1+1) zs
theorem Tval.later {w W W':World} {cs ds zs:List Value} (h:Tval w W cs ds zs) (hb:Below W.heap.size W W'):Tval w W' cs ds zs:=⟨belowThen h.below hb,h.one.then hb,h.two.then hb,h.res.then hb⟩
theorem Tval.drew {w W:World} {cs ds zs:List Value} (h:Tval w W cs ds zs):Tval w W.drew cs ds zs:=⟨h.below.trans (drewB _),h.one,h.two,h.res⟩
theorem Tval.size {w W:World} {cs ds zs:List Value} (h:Tval w W cs ds zs):w.heap.size+3≤W.heap.size:=by have:=h.res.lt;omega
theorem Tval.put {w W:World} {cs ds zs:List Value} (h:Tval w W cs ds zs) (new:List Value):Tval w (W.setRow (w.heap.size+1+1) new.toArray) cs ds new :=
 ⟨below_setRow h.below (by omega) _,h.one.setRowOther (by omega) _,h.two.setRowOther (by omega) _,h.res.setRow new⟩
theorem tval (w:World) (cs ds zs:List Value):Tval w (((w.alloc (.cells cs.toArray 30)).alloc (.cells ds.toArray 30)).alloc (.cells zs.toArray 30)) cs ds zs:=by
 refine ⟨belowThen (belowThen (belowBox w _) (belowBox _ _)) (belowBox _ _),((RowT.new w 30 _).alloc _).alloc _,?_,?_⟩
 ·have h:=RowT.new (w.alloc (.cells cs.toArray 30)) 30 ds
  rw [World.size_alloc] at h
  exact h.alloc _
 ·have h:=RowT.new ((w.alloc (.cells cs.toArray 30)).alloc (.cells ds.toArray 30)) 30 zs
  rw [World.size_alloc,World.size_alloc] at h
  exact h
theorem row_new {old new:List Value} (h:new.length=13) (h2:old.length=13):new=old.take 0++new++old.drop (0+new.length):=by
 rw [h,List.take_zero,List.nil_append,Nat.zero_add,List.drop_eq_nil_of_le (by omega),List.append_nil]
end Go.Proofs.YtagkjofpncpcpaaGreatDoor

/- Fields put over others: datakitref37.place, datakitref37.put. -/
namespace Go.Proofs.YtagkjofpncpcpaaGreatDoor
open Go.RowKit Stb
def plcN (l:List (ByteArray×ValD)) (s:ByteArray):Option Nat:=l.findIdx? fun g=>g.1.toList==s.toList
theorem putF_none:∀ {l:List (ByteArray×ValD)} {f:ByteArray×ValD},plcN l f.1=none→putF l f=l++[f]
 | [],_,_=>rfl
 | g::r,f,h=>by
   have h2:(g.1.toList==f.1.toList)=false∧plcN r f.1=none:=by
    unfold plcN at h ⊢
    rw [List.findIdx?_cons] at h
    by_cases hg:(g.1.toList==f.1.toList)=true
    ·rw [if_pos hg] at h;cases h
    ·rw [if_neg hg] at h
     exact ⟨by simpa using hg,by simpa using h⟩
   have h3:¬ g.1.data.toList=f.1.data.toList:=by
    have:=h2.1
    rw [ByteArray.toList_eq,ByteArray.toList_eq] at this
    simpa using this
   show (if g.1.data.toList=f.1.data.toList then (g.1,f.2)::r else g::putF r f)=g::(r++[f])
   rw [if_neg h3,putF_none h2.2]
theorem putF_some:∀ {l:List (ByteArray×ValD)} {f:ByteArray×ValD} {i:Nat},plcN l f.1=some i→∃ h:i<l.length,putF l f=l.set i (l[i].1,f.2)
 | [],_,_,h=>by cases h
 | g::r,f,i,h=>by
   unfold plcN at h
   rw [List.findIdx?_cons] at h
   by_cases hg:(g.1.toList==f.1.toList)=true
   ·rw [if_pos hg] at h
    cases h
    have h3:g.1.data.toList=f.1.data.toList:=by
     rw [ByteArray.toList_eq,ByteArray.toList_eq] at hg
     simpa using hg
    exact ⟨by simp,by show (if g.1.data.toList=f.1.data.toList then (g.1,f.2)::r else g::putF r f)=_;rw [if_pos h3];rfl⟩
   ·rw [if_neg hg] at h
    have h3:¬ g.1.data.toList=f.1.data.toList:=fun e=>hg (by rw [ByteArray.toList_eq,ByteArray.toList_eq,e];simp)
    obtain ⟨j,hj,rfl⟩:∃ j,plcN r f.1=some j∧i=j+1:=by
     cases hq:r.findIdx? (fun g=>g.1.toList==f.1.toList) with
     | none=>rw [hq] at h;cases h
     | some j=>rw [hq] at h;exact ⟨j,hq,by simpa using h.symm⟩
    obtain ⟨h4,h5⟩:=putF_some hj
    exact ⟨by simpa using h4,by show (if g.1.data.toList=f.1.data.toList then (g.1,f.2)::r else g::putF r f)=_;rw [if_neg h3,h5];rfl⟩
def RowsB (w:World) (B H N:Nat) (l:List (ByteArray×ValD)) (a:Option Addr):Prop :=
 ∃ f,FldQ w B N l f∧((l=[]∧a=none)∨∃ ad:Addr,a=some ad∧(l=[]∨∃ b o,ad=⟨b,o,none⟩∧b<w.heap.size∧(b<B∨H≤b)∧∀ k,k<l.length→CellsAt w b (o+k * 14) (f k)))
theorem RowsB.of {w:World} {B H N:Nat} {l:List (ByteArray×ValD)} {a:Option Addr} (h:FieldsAt w B N l a) (hB:B≤w.heap.size):RowsB w B H N l a:=by
 by_cases hn:l=[]
 ·subst hn
  refine ⟨fun _=>[],fun k hk=>(by simp at hk),?_⟩
  cases a with
  | none=>exact .inl ⟨rfl,rfl⟩
  | some ad=>exact .inr ⟨ad,rfl,.inl rfl⟩
 ·obtain ⟨b,o,f,e,hlt,h1,h2⟩:=h.rows hn
  exact ⟨f,h1,.inr ⟨_,e,.inr ⟨b,o,rfl,by omega,.inl hlt,h2⟩⟩⟩
theorem RowsB.fields {w:World} {B H N:Nat} {l:List (ByteArray×ValD)} {a:Option Addr} (h:RowsB w B H N l a) (hB:B≤w.heap.size):FieldsAt w w.heap.size N l a:=by
 obtain ⟨f,h1,⟨rfl,rfl⟩ | ⟨ad,rfl,rfl | ⟨b,o,rfl,h2,h3,h4⟩⟩⟩:=h
 ·exact trivial
 ·exact trivial
 ·refine FieldsAt_of' h2 l o fun i hi=>?_
  obtain ⟨cs,c1,c2,c3⟩:=h1 i hi
  refine ⟨cs,c2,?_,c3.mono hB⟩
  rw [← c1]
  exact h4 i hi
theorem RowsB.later {w w':World} {B H N:Nat} {l:List (ByteArray×ValD)} {a:Option Addr} (h:RowsB w B H N l a) (hb:Below w.heap.size w w') (hB:B≤w.heap.size):RowsB w' B H N l a:=by
 obtain ⟨f,h1,h2⟩:=h
 refine ⟨f,h1.then hb hB,?_⟩
 rcases h2 with h2 | ⟨ad,e,h2 | ⟨b,o,rfl,h2,h3,h4⟩⟩
 ·exact .inl h2
 ·exact .inr ⟨ad,e,.inl h2⟩
 ·exact .inr ⟨_,e,.inr ⟨b,o,rfl,Nat.lt_of_lt_of_le h2 hb.size,h3,fun k hk=>(h4 k hk).below hb h2⟩⟩
theorem RowsB.setRow {w:World} {B H N g:Nat} {l:List (ByteArray×ValD)} {a:Option Addr} (h:RowsB w B H N l a) (h1:B≤g) (h2:g<H) (new:Array Value):RowsB (w.setRow g new) B H N l a:=by
 obtain ⟨f,hf,h3⟩:=h
 refine ⟨f,fun k hk=>?_,?_⟩
 ·obtain ⟨cs,c1,c2,c3⟩:=hf k hk
  exact ⟨cs,c1,c2,c3.below (below_setRow (Below.refl _ _) h1 _)⟩
 ·rcases h3 with h3 | ⟨ad,e,h3 | ⟨b,o,rfl,h3,h4,h5⟩⟩
  ·exact .inl h3
  ·exact .inr ⟨ad,e,.inl h3⟩
  ·refine .inr ⟨_,e,.inr ⟨b,o,rfl,by rw [setRow_size];exact h3,h4,fun k hk j hj=>?_⟩⟩
   have h6:=h5 k hk j hj
   have e2:(w.setRow g new).heap[b]?=w.heap[b]?:=setRow_other _ _ _ _ (by omega)
   rw [← h6]
   unfold World.cell?
   simp only [e2]
theorem RowsB.own {w:World} {B H N base n:Nat} {v:Value} {xs:List Value} {l:List (ByteArray×ValD)} {f:Nat→List Value} (h:w.ownsRow base 41 14 v n xs) (hl:l.length=n) (hxs:xs=flatR n f) (hf:FldQ w B N l f) (hH:H≤base):∃ a c,v=.slice a l.length c∧RowsB w B H N l a:=by
 subst hl
 subst hxs
 rcases h.2 with ⟨rfl,h5⟩ | ⟨q,cap,cur,rfl,h5,h6,h7,h8,h9,h10⟩
 ·exact ⟨none,0,by rw [h5],f,hf,.inl ⟨List.eq_nil_of_length_eq_zero h5,rfl⟩⟩
 ·have hR:RowT 41 w q (flatR l.length f++cur.toList.drop (l.length * 14)):=by
   unfold RowT
   rw [h6,← h10,List.take_append_drop]
  exact ⟨some ⟨q,0,none⟩,cap,rfl,f,hf,.inr ⟨_,rfl,.inr ⟨q,0,rfl,hR.lt,.inr (Nat.le_trans hH h5),fun k hk=>by
   rw [Nat.zero_add]
   exact cellsOfRange ((hf.rows hR).range hk)⟩⟩⟩
def SrcF (w:World) (m:Nat) (lb:Option Addr) (ns:List Value):Prop:=(m=0∧lb=none∧ns=[])∨∃ ad:Addr,lb=some ad∧ns.length=m * 14∧(∀ j u,ns[j]?=some u→w.cell? (ad.add j)=some u)∧∀ u∈ns,u.oneCell'=true
theorem SrcF.later {w w':World} {m:Nat} {b:Nat} {o:Nat} {ns:List Value} (h:SrcF w m (some ⟨b,o,none⟩) ns) (hb:Below w.heap.size w w') (hlt:b<w.heap.size):SrcF w' m (some ⟨b,o,none⟩) ns:=by
 rcases h with ⟨_,h,_⟩ | ⟨ad,e,h1,h2,h3⟩
 ·cases h
 ·cases e
  refine .inr ⟨_,rfl,h1,fun j u hu=>?_,h3⟩
  rw [← h2 j u hu]
  rw [Addr.add_mid]
  exact hb.cell hlt
end Go.Proofs.YtagkjofpncpcpaaGreatDoor

/- A field put over others: datakitref37.put. -/
namespace Go.Proofs.YtagkjofpncpcpaaGreatDoor
open Go.RowKit Stb
end Go.Proofs.YtagkjofpncpcpaaGreatDoor

/- Sums of other kinds; of maps, the reference's side. -/
namespace Go.Proofs.YtagkjofpncpcpaaGreatDoor
open Go.RowKit Stb
end Go.Proofs.YtagkjofpncpcpaaGreatDoor
