/- Values whose parts lie in stretches of blocks of their own. No program here. -/
import Derived.Test.YtniljgkkcnekgaaGreatDoorProg
import Derived.Test.YtniljgkkcnekgaaGreatDoorGA
import Derived.Test.YtniljgkkcnekgaaGreatDoorGB
import Derived.Test.YtniljgkkcnekgaaGreatDoorGC
import Derived.Test.YtniljgkkcnekgaaGreatDoorSA
namespace Go.Proofs.YtniljgkkcnekgaaGreatDoor
namespace Stb
end Stb
open Go.RowKit Stb
def Same (S E:Nat) (w c:World):Prop:=w.heap.size≤c.heap.size∧∀ q,S≤q→q<E→c.heap[q]?=w.heap[q]?
theorem Same.refl (S E:Nat) (w:World):Same S E w w:=⟨Nat.le_refl _,fun _ _ _=>rfl⟩
theorem Same.trans {S E:Nat} {a b c:World} (h:Same S E a b) (k:Same S E b c):Same S E a c:=⟨Nat.le_trans h.1 k.1,fun q h1 h2=>(k.2 q h1 h2).trans (h.2 q h1 h2)⟩
theorem Same.part {S E S' E':Nat} {a b:World} (h:Same S E a b) (hS:S≤S') (hE:E'≤E):Same S' E' a b:=⟨h.1,fun q h1 h2=>h.2 q (by omega) (by omega)⟩
theorem Same.row {t:TypeId} {S E g:Nat} {w c:World} {cs:List Value} (h:Same S E w c) (hr:RowT t w g cs) (h1:S≤g) (h2:g<E):RowT t c g cs:=(h.2 g h1 h2).trans hr
theorem Same.of_below {S E:Nat} {w c:World} (h:Below w.heap.size w c) (hE:E≤w.heap.size):Same S E w c:=⟨h.size,fun q _ h2=>h.block q (by omega)⟩
theorem Same.of_keep {L S E:Nat} {no:Option Nat} {w c:World} (h:Keep L no w c) (hL:L≤S) (hE:E≤w.heap.size) (hn:∀ q,no=some q→q<S∨E≤q):Same S E w c :=
 ⟨h.1,fun q h1 h2=>h.2 q (by omega) (by omega) (fun e=>by rcases hn q e with h3 | h3<;>omega)⟩
def BytesIn (w:World) (S E:Nat) (l:List Int) (a:Option Addr):Prop:=∀ c,Same S E w c→BytesAt c c.heap.size l a
theorem BytesIn.step {w c:World} {S E:Nat} {l:List Int} {a:Option Addr} (h:BytesIn w S E l a) (hs:Same S E w c):BytesIn c S E l a:=fun d hd=>h d (hs.trans hd)
def LieAt (lo hi g n:Nat) (st en:Nat→Nat):Prop:=∀ k,k<n→lo≤st k∧st k≤en k∧en k≤hi∧(g<st k∨en k≤g)∧∀ j,j<k→en j≤st k
def TreeAt (N:Nat):Nat→World→Nat→Nat→ValD→List Value→Prop
 | 0,_,_,_,_,_=>False
 | n+1,w,S,E,v,cs=>∃ ya la va yc lc vc m1 m2,cs=v.row ya la va yc lc vc∧v.Own N∧(S≤m1∧m1≤m2∧m2≤E∧E≤w.heap.size)∧BytesIn w S m1 v.bytes ya ∧
    (v.list=[]∨∃ g f tl st en,la=some ⟨g,0,none⟩∧m1≤g∧g<m2∧RowsV w g v.list.length f tl∧LieAt m1 m2 g v.list.length st en∧∀ k (hk:k<v.list.length),TreeAt N n w (st k) (en k) v.list[k] (f k)) ∧
    (v.fields=[]∨∃ g f tl st en,va=some ⟨g,0,none⟩∧m2≤g∧g<E∧RowsF w g v.fields.length f tl∧LieAt m2 E g v.fields.length st en∧∀ k (hk:k<v.fields.length),∃ ds,f k=.string v.fields[k].1::ds∧v.fields[k].1.size≤N∧TreeAt N n w (st k) (en k) v.fields[k].2 ds)
theorem TreeAt.step {N:Nat}:∀ {n:Nat} {w c:World} {S E:Nat} {v:ValD} {cs:List Value},TreeAt N n w S E v cs→Same S E w c→TreeAt N n c S E v cs
 | 0,_,_,_,_,_,_,h,_=>h
 | n+1,w,c,S,E,v,cs,⟨ya,la,va,yc,lc,vc,m1,m2,h1,h2,⟨h3,h4,h5,h6⟩,h7,h8,h9⟩,hs=>by
   refine ⟨ya,la,va,yc,lc,vc,m1,m2,h1,h2,⟨h3,h4,h5,Nat.le_trans h6 hs.1⟩,h7.step (hs.part (Nat.le_refl _) (by omega)),?_,?_⟩
   ·rcases h8 with h | ⟨g,f,tl,st,en,a1,a2,a3,a4,a5,a6⟩
    ·exact .inl h
    ·refine .inr ⟨g,f,tl,st,en,a1,a2,a3,⟨hs.row a4.row (by omega) (by omega),a4.len,a4.one⟩,a5,fun k hk=>?_⟩
     obtain ⟨b1,b2,b3,_⟩:=a5 k hk
     exact (a6 k hk).step (hs.part (by omega) (by omega))
   ·rcases h9 with h | ⟨g,f,tl,st,en,a1,a2,a3,a4,a5,a6⟩
    ·exact .inl h
    ·refine .inr ⟨g,f,tl,st,en,a1,a2,a3,⟨hs.row a4.row (by omega) (by omega),a4.len,a4.one,a4.key⟩,a5,fun k hk=>?_⟩
     obtain ⟨b1,b2,b3,_⟩:=a5 k hk
     obtain ⟨ds,c1,c2,c3⟩:=a6 k hk
     exact ⟨ds,c1,c2,c3.step (hs.part (by omega) (by omega))⟩
theorem TreeAt.at {N:Nat}:∀ {n:Nat} {w:World} {S E:Nat} {v:ValD} {cs:List Value},TreeAt N n w S E v cs→ValD.At w w.heap.size N v cs
 | 0,_,_,_,_,_,h=>h.elim
 | n+1,w,S,E,v,cs,⟨ya,la,va,yc,lc,vc,m1,m2,h1,h2,⟨h3,h4,h5,h6⟩,h7,h8,h9⟩=>by
   rw [h1]
   refine ValD.At.mk h2 (h7 w (Same.refl _ _ _)) ?_ ?_
   ·rcases h8 with h | ⟨g,f,tl,st,en,a1,a2,a3,a4,a5,a6⟩
    ·rw [h];exact trivial
    ·rw [a1]
     refine ValsAt_of' (by omega) _ _ fun i hi=>⟨f i,?_,(a6 i hi).at⟩
     rw [Nat.zero_add]
     exact cellsOfRange (a4.range hi)
   ·rcases h9 with h | ⟨g,f,tl,st,en,a1,a2,a3,a4,a5,a6⟩
    ·rw [h];exact trivial
    ·rw [a1]
     refine FieldsAt_of' (by omega) _ _ fun i hi=>?_
     obtain ⟨ds,c1,c2,c3⟩:=a6 i hi
     refine ⟨ds,c2,?_,c3.at⟩
     rw [Nat.zero_add,← c1]
     exact cellsOfRange (a4.range hi)
theorem TreeAt.len {N n:Nat} {w:World} {S E:Nat} {v:ValD} {cs:List Value} (h:TreeAt N n w S E v cs):cs.length=13:=h.at.len
theorem TreeAt.size {N n:Nat} {w:World} {S E:Nat} {v:ValD} {cs:List Value} (h:TreeAt N n w S E v cs):S≤E∧E≤w.heap.size:=by
 cases n with
 | zero=>exact h.elim
 | succ n =>
   obtain ⟨ya,la,va,yc,lc,vc,m1,m2,h1,h2,⟨h3,h4,h5,h6⟩,_⟩:=h
   exact ⟨by omega,h6⟩
def Trees (N n m:Nat) (own:Option Nat) (w:World) (l:List ValD) (k:Nat) (xs:List Value):Prop :=
 ∃ st en:Nat→Nat,∀ j (hj:j<l.length),j<k→m≤st j∧st j≤en j∧en j≤w.heap.size∧(∀ q,own=some q→q<st j∨en j≤q)∧(∀ i,i<j→en i≤st j)∧TreeAt N n w (st j) (en j) l[j] ((xs.drop (j * 13)).take 13)
theorem Trees.nil {N n m:Nat} {own:Option Nat} {w:World} {l:List ValD} {xs:List Value}:Trees N n m own w l 0 xs:=⟨fun _=>0,fun _=>0,fun _ _ h=>absurd h (Nat.not_lt_zero _)⟩
theorem Trees.push {N n m k g S E:Nat} {own:Option Nat} {w w5 w6:World} {l:List ValD} {xs cs:List Value} (h:Trees N n m own w l k xs) (hx:xs.length=k * 13) (h2:cs.length=13)
 (hf:Keep m own w w6∧∀ q,m≤q→some g=some q→own=some q∨w.heap.size≤q) (_hg:m≤g) (hm:m≤w.heap.size) (hw:w.heap.size≤S) (hSE:S≤E) (hE:E=w5.heap.size) (hn:∀ hk:k<l.length,TreeAt N n w5 S E l[k] cs) (hf2:Keep S none w5 w6) (ho:own=some g∧g<w.heap.size∨E≤g):Trees N n m (some g) w6 l (k+1) (xs++cs):=by
 obtain ⟨st,en,H⟩:=h
 refine ⟨fun j=>if j<k then st j else S,fun j=>if j<k then en j else E,fun j hj hjk=>?_⟩
 rw [drop_take_append hx h2 hjk]
 by_cases hlt:j<k
 ·obtain ⟨a1,a2,a3,a4,a5,a6⟩:=H j hj hlt
  dsimp only
  rw [if_pos hlt,if_pos hlt,if_pos hlt]
  refine ⟨a1,a2,Nat.le_trans a3 hf.1.1,fun q hq=>?_,fun i hi=>?_,a6.step (Same.of_keep hf.1 a1 a3 a4)⟩
  ·cases hq
   rcases ho with ⟨e,_⟩ | e
   ·exact a4 g e
   ·exact .inr (by omega)
  ·rw [if_pos (by omega)]
   exact a5 i hi
 ·obtain rfl:j=k:=by omega
  dsimp only
  rw [if_neg (Nat.lt_irrefl _),if_neg (Nat.lt_irrefl _),if_neg (Nat.lt_irrefl _)]
  refine ⟨by omega,hSE,?_,fun q hq=>?_,fun i hi=>?_,(hn hj).step (Same.of_keep hf2 (Nat.le_refl _) (by omega) (fun q h=>by cases h))⟩
  ·rw [hE];exact hf2.1
  ·cases hq
   rcases ho with ⟨_,e⟩ | e
   ·exact .inl (by omega)
   ·exact .inr e
  ·rw [if_pos hi]
   have:=(H i (by omega) hi).2.2.1
   omega
def TreesF (N n m:Nat) (own:Option Nat) (w:World) (l:List (ByteArray×ValD)) (k:Nat) (xs:List Value):Prop :=
 ∃ st en:Nat→Nat,∀ j (hj:j<l.length),j<k→m≤st j∧st j≤en j∧en j≤w.heap.size∧(∀ q,own=some q→q<st j∨en j≤q)∧(∀ i,i<j→en i≤st j)∧∃ ds,(xs.drop (j * 14)).take 14=.string l[j].1::ds∧l[j].1.size≤N∧TreeAt N n w (st j) (en j) l[j].2 ds
theorem TreesF.nil {N n m:Nat} {own:Option Nat} {w:World} {l:List (ByteArray×ValD)} {xs:List Value}:TreesF N n m own w l 0 xs:=⟨fun _=>0,fun _=>0,fun _ _ h=>absurd h (Nat.not_lt_zero _)⟩
theorem TreesF.push {N n m k g S E:Nat} {own:Option Nat} {w w5 w6:World} {l:List (ByteArray×ValD)} {ky:ByteArray} {xs cs:List Value} (h:TreesF N n m own w l k xs) (hx:xs.length=k * 14) (h2:cs.length=13)
 (hf:Keep m own w w6∧∀ q,m≤q→some g=some q→own=some q∨w.heap.size≤q) (_hg:m≤g) (hm:m≤w.heap.size) (hw:w.heap.size≤S) (hSE:S≤E) (hE:E=w5.heap.size) (hn:∀ hk:k<l.length,l[k].1=ky∧ky.size≤N∧TreeAt N n w5 S E l[k].2 cs) (hf2:Keep S none w5 w6) (ho:own=some g∧g<w.heap.size∨E≤g):TreesF N n m (some g) w6 l (k+1) (xs++.string ky::cs):=by
 obtain ⟨st,en,H⟩:=h
 refine ⟨fun j=>if j<k then st j else S,fun j=>if j<k then en j else E,fun j hj hjk=>?_⟩
 rw [drop_take_append14 hx (by rw [List.length_cons,h2]) hjk]
 by_cases hlt:j<k
 ·obtain ⟨a1,a2,a3,a4,a5,ds,b1,b2,a6⟩:=H j hj hlt
  dsimp only
  rw [if_pos hlt,if_pos hlt,if_pos hlt]
  refine ⟨a1,a2,Nat.le_trans a3 hf.1.1,fun q hq=>?_,fun i hi=>?_,ds,b1,b2,a6.step (Same.of_keep hf.1 a1 a3 a4)⟩
  ·cases hq
   rcases ho with ⟨e,_⟩ | e
   ·exact a4 g e
   ·exact .inr (by omega)
  ·rw [if_pos (by omega)]
   exact a5 i hi
 ·obtain rfl:j=k:=by omega
  dsimp only
  rw [if_neg (Nat.lt_irrefl _),if_neg (Nat.lt_irrefl _),if_neg (Nat.lt_irrefl _)]
  obtain ⟨n1,n2,n3⟩:=hn hj
  refine ⟨by omega,hSE,?_,fun q hq=>?_,fun i hi=>?_,cs,by rw [n1],by rw [n1];exact n2,n3.step (Same.of_keep hf2 (Nat.le_refl _) (by omega) (fun q h=>by cases h))⟩
  ·rw [hE];exact hf2.1
  ·cases hq
   rcases ho with ⟨_,e⟩ | e
   ·exact .inl (by omega)
   ·exact .inr e
  ·rw [if_pos hi]
   have:=(H i (by omega) hi).2.2.1
   omega
theorem flatV_cut {xs:List Value}:∀ {n:Nat},xs.length=n * 13→flatV n (fun k=>(xs.drop (k * 13)).take 13)=xs:=by
 intro n h
 have hl:∀ k,k<n→((fun k=>(xs.drop (k * 13)).take 13) k).length=13:=fun k hk=>by
  have:=Nat.mul_le_mul_right 13 (show k+1≤n from hk)
  simp only [List.length_take,List.length_drop]
  omega
 apply List.ext_getElem?
 intro i
 rcases Nat.lt_or_ge i (n * 13) with h1 | h1
 ·have e:i=i / 13 * 13+i % 13:=by omega
  have h2:i % 13<13:=by omega
  have h3:i / 13<n:=by omega
  rw [e,flatV_get hl h3 h2,List.getElem?_take,if_pos h2,List.getElem?_drop]
 ·rw [List.getElem?_eq_none (by rw [flatV_len hl];exact h1),List.getElem?_eq_none (by omega)]
theorem flatR_cut {xs:List Value}:∀ {n:Nat},xs.length=n * 14→flatR n (fun k=>(xs.drop (k * 14)).take 14)=xs:=by
 intro n h
 have hl:∀ k,k<n→((fun k=>(xs.drop (k * 14)).take 14) k).length=14:=fun k hk=>by
  have:=Nat.mul_le_mul_right 14 (show k+1≤n from hk)
  simp only [List.length_take,List.length_drop]
  omega
 apply List.ext_getElem?
 intro i
 rcases Nat.lt_or_ge i (n * 14) with h1 | h1
 ·have e:i=i / 14 * 14+i % 14:=by omega
  have h2:i % 14<14:=by omega
  have h3:i / 14<n:=by omega
  rw [e,flatR_get hl h3 h2,List.getElem?_take,if_pos h2,List.getElem?_drop]
 ·rw [List.getElem?_eq_none (by rw [flatR_len hl];exact h1),List.getElem?_eq_none (by omega)]
theorem Trees.done {N n m:Nat} {s:Value} {w:World} {l:List ValD} {xs:List Value} (h:Trees N n m s.ownBlock w l l.length xs) (ho:w.ownsRow m 39 13 s l.length xs) :
 ∃ a c,s=.slice a l.length c∧(l=[]∨∃ g f tl st en,a=some ⟨g,0,none⟩∧m≤g∧g<w.heap.size∧RowsV w g l.length f tl∧LieAt m w.heap.size g l.length st en∧∀ k (hk:k<l.length),TreeAt N n w (st k) (en k) l[k] (f k)):=by
 obtain ⟨hlen,h2⟩:=ho
 obtain ⟨st,en,H⟩:=h
 rcases h2 with ⟨rfl,h0⟩ | ⟨g,cap,cur,rfl,hg,hh,hc,hm,hcs,htake⟩
 ·exact ⟨none,0,by rw [h0],.inl (List.length_eq_zero_iff.1 h0)⟩
 ·refine ⟨_,_,rfl,.inr ⟨g,fun k=>(xs.drop (k * 13)).take 13,cur.toList.drop (l.length * 13),st,en,rfl,hg,(Array.getElem?_eq_some_iff.1 hh).1,⟨?_,fun k hk=>?_,fun k hk=>?_⟩,fun k hk=>?_,fun k hk=>?_⟩⟩
  ·unfold RowT
   rw [hh,flatV_cut hlen,← htake,List.take_append_drop]
  ·exact (H k hk hk).2.2.2.2.2.len
  ·exact (H k hk hk).2.2.2.2.2.at.oneCell
  ·obtain ⟨a1,a2,a3,a4,a5,_⟩:=H k hk hk
   exact ⟨a1,a2,a3,a4 g rfl,a5⟩
  ·exact (H k hk hk).2.2.2.2.2
theorem TreesF.done {N n m:Nat} {s:Value} {w:World} {l:List (ByteArray×ValD)} {xs:List Value} (h:TreesF N n m s.ownBlock w l l.length xs) (ho:w.ownsRow m 76 14 s l.length xs) :
 ∃ a c,s=.slice a l.length c∧(l=[]∨∃ g f tl st en,a=some ⟨g,0,none⟩∧m≤g∧g<w.heap.size∧RowsF w g l.length f tl∧LieAt m w.heap.size g l.length st en∧∀ k (hk:k<l.length),∃ ds,f k=.string l[k].1::ds∧l[k].1.size≤N∧TreeAt N n w (st k) (en k) l[k].2 ds):=by
 obtain ⟨hlen,h2⟩:=ho
 obtain ⟨st,en,H⟩:=h
 rcases h2 with ⟨rfl,h0⟩ | ⟨g,cap,cur,rfl,hg,hh,hc,hm,hcs,htake⟩
 ·exact ⟨none,0,by rw [h0],.inl (List.length_eq_zero_iff.1 h0)⟩
 ·refine ⟨_,_,rfl,.inr ⟨g,fun k=>(xs.drop (k * 14)).take 14,cur.toList.drop (l.length * 14),st,en,rfl,hg,(Array.getElem?_eq_some_iff.1 hh).1,⟨?_,fun k hk=>?_,fun k hk=>?_,fun k hk=>?_⟩,fun k hk=>?_,fun k hk=>?_⟩⟩
  ·unfold RowT
   rw [hh,flatR_cut hlen,← htake,List.take_append_drop]
  ·obtain ⟨ds,e1,e2,e3⟩:=(H k hk hk).2.2.2.2.2
   simp only [e1,List.length_cons,e3.len]
  ·obtain ⟨ds,e1,e2,e3⟩:=(H k hk hk).2.2.2.2.2
   intro u hu
   simp only [e1] at hu
   rcases List.mem_cons.1 hu with rfl | hu
   ·rfl
   ·exact e3.at.oneCell u hu
  ·obtain ⟨ds,e1,e2,e3⟩:=(H k hk hk).2.2.2.2.2
   simp only [e1]
   rfl
  ·obtain ⟨a1,a2,a3,a4,a5,_⟩:=H k hk hk
   exact ⟨a1,a2,a3,a4 g rfl,a5⟩
  ·exact (H k hk hk).2.2.2.2.2
end Go.Proofs.YtniljgkkcnekgaaGreatDoor
