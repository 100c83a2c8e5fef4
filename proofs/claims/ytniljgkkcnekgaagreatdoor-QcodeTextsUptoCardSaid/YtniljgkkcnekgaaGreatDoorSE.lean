/- value.sorted: the rows of the sorted slice are those of the given one, in another order. -/
import Derived.Test.YtniljgkkcnekgaaGreatDoorProg
import Derived.Test.YtniljgkkcnekgaaGreatDoorGA
import Derived.Test.YtniljgkkcnekgaaGreatDoorGB
import Derived.Test.YtniljgkkcnekgaaGreatDoorGF
import Derived.Test.YtniljgkkcnekgaaGreatDoorGC
import Derived.Test.YtniljgkkcnekgaaGreatDoorSA
import Derived.Test.YtniljgkkcnekgaaGreatDoorSB
import Derived.Test.YtniljgkkcnekgaaGreatDoorSD
import Derived.Test.YtniljgkkcnekgaaGreatDoorTre41
namespace Go.Proofs.YtniljgkkcnekgaaGreatDoor
namespace Stb
end Stb
open Go.RowKit Stb
theorem perm_idx {l:List (ByteArray×ValD)} {f g:Nat→List Value} (hkey:∀ k (hk:k<l.length),keyR (f k)=l[k].1) (hd:(l.map (·.1.data.toList)).Nodup) (P:PermOn 0 l.length f g) (S:SortedOn LeR g 0 l.length) :
 ∃ s:Nat→Nat,(∀ k,k<l.length→s k<l.length)∧(∀ j k,s j=s k→j=k)∧(∀ k,g k=f (s k))∧∀ k (h:k<(sortF l).length),∃ hs:s k<l.length,(sortF l)[k]=l[s k]:=by
 obtain ⟨s,t,h1,h2,h3,h4⟩:=P
 obtain ⟨m,hm⟩:∃ m,m=((List.range l.length).map s).map (fun k=>l[k]!):=⟨_,rfl⟩
 have hs:List.Perm ((List.range l.length).map s) (List.range l.length):=by
  refine (List.perm_ext_iff_of_nodup ?_ List.nodup_range).2 fun a=>?_
  ·refine List.Pairwise.map s (fun a b hab e=>hab ?_) List.nodup_range
   rw [← (h2 a).1,← (h2 b).1,e]
  ·rw [List.mem_map,List.mem_range]
   constructor
   ·rintro ⟨k,hk,rfl⟩
    exact (h1 k (Nat.zero_le _) (List.mem_range.1 hk)).1.2
   ·intro ha
    exact ⟨t a,List.mem_range.2 (h1 a (Nat.zero_le _) ha).2.2,(h2 a).2⟩
 have hl:(List.range l.length).map (fun k=>l[k]!)=l:=by
  apply List.ext_getElem
  ·simp
  ·intro i h5 h6
   simp [h6]
 have hp:List.Perm m l:=by
  have:=hs.map (fun k=>l[k]!)
  rw [hl,← hm] at this
  exact this
 have hlen:m.length=l.length:=hp.length_eq
 have hget:∀ k (hk:k<m.length),∃ hs:s k<l.length,m[k]=l[s k]:=fun k hk=>by
  have h5:=(h1 k (Nat.zero_le _) (by omega)).1.2
  refine ⟨h5,?_⟩
  simp only [hm,List.getElem_map,List.getElem_range]
  exact getElem!_pos l (s k) h5
 have hm2:m=sortF l:=by
  refine sortF_unique hd hp (List.pairwise_iff_getElem.2 fun i j hi hj hij=>?_)
  have h5:=S i j (Nat.zero_le _) hij (by omega)
  obtain ⟨a1,a2⟩:=hget i hi
  obtain ⟨b1,b2⟩:=hget j hj
  unfold LeR at h5
  rw [h4 i,h4 j,hkey _ a1,hkey _ b1] at h5
  unfold LeF
  rw [a2,b2]
  exact h5
 rw [← hm2]
 exact ⟨s,fun k hk=>(h1 k (Nat.zero_le _) hk).1.2,fun j k e=>by rw [← (h2 j).1,← (h2 k).1,e],h4,hget⟩
set_option maxRecDepth 100000 in
theorem clonef_t (n g0 yc:Nat) (f:Nat→List Value) (tl0:List Value) (w:World) (hl:n≤4294967296) (R:RowsF w g0 n f tl0) :
 Calls Tryz.prog 138 #[.slice (some ⟨g0,0,none⟩) n yc] w (fun e w'=>Below w.heap.size w w'∧∃ g cap tl,e=.returned (.slice (some ⟨g,0,none⟩) n cap)∧w.heap.size≤g∧RowsF w' g n f tl):=by
 obtain ⟨z,hzs,hinfo⟩:=infoF
 obtain ⟨i0,hi,hz0,hz1,hz2⟩:=info_parts hinfo
 have HI:=Hd hi
 have HZ0:=Hd hz0
 have HZ1:=Hd hz1
 have HZ2:=Hd hz2
 have HZS:=Hd hzs
 clear hi hz0 hz1 hz2 hinfo hzs
 have q26:∀ (w:World) (a:Option Addr) (n c n' c':Nat),(binOp .eql 37 (.slice a n c) (.slice none n' c')).run Tryz.prog w=.ok (.bool a.isNone) w:=fun w a n c n' c'=>Lib.run_eql_slice_nil w _ _ a n c n' c' Tryz.underlying37
 have HRR:=Hd R
 have HN:=Hd (show ∀ w':World,Below w.heap.size w w'→∀ j u,(flatR n f)[j]?=some u→w'.cell? ((⟨g0,0,none⟩:Addr).add j)=some u from fun w' hw j u hu=>by
  rw [Addr.add_mid,Nat.zero_add]
  exact (R.row.then hw).cell (by rw [List.getElem?_append_left (List.getElem?_eq_some_iff.1 hu).1];exact hu))
 have HL:=Hd (flatR_len R.len)
 have HO:=Hd (flat_one R.one)
 obtain ⟨fl,hfl⟩:∃ fl,fl=flatR n f:=⟨_,rfl⟩
 have HFL:=Hd hfl
 rw [← hfl] at HN HL HO
 clear hfl R
 go_enter Tryz.func138,Tryz.ntmps138
 go_wp2_with (at_builtin;refine wpList_append_own _ rfl _ _ 37 rfl w.heap.size 76 i0 (.agg z) 14 184 Tryz.underlying37 HI.out HZ0.out HZ1.out HZ2.out HZS.out (by decide) _ _ _ rfl (World.ownsRow_made w #[] 0 (Nat.le_refl _) (Nat.zero_le _) rfl) ⟨g0,0,none⟩ n yc fl rfl HL.out (HN.out _ (belowBox w _)) HO.out ?qc4 ?qc5 ?qc6 ?_)
 case qc4=>unfold maxLen;omega
 case qc5=>omega
 case qc6=>simp
 intro v' w1 hown hgrow hnil2
 have HB:=Hd (show Below w.heap.size w w1 from (belowBox w _).grown hgrow (by simp) (by intro k hk;simp [Value.ownBlock] at hk;omega))
 have HQ:=Hd (show ∃ g cap tl,v'=.slice (some ⟨g,0,none⟩) n cap∧w.heap.size≤g∧RowT 76 w1 g (flatR n f++tl) by
  rcases hown.2 with ⟨h5,_⟩ | ⟨g,cap,cur,h5,h6,h7,_,_,h8,h9⟩
  ·exact absurd h5 hnil2
  ·refine ⟨g,cap,cur.toList.drop (n * 14),by simpa using h5,h6,?_⟩
   unfold RowT
   rw [h7]
   have h9':cur.toList.take (n * 14)=fl:=by simpa using h9
   rw [← HFL.out,← h9',List.take_append_drop])
 clear hown hgrow hnil2
 obtain ⟨g,cap,tl,hv,hg,hr⟩:=HQ.out
 subst hv
 have HR:=Hd hr
 have HG:=Hd hg
 clear HQ hr hg
 go_wp2_with fail
 go_ret
 exact ⟨HB.out,g,cap,tl,rfl,HG.out,⟨HR.out,HRR.out.len,HRR.out.one,HRR.out.key⟩⟩
def SorT (l:List (ByteArray×ValD)) (f:Nat→List Value) (w:World) (e:Ending) (w':World):Prop:=∃ a c,e=.returned (.slice a l.length c)∧Below w.heap.size w w' ∧
 (l=[]∨∃ (g:Nat) (tl:List Value) (s:Nat→Nat),a=some ⟨g,0,none⟩∧w.heap.size≤g∧RowsF w' g l.length (fun k=>f (s k)) tl∧(∀ k,k<l.length→s k<l.length)∧(∀ j k,s j=s k→j=k)∧∀ k (h:k<(sortF l).length),∃ hs:s k<l.length,(sortF l)[k]=l[s k])
set_option maxRecDepth 100000 in
theorem sorted_t (l:List (ByteArray×ValD)) (cs:List Value) (va:Option Addr) (vc:Nat) (f:Nat→List Value) (w:World) (hn:l.length≤4294967296) (hc:cs[12]?=some (.slice va l.length vc))
 (hs:l=[]∨∃ g tl,va=some ⟨g,0,none⟩∧RowsF w g l.length f tl) (hkey:∀ k (hk:k<l.length),keyR (f k)=l[k].1) (hd:(l.map (·.1.data.toList)).Nodup) :
 Calls Tryz.prog 119 #[.agg cs.toArray] w (SorT l f w):=by
 have HD:=Hd hd
 have HK:=Hd hkey
 have H0:=Hd (belowBox w (.cells cs.toArray 39))
 have c12:(w.alloc (.cells cs.toArray 39)).cell? ⟨w.heap.size,12,none⟩=some (.slice va l.length vc):=(RowT.new w 39 cs).cell hc
 clear hc hd hkey
 rcases hs with h0 | ⟨g0,tl0,hva,hR⟩
 ·have HZ:=Hd h0
  have hb0:∀ u,FieldsAt u u.heap.size 0 l va:=fun u=>by rw [h0];exact trivial
  have HB0:=Hd hb0
  clear hb0 h0
  go_enter Tryz.func119,Tryz.ntmps119
  go_wp2_with fail
  refine (clonef_ex l va vc _ 0 _ hn (Nat.le_refl _) (HB0.out _)).mono ?_
  rintro e w1 ⟨hb,⟨_,rfl⟩ | ⟨g,cap,f1,tl,rfl,hg,hr,hf⟩⟩
  ·have HB:=Hd (belowThen H0.out hb)
   clear hb c12
   go_wp2_with (go_at_call 139;refine (stable0_ex _).mono ?_;rintro e w2 ⟨rfl,rfl⟩)
   go_ret
   exact ⟨none,0,by rw [HZ.out];rfl,HB.out,.inl HZ.out⟩
  ·have HB:=Hd (belowThen H0.out hb)
   have HR:=Hd hr
   have hg2:w.heap.size≤g:=by have:=H0.out.size;omega
   clear hb c12 hr hf
   go_wp2_with (go_at_call 139;refine (stable_ex l.length cap g f1 tl _ (by omega) HR.out).mono ?_;rintro e w2 ⟨rfl,hf2,g2,hr2,hg3⟩;have HF3:=Hd hf2;clear hr2 hf2 hg3)
   go_ret
   exact ⟨some ⟨g,0,none⟩,cap,rfl,HB.out.trans (HF3.out.below hg2 HB.out.size),.inl HZ.out⟩
 ·subst hva
  have HR0:=Hd hR
  clear hR
  go_enter Tryz.func119,Tryz.ntmps119
  go_wp2_with fail
  refine (clonef_t l.length g0 vc f tl0 _ hn (HR0.out.fb H0.out)).mono ?_
  rintro e w1 ⟨hb,g,cap,tl,rfl,hg,hr⟩
  have HB:=Hd (belowThen H0.out hb)
  have HR:=Hd hr
  have hg2:w.heap.size≤g:=by have:=H0.out.size;omega
  clear hb c12 hr
  go_wp2_with (go_at_call 139;refine (stable_ex l.length cap g f tl _ (by omega) HR.out).mono ?_;rintro e w2 ⟨rfl,hf2,g2,hr2,hg3⟩;have HR3:=Hd hr2;have HF3:=Hd hf2;have HG:=Hd hg3;clear hr2 hf2 hg3)
  go_ret
  have hb2:Below w.heap.size w1 w2:=HF3.out.below hg2 HB.out.size
  obtain ⟨s,s1,s2,s3,s4⟩:=perm_idx HK.out HD.out HG.out.1 HG.out.2
  have e:g2=fun k=>f (s k):=funext s3
  exact ⟨some ⟨g,0,none⟩,cap,rfl,HB.out.trans hb2,.inr ⟨g,tl,s,rfl,hg2,by rw [← e];exact HR3.out,s1,s2,s4⟩⟩
end Go.Proofs.YtniljgkkcnekgaaGreatDoor

/- What stays while a value is sorted in its own place. No walk here. -/
namespace Go.Proofs.YtniljgkkcnekgaaGreatDoor
open Go.RowKit Stb
def sortD:Nat→ValD→ValD
 | 0,v=>v
 | m+1,.mk k b n t x y l f=>.mk k b n t x y (l.map (sortD m)) ((sortF f).map fun z=>(z.1,sortD m z.2))
theorem sortD_s (m:Nat) (v:ValD):(sortD (m+1) v).kind=v.kind∧(sortD (m+1) v).bool=v.bool∧(sortD (m+1) v).num=v.num∧(sortD (m+1) v).time=v.time∧(sortD (m+1) v).text=v.text∧(sortD (m+1) v).bytes=v.bytes:=by
 cases v;exact ⟨rfl,rfl,rfl,rfl,rfl,rfl⟩
theorem sortD_list (m:Nat) (v:ValD):(sortD (m+1) v).list=v.list.map (sortD m):=by cases v;rfl
theorem sortD_fields (m:Nat) (v:ValD):(sortD (m+1) v).fields=(sortF v.fields).map fun z=>(z.1,sortD m z.2):=by cases v;rfl
def KeptU (L S E:Nat) (w:World) (P:World→Prop):Prop:=∀ c:World,w.heap.size≤c.heap.size→(∀ q,q<w.heap.size→(L≤q∨(S≤q∧q<E))→c.heap[q]?=w.heap[q]?)→P c
theorem KeptU.here {L S E:Nat} {w:World} {P:World→Prop} (h:KeptU L S E w P):P w:=h w (Nat.le_refl _) (fun _ _ _=>rfl)
theorem KeptU.step {L S E:Nat} {w c:World} {P:World→Prop} (h:KeptU L S E w P) (h1:w.heap.size≤c.heap.size) (h2:∀ q,q<w.heap.size→(L≤q∨(S≤q∧q<E))→c.heap[q]?=w.heap[q]?):KeptU L S E c P :=
 fun d k1 k2=>h d (Nat.le_trans h1 k1) fun q hq ho=>(k2 q (Nat.lt_of_lt_of_le hq h1) ho).trans (h2 q hq ho)
theorem KeptU.low {L L' S E:Nat} {w:World} {P:World→Prop} (h:KeptU L' S E w P) (hL:L≤L'):KeptU L S E w P:=fun c h1 h2=>h c h1 fun q hq ho=>h2 q hq (ho.imp_left fun h=>Nat.le_trans hL h)
structure AptF (S E:Nat) (w w':World):Prop where
 os:w'.os=w.os
 tape:w'.tape=w.tape
 output:w'.output=w.output
 size:w.heap.size≤w'.heap.size
 block:∀ q,q<w.heap.size→¬ (S≤q∧q<E)→w'.heap[q]?=w.heap[q]?
theorem AptF.below {S E B:Nat} {w w':World} (h:AptF S E w w') (hB:B≤S) (hB2:B≤w.heap.size):Below B w w':=⟨h.os,h.tape,h.output,h.size,fun q hq=>h.block q (by omega) (by omega)⟩
structure Lo1 (N m:Nat) (v:ValD) (w wr:World) (cs:List Value) (g:Nat) (f:Nat→List Value) (tl:List Value) (st en:Nat→Nat) (k:Nat) (F:Nat→List Value):Prop where
 rows:v.list≠[]→RowsV wr g v.list.length F tl
 rest:∀ j,k≤j→F j=f j
 done:∀ j (hj:j<v.list.length),j<k→KeptU (w.heap.size+2) (st j) (en j) wr (fun c=>ValD.At c c.heap.size N (sortD m v.list[j]) (F j))
 os:wr.os=w.os
 tape:wr.tape=w.tape
 output:wr.output=w.output
 size:w.heap.size+2≤wr.heap.size
 block:∀ q,q<w.heap.size→(v.list≠[]→q≠g)→(∀ j,j<k→¬ (st j≤q∧q<en j))→wr.heap[q]?=w.heap[q]?
 box:RowT 39 wr w.heap.size cs
 res:RowT 39 wr (w.heap.size+1) zeroV.toList
def LisT (N m:Nat) (w:World) (m1 m2:Nat) (v:ValD) (la:Option Addr) (g:Nat) (f:Nat→List Value) (tl:List Value) (st en:Nat→Nat):Prop :=
 v.list≠[]→la=some ⟨g,0,none⟩∧m1≤g∧g<m2∧RowsV w g v.list.length f tl∧LieAt m1 m2 g v.list.length st en∧∀ k (hk:k<v.list.length),TreeAt N m w (st k) (en k) v.list[k] (f k)
def FldT (N m:Nat) (w:World) (m2 E:Nat) (v:ValD) (va:Option Addr) (g:Nat) (f:Nat→List Value) (tl:List Value) (st en:Nat→Nat):Prop :=
 v.fields≠[]→va=some ⟨g,0,none⟩∧m2≤g∧g<E∧RowsF w g v.fields.length f tl∧LieAt m2 E g v.fields.length st en∧∀ k (hk:k<v.fields.length),∃ ds,f k=.string v.fields[k].1::ds∧v.fields[k].1.size≤N∧TreeAt N m w (st k) (en k) v.fields[k].2 ds
theorem TreeAt.parts {N m:Nat} {w:World} {S E:Nat} {v:ValD} {cs:List Value} (h:TreeAt N (m+1) w S E v cs) :
 ∃ ya la va yc lc vc m1 m2,cs=v.row ya la va yc lc vc∧v.Own N∧(S≤m1∧m1≤m2∧m2≤E∧E≤w.heap.size)∧BytesIn w S m1 v.bytes ya ∧
  (∃ g f tl st en,LisT N m w m1 m2 v la g f tl st en)∧∃ g f tl st en,FldT N m w m2 E v va g f tl st en:=by
 obtain ⟨ya,la,va,yc,lc,vc,m1,m2,h1,h2,h3,h7,h8,h9⟩:=h
 refine ⟨ya,la,va,yc,lc,vc,m1,m2,h1,h2,h3,h7,?_,?_⟩
 ·rcases h8 with h | ⟨g,f,tl,st,en,a⟩
  ·exact ⟨0,fun _=>[],[],fun _=>0,fun _=>0,fun hn=>absurd h hn⟩
  ·exact ⟨g,f,tl,st,en,fun _=>a⟩
 ·rcases h9 with h | ⟨g,f,tl,st,en,a⟩
  ·exact ⟨0,fun _=>[],[],fun _=>0,fun _=>0,fun hn=>absurd h hn⟩
  ·exact ⟨g,f,tl,st,en,fun _=>a⟩
theorem Lo1.start {N m m1 m2:Nat} {v:ValD} {w:World} {la:Option Addr} {cs:List Value} {g:Nat} {f:Nat→List Value} {tl:List Value} {st en:Nat→Nat} (h:LisT N m w m1 m2 v la g f tl st en) :
 Lo1 N m v w ((w.alloc (.cells cs.toArray 39)).alloc (.cells zeroV 39)) cs g f tl st en 0 f:=by
 refine ⟨fun hn=>?_,fun _ _=>rfl,fun j _ h0=>absurd h0 (Nat.not_lt_zero _),rfl,rfl,rfl,by rw [World.size_alloc,World.size_alloc];omega,fun q hq _ _=>?_,(RowT.new w 39 cs).alloc _,?_⟩
 ·obtain ⟨_,_,_,hr,_⟩:=h hn
  exact ⟨(hr.row.alloc _).alloc _,hr.len,hr.one⟩
 ·rw [heap_alloc_old _ _ (by rw [World.size_alloc];omega),heap_alloc_old _ _ hq]
 ·have:=RowT.new (w.alloc (.cells cs.toArray 39)) 39 zeroV.toList
  rw [World.size_alloc] at this
  exact this
theorem Lo1.kid {N m m1 m2 k:Nat} {v:ValD} {w wr:World} {la:Option Addr} {cs:List Value} {g:Nat} {f F:Nat→List Value} {tl:List Value} {st en:Nat→Nat} (h:LisT N m w m1 m2 v la g f tl st en) (hm:m2≤w.heap.size) (H:Lo1 N m v w wr cs g f tl st en k F) (hk:k<v.list.length) :
 TreeAt N m wr (st k) (en k) v.list[k] (F k):=by
 have hn:v.list≠[]:=fun e=>by rw [e] at hk;simp at hk
 obtain ⟨_,_,_,_,hl,ht⟩:=h hn
 obtain ⟨b1,b2,b3,b4,b5⟩:=hl k hk
 rw [H.rest k (Nat.le_refl _)]
 refine (ht k hk).step ⟨by have:=H.size;omega,fun q h1 h2=>H.block q (by omega) (fun _ e=>by omega) (fun j hj hq=>?_)⟩
 have:=b5 j hj
 omega
theorem Lo1.next {N m m1 m2 k:Nat} {v:ValD} {w wr w5:World} {la:Option Addr} {cs cs2:List Value} {g:Nat} {f F:Nat→List Value} {tl:List Value} {st en:Nat→Nat} (h:LisT N m w m1 m2 v la g f tl st en) (hm:m2≤w.heap.size) (H:Lo1 N m v w wr cs g f tl st en k F) (hk:k<v.list.length)
 (hr:AptF (st k) (en k) wr w5) (hs:KeptU wr.heap.size (st k) (en k) w5 (fun c=>ValD.At c c.heap.size N (sortD m v.list[k]) cs2)):Lo1 N m v w (w5.setRow g (flatV v.list.length (updV F k cs2)++tl).toArray) cs g f tl st en (k+1) (updV F k cs2):=by
 have hn:v.list≠[]:=fun e=>by rw [e] at hk;simp at hk
 obtain ⟨_,hg1,hg2,hr0,hl,ht⟩:=h hn
 obtain ⟨b1,b2,b3,b4,b5⟩:=hl k hk
 have hsz:=H.size
 have hsz5:=hr.size
 have hR:=H.rows hn
 have hR5:RowsV w5 g v.list.length F tl:=⟨(hr.block g (by omega) (by omega)).trans hR.row,hR.len,hR.one⟩
 have hb:∀ q,q≠g→¬ (st k≤q∧q<en k)→q<wr.heap.size→(w5.setRow g (flatV v.list.length (updV F k cs2)++tl).toArray).heap[q]?=wr.heap[q]?:=fun q h1 h2 h3=>by
  rw [setRow_other _ _ _ _ h1]
  exact hr.block q h3 h2
 refine ⟨fun _=>hR5.put hs.here.len hs.here.oneCell,fun j hj=>?_,fun j hj hjk=>?_,hr.os.trans H.os,hr.tape.trans H.tape,hr.output.trans H.output,by rw [setRow_size];omega,fun q hq h1 h2=>?_,?_,?_⟩
 ·unfold updV
  rw [if_neg (by omega)]
  exact H.rest j (by omega)
 ·by_cases e:j=k
  ·subst e
   rw [show updV F j cs2 j=cs2 by unfold updV;rw [if_pos rfl]]
   refine (hs.low hsz).step (by rw [setRow_size];omega) fun q hq ho=>setRow_other _ _ _ _ (fun e=>?_)
   subst e
   rcases ho with h1 | h1<;>omega
  ·rw [show updV F k cs2 j=F j by unfold updV;rw [if_neg e]]
   have hjk':j<k:=by omega
   obtain ⟨c1,c2,c3,c4,c5⟩:=hl j hj
   have:=b5 j hjk'
   refine (H.done j hj hjk').step (by rw [setRow_size];omega) fun q hq ho=>hb q (fun e=>?_) (fun e=>?_) hq
   ·subst e
    rcases ho with h1 | h1<;>omega
   ·rcases ho with h1 | h1<;>omega
 ·rw [hb q (h1 hn) (h2 k (by omega)) (by omega)]
  exact H.block q hq h1 (fun j hj=>h2 j (by omega))
 ·exact (hb w.heap.size (by omega) (by omega) (by omega)).trans H.box
 ·exact (hb (w.heap.size+1) (by omega) (by omega) (by omega)).trans H.res
structure Lo2 (N m:Nat) (l:List (ByteArray×ValD)) (w wr:World) (h:Nat) (G0:Nat→List Value) (tl:List Value) (st en:Nat→Nat) (k:Nat) (G:Nat→List Value):Prop where
 rows:l≠[]→RowsF wr h l.length G tl
 rest:∀ j,k≤j→G j=G0 j
 done:∀ j (hj:j<l.length),j<k→∃ ds,G j=.string l[j].1::ds∧l[j].1.size≤N∧KeptU w.heap.size (st j) (en j) wr (fun c=>ValD.At c c.heap.size N (sortD m l[j].2) ds)
 os:wr.os=w.os
 tape:wr.tape=w.tape
 output:wr.output=w.output
 size:w.heap.size≤wr.heap.size
 block:∀ q,q<w.heap.size→(l≠[]→q≠h)→(∀ j,j<l.length→j<k→¬ (st j≤q∧q<en j))→wr.heap[q]?=w.heap[q]?
def Fl2 (N m:Nat) (l:List (ByteArray×ValD)) (w:World) (B0 h:Nat) (G0:Nat→List Value) (tl:List Value) (st en:Nat→Nat):Prop :=
 l≠[]→RowsF w h l.length G0 tl∧B0≤h∧h<w.heap.size∧(∀ k,k<l.length→st k≤en k∧en k≤B0)∧(∀ j k,j<l.length→k<l.length→j≠k→en j≤st k∨en k≤st j)∧∀ k (hk:k<l.length),∃ ds,G0 k=.string l[k].1::ds∧l[k].1.size≤N∧TreeAt N m w (st k) (en k) l[k].2 ds
theorem Lo2.start {N m B0 h:Nat} {l:List (ByteArray×ValD)} {w:World} {G0:Nat→List Value} {tl:List Value} {st en:Nat→Nat} (hf:Fl2 N m l w B0 h G0 tl st en):Lo2 N m l w w h G0 tl st en 0 G0 :=
 ⟨fun hn=>(hf hn).1,fun _ _=>rfl,fun _j _ h0=>absurd h0 (Nat.not_lt_zero _),rfl,rfl,rfl,Nat.le_refl _,fun _ _ _ _=>rfl⟩
theorem Lo2.kid {N m B0 h k:Nat} {l:List (ByteArray×ValD)} {w wr:World} {G0 G:Nat→List Value} {tl:List Value} {st en:Nat→Nat} (hf:Fl2 N m l w B0 h G0 tl st en) (H:Lo2 N m l w wr h G0 tl st en k G) (hk:k<l.length) :
 ∃ ds,G k=.string l[k].1::ds∧l[k].1.size≤N∧TreeAt N m wr (st k) (en k) l[k].2 ds:=by
 have hn:l≠[]:=fun e=>by rw [e] at hk;simp at hk
 obtain ⟨_,h1,h2,h3,h4,h5⟩:=hf hn
 obtain ⟨ds,c1,c2,c3⟩:=h5 k hk
 refine ⟨ds,by rw [H.rest k (Nat.le_refl _),c1],c2,c3.step ⟨H.size,fun q q1 q2=>H.block q (by have:=h3 k hk;omega) (fun _ e=>by have:=h3 k hk;omega) (fun j hj hjk e=>?_)⟩⟩
 rcases h4 j k hj hk (by omega) with h6 | h6<;>omega
theorem flatR_put1 {n k:Nat} {G:Nat→List Value} {ky:ByteArray} {cs ds tl:List Value} (h:∀ k,k<n→(G k).length=14) (hk:k<n) (hg:G k=.string ky::ds) (hc:cs.length=13) :
 flatR n (upd G k (.string ky::cs))++tl=(flatR n G++tl).take (k * 14+1)++cs++(flatR n G++tl).drop (k * 14+1+cs.length):=by
 have hin:k * 14+14≤n * 14:=by have:=Nat.mul_le_mul_right 14 (show k+1≤n by omega);omega
 have hl:(flatR n G++tl).length=n * 14+tl.length:=by rw [List.length_append,flatR_len h]
 have e0:(flatR n G++tl)[k * 14]?=some (.string ky):=by
  have:=flatR_get (n:=n) h hk (show 0<14 by omega)
  rw [Nat.add_zero] at this
  rw [List.getElem?_append_left (by rw [flatR_len h];omega),this,hg]
  rfl
 rw [flatR_set h (by rw [List.length_cons,hc]) hk,List.length_cons,hc,List.take_add_one,e0]
 simp only [Option.toList,List.append_assoc,List.cons_append,List.nil_append]
theorem Lo2.next {N m B0 h k:Nat} {l:List (ByteArray×ValD)} {w wr w5:World} {ky:ByteArray} {cs2:List Value} {G0 G:Nat→List Value} {tl:List Value} {st en:Nat→Nat} (hf:Fl2 N m l w B0 h G0 tl st en) (_hB:B0≤w.heap.size) (H:Lo2 N m l w wr h G0 tl st en k G) (hk:k<l.length) (hky:l[k].1=ky) (hkN:ky.size≤N)
 (hr:AptF (st k) (en k) wr w5) (hs:KeptU wr.heap.size (st k) (en k) w5 (fun c=>ValD.At c c.heap.size N (sortD m l[k].2) cs2)):Lo2 N m l w (w5.setRow h (flatR l.length (upd G k (.string ky::cs2))++tl).toArray) h G0 tl st en (k+1) (upd G k (.string ky::cs2)):=by
 have hn:l≠[]:=fun e=>by rw [e] at hk;simp at hk
 obtain ⟨hr0,h1,h2,h3,h4,h5⟩:=hf hn
 have hst:=h3 k hk
 have hsz:=H.size
 have hsz5:=hr.size
 have hR:=H.rows hn
 have hR5:RowsF w5 h l.length G tl:=⟨(hr.block h (by omega) (by omega)).trans hR.row,hR.len,hR.one,hR.key⟩
 have hb:∀ q,q≠h→¬ (st k≤q∧q<en k)→q<wr.heap.size→(w5.setRow h (flatR l.length (upd G k (.string ky::cs2))++tl).toArray).heap[q]?=wr.heap[q]?:=fun q h1 h2 h3=>by
  rw [setRow_other _ _ _ _ h1]
  exact hr.block q h3 h2
 have hlen:((Value.string ky::cs2):List Value).length=14:=by rw [List.length_cons,hs.here.len]
 refine ⟨fun _=>⟨hR5.row.setRow _,upd_len hR5.len hlen,fun j hj=>?_,fun j hj=>?_⟩,fun j hj=>?_,fun j hj hjk=>?_,hr.os.trans H.os,hr.tape.trans H.tape,hr.output.trans H.output,by rw [setRow_size];omega,fun q hq q1 q2=>?_⟩
 ·unfold upd
  split
  ·intro u hu
   rcases List.mem_cons.1 hu with rfl | hu
   ·rfl
   ·exact hs.here.oneCell u hu
  ·exact hR5.one j hj
 ·unfold upd
  split
  ·rfl
  ·exact hR5.key j hj
 ·unfold upd
  rw [if_neg (by omega)]
  exact H.rest j (by omega)
 ·by_cases e:j=k
  ·subst e
   refine ⟨cs2,by unfold upd;rw [if_pos rfl,hky],by rw [hky];exact hkN,(hs.low hsz).step (by rw [setRow_size];omega) fun q hq ho=>setRow_other _ _ _ _ (fun e=>?_)⟩
   subst e
   rcases ho with h6 | h6<;>omega
  ·have hjk':j<k:=by omega
   obtain ⟨ds,c1,c2,c3⟩:=H.done j hj hjk'
   refine ⟨ds,by unfold upd;rw [if_neg e];exact c1,c2,c3.step (by rw [setRow_size];omega) fun q hq ho=>hb q (fun e=>?_) (fun e=>?_) hq⟩
   ·subst e
    have:=h3 j hj
    rcases ho with h6 | h6<;>omega
   ·have:=h4 j k hj hk (by omega)
    rcases ho with h6 | h6<;>omega
 ·rw [hb q (q1 hn) (q2 k hk (by omega)) (by omega)]
  exact H.block q hq q1 (fun j hj hjk=>q2 j hj (by omega))
end Go.Proofs.YtniljgkkcnekgaaGreatDoor

/- value.arranged: how its loops begin and end. No walk here. -/
namespace Go.Proofs.YtniljgkkcnekgaaGreatDoor
open Go.RowKit Stb
def ArrR (N S E:Nat) (v:ValD) (w:World) (e:Ending) (w':World):Prop:=∃ cs:List Value,e=.returned (.agg cs.toArray)∧KeptU w.heap.size S E w' (fun c=>ValD.At c c.heap.size N v cs)∧AptF S E w w'
theorem okC_nodup {m:Nat} {v:ValD} (h:okC (m+1) v):(v.fields.map (·.1.data.toList)).Nodup:=by
 have:=h.2.2.2.2.1
 unfold keyD at this
 rw [List.map_map] at this
 exact this
theorem okC_sorted {m:Nat} {v:ValD} {l2:List (ByteArray×ValD)} (h:okC (m+1) v) (hl:l2=sortF v.fields):∀ z∈l2,okC m z.2:=fun z hz=>h.2.2.2.2.2.2 z ((sortF_perm v.fields).mem_iff.1 (by rw [← hl];exact hz))
theorem fit14' {n k:Nat} {G:Nat→List Value} {r tl:List Value} (h:∀ k,k<n→(G k).length=14) (hr:r.length=13) (hk:k<n):k * 14+1+r.length≤(flatR n G++tl).length:=by
 have hin:k * 14+14≤n * 14:=by have:=Nat.mul_le_mul_right 14 (show k+1≤n by omega);omega
 rw [List.length_append,flatR_len h,hr]
 omega
theorem row_size13 {ro:List Value} (h:ro.length=13):(Tryz.prog.info? 39).map (·.size)=some ro.toArray.size:=by rw [List.size_toArray,h];exact sizeV
theorem row_zero13 {ro:List Value} (h:ro.length=13):zeroV.size=ro.toArray.size:=by show 13=ro.toArray.size;rw [List.size_toArray,h]
section
variable {N m S E m1 m2:Nat} {v:ValD} {w w4 wS Wf w7:World} {ya la va a2:Option Addr} {yc lc vc c2:Nat} {cs ro:List Value} {g gF:Nat} {f fF F:Nat→List Value} {tl tlF:List Value} {st en stF enF:Nat→Nat}
theorem Lo1.far {k:Nat} (HL:LisT N m w m1 m2 v la g f tl st en) (H:Lo1 N m v w w4 cs g f tl st en k F) (hk:k≤v.list.length) (q:Nat) (hq:q<w.heap.size) (hf:q<m1∨m2≤q):w4.heap[q]?=w.heap[q]?:=by
 refine H.block q hq (fun hn e=>?_) (fun j hj e=>?_)
 ·obtain ⟨_,h1,h2,_⟩:=HL hn
  omega
 ·have hn:v.list≠[]:=fun e=>by rw [e] at hk;simp at hk;omega
  obtain ⟨_,_,_,_,hl,_⟩:=HL hn
  obtain ⟨b1,b2,b3,_⟩:=hl j (by omega)
  omega
theorem sorted_src (HF:FldT N m w m2 E v va gF fF tlF stF enF) (hb:S≤m1∧m1≤m2∧m2≤E∧E≤w.heap.size) (HL:LisT N m w m1 m2 v la g f tl st en) (H:Lo1 N m v w w4 cs g f tl st en v.list.length F) :
 (v.fields=[]∨∃ g tl,va=some ⟨g,0,none⟩∧RowsF w4 g v.fields.length fF tl)∧∀ k (hk:k<v.fields.length),keyR (fF k)=v.fields[k].1:=by
 constructor
 ·by_cases hn:v.fields=[]
  ·exact .inl hn
  ·obtain ⟨h1,h2,h3,h4,_⟩:=HF hn
   exact .inr ⟨gF,tlF,h1,(Lo1.far HL H (Nat.le_refl _) gF (by omega) (by omega)).trans h4.row,h4.len,h4.one,h4.key⟩
 ·intro k hk
  have hn:v.fields≠[]:=fun e=>by rw [e] at hk;simp at hk
  obtain ⟨_,_,_,_,_,h6⟩:=HF hn
  obtain ⟨ds,e1,_⟩:=h6 k hk
  rw [e1]
  rfl
theorem Fl2.of (HF:FldT N m w m2 E v va gF fF tlF stF enF) (hb:S≤m1∧m1≤m2∧m2≤E∧E≤w.heap.size) (HL:LisT N m w m1 m2 v la g f tl st en) (H:Lo1 N m v w w4 cs g f tl st en v.list.length F)
 (hbS:Below w4.heap.size w4 wS) (hso:v.fields=[]∨∃ (g:Nat) (tl:List Value) (s:Nat→Nat),a2=some ⟨g,0,none⟩∧w4.heap.size≤g∧RowsF wS g v.fields.length (fun k=>fF (s k)) tl∧(∀ k,k<v.fields.length→s k<v.fields.length)∧(∀ j k,s j=s k→j=k)∧∀ k (h:k<(sortF v.fields).length),∃ hs:s k<v.fields.length,(sortF v.fields)[k]=v.fields[s k])
 (hW:Wf=wS.setCell ⟨w.heap.size,12,none⟩ (.slice a2 v.fields.length c2)) :
 ∃ (h:Nat) (tl2:List Value) (st2 en2:Nat→Nat) (G0:Nat→List Value),Fl2 N m (sortF v.fields) Wf w4.heap.size h G0 tl2 st2 en2∧(sortF v.fields≠[]→a2=some ⟨h,0,none⟩)∧(sortF v.fields≠[]→∀ k,k<(sortF v.fields).length→m2≤st2 k∧en2 k≤E):=by
 rcases hso with h0 | ⟨h,tl2,s,e1,h1,h2,h3,h4,h5⟩
 ·have:sortF v.fields=[]:=by
   have:=sortF_len v.fields
   rw [h0] at this
   rw [h0]
   exact List.length_eq_zero_iff.1 this
  rw [this]
  exact ⟨0,[],fun _=>0,fun _=>0,fun _=>[],fun hn=>absurd rfl hn,fun hn=>absurd rfl hn,fun hn=>absurd rfl hn⟩
 ·have hsz:=H.size
  have hszS:=hbS.size
  have hlt:h<wS.heap.size:=h2.row.lt
  have hWs:Wf.heap.size=wS.heap.size:=by rw [hW];simp
  refine ⟨h,tl2,fun k=>stF (s k),fun k=>enF (s k),fun k=>fF (s k),fun hn=>?_,fun _=>e1,fun hn k hk=>?_⟩
  ·have hn':v.fields≠[]:=fun e=>hn (by
    have:=sortF_len v.fields
    rw [e] at this ⊢
    exact List.length_eq_zero_iff.1 this)
   obtain ⟨_,g1,g2,_,hl,ht⟩:=HF hn'
   have hlen:=sortF_len v.fields
   refine ⟨?_,h1,by omega,fun k hk=>?_,fun j k hj hk hne=>?_,fun k hk=>?_⟩
   ·rw [hlen]
    refine ⟨?_,h2.len,h2.one,h2.key⟩
    rw [hW]
    exact h2.row.setOther (by omega) _ _
   ·obtain ⟨b1,b2,b3,_⟩:=hl (s k) (h3 k (by omega))
    exact ⟨b2,by show enF (s k)≤_;omega⟩
   ·obtain ⟨_,_,_,_,bj⟩:=hl (s j) (h3 j (by omega))
    obtain ⟨_,_,_,_,bk⟩:=hl (s k) (h3 k (by omega))
    rcases Nat.lt_trichotomy (s j) (s k) with h6 | h6 | h6
    ·exact .inl (bk _ h6)
    ·exact absurd (h4 _ _ h6) hne
    ·exact .inr (bj _ h6)
   ·obtain ⟨hs,e2⟩:=h5 k hk
    obtain ⟨ds,c1,c2,c3⟩:=ht (s k) hs
    obtain ⟨b1,b2,b3,_⟩:=hl (s k) hs
    rw [e2]
    refine ⟨ds,c1,c2,c3.step ⟨by omega,fun q q1 q2=>?_⟩⟩
    rw [hW,heap_setCell_other _ _ _ _ (by simp;omega),hbS.block q (by omega)]
    exact Lo1.far HL H (Nat.le_refl _) q (by omega) (by omega)
  ·have hn':v.fields≠[]:=fun e=>hn (by
    have:=sortF_len v.fields
    rw [e] at this ⊢
    exact List.length_eq_zero_iff.1 this)
   obtain ⟨_,g1,g2,_,hl,ht⟩:=HF hn'
   obtain ⟨b1,b2,b3,_⟩:=hl (s k) (h3 k (by have:=sortF_len v.fields;omega))
   exact ⟨b1,b3⟩
theorem Lo2.box_of {l:List (ByteArray×ValD)} {h k b B0:Nat} {G0 G:Nat→List Value} {tl2 cs:List Value} {st2 en2:Nat→Nat} {t:TypeId} (H:Lo2 N m l Wf w7 h G0 tl2 st2 en2 k G) (hf:Fl2 N m l Wf B0 h G0 tl2 st2 en2) (hr:RowT t Wf b cs) (hb:b<B0) (he:l≠[]→∀ j,j<l.length→en2 j≤b):RowT t w7 b cs :=
 (H.block b hr.lt (fun hn e=>by obtain ⟨_,h1,_⟩:=hf hn;omega) (fun j hj _ e=>by
   have hn:l≠[]:=fun e=>by rw [e] at hj;simp at hj
   have:=he hn j hj
   omega)).trans hr
theorem ar_end {l2:List (ByteArray×ValD)} {h:Nat} {G0 G:Nat→List Value} {tl2:List Value} {st2 en2:Nat→Nat} (hcs:cs=v.row ya la va yc lc vc) (hown:v.Own N) (hb:S≤m1∧m1≤m2∧m2≤E∧E≤w.heap.size) (hy:BytesIn w S m1 v.bytes ya)
 (HL:LisT N m w m1 m2 v la g f tl st en) (H1:Lo1 N m v w w4 cs g f tl st en v.list.length F) (hbS:Below w4.heap.size w4 wS) (hW:Wf=wS.setCell ⟨w.heap.size,12,none⟩ (.slice a2 v.fields.length c2))
 (hf:Fl2 N m l2 Wf w4.heap.size h G0 tl2 st2 en2) (H2:Lo2 N m l2 Wf w7 h G0 tl2 st2 en2 l2.length G) (ha:l2≠[]→a2=some ⟨h,0,none⟩) (he:l2≠[]→∀ k,k<l2.length→m2≤st2 k∧en2 k≤E) (hl2:l2=sortF v.fields) (hro:ro=cs.set 12 (.slice a2 l2.length c2)) :
 KeptU w.heap.size S E (w7.setRow (w.heap.size+1) ro.toArray) (fun c=>ValD.At c c.heap.size N (sortD (m+1) v) ro)∧AptF S E w (w7.setRow (w.heap.size+1) ro.toArray):=by
 have z4:=H1.size
 have zS:=hbS.size
 have zf:Wf.heap.size=wS.heap.size:=by rw [hW];simp
 have z7:=H2.size
 have key:∀ q,q<w4.heap.size→q≠w.heap.size→(l2≠[]→∀ j,j<l2.length→¬ (st2 j≤q∧q<en2 j))→w7.heap[q]?=w4.heap[q]?:=fun q h1 h2 h3=>by
  rw [H2.block q (by omega) (fun hn e=>by obtain ⟨_,h5,_⟩:=hf hn;omega) (fun j hj _=>h3 (fun e=>by rw [e] at hj;simp at hj) j hj),hW,heap_setCell_other _ _ _ _ (by simpa using h2)]
  exact hbS.block q h1
 have off:∀ q,q<m2∨E≤q→(l2≠[]→∀ j,j<l2.length→¬ (st2 j≤q∧q<en2 j)):=fun q h1 hn j hj e=>by
  have:=he hn j hj
  omega
 constructor
 ·intro c hc1 hc2
  rw [setRow_size] at hc1
  have hcq:∀ q,q<w7.heap.size→q≠w.heap.size+1→(w.heap.size≤q∨(S≤q∧q<E))→c.heap[q]?=w7.heap[q]?:=fun q h1 h2 h3=>by
   rw [hc2 q (by rw [setRow_size];exact h1) h3,setRow_other _ _ _ _ h2]
  have hro2:ro=(sortD (m+1) v).row ya la a2 yc lc c2:=by
   rw [hro,hcs,hl2]
   obtain ⟨k,b,n,t,x,y,l,f⟩:=v
   show _=ValD.row (.mk k b n t x y (l.map (sortD m)) ((sortF f).map fun z=>(z.1,sortD m z.2))) ya la a2 yc lc c2
   simp only [ValD.row,ValD.list,ValD.fields,ValD.kind,ValD.bool,ValD.num,ValD.time,ValD.text,ValD.bytes,List.length_map]
   rfl
  obtain ⟨e1,e2,e3,e4,e5,e6⟩:=sortD_s m v
  rw [hro2]
  refine ValD.At.mk ?_ ?_ ?_ ?_
  ·obtain ⟨o1,o2,o3,o4,o5,o6,o7,o8,o9,o10,o11⟩:=hown
   unfold ValD.Own
   rw [e1,e3,e4,e5,e6,sortD_list,sortD_fields,List.length_map,List.length_map,sortF_len]
   exact ⟨o1,o2,o3,o4,o5,o6,o7,o8,o9,o10,o11⟩
  ·rw [e6]
   refine hy c ⟨by omega,fun q h1 h2=>?_⟩
   rw [hcq q (by omega) (by omega) (.inr (by omega)),key q (by omega) (by omega) (off q (by omega))]
   exact Lo1.far HL H1 (Nat.le_refl _) q (by omega) (by omega)
  ·rw [sortD_list]
   by_cases hn:v.list=[]
   ·rw [hn];exact trivial
   ·obtain ⟨hla,g1,g2,_,hlie,_⟩:=HL hn
    have hR:=H1.rows hn
    have hcg:c.heap[g]?=w4.heap[g]?:=by rw [hcq g (by omega) (by omega) (.inr (by omega)),key g (by omega) (by omega) (off g (by omega))]
    have hRc:RowsV c g v.list.length F tl:=⟨hcg.trans hR.row,hR.len,hR.one⟩
    rw [hla]
    refine ValsAt_of' (by omega) _ _ fun i hi=>?_
    rw [List.length_map] at hi
    refine ⟨F i,by rw [Nat.zero_add];exact cellsOfRange (hRc.range hi),?_⟩
    rw [List.getElem_map]
    obtain ⟨b1,b2,b3,_⟩:=hlie i hi
    refine H1.done i hi hi c (by omega) fun q h1 h2=>?_
    rw [hcq q (by omega) (by omega) (by omega),key q h1 (by omega) (off q (by omega))]
  ·rw [sortD_fields,← hl2]
   by_cases hn:l2=[]
   ·rw [hn];exact trivial
   ·obtain ⟨_,g1,g2,hst,_,_⟩:=hf hn
    have hR:=H2.rows hn
    have hcg:c.heap[h]?=w7.heap[h]?:=hcq h (by omega) (by omega) (.inl (by omega))
    have hRc:RowsF c h l2.length G tl2:=⟨hcg.trans hR.row,hR.len,hR.one,hR.key⟩
    rw [ha hn]
    refine FieldsAt_of' (by omega) _ _ fun i hi=>?_
    rw [List.length_map] at hi
    obtain ⟨ds,c1,c2,c3⟩:=H2.done i hi hi
    rw [List.getElem_map]
    refine ⟨ds,c2,by rw [Nat.zero_add,← c1];exact cellsOfRange (hRc.range hi),c3 c (by omega) fun q h1 h2=>hcq q h1 (by have:=he hn i hi;omega) (by have:=he hn i hi;omega)⟩
 ·refine ⟨?_,?_,?_,by rw [setRow_size];omega,fun q h1 h2=>?_⟩
  ·exact H2.os.trans (by rw [hW];exact hbS.os.trans H1.os)
  ·exact H2.tape.trans (by rw [hW];exact hbS.tape.trans H1.tape)
  ·exact H2.output.trans (by rw [hW];exact hbS.output.trans H1.output)
  ·rw [setRow_other _ _ _ _ (by omega),key q (by omega) (by omega) (off q (by omega))]
   exact Lo1.far HL H1 (Nat.le_refl _) q h1 (by omega)
end
end Go.Proofs.YtniljgkkcnekgaaGreatDoor
