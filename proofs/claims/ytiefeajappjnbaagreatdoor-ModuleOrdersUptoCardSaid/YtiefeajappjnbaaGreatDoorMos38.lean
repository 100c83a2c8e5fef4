/- Lists of modules: in memory, their names, their order (plain). -/
import Derived.Test.YtiefeajappjnbaaGreatDoorMop36
import Derived.Test.YtiefeajappjnbaaGreatDoorGK
namespace Go.Proofs.YtiefeajappjnbaaGreatDoor
open Go.RowKit
def ModsAt (w:World) (B N:Nat):List ModD→Option Addr→Prop
 | [],_=>True
 | m::r,a=>∃ b o cs,a=some ⟨b,o,none⟩∧b<B∧CellsAt w b o cs∧ModD.At w B N m cs∧ModsAt w B N r (some ⟨b,o+20,none⟩)
theorem ModsAt.below {w w':World} {B N:Nat} (hb:Below B w w'):∀ (l:List ModD) {a:Option Addr},ModsAt w B N l a→ModsAt w' B N l a
 | [],_,_=>trivial
 | _::r,_,⟨b,o,cs,h1,h2,h3,h4,h5⟩=>⟨b,o,cs,h1,h2,h3.below hb h2,h4.below hb,ModsAt.below hb r h5⟩
theorem ModsAt.get {w:World} {B N:Nat}:∀ {l:List ModD} {a:Option Addr},ModsAt w B N l a→l≠[]→∃ b o,a=some ⟨b,o,none⟩∧b<B∧∀ i (hi:i<l.length),∃ cs,CellsAt w b (o+i * 20) cs∧ModD.At w B N l[i] cs
 | [],_,_,h=>absurd rfl h
 | m::r,_,⟨b,o,cs,h1,h2,h3,h4,h5⟩,_=>by
   refine ⟨b,o,h1,h2,fun i hi=>?_⟩
   match i with
   | 0=>exact ⟨cs,by simpa using h3,h4⟩
   | i+1 =>
     have hi':i<r.length:=by simpa using hi
     obtain ⟨b',o',e,_,hg⟩:=ModsAt.get h5 (by intro h;simp [h] at hi')
     simp only [Option.some.injEq,Addr.mk.injEq,and_true] at e
     obtain ⟨rfl,rfl⟩:=e
     obtain ⟨cs2,c1,c2⟩:=hg i hi'
     exact ⟨cs2,by rw [show o+(i+1) * 20=o+20+i * 20 by omega];exact c1,by simpa using c2⟩
theorem ModsAt_of {w:World} {B N b:Nat} (hb:b<B):∀ (l:List ModD) (o:Nat),(∀ i (hi:i<l.length),∃ cs,CellsAt w b (o+i * 20) cs∧ModD.At w B N l[i] cs)→ModsAt w B N l (some ⟨b,o,none⟩)
 | [],_,_=>trivial
 | m::r,o,h=>by
   obtain ⟨cs,h1,h2⟩:=h 0 (by simp)
   refine ⟨b,o,cs,rfl,hb,by simpa using h1,by simpa using h2,ModsAt_of hb r (o+20) fun i hi=>?_⟩
   obtain ⟨cs2,c1,c2⟩:=h (i+1) (by simpa using hi)
   exact ⟨cs2,by rw [show o+20+i * 20=o+(i+1) * 20 by omega];exact c1,by simpa using c2⟩
def sameB (s t:ByteArray):Bool:=s.toList==t.toList
def nmsM (l:List ModD):List ByteArray:=l.map (·.name)
theorem nmsM_len (l:List ModD):(nmsM l).length=l.length:=List.length_map _
theorem nmsM_get {l:List ModD} {k:Nat} (h:k<l.length):(nmsM l)[k]'(by rw [nmsM_len];exact h)=l[k].name:=by unfold nmsM;rw [List.getElem_map]
def fnd (l:List ModD) (s:ByteArray):Option Nat:=l.findIdx? fun m=>m.name.toList==s.toList
def fndI (l:List ModD) (s:ByteArray):Int:=match fnd l s with
 | some k=>k
 | none=>-1
theorem fnd_some {l:List ModD} {s:ByteArray} {k:Nat} (h:k<l.length) (he:(l[k].name.toList==s.toList)=true) (hn:∀ j (hj:j<l.length),j<k→(l[j].name.toList==s.toList)=false):fnd l s=some k:=by
 unfold fnd
 rw [List.findIdx?_eq_some_iff_getElem]
 exact ⟨h,he,fun j hj=>by rw [hn j (by omega) hj];simp⟩
theorem fnd_none {l:List ModD} {s:ByteArray} (hn:∀ j (hj:j<l.length),(l[j].name.toList==s.toList)=false):fnd l s=none:=by
 unfold fnd
 rw [List.findIdx?_eq_none_iff]
 intro x hx
 obtain ⟨i,hi,rfl⟩:=List.getElem_of_mem hx
 exact hn i hi
theorem fnd_spec {l:List ModD} {s:ByteArray} {k:Nat} (h:fnd l s=some k):∃ hk:k<l.length,(l[k].name.toList==s.toList)=true∧∀ j (hj:j<l.length),j<k→(l[j].name.toList==s.toList)=false:=by
 unfold fnd at h
 rw [List.findIdx?_eq_some_iff_getElem] at h
 obtain ⟨h1,h2,h3⟩:=h
 exact ⟨h1,h2,fun j hj hjk=>by simpa using h3 j hjk⟩
theorem fnd_no {l:List ModD} {s:ByteArray} (h:fnd l s=none) (j:Nat) (hj:j<l.length):(l[j].name.toList==s.toList)=false:=by
 unfold fnd at h
 rw [List.findIdx?_eq_none_iff] at h
 exact h _ (List.getElem_mem hj)
theorem fndI_some {l:List ModD} {s:ByteArray} {k:Nat} (h:fnd l s=some k):fndI l s=k:=by unfold fndI;rw [h]
theorem fndI_none {l:List ModD} {s:ByteArray} (h:fnd l s=none):fndI l s=-1:=by unfold fndI;rw [h]
theorem fnd_self {l:List ModD} {i:Nat} (h:i<l.length):∃ k,fnd l l[i].name=some k∧k≤i:=by
 cases hf:fnd l l[i].name with
 | none=>have:=fnd_no hf i h;simp at this
 | some k =>
   obtain ⟨h1,h2,h3⟩:=fnd_spec hf
   refine ⟨k,rfl,Nat.le_of_not_lt fun hlt=>?_⟩
   have:=h3 i h hlt
   simp at this
def dupB (l:List ModD) (i:Nat) (s:ByteArray):Bool:=(s.toList==[112,114,101,108,117,100,101]) || decide (fndI l s<i)
theorem mem_fnd {l:List ModD} {i:Nat} (h:i<l.length):decide (l[i].name.data.toList∈strs ((nmsM l).take i))=decide (fndI l l[i].name<i):=by
 rw [strs_mem]
 obtain ⟨k,hk,hki⟩:=fnd_self h
 rw [fndI_some hk]
 obtain ⟨h1,h2,h3⟩:=fnd_spec hk
 by_cases hlt:k<i
 ·rw [decide_eq_true (by omega:(k:Int)<i)]
  rw [List.any_eq_true]
  refine ⟨l[k].name,?_,h2⟩
  rw [List.mem_take_iff_getElem]
  exact ⟨k,by rw [nmsM_len];omega,nmsM_get h1⟩
 ·rw [decide_eq_false (by omega:¬ (k:Int)<i)]
  rw [List.any_eq_false]
  intro x hx
  rw [List.mem_take_iff_getElem] at hx
  obtain ⟨j,hj,rfl⟩:=hx
  rw [nmsM_len] at hj
  rw [nmsM_get (by omega),h3 j (by omega) (by omega)]
  simp
def dupsB (l:List ModD):Bool:=(List.finRange l.length).any fun i=>dupB l i l[i].name
def impsB (l:List ModD):Bool:=l.all fun m=>m.imps.all fun p=>(fnd l p.1).isSome
def nmsE (l:List ModD):Int:=if dupsB l=true then 8 else if impsB l=true then 0 else 7
theorem nmsE_8 {l:List ModD} {i:Nat} (h:i<l.length) (hd:dupB l i l[i].name=true):nmsE l=8:=by
 unfold nmsE
 rw [if_pos (by unfold dupsB;rw [List.any_eq_true];exact ⟨⟨i,h⟩,List.mem_finRange _,hd⟩)]
theorem dups_no {l:List ModD} (h:∀ i (hi:i<l.length),dupB l i l[i].name=false):dupsB l=false:=by
 unfold dupsB
 rw [List.any_eq_false]
 rintro ⟨i,hi⟩ _
 show ¬ dupB l i l[i].name=true
 rw [h i hi]
 simp
theorem nmsE_7 {l:List ModD} (hd:∀ i (hi:i<l.length),dupB l i l[i].name=false) {i k:Nat} (h:i<l.length) (hk:k<l[i].imps.length) (hf:fnd l l[i].imps[k].1=none):nmsE l=7:=by
 unfold nmsE
 rw [if_neg (by rw [dups_no hd];simp),if_neg]
 unfold impsB
 rw [List.all_eq_true]
 intro ha
 have h1:=ha _ (List.getElem_mem h)
 rw [List.all_eq_true] at h1
 have h2:=h1 _ (List.getElem_mem hk)
 rw [hf] at h2
 cases h2
theorem nmsE_0 {l:List ModD} (hd:∀ i (hi:i<l.length),dupB l i l[i].name=false) (hf:∀ i (hi:i<l.length) k (hk:k<l[i].imps.length),(fnd l l[i].imps[k].1).isSome=true):nmsE l=0:=by
 unfold nmsE
 rw [if_neg (by rw [dups_no hd];simp),if_pos]
 unfold impsB
 rw [List.all_eq_true]
 intro m hm
 obtain ⟨i,hi,rfl⟩:=List.getElem_of_mem hm
 rw [List.all_eq_true]
 intro p hp
 obtain ⟨k,hk,rfl⟩:=List.getElem_of_mem hp
 exact hf i hi k hk
theorem nmsE_inv {l:List ModD} (h:nmsE l=0):∀ i (hi:i<l.length) k (hk:k<l[i].imps.length),∃ j,fnd l l[i].imps[k].1=some j∧j<l.length:=by
 intro i hi k hk
 unfold nmsE at h
 split at h
 ·simp at h
 split at h
 ·rename_i h2
  unfold impsB at h2
  rw [List.all_eq_true] at h2
  have h3:=h2 _ (List.getElem_mem hi)
  rw [List.all_eq_true] at h3
  have h4:=h3 _ (List.getElem_mem hk)
  obtain ⟨j,hj⟩:=Option.isSome_iff_exists.1 h4
  exact ⟨j,hj,(fnd_spec hj).1⟩
 ·simp at h
def modsE:List ModD→Int
 | []=>0
 | m::r=>if modE m≠0 then modE m else modsE r
theorem modsE_step {l:List ModD} {k:Nat} (h:k<l.length):modsE (l.drop k)=if modE l[k]≠0 then modE l[k] else modsE (l.drop (k+1)):=by
 rw [List.drop_eq_getElem_cons h]
 rfl
theorem modsE_end (l:List ModD):modsE (l.drop l.length)=0:=by rw [List.drop_length];rfl
def chB (ch:List Bool):Option Nat→Bool
 | some k=>ch.getD k false
 | none=>false
def readyB (l:List ModD) (ch:List Bool) (m:ModD):Bool:=m.imps.all fun p=>chB ch (fnd l p.1)
def pickB (l:List ModD) (ch:List Bool) (i:Nat):Bool:=!ch.getD i false&&match l[i]? with
 | some m=>readyB l ch m
 | none=>false
def nextI (l:List ModD) (ch:List Bool):Option Nat:=(List.range l.length).find? fun i=>pickB l ch i
theorem next_some {l:List ModD} {ch:List Bool} {i:Nat} (h:i<l.length) (hp:pickB l ch i=true) (hn:∀ j,j<i→pickB l ch j=false):nextI l ch=some i:=by
 unfold nextI
 rw [List.find?_range_eq_some]
 exact ⟨hp,List.mem_range.2 h,fun j hj=>by rw [hn j hj];rfl⟩
theorem next_none {l:List ModD} {ch:List Bool} (hn:∀ j,j<l.length→pickB l ch j=false):nextI l ch=none:=by
 unfold nextI
 rw [List.find?_range_eq_none]
 exact fun j hj=>by rw [hn j hj];rfl
theorem pick_ch {l:List ModD} {ch:List Bool} {i:Nat} (h:ch.getD i false=true):pickB l ch i=false:=by unfold pickB;rw [h];rfl
theorem pick_no {l:List ModD} {ch:List Bool} {i:Nat} (h:i<l.length) (h2:readyB l ch l[i]=false):pickB l ch i=false:=by unfold pickB;rw [List.getElem?_eq_getElem h];simp [h2]
theorem pick_yes {l:List ModD} {ch:List Bool} {i:Nat} (h:i<l.length) (h1:ch.getD i false=false) (h2:readyB l ch l[i]=true):pickB l ch i=true:=by unfold pickB;rw [List.getElem?_eq_getElem h,h1];simp [h2]
theorem ready_yes {l:List ModD} {ch:List Bool} {m:ModD} (h:∀ k (hk:k<m.imps.length),chB ch (fnd l m.imps[k].1)=true):readyB l ch m=true:=by
 unfold readyB
 rw [List.all_eq_true]
 intro p hp
 obtain ⟨k,hk,rfl⟩:=List.getElem_of_mem hp
 exact h k hk
theorem ready_no {l:List ModD} {ch:List Bool} {m:ModD} {k:Nat} (hk:k<m.imps.length) (h:chB ch (fnd l m.imps[k].1)=false):readyB l ch m=false:=by
 cases h2:readyB l ch m
 ·rfl
 ·unfold readyB at h2
  rw [List.all_eq_true] at h2
  rw [h2 _ (List.getElem_mem hk)] at h
  cases h
def ordF (l:List ModD):Nat→List Bool→List Nat→Option (List Nat)
 | 0,_,out=>some out
 | k+1,ch,out=>match nextI l ch with
   | none=>none
   | some i=>ordF l k (ch.set i true) (out++[i])
def ordO (l:List ModD):Option (List Nat):=ordF l l.length (List.replicate l.length false) []
def ordR (l:List ModD):List Nat×Int :=
 if modsE l≠0 then ([],modsE l) else if 16<l.length then ([],10) else if nmsE l≠0 then ([],nmsE l) else match ordO l with
  | none=>([],13)
  | some out=>(out,0)
theorem ordR_m {l:List ModD} (h:modsE l≠0):ordR l=([],modsE l):=by unfold ordR;rw [if_pos h]
theorem ordR_s {l:List ModD} (h:modsE l=0) (h2:16<l.length):ordR l=([],10):=by unfold ordR;rw [if_neg (by rw [h];simp),if_pos h2]
theorem ordR_n {l:List ModD} (h:modsE l=0) (h2:¬ 16<l.length) (h3:nmsE l≠0):ordR l=([],nmsE l):=by unfold ordR;rw [if_neg (by rw [h];simp),if_neg h2,if_pos h3]
theorem ordR_c {l:List ModD} (h:modsE l=0) (h2:¬ 16<l.length) (h3:nmsE l=0) (h4:ordO l=none):ordR l=([],13):=by unfold ordR;rw [if_neg (by rw [h];simp),if_neg h2,if_neg (by rw [h3];simp),h4]
theorem ordR_o {l:List ModD} {out:List Nat} (h:modsE l=0) (h2:¬ 16<l.length) (h3:nmsE l=0) (h4:ordO l=some out):ordR l=(out,0):=by unfold ordR;rw [if_neg (by rw [h];simp),if_neg h2,if_neg (by rw [h3];simp),h4]
def restO (l:List ModD) (ch:List Bool) (out:List Nat):Option (List Nat):=ordF l (l.length-out.length) ch out
theorem rest_0 (l:List ModD):restO l (List.replicate l.length false) []=ordO l:=by unfold restO ordO;simp
theorem rest_end {l:List ModD} {ch:List Bool} {out:List Nat} (h:l.length≤out.length):restO l ch out=some out:=by unfold restO;rw [Nat.sub_eq_zero_of_le h];rfl
theorem rest_none {l:List ModD} {ch:List Bool} {out:List Nat} (h:out.length<l.length) (hn:nextI l ch=none):restO l ch out=none:=by
 unfold restO
 rw [show l.length-out.length=(l.length-(out.length+1))+1 by omega,ordF,hn]
theorem rest_some {l:List ModD} {ch:List Bool} {out:List Nat} {i:Nat} (h:out.length<l.length) (hn:nextI l ch=some i):restO l ch out=restO l (ch.set i true) (out++[i]):=by
 unfold restO
 rw [show l.length-out.length=(l.length-(out.length+1))+1 by omega,ordF,hn,List.length_append,List.length_singleton]
def IntsV (w:World) (v:Value) (ns:List Nat):Prop:=∃ a c,v=.slice a ns.length c∧(ns≠[]→∃ b,a=some ⟨b,0,none⟩∧CellsAt w b 0 (ns.map fun n:Nat=>Value.int .i64 (n:Int)))
theorem IntsV.nil (w:World):IntsV w (.slice none 0 0) []:=⟨none,0,rfl,fun h=>absurd rfl h⟩
def OrdR (l:List ModD) (w:World) (e:Ending) (w':World):Prop:=∃ v,e=.returned (.tuple #[v,.int .i64 (ordR l).2])∧IntsV w' v (ordR l).1∧Below w.heap.size w w'
theorem ord_err {l:List ModD} {z:Int} {w w':World} (h:ordR l=([],z)) (hb:Below w.heap.size w w'):OrdR l w (.returned (.tuple #[.slice none 0 0,.int .i64 z])) w':=⟨_,by rw [h],by rw [h];exact IntsV.nil _,hb⟩
end Go.Proofs.YtiefeajappjnbaaGreatDoor
