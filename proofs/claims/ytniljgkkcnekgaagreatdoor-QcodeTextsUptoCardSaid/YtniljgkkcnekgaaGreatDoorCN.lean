/- The canonical text of a value as a plain function; how long it is. No program here. -/
import Derived.Test.YtniljgkkcnekgaaGreatDoorProg
import Derived.Test.YtniljgkkcnekgaaGreatDoorGA
import Derived.Test.YtniljgkkcnekgaaGreatDoorGB
import Derived.Test.YtniljgkkcnekgaaGreatDoorGF
import Derived.Test.YtniljgkkcnekgaaGreatDoorGD
import Derived.Test.YtniljgkkcnekgaaGreatDoorGZ
import Derived.Test.YtniljgkkcnekgaaGreatDoorGT
import Derived.Test.YtniljgkkcnekgaaGreatDoorSA
import Derived.Test.YtniljgkkcnekgaaGreatDoorSD
import Derived.Test.YtniljgkkcnekgaaGreatDoorSE
import Derived.Test.YtniljgkkcnekgaaGreatDoorBL
namespace Go.Proofs.YtniljgkkcnekgaaGreatDoor
namespace Stb
end Stb
open Go.RowKit Stb
def sepT (l:List (List Int)):List Int:=(l.flatMap fun x=>44::x).drop 1
theorem sepT_take {l:List (List Int)} {k:Nat} (h:k<l.length):sepT (l.take (k+1))=sepT (l.take k)++((if k=0 then [] else [44])++l[k]):=by
 unfold sepT
 rw [List.take_succ_eq_append_getElem h,List.flatMap_append]
 cases k with
 | zero=>simp
 | succ k =>
   obtain ⟨x,r,e⟩:∃ x r,l.take (k+1)=x::r:=by
    cases l with
    | nil=>simp at h
    | cons x r=>exact ⟨x,r.take k,rfl⟩
   rw [e]
   simp
theorem sepT_len:∀ (l:List (List Int)),(sepT l).length≤(l.map fun x=>x.length+1).sum:=by
 intro l
 unfold sepT
 rw [List.length_drop,List.length_flatMap]
 exact Nat.sub_le _ _
theorem sepT_mono (l:List (List Int)) (k:Nat):(sepT (l.take k)).length≤(sepT l).length:=by
 have h:(l.take k).flatMap (fun x=>44::x)++(l.drop k).flatMap (fun x=>44::x)=l.flatMap (fun x=>44::x):=by rw [← List.flatMap_append,List.take_append_drop]
 have h2:=congrArg List.length h
 rw [List.length_append] at h2
 unfold sepT
 rw [List.length_drop,List.length_drop]
 omega
def bodyT (f:ValD→List Int) (v:ValD):List Int :=
 if v.kind=0 then [110,117,108,108] else if v.kind=1 then (if v.bool=true then [116,114,117,101] else [102,97,108,115,101]) else
 if v.kind=2 then nums (numT v.num) else if v.kind=3 then [116,34]++nums (timeS v.time)++[34] else if v.kind=4 then quoI v.text else
 if v.kind=5 then [98,34]++b64S v.bytes++[34] else if v.kind=6 then 91::(sepT (v.list.map f)++[93]) else
 123::(sepT (v.fields.map fun z=>quoI z.1++58::f z.2)++[125])
def canW:Nat→ValD→List Int
 | 0,_=>[]
 | m+1,v=>bodyT (canW m) v
def canC:Nat→ValD→List Int
 | 0,_=>[]
 | m+1,v=>if v.kind=7 then 123::(sepT ((sortF v.fields).map fun z=>quoI z.1++58::canC m z.2)++[125]) else bodyT (canC m) v
theorem can_sorted:∀ (m:Nat) (v:ValD),okC m v→canW m (sortD m v)=canC m v
 | 0,_,_=>rfl
 | m+1,v,h=>by
   obtain ⟨h1,h2,h3,h4,h5,h6⟩:=sortD_s m v
   have hk:=h.1
   rw [canW,canC]
   unfold bodyT
   rw [h1,h2,h3,h4,h5,h6,sortD_list,sortD_fields]
   have e1:v.list.map (canC m)=(v.list.map (sortD m)).map (canW m):=by
    rw [List.map_map]
    exact List.map_congr_left fun x hx=>(can_sorted m x (h.2.2.2.2.2.1 x hx)).symm
   have e2:((sortF v.fields).map fun z=>quoI z.1++58::canC m z.2)=((sortF v.fields).map fun z=>(z.1,sortD m z.2)).map fun z=>quoI z.1++58::canW m z.2:=by
    rw [List.map_map]
    exact List.map_congr_left fun z hz=>by
     show _=quoI z.1++58::canW m (sortD m z.2)
     rw [can_sorted m z.2 (h.2.2.2.2.2.2 z ((sortF_perm v.fields).mem_iff.1 hz))]
   rw [← e1,← e2]
   by_cases h7:v.kind=7
   ·rw [if_pos h7,if_neg (by omega),if_neg (by omega),if_neg (by omega),if_neg (by omega),if_neg (by omega),if_neg (by omega),if_neg (by omega)]
   ·rw [if_neg h7]
    (repeat' split)<;>first | rfl | omega
def okW:Nat→ValD→Prop
 | 0,_=>False
 | m+1,v=>(0≤v.kind∧v.kind≤7)∧VDec v.num∧(v.kind=3→vtimeB v.time=true)∧(v.text.size≤65536∧v.bytes.length≤65536)∧(∀ x∈v.list,okW m x)∧∀ z∈v.fields,z.1.size≤65536∧okW m z.2
def okK:Nat→ValD→Prop
 | 0,_=>False
 | m+1,v=>okC (m+1) v∧(v.kind≠6→v.list=[])∧(v.kind≠7→v.fields=[])∧(∀ x∈v.list,okK m x)∧∀ z∈v.fields,z.1.size≤1024∧okK m z.2
theorem okK.okC:∀ {m:Nat} {v:ValD},okK m v→okC m v
 | 0,_,h=>h.elim
 | _+1,_,h=>h.1
theorem okW_sorted:∀ (m:Nat) (v:ValD),okK m v→okW m (sortD m v)
 | 0,_,h=>h.elim
 | m+1,v,h=>by
   obtain ⟨h1,h2,h3,h4,h5,h6⟩:=sortD_s m v
   obtain ⟨⟨g1,g2,g3,g4,_⟩,_,_,g5,g6⟩:=h
   refine ⟨by rw [h1];exact g1,by rw [h3];exact g2,by rw [h1,h4];exact g3,by rw [h5,h6];exact g4,?_,?_⟩
   ·intro x hx
    rw [sortD_list] at hx
    obtain ⟨y,hy,rfl⟩:=List.mem_map.1 hx
    exact okW_sorted m y (g5 y hy)
   ·intro z hz
    rw [sortD_fields] at hz
    obtain ⟨y,hy,rfl⟩:=List.mem_map.1 hz
    have:=g6 y ((sortF_perm v.fields).mem_iff.1 hy)
    exact ⟨by show y.1.size≤65536;omega,okW_sorted m y.2 this.2⟩
def cntD:Nat→ValD→Nat
 | 0,_=>0
 | m+1,v=>1+((kidsD v).map (cntD m)).sum
theorem quoI_len (s:ByteArray):(quoI s).length≤6 * s.size+2:=by
 unfold quoI
 have:=escL_len (nums s)
 rw [nums_length] at this
 simp
 omega
theorem sum41_le {α:Type} {f g:α→Nat}:∀ {l:List α},(∀ x∈l,f x≤g x)→(l.map f).sum≤(l.map g).sum
 | [],_=>Nat.le_refl _
 | x::r,h=>by
   have h1:=h x (List.mem_cons_self ..)
   have h2:=sum41_le (l:=r) fun y hy=>h y (List.mem_cons_of_mem _ hy)
   simp only [List.map_cons,List.sum_cons]
   omega
theorem sum41_mul {α:Type} (c:Nat) (f:α→Nat):∀ l:List α,(l.map fun x=>c * f x).sum=c * (l.map f).sum
 | []=>rfl
 | x::r=>by simp only [List.map_cons,List.sum_cons,sum41_mul c f r,Nat.mul_add]
theorem sum_perm {α:Type} (f:α→Nat) {l m:List α} (h:List.Perm l m):(l.map f).sum=(m.map f).sum:=(h.map f).sum_nat
theorem canC_len:∀ (m:Nat) (v:ValD),okK m v→(canC m v).length+6160≤410000 * cntD m v
 | 0,_,h=>h.elim
 | m+1,v,h=>by
   obtain ⟨⟨g1,g2,g3,g4,_⟩,gl,gf,g5,g6⟩:=h
   have hc:(canC (m+1) v).length+6160≤410000+410000 * ((kidsD v).map (cntD m)).sum:=by
    rw [canC]
    split
    ·rename_i h7
     have e:kidsD v=v.fields.map (·.2):=by unfold kidsD;rw [if_pos h7]
     have h1:=sepT_len ((sortF v.fields).map fun z=>quoI z.1++58::canC m z.2)
     rw [List.map_map,sum_perm _ (sortF_perm v.fields)] at h1
     have h2:(v.fields.map ((fun x=>x.length+1) ∘ fun z=>quoI z.1++58::canC m z.2)).sum≤(v.fields.map fun z=>410000 * cntD m z.2).sum:=sum41_le fun z hz=>by
      have h3:=quoI_len z.1
      have h4:=(g6 z hz).1
      have h5:=canC_len m z.2 (g6 z hz).2
      show (quoI z.1++58::canC m z.2).length+1≤_
      rw [List.length_append,List.length_cons]
      omega
     rw [sum41_mul] at h2
     rw [e,List.map_map]
     have h6:(v.fields.map fun z=>cntD m z.2).sum=(v.fields.map (cntD m ∘ fun z=>z.2)).sum:=rfl
     rw [List.length_cons,List.length_append]
     simp only [List.length_cons,List.length_nil]
     omega
    ·unfold bodyT
     split
     ·simp only [List.length_cons,List.length_nil];omega
     split
     ·split<;>(simp only [List.length_cons,List.length_nil];omega)
     split
     ·have h1:=numT_size v.num 120 (by rcases g2 with ⟨h,_⟩ | ⟨_,h,_⟩<;>omega) (by rcases g2 with ⟨_,_,h⟩ | ⟨_,_,_,_,_,h1,h2⟩<;>omega) (by omega)
      rw [nums_length]
      omega
     split
     ·have h1:=timeS_size v.time
      simp only [List.length_append,List.length_cons,List.length_nil,nums_length]
      omega
     split
     ·have h1:=quoI_len v.text
      omega
     split
     ·unfold b64S
      simp only [List.length_append,List.length_cons,List.length_nil,b64T_len]
      omega
     split
     ·rename_i h6
      have e:kidsD v=v.list:=by unfold kidsD;rw [if_neg (by omega)]
      have h1:=sepT_len (v.list.map (canC m))
      rw [List.map_map] at h1
      have h2:(v.list.map ((fun x=>x.length+1) ∘ canC m)).sum≤(v.list.map fun z=>410000 * cntD m z).sum:=sum41_le fun z hz=>by
       have h5:=canC_len m z (g5 z hz)
       show (canC m z).length+1≤_
       omega
      rw [sum41_mul] at h2
      rw [e,List.length_cons,List.length_append]
      simp only [List.length_cons,List.length_nil]
      omega
     ·omega
   rw [cntD,Nat.mul_add]
   omega
theorem kids_cnt {m:Nat} (f:ValD→Int→Int×Int) (hf:∀ x s,(f x s).2=0→(f x s).1=s+(cntD m x:Nat)):∀ (l:List ValD) (s:Int),(kidsL f l s).2=0→(kidsL f l s).1=s+((l.map (cntD m)).sum:Nat)
 | [],s,_=>by simp [kidsL]
 | x::r,s,h=>by
   unfold kidsL at h ⊢
   by_cases h0:(f x s).2=0
   ·rw [if_pos h0] at h ⊢
    rw [kids_cnt f hf r _ h,hf x s h0]
    simp only [List.map_cons,List.sum_cons]
    omega
   ·rw [if_neg h0] at h
    exact absurd h h0
theorem look_cnt:∀ (m:Nat) (v:ValD) (s:Int),(lookD m v s).2=0→(lookD m v s).1=s+(cntD m v:Nat)
 | 0,_,s,h=>by simp [lookD] at h
 | m+1,v,s,h=>by
   unfold lookD at h ⊢
   split at h
   ·simp at h
   ·rename_i h1
    split at h
    ·rename_i h2
     rw [if_neg h1,if_pos h2,kids_cnt (lookD m) (look_cnt m) _ _ h,cntD]
     omega
    ·rename_i h2
     exact absurd h h2
theorem cnt_le {v:ValD} (h:chkD v=0):cntD 48 v≤65536:=by
 have h1:=look_cnt 48 v 0 h
 have h2:=lookD_range 48 v 0 (by omega) (by omega)
 omega
end Go.Proofs.YtniljgkkcnekgaaGreatDoor

/- A value that stands while a builder's block changes; what the check of a value tells. No program here. -/
namespace Go.Proofs.YtniljgkkcnekgaaGreatDoor
open Go.RowKit Stb
theorem keysE_size:∀ (l:List ByteArray) (seen:List (List UInt8)),keysE seen l=0→∀ k∈l,k.size≤1024
 | [],_,_,_,h=>by cases h
 | k::r,seen,h,x,hx=>by
   unfold keysE at h
   split at h
   ·omega
   ·split at h
    ·omega
    ·split at h
     ·omega
     ·rcases List.mem_cons.1 hx with rfl | hx
      ·omega
      ·exact keysE_size r _ h x hx
theorem kids_zero {f:ValD→Int→Int×Int}:∀ {l:List ValD} {s:Int},(kidsL f l s).2=0→∀ x∈l,∃ s',(f x s').2=0
 | [],_,_,_,h=>by cases h
 | y::r,s,h,x,hx=>by
   unfold kidsL at h
   by_cases h0:(f y s).2=0
   ·rw [if_pos h0] at h
    rcases List.mem_cons.1 hx with rfl | hx
    ·exact ⟨s,h0⟩
    ·exact kids_zero h x hx
   ·rw [if_neg h0] at h
    exact absurd h h0
theorem okK_of:∀ (m:Nat) (v:ValD) (s:Int),(lookD m v s).2=0→okK m v
 | 0,_,_,h=>by simp [lookD] at h
 | m+1,v,s,h=>by
   have hC:=okC_of (m+1) v s h
   unfold lookD at h
   split at h
   ·simp at h
   ·split at h
    ·rename_i h1
     have ho:ownB v=true:=by
      unfold oneE at h1
      split at h1
      ·omega
      ·rename_i h2;simpa using h2
     have hk:keysE [] (keyD v)=0:=by
      unfold oneE at h1
      (repeat' split at h1)<;>first | omega | exact h1
     unfold ownB at ho
     simp only [decide_eq_true_eq] at ho
     have hl:v.kind≠6→v.list=[]:=fun e=>List.eq_nil_of_length_eq_zero (ho.2.2.2.2.2.2.2.1 e)
     have hf:v.kind≠7→v.fields=[]:=fun e=>List.eq_nil_of_length_eq_zero (ho.2.2.2.2.2.2.2.2 e)
     refine ⟨hC,hl,hf,fun x hx=>?_,fun z hz=>⟨?_,?_⟩⟩
     ·have h6:v.kind=6:=by
       apply Classical.byContradiction
       intro e
       rw [hl e] at hx
       cases hx
      obtain ⟨s',hs⟩:=kids_zero h x (by unfold kidsD;rw [if_neg (by omega)];exact hx)
      exact okK_of m x s' hs
     ·exact keysE_size _ _ hk z.1 (List.mem_map.2 ⟨z,hz,rfl⟩)
     ·have h7:v.kind=7:=by
       apply Classical.byContradiction
       intro e
       rw [hf e] at hz
       cases hz
      obtain ⟨s',hs⟩:=kids_zero h z.2 (by unfold kidsD;rw [if_pos h7];exact List.mem_map.2 ⟨z,hz,rfl⟩)
      exact okK_of m z.2 s' hs
    ·rename_i h1
     exact absurd h h1
def HoldB (L b N:Nat) (v:ValD) (cs:List Value) (w:World):Prop:=L≤w.heap.size∧∀ c:World,L≤c.heap.size→(∀ q,q<L→q≠b→c.heap[q]?=w.heap[q]?)→ValD.At c c.heap.size N v cs
theorem HoldB.here {L b N:Nat} {v:ValD} {cs:List Value} {w:World} (h:HoldB L b N v cs w):ValD.At w w.heap.size N v cs:=h.2 w h.1 fun _ _ _=>rfl
theorem HoldB.step {L b N:Nat} {v:ValD} {cs:List Value} {w w':World} (h:HoldB L b N v cs w) (h1:L≤w'.heap.size) (h2:∀ q,q<L→q≠b→w'.heap[q]?=w.heap[q]?):HoldB L b N v cs w' :=
 ⟨h1,fun c h3 h4=>h.2 c h3 fun q q1 q2=>(h4 q q1 q2).trans (h2 q q1 q2)⟩
def cutW (L b:Nat) (w:World):World:={ w with heap:=(w.heap.extract 0 L).setIfInBounds b (.cells #[] 0 (0,0)) }
theorem cutW_size {L b:Nat} {w:World} (h:L≤w.heap.size):(cutW L b w).heap.size=L:=by
 unfold cutW
 simp only [Array.size_setIfInBounds,Array.size_extract]
 omega
theorem cutW_other {L b q:Nat} {w:World} (hq:q<L) (hb:q≠b) (h:L≤w.heap.size):(cutW L b w).heap[q]?=w.heap[q]?:=by
 unfold cutW
 rw [Array.getElem?_setIfInBounds_ne (by omega),Array.getElem?_extract]
 simp only [Nat.sub_zero,Nat.zero_add]
 rw [if_pos (by omega)]
theorem cutW_none {L b:Nat} {w:World} (o:Nat):(cutW L b w).cell? ⟨b,o,none⟩=none:=by
 unfold World.cell? cutW
 by_cases h:b<(w.heap.extract 0 L).size
 ·simp [Array.getElem?_setIfInBounds_self_of_lt h]
 ·rw [Array.getElem?_eq_none (by rw [Array.size_setIfInBounds];exact Nat.le_of_not_lt h)]
theorem CellsAt.congr {w c:World} {g o:Nat} {cs:List Value} (h:CellsAt w g o cs) (he:c.heap[g]?=w.heap[g]?):CellsAt c g o cs:=fun j hj=>by
 have:=h j hj
 unfold World.cell? at this ⊢
 simp only at this ⊢
 rw [he]
 exact this
theorem CellsAt.uniq {w:World} {g o n:Nat} {cs ds:List Value} (h:CellsAt w g o cs) (k:CellsAt w g o ds) (h1:cs.length=n) (h2:ds.length=n):cs=ds:=by
 apply List.ext_getElem?
 intro j
 by_cases hj:j<n
 ·rw [← h j (by omega),← k j (by omega)]
 ·rw [List.getElem?_eq_none (by omega),List.getElem?_eq_none (by omega)]
theorem HoldB.list {L b N:Nat} {v:ValD} {cs:List Value} {w:World} (h:HoldB L b N v cs w) (hn:v.list≠[]) :
 ∃ g o c,cs[11]?=some (.slice (some ⟨g,o,none⟩) v.list.length c)∧g<L∧g≠b∧∀ i (hi:i<v.list.length),∃ ds,CellsAt w g (o+i * 13) ds∧HoldB L b N v.list[i] ds w:=by
 have hA:=h.2 (cutW L b w) (Nat.le_of_eq (cutW_size h.1).symm) fun q h1 h2=>cutW_other h1 h2 h.1
 obtain ⟨ya,la,va,yc,lc,vc,hh⟩:=hA.has
 obtain ⟨g,o,e,hg,hk⟩:=hh.atList.get hn
 rw [cutW_size h.1] at hg
 have hgb:g≠b:=fun e2=>by
  obtain ⟨ds,h1,h2⟩:=hk 0 (List.length_pos_iff.2 hn)
  have hl:0<ds.length:=by rw [h2.len];decide
  have:=h1 0 hl
  rw [e2,cutW_none,List.getElem?_eq_getElem hl] at this
  cases this
 refine ⟨g,o,lc,by rw [hh.list,e],hg,hgb,fun i hi=>?_⟩
 obtain ⟨ds,h1,h2⟩:=hk i hi
 have h1w:=h1.congr (cutW_other hg hgb h.1).symm
 refine ⟨ds,h1w,h.1,fun c h3 h4=>?_⟩
 obtain ⟨ya',la',va',yc',lc',vc',hh'⟩:=(h.2 c h3 h4).has
 obtain ⟨g',o',e',_,hk'⟩:=hh'.atList.get hn
 have e2:=hh'.list.symm.trans hh.list
 rw [e',e] at e2
 simp only [Option.some.injEq,Value.slice.injEq,Addr.mk.injEq,and_true,true_and] at e2
 obtain ⟨⟨rfl,rfl⟩,_⟩:=e2
 obtain ⟨ds',h5,h6⟩:=hk' i hi
 have h7:=h5.congr (h4 _ hg hgb).symm
 rw [h1w.uniq h7 h2.len h6.len]
 exact h6
theorem HoldB.fields {L b N:Nat} {v:ValD} {cs:List Value} {w:World} (h:HoldB L b N v cs w) (hn:v.fields≠[]) :
 ∃ g o c,cs[12]?=some (.slice (some ⟨g,o,none⟩) v.fields.length c)∧g<L∧g≠b∧∀ i (hi:i<v.fields.length),∃ ds,CellsAt w g (o+i * 14) (.string v.fields[i].1::ds)∧HoldB L b N v.fields[i].2 ds w:=by
 have hA:=h.2 (cutW L b w) (Nat.le_of_eq (cutW_size h.1).symm) fun q h1 h2=>cutW_other h1 h2 h.1
 obtain ⟨ya,la,va,yc,lc,vc,hh⟩:=hA.has
 obtain ⟨g,o,e,hg,hk⟩:=hh.atFields.get hn
 rw [cutW_size h.1] at hg
 have hgb:g≠b:=fun e2=>by
  obtain ⟨ds,_,h1,h2⟩:=hk 0 (List.length_pos_iff.2 hn)
  have:=h1 0 (by simp)
  rw [e2,cutW_none] at this
  simp at this
 refine ⟨g,o,vc,by rw [hh.fields,e],hg,hgb,fun i hi=>?_⟩
 obtain ⟨ds,_,h1,h2⟩:=hk i hi
 have h1w:=h1.congr (cutW_other hg hgb h.1).symm
 refine ⟨ds,h1w,h.1,fun c h3 h4=>?_⟩
 obtain ⟨ya',la',va',yc',lc',vc',hh'⟩:=(h.2 c h3 h4).has
 obtain ⟨g',o',e',_,hk'⟩:=hh'.atFields.get hn
 have e2:=hh'.fields.symm.trans hh.fields
 rw [e',e] at e2
 simp only [Option.some.injEq,Value.slice.injEq,Addr.mk.injEq,and_true,true_and] at e2
 obtain ⟨⟨rfl,rfl⟩,_⟩:=e2
 obtain ⟨ds',_,h5,h6⟩:=hk' i hi
 have h7:=h5.congr (h4 _ hg hgb).symm
 have h8:=h1w.uniq h7 (n:=14) (by rw [List.length_cons,h2.len]) (by rw [List.length_cons,h6.len])
 simp only [List.cons.injEq,true_and] at h8
 rw [h8]
 exact h6
theorem HoldB.bytes {L b N:Nat} {v:ValD} {cs:List Value} {w:World} (h:HoldB L b N v cs w):∃ ya yc,cs[10]?=some (.slice ya v.bytes.length yc)∧BytesAt w w.heap.size v.bytes ya:=by
 obtain ⟨ya,la,va,yc,lc,vc,hh⟩:=h.here.has
 exact ⟨ya,yc,hh.bytes,hh.atBytes⟩
end Go.Proofs.YtniljgkkcnekgaaGreatDoor
