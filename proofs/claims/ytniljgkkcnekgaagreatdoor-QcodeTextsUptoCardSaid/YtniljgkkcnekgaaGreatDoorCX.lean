/- The text of code as a plain function. No program here. -/
import Derived.Test.YtniljgkkcnekgaaGreatDoorProg
import Derived.Test.YtniljgkkcnekgaaGreatDoorGA
import Derived.Test.YtniljgkkcnekgaaGreatDoorGB
import Derived.Test.YtniljgkkcnekgaaGreatDoorGU
import Derived.Test.YtniljgkkcnekgaaGreatDoorGF
import Derived.Test.YtniljgkkcnekgaaGreatDoorGD
import Derived.Test.YtniljgkkcnekgaaGreatDoorIN
import Derived.Test.YtniljgkkcnekgaaGreatDoorGZ
import Derived.Test.YtniljgkkcnekgaaGreatDoorBL
import Derived.Test.YtniljgkkcnekgaaGreatDoorCN
import Derived.Test.YtniljgkkcnekgaaGreatDoorNI
import Derived.Lib.SlicesCompact
namespace Go.Proofs.YtniljgkkcnekgaaGreatDoor
namespace Stb
end Stb
open Go.RowKit Stb
def argT (u n:Int):List Int:=if u=0 then [] else 32::nums (itoS n)
def namT (x:InsD):List Int:=if namO x.op=true then 32::quoI x.name else []
def valT (x:InsD):List Int:=if x.op=1 then 32::canC 48 x.val else []
def lineT (k:Nat) (x:InsD):List Int:=nums (itoS k)++[58,32]++nums (wordB x.op.toNat)++argT (useA x.op) x.a++argT (useB x.op) x.b++namT x++valT x++[10]
def linT (l:List InsD):Nat→List Int
 | 0=>[]
 | k+1=>linT l k++((l[k]?).map (lineT k)).getD []
theorem linT_s {l:List InsD} {k:Nat} (h:k<l.length):linT l (k+1)=linT l k++lineT k l[k]:=by
 rw [linT,List.getElem?_eq_getElem h]
 rfl
def headT (start:Int):List Int:=[115,116,97,114,116,32]++nums (itoS start)++[10]
structure InsOk (x:InsD) (n:Nat):Prop where
 op:1≤x.op∧x.op≤30
 a:-100000≤x.a∧x.a≤100000
 b:-100000≤x.b∧x.b≤100000
 val:x.op=1→chkD x.val=0
 name:namO x.op=true→validS x.name=true∧x.name.size≤1024
 addr:useA x.op=2→0≤x.a∧x.a<n
 call:useA x.op=3→-1≤x.a∧x.a<n
theorem valid_of {L:List (List UInt8)} (hL:∀ l∈L,validS ⟨l.toArray⟩=true∧l.length≤1024) {s:ByteArray} (h:L.contains s.toList=true):validS s=true∧s.size≤1024:=by
 have hm:=hL s.toList (by simpa using h)
 have e:(⟨s.toList.toArray⟩:ByteArray)=s:=by
  rw [ByteArray.toList_eq]
 rw [e] at hm
 refine ⟨hm.1,?_⟩
 have h2:=hm.2
 rw [ByteArray.toList_eq,Array.length_toList] at h2
 exact h2
theorem name_ok {x:InsD} (h:nameE x=0) (hn:namO x.op=true):validS x.name=true∧x.name.size≤1024:=by
 have ho:=of_decide_eq_true hn
 unfold nameE at h
 by_cases h7:x.op=7
 ·rw [if_pos h7] at h
  split at h
  ·assumption
  ·cases h
 rw [if_neg h7] at h
 by_cases h11:x.op=11
 ·rw [if_pos h11] at h
  split at h
  ·rename_i hc
   exact valid_of (L:=plusL) (by decide +kernel) hc
  ·cases h
 rw [if_neg h11] at h
 by_cases h12:x.op=12
 ·rw [if_pos h12] at h
  split at h
  ·rename_i hc
   exact valid_of (L:=compL) (by decide +kernel) hc
  ·cases h
 rw [if_neg h12,if_pos (by omega)] at h
 split at h
 ·rename_i hc
  unfold ariB arB at hc
  simp only [Bool.or_eq_true] at hc
  rcases hc with ((hc | hc) | hc) | ((hc | hc) | hc)
  ·exact valid_of (L:=zeroL) (by decide +kernel) hc
  ·exact valid_of (L:=oneL) (by decide +kernel) hc
  ·exact valid_of (L:=twoL) (by decide +kernel) hc
  ·exact valid_of (L:=two) (by decide +kernel) hc
  ·exact valid_of (L:=one) (by decide +kernel) hc
  ·exact valid_of (L:=nms) (by decide +kernel) hc
 ·cases h
theorem with_bound {k x:Int} {n:Nat} (hn:n≤400) (hk:k=0→x=0) (hks:k=0∨k=1∨k=2∨k=3∨k=4) (h:¬ withB k x n=false):-100000≤x∧x≤100000:=by
 unfold withB at h
 rcases hks with rfl | rfl | rfl | rfl | rfl
 ·rw [hk rfl];omega
 ·simp at h;omega
 ·simp at h;omega
 ·simp at h;omega
 ·simp at h;omega
theorem ins_ok {x:InsD} {n:Nat} (hn:n≤400) (h:insE x n=0):InsOk x n:=by
 unfold insE at h
 split at h
 ·cases h
 rename_i h1
 split at h
 ·cases h
 rename_i h2
 split at h
 ·cases h
 rename_i h3
 unfold badI at h2
 simp only [decide_eq_true_eq,not_or,not_and] at h2
 simp only [not_or] at h3
 obtain ⟨b1,b2,b3,b4⟩:=h2
 refine ⟨by omega,with_bound hn (fun e=>?_) (useA_kinds _) h3.1,with_bound hn (fun e=>?_) (by rcases useB_kinds x.op with e | e<;>rw [e]<;>omega) h3.2,fun e=>?_,fun e=>?_,fun e=>?_,fun e=>?_⟩
 ·exact Classical.not_not.1 (b1 e)
 ·exact Classical.not_not.1 (b2 e)
 ·rw [if_pos e] at h;exact h
 ·have ho:¬ x.op=1:=by have:=of_decide_eq_true e;omega
  rw [if_neg ho] at h
  exact name_ok h e
 ·have h4:=h3.1
  rw [e] at h4
  unfold withB at h4
  simp at h4
  omega
 ·have h4:=h3.1
  rw [e] at h4
  unfold withB at h4
  simp at h4
  omega
theorem inss_all {n:Nat}:∀ {l:List InsD},inssE n l=0→∀ x∈l,insE x n=0
 | [],_,_,h=>by cases h
 | y::r,h,x,hx=>by
   rw [inssE] at h
   by_cases h0:insE y n=0
   ·rw [if_pos h0] at h
    rcases List.mem_cons.1 hx with rfl | hx
    ·exact h0
    ·exact inss_all h x hx
   ·rw [if_neg h0] at h
    exact absurd h h0
theorem code_ok {start:Int} {l:List InsD} (hl:l.length≤400) (h:codeE start l=0):(0≤start∧start<l.length)∧∀ x∈l,InsOk x l.length:=by
 unfold codeE at h
 split at h
 ·cases h
 ·rename_i h1
  exact ⟨by omega,fun x hx=>ins_ok hl (inss_all h x hx)⟩
theorem val_len {x:InsD} {n:Nat} (h:InsOk x n) (ho:x.op=1):(canC 48 x.val).length≤26870000000:=by
 have h1:=h.val ho
 have h2:=canC_len 48 x.val (okK_of 48 x.val 0 h1)
 have h3:=cnt_le h1
 omega
theorem argT_len {u n:Int} (h1:-100000≤n) (h2:n≤100000):(argT u n).length≤20:=by
 unfold argT
 split
 ·simp
 ·have:=itoS_size (n:=n) (by omega) (by omega)
  rw [List.length_cons,nums_length]
  omega
theorem lineT_len {x:InsD} {n k:Nat} (h:InsOk x n) (hk:k≤400):(lineT k x).length≤27000000000:=by
 have h1:=itoS_size (n:=(k:Int)) (by omega) (by omega)
 have h2:=wordB_size x.op.toNat
 have h3:=argT_len (u:=useA x.op) h.a.1 h.a.2
 have h4:=argT_len (u:=useB x.op) h.b.1 h.b.2
 have h5:(namT x).length≤6147:=by
  unfold namT
  split
  ·rename_i hn
   have:=(h.name hn).2
   have:=quoI_len x.name
   rw [List.length_cons]
   omega
  ·simp
 have h6:(valT x).length≤26870000001:=by
  unfold valT
  split
  ·rename_i ho
   have:=val_len h ho
   rw [List.length_cons]
   omega
  ·simp
 unfold lineT
 simp only [List.length_append,nums_length,List.length_cons,List.length_nil]
 omega
theorem linT_len {l:List InsD} {n:Nat} (h:∀ x∈l,InsOk x n) (hl:l.length≤400):∀ k,k≤l.length→(linT l k).length≤27000000000 * k
 | 0,_=>by simp [linT]
 | k+1,hk=>by
   have h1:=linT_len h hl k (by omega)
   have h2:=lineT_len (k:=k) (h l[k] (List.getElem_mem (by omega))) (by omega)
   rw [linT_s (by omega),List.length_append]
   omega
theorem headT_len {start:Int} (h1:0≤start) (h2:start≤400):(headT start).length≤30:=by
 have:=itoS_size (n:=start) (by omega) (by omega)
 unfold headT
 simp only [List.length_append,nums_length,List.length_cons,List.length_nil]
 omega
def txtV (s:ByteArray):ValD:=.mk 4 false ⟨false,⟨#[]⟩,0⟩ ⟨0,0,0,0⟩ s [] [] []
theorem txtV_chk {s:ByteArray} (h:validS s=true) (hz:s.size≤1024):chkD (txtV s)=0:=by
 have h1:oneE (txtV s)=0:=by
  have e1:ownB (txtV s)=true:=by
   unfold ownB txtV
   rw [decide_eq_true_eq]
   exact ⟨show (0:Int)≤4 by decide,show (4:Int)≤7 by decide,fun _=>rfl,fun _=>by show decB ⟨false,⟨#[]⟩,0⟩ ⟨false,⟨#[]⟩,0⟩=true;simp [decB],fun _=>show timeB ⟨0,0,0,0⟩ ⟨0,0,0,0⟩=true by decide,fun h=>absurd rfl h,fun _=>rfl,fun _=>rfl,fun _=>rfl⟩
  have e2:vdecB (txtV s).num=true:=show vdecB ⟨false,⟨#[]⟩,0⟩=true by decide
  unfold oneE
  rw [e1,e2,if_neg (by decide),if_neg (by rintro (h | ⟨h,_⟩);exact absurd h (by decide);exact absurd h (by show ¬ (4:Int)=3;decide)),if_neg (by show ¬ validS s=false;rw [h];decide),if_neg (by show ¬ (65536<s.size∨65536<0);omega)]
  rfl
 unfold chkD lookD
 rw [if_neg (by decide),h1,if_pos rfl]
 rfl
theorem txtV_can (s:ByteArray):canC 48 (txtV s)=quoI s:=by
 rw [canC]
 rw [if_neg (by show ¬ (4:Int)=7;decide)]
 unfold bodyT
 rw [if_neg (by show ¬ (4:Int)=0;decide),if_neg (by show ¬ (4:Int)=1;decide),if_neg (by show ¬ (4:Int)=2;decide),if_neg (by show ¬ (4:Int)=3;decide),if_pos (by rfl)]
 rfl
end Go.Proofs.YtniljgkkcnekgaaGreatDoor

/- The targets of code as plain lists. No program here. -/
namespace Go.Proofs.YtniljgkkcnekgaaGreatDoor
open Go.RowKit
def isT (x:InsD):Bool:=useA x.op==2 || (useA x.op==3&&x.a != -1)
def tgtL (l:List InsD):List Int:=(l.filter isT).map (·.a)
def tgtS (l:List InsD):List Int:=Lib.compact ((tgtL l).mergeSort fun x y=>decide (x≤y))
def tgtR (l:List InsD):List Int:=List.map (fun i:Nat=>(i:Int)) ((List.range l.length).filter fun i:Nat=>decide ((i:Int)∈tgtL l))
theorem strict_eq:∀ {a b:List Int},a.Pairwise (·<·)→b.Pairwise (·<·)→(∀ x,x∈a↔x∈b)→a=b
 | [],[],_,_,_=>rfl
 | [],y::b,_,_,h=>by have:=(h y).2 (List.mem_cons_self ..);cases this
 | x::a,[],_,_,h=>by have:=(h x).1 (List.mem_cons_self ..);cases this
 | x::a,y::b,ha,hb,h=>by
   obtain ⟨a1,a2⟩:=List.pairwise_cons.1 ha
   obtain ⟨b1,b2⟩:=List.pairwise_cons.1 hb
   have e:x=y:=by
    rcases List.mem_cons.1 ((h x).1 (List.mem_cons_self ..)) with e | e
    ·exact e
    rcases List.mem_cons.1 ((h y).2 (List.mem_cons_self ..)) with e2 | e2
    ·exact e2.symm
    have:=a1 y e2
    have:=b1 x e
    omega
   subst e
   rw [strict_eq a2 b2 fun z=>⟨fun hz=>?_,fun hz=>?_⟩]
   ·rcases List.mem_cons.1 ((h z).1 (List.mem_cons_of_mem _ hz)) with e | e
    ·have:=a1 z hz;omega
    ·exact e
   ·rcases List.mem_cons.1 ((h z).2 (List.mem_cons_of_mem _ hz)) with e | e
    ·have:=b1 z hz;omega
    ·exact e
theorem compact_strict {d:Array Int}:∀ {m:Nat},m≤d.size→(∀ i j,i≤j→j<d.size→d[i]!≤d[j]!) →
 (Lib.compactUpTo d m).Pairwise (·<·)∧(∀ x∈Lib.compactUpTo d m,∃ j,j<m∧x=d[j]!)∧∀ j,j<m→d[j]!∈Lib.compactUpTo d m
 | 0,_,_=>by simp [Lib.compactUpTo]
 | m+1,hm,hs=>by
   obtain ⟨h1,h2,h3⟩:=compact_strict (m:=m) (by omega) hs
   rw [Lib.compactUpTo_succ]
   by_cases hk:Lib.keeps d m=true
   ·rw [if_pos hk]
    have hk2:m=0∨d[m]!≠d[m-1]!:=of_decide_eq_true hk
    refine ⟨List.pairwise_append.2 ⟨h1,List.pairwise_singleton _ _,fun x hx y hy=>?_⟩,fun x hx=>?_,fun j hj=>?_⟩
    ·obtain ⟨j,hj,rfl⟩:=h2 x hx
     rw [List.mem_singleton.1 hy]
     have:=hs j (m-1) (by omega) (by omega)
     have:=hs (m-1) m (by omega) (by omega)
     rcases hk2 with e | e<;>omega
    ·rcases List.mem_append.1 hx with hx | hx
     ·obtain ⟨j,hj,e⟩:=h2 x hx
      exact ⟨j,by omega,e⟩
     ·exact ⟨m,by omega,List.mem_singleton.1 hx⟩
    ·by_cases hjm:j<m
     ·exact List.mem_append_left _ (h3 j hjm)
     ·obtain rfl:j=m:=by omega
      exact List.mem_append_right _ (List.mem_singleton.2 rfl)
   ·rw [if_neg hk,List.append_nil]
    have hk2:¬ (m=0∨d[m]!≠d[m-1]!):=fun h=>hk (decide_eq_true h)
    have hm0:0<m:=by omega
    have he:d[m]! = d[m-1]!:=Classical.not_not.1 fun h=>hk2 (.inr h)
    refine ⟨h1,fun x hx=>?_,fun j hj=>?_⟩
    ·obtain ⟨j,hj,e⟩:=h2 x hx
     exact ⟨j,by omega,e⟩
    ·by_cases hjm:j<m
     ·exact h3 j hjm
     ·obtain rfl:j=m:=by omega
      rw [he]
      exact h3 (j-1) (by omega)
theorem compact_sorted {zs:List Int} (hs:zs.Pairwise (·≤·)):(Lib.compact zs).Pairwise (·<·)∧∀ x,x∈Lib.compact zs↔x∈zs:=by
 have hg:∀ j,j<zs.length→zs.toArray[j]! = zs.getD j 0:=fun j hj=>by simp [List.getD,List.getElem?_eq_getElem hj]
 have hd:∀ i j,i≤j→j<zs.toArray.size→zs.toArray[i]!≤zs.toArray[j]!:=fun i j hij hj=>by
  have hj':j<zs.length:=by simpa using hj
  rw [hg i (by omega),hg j hj',List.getD_eq_getElem?_getD,List.getD_eq_getElem?_getD,List.getElem?_eq_getElem hj',List.getElem?_eq_getElem (show i<zs.length by omega)]
  rcases Nat.lt_or_ge i j with h | h
  ·exact List.pairwise_iff_getElem.1 hs i j (by omega) hj' h
  ·obtain rfl:i=j:=by omega
   exact Int.le_refl _
 obtain ⟨h1,h2,h3⟩:=compact_strict (d:=zs.toArray) (m:=zs.length) (by simp) hd
 refine ⟨h1,fun x=>⟨fun hx=>?_,fun hx=>?_⟩⟩
 ·obtain ⟨j,hj,rfl⟩:=h2 x hx
  rw [hg j hj,List.getD_eq_getElem?_getD,List.getElem?_eq_getElem hj]
  exact List.getElem_mem hj
 ·obtain ⟨j,hj,rfl⟩:=List.getElem_of_mem hx
  have:=h3 j hj
  rw [hg j hj,List.getD_eq_getElem?_getD,List.getElem?_eq_getElem hj] at this
  exact this
theorem tgt_mem {l:List InsD} {n:Nat} (h:∀ x∈l,InsOk x n):∀ y∈tgtL l,0≤y∧y<n:=by
 intro y hy
 obtain ⟨x,hx,rfl⟩:=List.mem_map.1 hy
 obtain ⟨hx1,hx2⟩:=List.mem_filter.1 hx
 have ho:=h x hx1
 unfold isT at hx2
 simp only [Bool.or_eq_true,Bool.and_eq_true,beq_iff_eq,bne_iff_ne] at hx2
 rcases hx2 with h2 | ⟨h3,h4⟩
 ·exact ho.addr h2
 ·have:=ho.call h3
  omega
theorem tgt_eq {l:List InsD} (h:∀ x∈l,InsOk x l.length):tgtS l=tgtR l:=by
 have hs:((tgtL l).mergeSort fun x y=>decide (x≤y)).Pairwise (·≤·):=by
  have:=List.pairwise_mergeSort (le:=fun x y:Int=>decide (x≤y)) (fun a b c h1 h2=>by simp at h1 h2 ⊢;omega) (fun a b=>by simp;omega) (tgtL l)
  exact this.imp fun h=>by simpa using h
 obtain ⟨h1,h2⟩:=compact_sorted hs
 refine strict_eq h1 ?_ fun x=>?_
 ·unfold tgtR
  rw [List.pairwise_map]
  exact (List.Pairwise.filter _ List.pairwise_lt_range).imp fun {a b} h=>by have h2:a<b:=h;omega
 ·show x∈tgtS l↔_
  unfold tgtS
  rw [h2 x,List.mem_mergeSort]
  unfold tgtR
  rw [List.mem_map]
  constructor
  ·intro hx
   have hr:=tgt_mem h x hx
   refine ⟨x.toNat,List.mem_filter.2 ⟨List.mem_range.2 (by omega),?_⟩,by omega⟩
   rw [decide_eq_true_eq,Int.toNat_of_nonneg hr.1]
   exact hx
  ·rintro ⟨i,hi,rfl⟩
   exact of_decide_eq_true (List.mem_filter.1 hi).2
def IntSAt (w:World) (L:List Int) (a:Option Addr):Prop:=L=[]∨∃ g o,a=some ⟨g,o,none⟩∧g<w.heap.size∧CellsAt w g o (L.map (Value.int .i64))
theorem IntSAt.then {w w':World} {L:List Int} {a:Option Addr} (h:IntSAt w L a) (hb:Below w.heap.size w w'):IntSAt w' L a:=by
 rcases h with h | ⟨g,o,rfl,h1,h2⟩
 ·exact .inl h
 ·exact .inr ⟨g,o,rfl,Nat.lt_of_lt_of_le h1 hb.size,h2.below hb h1⟩
def TgtR (L:List Int) (w:World) (e:Ending) (w':World):Prop:=∃ a c,e=.returned (.slice a L.length c)∧IntSAt w' L a∧Below w.heap.size w w'
end Go.Proofs.YtniljgkkcnekgaaGreatDoor
