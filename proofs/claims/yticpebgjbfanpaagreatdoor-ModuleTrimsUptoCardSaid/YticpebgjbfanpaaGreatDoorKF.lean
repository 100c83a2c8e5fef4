/- What module.used keeps: the set of indices, the queue in a row of numbers (whose slice moves on), the closure that fills them. -/
import Derived.Test.YticpebgjbfanpaaGreatDoorKE
import Derived.Test.YticpebgjbfanpaaGreatDoorGT
import Derived.Test.YticpebgjbfanpaaGreatDoorGA
import Derived.Test.YticpebgjbfanpaaGreatDoorKB
namespace Go.Proofs.YticpebgjbfanpaaGreatDoor
open Go.RowKit Go.Maps
def SetI (w:World) (b:Nat) (L:List Nat):Prop :=
 ∃ D:DataW Unit,w.ownsMap Tryz.prog 3 (plainElem Tryz.prog 4) b L.length D∧IsMap D∧(∀ i:Nat,Maps.has D (.int .i64 (i:Int))=decide (i∈L))∧(∀ q,Maps.has D q=true→∃ i:Nat,i∈L∧q=.int .i64 (i:Int))∧∀ i:Nat,D.atKey (.int .i64 (i:Int)) (.lit (.bool false))=.lit (.bool (decide (i∈L)))
theorem SetI.made (w:World):SetI (w.alloc (.map #[] 0)) w.heap.size [] :=
 ⟨.map [],World.ownsMap_made _ _ _ _,isMap_empty,fun i=>rfl,fun q h=>by simp [Maps.has] at h,fun i=>by simp [DataW.atKey]⟩
theorem SetI.lt {w:World} {b:Nat} {L:List Nat} (h:SetI w b L):b<w.heap.size:=by
 obtain ⟨D,h1,_⟩:=h
 exact h1.lt
theorem SetI.block {w w':World} {b:Nat} {L:List Nat} (h:SetI w b L) (hb:w'.heap[b]?=w.heap[b]?):SetI w' b L:=by
 obtain ⟨D,⟨es,clock,hh,r⟩,h2⟩:=h
 exact ⟨D,⟨es,clock,hb.trans hh,r⟩,h2⟩
theorem SetI.obj {w:World} {b:Nat} {L:List Nat} (h:SetI w b L):∃ es clock,w.heap[b]?=some (.map es clock):=by
 obtain ⟨D,⟨es,clock,hh,r⟩,h2⟩:=h
 exact ⟨es,clock,hh⟩
theorem wf_small {i:Nat} (hi:i≤1048576):(Lit.int .i64 (i:Int)).wf=true:=by
 simp only [Lit.wf,Bool.and_eq_true,decide_eq_true_eq]
 constructor
 ·exact Int.le_trans (by decide:IntKind.i64.min≤0) (by omega)
 ·exact Int.le_trans (show (i:Int)≤1048576 by omega) (by decide)
theorem isKeyLit_i64 (i:Int):WideAt.IsKeyLit (.int .i64 i):=by
 first | trivial | simp [WideAt.IsKeyLit] | exact ⟨_,_,rfl⟩
theorem SetI.look {w:World} {b:Nat} {L:List Nat} (h:SetI w b L) {i:Nat} (hi:i≤1048576):(Instr.lookup 73 (.map (some b)) (.int .i64 (i:Int)) false).run Tryz.prog w=.ok (.bool (decide (i∈L))) w:=by
 obtain ⟨D,h1,h2,h3,h4,h5⟩:=h
 obtain ⟨v,ps,hrun,hv⟩:=h1.lookup (int_keyed Tryz.underlying3) Tryz.underlying73 (zeroBool w) (plainElem_bool Tryz.underlying4 false) (keyOf_int_mk Tryz.underlying3 (wf_small hi))
 rw [h5] at hv
 obtain ⟨c,rfl,e⟩:=plainElem_bool_inv Tryz.underlying4 hv
 simp at e
 rw [hrun,e.1]
theorem wpList_look_seti {w:World} {ops:Array Oper} {rest:List Oper} {o:Oper} {a:Act} {Q:Exit→Act→World→Prop} (hw:Region.wanted o (yielded ops a.tmps)=true) (m x:Operand) (hop:o.op=Op.lookup 73 m x false)
 {b:Nat} {L:List Nat} (hm:a.eval m=.map (some b)) (h:SetI w b L) (i:Nat) (hi:i≤1048576) (hx:a.eval x=.int .i64 (i:Int)) (c:Bool) (hc:decide (i∈L)=c)
 (hk:wpList Tryz.prog ops Q rest (a.put o.dst (.bool c)) w):wpList Tryz.prog ops Q (o::rest) a w:=by
 refine wpList_step fun K' hK'=>?_
 rw [if_pos hw]
 have hrun:=h.look hi
 rw [hc] at hrun
 unfold Oper.wp
 simp [execOp,hop,hm,hx,hrun,Result.andThen]
 exact hK' _ _ hk
theorem wpList_put_seti {w:World} {ops:Array Oper} {rest:List Oper} {o:Oper} {a:Act} {Q:Exit→Act→World→Prop} (hg:o.guard=none) (m x v:Operand) (hop:o.op=Op.mapUpdate 73 m x v)
 {b:Nat} {L:List Nat} (hm:a.eval m=.map (some b)) (h:SetI w b L) (hn:L.length<maxLen) (i:Nat) (hi:i≤1048576) (hx:a.eval x=.int .i64 (i:Int)) (hv:a.eval v=.bool true)
 (hk:∀ w',SetI w' b (L++[i])→w.grownBy w' (some b)→wpList Tryz.prog ops Q rest (a.put o.dst undef) w'):wpList Tryz.prog ops Q (o::rest) a w:=by
 obtain ⟨D,h1,h2,h3,h4,h5⟩:=h
 refine wpList_mapUpdate_own w hg m x v 73 hop 3 4 (int_keyed Tryz.underlying3) Tryz.underlying73 _ b L.length D hm h1 hn _ _ (.int .i64 (i:Int)) hx hv (keyOf_int_mk Tryz.underlying3 (wf_small hi)) _ [] (plainElem_bool Tryz.underlying4 true)
  (fun w' r1 r2=>hk w' ⟨_,by simpa using r1,h2.put _ _,fun j=>?_,fun q hq=>?_,fun j=>?_⟩ r2)
 ·by_cases hj:j=i
  ·subst hj
   rw [has_put_same h2 (isKeyLit_i64 _)]
   simp
  ·rw [has_put_other (by simp;omega),h3]
   simp [hj]
 ·by_cases he:q=.int .i64 (i:Int)
  ·exact ⟨i,by simp,he⟩
  ·rw [has_put_other he] at hq
   obtain ⟨j,hj,e⟩:=h4 q hq
   exact ⟨j,by simp [hj],e⟩
 ·by_cases hj:j=i
  ·subst hj
   rw [atKey_put_same h2 (isKeyLit_i64 _)]
   simp
  ·rw [atKey_put_other (by simp;omega),h5]
   simp [hj]
def numV (i:Nat):Value:=.int .i64 (i:Int)
def IntQ (w:World) (lo:Nat) (v:Value) (T:List Nat):Prop :=
 (v=.slice none 0 0∧T=[]) ∨
 ∃ g off cap cur,v=.slice (some ⟨g,off,none⟩) T.length cap∧lo≤g∧w.heap[g]?=some (.cells cur 3 (0,0))∧T.length≤cap∧cap≤maxLen∧off+cap≤cur.size∧(∀ u∈cur.toList,∃ i:Int,u=.int .i64 i)∧(cur.toList.drop off).take T.length=T.map numV
structure QF (lo:Nat) (w w':World):Prop where
 os:w'.os=w.os
 tape:w'.tape=w.tape
 output:w'.output=w.output
 size:w.heap.size≤w'.heap.size
 block:∀ k,k<w.heap.size→(k<lo∨¬ IntRow w k)→w'.heap[k]?=w.heap[k]?
theorem IntQ.block {w w':World} {lo:Nat} {v:Value} {T:List Nat} (h:IntQ w lo v T) (hb:∀ k,k<w.heap.size→lo≤k→IntRow w k→w'.heap[k]?=w.heap[k]?):IntQ w' lo v T:=by
 rcases h with h | ⟨g,off,cap,cur,h1,h2,h3,h4,h5,h6,h7,h8⟩
 ·exact .inl h
 ·exact .inr ⟨g,off,cap,cur,h1,h2,(hb g (Array.getElem?_eq_some_iff.1 h3).1 h2 ⟨cur,h3,h7⟩).trans h3,h4,h5,h6,h7,h8⟩
theorem IntQ.one {w:World} {lo:Nat} {v:Value} {T:List Nat} (h:IntQ w lo v T):v.oneCell'=true:=by
 rcases h with ⟨rfl,_⟩ | ⟨g,off,cap,cur,rfl,_⟩<;>rfl
theorem IntQ.shape {w:World} {lo:Nat} {v:Value} {T:List Nat} (h:IntQ w lo v T):∃ a c,v=.slice a T.length c:=by
 rcases h with ⟨rfl,rfl⟩ | ⟨g,off,cap,cur,rfl,_⟩
 ·exact ⟨_,_,rfl⟩
 ·exact ⟨_,_,rfl⟩
theorem infoInt:(Tryz.prog.info? 3).map (fun i=>(i.zero,i.size,i.bytes))=some (some (.int .i64 0),1,8):=by kernel_rfl
theorem run_append_off {P:Program} (w:World) (t ty e:TypeId) (i:TypeInfo) (ht:P.underlying t=some (.slice e)) (hi:P.info? e=some i) (hsz:i.size=1)
 (g off sLen sCap:Nat) (cur:Array Value) (hg:w.heap[g]?=some (.cells cur e (0,0)))
 (a:Addr) (c:Nat) (u:Value) (hu:w.cell? a=some u) (h1:u.oneCell'=true) (hroom:sLen+1≤sCap) (hfit:off+sLen+1≤cur.size) :
 (Builtin.append_ #[t,t] ty #[.slice (some ⟨g,off,none⟩) sLen sCap,.slice (some a) 1 c]).run P w =
   .ok (.slice (some ⟨g,off,none⟩) (sLen+1) sCap) (w.setRow g (cur.toList.take (off+sLen)++[u]++cur.toList.drop (off+sLen+1)).toArray):=by
 have hf:=run_firstCells_some (P:=P) w i.size 1 a 1 c [u] (by rw [hsz];rfl) (fun j v hv=>by
  match j,hv with
  | 0,hv=>simp at hv;subst hv;rw [← hu];unfold Addr.add;split<;>simp_all)
 have hst:=run_storeCells_at P g (off+sLen) e [u] 0 cur w hg (by simpa using hfit) (by simpa using h1)
 simp only [Nat.add_zero,List.length_cons,List.length_nil,Nat.zero_add] at hst
 rw [hsz] at hf
 have hadd:(⟨g,off,none⟩:Addr).add sLen=⟨g,off+sLen,none⟩:=addr_add' g off sLen
 simp [Builtin.append_,run_underlying ht,sizeOf,typeInfo,hi,hsz,Builtin.lenOf,hroom,hf,hadd,hst]
theorem q_run (w:World) (lo:Nat) (ty:TypeId) (v:Value) (T:List Nat) (h:IntQ w lo v T) (hlo:lo≤w.heap.size) (hT:T.length≤1073741824) (a:Addr) (c:Nat) (i:Nat) (hu:w.cell? a=some (numV i)) :
 ∃ v' w',(Builtin.append_ #[117,117] ty #[v,.slice (some a) 1 c]).run Tryz.prog w=.ok v' w'∧IntQ w' lo v' (T++[i])∧QF lo w w':=by
 obtain ⟨i0,hi,hz0,hz1,hz2⟩:=info_parts infoInt
 have hnews:∀ j u,([numV i]:List Value)[j]?=some u→w.cell? (a.add j)=some u:=fun j u hj=>by
  match j,hj with
  | 0,hj=>simp at hj;subst hj;rw [← hu];unfold Addr.add;split<;>simp_all
 have grown:∀ old,old<T.length+1→IntQ (w.drew.alloc (.cells ((T.map numV).toArray++[numV i].toArray++Builtin.zeroCells (Value.int .i64 0).cells (grownCap w (T.length+1) old 3-(T.length+1))) 3)) lo (.slice (some ⟨w.heap.size,0,none⟩) (T.length+1) (grownCap w (T.length+1) old 3)) (T++[i]) ∧
  QF lo w (w.drew.alloc (.cells ((T.map numV).toArray++[numV i].toArray++Builtin.zeroCells (Value.int .i64 0).cells (grownCap w (T.length+1) old 3-(T.length+1))) 3)):=by
  intro old ho
  have hge:=grownCap_ge w (T.length+1) old 3
  have hcm:grownCap w (T.length+1) old 3≤maxLen:=grownCap_le_maxLen w (T.length+1) old 3 (by unfold maxLen;omega)
  refine ⟨.inr ⟨w.heap.size,0,_,_,by rw [List.length_append];rfl,hlo,heap_alloc_new w.drew _,by rw [List.length_append];exact hge,hcm,?_,?_,?_⟩,⟨rfl,rfl,rfl,by simp,fun k hk _=>heap_alloc_old w.drew _ hk⟩⟩
  ·simp only [Array.size_append,List.size_toArray,size_zeroCells,List.length_map,List.length_cons,List.length_nil]
   rw [show (Value.int .i64 0).cells.size=1 from rfl,Nat.mul_one]
   omega
  ·intro u hu
   simp only [Array.toList_append,List.mem_append] at hu
   rcases hu with (hu | hu) | hu
   ·obtain ⟨j,_,rfl⟩:=List.mem_map.1 hu
    exact ⟨_,rfl⟩
   ·simp at hu
    exact ⟨_,hu⟩
   ·rw [show (Value.int .i64 0).cells=#[.int .i64 0] from rfl] at hu
    simp only [Builtin.zeroCells] at hu
    simp [Nat.mod_one] at hu
    exact ⟨0,hu.2.symm⟩
  ·simp only [Array.toList_append,List.drop_zero,List.map_append,List.map_cons,List.map_nil]
   rw [List.take_append_of_le_length (by simp),List.take_of_length_le (by simp)]
 rcases h with ⟨rfl,rfl⟩ | ⟨g,off,cap,cur,rfl,h2,h3,h4,h5,h6,h7,h8⟩
 ·have hr  :=_root_.Go.run_append_nil (P:=Tryz.prog) w 117 ty 3 i0 (.int .i64 0) Tryz.underlying117 hi hz0 a 1 c [numV i] (by rw [hz1];rfl) hnews (by decide) (by decide) (by rw [hz2];decide)
  have hg:=grown 0 (by decide)
  simp only [List.map_nil,List.length_nil,Nat.zero_add,Array.empty_append,List.nil_append] at hg
  exact ⟨_,_,hr,hg.1,hg.2⟩
 ·by_cases hroom:T.length+1≤cap
  ·have hr:=run_append_off (P:=Tryz.prog) w 117 ty 3 i0 Tryz.underlying117 hi hz1 g off T.length cap cur h3 a c (numV i) hu rfl hroom (by omega)
   have hl1:(cur.toList.take (off+T.length)).length=off+T.length:=by
    have h10:off+T.length≤cur.toList.length:=Nat.le_trans (Nat.add_le_add_left h4 off) (by simpa using h6)
    rw [List.length_take]
    exact Nat.min_eq_left h10
   refine ⟨_,_,hr,.inr ⟨g,off,cap,_,by rw [List.length_append];rfl,h2,setRow_heap w g cur _ _ _ h3,by rw [List.length_append];exact hroom,h5,?_,?_,?_⟩,⟨rfl,rfl,rfl,by simp,fun k hk hn=>setRow_other w g k _ (fun e=>by subst e;rcases hn with hn | hn;exact absurd hn (by omega);exact hn ⟨cur,h3,h7⟩)⟩⟩
   ·simp only [List.size_toArray,List.length_append,hl1,List.length_drop,Array.length_toList,List.length_cons,List.length_nil]
    omega
   ·intro u hu
    simp only [List.mem_append,List.mem_singleton] at hu
    rcases hu with (hu | hu) | hu
    ·exact h7 u (List.mem_of_mem_take hu)
    ·exact ⟨_,hu⟩
    ·exact h7 u (List.mem_of_mem_drop hu)
   ·have e1:(cur.toList.take (off+T.length)).drop off=(cur.toList.drop off).take T.length:=by rw [List.drop_take,Nat.add_sub_cancel_left]
    show ((cur.toList.take (off+T.length)++[numV i]++cur.toList.drop (off+T.length+1)).drop off).take (T++[i]).length=_
    rw [List.append_assoc,List.drop_append_of_le_length (by rw [hl1];omega),e1,h8,List.length_append,List.map_append]
    rw [← List.append_assoc,List.take_append_of_le_length (by simp),List.take_of_length_le (by simp)]
    rfl
  ·have holds:∀ j u,(T.map numV)[j]?=some u→w.cell? ((⟨g,off,none⟩:Addr).add j)=some u:=fun j u hj=>by
    rw [addr_add',cell_of_row w g (off+j) _ _ _ h3]
    rw [← h8,List.getElem?_take] at hj
    split at hj
    ·rw [List.getElem?_drop] at hj
     simpa using hj
    ·cases hj
   have hr:=run_append_grow (P:=Tryz.prog) w 117 ty 3 i0 (.int .i64 0) Tryz.underlying117 hi hz0 ⟨g,off,none⟩ T.length cap (T.map numV) (by rw [hz1];simp) holds a 1 c [numV i] (by rw [hz1];rfl) hnews (by omega) (by omega) (by rw [hz2];exact growslice_fits (by omega) (by omega))
   have hg:=grown cap (by omega)
   exact ⟨_,_,hr,hg.1,hg.2⟩
theorem wpList_append_q {w:World} {ops:Array Oper} {rest:List Oper} {o:Oper} {a:Act} {Q:Exit→Act→World→Prop} (hg:o.guard=none) (s x:Operand)
 (hop:o.op=.call { callee:=.builtin .append,args:=#[s,x],argTypes:=#[117,117] }) (lo:Nat) (v:Value) (T:List Nat) (hs:a.eval s=v) (h:IntQ w lo v T) (hlo:lo≤w.heap.size) (hT:T.length≤1073741824) (ad:Addr) (c i:Nat) (hx:a.eval x=.slice (some ad) 1 c) (hu:w.cell? ad=some (numV i))
 (hk:∀ v' w',IntQ w' lo v' (T++[i])→QF lo w w'→wpList Tryz.prog ops Q rest (a.put o.dst v') w'):wpList Tryz.prog ops Q (o::rest) a w:=by
 obtain ⟨v',w',hr,h2,h3⟩:=q_run w lo o.type v T h hlo hT ad c i hu
 refine wpList_plain hg fun K' hK'=>?_
 unfold Oper.wp
 simp [execOp,hop,resolve,invoke,builtin,hs,hx,hr,Result.andThen]
 exact hK' _ _ (hk v' w' h2 h3)
theorem IntQ.tail {w:World} {lo:Nat} {v:Value} {i:Nat} {T:List Nat} (h:IntQ w lo v (i::T)):∃ g off cap,v=.slice (some ⟨g,off,none⟩) (T.length+1) (cap+1)∧w.cell? ⟨g,off,none⟩=some (numV i)∧IntQ w lo (.slice (some ⟨g,off+1,none⟩) T.length cap) T:=by
 rcases h with ⟨_,h⟩ | ⟨g,off,cap,cur,h1,h2,h3,h4,h5,h6,h7,h8⟩
 ·cases h
 ·obtain ⟨cap,rfl⟩:∃ c,cap=c+1:=⟨cap-1,by simp at h4;omega⟩
  have h9:∀ j,((i::T).map numV)[j]?=if j<T.length+1 then cur.toList[off+j]? else none:=fun j=>by
   rw [← h8,List.getElem?_take,List.getElem?_drop]
   rfl
  refine ⟨g,off,cap,h1,?_,.inr ⟨g,off+1,cap,cur,rfl,h2,h3,by simpa using h4,by omega,by omega,h7,?_⟩⟩
  ·rw [cell_of_row w g off _ _ _ h3]
   have:=h9 0
   simp at this
   simpa using this.symm
  ·apply List.ext_getElem?
   intro j
   have:=h9 (j+1)
   rw [List.map_cons,List.getElem?_cons_succ] at this
   rw [List.getElem?_take,List.getElem?_drop,this]
   by_cases hj:j<T.length
   ·rw [if_pos hj,if_pos (by omega),show off+1+j=off+(j+1) by omega]
   ·rw [if_neg hj,if_neg (by omega)]
end Go.Proofs.YticpebgjbfanpaaGreatDoor

/- The walker of module.used: its closure that fills set and queue, a call, a node. -/
namespace Go.Proofs.YticpebgjbfanpaaGreatDoor
open Go.RowKit Go.Maps
structure UsP where
 ab:Nat
 am:Nat
 ob:Nat
 mo:Nat
 tb:Nat
 b0:Nat
def UsP.m (p:UsP):US:=⟨True,p.b0,p.mo,p.tb⟩
def wlkU (p:UsP):List Value:=[.func (.func 53) #[] #[.pointer (some ⟨p.ab,0,none⟩),.pointer (some ⟨p.ob,0,none⟩),.pointer (some ⟨p.tb,0,none⟩)],.func (.func 52) #[] #[]]
theorem lenN:∀ (n:Nat) (L:List Nat),L.Nodup→(∀ i∈L,i<n)→L.length≤n
 | 0,L,_,h=>by
   cases L with
   | nil=>exact Nat.le_refl _
   | cons i r=>exact absurd (h i (by simp)) (Nat.not_lt_zero _)
 | n+1,L,hn,h=>by
   have h1:=lenN n (L.erase n) (hn.erase n) (fun i hi=>by
    have h2:=h i (List.mem_of_mem_erase hi)
    have h3:i≠n:=fun e=>by subst e;exact (List.Nodup.not_mem_erase hn) hi
    omega)
   have h2:L.length≤(L.erase n).length+1:=by
    rw [List.length_erase]
    split<;>omega
   omega
structure StU (p:UsP) (l:List FuncD) (j:Nat) (L:List Nat) (w:World):Prop where
 idx:IdxAt w p.am l.length (strs (nmsF l))
 ac:w.cell? ⟨p.ab,0,none⟩=some (.map (some p.am))
 oc:w.heap[p.ob]?=some (.cells #[.map (some p.mo)] 73 (0,0))
 set:SetI w p.mo L
 todo:∃ v,w.heap[p.tb]?=some (.cells #[v] 117 (0,0))∧IntQ w p.b0 v (L.drop j)
 max:MaxC w
 ham:p.am<p.b0
 hab:p.ab<p.b0
 hmx:1<p.b0
 hmo:p.b0≤p.mo
 htb:p.b0≤p.tb
 hsz:p.b0≤w.heap.size
 nd:L.Nodup
 lim:∀ i∈L,i<l.length
 hj:j≤L.length
 hl:l.length≤65536
theorem StU.len {p:UsP} {l:List FuncD} {j:Nat} {L:List Nat} {w:World} (h:StU p l j L w):L.length≤65536:=Nat.le_trans (lenN _ L h.nd h.lim) h.hl
theorem notTree {w:World} {k:Nat} {cs:Array Value} {t:TypeId} (h:w.heap[k]?=some (.cells cs t (0,0))) (ht:t≠34∧t≠82∧t≠87):¬ TreeRow w k:=by
 rintro ⟨ds,t',h1,h2⟩
 rw [h] at h1
 simp only [Option.some.injEq,Obj.cells.injEq] at h1
 obtain ⟨_,rfl,_⟩:=h1
 rcases h2 with h2 | h2 | h2
 ·exact ht.1 h2
 ·exact ht.2.1 h2
 ·exact ht.2.2 h2
theorem notTree_map {w:World} {k:Nat} {es:Array MapEntry} {c:Nat} (h:w.heap[k]?=some (.map es c)):¬ TreeRow w k:=by
 rintro ⟨ds,t',h1,h2⟩
 rw [h] at h1
 cases h1
theorem cell_same {a b:World} {k o:Nat} {v:Value} (h:a.cell? ⟨k,o,none⟩=some v) (hb:b.heap[k]?=a.heap[k]?):b.cell? ⟨k,o,none⟩=some v:=by
 rw [← h]
 simp only [World.cell?]
 rw [hb]
theorem StU.keep {p:UsP} {l:List FuncD} {j:Nat} {L:List Nat} {w w':World} (h:StU p l j L w) (hk:KeepT p.m w w'):StU p l j L w':=by
 have hs:=h.hsz
 have low:∀ k,k<p.b0→w'.heap[k]?=w.heap[k]?:=fun k hk1=>hk.block k (by omega) (.inl hk1)
 obtain ⟨v,hv,hq⟩:=h.todo
 obtain ⟨es,c,hm⟩:=h.set.obj
 obtain ⟨m,hmx⟩:=h.max
 refine ⟨h.idx.block (low _ h.ham),cell_same h.ac (low _ h.hab),(hk.block _ (Array.getElem?_eq_some_iff.1 h.oc).1 (.inr (notTree h.oc (by decide)))).trans h.oc,h.set.block (hk.block _ h.set.lt (.inr (notTree_map hm))),⟨v,(hk.block _ (Array.getElem?_eq_some_iff.1 hv).1 (.inr (notTree hv (by decide)))).trans hv,hq.block fun k hk1 _ hr=>hk.block k hk1 (.inr ?_)⟩,⟨m,cell_same hmx (low _ h.hmx)⟩,h.ham,h.hab,h.hmx,h.hmo,h.htb,Nat.le_trans hs hk.size,h.nd,h.lim,h.hj,h.hl⟩
 obtain ⟨cur,hc,_⟩:=hr
 exact notTree hc (by decide)
def pshU (l:List FuncD) (L:List Nat) (s:ByteArray):List Nat:=match ixOf (strs (nmsF l)) s.data.toList with
 | some i=>if i∈L then L else L++[i]
 | none=>L
theorem pshU_none {l:List FuncD} {L:List Nat} {s:ByteArray} (h:ixOf (strs (nmsF l)) s.data.toList=none):pshU l L s=L:=by unfold pshU;rw [h]
theorem pshU_old {l:List FuncD} {L:List Nat} {s:ByteArray} {i:Nat} (h:ixOf (strs (nmsF l)) s.data.toList=some i) (hi:i∈L):pshU l L s=L:=by unfold pshU;rw [h];exact if_pos hi
theorem pshU_new {l:List FuncD} {L:List Nat} {s:ByteArray} {i:Nat} (h:ixOf (strs (nmsF l)) s.data.toList=some i) (hi:¬ i∈L):pshU l L s=L++[i]:=by unfold pshU;rw [h];exact if_neg hi
theorem ixOf_lt {l:List FuncD} {s:ByteArray} {i:Nat} (h:ixOf (strs (nmsF l)) s.data.toList=some i):i<l.length:=by
 have h1:=ix_fn_some h
 have h2:=(fnIx_range l s).2
 omega
def Us2R (p:UsP) (l:List FuncD) (j:Nat) (s:ByteArray) (L:List Nat) (w:World) (e:Ending) (w':World):Prop:=e=.returned (.tuple #[.string s,.int .i64 (-1),.bool true])∧StU p l j L w'∧FU p.m w w'
theorem QF.fu {p:UsP} {a b:World} (h:QF p.b0 a b):FU p.m a b:=⟨h.os,h.tape,h.output,h.size,fun k hk hn=>h.block k hk (by
 by_cases hb:k<p.b0
 ·exact .inl hb
 ·exact .inr fun hr=>hn ⟨trivial,by show p.b0≤k;omega,.inr (.inr hr)⟩)⟩
theorem fu_grown {p:UsP} {a b:World} (h:a.grownBy b (some p.mo)) (hb:p.b0≤p.mo):FU p.m a b:=⟨h.os,h.tape,h.output,h.size,fun k hk hn=>h.block k hk (fun e=>hn ⟨trivial,by cases e;exact hb,.inl (by cases e;rfl)⟩)⟩
theorem fu_box {p:UsP} (a:World) (v:Value) (hb:p.b0≤p.tb):FU p.m a (a.setCell ⟨p.tb,0,none⟩ v):=⟨rfl,rfl,rfl,by simp,fun k hk hn=>heap_setCell_other _ _ _ _ (fun e=>hn ⟨trivial,by have:k=p.tb:=e;subst this;exact hb,.inr (.inl e)⟩)⟩
theorem StU.take {p:UsP} {l:List FuncD} {j:Nat} {L:List Nat} {w w1 w2 w3:World} {o:Obj} {i:Nat} {v':Value} (h:StU p l j L w) (hs:SetI w1 p.mo (L++[i])) (hg:w.grownBy w1 (some p.mo)) (hw2:w2=w1.alloc o) (hq:IntQ w3 p.b0 v' (L.drop j++[i])) (hf:QF p.b0 w2 w3) (hi:i<l.length) (hn:¬ i∈L) :
 StU p l j (L++[i]) (w3.setCell ⟨p.tb,0,none⟩ v')∧FU p.m w (w3.setCell ⟨p.tb,0,none⟩ v'):=by
 have hsz:=h.hsz
 have h1:=hg.size
 have h2:w2.heap.size=w1.heap.size+1:=by rw [hw2];exact World.size_alloc _ _
 have h3:=hf.size
 have kp:∀ k,k<w.heap.size→k≠p.mo→(k<p.b0∨¬ IntRow w k)→w3.heap[k]?=w.heap[k]?:=fun k hk hm hr=>by
  have e1:w1.heap[k]?=w.heap[k]?:=hg.block k hk (fun e=>hm (by cases e;rfl))
  have e2:w2.heap[k]?=w1.heap[k]?:=by rw [hw2];exact heap_alloc_old w1 o (by omega)
  have e3:=e2.trans e1
  refine (hf.block k (by omega) (hr.imp id (fun hn hr=>hn ?_))).trans e3
  unfold IntRow at hr ⊢
  rw [e3] at hr
  exact hr
 obtain ⟨v,hv,hq0⟩:=h.todo
 obtain ⟨es,c,hm⟩:=h.set.obj
 obtain ⟨es1,c1,hm1⟩:=hs.obj
 obtain ⟨mm,hmx⟩:=h.max
 have htm:p.tb≠p.mo:=fun e=>by rw [e,hm] at hv;cases hv
 have hom:p.ob≠p.mo:=fun e=>by have:=h.oc;rw [e,hm] at this;cases this
 have hot:p.ob≠p.tb:=fun e=>by have:=h.oc;rw [e,hv] at this;simp at this
 have nI:∀ {k:Nat} {cs:Array Value} {t:TypeId},w.heap[k]?=some (.cells cs t (0,0))→t≠3→¬ IntRow w k:=fun hr ht ⟨cur,hc,_⟩=>by
  rw [hr] at hc
  simp only [Option.some.injEq,Obj.cells.injEq] at hc
  exact ht hc.2.1
 have low:∀ k,k<p.b0→(w3.setCell ⟨p.tb,0,none⟩ v').heap[k]?=w.heap[k]?:=fun k hk=>(heap_setCell_other _ _ _ _ (by have:=h.htb;show k≠p.tb;omega)).trans (kp k (by omega) (by have:=h.hmo;omega) (.inl hk))
 have htb3:w3.heap[p.tb]?=some (.cells #[v] 117 (0,0)):=(kp _ (Array.getElem?_eq_some_iff.1 hv).1 htm (.inr (nI hv (by decide)))).trans hv
 have hnm:∀ {k:Nat},k=p.mo→¬ IntRow w1 k:=fun e ⟨cur,hc,_⟩=>by rw [e,hm1] at hc;cases hc
 refine ⟨⟨h.idx.block (low _ h.ham),cell_same h.ac (low _ h.hab),?_,hs.block ?_,⟨v',?_,?_⟩,⟨mm,cell_same hmx (low _ h.hmx)⟩,h.ham,h.hab,h.hmx,h.hmo,h.htb,by rw [World.size_setCell];omega,?_,?_,by rw [List.length_append];have:=h.hj;omega,h.hl⟩,?_⟩
 ·exact (heap_setCell_other _ _ _ _ (by show p.ob≠p.tb;exact hot)).trans ((kp _ (Array.getElem?_eq_some_iff.1 h.oc).1 hom (.inr (nI h.oc (by decide)))).trans h.oc)
 ·refine (heap_setCell_other _ _ _ _ (by show p.mo≠p.tb;exact fun e=>htm e.symm)).trans ((hf.block p.mo (by have:=hs.lt;omega) (.inr ?_)).trans (by rw [hw2];exact heap_alloc_old w1 o hs.lt))
  rintro ⟨cur,hc,hcc⟩
  exact hnm rfl ⟨cur,by rw [← hc,hw2];exact (heap_alloc_old w1 o hs.lt).symm,hcc⟩
 ·rw [heap_setCell_same w3 p.tb 0 _ _ _ htb3]
  rfl
 ·rw [List.drop_append_of_le_length h.hj]
  refine hq.block fun k hk _ hr=>heap_setCell_other _ _ _ _ (fun e=>?_)
  obtain ⟨cur,hc,_⟩:=hr
  have e':k=p.tb:=e
  rw [e',htb3] at hc
  simp at hc
 ·exact List.nodup_append.2 ⟨h.nd,by simp,fun a ha b hb=>by simp at hb;subst hb;exact fun e=>hn (e ▸ ha)⟩
 ·intro k hk
  rcases List.mem_append.1 hk with hk | hk
  ·exact h.lim k hk
  ·simp at hk;omega
 ·exact (((fu_grown hg h.hmo).go (FUB.of_below (by rw [hw2];exact belowBox w1 o)) h1).go hf.fu (by omega)).go (fu_box w3 v' h.htb) (by omega)
set_option maxRecDepth 100000 in
set_option maxHeartbeats 3200000 in
theorem used2_p (p:UsP) (l:List FuncD) (j:Nat) (s:ByteArray) (L:List Nat) (w:World) (hs:s.size≤maxLen) (h:StU p l j L w) :
 Calls Tryz.prog 53 #[.string s,.pointer (some ⟨p.ab,0,none⟩),.pointer (some ⟨p.ob,0,none⟩),.pointer (some ⟨p.tb,0,none⟩)] w (Us2R p l j s (pshU l L s) w):=by
 have H:=Hd h
 have HI:=Hd h.idx
 have q1:=h.ac
 have HF0:=Hd (FUB.refl p.m w.heap.size w)
 clear h
 obtain ⟨ok,hok⟩:∃ v,(ixOf (strs (nmsF l)) s.data.toList).isSome=v:=⟨_,rfl⟩
 have HOK:=Hd hok
 cases ok
 case false =>
  have HP:=Hd (pshU_none (L:=L) (show ixOf (strs (nmsF l)) s.data.toList=none by simpa using hok))
  clear hok
  go_enter Tryz.func53,Tryz.ntmps53
  go_wp2_with (at_lookup;refine wpList_look_idx rfl _ _ 116 rfl Tryz.underlying116 rfl HI.out s rfl hs false HOK.out ?_;intro c hc;clear hc)
  go_ret3
  exact ⟨rfl,by rw [HP.out];exact H.out,HF0.out⟩
 case true =>
  obtain ⟨i,hi⟩:=Option.isSome_iff_exists.1 hok
  have HIC:=Hd hi
  have hil:i<l.length:=ixOf_lt hi
  have hi20:i≤1048576:=by have:=H.out.hl;omega
  have q2:w.cell? ⟨p.ob,0,none⟩=some (.map (some p.mo)):=by rw [cell_of_row w p.ob 0 _ _ _ H.out.oc];rfl
  have HSI:=Hd H.out.set
  clear hok
  by_cases hin:i∈L
  ·have HP:=Hd (pshU_old hi hin)
   have HD:=Hd (show decide (i∈L)=true by simpa using hin)
   clear hi hin
   go_enter Tryz.func53,Tryz.ntmps53
   go_wp2_with (first
    | ((with_reducible show wpList _ _ _ (⟨some 13,_,_,_,_,_⟩::_) _ _);refine wpList_look_idx rfl _ _ 116 rfl Tryz.underlying116 rfl HI.out s rfl hs true HOK.out ?_;intro c hc;obtain rfl:=hc i HIC.out;clear hc)
    | ((with_reducible show wpList _ _ _ (⟨some 20,_,_,_,_,_⟩::_) _ _);refine wpList_look_seti rfl _ _ rfl rfl HSI.out i hi20 rfl true HD.out ?_))
   go_ret3
   exact ⟨rfl,by rw [HP.out];exact H.out,HF0.out⟩
  ·have HP:=Hd (pshU_new hi hin)
   have HD:=Hd (show decide (i∈L)=false by simpa using hin)
   have HNI:=Hd hin
   have HLN:=Hd H.out.len
   obtain ⟨v,hv,hq0⟩:=H.out.todo
   have HV:=Hd hv
   have HQ0:=Hd hq0
   obtain ⟨qa,qc,hqs⟩:=hq0.shape
   have HQS:=Hd hqs
   clear hi hin hv hq0 hqs
   go_enter Tryz.func53,Tryz.ntmps53
   go_wp2_with (first
    | ((with_reducible show wpList _ _ _ (⟨some 13,_,_,_,_,_⟩::_) _ _);refine wpList_look_idx rfl _ _ 116 rfl Tryz.underlying116 rfl HI.out s rfl hs true HOK.out ?_;intro c hc;obtain rfl:=hc i HIC.out;clear hc)
    | ((with_reducible show wpList _ _ _ (⟨some 20,_,_,_,_,_⟩::_) _ _);refine wpList_look_seti rfl _ _ rfl rfl HSI.out i hi20 rfl false HD.out ?_)
    | (at_mapUpdate;refine wpList_put_seti rfl _ _ _ rfl rfl HSI.out (by have:=HLN.out;unfold maxLen;omega) i hi20 rfl rfl ?_))
   intro w1 hs1 hg1
   have HS1:=Hd hs1
   have HG1:=Hd hg1
   have hb1:=hg1.size
   have HT1:=Hd (show w1.heap[p.tb]?=some (.cells #[v] 117 (0,0)) from (hg1.block _ (Array.getElem?_eq_some_iff.1 HV.out).1 (fun e=>by
    obtain ⟨es,c,hm⟩:=HSI.out.obj
    have e':p.tb=p.mo:=by simpa using e
    have:=HV.out
    rw [e',hm] at this
    cases this)).trans HV.out)
   have q3:w1.cell? ⟨p.tb,0,none⟩=some v:=by rw [cell_of_row w1 p.tb 0 _ _ _ HT1.out];rfl
   have HQ1:=Hd (show IntQ w1 p.b0 v (L.drop j) from HQ0.out.block fun k hk _ hr=>HG1.out.block k hk (fun e=>by
    obtain ⟨es,c,hm⟩:=HSI.out.obj
    obtain ⟨cur,hc,_⟩:=hr
    have e':k=p.mo:=by simpa using e
    rw [e',hm] at hc
    cases hc))
   have HQ2:=Hd (show IntQ (w1.alloc (.cells #[.int .i64 (i:Int)] 3)) p.b0 v (L.drop j) from HQ1.out.block fun k hk _ _=>heap_alloc_old w1 _ hk)
   have HDL:=Hd (show (L.drop j).length≤1073741824 by rw [List.length_drop];have:=HLN.out;omega)
   have HLO:=Hd (show p.b0≤(w1.alloc (.cells #[.int .i64 (i:Int)] 3)).heap.size by rw [World.size_alloc];have:=H.out.hsz;omega)
   have HNC:=Hd (show (w1.alloc (.cells #[.int .i64 (i:Int)] 3)).cell? ⟨w1.heap.size,0,none⟩=some (numV i) by rw [World.cell?_alloc_new];rfl)
   clear hs1 hg1 q1 q2
   go_wp2_with (at_builtin;refine wpList_append_q rfl _ _ rfl p.b0 v (L.drop j) rfl HQ2.out HLO.out HDL.out ⟨w1.heap.size,0,none⟩ 1 i rfl HNC.out ?_)
   intro v3 w3 hq3 hf3
   obtain ⟨a3,c3,rfl⟩:=hq3.shape
   obtain ⟨h9,h10⟩:=H.out.take HS1.out HG1.out rfl hq3 hf3 hil HNI.out
   have hln:(L.drop j++[i]).length=L.length-j+1:=by simp
   rw [hln] at h9 h10
   have H9:=Hd h9
   have H10:=Hd h10
   have q4:w3.cell? ⟨p.tb,0,none⟩=some v∧w3.frozen? ⟨p.tb,0,none⟩=false:=by
    have hr:w3.heap[p.tb]?=some (.cells #[v] 117 (0,0)):=(hf3.block _ (by rw [World.size_alloc];have:=(Array.getElem?_eq_some_iff.1 HT1.out).1;omega) (.inr (fun ⟨cur,hc,_⟩=>by
     rw [heap_alloc_old w1 _ (Array.getElem?_eq_some_iff.1 HT1.out).1,HT1.out] at hc
     simp at hc))).trans ((heap_alloc_old w1 _ (Array.getElem?_eq_some_iff.1 HT1.out).1).trans HT1.out)
    exact ⟨by rw [cell_of_row w3 p.tb 0 _ _ _ hr];rfl,frozen_of_row w3 p.tb 0 _ _ hr⟩
   obtain ⟨q5,q6⟩:=q4
   clear hq3 hf3 h9 h10 q3 hln
   go_wp2_with fail
   go_ret3
   exact ⟨rfl,by rw [HP.out];exact H9.out,H10.out⟩
theorem eqIn_fre (d:Nat) (f:Fn) (a b:Array Value) (w:World):(Op.equalIn (d+1) 77 (.func f a b) .nilFunc).run Tryz.prog w=.ok false w:=by
 simp [Op.equalIn,run_underlying Tryz.underlying77]
theorem eql_fre (f:Fn) (a b:Array Value) (w:World):(binOp .eql 77 (.func f a b) .nilFunc).run Tryz.prog w=.ok (.bool false) w:=by
 simp only [binOp]
 simp [show (Op.equal 77 (.func f a b) .nilFunc).run Tryz.prog w=.ok false w from eqIn_fre 9999 f a b w]
theorem used1_p (s:ByteArray) (w:World):Calls Tryz.prog 52 #[.string s] w (fun e w'=>e=.returned (.tuple #[])∧w'=w):=by
 go_enter Tryz.func52,Tryz.ntmps52
 go_wp2_with fail
 go_end0
 exact ⟨rfl,rfl⟩
end Go.Proofs.YticpebgjbfanpaaGreatDoor
