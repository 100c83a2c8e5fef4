/- Rows of fourteen cells (a field: its key, its value) that lie side by side in a block of their own. -/
import Derived.Test.YtagkjofpncpcpaaGreatDoorProg
import Derived.Test.YtagkjofpncpcpaaGreatDoorGA
import Derived.Test.YtagkjofpncpcpaaGreatDoorGB
import Derived.Test.YtagkjofpncpcpaaGreatDoorGC
import Derived.Test.YtagkjofpncpcpaaGreatDoorGD
import Derived.Test.YtagkjofpncpcpaaGreatDoorRow36
import Derived.Test.YtagkjofpncpcpaaGreatDoorGF
import Derived.Test.YtagkjofpncpcpaaGreatDoorChkq
import Derived.Test.YtagkjofpncpcpaaGreatDoorSmg07
import Derived.Lib.Bytealg
namespace Go.Proofs.YtagkjofpncpcpaaGreatDoor
namespace Stb
end Stb
open Go.RowKit Stb
theorem foldl_len14:∀ (l:List Nat) (f:Nat→List Value),(∀ k∈l,(f k).length=14)→(l.flatMap f).length=l.length * 14
 | [],_,_=>rfl
 | a::r,f,h=>by
   rw [List.flatMap_cons,List.length_append,h a (List.mem_cons_self ..),foldl_len14 r f (fun k hk=>h k (List.mem_cons_of_mem _ hk)),List.length_cons]
   omega
def flatR (n:Nat) (f:Nat→List Value):List Value:=(List.range n).flatMap f
theorem flatR_s (n:Nat) (f:Nat→List Value):flatR (n+1) f=flatR n f++f n:=by
 unfold flatR
 rw [List.range_succ,List.flatMap_append,List.flatMap_cons,List.flatMap_nil,List.append_nil]
theorem flatR_len {n:Nat} {f:Nat→List Value} (h:∀ k,k<n→(f k).length=14):(flatR n f).length=n * 14:=by
 unfold flatR
 rw [foldl_len14 _ _ (fun k hk=>h k (List.mem_range.1 hk)),List.length_range]
theorem flatR_get:∀ {n:Nat} {f:Nat→List Value},(∀ k,k<n→(f k).length=14)→∀ {i j:Nat},i<n→j<14→(flatR n f)[i * 14+j]?=(f i)[j]?
 | 0,_,_,_,_,hi,_=>by omega
 | n+1,f,h,i,j,hi,hj=>by
   have hl:=flatR_len (n:=n) (f:=f) (fun k hk=>h k (by omega))
   rw [flatR_s]
   rcases Nat.lt_or_ge i n with h1 | h1
   ·rw [List.getElem?_append_left (by omega)]
    exact flatR_get (fun k hk=>h k (by omega)) h1 hj
   ·obtain rfl:i=n:=by omega
    rw [List.getElem?_append_right (by omega),hl]
    congr 1
    omega
def upd (f:Nat→List Value) (i:Nat) (r:List Value):Nat→List Value:=fun k=>if k=i then r else f k
theorem swap_upd (f:Nat→List Value) (i j:Nat):swap f i j=upd (upd f i (f j)) j (f i):=by
 funext k
 unfold swap upd
 by_cases h1:k=i
 ·by_cases h2:k=j
  ·subst h1
   subst h2
   simp
  ·simp [h1]
   intro h3
   exact absurd (h1.trans h3) h2
 ·by_cases h2:k=j
  ·simp [h2]
   intro h3
   rw [h3]
  ·simp [h1,h2]
theorem upd_len {n i:Nat} {f:Nat→List Value} {r:List Value} (h:∀ k,k<n→(f k).length=14) (hr:r.length=14):∀ k,k<n→(upd f i r k).length=14:=fun k hk=>by
 unfold upd
 split
 ·exact hr
 ·exact h k hk
theorem flatR_set {n i:Nat} {f:Nat→List Value} {r tl:List Value} (h:∀ k,k<n→(f k).length=14) (hr:r.length=14) (hi:i<n):flatR n (upd f i r)++tl=(flatR n f++tl).take (i * 14)++r++(flatR n f++tl).drop (i * 14+r.length):=by
 have h2:=upd_len (i:=i) h hr
 have l1:=flatR_len h
 have l2:=flatR_len h2
 have hin:i * 14+14≤n * 14:=by have:=Nat.mul_le_mul_right 14 (show i+1≤n by omega);omega
 apply List.ext_getElem?
 intro q
 rw [hr]
 by_cases hq:q<n * 14
 ·have e:q=q / 14 * 14+q % 14:=by omega
  have hq1:q / 14<n:=by omega
  have hq2:q % 14<14:=by omega
  rw [List.getElem?_append_left (by omega)]
  by_cases c1:q<i * 14
  ·rw [List.append_assoc,List.getElem?_append_left (by rw [List.length_take,List.length_append];omega),List.getElem?_take,if_pos c1,List.getElem?_append_left (by omega),e,flatR_get h2 hq1 hq2,flatR_get h hq1 hq2]
   unfold upd
   rw [if_neg (by omega)]
  by_cases c2:q<i * 14+14
  ·rw [List.getElem?_append_left (by rw [List.length_append,List.length_take,List.length_append];omega),List.getElem?_append_right (by rw [List.length_take,List.length_append];omega),e,flatR_get h2 hq1 hq2]
   unfold upd
   rw [if_pos (by omega),List.length_take,List.length_append]
   congr 1
   omega
  ·rw [List.getElem?_append_right (by rw [List.length_append,List.length_take,List.length_append];omega),List.getElem?_drop,List.length_append,List.length_take,List.length_append,hr]
   rw [show i * 14+14+(q-(min (i * 14) ((flatR n f).length+tl.length)+14))=q by omega,List.getElem?_append_left (by omega),e,flatR_get h2 hq1 hq2,flatR_get h hq1 hq2]
   unfold upd
   rw [if_neg (by omega)]
 ·rw [List.getElem?_append_right (by omega),List.getElem?_append_right (by rw [List.length_append,List.length_take,List.length_append];omega),List.getElem?_drop,List.length_append,List.length_take,List.length_append,hr]
  rw [show i * 14+14+(q-(min (i * 14) ((flatR n f).length+tl.length)+14))=q by omega,List.getElem?_append_right (by omega),l1,l2]
def keyR (r:List Value):ByteArray:=match r with | .string s::_=>s | _=>⟨#[]⟩
structure RowsF (w:World) (b n:Nat) (f:Nat→List Value) (tl:List Value):Prop where
 row:RowT 41 w b (flatR n f++tl)
 len:∀ k,k<n→(f k).length=14
 one:∀ k,k<n→∀ v∈f k,v.oneCell'=true
 key:∀ k,k<n→(f k)[0]?=some (.string (keyR (f k)))
theorem RowsF.range {w:World} {b n i:Nat} {f:Nat→List Value} {tl:List Value} (h:RowsF w b n f tl) (hi:i<n):w.rangeAt b (i * 14) (f i):=fun j v hv=>by
 have hj:j<14:=by rw [← h.len i hi];exact (List.getElem?_eq_some_iff.1 hv).1
 have hin:i * 14+14≤n * 14:=by have:=Nat.mul_le_mul_right 14 (show i+1≤n by omega);omega
 refine h.row.cell ?_
 rw [List.getElem?_append_left (by rw [flatR_len h.len];omega),flatR_get h.len hi hj,hv]
theorem RowsF.put {w:World} {b n i j:Nat} {f:Nat→List Value} {tl:List Value} (h:RowsF w b n f tl) (_hi:i<n) (hj:j<n):RowsF (w.setRow b (flatR n (upd f i (f j))++tl).toArray) b n (upd f i (f j)) tl:=by
 refine ⟨h.row.setRow _,upd_len h.len (h.len j hj),fun k hkn=>?_,fun k hkn=>?_⟩
 ·unfold upd
  split
  ·exact h.one j hj
  ·exact h.one k hkn
 ·unfold upd
  split
  ·exact h.key j hj
  ·exact h.key k hkn
theorem RowsF.swapped {w:World} {b n i j:Nat} {f:Nat→List Value} {tl:List Value} (h:RowsF w b n f tl) (hi:i<n) (hj:j<n) :
 RowsF ((w.setRow b (flatR n (upd f i (f j))++tl).toArray).setRow b (flatR n (upd (upd f i (f j)) j (f i))++tl).toArray) b n (swap f i j) tl:=by
 rw [swap_upd]
 have h1:=h.put hi hj
 refine ⟨h1.row.setRow _,upd_len h1.len (h.len i hi),fun k hkn=>?_,fun k hkn=>?_⟩
 ·unfold upd
  split
  ·exact h.one i hi
  ·exact h1.one k hkn
 ·unfold upd
  split
  ·exact h.key i hi
  ·exact h1.key k hkn
theorem fit14 {n i:Nat} {f:Nat→List Value} {r tl:List Value} (h:∀ k,k<n→(f k).length=14) (hr:r.length=14) (hi:i<n):i * 14+r.length≤(flatR n f++tl).length:=by
 have hin:i * 14+14≤n * 14:=by have:=Nat.mul_le_mul_right 14 (show i+1≤n by omega);omega
 rw [List.length_append,flatR_len h,hr]
 omega
theorem FB.drew {pb:Nat} {a b:World} (h:FB pb a b):FB pb a b.drew:=⟨h.os,h.tape,h.output,h.size,h.block⟩
theorem RowsF.drew {w:World} {b n:Nat} {f:Nat→List Value} {tl:List Value} (h:RowsF w b n f tl):RowsF w.drew b n f tl:=⟨h.row.drew,h.len,h.one,h.key⟩
theorem RowsF.fb {w w':World} {b n:Nat} {f:Nat→List Value} {tl:List Value} (h:RowsF w b n f tl) (hb:Below w.heap.size w w'):RowsF w' b n f tl:=⟨h.row.then hb,h.len,h.one,h.key⟩
theorem sizeFLD14 {r:List Value} (h:r.length=14):(Tryz.prog.info? 41).map (·.size)=some r.length:=by rw [h];kernel_rfl
theorem FB.setRow {pb:Nat} {w:World} (new:Array Value):FB pb w (w.setRow pb new):=⟨rfl,rfl,rfl,by rw [setRow_size];exact Nat.le_refl _,fun k _ hn=>setRow_other w pb k new hn⟩
theorem put_list (l:List Value) (df:List Deferred) (t:Nat) (v:Value):(⟨l.toArray,df⟩:Act).put (some t) v=⟨(l.set t v).toArray,df⟩:=by simp [Act.put]
theorem wp_load_midL {P:Program} {op:Oper} {l:List Value} {df:List Deferred} {w:World} {K:Act→World→Prop} {Q:Exit→Act→World→Prop} (t:Nat) (hdst:op.dst=some t) (ty:TypeId) (x:Operand) (ho:op.op=.load ty x)
 (b o:Nat) (hx:(⟨l.toArray,df⟩:Act).eval x=.pointer (some ⟨b,o,none⟩)) (cs:List Value) (d:TypeDesc) (hc:w.rangeAt b o cs)
 (hu:P.underlying ty=some d) (hd:d.isRow=true) (hi:(P.info? ty).map (·.size)=some cs.length)
 (h:K ⟨(l.set t (.agg cs.toArray)).toArray,df⟩ w):op.wp P ⟨l.toArray,df⟩ w K Q :=
 wp_load_mid ty x ho b o hx cs d hc hu hd hi (by rw [hdst,put_list];exact h)
theorem wp_store_atL {P:Program} {o:Oper} {a:Act} {w:World} {K:Act→World→Prop} {Q:Exit→Act→World→Prop} (hdst:o.dst=none) (ty:TypeId) (x y:Operand) (ho:o.op=.store ty x y)
 (g q:Nat) (cells:List Value) (hx:a.eval x=.pointer (some ⟨g,q,none⟩)) (hy:a.eval y=.agg cells.toArray)
 (t:TypeId) (old new:List Value) (hg:RowT t w g old) (hi:(P.info? ty).map (·.size)=some cells.length)
 (hn:new=old.take q++cells++old.drop (q+cells.length)) (hfit:q+cells.length≤old.length) (h1:∀ v∈cells,v.oneCell'=true)
 (h:K a (w.setRow g new.toArray)):o.wp P a w K Q :=
 wp_store_at ty x y ho g q cells hx hy t old new hg hi hn hfit h1 (by rw [hdst];exact h)
theorem FB.swapped {pb:Nat} {a w:World} (h:FB pb a w) (n:Nat) (f:Nat→List Value) (tl:List Value) (i j:Nat) :
 FB pb a ((w.setRow pb (flatR n (upd f i (f j))++tl).toArray).setRow pb (flatR n (upd (upd f i (f j)) j (f i))++tl).toArray):=(h.trans (FB.setRow _)).trans (FB.setRow _)
end Go.Proofs.YtagkjofpncpcpaaGreatDoor

/- The order of strings, numbers, times and values as plain functions; the fields of a map in the order of their keys. -/
namespace Go.Proofs.YtagkjofpncpcpaaGreatDoor
open Stb
theorem cmpB_if:∀ (a b:List UInt8),Lib.compareBytes a b=if a<b then -1 else if b<a then 1 else 0
 | [],[]=>by
   rw [if_neg (List.lt_irrefl _),if_neg (List.lt_irrefl _)];rfl
 | [],y::s=>by
   rw [if_pos (List.nil_lt_cons _ _)];rfl
 | x::r,[]=>by
   rw [if_neg (List.not_lt_nil _),if_pos (List.nil_lt_cons _ _)];rfl
 | x::r,y::s=>by
   unfold Lib.compareBytes
   rw [cmpB_if r s]
   simp only [List.cons_lt_cons_iff]
   by_cases h1:x<y
   ·rw [if_pos h1,if_pos (.inl h1)]
   ·by_cases h2:y<x
    ·have h3:¬ (x<y∨x=y∧r<s):=fun h=>h.elim h1 fun ⟨e,_⟩=>by subst e;exact h1 h2
     rw [if_neg h1,if_pos h2,if_neg h3,if_pos (.inl h2)]
    ·have e:x=y:=UInt8.le_antisymm (UInt8.not_lt.1 h2) (UInt8.not_lt.1 h1)
     subst e
     simp only [h1,if_false,false_or,true_and]
theorem list_lt' {a b:List UInt8} (h:¬ a<b) (hn:a≠b):b<a:=by
 by_cases h2:b<a
 ·exact h2
 ·exact absurd (List.le_antisymm (List.not_lt.1 h2) (List.not_lt.1 h)) hn
theorem cmpB_lt (a b:List UInt8):Lib.compareBytes a b<0↔a<b:=by
 rw [cmpB_if]
 by_cases h:a<b
 ·simp [h]
 ·rw [if_neg h]
  constructor
  ·intro h2
   split at h2<;>omega
  ·intro h2
   exact absurd h2 h
section
variable {α:Type}
def insF (x:ByteArray×α):List (ByteArray×α)→List (ByteArray×α)
 | []=>[x]
 | y::r=>if ¬ x.1.data.toList<y.1.data.toList then y::insF x r else x::y::r
def sortF (l:List (ByteArray×α)):List (ByteArray×α):=l.foldl (fun out x=>insF x out) []
theorem insF_perm (x:ByteArray×α):∀ l,List.Perm (insF x l) (x::l)
 | []=>.refl _
 | y::r=>by
   unfold insF
   split
   ·exact ((insF_perm x r).cons y).trans (.swap _ _ _)
   ·exact .refl _
def LeF (x y:ByteArray×α):Prop:=¬ y.1.data.toList<x.1.data.toList
theorem LeF.trans {x y z:ByteArray×α} (h:LeF x y) (k:LeF y z):LeF x z:=by
 unfold LeF at *
 rw [List.not_lt] at *
 exact List.le_trans h k
theorem LeF.total (x y:ByteArray×α):LeF x y∨LeF y x:=by
 unfold LeF
 rw [List.not_lt,List.not_lt]
 exact List.le_total _ _
theorem insF_sorted (x:ByteArray×α):∀ l,l.Pairwise LeF→(insF x l).Pairwise LeF
 | [],_=>List.pairwise_singleton _ _
 | y::r,h=>by
   rw [List.pairwise_cons] at h
   unfold insF
   split
   ·rename_i h1
    refine List.pairwise_cons.2 ⟨fun z hz=>?_,insF_sorted x r h.2⟩
    rcases List.mem_cons.1 ((insF_perm x r).mem_iff.1 hz) with rfl | h2
    ·exact h1
    ·exact h.1 z h2
   ·rename_i h1
    have h2:x.1.data.toList<y.1.data.toList:=Classical.byContradiction h1
    have h3:LeF x y:=fun h4=>List.lt_asymm h2 h4
    refine List.pairwise_cons.2 ⟨fun z hz=>?_,List.pairwise_cons.2 h⟩
    rcases List.mem_cons.1 hz with rfl | hz
    ·exact h3
    ·exact h3.trans (h.1 z hz)
theorem foldF:∀ (l out:List (ByteArray×α)),out.Pairwise LeF→(l.foldl (fun out x=>insF x out) out).Pairwise LeF∧List.Perm (l.foldl (fun out x=>insF x out) out) (out++l)
 | [],out,h=>⟨h,by rw [List.append_nil];exact .refl _⟩
 | x::r,out,h=>by
   obtain ⟨h1,h2⟩:=foldF r (insF x out) (insF_sorted x out h)
   refine ⟨h1,h2.trans ?_⟩
   exact ((insF_perm x out).append_right r).trans (List.perm_middle (l₁:=out) (a:=x) (l₂:=r)).symm
theorem sortF_sorted (l:List (ByteArray×α)):(sortF l).Pairwise LeF:=(foldF l [] List.Pairwise.nil).1
theorem sortF_perm (l:List (ByteArray×α)):List.Perm (sortF l) l:=(foldF l [] List.Pairwise.nil).2
theorem sortF_len (l:List (ByteArray×α)):(sortF l).length=l.length:=(sortF_perm l).length_eq
theorem nodup_eq:∀ {l:List (ByteArray×α)} {a b:ByteArray×α},(l.map (·.1.data.toList)).Nodup→a∈l→b∈l→a.1.data.toList=b.1.data.toList→a=b
 | [],_,_,_,h,_,_=>by cases h
 | x::r,a,b,hd,ha,hb,he=>by
   rw [List.map_cons,List.nodup_cons] at hd
   rcases List.mem_cons.1 ha with ha | ha<;>rcases List.mem_cons.1 hb with hb | hb
   ·rw [ha,hb]
   ·exact absurd (List.mem_map.2 ⟨b,hb,by rw [← he,ha]⟩) hd.1
   ·exact absurd (List.mem_map.2 ⟨a,ha,by rw [he,hb]⟩) hd.1
   ·exact nodup_eq hd.2 ha hb he
theorem sortF_unique {l m:List (ByteArray×α)} (hd:(l.map (·.1.data.toList)).Nodup) (hp:List.Perm m l) (hs:m.Pairwise LeF):m=sortF l:=by
 refine List.Perm.eq_of_pairwise (le:=LeF) (fun a b ha hb h1 h2=>?_) hs (sortF_sorted l) (hp.trans (sortF_perm l).symm)
 exact nodup_eq hd (hp.mem_iff.1 ha) ((sortF_perm l).mem_iff.1 hb) (List.le_antisymm (List.not_lt.1 h1) (List.not_lt.1 h2))
theorem insF_at (x:ByteArray×α):∀ (l:List (ByteArray×α)) (k:Nat),k≤l.length→(∀ j (h:j<l.length),j<k→LeF l[j] x)→(∀ h:k<l.length,¬ LeF l[k] x)→insF x l=l.take k++x::l.drop k
 | [],k,hk,_,_=>by
   obtain rfl:k=0:=by simpa using hk
   rfl
 | y::r,0,_,_,h2=>by
   have h:=h2 (by simp)
   unfold insF
   rw [if_neg (by intro h3;exact h h3)]
   rfl
 | y::r,k+1,hk,h1,h2=>by
   have h:=h1 0 (by simp) (by omega)
   unfold insF
   rw [if_pos (show ¬ x.1.data.toList<y.1.data.toList from h),insF_at x r k (by simpa using hk) (fun j hj hjk=>h1 (j+1) (by simpa using hj) (by omega)) (fun hj=>h2 (by simpa using hj))]
   rfl
theorem sortF_take (l:List (ByteArray×α)) {k:Nat} (h:k<l.length):sortF (l.take (k+1))=insF l[k] (sortF (l.take k)):=by
 unfold sortF
 rw [List.take_add_one,List.foldl_append,List.getElem?_eq_getElem h]
 rfl
end
def sgn (a b:Int):Int:=if a<b then -1 else if b<a then 1 else 0
def cmpS (a b:ByteArray):Int:=if a.data.toList<b.data.toList then -1 else if b.data.toList<a.data.toList then 1 else 0
theorem cmpB_S (a b:ByteArray):Lib.compareBytes a.data.toList b.data.toList=cmpS a b:=cmpB_if _ _
theorem sgn_sub (a b:Int):sgn (a-b) 0=sgn a b:=by
 unfold sgn
 repeat' split
 all_goals omega
def lisC {α β:Type} (f:α→β→Int):List α→List β→Int
 | x::r,y::s=>if f x y=0 then lisC f r s else f x y
 | [],m=>sgn 0 m.length
 | l,[]=>sgn l.length 0
theorem lisC_drop {α β:Type} (f:α→β→Int) {l:List α} {m:List β} {k:Nat} (h1:k<l.length) (h2:k<m.length):lisC f (l.drop k) (m.drop k)=if f l[k] m[k]=0 then lisC f (l.drop (k+1)) (m.drop (k+1)) else f l[k] m[k]:=by
 rw [List.drop_eq_getElem_cons h1,List.drop_eq_getElem_cons h2]
 rfl
theorem lisC_end {α β:Type} (f:α→β→Int) {l:List α} {m:List β} {k:Nat} (hl:k≤l.length) (hm:k≤m.length) (h:k=l.length∨k=m.length):lisC f (l.drop k) (m.drop k)=sgn l.length m.length:=by
 by_cases h1:k=l.length
 ·subst h1
  rw [List.drop_length]
  cases hd:m.drop l.length with
  | nil =>
    have:=congrArg List.length hd
    simp only [List.length_drop,List.length_nil] at this
    unfold lisC sgn
    simp only [List.length_nil]
    repeat' split
    all_goals omega
  | cons y s =>
    have:=congrArg List.length hd
    simp only [List.length_drop,List.length_cons] at this
    unfold lisC sgn
    simp only [List.length_cons]
    repeat' split
    all_goals omega
 ·have h2:k=m.length:=h.resolve_left h1
  subst h2
  rw [List.drop_length]
  cases hd:l.drop m.length with
  | nil =>
    have:=congrArg List.length hd
    simp only [List.length_drop,List.length_nil] at this
    omega
  | cons y s =>
    have:=congrArg List.length hd
    simp only [List.length_drop,List.length_cons] at this
    unfold lisC sgn
    simp only [List.length_cons]
    repeat' split
    all_goals omega
def lenC (a b:ByteArray):Int:=if a.size<b.size then -1 else if b.size<a.size then 1 else cmpS a b
def padS (s:ByteArray) (n:Nat):ByteArray:=s++zerosS n
def alignD (a b:DecD):ByteArray×ByteArray :=
 if a.digits.size=0∨b.digits.size=0 then (a.digits,b.digits) else (padS a.digits (a.exp-min a.exp b.exp).toNat,padS b.digits (b.exp-min a.exp b.exp).toNat)
def magC (a b:DecD):Int:=lenC (alignD a b).1 (alignD a b).2
def decC (a b:DecD):Int:=if a.neg=true then (if b.neg=true then magC b a else -1) else if b.neg=true then 1 else magC a b
theorem zerosS_sizeC (n:Nat):(zerosS n).size=n:=by
 unfold zerosS strOfNums
 simp [ByteArray.size]
theorem padS_size (s:ByteArray) (n:Nat):(padS s n).size=s.size+n:=by
 unfold padS
 rw [ByteArray.size_append,zerosS_sizeC]
theorem magC_ref {a b:DecD} (ha:a.digits.size≠0) (hb:b.digits.size≠0) :
 ((a.digits.size:Int)+a.exp<b.digits.size+b.exp→magC a b=-1)∧((b.digits.size:Int)+b.exp<a.digits.size+a.exp→magC a b=1) ∧
 ((a.digits.size:Int)+a.exp=b.digits.size+b.exp→magC a b=lenC (padS a.digits (max a.digits.size b.digits.size-a.digits.size)) (padS b.digits (max a.digits.size b.digits.size-b.digits.size))):=by
 unfold magC alignD
 rw [if_neg (by omega)]
 refine ⟨fun h=>?_,fun h=>?_,fun h=>?_⟩
 ·unfold lenC
  simp only [padS_size]
  rw [if_pos (by omega)]
 ·unfold lenC
  simp only [padS_size]
  rw [if_neg (by omega),if_pos (by omega)]
 ·rw [show (a.exp-min a.exp b.exp).toNat=max a.digits.size b.digits.size-a.digits.size by omega,show (b.exp-min a.exp b.exp).toNat=max a.digits.size b.digits.size-b.digits.size by omega]
theorem magC_0 {a b:DecD} (h:a.digits.size=0∨b.digits.size=0):magC a b=lenC a.digits b.digits:=by
 unfold magC alignD
 rw [if_pos h]
def dayT (t:TimeD):Int:=t.day+(t.nano-t.offset * 60000000000) / 86400000000000
def nanT (t:TimeD):Int:=(t.nano-t.offset * 60000000000) % 86400000000000
def momC (a b:TimeD):Int:=if sgn (dayT a) (dayT b)=0 then sgn (nanT a) (nanT b) else sgn (dayT a) (dayT b)
def timC (a b:TimeD):Int:=if sgn a.kind b.kind=0 then (if momC a b=0 then sgn a.offset b.offset else momC a b) else sgn a.kind b.kind
theorem sgn_self (a:Int):sgn a a=0:=by unfold sgn;rw [if_neg (by omega),if_neg (by omega)]
theorem sgn_0 {a b:Int}:sgn a b=0↔a=b:=by
 unfold sgn
 constructor
 ·intro h
  split at h
  ·omega
  ·split at h<;>omega
 ·intro h
  rw [if_neg (by omega),if_neg (by omega)]
theorem timC_self (t:TimeD):timC t t=0:=by unfold timC momC;simp only [sgn_self,if_true]
def bI (b:Bool):Int:=if b=true then 1 else 0
def keysF (l:List (ByteArray×ValD)):List ByteArray:=(sortF l).map (·.1)
def valsF (l:List (ByteArray×ValD)):List ValD:=(sortF l).map (·.2)
def mapC (f:ValD→ValD→Int) (a b:List (ByteArray×ValD)):Int:=if lisC cmpS (keysF a) (keysF b)=0 then lisC f (valsF a) (valsF b) else lisC cmpS (keysF a) (keysF b)
def cmpD:Nat→ValD→ValD→Int
 | 0,_,_=>0
 | m+1,a,b =>
   if a.kind≠b.kind then sgn a.kind b.kind else if a.kind=1 then bI a.bool-bI b.bool else if a.kind=2 then decC a.num b.num else if a.kind=3 then timC a.time b.time else
   if a.kind=4 then cmpS a.text b.text else if a.kind=5 then lisC sgn a.bytes b.bytes else if a.kind=6 then lisC (cmpD m) a.list b.list else if a.kind=7 then mapC (cmpD m) a.fields b.fields else 0
def okC:Nat→ValD→Prop
 | 0,_=>False
 | m+1,v=>(0≤v.kind∧v.kind≤7)∧VDec v.num∧(v.kind=3→vtimeB v.time=true)∧(v.text.size≤65536∧v.bytes.length≤65536)∧((keyD v).map (·.data.toList)).Nodup∧(∀ x∈v.list,okC m x)∧∀ x∈v.fields,okC m x.2
theorem keysE_nodup:∀ (l:List ByteArray) (seen:List (List UInt8)),keysE seen l=0→(l.map (·.data.toList)).Nodup∧∀ k∈l,k.data.toList ∉ seen
 | [],_,_=>⟨List.nodup_nil,fun _ h=>by cases h⟩
 | k::r,seen,h=>by
   unfold keysE at h
   split at h
   ·omega
   ·split at h
    ·omega
    ·split at h
     ·omega
     ·rename_i h3
      obtain ⟨h4,h5⟩:=keysE_nodup r _ h
      refine ⟨List.nodup_cons.2 ⟨fun hm=>?_,h4⟩,fun x hx=>?_⟩
      ·obtain ⟨y,hy,e⟩:=List.mem_map.1 hm
       exact h5 y hy (List.mem_append.2 (.inr (List.mem_singleton.2 e)))
      ·rcases List.mem_cons.1 hx with rfl | hx
       ·exact h3
       ·exact fun hs=>h5 x hx (List.mem_append.2 (.inl hs))
theorem kidsL_all {f:ValD→Int→Int×Int} {P:ValD→Prop} (hf:∀ x s,(f x s).2=0→P x):∀ (l:List ValD) (s:Int),(kidsL f l s).2=0→∀ x∈l,P x
 | [],_,_,_,hx=>by cases hx
 | y::r,s,h,x,hx=>by
   unfold kidsL at h
   split at h
   ·rename_i h1
    rcases List.mem_cons.1 hx with rfl | hx
    ·exact hf _ s h1
    ·exact kidsL_all hf r _ h x hx
   ·rename_i h1
    exact absurd h h1
theorem okC_of:∀ (m:Nat) (v:ValD) (s:Int),(lookD m v s).2=0→okC m v
 | 0,_,_,h=>by simp [lookD] at h
 | m+1,v,s,h=>by
   unfold lookD at h
   split at h
   ·simp at h
   ·split at h
    ·rename_i h1
     have h3:∀ x∈kidsD v,okC m x:=kidsL_all (okC_of m) _ _ h
     unfold oneE at h1
     split at h1
     ·omega
     ·rename_i q1
      split at h1
      ·omega
      ·rename_i q2
       split at h1
       ·omega
       ·split at h1
        ·omega
        ·rename_i q4
         have q1':ownB v=true:=by cases hb:ownB v<;>simp_all
         have hk:kidsD v=v.list++v.fields.map (·.2):=own_parts q1'
         rw [hk] at h3
         unfold ownB at q1'
         rw [decide_eq_true_eq] at q1'
         refine ⟨⟨q1'.1,q1'.2.1⟩,(vdecB_iff _).1 (by cases hb:vdecB v.num<;>simp_all),fun h5=>by cases hb:vtimeB v.time<;>simp_all,by omega,(keysE_nodup _ _ h1).1,fun x hx=>h3 x (List.mem_append.2 (.inl hx)),fun x hx=>h3 _ (List.mem_append.2 (.inr (List.mem_map.2 ⟨x,hx,rfl⟩)))⟩
    ·rename_i h1
     exact absurd h h1
end Go.Proofs.YtagkjofpncpcpaaGreatDoor
