/- The order of strings, numbers, times and values as plain functions; the fields of a map in the order of their keys. -/
import Derived.Test.YtagkjofpncpcpaaGreatDoorProg
import Derived.Test.YtagkjofpncpcpaaGreatDoorGA
import Derived.Test.YtagkjofpncpcpaaGreatDoorGB
import Derived.Test.YtagkjofpncpcpaaGreatDoorGF
import Derived.Test.YtagkjofpncpcpaaGreatDoorChkq
import Derived.Test.YtagkjofpncpcpaaGreatDoorRow36
import Derived.Lib.Bytealg
namespace Go.Proofs.YtagkjofpncpcpaaGreatDoor
namespace Stb
end Stb
open Stb
section
variable {α:Type}
def LeF (x y:ByteArray×α):Prop:=¬ y.1.data.toList<x.1.data.toList
theorem LeF.trans {x y z:ByteArray×α} (h:LeF x y) (k:LeF y z):LeF x z:=by
 unfold LeF at *
 rw [List.not_lt] at *
 exact List.le_trans h k
theorem LeF.total (x y:ByteArray×α):LeF x y∨LeF y x:=by
 unfold LeF
 rw [List.not_lt,List.not_lt]
 exact List.le_total _ _
end
theorem kidsL_all {f:ValD→Int→Int×Int} {P:ValD→Prop} (hf:∀ x s,(f x s).2=0→P x):∀ (l:List ValD) (s:Int),(kidsL f l s).2=0→∀ x∈l,P x
 | [],_,_,_,hx=>by cases hx
 | y::r,s,h,x,hx=>by
   unfold kidsL at h
   split at h
   ·rename_i h1
    rcases List.mem_cons.1 hx with rfl | hx
    ·exact hf _ s h1
    ·exact kidsL_all hf r _ h x hx
   ·rename_i h1
    exact absurd h h1
end Go.Proofs.YtagkjofpncpcpaaGreatDoor

/- Rows of fourteen cells (a field: its key, its value) that lie side by side in a block of their own. -/
namespace Go.Proofs.YtagkjofpncpcpaaGreatDoor
open Go.RowKit Stb
theorem foldl_len14:∀ (l:List Nat) (f:Nat→List Value),(∀ k∈l,(f k).length=14)→(l.flatMap f).length=l.length * 14
 | [],_,_=>rfl
 | a::r,f,h=>by
   rw [List.flatMap_cons,List.length_append,h a (List.mem_cons_self ..),foldl_len14 r f (fun k hk=>h k (List.mem_cons_of_mem _ hk)),List.length_cons]
   omega
def flatR (n:Nat) (f:Nat→List Value):List Value:=(List.range n).flatMap f
theorem flatR_s (n:Nat) (f:Nat→List Value):flatR (n+1) f=flatR n f++f n:=by
 unfold flatR
 rw [List.range_succ,List.flatMap_append,List.flatMap_cons,List.flatMap_nil,List.append_nil]
theorem flatR_len {n:Nat} {f:Nat→List Value} (h:∀ k,k<n→(f k).length=14):(flatR n f).length=n * 14:=by
 unfold flatR
 rw [foldl_len14 _ _ (fun k hk=>h k (List.mem_range.1 hk)),List.length_range]
theorem flatR_get:∀ {n:Nat} {f:Nat→List Value},(∀ k,k<n→(f k).length=14)→∀ {i j:Nat},i<n→j<14→(flatR n f)[i * 14+j]?=(f i)[j]?
 | 0,_,_,_,_,hi,_=>by omega
 | n+1,f,h,i,j,hi,hj=>by
   have hl:=flatR_len (n:=n) (f:=f) (fun k hk=>h k (by omega))
   rw [flatR_s]
   rcases Nat.lt_or_ge i n with h1 | h1
   ·rw [List.getElem?_append_left (by omega)]
    exact flatR_get (fun k hk=>h k (by omega)) h1 hj
   ·obtain rfl:i=n:=by omega
    rw [List.getElem?_append_right (by omega),hl]
    congr 1
    omega
def upd (f:Nat→List Value) (i:Nat) (r:List Value):Nat→List Value:=fun k=>if k=i then r else f k
theorem upd_len {n i:Nat} {f:Nat→List Value} {r:List Value} (h:∀ k,k<n→(f k).length=14) (hr:r.length=14):∀ k,k<n→(upd f i r k).length=14:=fun k hk=>by
 unfold upd
 split
 ·exact hr
 ·exact h k hk
def keyR (r:List Value):ByteArray:=match r with | .string s::_=>s | _=>⟨#[]⟩
structure RowsF (w:World) (b n:Nat) (f:Nat→List Value) (tl:List Value):Prop where
 row:RowT 41 w b (flatR n f++tl)
 len:∀ k,k<n→(f k).length=14
 one:∀ k,k<n→∀ v∈f k,v.oneCell'=true
 key:∀ k,k<n→(f k)[0]?=some (.string (keyR (f k)))
theorem RowsF.range {w:World} {b n i:Nat} {f:Nat→List Value} {tl:List Value} (h:RowsF w b n f tl) (hi:i<n):w.rangeAt b (i * 14) (f i):=fun j v hv=>by
 have hj:j<14:=by rw [← h.len i hi];exact (List.getElem?_eq_some_iff.1 hv).1
 have hin:i * 14+14≤n * 14:=by have:=Nat.mul_le_mul_right 14 (show i+1≤n by omega);omega
 refine h.row.cell ?_
 rw [List.getElem?_append_left (by rw [flatR_len h.len];omega),flatR_get h.len hi hj,hv]
theorem RowsF.put {w:World} {b n i j:Nat} {f:Nat→List Value} {tl:List Value} (h:RowsF w b n f tl) (_hi:i<n) (hj:j<n):RowsF (w.setRow b (flatR n (upd f i (f j))++tl).toArray) b n (upd f i (f j)) tl:=by
 refine ⟨h.row.setRow _,upd_len h.len (h.len j hj),fun k hkn=>?_,fun k hkn=>?_⟩
 ·unfold upd
  split
  ·exact h.one j hj
  ·exact h.one k hkn
 ·unfold upd
  split
  ·exact h.key j hj
  ·exact h.key k hkn
theorem FB.drew {pb:Nat} {a b:World} (h:FB pb a b):FB pb a b.drew:=⟨h.os,h.tape,h.output,h.size,h.block⟩
theorem RowsF.drew {w:World} {b n:Nat} {f:Nat→List Value} {tl:List Value} (h:RowsF w b n f tl):RowsF w.drew b n f tl:=⟨h.row.drew,h.len,h.one,h.key⟩
theorem RowsF.fb {w w':World} {b n:Nat} {f:Nat→List Value} {tl:List Value} (h:RowsF w b n f tl) (hb:Below w.heap.size w w'):RowsF w' b n f tl:=⟨h.row.then hb,h.len,h.one,h.key⟩
theorem FB.setRow {pb:Nat} {w:World} (new:Array Value):FB pb w (w.setRow pb new):=⟨rfl,rfl,rfl,by rw [setRow_size];exact Nat.le_refl _,fun k _ hn=>setRow_other w pb k new hn⟩
theorem wp_store_atL {P:Program} {o:Oper} {a:Act} {w:World} {K:Act→World→Prop} {Q:Exit→Act→World→Prop} (hdst:o.dst=none) (ty:TypeId) (x y:Operand) (ho:o.op=.store ty x y)
 (g q:Nat) (cells:List Value) (hx:a.eval x=.pointer (some ⟨g,q,none⟩)) (hy:a.eval y=.agg cells.toArray)
 (t:TypeId) (old new:List Value) (hg:RowT t w g old) (hi:(P.info? ty).map (·.size)=some cells.length)
 (hn:new=old.take q++cells++old.drop (q+cells.length)) (hfit:q+cells.length≤old.length) (h1:∀ v∈cells,v.oneCell'=true)
 (h:K a (w.setRow g new.toArray)):o.wp P a w K Q :=
 wp_store_at ty x y ho g q cells hx hy t old new hg hi hn hfit h1 (by rw [hdst];exact h)
end Go.Proofs.YtagkjofpncpcpaaGreatDoor
