/- Rows of fourteen cells (a field: its key, its value) that lie side by side in a block of their own. -/
import Derived.Test.YtagkjofpncpcpaaGreatDoorProg
import Derived.Test.YtagkjofpncpcpaaGreatDoorGA
import Derived.Test.YtagkjofpncpcpaaGreatDoorGB
import Derived.Test.YtagkjofpncpcpaaGreatDoorGC
import Derived.Test.YtagkjofpncpcpaaGreatDoorGD
import Derived.Test.YtagkjofpncpcpaaGreatDoorRow36
import Derived.Test.YtagkjofpncpcpaaGreatDoorGF
import Derived.Test.YtagkjofpncpcpaaGreatDoorChkq
import Derived.Lib.Bytealg
namespace Go.Proofs.YtagkjofpncpcpaaGreatDoor
namespace Stb
end Stb
open Go.RowKit Stb
theorem foldl_len14:∀ (l:List Nat) (f:Nat→List Value),(∀ k∈l,(f k).length=14)→(l.flatMap f).length=l.length * 14
 | [],_,_=>rfl
 | a::r,f,h=>by
   rw [List.flatMap_cons,List.length_append,h a (List.mem_cons_self ..),foldl_len14 r f (fun k hk=>h k (List.mem_cons_of_mem _ hk)),List.length_cons]
   omega
def flatR (n:Nat) (f:Nat→List Value):List Value:=(List.range n).flatMap f
theorem flatR_s (n:Nat) (f:Nat→List Value):flatR (n+1) f=flatR n f++f n:=by
 unfold flatR
 rw [List.range_succ,List.flatMap_append,List.flatMap_cons,List.flatMap_nil,List.append_nil]
theorem flatR_len {n:Nat} {f:Nat→List Value} (h:∀ k,k<n→(f k).length=14):(flatR n f).length=n * 14:=by
 unfold flatR
 rw [foldl_len14 _ _ (fun k hk=>h k (List.mem_range.1 hk)),List.length_range]
theorem flatR_get:∀ {n:Nat} {f:Nat→List Value},(∀ k,k<n→(f k).length=14)→∀ {i j:Nat},i<n→j<14→(flatR n f)[i * 14+j]?=(f i)[j]?
 | 0,_,_,_,_,hi,_=>by omega
 | n+1,f,h,i,j,hi,hj=>by
   have hl:=flatR_len (n:=n) (f:=f) (fun k hk=>h k (by omega))
   rw [flatR_s]
   rcases Nat.lt_or_ge i n with h1 | h1
   ·rw [List.getElem?_append_left (by omega)]
    exact flatR_get (fun k hk=>h k (by omega)) h1 hj
   ·obtain rfl:i=n:=by omega
    rw [List.getElem?_append_right (by omega),hl]
    congr 1
    omega
def upd (f:Nat→List Value) (i:Nat) (r:List Value):Nat→List Value:=fun k=>if k=i then r else f k
theorem upd_len {n i:Nat} {f:Nat→List Value} {r:List Value} (h:∀ k,k<n→(f k).length=14) (hr:r.length=14):∀ k,k<n→(upd f i r k).length=14:=fun k hk=>by
 unfold upd
 split
 ·exact hr
 ·exact h k hk
def keyR (r:List Value):ByteArray:=match r with | .string s::_=>s | _=>⟨#[]⟩
structure RowsF (w:World) (b n:Nat) (f:Nat→List Value) (tl:List Value):Prop where
 row:RowT 41 w b (flatR n f++tl)
 len:∀ k,k<n→(f k).length=14
 one:∀ k,k<n→∀ v∈f k,v.oneCell'=true
 key:∀ k,k<n→(f k)[0]?=some (.string (keyR (f k)))
theorem RowsF.range {w:World} {b n i:Nat} {f:Nat→List Value} {tl:List Value} (h:RowsF w b n f tl) (hi:i<n):w.rangeAt b (i * 14) (f i):=fun j v hv=>by
 have hj:j<14:=by rw [← h.len i hi];exact (List.getElem?_eq_some_iff.1 hv).1
 have hin:i * 14+14≤n * 14:=by have:=Nat.mul_le_mul_right 14 (show i+1≤n by omega);omega
 refine h.row.cell ?_
 rw [List.getElem?_append_left (by rw [flatR_len h.len];omega),flatR_get h.len hi hj,hv]
theorem RowsF.put {w:World} {b n i j:Nat} {f:Nat→List Value} {tl:List Value} (h:RowsF w b n f tl) (_hi:i<n) (hj:j<n):RowsF (w.setRow b (flatR n (upd f i (f j))++tl).toArray) b n (upd f i (f j)) tl:=by
 refine ⟨h.row.setRow _,upd_len h.len (h.len j hj),fun k hkn=>?_,fun k hkn=>?_⟩
 ·unfold upd
  split
  ·exact h.one j hj
  ·exact h.one k hkn
 ·unfold upd
  split
  ·exact h.key j hj
  ·exact h.key k hkn
theorem FB.drew {pb:Nat} {a b:World} (h:FB pb a b):FB pb a b.drew:=⟨h.os,h.tape,h.output,h.size,h.block⟩
theorem RowsF.drew {w:World} {b n:Nat} {f:Nat→List Value} {tl:List Value} (h:RowsF w b n f tl):RowsF w.drew b n f tl:=⟨h.row.drew,h.len,h.one,h.key⟩
theorem RowsF.fb {w w':World} {b n:Nat} {f:Nat→List Value} {tl:List Value} (h:RowsF w b n f tl) (hb:Below w.heap.size w w'):RowsF w' b n f tl:=⟨h.row.then hb,h.len,h.one,h.key⟩
theorem FB.setRow {pb:Nat} {w:World} (new:Array Value):FB pb w (w.setRow pb new):=⟨rfl,rfl,rfl,by rw [setRow_size];exact Nat.le_refl _,fun k _ hn=>setRow_other w pb k new hn⟩
theorem wp_store_atL {P:Program} {o:Oper} {a:Act} {w:World} {K:Act→World→Prop} {Q:Exit→Act→World→Prop} (hdst:o.dst=none) (ty:TypeId) (x y:Operand) (ho:o.op=.store ty x y)
 (g q:Nat) (cells:List Value) (hx:a.eval x=.pointer (some ⟨g,q,none⟩)) (hy:a.eval y=.agg cells.toArray)
 (t:TypeId) (old new:List Value) (hg:RowT t w g old) (hi:(P.info? ty).map (·.size)=some cells.length)
 (hn:new=old.take q++cells++old.drop (q+cells.length)) (hfit:q+cells.length≤old.length) (h1:∀ v∈cells,v.oneCell'=true)
 (h:K a (w.setRow g new.toArray)):o.wp P a w K Q :=
 wp_store_at ty x y ho g q cells hx hy t old new hg hi hn hfit h1 (by rw [hdst];exact h)
end Go.Proofs.YtagkjofpncpcpaaGreatDoor

/- The order of strings, numbers, times and values as plain functions; the fields of a map in the order of their keys. -/
namespace Go.Proofs.YtagkjofpncpcpaaGreatDoor
open Stb
section
variable {α:Type}
def LeF (x y:ByteArray×α):Prop:=¬ y.1.data.toList<x.1.data.toList
theorem LeF.trans {x y z:ByteArray×α} (h:LeF x y) (k:LeF y z):LeF x z:=by
 unfold LeF at *
 rw [List.not_lt] at *
 exact List.le_trans h k
theorem LeF.total (x y:ByteArray×α):LeF x y∨LeF y x:=by
 unfold LeF
 rw [List.not_lt,List.not_lt]
 exact List.le_total _ _
end
def padS (s:ByteArray) (n:Nat):ByteArray:=s++zerosS n
def alignD (a b:DecD):ByteArray×ByteArray :=
 if a.digits.size=0∨b.digits.size=0 then (a.digits,b.digits) else (padS a.digits (a.exp-min a.exp b.exp).toNat,padS b.digits (b.exp-min a.exp b.exp).toNat)
def okC:Nat→ValD→Prop
 | 0,_=>False
 | m+1,v=>(0≤v.kind∧v.kind≤7)∧VDec v.num∧(v.kind=3→vtimeB v.time=true)∧(v.text.size≤65536∧v.bytes.length≤65536)∧((keyD v).map (·.data.toList)).Nodup∧(∀ x∈v.list,okC m x)∧∀ x∈v.fields,okC m x.2
theorem keysE_nodup:∀ (l:List ByteArray) (seen:List (List UInt8)),keysE seen l=0→(l.map (·.data.toList)).Nodup∧∀ k∈l,k.data.toList ∉ seen
 | [],_,_=>⟨List.nodup_nil,fun _ h=>by cases h⟩
 | k::r,seen,h=>by
   unfold keysE at h
   split at h
   ·omega
   ·split at h
    ·omega
    ·split at h
     ·omega
     ·rename_i h3
      obtain ⟨h4,h5⟩:=keysE_nodup r _ h
      refine ⟨List.nodup_cons.2 ⟨fun hm=>?_,h4⟩,fun x hx=>?_⟩
      ·obtain ⟨y,hy,e⟩:=List.mem_map.1 hm
       exact h5 y hy (List.mem_append.2 (.inr (List.mem_singleton.2 e)))
      ·rcases List.mem_cons.1 hx with rfl | hx
       ·exact h3
       ·exact fun hs=>h5 x hx (List.mem_append.2 (.inl hs))
theorem kidsL_all {f:ValD→Int→Int×Int} {P:ValD→Prop} (hf:∀ x s,(f x s).2=0→P x):∀ (l:List ValD) (s:Int),(kidsL f l s).2=0→∀ x∈l,P x
 | [],_,_,_,hx=>by cases hx
 | y::r,s,h,x,hx=>by
   unfold kidsL at h
   split at h
   ·rename_i h1
    rcases List.mem_cons.1 hx with rfl | hx
    ·exact hf _ s h1
    ·exact kidsL_all hf r _ h x hx
   ·rename_i h1
    exact absurd h h1
theorem okC_of:∀ (m:Nat) (v:ValD) (s:Int),(lookD m v s).2=0→okC m v
 | 0,_,_,h=>by simp [lookD] at h
 | m+1,v,s,h=>by
   unfold lookD at h
   split at h
   ·simp at h
   ·split at h
    ·rename_i h1
     have h3:∀ x∈kidsD v,okC m x:=kidsL_all (okC_of m) _ _ h
     unfold oneE at h1
     split at h1
     ·omega
     ·rename_i q1
      split at h1
      ·omega
      ·rename_i q2
       split at h1
       ·omega
       ·split at h1
        ·omega
        ·rename_i q4
         have q1':ownB v=true:=by cases hb:ownB v<;>simp_all
         have hk:kidsD v=v.list++v.fields.map (·.2):=own_parts q1'
         rw [hk] at h3
         unfold ownB at q1'
         rw [decide_eq_true_eq] at q1'
         refine ⟨⟨q1'.1,q1'.2.1⟩,(vdecB_iff _).1 (by cases hb:vdecB v.num<;>simp_all),fun h5=>by cases hb:vtimeB v.time<;>simp_all,by omega,(keysE_nodup _ _ h1).1,fun x hx=>h3 x (List.mem_append.2 (.inl hx)),fun x hx=>h3 _ (List.mem_append.2 (.inr (List.mem_map.2 ⟨x,hx,rfl⟩)))⟩
    ·rename_i h1
     exact absurd h h1
end Go.Proofs.YtagkjofpncpcpaaGreatDoor
