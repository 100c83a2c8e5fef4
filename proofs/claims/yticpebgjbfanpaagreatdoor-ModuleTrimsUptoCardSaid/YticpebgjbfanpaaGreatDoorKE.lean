/- A walk over a tree by the program's walker, whatever it resolves: frames in which a set, a box and rows of numbers may move; the result as it grows, with what it is. -/
import Derived.Test.YticpebgjbfanpaaGreatDoorGA
import Derived.Test.YticpebgjbfanpaaGreatDoorGX
import Derived.Test.YticpebgjbfanpaaGreatDoorKA
import Derived.Test.YticpebgjbfanpaaGreatDoorCpx43
import Derived.Test.YticpebgjbfanpaaGreatDoorBod39
namespace Go.Proofs.YticpebgjbfanpaaGreatDoor
open Go.RowKit
structure US where
 on:Prop
 b0:Nat
 mo:Nat
 tb:Nat
def IntRow (w:World) (k:Nat):Prop:=∃ cur:Array Value,w.heap[k]?=some (.cells cur 3 (0,0))∧∀ v∈cur.toList,∃ i:Int,v=.int .i64 i
def Mv (m:US) (w:World) (k:Nat):Prop:=m.on∧m.b0≤k∧(k=m.mo∨k=m.tb∨IntRow w k)
theorem Mv.same {m:US} {a b:World} {k:Nat} (h:b.heap[k]?=a.heap[k]?):Mv m b k↔Mv m a k:=by unfold Mv IntRow;rw [h]
structure ULt (m:US) (n:Nat):Prop where
 b0:m.b0≤n
 mo:m.mo<n
 tb:m.tb<n
theorem ULt.mono {m:US} {n n':Nat} (h:ULt m n) (hn:n≤n'):ULt m n':=⟨Nat.le_trans h.b0 hn,Nat.lt_of_lt_of_le h.mo hn,Nat.lt_of_lt_of_le h.tb hn⟩
structure FUB (m:US) (B:Nat) (w w':World):Prop where
 os:w'.os=w.os
 tape:w'.tape=w.tape
 output:w'.output=w.output
 size:w.heap.size≤w'.heap.size
 block:∀ k,k<B→¬ Mv m w k→w'.heap[k]?=w.heap[k]?
abbrev FU (m:US) (w w':World):Prop:=FUB m w.heap.size w w'
theorem FUB.trans {m:US} {B:Nat} {a b c:World} (h:FUB m B a b) (k:FUB m B b c):FUB m B a c :=
 ⟨k.os.trans h.os,k.tape.trans h.tape,k.output.trans h.output,Nat.le_trans h.size k.size,fun i hi hn=>(k.block i hi (fun hm=>hn ((Mv.same (h.block i hi hn)).1 hm))).trans (h.block i hi hn)⟩
theorem FUB.mono {m:US} {B B':Nat} {a b:World} (h:FUB m B a b) (hB:B'≤B):FUB m B' a b:=⟨h.os,h.tape,h.output,h.size,fun k hk=>h.block k (Nat.lt_of_lt_of_le hk hB)⟩
theorem FUB.of_below {m:US} {B:Nat} {a b:World} (h:Below B a b):FUB m B a b:=⟨h.os,h.tape,h.output,h.size,fun k hk _=>h.block k hk⟩
theorem FUB.go {m:US} {B:Nat} {a b c:World} (h:FUB m B a b) (k:FU m b c) (hB:B≤b.heap.size):FUB m B a c:=h.trans (k.mono hB)
theorem FUB.refl (m:US) (B:Nat) (a:World):FUB m B a a:=⟨rfl,rfl,rfl,Nat.le_refl _,fun _ _ _=>rfl⟩
theorem FUB.low {m:US} {B B0:Nat} {a b:World} (h:FUB m B a b) (h1:B0≤B) (h2:B0≤m.b0):Below B0 a b :=
 ⟨h.os,h.tape,h.output,h.size,fun k hk=>h.block k (Nat.lt_of_lt_of_le hk h1) (fun hm=>by have:=hm.2.1;omega)⟩
theorem FUB.off {m:US} {B:Nat} {a b:World} (h:FUB m B a b) (ho:¬ m.on):Below B a b:=⟨h.os,h.tape,h.output,h.size,fun k hk=>h.block k hk (fun hm=>ho hm.1)⟩
theorem FUB.setRow {m:US} {B q:Nat} (a:World) (cs:Array Value) (hq:B≤q):FUB m B a (a.setRow q cs):=FUB.of_below (bSetRow a cs hq)
theorem FUB.setCell {m:US} {B q:Nat} (a:World) (o:Nat) (u:Value) (hq:B≤q):FUB m B a (a.setCell ⟨q,o,none⟩ u):=FUB.of_below (bSetCell a o u hq)
theorem fix_row {m:US} {a:World} {k:Nat} {cs:Array Value} {t:TypeId} (hr:a.heap[k]?=some (.cells cs t (0,0))) (ht:t≠3) (hu:ULt m k):¬ Mv m a k:=by
 rintro ⟨_,_,h⟩
 rcases h with h | h | ⟨cur,h,_⟩
 ·have:=hu.mo;omega
 ·have:=hu.tb;omega
 ·rw [hr] at h
  simp only [Option.some.injEq,Obj.cells.injEq] at h
  exact ht h.2.1
theorem fix_str {m:US} {a:World} {k o:Nat} {s:ByteArray} (hc:a.cell? ⟨k,o,none⟩=some (.string s)) (h1:k≠m.mo) (h2:k≠m.tb):¬ Mv m a k:=by
 rintro ⟨_,_,h⟩
 rcases h with h | h | ⟨cur,h,hi⟩
 ·exact h1 h
 ·exact h2 h
 ·rw [cell_of_row a k o _ _ _ h] at hc
  obtain ⟨i,hi⟩:=hi (.string s) (by obtain ⟨h1,h2⟩:=Array.getElem?_eq_some_iff.1 hc;rw [← h2];simp)
  cases hi
theorem FUB.row {m:US} {B k:Nat} {a b:World} {cs:Array Value} {t:TypeId} (h:FUB m B a b) (hr:a.heap[k]?=some (.cells cs t (0,0))) (hk:k<B) (ht:t≠3) (hu:ULt m k):b.heap[k]?=some (.cells cs t (0,0)):=(h.block k hk (fix_row hr ht hu)).trans hr
theorem FUB.cell {m:US} {B k o:Nat} {a b:World} {v:Value} (h:FUB m B a b) (hc:a.cell? ⟨k,o,none⟩=some v) (hk:k<B) (hf:¬ Mv m a k):b.cell? ⟨k,o,none⟩=some v:=by
 rw [← hc]
 simp only [World.cell?]
 rw [h.block k hk hf]
theorem NmsAt.fu {m:US} {a b:World} {lo B B':Nat} {l:List ByteArray} {ad:Option Addr} (h:NmsAt a lo B' l ad) (hf:FUB m B a b) (hu:ULt m lo) (hB:B'≤B):NmsAt b lo B' l ad:=by
 rcases h with h | ⟨g,h1,h2,h3,h4⟩
 ·exact .inl h
 ·exact .inr ⟨g,h1,h2,h3,fun j x hx=>hf.cell (h4 j x hx) (by omega) (fix_str (h4 j x hx) (by have:=hu.mo;omega) (by have:=hu.tb;omega))⟩
theorem SgsAt.fu {m:US} {a b:World} {lo B B':Nat} {l:List (ByteArray×Int)} {ad:Option Addr} (h:SgsAt a lo B' l ad) (hf:FUB m B a b) (hu:ULt m lo) (hB:B'≤B):SgsAt b lo B' l ad:=by
 rcases h with h | ⟨g,h1,h2,h3,h4⟩
 ·exact .inl h
 ·cases l with
  | nil=>exact .inl rfl
  | cons y r =>
    have h0:=h4 0 (.string y.1) rfl
    have hfx:=fix_str (m:=m) h0 (by have:=hu.mo;omega) (by have:=hu.tb;omega)
    exact .inr ⟨g,h1,h2,h3,fun j x hx=>hf.cell (h4 j x hx) (by omega) hfx⟩
theorem ScD.At.fu {m:US} {a b:World} {lo B B' K:Nat} {d:ScD} {cs:List Value} (h:ScD.At a lo B' K d cs) (hf:FUB m B a b) (hu:ULt m lo) (hB:B'≤B):ScD.At b lo B' K d cs:=by
 obtain ⟨va,la,ga,vc,lc,gc,h0,h1,h2,h3,h4⟩:=h
 exact ⟨va,la,ga,vc,lc,gc,h0,h1.fu hf hu hB,h2.fu hf hu hB,h3.fu hf hu hB,h4⟩
theorem own_fu {m:US} {a b:World} {B base sz n:Nat} {t:TypeId} {v:Value} {xs:List Value} (h:a.ownsRow base t sz v n xs) (hf:FUB m B a b) (ht:t≠3) (hu:ULt m base) (hB:a.heap.size≤B):b.ownsRow base t sz v n xs:=by
 refine ⟨h.1,?_⟩
 rcases h.2 with hn | ⟨g,cap,cur,rfl,h1,h2,rest⟩
 ·exact .inl hn
 ·exact .inr ⟨g,cap,cur,rfl,h1,hf.row h2 (Nat.lt_of_lt_of_le (Array.getElem?_eq_some_iff.1 h2).1 hB) ht (hu.mono h1),rest⟩
def TreeT (t:TypeId):Prop:=t=34∨t=82∨t=87
def TreeRow (w:World) (k:Nat):Prop:=∃ (cs:Array Value) (t:TypeId),w.heap[k]?=some (.cells cs t (0,0))∧TreeT t
structure KeepT (m:US) (w w':World):Prop where
 os:w'.os=w.os
 tape:w'.tape=w.tape
 output:w'.output=w.output
 size:w.heap.size≤w'.heap.size
 block:∀ k,k<w.heap.size→(k<m.b0∨¬ TreeRow w k)→w'.heap[k]?=w.heap[k]?
theorem KeepT.of_below {m:US} {a b:World} (h:Below a.heap.size a b):KeepT m a b:=⟨h.os,h.tape,h.output,h.size,fun k hk _=>h.block k hk⟩
theorem KeepT.trans {m:US} {a b c:World} (h:KeepT m a b) (k:KeepT m b c):KeepT m a c :=
 ⟨k.os.trans h.os,k.tape.trans h.tape,k.output.trans h.output,Nat.le_trans h.size k.size,fun i hi hn=>(k.block i (Nat.lt_of_lt_of_le hi h.size) (hn.imp id (fun h1 h2=>h1 (by unfold TreeRow at h2 ⊢;rw [h.block i hi hn] at h2;exact h2)))).trans (h.block i hi hn)⟩
theorem KeepT.one {m:US} {a b:World} {q:Nat} {cs:Array Value} {t:TypeId} (hs:a.heap.size≤b.heap.size∧b.os=a.os∧b.tape=a.tape∧b.output=a.output) (hr:a.heap[q]?=some (.cells cs t (0,0))) (ht:TreeT t) (hq:m.b0≤q) (h:∀ k,k<a.heap.size→k≠q→b.heap[k]?=a.heap[k]?):KeepT m a b :=
 ⟨hs.2.1,hs.2.2.1,hs.2.2.2,hs.1,fun k hk hn=>h k hk (fun e=>by
  subst e
  rcases hn with hn | hn
  ·omega
  ·exact hn ⟨cs,t,hr,ht⟩)⟩
theorem KeepT.setRow {m:US} {a:World} {q:Nat} {cs:Array Value} {t:TypeId} (hr:a.heap[q]?=some (.cells cs t (0,0))) (ht:TreeT t) (hq:m.b0≤q) (ds:Array Value):KeepT m a (a.setRow q ds) :=
 KeepT.one ⟨by simp,rfl,rfl,rfl⟩ hr ht hq (fun k _ hk=>setRow_other _ _ _ _ hk)
theorem KeepT.setCell {m:US} {a:World} {q:Nat} {cs:Array Value} {t:TypeId} (hr:a.heap[q]?=some (.cells cs t (0,0))) (ht:TreeT t) (hq:m.b0≤q) (o:Nat) (v:Value):KeepT m a (a.setCell ⟨q,o,none⟩ v) :=
 KeepT.one ⟨by simp,rfl,rfl,rfl⟩ hr ht hq (fun k _ hk=>heap_setCell_other _ _ _ _ (by simpa using hk))
theorem KeepT.grown {m:US} {a b:World} {base sz n:Nat} {t:TypeId} {v:Value} {xs:List Value} (h:a.ownsRow base t sz v n xs) (hg:a.grownBy b v.ownBlock) (ht:TreeT t) (hb:m.b0≤base):KeepT m a b:=by
 rcases h.2 with ⟨rfl,_⟩ | ⟨g,cap,cur,rfl,h1,h2,_⟩
 ·exact ⟨hg.os,hg.tape,hg.output,hg.size,fun k hk _=>hg.block k hk (by simp [Value.ownBlock])⟩
 ·exact KeepT.one ⟨hg.size,hg.os,hg.tape,hg.output⟩ h2 ht (Nat.le_trans hb h1) (fun k hk hne=>hg.block k hk (by simpa [Value.ownBlock] using hne))
structure Gm where
 m:US
 wl:List Value
 St:List Nat→World→Prop
 psh:List Nat→ByteArray→List Nat
 okn:ExprD→ScD→Prop
def NodG (g:Gm) (s:List Nat) (nm:ByteArray) (w:World) (e:Ending) (w':World):Prop:=e=.returned (.tuple #[.string nm,.int .i64 0])∧g.St s w'∧FU g.m w w'
structure Gm.Ok (g:Gm):Prop where
 len:g.wl.length=2
 keep:∀ s w w',g.St s w→KeepT g.m w w'→g.St s w'
 node:∀ (x:ExprD) (xs:List Value) (d:ScD) (cs:List Value) (s:List Nat) (w:World) (lo B B1 C N:Nat),C≤268435456→N≤268435456→B≤w.heap.size→B1≤g.m.b0→ULt g.m lo→lo≤w.heap.size→g.St s w→g.okn x d→ScD.At w lo B C d cs→ExprD.At w B1 N x xs →
  Calls Tryz.prog 58 #[.agg g.wl.toArray,.agg xs.toArray,.agg cs.toArray] w (NodG g ((ndC x d).foldl g.psh s) x.name w)
def VisGR (g:Gm) (x:ExprD) (N:Nat) (s:List Nat) (w:World) (e:Ending) (w':World):Prop:=∃ rs:List Value,e=.returned (.tuple #[.agg rs.toArray,.int .i64 0])∧rs.length=17∧rs.toArray.all (·.oneCell')=true∧g.St s w'∧FU g.m w w'∧(¬ g.m.on→Safe w.heap.size none w' (fun c=>ExprD.At c c.heap.size N x rs))
def BodGR (g:Gm) (y:FuncD) (N:Nat) (s:List Nat) (w:World) (e:Ending) (w':World):Prop:=∃ rs:List Value,e=.returned (.tuple #[.agg rs.toArray,.int .i64 0])∧rs.length=19∧rs.toArray.all (·.oneCell')=true∧g.St s w'∧FU g.m w w'∧(¬ g.m.on→Safe w.heap.size none w' (fun c=>FuncD.At c c.heap.size N y rs))
def VsG (g:Gm) (x:ExprD) (ok:ScD→Prop) (F:ScD→List ByteArray) (K:Nat):Prop:=∀ (w:World) (lo B B1 N C:Nat) (xs:List Value) (d:ScD) (cs:List Value) (s:List Nat),
 N≤1048576→C+K≤134217728→B≤w.heap.size→B1≤g.m.b0→ULt g.m lo→lo≤w.heap.size→g.St s w→ok d→ScD.At w lo B C d cs→ExprD.At w B1 N x xs →
 Calls Tryz.prog 34 #[.agg g.wl.toArray,.agg xs.toArray,.agg cs.toArray] w (VisGR g x N ((F d).foldl g.psh s) w)
theorem cellsAt_row {u:World} {q:Nat} {cs:List Value} {t:TypeId} (h:u.heap[q]?=some (.cells cs.toArray t (0,0))):CellsAt u q 0 cs:=fun j _=>by
 rw [Nat.zero_add,cell_of_row u q j _ _ _ h];simp
structure VisG (m:US) (wl:List Value) (w u:World) (xs cs zs:List Value) (tX t:TypeId):Prop where
 b1:u.heap[w.heap.size]?=some (.cells wl.toArray 79 (0,0))
 b2:u.heap[w.heap.size+1]?=some (.cells xs.toArray tX (0,0))
 box:u.heap[w.heap.size+2]?=some (.cells cs.toArray 87 (0,0))
 out:u.heap[w.heap.size+3]?=some (.cells zs.toArray t (0,0))
 low:FUB m w.heap.size w u
 size:w.heap.size+4≤u.heap.size
 ult:ULt m w.heap.size
 tx:tX≠3
 tz:t≠3
section
variable {m:US} {wl:List Value} {w u u':World} {xs cs zs:List Value} {tX t:TypeId}
theorem VisG.r1 (h:VisG m wl w u xs cs zs tX t):CellsAt u w.heap.size 0 wl:=cellsAt_row h.b1
theorem VisG.r2 (h:VisG m wl w u xs cs zs tX t):CellsAt u (w.heap.size+1) 0 xs:=cellsAt_row h.b2
theorem VisG.step (h:VisG m wl w u xs cs zs tX t) (hb:FUB m (w.heap.size+4) u u'):VisG m wl w u' xs cs zs tX t :=
 ⟨hb.row h.b1 (by omega) (by decide) h.ult,hb.row h.b2 (by omega) h.tx (h.ult.mono (by omega)),hb.row h.box (by omega) (by decide) (h.ult.mono (by omega)),hb.row h.out (by omega) h.tz (h.ult.mono (by omega)),h.low.trans (hb.mono (by omega)),Nat.le_trans h.size hb.size,h.ult,h.tx,h.tz⟩
theorem VisG.fu (h:VisG m wl w u xs cs zs tX t) (hb:FU m u u'):VisG m wl w u' xs cs zs tX t:=h.step (hb.mono h.size)
theorem VisG.below (h:VisG m wl w u xs cs zs tX t) (hb:Below u.heap.size u u'):VisG m wl w u' xs cs zs tX t:=h.fu (FUB.of_below hb)
theorem VisG.start (m:US) (wl:List Value) (w:World) (xs cs zs:List Value) (tX t:TypeId) (hu:ULt m w.heap.size) (hx:tX≠3) (ht:t≠3) :
 VisG m wl w ((((w.alloc (.cells wl.toArray 79)).alloc (.cells xs.toArray tX)).alloc (.cells cs.toArray 87)).alloc (.cells zs.toArray t)) xs cs zs tX t:=by
 have s1:(w.alloc (.cells wl.toArray 79)).heap.size=w.heap.size+1:=World.size_alloc _ _
 have s2:((w.alloc (.cells wl.toArray 79)).alloc (.cells xs.toArray tX)).heap.size=w.heap.size+2:=by rw [World.size_alloc,s1]
 have s3:(((w.alloc (.cells wl.toArray 79)).alloc (.cells xs.toArray tX)).alloc (.cells cs.toArray 87)).heap.size=w.heap.size+3:=by rw [World.size_alloc,s2]
 have h1:=heap_alloc_new w (.cells wl.toArray 79)
 have h2:=heap_alloc_new (w.alloc (.cells wl.toArray 79)) (.cells xs.toArray tX)
 have h3:=heap_alloc_new ((w.alloc (.cells wl.toArray 79)).alloc (.cells xs.toArray tX)) (.cells cs.toArray 87)
 have h4:=heap_alloc_new (((w.alloc (.cells wl.toArray 79)).alloc (.cells xs.toArray tX)).alloc (.cells cs.toArray 87)) (.cells zs.toArray t)
 rw [s1] at h2
 rw [s2] at h3
 rw [s3] at h4
 refine ⟨?_,?_,?_,h4,FUB.of_below (belowThen (belowThen (belowThen (belowBox w _) (belowBox _ _)) (belowBox _ _)) (belowBox _ _)),by rw [World.size_alloc,s3];omega,hu,hx,ht⟩
 ·rw [heap_alloc_old _ _ (by rw [s3];omega),heap_alloc_old _ _ (by rw [s2];omega),heap_alloc_old _ _ (by rw [s1];omega)]
  exact h1
 ·rw [heap_alloc_old _ _ (by rw [s3];omega),heap_alloc_old _ _ (by rw [s2];omega)]
  exact h2
 ·rw [heap_alloc_old _ _ (by rw [s3];omega)]
  exact h3
theorem VisG.scp (h:VisG m wl w u xs cs zs tX t) {j:Nat} {v:Value} (hv:cs[j]?=some v):u.cell? ⟨w.heap.size+2,j,none⟩=some v:=by
 rw [cell_of_row u (w.heap.size+2) j _ _ _ h.box];simpa using hv
theorem VisG.frozen (h:VisG m wl w u xs cs zs tX t) (j:Nat):u.frozen? ⟨w.heap.size+2,j,none⟩=false:=frozen_of_row u (w.heap.size+2) j _ _ h.box
theorem VisG.range (h:VisG m wl w u xs cs zs tX t):u.rangeAt (w.heap.size+2) 0 cs:=fun j v hv=>by rw [Nat.zero_add];exact h.scp hv
theorem VisG.setCell (h:VisG m wl w u xs cs zs tX t) (j:Nat) (v:Value):VisG m wl w (u.setCell ⟨w.heap.size+2,j,none⟩ v) xs (cs.set j v) zs tX t:=by
 refine ⟨(heap_setCell_other _ _ _ _ (by simp)).trans h.b1,(heap_setCell_other _ _ _ _ (by simp)).trans h.b2,?_,(heap_setCell_other _ _ _ _ (by simp)).trans h.out,h.low.trans (FUB.setCell _ _ _ (by omega)),by have:=h.size;simpa using this,h.ult,h.tx,h.tz⟩
 rw [heap_setCell_same u (w.heap.size+2) j _ _ _ h.box]
 simp
end
def RowX (x:ExprD) (rs:List Value) (s f:Value):Prop:=∃ ya la va yc lc vc,rs=orow x ya la va yc lc vc s f
theorem RowX.set15 {x:ExprD} {rs:List Value} {s f v:Value} (h:RowX x rs s f):RowX x (rs.set 15 v) v f:=by obtain ⟨_,_,_,_,_,_,rfl⟩:=h;exact ⟨_,_,_,_,_,_,rfl⟩
theorem RowX.set16 {x:ExprD} {rs:List Value} {s f v:Value} (h:RowX x rs s f):RowX x (rs.set 16 v) s v:=by obtain ⟨_,_,_,_,_,_,rfl⟩:=h;exact ⟨_,_,_,_,_,_,rfl⟩
theorem RowX.g15 {x:ExprD} {rs:List Value} {s f:Value} (h:RowX x rs s f):rs[15]?=some s:=by obtain ⟨_,_,_,_,_,_,rfl⟩:=h;rfl
theorem RowX.g16 {x:ExprD} {rs:List Value} {s f:Value} (h:RowX x rs s f):rs[16]?=some f:=by obtain ⟨_,_,_,_,_,_,rfl⟩:=h;rfl
theorem RowX.len {x:ExprD} {rs:List Value} {s f:Value} (h:RowX x rs s f):rs.length=17:=by obtain ⟨_,_,_,_,_,_,rfl⟩:=h;rfl
theorem RowX.g0 {x:ExprD} {rs:List Value} {s f:Value} (h:RowX x rs s f):rs[0]?=some (.int .i64 x.op):=by obtain ⟨_,_,_,_,_,_,rfl⟩:=h;rfl
theorem RowX.ones {x:ExprD} {rs:List Value} {s f:Value} (h:RowX x rs s f) (h1:s.oneCell'=true) (h2:f.oneCell'=true):rs.toArray.all (·.oneCell')=true:=by
 obtain ⟨_,_,_,_,_,_,rfl⟩:=h
 refine Go.all_oneCell_toArray (fun u hu=>?_)
 simp only [orow,List.mem_cons,List.mem_nil_iff,or_false] at hu
 rcases hu with rfl | rfl | rfl | rfl | rfl | rfl | rfl | rfl | rfl | rfl | rfl | rfl | rfl | rfl | rfl | rfl | rfl<;>first | rfl | assumption
def RetGZ (x:ExprD) (u:World) (q:Nat):Prop:=∃ rs,u.heap[q]?=some (.cells rs.toArray 34 (0,0))∧RowX x rs (.slice none 0 0) (.slice none 0 0)
theorem RetGZ.start {u:World} {q:Nat} (x:ExprD) (ya la va:Option Addr) (yc lc vc:Nat) (h:u.heap[q]?=some (.cells (newE x ya la va yc lc vc).toArray 34 (0,0))):RetGZ x u q:=⟨_,h,_,_,_,_,_,_,rfl⟩
theorem RetGZ.lt {x:ExprD} {u:World} {q:Nat} (h:RetGZ x u q):q<u.heap.size:=by
 obtain ⟨_,h1,_⟩:=h
 exact (Array.getElem?_eq_some_iff.1 h1).1
theorem RetGZ.keep {x:ExprD} {u u':World} {q:Nat} (h:RetGZ x u q) (hb:u'.heap[q]?=u.heap[q]?):RetGZ x u' q:=by
 obtain ⟨rs,h1,h2⟩:=h
 exact ⟨rs,hb.trans h1,h2⟩
theorem RetGZ.below {x:ExprD} {u u':World} {q:Nat} (h:RetGZ x u q) (hb:Below u.heap.size u u'):RetGZ x u' q:=h.keep (hb.block q h.lt)
theorem RetGZ.setCell {x:ExprD} {u:World} {q g j:Nat} {v:Value} (h:RetGZ x u q) (hg:g<q):RetGZ x (u.setCell ⟨g,j,none⟩ v) q:=h.keep (heap_setCell_other _ _ _ _ (by show q≠g;omega))
def RX (m:US) (x:ExprD) (N base:Nat) (u:World) (rs:List Value) (v:Value) (xs:List Value) (n j:Nat):Prop :=
 (j=16→RowX x rs (.slice none 0 0) v∧(¬ m.on→∀ k (hk:k<x.funcs.length),k<n→Safe base v.ownBlock u (fun c=>True→FuncD.At c c.heap.size N x.funcs[k] ((xs.drop (k * 19)).take 19)))) ∧
 (j=15→∃ fa fc,RowX x rs v (.slice fa x.funcs.length fc)∧(¬ m.on→Safe base v.ownBlock u (fun c=>True→FuncsAt c c.heap.size N x.funcs fa)∧∀ k (hk:k<x.args.length),k<n→Safe base v.ownBlock u (fun c=>True→ExprD.At c c.heap.size N x.args[k] ((xs.drop (k * 17)).take 17))))
theorem RX.keep {m:US} {x:ExprD} {N base:Nat} {u u':World} {rs:List Value} {v:Value} {xs:List Value} {n j:Nat} (h:RX m x N base u rs v xs n j) (hk:¬ m.on→Keep base v.ownBlock u u'):RX m x N base u' rs v xs n j:=by
 refine ⟨fun e=>?_,fun e=>?_⟩
 ·obtain ⟨h1,h2⟩:=h.1 e
  exact ⟨h1,fun ho k hkk hn=>(h2 ho k hkk hn).next (hk ho) (fun q _ h=>.inl h)⟩
 ·obtain ⟨fa,fc,h1,h2⟩:=h.2 e
  exact ⟨fa,fc,h1,fun ho=>⟨(h2 ho).1.next (hk ho) (fun q _ h=>.inl h),fun k hkk hn=>((h2 ho).2 k hkk hn).next (hk ho) (fun q _ h=>.inl h)⟩⟩
theorem RX.grow16 {m:US} {x:ExprD} {N base:Nat} {u u':World} {rs xs ys:List Value} {v v':Value} {k:Nat} (h:RX m x N base u rs v xs k 16) (hlt:k<x.funcs.length) (hx:xs.length=k * 19) (hy:ys.length=19)
 (hk:¬ m.on→Keep base v.ownBlock u u') (hn:∀ q,base≤q→v'.ownBlock=some q→v.ownBlock=some q∨u.heap.size≤q) (hc:¬ m.on→Safe base v'.ownBlock u' (fun c=>True→FuncD.At c c.heap.size N x.funcs[k] ys)):RX m x N base u' (rs.set 16 v') v' (xs++ys) (k+1) 16:=by
 refine ⟨fun e=>?_,fun e=>absurd e (by decide)⟩
 obtain ⟨h1,h2⟩:=h.1 e
 refine ⟨h1.set16,fun ho i hi hin=>?_⟩
 rw [drop_take_append19 hx hy hin]
 split
 ·exact (h2 ho i hi ‹_›).next (hk ho) hn
 ·obtain rfl:i=k:=by omega
  exact hc ho
theorem RX.grow15 {m:US} {x:ExprD} {N base:Nat} {u u':World} {rs xs ys:List Value} {v v':Value} {k:Nat} (h:RX m x N base u rs v xs k 15) (hlt:k<x.args.length) (hx:xs.length=k * 17) (hy:ys.length=17)
 (hk:¬ m.on→Keep base v.ownBlock u u') (hn:∀ q,base≤q→v'.ownBlock=some q→v.ownBlock=some q∨u.heap.size≤q) (hc:¬ m.on→Safe base v'.ownBlock u' (fun c=>True→ExprD.At c c.heap.size N x.args[k] ys)):RX m x N base u' (rs.set 15 v') v' (xs++ys) (k+1) 15:=by
 refine ⟨fun e=>absurd e (by decide),fun e=>?_⟩
 obtain ⟨fa,fc,h1,h2⟩:=h.2 e
 refine ⟨fa,fc,h1.set15,fun ho=>⟨(h2 ho).1.next (hk ho) hn,fun i hi hin=>?_⟩⟩
 rw [drop_take_append17 hx hy hin]
 split
 ·exact ((h2 ho).2 i hi ‹_›).next (hk ho) hn
 ·obtain rfl:i=k:=by omega
  exact hc ho
def RetP (m:US) (x:ExprD) (N:Nat) (u:World) (q base j:Nat) (t:TypeId) (sz n:Nat) (rs:List Value) (v:Value) (xs:List Value):Prop :=
 u.heap[q]?=some (.cells rs.toArray 34 (0,0))∧rs.length=17∧rs.toArray.all (·.oneCell')=true∧rs[0]?=some (.int .i64 x.op)∧rs[j]?=some v∧u.ownsRow base t sz v n xs∧RX m x N base u rs v xs n j
theorem RetP.fu {m:US} {x:ExprD} {N:Nat} {u u':World} {q base j sz n:Nat} {t:TypeId} {rs:List Value} {v:Value} {xs:List Value} (h:RetP m x N u q base j t sz n rs v xs) (hl:q<base) (hs:base≤u.heap.size) (hf:FU m u u') (hu:ULt m q) (ht:t≠3):RetP m x N u' q base j t sz n rs v xs:=by
 obtain ⟨h1,h2,h3,h4,h5,h6,h7⟩:=h
 exact ⟨hf.row h1 (Nat.lt_of_lt_of_le hl hs) (by decide) hu,h2,h3,h4,h5,own_fu h6 hf ht (hu.mono (Nat.le_of_lt hl)) (Nat.le_refl _),h7.keep fun ho=>keep_below (hf.off ho) (Nat.le_refl _)⟩
structure RetG (m:US) (x:ExprD) (N:Nat) (u:World) (q base j:Nat) (t:TypeId) (sz n:Nat):Prop where
 has:∃ (rs:List Value) (v:Value) (xs:List Value),RetP m x N u q base j t sz n rs v xs
 lt:q<base
 size:base≤u.heap.size
theorem RetGZ.next {m:US} {x:ExprD} {N:Nat} {u:World} {q base:Nat} {t:TypeId} (h:RetGZ x u q) (h1:q<base) (h2:base≤u.heap.size):RetG m x N u q base 16 t 19 0:=by
 obtain ⟨rs,t1,t2⟩:=h
 exact ⟨⟨rs,_,[],t1,t2.len,t2.ones rfl rfl,t2.g0,t2.g16,World.ownsRow_nil _ _ _ _,fun _=>⟨t2,fun _ k _ hk=>absurd hk (by omega)⟩,fun e=>absurd e (by decide)⟩,h1,h2⟩
theorem RetG.next {m:US} {x:ExprD} {N:Nat} {u:World} {q base:Nat} {t t':TypeId} (h:RetG m x N u q base 16 t 19 x.funcs.length):RetG m x N u q base 15 t' 17 0:=by
 obtain ⟨rs,v,xs,h1,h2,h3,h4,h5,h6,h7⟩:=h.has
 obtain ⟨h8,h9⟩:=h7.1 rfl
 refine ⟨⟨rs,_,[],h1,h2,h3,h4,h8.g15,World.ownsRow_nil _ _ _ _,fun e=>absurd e (by decide),fun _=>?_⟩,h.lt,h.size⟩
 by_cases ho:m.on
 ·obtain ⟨a,c,rfl⟩:=own_slice38 h6
  exact ⟨a,c,h8,fun hn=>absurd ho hn⟩
 ·obtain ⟨fa,fc,rfl,hs⟩:=funcs_safe (N:=N) (L:=base) (l:=x.funcs) (G:=fun _=>True) h6 rfl (Nat.le_refl _) (fun i hi=>h9 ho i hi hi)
  exact ⟨fa,fc,h8,fun _=>⟨hs,fun k _ hk=>absurd hk (by omega)⟩⟩
theorem RetG.fu {m:US} {x:ExprD} {N:Nat} {u u':World} {q base j sz n:Nat} {t:TypeId} (h:RetG m x N u q base j t sz n) (hf:FU m u u') (hu:ULt m q) (ht:t≠3):RetG m x N u' q base j t sz n:=by
 obtain ⟨rs,v,xs,hp⟩:=h.has
 exact ⟨⟨rs,v,xs,hp.fu h.lt h.size hf hu ht⟩,h.lt,Nat.le_trans h.size hf.size⟩
structure LoopG (g:Gm) (x:ExprD) (N:Nat) (s:List Nat) (w u:World) (xs cs1:List Value) (lo HB C:Nat) (d1:ScD) (q j:Nat) (t:TypeId) (sz n:Nat):Prop where
 vis:VisG g.m g.wl w u xs cs1 zeroEl 34 34
 sc:ScD.At u lo HB C d1 cs1
 ret:RetG g.m x N u q HB j t sz n
 st:g.St s u
section
variable {g:Gm} {x:ExprD} {N:Nat} {s s':List Nat} {w u u':World} {xs cs1:List Value} {lo HB C:Nat} {d1:ScD} {q j sz n:Nat} {t:TypeId}
theorem LoopG.fu (h:LoopG g x N s w u xs cs1 lo HB C d1 q j t sz n) (hq:w.heap.size+4≤q) (hl:ULt g.m lo) (ht:t≠3) (hf:FU g.m u u') (hs:g.St s' u'):LoopG g x N s' w u' xs cs1 lo HB C d1 q j t sz n :=
 ⟨h.vis.fu hf,h.sc.fu hf hl h.ret.size,h.ret.fu hf (h.vis.ult.mono (by omega)) ht,hs⟩
theorem LoopG.below (h:LoopG g x N s w u xs cs1 lo HB C d1 q j t sz n) (hg:g.Ok) (hq:w.heap.size+4≤q) (hl:ULt g.m lo) (ht:t≠3) (hb:Below u.heap.size u u'):LoopG g x N s w u' xs cs1 lo HB C d1 q j t sz n :=
 h.fu hq hl ht (FUB.of_below hb) (hg.keep _ _ _ h.st (KeepT.of_below hb))
theorem grow_keep {u w':World} {o:Obj} {v v':Value} {q j HB:Nat} (hg:(u.alloc o).grownBy w' v.ownBlock) (hq:q<HB):Keep HB v.ownBlock u (w'.setCell ⟨q,j,none⟩ v'):=by
 have hs:=hg.size
 rw [World.size_alloc] at hs
 refine ⟨by rw [World.size_setCell];omega,fun k h1 h2 h3=>?_⟩
 rw [heap_setCell_other _ _ _ _ (by show k≠q;omega),hg.block k (by rw [World.size_alloc];omega) (fun e=>h3 e.symm),heap_alloc_old u o h2]
theorem grow_child {u w':World} {o:Obj} {v:Value} {g1 c1 n1 q j L base:Nat} {T:World→Prop} (h:Safe L none u T) (hL:base≤L) (hv:∀ k,v.ownBlock=some k→k<L) (hg:(u.alloc o).grownBy w' v.ownBlock) (hlie:v.ownBlock=some g1∨g1=(u.alloc o).heap.size) (hq:q<L) :
 Safe base (Value.ownBlock (.slice (some ⟨g1,0,none⟩) n1 c1)) (w'.setCell ⟨q,j,none⟩ (.slice (some ⟨g1,0,none⟩) n1 c1)) T:=by
 have hs:=hg.size
 rw [World.size_alloc] at hs
 refine (h.next ⟨by rw [World.size_setCell];omega,fun k h1 h2 _=>?_⟩ (fun k h1 h2=>?_)).wide hL
 ·rw [heap_setCell_other _ _ _ _ (by show k≠q;omega),hg.block k (by rw [World.size_alloc];omega) (fun e=>by have:=hv k e.symm;omega),heap_alloc_old u o h2]
 ·simp only [Value.ownBlock,Option.some.injEq] at h2
  subst h2
  rcases hlie with h3 | h3
  ·have:=hv _ h3;omega
  ·rw [World.size_alloc] at h3
   exact .inr (by omega)
theorem LoopG.grow (h:LoopG g x N s w u xs cs1 lo HB C d1 q j t sz n) (hok:g.Ok) (hq:w.heap.size+4≤q) (hj0:0<j) (hj:j<17) (htt:TreeT t)
 {rs:List Value} {v:Value} {xr:List Value} (t1:u.heap[q]?=some (.cells rs.toArray 34 (0,0))) (t2:rs.length=17) (t3:rs.toArray.all (·.oneCell')=true) (t4:rs[0]?=some (.int .i64 x.op)) (t6:rs[j]?=some v) (t7:u.ownsRow HB t sz v n xr)
 {o:Obj} {w':World} {v':Value} {k:Nat} {xr':List Value} (hown:w'.ownsRow HB t sz v' k xr') (hg:(u.alloc o).grownBy w' v.ownBlock) (hX:RX g.m x N HB (w'.setCell ⟨q,j,none⟩ v') (rs.set j v') v' xr' k j) :
 LoopG g x N s w (w'.setCell ⟨q,j,none⟩ v') xs cs1 lo HB C d1 q j t sz k∧w'.frozen? ⟨q,j,none⟩=false∧w'.cell? ⟨q,j,none⟩=some v:=by
 have hlt:=h.ret.lt
 have hsz:=h.ret.size
 have hsg:=hg.size
 rw [World.size_alloc] at hsg
 have KP:∀ k,k<HB→w'.heap[k]?=u.heap[k]?:=fun k hk=>(hg.block k (by rw [World.size_alloc];omega) (fun e=>by have:=(t7.lt k e.symm).1;omega)).trans (heap_alloc_old u o (by omega))
 have t1':=(KP q hlt).trans t1
 have hF:FUB g.m (w.heap.size+4) u w':=FUB.of_below ⟨hg.os,hg.tape,hg.output,by omega,fun k hk=>KP k (by omega)⟩
 have hc0:w'.cell? ⟨q,0,none⟩=some (.int .i64 x.op):=by
  have:=row_range t1' 0 _ t4
  rwa [Nat.zero_add] at this
 have hb0:g.m.b0≤q:=Nat.le_trans h.vis.ult.b0 (by omega)
 have hst:=hok.keep _ _ _ h.st (((KeepT.of_below (belowBox u o)).trans (KeepT.grown (t7.alloc o) hg htt (by omega))).trans (KeepT.setCell t1' (.inl rfl) hb0 j v'))
 refine ⟨⟨h.vis.step (hF.trans (FUB.setCell w' j v' hq)),(h.sc.keep (fun k _ hk=>KP k hk)).setInt hc0 j v',⟨⟨rs.set j v',v',xr',?_,by simpa using t2,?_,?_,by rw [List.getElem?_set_self (by omega)],own_setCell hown (by omega),hX⟩,hlt,by rw [World.size_setCell];omega⟩,hst⟩,frozen_of_row w' q j _ _ t1',by have:=row_range t1' j _ t6;rwa [Nat.zero_add] at this⟩
 ·rw [heap_setCell_same w' q j _ _ _ t1']
  simp
 ·refine Go.all_oneCell_toArray (fun y hy=>?_)
  rcases List.mem_or_eq_of_mem_set hy with hy | rfl
  ·exact (List.all_eq_true.1 (by simpa using t3)) y hy
  ·exact own_one hown
 ·rw [List.getElem?_set_ne (by omega)];exact t4
end
def ParG (N:Nat) (l:List ParD) (w:World) (e:Ending) (w':World):Prop:=∃ (a:Option Addr) (c:Nat),e=.returned (.slice a l.length c)∧Safe w.heap.size none w' (fun x=>ParamsAt x x.heap.size N l a)∧Below w.heap.size w w'
set_option maxRecDepth 100000 in
set_option maxHeartbeats 1600000 in
theorem clone_parG (l:List ParD) (a:Option Addr) (c:Nat) (w:World) (B N:Nat) (hN:N≤1073741824) (hl:l.length≤N) (hB:B≤w.heap.size) (h:ParamsAt w B N l a) :
 Calls Tryz.prog 57 #[.slice a l.length c] w (ParG N l w):=by
 obtain ⟨i0,hi,hz0,hz1,hz2⟩:=info_parts infoPar
 have HI:=Hd hi
 have HZ0:=Hd hz0
 have HZ1:=Hd hz1
 have HZ2:=Hd hz2
 clear hi hz0 hz1 hz2
 have q26:∀ (w:World) (a:Option Addr) (n c n' c':Nat),(binOp .eql 80 (.slice a n c) (.slice none n' c')).run Tryz.prog w=.ok (.bool a.isNone) w:=fun w a n c n' c'=>Lib.run_eql_slice_nil w _ _ a n c n' c' Tryz.underlying80
 cases a with
 | none =>
   obtain rfl:l=[]:=by
    cases l with
    | nil=>rfl
    | cons p r=>obtain ⟨b,o,e,_⟩:=h;cases e
   go_enter Tryz.func57,Tryz.ntmps57
   go_wp2_with fail
   go_ret
   exact ⟨_,_,rfl,fun _ _=>trivial,Below.refl _ _⟩
 | some ad =>
   have HS:=Hd ((ParamsAt.below ((belowBox w (.cells #[] 115)).mono hB) _ h).src)
   have HLEN:=Hd (par_len l)
   have HPN:=Hd (show l.length≤N∧∀ i (hi:i<l.length),l[i].name.size≤N from ⟨hl,fun i hi=>by
    obtain ⟨_,_,_,_,hg⟩:=h.get (by intro h;rw [h] at hi;simp at hi)
    exact (hg i hi).1⟩)
   clear h
   go_enter Tryz.func57,Tryz.ntmps57
   go_wp2_with (at_builtin;refine wpList_append_src rfl _ _ 80 rfl w.heap.size 115 i0 (.agg #[.string ⟨#[]⟩,.bool false]) 2 24 Tryz.underlying80 HI.out HZ0.out HZ1.out HZ2.out rfl (by decide) _ _ _ rfl (World.ownsRow_made w #[] 0 (Nat.le_refl _) (Nat.zero_le _) rfl) (some ad) l.length c (l.flatMap ParD.cells) rfl HLEN.out HS.out (par_one l) ?c4 ?c5 ?c6 ?_)
   case c4=>unfold maxLen;omega
   case c5=>omega
   case c6=>simp
   intro v1 w1 hown1 hgrow1
   obtain ⟨a1,c1,rfl,hs1⟩:=pars_safe (N:=N) (L:=w.heap.size) (l:=l) (by simpa using hown1) rfl (Nat.le_refl _) HPN.out
   have HS1:=Hd hs1
   have HB1:=Hd (show Below w.heap.size w w1 from (belowBox w _).grown hgrow1 (by simp) (by intro k hk;simp [Value.ownBlock] at hk;omega))
   clear hown1 hgrow1 hs1
   go_wp2
   go_ret
   exact ⟨_,_,rfl,HS1.out,HB1.out⟩
end Go.Proofs.YticpebgjbfanpaaGreatDoor

/- The program's walker: module.walker.body, whatever it resolves (printed by genbog39.py). -/
namespace Go.Proofs.YticpebgjbfanpaaGreatDoor
open Go.RowKit
set_option maxRecDepth 100000 in
set_option maxHeartbeats 6400000 in
theorem bod_g (g:Gm) (hok:g.Ok) (ok:ScD→Prop) (F:ScD→List ByteArray) (K:Nat) (y:FuncD) (hbd:VsG g y.body ok F K) (w:World) (lo B B1 N C:Nat) (fs:List Value) (d:ScD) (cs1:List Value) (s:List Nat)
 (hN:N≤1048576) (hC:C+N+K≤134217728) (hB:B≤w.heap.size) (hB1:B1≤g.m.b0) (hul:ULt g.m lo) (hlo:lo≤w.heap.size) (hS:g.St s w) (hg2:ok (d.par y.params)) (hd:ScD.At w lo B C d cs1) (hy:FuncD.At w B1 N y fs) :
 Calls Tryz.prog 33 #[.agg g.wl.toArray,.agg fs.toArray,.agg cs1.toArray] w (BodGR g y N ((F (d.par y.params)).foldl g.psh s) w):=by
 have IH:=Hd hbd
 have HD:=Hd hd
 have HG2:=Hd hg2
 have HUL:=Hd hul
 have HS:=Hd hS
 have hsz:=Hd (show (Tryz.prog.info? 87).map (·.size)=some cs1.length by rw [hd.len];kernel_rfl)
 have hsf:=Hd (show (Tryz.prog.info? 82).map (·.size)=some fs.length by rw [hy.len];exact sizeFN)
 have hsw:=Hd (show (Tryz.prog.info? 79).map (·.size)=some g.wl.length by rw [hok.len];kernel_rfl)
 obtain ⟨pa,pc,es,hh⟩:=hy.has
 have c0:=hh.name
 have c1:=hh.params
 have hpl:y.params.length≤N:=hh.hp
 have HES:=Hd (show (fs.drop 2).take 17=es by rw [hh.body,List.take_of_length_le (by rw [hh.atBody.len];exact Nat.le_refl _)])
 have hse:=Hd (show (Tryz.prog.info? 34).map (·.size)=some es.length by rw [hh.atBody.len];exact sizeE)
 have HP:=Hd hh.atPar
 have HE:=Hd hh.atBody
 have HNP:=Hd (show y.name.size≤N∧y.params.length≤N from ⟨hh.hn,hh.hp⟩)
 have HULW:=Hd (hul.mono hlo)
 have I0:=Hd (VisG.start g.m g.wl w fs cs1 zeroFl 82 82 HULW.out (by decide) (by decide))
 have HB1B:=Hd hB1
 have hB1:=Hd (Nat.le_trans hB1 HULW.out.b0)
 obtain ⟨s2,hs2e⟩:∃ s2,(F (d.par y.params)).foldl g.psh s=s2:=⟨_,rfl⟩
 have HSE:=Hd hs2e
 rw [hs2e]
 clear hh hy hbd hd hg2 hS hul hs2e
 go_enter Tryz.func33,Tryz.ntmps33
 go_wp2_with fail
 obtain ⟨w1,hw1⟩:∃ w1,w1=((((w.alloc (.cells g.wl.toArray 79)).alloc (.cells fs.toArray 82)).alloc (.cells cs1.toArray 87)).alloc (.cells #[.string ⟨#[]⟩,.slice none 0 0,.int .i64 0,.string ⟨#[]⟩,.int .i64 0,.bool false,.bool false,.string ⟨#[]⟩,.int .i64 0,.int .i64 0,.int .i64 0,.int .i64 0,.int .i64 0,.string ⟨#[]⟩,.slice none 0 0,.slice none 0 0,.slice none 0 0,.slice none 0 0,.slice none 0 0] 82)):=⟨_,rfl⟩
 have I1:=Hd (show VisG g.m g.wl w w1 fs cs1 zeroFl 82 82 by rw [hw1];exact I0.out)
 rw [← hw1]
 have S1:=Hd (show g.St s w1 by rw [hw1];exact hok.keep _ _ _ HS.out (KeepT.of_below (belowThen (belowThen (belowThen (belowBox w _) (belowBox _ _)) (belowBox _ _)) (belowBox _ _))))
 clear hw1 I0
 have HRW:=Hd (show ∀ u,FU g.m w1 u→CellsAt u w.heap.size 0 g.wl from fun u hu=>(I1.out.fu hu).r1)
 have HRX:=Hd (show ∀ u,FU g.m w1 u→CellsAt u (w.heap.size+1) 0 fs from fun u hu=>(I1.out.fu hu).r2)
 have HRS:=Hd (show ∀ u,FU g.m w1 u→VisG g.m g.wl w u fs cs1 zeroFl 82 82 from fun u hu=>I1.out.fu hu)
 have HLW:=Hd I1.out.low.size
 have HB1:=Hd (Nat.le_trans hB1.out HLW.out)
 have HLO:=Hd (Nat.le_trans hlo HLW.out)
 have HKD:=Hd (show ∀ u,FU g.m w1 u→ScD.At u lo u.heap.size C d cs1 from fun u hu=>(HD.out.fu (I1.out.low.go hu HLW.out) HUL.out hB).mono (Nat.le_trans hB (Nat.le_trans HLW.out hu.size)) (Nat.le_refl _))
 have HKE:=Hd (show ∀ u,FU g.m w1 u→ExprD.At u B1 N y.body es from fun u hu=>ExprD.At.below ((I1.out.low.go hu HLW.out).low hB1.out HB1B.out) _ HE.out)
 have HKP:=Hd (show ∀ u,FU g.m w1 u→ParamsAt u B1 N y.params pa from fun u hu=>ParamsAt.below ((I1.out.low.go hu HLW.out).low hB1.out HB1B.out) _ HP.out)
 have HST:=Hd (show ∀ u,Below w1.heap.size w1 u→g.St s u from fun u hu=>hok.keep _ _ _ S1.out (KeepT.of_below hu))
 have HF:=Hd (show ∀ u,Below w1.heap.size w1 u→FU g.m w1 u from fun u hu=>FUB.of_below hu)
 have HB0:=Hd (drewW w1)
 refine wp_region_held_drew (S:=fun u=>FU g.m w1 u) (by kernel_rfl) (HF.out _ HB0.out) (fun hHeld=>?_)
 refine' tk 0 _ rfl rfl (yieldsIf_load_mid (by kernel_rfl) 79 _ rfl (w.heap.size) (0) rfl g.wl _ (fun u hu=>(HRW.out _ hu).range) Tryz.underlying79 rfl hsw.out) hHeld ?_
 simp only [sq1,sq0]
 refine' tk 1 (.pointer (some ⟨w.heap.size+1,2,none⟩)) rfl rfl (.inl ⟨by rfl,fun u hu=>(by go_simp)⟩) hHeld ?_
 simp only [sq1,sq0]
 refine' tk 2 _ rfl rfl (yieldsIf_load_mid (by kernel_rfl) 34 _ rfl (w.heap.size+1) (2) rfl es _ (fun u hu=>(HRX.out _ hu).part HES.out) Tryz.underlying34 rfl hse.out) hHeld ?_
 simp only [sq1,sq0]
 refine' tk 3 _ rfl rfl (yieldsIf_load_mid (by kernel_rfl) 87 _ rfl (w.heap.size+2) (0) rfl cs1 _ (fun u hu=>(HRS.out _ hu).range) Tryz.underlying87 rfl hsz.out) hHeld ?_
 simp only [sq1,sq0]
 refine' tk 4 (.pointer (some ⟨w.heap.size+1,1,none⟩)) rfl rfl (.inl ⟨by rfl,fun u hu=>(by go_simp)⟩) hHeld ?_
 simp only [sq1,sq0]
 refine' tk 5 (.slice pa y.params.length pc) rfl rfl (.inl ⟨by rfl,fun u hu=>(by have hc:=(HRX.out _ hu).get0 c1;go_simp)⟩) hHeld ?_
 simp only [sq1,sq0]
 refine wpAnyH_ready (rs:=[6,11]) (by kernel_rfl) (by simp) ?_
 refine AllReadyH.cons rfl (fun K hK=>?_) (AllReadyH.cons rfl (fun K hK=>?_) AllReadyH.nil)
 case' refine_1 =>
  go_simp
  refine (params_p y.params pa pc d cs1 _ lo _ C N (by omega) (by omega) hpl (Nat.le_refl _) (Nat.le_trans HLO.out HB0.out.size) (HKD.out _ (HF.out _ HB0.out)) (ParamsAt.mono (Nat.le_trans HB1.out HB0.out.size) _ (HKP.out _ (HF.out _ HB0.out)))).mono ?_
  rintro e uC0 ⟨_,cs2,rfl,rfl,hs2,hbC⟩
  have S2:=Hd hs2
  have HbC0:=Hd hbC
  have HC0:=Hd (belowThen HB0.out hbC)
  refine hK.out _ _ (HF.out _ HC0.out) (fun hHeld=>?_)
  clear hK K hbC hs2
  refine wpAnyH_ready (rs:=[7,11]) (by kernel_rfl) (by simp) ?_
  refine AllReadyH.cons rfl (fun K hK=>?_) (AllReadyH.cons rfl (fun K hK=>?_) AllReadyH.nil)
 case' refine_1.refine_1 =>
  go_simp
  refine (IH.out _ lo _ B1 N _ es _ cs2 s hN (by omega) (Nat.le_refl _) HB1B.out HUL.out (Nat.le_trans HLO.out HC0.out.size) (HST.out _ HC0.out) HG2.out S2.out (HKE.out _ (HF.out _ HC0.out))).mono ?_
  rw [HSE.out]
  rintro e uC1 ⟨rs5,rfl,hl5,ho5,hst5,hfu5,hsf5⟩
  have HO5:=Hd ho5
  have HbC1:=Hd hfu5
  have ST5:=Hd hst5
  have SF5:=Hd hsf5
  have HC1:=Hd (show FU g.m w1 uC1 from (HF.out _ HC0.out).go hfu5 HC0.out.size)
  refine hK.out _ _ HC1.out (fun hHeld=>?_)
  clear hK K ho5 hst5 hfu5 hsf5
  refine' tk 8 (.tuple #[.agg rs5.toArray,.int .i64 0]) rfl rfl (.inl ⟨by rfl,fun u hu=>(by go_simp)⟩) hHeld ?_
  simp only [sq1,sq0]
  refine' tk 9 (.agg rs5.toArray) rfl rfl (.inl ⟨by rfl,fun u hu=>(by go_simp)⟩) hHeld ?_
  simp only [sq1,sq0]
  refine' tk 10 (.int .i64 0) rfl rfl (.inl ⟨by rfl,fun u hu=>(by go_simp)⟩) hHeld ?_
  simp only [sq1,sq0]
  refine rd1 11 rfl (fun K hK=>?_)
  go_simp
  obtain ⟨uA,huA⟩:∃ uA,uA=uC1.alloc (.cells zE0 34):=⟨_,rfl⟩
  rw [← huA]
  have HbA:=Hd (show Below uC1.heap.size uC1 uA by rw [huA];exact belowBox uC1 _)
  have ZA:=Hd (show uA.heap[uC1.heap.size]?=some (.cells zE0 34 (0,0)) by rw [huA];exact heap_alloc_new uC1 _)
  have HA:=Hd (show FU g.m w1 uA from HC1.out.go (FUB.of_below HbA.out) HC1.out.size)
  obtain ⟨q5,hq5⟩:∃ q5,q5=uC1.heap.size:=⟨_,rfl⟩
  have hqb:w1.heap.size≤q5:=by rw [hq5];exact HC1.out.size
  rw [← hq5] at ZA ⊢
  refine hK.out _ _ HA.out (fun hHeld=>?_)
  have HQE:=Hd hq5
  clear hK K huA hq5
  refine rd1 12 rfl (fun K hK=>?_)
  rw [if_pos (by kernel_rfl)]
  refine wp_store_row 34 _ _ rfl q5 rs5.toArray rfl rfl 34 _ ZA.out (by rw [List.size_toArray,hl5];exact sizeE) (show 17=rs5.toArray.size by rw [List.size_toArray,hl5]) HO5.out ?_
  simp only [List.getElem_toArray,List.getElem_cons_succ,List.getElem_cons_zero,Act.put]
  have R5:=Hd (show FU g.m w1 (World.setRow uA q5 rs5.toArray) from HA.out.trans (FUB.setRow _ _ hqb))
  have S5:=Hd (show g.St s2 (World.setRow uA q5 rs5.toArray) from hok.keep _ _ _ ST5.out ((KeepT.of_below HbA.out).trans (KeepT.setRow ZA.out (.inl rfl) (Nat.le_trans HULW.out.b0 (Nat.le_trans HLW.out hqb)) _)))
  have X5:=Hd (show ¬ g.m.on→Safe w1.heap.size none (World.setRow uA q5 rs5.toArray) (fun c=>ExprD.At c c.heap.size N y.body rs5) from fun ho=>((SF5.out ho).next ⟨by have:=HbA.out.size;simpa using this,fun k _ hk _=>(setRow_other _ _ _ _ (by have:=HQE.out;omega)).trans (HbA.out.block k hk)⟩ (fun _ _ h=>by cases h)).wide HC0.out.size)
  have Z5:=Hd (setRow_heap _ q5 _ rs5.toArray _ _ ZA.out)
  obtain ⟨u5,hu5⟩:∃ u5,u5=World.setRow uA q5 rs5.toArray:=⟨_,rfl⟩
  rw [← hu5] at R5 Z5 S5 X5 ⊢
  refine hK.out _ _ R5.out (fun hHeld=>?_)
  clear hK K hu5
  refine rd1 13 rfl (fun K hK=>?_)
  go_simp
  refine hK.out _ _ R5.out (fun hHeldx=>?_)
  clear hK K hHeldx
  refine wpAnyH_done (by kernel_rfl) ?_ _
 case' refine_1.refine_2 =>
  go_simp
  obtain ⟨uA,huA⟩:∃ uA,uA=uC0.alloc (.cells zE0 34):=⟨_,rfl⟩
  rw [← huA]
  have HbA:=Hd (show Below uC0.heap.size uC0 uA by rw [huA];exact belowBox uC0 _)
  have ZA:=Hd (show uA.heap[uC0.heap.size]?=some (.cells zE0 34 (0,0)) by rw [huA];exact heap_alloc_new uC0 _)
  have HA:=Hd (belowThen HC0.out HbA.out)
  obtain ⟨q5,hq5⟩:∃ q5,q5=uC0.heap.size:=⟨_,rfl⟩
  have hqb:w1.heap.size≤q5:=by rw [hq5];exact HC0.out.size
  rw [← hq5] at ZA ⊢
  have SA:=Hd ((S2.out.keep (Kept.of_below HbA.out)).mono HbA.out.size (Nat.le_refl _))
  refine hK.out _ _ (HF.out _ HA.out) (fun hHeld=>?_)
  clear hK K huA hq5
  refine rd1 7 rfl (fun K hK=>?_)
  go_simp
  refine (IH.out _ lo _ B1 N _ es _ cs2 s hN (by omega) (Nat.le_refl _) HB1B.out HUL.out (Nat.le_trans HLO.out HA.out.size) (HST.out _ HA.out) HG2.out SA.out (HKE.out _ (HF.out _ HA.out))).mono ?_
  rw [HSE.out]
  rintro e uC1 ⟨rs5,rfl,hl5,ho5,hst5,hfu5,hsf5⟩
  have HO5:=Hd ho5
  have HbC1:=Hd hfu5
  have ST5:=Hd hst5
  have SF5:=Hd hsf5
  have HC1:=Hd (show FU g.m w1 uC1 from (HF.out _ HA.out).go hfu5 HA.out.size)
  have ZC1:=Hd (HbC1.out.row ZA.out (Array.getElem?_eq_some_iff.1 ZA.out).1 (by decide) (HULW.out.mono (Nat.le_trans HLW.out hqb)))
  refine hK.out _ _ HC1.out (fun hHeld=>?_)
  clear hK K ho5 hst5 hfu5 hsf5
  refine' tk 8 (.tuple #[.agg rs5.toArray,.int .i64 0]) rfl rfl (.inl ⟨by rfl,fun u hu=>(by go_simp)⟩) hHeld ?_
  simp only [sq1,sq0]
  refine' tk 9 (.agg rs5.toArray) rfl rfl (.inl ⟨by rfl,fun u hu=>(by go_simp)⟩) hHeld ?_
  simp only [sq1,sq0]
  refine' tk 10 (.int .i64 0) rfl rfl (.inl ⟨by rfl,fun u hu=>(by go_simp)⟩) hHeld ?_
  simp only [sq1,sq0]
  refine rd1 12 rfl (fun K hK=>?_)
  rw [if_pos (by kernel_rfl)]
  refine wp_store_row 34 _ _ rfl q5 rs5.toArray rfl rfl 34 _ ZC1.out (by rw [List.size_toArray,hl5];exact sizeE) (show 17=rs5.toArray.size by rw [List.size_toArray,hl5]) HO5.out ?_
  simp only [List.getElem_toArray,List.getElem_cons_succ,List.getElem_cons_zero,Act.put]
  have R5:=Hd (show FU g.m w1 (World.setRow uC1 q5 rs5.toArray) from HC1.out.trans (FUB.setRow _ _ hqb))
  have S5:=Hd (show g.St s2 (World.setRow uC1 q5 rs5.toArray) from hok.keep _ _ _ ST5.out (KeepT.setRow ZC1.out (.inl rfl) (Nat.le_trans HULW.out.b0 (Nat.le_trans HLW.out hqb)) _))
  have hq5l:=(Array.getElem?_eq_some_iff.1 ZA.out).1
  have X5:=Hd (show ¬ g.m.on→Safe w1.heap.size none (World.setRow uC1 q5 rs5.toArray) (fun c=>ExprD.At c c.heap.size N y.body rs5) from fun ho=>((SF5.out ho).next (keep_setRow uC1 q5 _ _ hq5l) (fun _ _ h=>by cases h)).wide HA.out.size)
  clear hq5l
  have Z5:=Hd (setRow_heap _ q5 _ rs5.toArray _ _ ZC1.out)
  obtain ⟨u5,hu5⟩:∃ u5,u5=World.setRow uC1 q5 rs5.toArray:=⟨_,rfl⟩
  rw [← hu5] at R5 Z5 S5 X5 ⊢
  refine hK.out _ _ R5.out (fun hHeld=>?_)
  clear hK K hu5
  refine rd1 13 rfl (fun K hK=>?_)
  go_simp
  refine hK.out _ _ R5.out (fun hHeldx=>?_)
  clear hK K hHeldx
  refine wpAnyH_done (by kernel_rfl) ?_ _
 case' refine_2 =>
  go_simp
  obtain ⟨uA,huA⟩:∃ uA,uA=(w1.alloc (.cells zE0 34)).drew:=⟨_,rfl⟩
  rw [← huA]
  have HbA:=Hd (show Below w1.drew.heap.size w1.drew uA by rw [huA];exact belowBox w1.drew _)
  have ZA:=Hd (show uA.heap[w1.heap.size]?=some (.cells zE0 34 (0,0)) by rw [huA];exact heap_alloc_new w1 _)
  have HA:=Hd (belowThen HB0.out HbA.out)
  obtain ⟨q5,hq5⟩:∃ q5,q5=w1.heap.size:=⟨_,rfl⟩
  have hqb:w1.heap.size≤q5:=by rw [hq5];exact Nat.le_refl _
  rw [← hq5] at ZA ⊢
  refine hK.out _ _ (HF.out _ HA.out) (fun hHeld=>?_)
  clear hK K huA hq5
  refine rd1 6 rfl (fun K hK=>?_)
  go_simp
  refine (params_p y.params pa pc d cs1 _ lo _ C N (by omega) (by omega) hpl (Nat.le_refl _) (Nat.le_trans HLO.out HA.out.size) (HKD.out _ (HF.out _ HA.out)) (ParamsAt.mono (Nat.le_trans HB1.out HA.out.size) _ (HKP.out _ (HF.out _ HA.out)))).mono ?_
  rintro e uC0 ⟨_,cs2,rfl,rfl,hs2,hbC⟩
  have S2:=Hd hs2
  have HbC0:=Hd hbC
  have HC0:=Hd (belowThen HA.out hbC)
  have ZC0:=Hd ((HbC0.out.block _ (Array.getElem?_eq_some_iff.1 ZA.out).1).trans ZA.out)
  refine hK.out _ _ (HF.out _ HC0.out) (fun hHeld=>?_)
  clear hK K hbC hs2
  refine rd1 7 rfl (fun K hK=>?_)
  go_simp
  refine (IH.out _ lo _ B1 N _ es _ cs2 s hN (by omega) (Nat.le_refl _) HB1B.out HUL.out (Nat.le_trans HLO.out HC0.out.size) (HST.out _ HC0.out) HG2.out S2.out (HKE.out _ (HF.out _ HC0.out))).mono ?_
  rw [HSE.out]
  rintro e uC1 ⟨rs5,rfl,hl5,ho5,hst5,hfu5,hsf5⟩
  have HO5:=Hd ho5
  have HbC1:=Hd hfu5
  have ST5:=Hd hst5
  have SF5:=Hd hsf5
  have HC1:=Hd (show FU g.m w1 uC1 from (HF.out _ HC0.out).go hfu5 HC0.out.size)
  have ZC1:=Hd (HbC1.out.row ZC0.out (Array.getElem?_eq_some_iff.1 ZC0.out).1 (by decide) (HULW.out.mono (Nat.le_trans HLW.out hqb)))
  refine hK.out _ _ HC1.out (fun hHeld=>?_)
  clear hK K ho5 hst5 hfu5 hsf5
  refine' tk 8 (.tuple #[.agg rs5.toArray,.int .i64 0]) rfl rfl (.inl ⟨by rfl,fun u hu=>(by go_simp)⟩) hHeld ?_
  simp only [sq1,sq0]
  refine' tk 9 (.agg rs5.toArray) rfl rfl (.inl ⟨by rfl,fun u hu=>(by go_simp)⟩) hHeld ?_
  simp only [sq1,sq0]
  refine' tk 10 (.int .i64 0) rfl rfl (.inl ⟨by rfl,fun u hu=>(by go_simp)⟩) hHeld ?_
  simp only [sq1,sq0]
  refine rd1 12 rfl (fun K hK=>?_)
  rw [if_pos (by kernel_rfl)]
  refine wp_store_row 34 _ _ rfl q5 rs5.toArray rfl rfl 34 _ ZC1.out (by rw [List.size_toArray,hl5];exact sizeE) (show 17=rs5.toArray.size by rw [List.size_toArray,hl5]) HO5.out ?_
  simp only [List.getElem_toArray,List.getElem_cons_succ,List.getElem_cons_zero,Act.put]
  have R5:=Hd (show FU g.m w1 (World.setRow uC1 q5 rs5.toArray) from HC1.out.trans (FUB.setRow _ _ hqb))
  have S5:=Hd (show g.St s2 (World.setRow uC1 q5 rs5.toArray) from hok.keep _ _ _ ST5.out (KeepT.setRow ZC1.out (.inl rfl) (Nat.le_trans HULW.out.b0 (Nat.le_trans HLW.out hqb)) _))
  have hq5l:=(Array.getElem?_eq_some_iff.1 ZC0.out).1
  have X5:=Hd (show ¬ g.m.on→Safe w1.heap.size none (World.setRow uC1 q5 rs5.toArray) (fun c=>ExprD.At c c.heap.size N y.body rs5) from fun ho=>((SF5.out ho).next (keep_setRow uC1 q5 _ _ hq5l) (fun _ _ h=>by cases h)).wide HC0.out.size)
  clear hq5l
  have Z5:=Hd (setRow_heap _ q5 _ rs5.toArray _ _ ZC1.out)
  obtain ⟨u5,hu5⟩:∃ u5,u5=World.setRow uC1 q5 rs5.toArray:=⟨_,rfl⟩
  rw [← hu5] at R5 Z5 S5 X5 ⊢
  refine hK.out _ _ R5.out (fun hHeld=>?_)
  clear hK K hu5
  refine rd1 13 rfl (fun K hK=>?_)
  go_simp
  refine hK.out _ _ R5.out (fun hHeldx=>?_)
  clear hK K hHeldx
  refine wpAnyH_done (by kernel_rfl) ?_ _
 all_goals
  have I5:=Hd (I1.out.fu R5.out)
  go_wp2_with fail
  have HL5:=Hd hl5
  have HPP:=Hd (Nat.le_trans hpl hN)
  have HB5:=Hd (show B1≤u5.drew.heap.size from Nat.le_trans HB1.out R5.out.size)
  have D5:=Hd (drewW u5)
  have R5D:=Hd (show FU g.m w1 u5.drew from R5.out.go (FUB.of_below D5.out) R5.out.size)
  have hz5:=Hd (show (Tryz.prog.info? 34).map (·.size)=some rs5.length by rw [hl5];exact sizeE)
  have hlq:=Hd (Array.getElem?_eq_some_iff.1 Z5.out).1
  clear hHeld
  refine wp_region_held_drew (S:=fun u=>CellsAt u (w.heap.size+1) 0 fs∧u.heap[q5]?=some (.cells rs5.toArray 34 (0,0))) (by kernel_rfl) ⟨I5.out.r2,Z5.out⟩ (fun hHeld=>?_)
  refine' tk 0 (.pointer (some ⟨w.heap.size+1,0,none⟩)) rfl rfl (.inl ⟨by rfl,fun u hu=>(by go_simp)⟩) hHeld ?_
  simp only [sq1,sq0]
  refine' tk 1 (.string y.name) rfl rfl (.inl ⟨by rfl,fun u hu=>(by have hc:=hu.1.get0 c0;go_simp)⟩) hHeld ?_
  simp only [sq1,sq0]
  refine' tk 2 (.pointer (some ⟨w.heap.size+1,1,none⟩)) rfl rfl (.inl ⟨by rfl,fun u hu=>(by go_simp)⟩) hHeld ?_
  simp only [sq1,sq0]
  refine' tk 3 (.slice pa y.params.length pc) rfl rfl (.inl ⟨by rfl,fun u hu=>(by have hc:=hu.1.get0 c1;go_simp)⟩) hHeld ?_
  simp only [sq1,sq0]
  refine' tk 5 _ rfl rfl (yieldsIf_load_mid (by kernel_rfl) 34 _ rfl (q5) (0) rfl rs5 _ (fun u hu=>row_range hu.2) Tryz.underlying34 rfl hz5.out) hHeld ?_
  simp only [sq1,sq0]
  refine rd1 4 rfl (fun K hK=>?_)
  go_simp
  refine (clone_parG y.params pa pc _ B1 N (by omega) hpl HB5.out (HKP.out _ R5D.out)).mono ?_
  rintro e u6 ⟨a6,c6,rfl,hs6,hb6⟩
  obtain ⟨n6,hn6⟩:∃ n6,n6=y.params.length:=⟨_,rfl⟩
  rw [← hn6]
  have HN6:=Hd hn6
  have SP6:=Hd hs6
  have HB6:=Hd hb6
  have R6:=Hd (show FU g.m w1 u6 from R5D.out.go (FUB.of_below hb6) R5D.out.size)
  have I6:=Hd (I1.out.fu R6.out)
  have Z6:=Hd ((hb6.block _ hlq.out).trans Z5.out)
  refine hK.out _ _ ⟨I6.out.r2,Z6.out⟩ (fun hHeld1=>?_)
  clear hK K hHeld hb6 hs6 hn6
  have hfz:=fold_fn y.name a6 n6 c6 rs5 HL5.out
  refine' tk 6 (.agg (Value.string y.name::.slice a6 n6 c6::rs5).toArray) rfl rfl (.inl ⟨by rfl,fun u hu=>(by go_simp)⟩) hHeld1 ?_
  simp only [sq1,sq0]
  refine rd1 7 rfl (fun K hK=>?_)
  rw [if_pos (by kernel_rfl)]
  have hsz9:(Tryz.prog.info? 82).map (·.size)=some (Value.string y.name::.slice a6 n6 c6::rs5).toArray.size:=by rw [List.size_toArray,List.length_cons,List.length_cons,HL5.out];exact sizeFN
  have hon9:(Value.string y.name::.slice a6 n6 c6::rs5).toArray.all (·.oneCell')=true:=by
   refine Go.all_oneCell_toArray (fun u hu=>?_)
   rcases List.mem_cons.1 hu with rfl | hu
   ·rfl
   ·rcases List.mem_cons.1 hu with rfl | hu
    ·rfl
    ·exact (List.all_eq_true.1 (by simpa using HO5.out)) u hu
  refine wp_store_row 82 _ _ rfl (w.heap.size+1+1+1) (Value.string y.name::.slice a6 n6 c6::rs5).toArray rfl rfl 82 _ I6.out.out hsz9 (show 19=(Value.string y.name::.slice a6 n6 c6::rs5).toArray.size by rw [List.size_toArray,List.length_cons,List.length_cons,HL5.out]) hon9 ?_
  simp only [List.getElem_toArray,List.getElem_cons_succ,List.getElem_cons_zero,Act.put]
  have Z7:=Hd (setRow_heap u6 (w.heap.size+3) _ (Value.string y.name::.slice a6 n6 c6::rs5).toArray _ _ I6.out.out)
  have R7:=Hd (show CellsAt (u6.setRow (w.heap.size+3) (Value.string y.name::.slice a6 n6 c6::rs5).toArray) (w.heap.size+1) 0 fs∧(u6.setRow (w.heap.size+3) (Value.string y.name::.slice a6 n6 c6::rs5).toArray).heap[q5]?=some (.cells rs5.toArray 34 (0,0)) from
   ⟨I6.out.r2.below (bSetRow (B:=w.heap.size+2) u6 _ (by omega)) (by omega),(setRow_other _ _ _ _ (by have:=I1.out.size;omega)).trans Z6.out⟩)
  have HF7:=Hd (show FU g.m w (u6.setRow (w.heap.size+3) (Value.string y.name::.slice a6 n6 c6::rs5).toArray) from I6.out.low.trans (FUB.setRow _ _ (by omega)))
  have HS7:=Hd (show g.St s2 (u6.setRow (w.heap.size+3) (Value.string y.name::.slice a6 n6 c6::rs5).toArray) from hok.keep _ _ _ S5.out (((KeepT.of_below D5.out).trans (KeepT.of_below HB6.out)).trans (KeepT.setRow I6.out.out (.inr (.inl rfl)) (Nat.le_trans HULW.out.b0 (by omega)) _)))
  have HX7:=Hd (show ¬ g.m.on→Safe w.heap.size none (u6.setRow (w.heap.size+3) (Value.string y.name::.slice a6 n6 c6::rs5).toArray) (fun c=>FuncD.At c c.heap.size N y (Value.string y.name::.slice a6 n6 c6::rs5)) from fun ho=>by
   have hk7:Keep (w.heap.size+4) none u6 (u6.setRow (w.heap.size+3) (Value.string y.name::.slice a6 n6 c6::rs5).toArray):=keep_setRow u6 (w.heap.size+3) _ _ (by omega)
   have h1:=(((X5.out ho).next (no2:=none) (keep_below (belowThen D5.out HB6.out) (Nat.le_refl _)) (fun _ _ h=>by cases h)).next (no2:=none) (hk7.wide I1.out.size) (fun _ _ h=>by cases h)).wide (L:=w.heap.size) (by have:=I1.out.size;omega)
   have h2:=((SP6.out.next (no2:=none) (hk7.wide (by have h1:=I1.out.size;have h2:=R5D.out.size;omega)) (fun _ _ h=>by cases h)).wide (L:=w.heap.size) (by have h1:=I1.out.size;have h2:=R5D.out.size;omega))
   intro c hc
   rw [HN6.out]
   exact FuncD.At.mk' HNP.out.1 HNP.out.2 (h2 c hc) (h1 c hc))
  refine hK.out _ _ R7.out (fun hHeldx=>?_)
  clear hK K hHeldx hHeld1 hfz
  refine rd1 8 rfl (fun K hK=>?_)
  go_simp
  refine hK.out _ _ R7.out (fun hHeldx=>?_)
  clear hK K hHeldx
  refine wpAnyH_done (by kernel_rfl) ?_ _
  go_wp2_with fail
  refine bodyPost_ret (results_cell_row2 rfl _ _ (w.heap.size+1+1+1) 82 _ (0,0) _ rfl Z7.out Tryz.underlying82 rfl hsz9) rfl ?_
  exact ⟨_,rfl,by rw [List.length_cons,List.length_cons,HL5.out],hon9,HS7.out,HF7.out,HX7.out⟩
end Go.Proofs.YticpebgjbfanpaaGreatDoor
