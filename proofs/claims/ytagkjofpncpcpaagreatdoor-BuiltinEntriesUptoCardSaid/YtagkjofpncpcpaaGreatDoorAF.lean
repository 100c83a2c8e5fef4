/- A map from keys to places; fields cloned as a row of one's own; what the program's merge keeps. -/
import Derived.Test.YtagkjofpncpcpaaGreatDoorProg
import Derived.Test.YtagkjofpncpcpaaGreatDoorGA
import Derived.Test.YtagkjofpncpcpaaGreatDoorGB
import Derived.Test.YtagkjofpncpcpaaGreatDoorGF
import Derived.Test.YtagkjofpncpcpaaGreatDoorRow36
import Derived.Test.YtagkjofpncpcpaaGreatDoorXA
import Derived.Test.YtagkjofpncpcpaaGreatDoorXD
import Derived.Test.YtagkjofpncpcpaaGreatDoorAD
import Derived.Test.YtagkjofpncpcpaaGreatDoorAE
import Derived.Maps.AppendAt
namespace Go.Proofs.YtagkjofpncpcpaaGreatDoor
namespace Stb
end Stb
open Go.RowKit Go.Maps Stb
def ixOf (L:List (List UInt8)) (s:List UInt8):Option Nat:=L.findIdx? (·==s)
theorem ixOf_snoc (L:List (List UInt8)) (x s:List UInt8):ixOf (L++[x]) s=(ixOf L s).or (if x=s then some L.length else none):=by
 unfold ixOf
 rw [List.findIdx?_append]
 congr 1
 by_cases h:x=s
 ·subst h;simp
 ·simp [h]
def IdxAt (w:World) (b n:Nat) (L:List (List UInt8)):Prop :=
 ∃ D:DataW Unit,w.ownsMap Tryz.prog 9 (plainElem Tryz.prog 3) b n D∧IsMap D∧(∀ s,Maps.has D (.string s)=(ixOf L s).isSome)∧∀ s i,ixOf L s=some i→D.atKey (.string s) (.lit (.int .i64 0))=.lit (.int .i64 (i:Int))
theorem IdxAt.made (w:World):IdxAt (w.alloc (.map #[] 0)) w.heap.size 0 [] :=
 ⟨.map [],World.ownsMap_made _ _ _ _,isMap_empty,fun s=>rfl,fun s i h=>by cases h⟩
theorem IdxAt.lt {w:World} {b n:Nat} {L:List (List UInt8)} (h:IdxAt w b n L):b<w.heap.size:=by
 obtain ⟨D,h1,_⟩:=h
 exact h1.lt
theorem IdxAt.mono {w:World} {b n n':Nat} {L:List (List UInt8)} (h:IdxAt w b n L) (hn:n≤n'):IdxAt w b n' L:=by
 obtain ⟨D,h1,r⟩:=h
 exact ⟨D,h1.mono hn,r⟩
theorem IdxAt.block {w w':World} {b n:Nat} {L:List (List UInt8)} (h:IdxAt w b n L) (hb:w'.heap[b]?=w.heap[b]?):IdxAt w' b n L:=by
 obtain ⟨D,⟨es,clock,hh,r⟩,h2⟩:=h
 exact ⟨D,⟨es,clock,hb.trans hh,r⟩,h2⟩
theorem IdxAt.below {w w':World} {b n B:Nat} {L:List (List UInt8)} (h:IdxAt w b n L) (hb:Below B w w') (hlt:b<B):IdxAt w' b n L:=h.block (hb.block b hlt)
theorem IdxAt.later {w w':World} {b n:Nat} {L:List (List UInt8)} (h:IdxAt w b n L) (hb:Below w.heap.size w w'):IdxAt w' b n L:=h.below hb h.lt
theorem zeroInt (w:World):(zeroValue 3).run Tryz.prog w=.ok (.int .i64 0) w:=Tryz.zeroValue3 w
theorem wpList_look_idx {w:World} {ops:Array Oper} {rest:List Oper} {o:Oper} {a:Act} {Q:Exit→Act→World→Prop} (hg:o.guard=none) (m x:Operand) (t:TypeId) (hop:o.op=Op.lookup t m x true)
 (ht:Tryz.prog.underlying t=some (.map 9 3)) {b n:Nat} {L:List (List UInt8)}
 (hm:a.eval m=.map (some b)) (h:IdxAt w b n L) (s:ByteArray) (hx:a.eval x=.string s) (hs:s.size≤maxLen) (ok:Bool) (hok:(ixOf L s.data.toList).isSome=ok)
 (hk:∀ c:Int,(∀ i:Nat,ixOf L s.data.toList=some i→c=i)→wpList Tryz.prog ops Q rest (a.put o.dst (.tuple #[.int .i64 c,.bool ok])) w):wpList Tryz.prog ops Q (o::rest) a w:=by
 obtain ⟨D,h1,h2,h3,h4⟩:=h
 refine wpList_lookup_own_ok_int w hg m x t hop 9 3 .i64 (string_keyed Tryz.underlying9) ht Tryz.underlying3 (zeroInt w) b n D hm h1 _ (.string s.data.toList) hx (keyOf_str Tryz.underlying9 hs) (fun c hat hwc=>?_)
 rw [h3,hok]
 refine hk c (fun i hi=>?_)
 rw [h4 _ i hi] at hat
 simpa using hat.symm
theorem wpList_put_idx {w:World} {ops:Array Oper} {rest:List Oper} {o:Oper} {a:Act} {Q:Exit→Act→World→Prop} (hg:o.guard=none) (m x v:Operand) (t:TypeId) (hop:o.op=Op.mapUpdate t m x v)
 (ht:Tryz.prog.underlying t=some (.map 9 3)) {b n:Nat} {L:List (List UInt8)}
 (hm:a.eval m=.map (some b)) (h:IdxAt w b n L) (hn:n<maxLen) (s:ByteArray) (hx:a.eval x=.string s) (hno:(ixOf L s.data.toList).isSome=false) (hL:L.length≤4294967296) (hv:a.eval v=.int .i64 (L.length:Int)) (hs:s.size≤maxLen)
 (hk:∀ w',IdxAt w' b (n+1) (L++[s.data.toList])→w.grownBy w' (some b)→wpList Tryz.prog ops Q rest (a.put o.dst undef) w'):wpList Tryz.prog ops Q (o::rest) a w:=by
 obtain ⟨D,h1,h2,h3,h4⟩:=h
 have hno':ixOf L s.data.toList=none:=by simpa using hno
 have hwf:(Lit.int .i64 (L.length:Int)).wf=true:=by
  simp only [Lit.wf,Bool.and_eq_true,decide_eq_true_eq]
  constructor
  ·exact Int.le_trans (by decide:IntKind.i64.min≤0) (by omega)
  ·exact Int.le_trans (show (L.length:Int)≤4294967296 by omega) (by decide)
 refine wpList_mapUpdate_own w hg m x v t hop 9 3 (string_keyed Tryz.underlying9) ht _ b n D hm h1 hn _ _ (.string s.data.toList) hx hv (keyOf_str Tryz.underlying9 hs) _ [] (plainElem_int Tryz.underlying3 hwf) (fun w' r1 r2=>hk w' ⟨_,r1,h2.put _ _,fun q=>?_,fun q i hi=>?_⟩ r2)
 ·rw [ixOf_snoc]
  by_cases hq:q=s.data.toList
  ·subst hq
   rw [has_put_same h2 (isKeyLit_string _),hno']
   simp
  ·rw [has_put_other (by simpa using hq),h3,if_neg (fun e=>hq e.symm)]
   simp
 ·rw [ixOf_snoc] at hi
  by_cases hq:q=s.data.toList
  ·subst hq
   rw [hno'] at hi
   simp at hi
   rw [atKey_put_same h2 (isKeyLit_string _),hi]
  ·rw [if_neg (fun e=>hq e.symm)] at hi
   rw [atKey_put_other (by simpa using hq)]
   exact h4 q i (by simpa using hi)
def keysL (l:List (ByteArray×ValD)):List (List UInt8):=l.map (·.1.data.toList)
theorem ixOf_none {L:List (List UInt8)} {s:List UInt8} (h:s ∉ L):ixOf L s=none:=by
 unfold ixOf
 rw [List.findIdx?_eq_none_iff]
 intro x hx
 simp only [beq_eq_false_iff_ne,ne_eq]
 exact fun e=>h (e ▸ hx)
theorem keysL_put (l:List (ByteArray×ValD)) (f:ByteArray×ValD):keysL (putF l f)=keysL l∨keysL (putF l f)=keysL l++[f.1.data.toList]:=by
 cases h:plcN l f.1 with
 | none=>rw [putF_none h];right;simp [keysL]
 | some i =>
   obtain ⟨hi,h2⟩:=putF_some h
   left
   rw [h2]
   unfold keysL
   apply List.ext_getElem (by simp)
   intro q h3 h4
   simp only [List.getElem_map]
   by_cases c:q=i
   ·subst c;simp
   ·rw [List.getElem_set_ne (fun e=>c e.symm)]
def KeysE (l m M:List (ByteArray×ValD)) (i:Nat):Prop:=∃ E,keysL M=keysL l++E∧∀ x∈E,x∈keysL (m.take i)
theorem KeysE.start (l m:List (ByteArray×ValD)):KeysE l m l 0:=⟨[],by simp,fun x hx=>by cases hx⟩
theorem KeysE.next {l m M:List (ByteArray×ValD)} {i:Nat} (h:KeysE l m M i) (hi:i<m.length):KeysE l m (putF M m[i]) (i+1):=by
 obtain ⟨E,h1,h2⟩:=h
 have h3:keysL (m.take (i+1))=keysL (m.take i)++[m[i].1.data.toList]:=by unfold keysL;rw [List.take_succ_eq_append_getElem hi,List.map_append];rfl
 rcases keysL_put M m[i] with h4 | h4
 ·exact ⟨E,by rw [h4,h1],fun x hx=>by rw [h3];exact List.mem_append_left _ (h2 x hx)⟩
 ·refine ⟨E++[m[i].1.data.toList],by rw [h4,h1,List.append_assoc],fun x hx=>?_⟩
  rw [h3]
  rcases List.mem_append.1 hx with hx | hx
  ·exact List.mem_append_left _ (h2 x hx)
  ·exact List.mem_append_right _ hx
theorem keysL_new {m:List (ByteArray×ValD)} {i:Nat} (hd:(keysL m).Nodup) (hi:i<m.length):m[i].1.data.toList ∉ keysL (m.take i):=by
 intro h
 have e:keysL m=keysL (m.take i)++m[i].1.data.toList::keysL (m.drop (i+1)):=by
  unfold keysL
  rw [← List.map_cons (f:=fun x:ByteArray×ValD=>x.1.data.toList),← List.map_append,← List.drop_eq_getElem_cons hi,List.take_append_drop]
 rw [e,List.nodup_append] at hd
 exact hd.2.2 _ h _ (List.mem_cons_self ..) rfl
def mapV (v:Value):List Value:=[.int .i64 7,.bool false,.bool false,.string ⟨#[]⟩,.int .i64 0,.int .i64 0,.int .i64 0,.int .i64 0,.int .i64 0,.string ⟨#[]⟩,.slice none 0 0,.slice none 0 0,v]
structure MrgS (w W:World) (N:Nat) (cs ds zs:List Value) (p mb:Nat) (KL:List (List UInt8)) (M:List (ByteArray×ValD)) (f:Nat→List Value) (v:Value):Prop where
 tv:Tval w W cs ds zs
 row:RowT 30 W p (mapV v)
 own:W.ownsRow (w.heap.size+3) 41 14 v M.length (flatR M.length f)
 idx:IdxAt W mb KL.length KL
 hp:w.heap.size+3≤p
 hm:w.heap.size+3≤mb
 hpm:p≠mb
 ap:∀ q,v.ownBlock=some q→q≠p∧q≠mb
theorem Tval.low {w W W':World} {cs ds zs:List Value} (h:Tval w W cs ds zs) (hb:Below (w.heap.size+3) W W'):Tval w W' cs ds zs :=
 ⟨h.below.trans (hb.mono (by omega)),h.one.below hb (by omega),h.two.below hb (by omega),h.res.below hb (by omega)⟩
theorem own_blk {w w':World} {base:Nat} {e:TypeId} {size:Nat} {v:Value} {n:Nat} {xs:List Value} (h:w.ownsRow base e size v n xs) (hs:∀ q,v.ownBlock=some q→w'.heap[q]?=w.heap[q]?):w'.ownsRow base e size v n xs:=by
 obtain ⟨h1,h2⟩:=h
 refine ⟨h1,?_⟩
 rcases h2 with h2 | ⟨g,cap,cur,hv,hg,hh,r⟩
 ·exact Or.inl h2
 ·exact Or.inr ⟨g,cap,cur,hv,hg,by rw [hs g (by rw [hv];rfl)];exact hh,r⟩
section
variable {w W W':World} {N:Nat} {cs ds zs:List Value} {p mb:Nat} {KL:List (List UInt8)} {M:List (ByteArray×ValD)} {f:Nat→List Value} {v:Value}
theorem MrgS.later (h:MrgS w W N cs ds zs p mb KL M f v) (hb:Below W.heap.size W W'):MrgS w W' N cs ds zs p mb KL M f v :=
 ⟨h.tv.later hb,h.row.then hb,own_same h.own (fun q _ hq=>hb.block q hq),h.idx.later hb,h.hp,h.hm,h.hpm,h.ap⟩
theorem MrgS.size (h:MrgS w W N cs ds zs p mb KL M f v):p<W.heap.size∧mb<W.heap.size:=⟨h.row.lt,h.idx.lt⟩
theorem grownLow {W W':World} {mb B:Nat} (hg:W.grownBy W' (some mb)) (hB:B≤W.heap.size) (hm:B≤mb):Below B W W':=(Below.refl _ _).grown hg hB (fun q hq=>by cases hq;exact hm)
theorem fldQ_low {B B':Nat} (h:FldQ W B N M f) (hb:Below B' W W') (hB:B≤B'):FldQ W' B N M f:=fun q hq=>by
 obtain ⟨ds,c1,c2,c3⟩:=h q hq
 exact ⟨ds,c1,c2,c3.below (hb.mono hB)⟩
theorem MrgS.mapPut {K':List (List UInt8)} (h:MrgS w W N cs ds zs p mb KL M f v) (hg:W.grownBy W' (some mb)) (hi:IdxAt W' mb K'.length K'):MrgS w W' N cs ds zs p mb K' M f v:=by
 have hb:=grownLow (B:=w.heap.size+3) hg h.tv.size h.hm
 exact ⟨h.tv.low hb,(hg.block p h.row.lt (fun e=>by cases e;exact h.hpm rfl)).trans h.row,own_blk h.own (fun q hq=>hg.block q (h.own.lt q hq).2 (fun e=>by cases e;exact (h.ap mb hq).2 rfl)),hi,h.hp,h.hm,h.hpm,h.ap⟩
theorem MrgS.put {M':List (ByteArray×ValD)} {f':Nat→List Value} {g n cap:Nat} {new:Array Value} (h:MrgS w W N cs ds zs p mb KL M f (.slice (some ⟨g,0,none⟩) n cap)) (ho:(W.setRow g new).ownsRow (w.heap.size+3) 41 14 (.slice (some ⟨g,0,none⟩) n cap) M'.length (flatR M'.length f'))
 (hg:w.heap.size+3≤g):MrgS w (W.setRow g new) N cs ds zs p mb KL M' f' (.slice (some ⟨g,0,none⟩) n cap):=by
 have hb:Below (w.heap.size+3) W (W.setRow g new):=below_setRow (Below.refl _ _) hg _
 have ha:=h.ap g rfl
 exact ⟨h.tv.low hb,h.row.setRowOther (fun e=>ha.1 e.symm) _,ho,h.idx.block (setRow_other _ _ _ _ (fun e=>ha.2 e.symm)),h.hp,h.hm,h.hpm,h.ap⟩
theorem MrgS.slice {M':List (ByteArray×ValD)} {f':Nat→List Value} {v':Value} (h:MrgS w W N cs ds zs p mb KL M f v) (ho:W'.ownsRow (w.heap.size+3) 41 14 v' M'.length (flatR M'.length f')) (hg:W.grownBy W' v.ownBlock)
 (hap:v'.ownBlock=v.ownBlock∨v'.ownBlock=some W.heap.size):MrgS w (W'.setCell ⟨p,12,none⟩ v') N cs ds zs p mb KL M' f' v':=by
 have hb1:Below (w.heap.size+3) W W':=(Below.refl _ _).grown hg h.tv.size (fun q hq=>(h.own.lt q hq).1)
 have hr:RowT 30 W' p (mapV v):=(hg.block p h.row.lt (fun e=>(h.ap p e.symm).1 rfl)).trans h.row
 have hb2:Below (w.heap.size+3) W' (W'.setCell ⟨p,12,none⟩ v'):=below_set (Below.refl _ _) h.hp _
 have hi:IdxAt W' mb KL.length KL:=h.idx.block (hg.block mb h.idx.lt (fun e=>(h.ap mb e.symm).2 rfl))
 have ha:∀ q,v'.ownBlock=some q→q≠p∧q≠mb:=fun q hq=>by
  rcases hap with e | e
  ·exact h.ap q (by rw [← e];exact hq)
  ·have:=h.size
   rw [hq] at e
   cases e
   omega
 exact ⟨(h.tv.low hb1).low hb2,hr.set 12 v',own_blk ho (fun q hq=>heap_setCell_other _ _ _ _ (ha q hq).1),hi.block (heap_setCell_other _ _ _ _ (fun e=>h.hpm e.symm)),h.hp,h.hm,h.hpm,ha⟩
end
end Go.Proofs.YtagkjofpncpcpaaGreatDoor

/- The program's merge of the fields of two maps (builtin.merge). -/
namespace Go.Proofs.YtagkjofpncpcpaaGreatDoor
open Go.RowKit Go.Maps Stb
theorem MrgS.start {w w1:World} {N:Nat} {cs ds zs:List Value} {l:List (ByteArray×ValD)} {f:Nat→List Value} {v:Value} (hT:Tval w w1 cs ds zs) (hown:w1.ownsRow (w.heap.size+3) 41 14 v l.length (flatR l.length f)) :
 MrgS w ((w1.alloc (.cells (mapV v).toArray 30)).alloc (.map #[] 0)) N cs ds zs w1.heap.size (w1.heap.size+1) (keysL (l.take 0)) l f v:=by
 refine ⟨(hT.later (belowBox w1 _)).later (belowBox _ _),(RowT.new w1 30 (mapV v)).alloc _,(hown.alloc _).alloc _,?_,hT.size,by have:=hT.size;omega,by omega,fun q hq=>?_⟩
 ·have h:=IdxAt.made (w1.alloc (.cells (mapV v).toArray 30))
  rw [World.size_alloc] at h
  exact h
 ·have:=(hown.lt q hq).2
  omega
theorem MrgS.rows {w W:World} {B N p mb:Nat} {cs ds zs:List Value} {KL:List (List UInt8)} {M:List (ByteArray×ValD)} {f:Nat→List Value} {ad:Option Addr} {cp:Nat} (h:MrgS w W N cs ds zs p mb KL M f (.slice ad M.length cp)) (hf:FldQ w B N M f) (hB:B≤w.heap.size) {k:Nat} (hk:k<M.length) :
 ∃ g,ad=some ⟨g,0,none⟩∧w.heap.size+3≤g∧W.rangeAt g (k * 14) (f k):=by
 rcases h.own.2 with ⟨e,h0⟩ | ⟨g,cap,cur,e,h5,h6,h7,h8,h9,h10⟩
 ·omega
 ·cases e
  have hR:RowT 41 W g (flatR M.length f++cur.toList.drop (M.length * 14)):=by
   unfold RowT
   rw [h6,← h10,List.take_append_drop]
  exact ⟨g,rfl,h5,((fldQ_low hf (h.tv.below) hB).rows hR).range hk⟩
theorem MrgS.fieldsAt {w W:World} {B N p mb:Nat} {cs ds zs:List Value} {KL:List (List UInt8)} {M:List (ByteArray×ValD)} {f:Nat→List Value} {ad:Option Addr} {cp:Nat} (h:MrgS w W N cs ds zs p mb KL M f (.slice ad M.length cp)) (hf:FldQ w B N M f) (hB:B≤w.heap.size):FieldsAt W W.heap.size N M ad:=by
 obtain ⟨a,c,e,h2⟩:=RowsB.own (H:=w.heap.size+3) h.own rfl rfl (fldQ_low hf h.tv.below hB) (Nat.le_refl _)
 cases e
 exact h2.fields (Nat.le_trans hB h.tv.below.size)
end Go.Proofs.YtagkjofpncpcpaaGreatDoor

/- Sums of two values, on both sides. -/
namespace Go.Proofs.YtagkjofpncpcpaaGreatDoor
open Go.RowKit Stb
end Go.Proofs.YtagkjofpncpcpaaGreatDoor
