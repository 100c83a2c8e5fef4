/- A map from keys to places; fields cloned as a row of one's own; what the program's merge keeps. -/
import Derived.Test.YtmjfggadehkbjaaGreatDoorProg
import Derived.Test.YtmjfggadehkbjaaGreatDoorGA
import Derived.Test.YtmjfggadehkbjaaGreatDoorGB
import Derived.Test.YtmjfggadehkbjaaGreatDoorGC
import Derived.Test.YtmjfggadehkbjaaGreatDoorGD
import Derived.Test.YtmjfggadehkbjaaGreatDoorRow36
import Derived.Test.YtmjfggadehkbjaaGreatDoorGF
import Derived.Test.YtmjfggadehkbjaaGreatDoorXA
import Derived.Test.YtmjfggadehkbjaaGreatDoorXD
import Derived.Test.YtmjfggadehkbjaaGreatDoorXE
import Derived.Test.YtmjfggadehkbjaaGreatDoorXK
import Derived.Test.YtmjfggadehkbjaaGreatDoorAD
import Derived.Test.YtmjfggadehkbjaaGreatDoorAE
import Derived.Maps.AppendAt
namespace Go.Proofs.YtmjfggadehkbjaaGreatDoor
open Go.RowKit Go.Maps Stb
def ixOf (L:List (List UInt8)) (s:List UInt8):Option Nat:=L.findIdx? (·==s)
theorem ixOf_snoc (L:List (List UInt8)) (x s:List UInt8):ixOf (L++[x]) s=(ixOf L s).or (if x=s then some L.length else none):=by
 unfold ixOf
 rw [List.findIdx?_append]
 congr 1
 by_cases h:x=s
 ·subst h;simp
 ·simp [h]
def IdxAt (w:World) (b n:Nat) (L:List (List UInt8)):Prop :=
 ∃ D:DataW Unit,w.ownsMap Tryz.prog 9 (plainElem Tryz.prog 3) b n D∧IsMap D∧(∀ s,Maps.has D (.string s)=(ixOf L s).isSome)∧∀ s i,ixOf L s=some i→D.atKey (.string s) (.lit (.int .i64 0))=.lit (.int .i64 (i:Int))
theorem IdxAt.made (w:World):IdxAt (w.alloc (.map #[] 0)) w.heap.size 0 [] :=
 ⟨.map [],World.ownsMap_made _ _ _ _,isMap_empty,fun s=>rfl,fun s i h=>by cases h⟩
theorem IdxAt.lt {w:World} {b n:Nat} {L:List (List UInt8)} (h:IdxAt w b n L):b<w.heap.size:=by
 obtain ⟨D,h1,_⟩:=h
 exact h1.lt
theorem IdxAt.mono {w:World} {b n n':Nat} {L:List (List UInt8)} (h:IdxAt w b n L) (hn:n≤n'):IdxAt w b n' L:=by
 obtain ⟨D,h1,r⟩:=h
 exact ⟨D,h1.mono hn,r⟩
theorem IdxAt.block {w w':World} {b n:Nat} {L:List (List UInt8)} (h:IdxAt w b n L) (hb:w'.heap[b]?=w.heap[b]?):IdxAt w' b n L:=by
 obtain ⟨D,⟨es,clock,hh,r⟩,h2⟩:=h
 exact ⟨D,⟨es,clock,hb.trans hh,r⟩,h2⟩
theorem IdxAt.below {w w':World} {b n B:Nat} {L:List (List UInt8)} (h:IdxAt w b n L) (hb:Below B w w') (hlt:b<B):IdxAt w' b n L:=h.block (hb.block b hlt)
theorem IdxAt.later {w w':World} {b n:Nat} {L:List (List UInt8)} (h:IdxAt w b n L) (hb:Below w.heap.size w w'):IdxAt w' b n L:=h.below hb h.lt
theorem zeroInt (w:World):(zeroValue 3).run Tryz.prog w=.ok (.int .i64 0) w:=Tryz.zeroValue3 w
theorem wpList_look_idx {w:World} {ops:Array Oper} {rest:List Oper} {o:Oper} {a:Act} {Q:Exit→Act→World→Prop} (hg:o.guard=none) (m x:Operand) (t:TypeId) (hop:o.op=Op.lookup t m x true)
 (ht:Tryz.prog.underlying t=some (.map 9 3)) {b n:Nat} {L:List (List UInt8)}
 (hm:a.eval m=.map (some b)) (h:IdxAt w b n L) (s:ByteArray) (hx:a.eval x=.string s) (hs:s.size≤maxLen) (ok:Bool) (hok:(ixOf L s.data.toList).isSome=ok)
 (hk:∀ c:Int,(∀ i:Nat,ixOf L s.data.toList=some i→c=i)→wpList Tryz.prog ops Q rest (a.put o.dst (.tuple #[.int .i64 c,.bool ok])) w):wpList Tryz.prog ops Q (o::rest) a w:=by
 obtain ⟨D,h1,h2,h3,h4⟩:=h
 refine wpList_lookup_own_ok_int w hg m x t hop 9 3 .i64 (string_keyed Tryz.underlying9) ht Tryz.underlying3 (zeroInt w) b n D hm h1 _ (.string s.data.toList) hx (keyOf_str Tryz.underlying9 hs) (fun c hat hwc=>?_)
 rw [h3,hok]
 refine hk c (fun i hi=>?_)
 rw [h4 _ i hi] at hat
 simpa using hat.symm
theorem wpList_put_idx {w:World} {ops:Array Oper} {rest:List Oper} {o:Oper} {a:Act} {Q:Exit→Act→World→Prop} (hg:o.guard=none) (m x v:Operand) (t:TypeId) (hop:o.op=Op.mapUpdate t m x v)
 (ht:Tryz.prog.underlying t=some (.map 9 3)) {b n:Nat} {L:List (List UInt8)}
 (hm:a.eval m=.map (some b)) (h:IdxAt w b n L) (hn:n<maxLen) (s:ByteArray) (hx:a.eval x=.string s) (hno:(ixOf L s.data.toList).isSome=false) (hL:L.length≤4294967296) (hv:a.eval v=.int .i64 (L.length:Int)) (hs:s.size≤maxLen)
 (hk:∀ w',IdxAt w' b (n+1) (L++[s.data.toList])→w.grownBy w' (some b)→wpList Tryz.prog ops Q rest (a.put o.dst undef) w'):wpList Tryz.prog ops Q (o::rest) a w:=by
 obtain ⟨D,h1,h2,h3,h4⟩:=h
 have hno':ixOf L s.data.toList=none:=by simpa using hno
 have hwf:(Lit.int .i64 (L.length:Int)).wf=true:=by
  simp only [Lit.wf,Bool.and_eq_true,decide_eq_true_eq]
  constructor
  ·exact Int.le_trans (by decide:IntKind.i64.min≤0) (by omega)
  ·exact Int.le_trans (show (L.length:Int)≤4294967296 by omega) (by decide)
 refine wpList_mapUpdate_own w hg m x v t hop 9 3 (string_keyed Tryz.underlying9) ht _ b n D hm h1 hn _ _ (.string s.data.toList) hx hv (keyOf_str Tryz.underlying9 hs) _ [] (plainElem_int Tryz.underlying3 hwf) (fun w' r1 r2=>hk w' ⟨_,r1,h2.put _ _,fun q=>?_,fun q i hi=>?_⟩ r2)
 ·rw [ixOf_snoc]
  by_cases hq:q=s.data.toList
  ·subst hq
   rw [has_put_same h2 (isKeyLit_string _),hno']
   simp
  ·rw [has_put_other (by simpa using hq),h3,if_neg (fun e=>hq e.symm)]
   simp
 ·rw [ixOf_snoc] at hi
  by_cases hq:q=s.data.toList
  ·subst hq
   rw [hno'] at hi
   simp at hi
   rw [atKey_put_same h2 (isKeyLit_string _),hi]
  ·rw [if_neg (fun e=>hq e.symm)] at hi
   rw [atKey_put_other (by simpa using hq)]
   exact h4 q i (by simpa using hi)
def keysL (l:List (ByteArray×ValD)):List (List UInt8):=l.map (·.1.data.toList)
theorem plcN_ix (l:List (ByteArray×ValD)) (s:ByteArray):plcN l s=ixOf (keysL l) s.data.toList:=by
 unfold plcN ixOf keysL
 rw [List.findIdx?_map]
 congr 1
 funext g
 show (g.1.toList==s.toList)=(g.1.data.toList==s.data.toList)
 rw [ByteArray.toList_eq,ByteArray.toList_eq]
theorem ixOf_none {L:List (List UInt8)} {s:List UInt8} (h:s ∉ L):ixOf L s=none:=by
 unfold ixOf
 rw [List.findIdx?_eq_none_iff]
 intro x hx
 simp only [beq_eq_false_iff_ne,ne_eq]
 exact fun e=>h (e ▸ hx)
theorem ixOf_app {L E:List (List UInt8)} {s:List UInt8} (h:s ∉ E):ixOf (L++E) s=ixOf L s:=by
 have h2:=ixOf_none h
 unfold ixOf at h2 ⊢
 rw [List.findIdx?_append,h2]
 simp
theorem keysL_put (l:List (ByteArray×ValD)) (f:ByteArray×ValD):keysL (putF l f)=keysL l∨keysL (putF l f)=keysL l++[f.1.data.toList]:=by
 cases h:plcN l f.1 with
 | none=>rw [putF_none h];right;simp [keysL]
 | some i =>
   obtain ⟨hi,h2⟩:=putF_some h
   left
   rw [h2]
   unfold keysL
   apply List.ext_getElem (by simp)
   intro q h3 h4
   simp only [List.getElem_map]
   by_cases c:q=i
   ·subst c;simp
   ·rw [List.getElem_set_ne (fun e=>c e.symm)]
def KeysE (l m M:List (ByteArray×ValD)) (i:Nat):Prop:=∃ E,keysL M=keysL l++E∧∀ x∈E,x∈keysL (m.take i)
theorem KeysE.start (l m:List (ByteArray×ValD)):KeysE l m l 0:=⟨[],by simp,fun x hx=>by cases hx⟩
theorem KeysE.next {l m M:List (ByteArray×ValD)} {i:Nat} (h:KeysE l m M i) (hi:i<m.length):KeysE l m (putF M m[i]) (i+1):=by
 obtain ⟨E,h1,h2⟩:=h
 have h3:keysL (m.take (i+1))=keysL (m.take i)++[m[i].1.data.toList]:=by unfold keysL;rw [List.take_succ_eq_append_getElem hi,List.map_append];rfl
 rcases keysL_put M m[i] with h4 | h4
 ·exact ⟨E,by rw [h4,h1],fun x hx=>by rw [h3];exact List.mem_append_left _ (h2 x hx)⟩
 ·refine ⟨E++[m[i].1.data.toList],by rw [h4,h1,List.append_assoc],fun x hx=>?_⟩
  rw [h3]
  rcases List.mem_append.1 hx with hx | hx
  ·exact List.mem_append_left _ (h2 x hx)
  ·exact List.mem_append_right _ hx
theorem keysL_new {m:List (ByteArray×ValD)} {i:Nat} (hd:(keysL m).Nodup) (hi:i<m.length):m[i].1.data.toList ∉ keysL (m.take i):=by
 intro h
 have e:keysL m=keysL (m.take i)++m[i].1.data.toList::keysL (m.drop (i+1)):=by
  unfold keysL
  rw [← List.map_cons (f:=fun x:ByteArray×ValD=>x.1.data.toList),← List.map_append,← List.drop_eq_getElem_cons hi,List.take_append_drop]
 rw [e,List.nodup_append] at hd
 exact hd.2.2 _ h _ (List.mem_cons_self ..) rfl
theorem KeysE.ix {l m M:List (ByteArray×ValD)} {i:Nat} (h:KeysE l m M i) (hd:(keysL m).Nodup) (hi:i<m.length):plcN M m[i].1=ixOf (keysL l) m[i].1.data.toList:=by
 obtain ⟨E,h1,h2⟩:=h
 rw [plcN_ix,h1]
 exact ixOf_app fun hx=>keysL_new hd hi (h2 _ hx)
theorem putF_mem {l:List (ByteArray×ValD)} {f x:ByteArray×ValD} (h:x∈putF l f):x.2=f.2∨∃ y∈l,y.2=x.2:=by
 cases hp:plcN l f.1 with
 | none =>
   rw [putF_none hp] at h
   rcases List.mem_append.1 h with h | h
   ·exact .inr ⟨x,h,rfl⟩
   ·left;rw [List.mem_singleton.1 h]
 | some i =>
   obtain ⟨hi,h2⟩:=putF_some hp
   rw [h2] at h
   rcases List.mem_or_eq_of_mem_set h with h | h
   ·exact .inr ⟨x,h,rfl⟩
   ·left;rw [h]
theorem mergeF_fits {n:Nat}:∀ {m l:List (ByteArray×ValD)},(∀ x∈l,fitsV n x.2)→(∀ x∈m,fitsV n x.2)→∀ x∈mergeF l m,fitsV n x.2
 | [],l,h1,_,x,hx=>h1 x hx
 | f::r,l,h1,h2,x,hx=>by
   refine mergeF_fits (m:=r) (l:=putF l f) (fun y hy=>?_) (fun y hy=>h2 y (List.mem_cons_of_mem _ hy)) x hx
   rcases putF_mem hy with h | ⟨z,hz,h⟩
   ·rw [h];exact h2 f (List.mem_cons_self ..)
   ·rw [← h];exact h1 z hz
def ClnO (B N:Nat) (l:List (ByteArray×ValD)) (w0 w:World) (e:Ending) (w':World):Prop:=∃ v f,e=.returned v∧w'.ownsRow w.heap.size 77 14 v l.length (flatR l.length f)∧FldQ w0 B N l f∧Below w.heap.size w w'
set_option maxRecDepth 100000 in
theorem clonef_own (l:List (ByteArray×ValD)) (la:Option Addr) (lc B N:Nat) (w0 w:World) (hl:l.length≤4294967296) (hB:B≤w0.heap.size) (hw:Below w0.heap.size w0 w) (h:FieldsAt w0 B N l la) :
 Calls Tryz.prog 109 #[.slice la l.length lc] w (ClnO B N l w0 w):=by
 obtain ⟨f,hf,hsrc⟩:=(RowsB.of (H:=0) h hB).src
 have HF:=Hd hf
 have HS:=Hd hsrc
 have HW:=Hd hw
 have hnil:la=none→l=[]:=fun e=>by
  subst e
  by_cases hn:l=[]
  ·exact hn
  ·obtain ⟨b,o,h1,_⟩:=h.get hn
   cases h1
 have q26:∀ (w:World) (a:Option Addr) (n c n' c':Nat),(binOp .eql 28 (.slice a n c) (.slice none n' c')).run Tryz.prog w=.ok (.bool a.isNone) w:=fun w a n c n' c'=>Lib.run_eql_slice_nil w _ _ a n c n' c' Tryz.underlying28
 clear h hf hsrc hw
 cases la with
 | none =>
   obtain rfl:=hnil rfl
   clear hnil
   go_enter Tryz.func109,Tryz.ntmps109
   go_wp2_with fail
   go_ret
   exact ⟨.slice none 0 0,f,rfl,World.ownsRow_nil _ _ _ _,HF.out,Below.refl _ _⟩
 | some ad =>
   have HO:=Hd (World.ownsRow_made w (e:=77) (size:=14) #[] 0 (Nat.le_refl _) (Nat.zero_le _) rfl)
   clear hnil
   go_enter Tryz.func109,Tryz.ntmps109
   go_wp2_with (at_builtin;refine wpList_appF rfl _ _ rfl w.heap.size _ 0 [] rfl HO.out l.length (some ad) lc _ rfl (HS.out _ (belowThen HW.out (belowBox w _))) (by omega) hl (by rw [World.size_alloc];omega) ?_)
   intro v' w1 hown hgrow
   have HB:=Hd (show Below w.heap.size w w1 from (belowBox w _).grown hgrow (by rw [World.size_alloc];omega) (by intro k hk;simp [Value.ownBlock] at hk;omega))
   have HOWN:=Hd (show w1.ownsRow w.heap.size 77 14 v' l.length (flatR l.length f) by simpa using hown)
   clear hown hgrow
   go_wp2_with fail
   go_ret
   exact ⟨v',f,rfl,HOWN.out,HF.out,HB.out⟩
def mapV (v:Value):List Value:=[.int .i64 7,.bool false,.bool false,.string ⟨#[]⟩,.int .i64 0,.int .i64 0,.int .i64 0,.int .i64 0,.int .i64 0,.string ⟨#[]⟩,.slice none 0 0,.slice none 0 0,v]
structure MrgS (w W:World) (N:Nat) (cs ds zs:List Value) (p mb:Nat) (KL:List (List UInt8)) (M:List (ByteArray×ValD)) (f:Nat→List Value) (v:Value):Prop where
 tv:Tval w W cs ds zs
 row:RowT 30 W p (mapV v)
 own:W.ownsRow (w.heap.size+3) 77 14 v M.length (flatR M.length f)
 idx:IdxAt W mb KL.length KL
 hp:w.heap.size+3≤p
 hm:w.heap.size+3≤mb
 hpm:p≠mb
 ap:∀ q,v.ownBlock=some q→q≠p∧q≠mb
theorem Tval.low {w W W':World} {cs ds zs:List Value} (h:Tval w W cs ds zs) (hb:Below (w.heap.size+3) W W'):Tval w W' cs ds zs :=
 ⟨h.below.trans (hb.mono (by omega)),h.one.below hb (by omega),h.two.below hb (by omega),h.res.below hb (by omega)⟩
theorem own_blk {w w':World} {base:Nat} {e:TypeId} {size:Nat} {v:Value} {n:Nat} {xs:List Value} (h:w.ownsRow base e size v n xs) (hs:∀ q,v.ownBlock=some q→w'.heap[q]?=w.heap[q]?):w'.ownsRow base e size v n xs:=by
 obtain ⟨h1,h2⟩:=h
 refine ⟨h1,?_⟩
 rcases h2 with h2 | ⟨g,cap,cur,hv,hg,hh,r⟩
 ·exact Or.inl h2
 ·exact Or.inr ⟨g,cap,cur,hv,hg,by rw [hs g (by rw [hv];rfl)];exact hh,r⟩
section
variable {w W W':World} {N:Nat} {cs ds zs:List Value} {p mb:Nat} {KL:List (List UInt8)} {M:List (ByteArray×ValD)} {f:Nat→List Value} {v:Value}
theorem MrgS.later (h:MrgS w W N cs ds zs p mb KL M f v) (hb:Below W.heap.size W W'):MrgS w W' N cs ds zs p mb KL M f v :=
 ⟨h.tv.later hb,h.row.then hb,own_same h.own (fun q _ hq=>hb.block q hq),h.idx.later hb,h.hp,h.hm,h.hpm,h.ap⟩
theorem MrgS.size (h:MrgS w W N cs ds zs p mb KL M f v):p<W.heap.size∧mb<W.heap.size:=⟨h.row.lt,h.idx.lt⟩
theorem grownLow {W W':World} {mb B:Nat} (hg:W.grownBy W' (some mb)) (hB:B≤W.heap.size) (hm:B≤mb):Below B W W':=(Below.refl _ _).grown hg hB (fun q hq=>by cases hq;exact hm)
theorem fldQ_low {B B':Nat} (h:FldQ W B N M f) (hb:Below B' W W') (hB:B≤B'):FldQ W' B N M f:=fun q hq=>by
 obtain ⟨ds,c1,c2,c3⟩:=h q hq
 exact ⟨ds,c1,c2,c3.below (hb.mono hB)⟩
theorem MrgS.mapPut {K':List (List UInt8)} (h:MrgS w W N cs ds zs p mb KL M f v) (hg:W.grownBy W' (some mb)) (hi:IdxAt W' mb K'.length K'):MrgS w W' N cs ds zs p mb K' M f v:=by
 have hb:=grownLow (B:=w.heap.size+3) hg h.tv.size h.hm
 exact ⟨h.tv.low hb,(hg.block p h.row.lt (fun e=>by cases e;exact h.hpm rfl)).trans h.row,own_blk h.own (fun q hq=>hg.block q (h.own.lt q hq).2 (fun e=>by cases e;exact (h.ap mb hq).2 rfl)),hi,h.hp,h.hm,h.hpm,h.ap⟩
theorem MrgS.put {M':List (ByteArray×ValD)} {f':Nat→List Value} {g n cap:Nat} {new:Array Value} (h:MrgS w W N cs ds zs p mb KL M f (.slice (some ⟨g,0,none⟩) n cap)) (ho:(W.setRow g new).ownsRow (w.heap.size+3) 77 14 (.slice (some ⟨g,0,none⟩) n cap) M'.length (flatR M'.length f'))
 (hg:w.heap.size+3≤g):MrgS w (W.setRow g new) N cs ds zs p mb KL M' f' (.slice (some ⟨g,0,none⟩) n cap):=by
 have hb:Below (w.heap.size+3) W (W.setRow g new):=below_setRow (Below.refl _ _) hg _
 have ha:=h.ap g rfl
 exact ⟨h.tv.low hb,h.row.setRowOther (fun e=>ha.1 e.symm) _,ho,h.idx.block (setRow_other _ _ _ _ (fun e=>ha.2 e.symm)),h.hp,h.hm,h.hpm,h.ap⟩
theorem MrgS.slice {M':List (ByteArray×ValD)} {f':Nat→List Value} {v':Value} (h:MrgS w W N cs ds zs p mb KL M f v) (ho:W'.ownsRow (w.heap.size+3) 77 14 v' M'.length (flatR M'.length f')) (hg:W.grownBy W' v.ownBlock)
 (hap:v'.ownBlock=v.ownBlock∨v'.ownBlock=some W.heap.size):MrgS w (W'.setCell ⟨p,12,none⟩ v') N cs ds zs p mb KL M' f' v':=by
 have hb1:Below (w.heap.size+3) W W':=(Below.refl _ _).grown hg h.tv.size (fun q hq=>(h.own.lt q hq).1)
 have hr:RowT 30 W' p (mapV v):=(hg.block p h.row.lt (fun e=>(h.ap p e.symm).1 rfl)).trans h.row
 have hb2:Below (w.heap.size+3) W' (W'.setCell ⟨p,12,none⟩ v'):=below_set (Below.refl _ _) h.hp _
 have hi:IdxAt W' mb KL.length KL:=h.idx.block (hg.block mb h.idx.lt (fun e=>(h.ap mb e.symm).2 rfl))
 have ha:∀ q,v'.ownBlock=some q→q≠p∧q≠mb:=fun q hq=>by
  rcases hap with e | e
  ·exact h.ap q (by rw [← e];exact hq)
  ·have:=h.size
   rw [hq] at e
   cases e
   omega
 exact ⟨(h.tv.low hb1).low hb2,hr.set 12 v',own_blk ho (fun q hq=>heap_setCell_other _ _ _ _ (ha q hq).1),hi.block (heap_setCell_other _ _ _ _ (fun e=>h.hpm e.symm)),h.hp,h.hm,h.hpm,ha⟩
end
end Go.Proofs.YtmjfggadehkbjaaGreatDoor

/- The program's merge of the fields of two maps (builtin.merge). -/
namespace Go.Proofs.YtmjfggadehkbjaaGreatDoor
open Go.RowKit Go.Maps Stb
theorem mapV_one (a:Option Addr) (n c:Nat):∀ u∈mapV (.slice a n c),u.oneCell'=true:=fun v hv=>by
 simp [mapV] at hv
 rcases hv with rfl | rfl | rfl | rfl | rfl | rfl | rfl | rfl<;>rfl
theorem MrgS.start {w w1:World} {N:Nat} {cs ds zs:List Value} {l:List (ByteArray×ValD)} {f:Nat→List Value} {v:Value} (hT:Tval w w1 cs ds zs) (hown:w1.ownsRow (w.heap.size+3) 77 14 v l.length (flatR l.length f)) :
 MrgS w ((w1.alloc (.cells (mapV v).toArray 30)).alloc (.map #[] 0)) N cs ds zs w1.heap.size (w1.heap.size+1) (keysL (l.take 0)) l f v:=by
 refine ⟨(hT.later (belowBox w1 _)).later (belowBox _ _),(RowT.new w1 30 (mapV v)).alloc _,(hown.alloc _).alloc _,?_,hT.size,by have:=hT.size;omega,by omega,fun q hq=>?_⟩
 ·have h:=IdxAt.made (w1.alloc (.cells (mapV v).toArray 30))
  rw [World.size_alloc] at h
  exact h
 ·have:=(hown.lt q hq).2
  omega
theorem MrgS.rows {w W:World} {B N p mb:Nat} {cs ds zs:List Value} {KL:List (List UInt8)} {M:List (ByteArray×ValD)} {f:Nat→List Value} {ad:Option Addr} {cp:Nat} (h:MrgS w W N cs ds zs p mb KL M f (.slice ad M.length cp)) (hf:FldQ w B N M f) (hB:B≤w.heap.size) {k:Nat} (hk:k<M.length) :
 ∃ g,ad=some ⟨g,0,none⟩∧w.heap.size+3≤g∧W.rangeAt g (k * 14) (f k):=by
 rcases h.own.2 with ⟨e,h0⟩ | ⟨g,cap,cur,e,h5,h6,h7,h8,h9,h10⟩
 ·omega
 ·cases e
  have hR:RowT 77 W g (flatR M.length f++cur.toList.drop (M.length * 14)):=by
   unfold RowT
   rw [h6,← h10,List.take_append_drop]
  exact ⟨g,rfl,h5,((fldQ_low hf (h.tv.below) hB).rows hR).range hk⟩
theorem MrgS.fieldsAt {w W:World} {B N p mb:Nat} {cs ds zs:List Value} {KL:List (List UInt8)} {M:List (ByteArray×ValD)} {f:Nat→List Value} {ad:Option Addr} {cp:Nat} (h:MrgS w W N cs ds zs p mb KL M f (.slice ad M.length cp)) (hf:FldQ w B N M f) (hB:B≤w.heap.size):FieldsAt W W.heap.size N M ad:=by
 obtain ⟨a,c,e,h2⟩:=RowsB.own (H:=w.heap.size+3) h.own rfl rfl (fldQ_low hf h.tv.below hB) (Nat.le_refl _)
 cases e
 exact h2.fields (Nat.le_trans hB h.tv.below.size)
theorem keysL_take_len {l:List (ByteArray×ValD)} {k:Nat} (h:k≤l.length):(keysL (l.take k)).length=k:=by unfold keysL;rw [List.length_map,List.length_take];omega
theorem keysL_take_s {l:List (ByteArray×ValD)} {k:Nat} (h:k<l.length):keysL (l.take (k+1))=keysL (l.take k)++[l[k].1.data.toList]:=by unfold keysL;rw [List.take_succ_eq_append_getElem h,List.map_append];rfl
set_option maxRecDepth 100000 in
set_option maxHeartbeats 6400000 in
theorem merge_p (a b:ValD) (w:World) (B N:Nat) (cs ds:List Value) (hN:N≤4294967296) (hB:B≤w.heap.size) (fa:fitsV 60 a) (fb:fitsV 60 b) (da:(keysL a.fields).Nodup) (db:(keysL b.fields).Nodup) (hf:a.fields.length+b.fields.length≤N) (hv:ValD.At w B N a cs) (hu:ValD.At w B N b ds) :
 Calls Tryz.prog 57 #[.agg cs.toArray,.agg ds.toArray] w (ResR B N (resD (mapD (mergeF a.fields b.fields))) w):=by
 obtain ⟨ya,la,va,yc,lc,vc,hh⟩:=hv.has
 obtain ⟨yb,lb,vb,yd,ld,vd,hg⟩:=hu.has
 have HFIT:=Hd (show fitsV 60 (mapD (mergeF a.fields b.fields)) from ⟨fun x hx=>(by cases hx),mergeF_fits fa.2 fb.2⟩)
 obtain ⟨l,hle⟩:∃ l,l=a.fields:=⟨_,rfl⟩
 obtain ⟨m,hme⟩:∃ m,m=b.fields:=⟨_,rfl⟩
 have HFA:=Hd (show FieldsAt w B N l va by rw [hle];exact hh.atFields)
 have HFB:=Hd (show FieldsAt w B N m vb by rw [hme];exact hg.atFields)
 have HLC:=Hd (show cs[12]?=some (.slice va l.length vc) by rw [hle];exact hh.fields)
 have HMC:=Hd (show ds[12]?=some (.slice vb m.length vd) by rw [hme];exact hg.fields)
 rw [← hle,← hme] at hf HFIT
 rw [← hle] at da
 rw [← hme] at db
 rw [← hle,← hme]
 have HDA:=Hd da
 have HDB:=Hd db
 have hT:=Hd (tval w cs ds [.int .i64 0,.bool false,.bool false,.string ⟨#[]⟩,.int .i64 0,.int .i64 0,.int .i64 0,.int .i64 0,.int .i64 0,.string ⟨#[]⟩,.slice none 0 0,.slice none 0 0,.slice none 0 0])
 have efields:=hT.out.one.cell HLC.out
 clear hh hg fa fb da db hle hme hv hu
 go_enter Tryz.func57,Tryz.ntmps57
 go_wp2_with fail
 refine (clonef_own l va vc B N w _ (by omega) hB hT.out.below (HFA.out)).mono ?_
 rintro e w1 ⟨v1,f,rfl,hown,hfl,hb⟩
 have hT1:=Hd (hT.out.later hb)
 have hown2:w1.ownsRow (w.heap.size+3) 77 14 v1 l.length (flatR l.length f):=by
  rw [World.size_alloc,World.size_alloc,World.size_alloc] at hown
  exact hown
 obtain ⟨ad,cp,rfl⟩:=own_slice hown2
 have HF:=Hd hfl
 have HM:=Hd (MrgS.start (N:=N) hT1.out hown2)
 have p12:=HM.out.row.cell (j:=12) rfl
 have hs2:=Hd (show (Tryz.prog.info? 30).map (·.size)=some (mapV (.slice ad l.length cp)).toArray.size from sizeV)
 have h13:=Hd (show 13=(mapV (.slice ad l.length cp)).toArray.size from rfl)
 have hone:=Hd (Go.all_oneCell_toArray (mapV_one ad l.length cp))
 have hmm:=@run_makeMap Tryz.prog
 clear hown hown2 hfl hb hT hT1 efields
 go_wp2_with ((with_reducible show wpList _ _ _ (⟨none,.store 30 (.tmp 6) (.tmp 17),_,_,_,_⟩::_) _ _);refine wpList_store_new rfl 30 _ _ rfl _ (mapV (.slice ad l.length cp)).toArray rfl rfl hs2.out h13.out hone.out ?_)
 clear p12 hs2 h13 hone hmm
 go_simp
 go_loopw [22] (fun x wr=>∃ k:Nat,k≤l.length∧x=.int .i64 k∧MrgS w wr N cs ds [.int .i64 0,.bool false,.bool false,.string ⟨#[]⟩,.int .i64 0,.int .i64 0,.int .i64 0,.int .i64 0,.int .i64 0,.string ⟨#[]⟩,.slice none 0 0,.slice none 0 0,.slice none 0 0] w1.heap.size (w1.heap.size+1) (keysL (l.take k)) l f (.slice ad l.length cp)) (fun x _=>l.length-(intOf x).toNat)
 case atStart=>exact ⟨0,Nat.zero_le _,rfl,HM.out⟩
 case round =>
  clear HM
  obtain ⟨wa,hwa⟩:∃ wa,wa=wr:=⟨_,rfl⟩
  subst wr
  obtain ⟨k,hk,rfl,hm⟩:=hrel
  have HM:=Hd hm
  clear hm
  by_cases hlt:k<l.length
  case pos =>
   obtain ⟨g,rfl,_,hrange⟩:=HM.out.rows HF.out hB hlt
   obtain ⟨xs,hxs,hxk,hxv⟩:=HF.out k hlt
   obtain ⟨x,hx⟩:∃ x,x=f k:=⟨_,rfl⟩
   obtain ⟨key,hkey⟩:∃ key,key=l[k].1:=⟨_,rfl⟩
   rw [← hx,← hkey] at hxs
   rw [← hx] at hrange
   have XR:=Hd hrange
   have X14:=Hd (show x.length=14 by rw [hx];exact HF.out.len k hlt)
   have hl2:=Hd (show (Tryz.prog.info? 77).map (·.size)=some x.toArray.size by rw [List.size_toArray];exact sizeFLD14 X14.out)
   have h14:=Hd (show 14=x.toArray.size by rw [List.size_toArray,X14.out])
   have hone:=Hd (show x.toArray.all (·.oneCell')=true from Go.all_oneCell_toArray (by rw [hx];exact HF.out.one k hlt))
   have HM1:=Hd (HM.out.later (belowBox wa (.cells x.toArray 77)))
   have e0:=(RowT.new wa 77 x).cell (j:=0) (v:=.string key) (by rw [hxs];rfl)
   have hnz:=Hd (show key.size≤maxLen by rw [hkey];unfold maxLen;omega)
   have hKL:=Hd (keysL_take_len hk)
   have HEX:=Hd (show (ixOf (keysL (l.take k)) key.data.toList).isSome=false by rw [ixOf_none (by rw [hkey];exact keysL_new HDA.out hlt)];rfl)
   have hvk:=Hd (show (Value.int .i64 (k:Int))=.int .i64 ((keysL (l.take k)).length:Int) by rw [hKL.out])
   have HKS:=Hd (show keysL (l.take (k+1))=keysL (l.take k)++[key.data.toList] by rw [hkey];exact keysL_take_s hlt)
   clear hxs hx hxk hxv hrange hkey HM
   go_wp2_with (first
    | ((with_reducible show wpList _ _ _ (⟨some 26,_,_,_,_,_⟩::_) _ _);refine wpList_load_mid rfl 77 _ rfl g (k * 14) (by first | rfl | (simp;rfl) | simp) x _ XR.out Tryz.underlying77 rfl (sizeFLD14 X14.out) ?_)
    | ((with_reducible show wpList _ _ _ (⟨none,.store 77 (.tmp 9) (.tmp 26),_,_,_,_⟩::_) _ _);refine wpList_store_new rfl 77 _ _ rfl _ x.toArray rfl rfl hl2.out h14.out hone.out ?_)
    | (at_mapUpdate;refine wpList_put_idx rfl _ _ _ 115 rfl Tryz.underlying115 rfl HM1.out.idx (by rw [hKL.out];unfold maxLen;omega) key rfl HEX.out (by rw [hKL.out];omega) hvk.out hnz.out ?_))
   intro w3 hset hgrow
   have HM3:=Hd (HM1.out.mapPut (K':=keysL (l.take (k+1))) hgrow (by rw [HKS.out,List.length_append];exact hset))
   clear hset hgrow e0
   go_wp2_with fail
   go_roundw
   case rel=>exact ⟨k+1,by omega,by go_num,HM3.out⟩
   case measure=>simp [intOf];omega
  have hke:k=l.length:=by omega
  have HM2:=Hd (show MrgS w wa N cs ds [.int .i64 0,.bool false,.bool false,.string ⟨#[]⟩,.int .i64 0,.int .i64 0,.int .i64 0,.int .i64 0,.int .i64 0,.string ⟨#[]⟩,.slice none 0 0,.slice none 0 0,.slice none 0 0] w1.heap.size (w1.heap.size+1) (keysL l) l f (.slice ad l.length cp) by have:=HM.out;rwa [hke,List.take_length] at this)
  have ffields:=HM.out.tv.two.cell HMC.out
  clear HM hke
  go_wp2_with fail
  clear ffields
  go_simp
  go_loopw [35] (fun x wr=>∃ (i:Nat) (M:List (ByteArray×ValD)) (f':Nat→List Value) (ad':Option Addr) (cp':Nat),i≤m.length∧x=.int .i64 i∧Hid (M=mergeF l (m.take i))∧Hid (KeysE l m M i)∧Hid (FldQ w B N M f')∧Hid (MrgS w wr N cs ds [.int .i64 0,.bool false,.bool false,.string ⟨#[]⟩,.int .i64 0,.int .i64 0,.int .i64 0,.int .i64 0,.int .i64 0,.string ⟨#[]⟩,.slice none 0 0,.slice none 0 0,.slice none 0 0] w1.heap.size (w1.heap.size+1) (keysL l) M f' (.slice ad' M.length cp'))) (fun x _=>m.length-(intOf x).toNat)
  case atStart=>exact ⟨0,l,f,ad,cp,Nat.zero_le _,rfl,Hd rfl,Hd (KeysE.start l m),HF,HM2⟩
  case round =>
   clear HM2 HF
   obtain ⟨wb,hwb⟩:∃ wb,wb=wr:=⟨_,rfl⟩
   subst wr
   obtain ⟨i,M,f',ad',cp',hi,rfl,HME,HKE,HF,HM⟩:=hrel
   have HML:=Hd (show M.length≤N by rw [HME.out];have:=mergeF_len (m.take i) l;rw [List.length_take] at this;omega)
   by_cases hit:i<m.length
   case neg =>
    have hie:i=m.length:=by omega
    have HQ:=Hd (show mergeF l m=M by rw [HME.out,hie,List.take_length])
    have HFT:=Hd (show fitsV 60 (mapD M) by rw [← HQ.out];exact HFIT.out)
    have HR:=Hd (HM.out.row)
    have HAT:=Hd (show ValD.At wb wb.heap.size N (mapD M) (mapV (.slice ad' M.length cp')) from mapD_at cp' HML.out (HM.out.fieldsAt HF.out hB))
    have hs2:=Hd (show (Tryz.prog.info? 30).map (·.size)=some (mapV (.slice ad' M.length cp')).length from sizeV)
    clear hie
    go_wp2_with ((with_reducible show wpList _ _ _ (⟨some 61,_,_,_,_,_⟩::_) _ _);refine wpList_load_mid rfl 30 _ rfl w1.heap.size 0 rfl (mapV (.slice ad' M.length cp')) _ HR.out.range Tryz.underlying30 rfl hs2.out ?_)
    refine (valid_prog_b 60 (mapD M) _ wb.heap.size B N (mapV (.slice ad' M.length cp')) (by omega) HFT.out hN (Nat.le_refl _) HAT.out).mono ?_
    rintro e wE ⟨xs,rfl,hsol,hb⟩
    obtain ⟨r,hr⟩:∃ r,r=resD (mapD M):=⟨_,rfl⟩
    rw [← hr] at hsol ⊢
    have HQ2:=Hd (show resD (mapD (mergeF l m))=r by rw [HQ.out,hr])
    have hlen:=hsol.here.len
    have AT:=Hd hsol.here
    have S1:=Hd hsol
    have hT0:=Hd HM.out.tv
    have hT1:=Hd (HM.out.tv.later hb)
    clear hsol hb hr
    obtain ⟨rv,rk⟩:=r
    go_wp2_with ((with_reducible show wpList _ _ _ (⟨none,.store 30 (.tmp 4) _,_,_,_,_⟩::_) _ _);refine wpList_store_row rfl 30 _ _ rfl (w.heap.size+1+1) xs.toArray rfl rfl 30 zeroV hT1.out.res (row_size hlen) (row_zero hlen) (row_ones AT.out) ?_)
    refine bodyPost_ret (results_cell_row2 rfl _ _ (w.heap.size+1+1) 30 _ (0,0) _ rfl (hT1.out.put xs).res Tryz.underlying30 rfl (row_size hlen)) rfl ?_
    rw [HQ2.out]
    refine ⟨xs,rfl,fun d hd=>S1.out d ?_,below_setRow hT1.out.below (by omega) _⟩
    exact (Apart.of_setRow0 xs.toArray (by omega) (by have:=hT0.out.size;omega)).after hd (by have:=hT0.out.size;omega)
   obtain ⟨b0,o0,fm,hvb,hb0,hf0,hc0⟩:=HFB.out.rows (l:=m) (by intro h;rw [h] at hit;simp at hit)
   subst hvb
   obtain ⟨xs,hxs,hxk,hxv⟩:=hf0 i hit
   obtain ⟨x,hx⟩:∃ x,x=fm i:=⟨_,rfl⟩
   obtain ⟨key,hkey⟩:∃ key,key=m[i].1:=⟨_,rfl⟩
   rw [← hx,← hkey] at hxs
   have XC:=Hd (show CellsAt wb b0 (o0+i * 14) x by rw [hx];exact (hc0 i hit).below HM.out.tv.below (by omega))
   have X14:=Hd (show x.length=14 by rw [hx];exact hf0.len i hit)
   have X1:=Hd (show ∀ u∈x,u.oneCell'=true by rw [hx];exact hf0.one i hit)
   have HX:=Hd hxs
   have HXK:=Hd (show key.size≤N by rw [hkey];exact hxk)
   have HXV:=Hd hxv
   have hl2:=Hd (show (Tryz.prog.info? 77).map (·.size)=some x.toArray.size by rw [List.size_toArray];exact sizeFLD14 X14.out)
   have h14:=Hd (show 14=x.toArray.size by rw [List.size_toArray,X14.out])
   have hone:=Hd (show x.toArray.all (·.oneCell')=true from Go.all_oneCell_toArray X1.out)
   have HM1:=Hd (HM.out.later (belowBox wb (.cells x.toArray 77)))
   have XB:=Hd (RowT.new wb 77 x)
   have e0:=XB.out.cell (j:=0) (v:=.string key) (by rw [hxs];rfl)
   have p12:=HM1.out.row.cell (j:=12) rfl
   have hnz:=Hd (show key.size≤maxLen by have:=HXK.out;unfold maxLen;omega)
   have HST:=Hd (show mergeF l (m.take (i+1))=putF M m[i] by rw [mergeF_take hit,← HME.out])
   have HKN:=Hd (HKE.out.next hit)
   have HIX:=Hd (show plcN M m[i].1=ixOf (keysL l) key.data.toList by rw [hkey];exact HKE.out.ix HDB.out hit)
   have HKY:=Hd hkey
   clear hxs hx hxk hxv hkey hf0 hc0 HKE
   cases hp:ixOf (keysL l) key.data.toList with
   | some c =>
     obtain ⟨hc,hput⟩:=putF_some (f:=m[i]) (HIX.out.trans hp)
     obtain ⟨g,hadg,hg3,_⟩:=HM.out.rows HF.out hB hc
     subst hadg
     obtain ⟨ds0,hds,_,_⟩:=HF.out c hc
     have hl3:(putF M m[i]).length=M.length:=by rw [hput];simp
     obtain ⟨_,old,new,hR,hnew,hfit,hown2⟩:=own_upd HM1.out.own HF.out.len hc hds HXV.out.len
     have HR:=Hd hR
     have HN:=Hd hnew
     have HFI:=Hd hfit
     have HM4:=Hd (show MrgS w ((wb.alloc (.cells x.toArray 77)).setRow g new.toArray) N cs ds [.int .i64 0,.bool false,.bool false,.string ⟨#[]⟩,.int .i64 0,.int .i64 0,.int .i64 0,.int .i64 0,.int .i64 0,.string ⟨#[]⟩,.slice none 0 0,.slice none 0 0,.slice none 0 0] w1.heap.size (w1.heap.size+1) (keysL l) (putF M m[i]) _ (.slice (some ⟨g,0,none⟩) (putF M m[i]).length cp') from by
      rw [hl3]
      exact HM1.out.put (M':=putF M m[i]) (by rw [hl3];exact hown2) hg3)
     have HF4:=Hd (show FldQ w B N (putF M m[i]) (upd f' c (.string M[c].1::xs)) by rw [hput];exact fldQ_upd HF.out hc HXV.out)
     have HP:=Hd hp
     have HEX:=Hd (show (ixOf (keysL l) key.data.toList).isSome=true by rw [hp];rfl)
     have hcs:=Hd (show (Tryz.prog.info? 30).map (·.size)=some xs.length by rw [HXV.out.len];exact sizeV)
     have V0:=Hd (show (wb.alloc (.cells x.toArray 77)).rangeAt wb.heap.size 1 xs from fun j u hu=>XB.out.cell (by rw [HX.out,Nat.add_comm];exact hu))
     have V1:=Hd HXV.out.oneCell
     clear hput hds hR hnew hfit hown2 hp hl3 HM
     go_wp2_with (first
      | ((with_reducible show wpList _ _ _ (⟨some 38,_,_,_,_,_⟩::_) _ _);refine wpList_load_mid rfl 77 _ rfl b0 (o0+i * 14) rfl x _ XC.out.range Tryz.underlying77 rfl (sizeFLD14 X14.out) ?_)
      | ((with_reducible show wpList _ _ _ (⟨none,.store 77 (.tmp 11) (.tmp 38),_,_,_,_⟩::_) _ _);refine wpList_store_new rfl 77 _ _ rfl _ x.toArray rfl rfl hl2.out h14.out hone.out ?_)
      | (at_lookup;refine wpList_look_idx rfl _ _ 115 rfl Tryz.underlying115 rfl HM1.out.idx key rfl hnz.out true HEX.out ?_;intro c' hc';obtain rfl:=hc' c HP.out;clear hc')
      | ((with_reducible show wpList _ _ _ (⟨some 51,_,_,_,_,_⟩::_) _ _);refine wpList_load_mid rfl 30 _ rfl wb.heap.size 1 rfl xs _ V0.out Tryz.underlying30 rfl hcs.out ?_)
      | ((with_reducible show wpList _ _ _ (⟨none,.store 30 (.tmp 53) _,_,_,_,_⟩::_) _ _);refine wpList_store_at rfl 30 _ _ rfl g (c * 14+1) xs (by first | rfl | (simp;rfl) | simp) rfl 77 old new HR.out hcs.out HN.out HFI.out V1.out ?_))
     go_roundw
     case rel=>exact ⟨i+1,_,_,_,_,by omega,by go_num,Hd HST.out.symm,HKN,HF4,HM4⟩
     case measure=>simp [intOf];omega
   | none =>
     have HPU:=Hd (putF_none (f:=m[i]) (HIX.out.trans hp))
     have HEX:=Hd (show (ixOf (keysL l) key.data.toList).isSome=false by rw [hp];rfl)
     obtain ⟨z,hzs,hinfo⟩:=infoF
     obtain ⟨i0,hi0,hz0,hz1,hz2⟩:=info_parts hinfo
     have HI:=Hd hi0
     have HZ0:=Hd hz0
     have HZ1:=Hd hz1
     have HZ2:=Hd hz2
     have HZS:=Hd hzs
     have HM2:=Hd (HM1.out.later (belowBox _ (.cells x.toArray 77)))
     have HF5:=Hd (show FldQ w B N (putF M m[i]) (fun j=>if j<M.length then f' j else x) by
      rw [HPU.out,HX.out,show m[i]=(key,m[i].2) by rw [HKY.out]]
      exact fldQ_snoc HF.out HXK.out HXV.out)
     clear hp hi0 hz0 hz1 hz2 hinfo hzs HM
     go_wp2_with (first
      | ((with_reducible show wpList _ _ _ (⟨some 38,_,_,_,_,_⟩::_) _ _);refine wpList_load_mid rfl 77 _ rfl b0 (o0+i * 14) rfl x _ XC.out.range Tryz.underlying77 rfl (sizeFLD14 X14.out) ?_)
      | ((with_reducible show wpList _ _ _ (⟨none,.store 77 (.tmp 11) (.tmp 38),_,_,_,_⟩::_) _ _);refine wpList_store_new rfl 77 _ _ rfl _ x.toArray rfl rfl hl2.out h14.out hone.out ?_)
      | (at_lookup;refine wpList_look_idx rfl _ _ 115 rfl Tryz.underlying115 rfl HM1.out.idx key rfl hnz.out false HEX.out ?_;intro c' hc';clear hc')
      | ((with_reducible show wpList _ _ _ (⟨some 56,_,_,_,_,_⟩::_) _ _);refine wpList_load_mid rfl 77 _ rfl wb.heap.size 0 rfl x _ XB.out.range Tryz.underlying77 rfl (sizeFLD14 X14.out) ?_)
      | ((with_reducible show wpList _ _ _ (⟨some 57,_,_,_,_,_⟩::_) _ _);refine wpList_rowsF rfl [x] x (by simp) 1 _ rfl rfl (by decide) (by decide) (by intro r hr;simp at hr;rw [hr];exact X14.out) (by rw [List.map_toArray];rfl) ?_)
      | (at_builtin;refine wpList_append_own_at _ rfl _ _ 28 rfl (w.heap.size+3) 77 i0 (.agg z) 14 184 Tryz.underlying28 HI.out HZ0.out HZ1.out HZ2.out HZS.out (by decide) _ _ _ rfl HM2.out.own ⟨(wb.alloc (.cells x.toArray 77)).heap.size,0,none⟩ 1 1 x rfl (by rw [X14.out]) (new_cells (wb.alloc (.cells x.toArray 77)) x _) X1.out ?qb4 ?qb5 ?qb6 ?_))
     case qb4=>have:=HML.out;unfold maxLen;omega
     case qb5=>have:=HML.out;omega
     case qb6=>exact HM2.out.tv.size
     intro v' w4 hown4 hgrow4 _ hap4
     have HRP:=Hd (show RowT 30 w4 w1.heap.size (mapV (.slice ad' M.length cp')) from (hgrow4.block _ HM2.out.row.lt (fun e=>(HM2.out.ap _ e.symm).1 rfl)).trans HM2.out.row)
     have q12:=HRP.out.cell (j:=12) rfl
     have z12:=HRP.out.frozen 12
     have hl4:(putF M m[i]).length=M.length+1:=by rw [HPU.out];simp
     obtain ⟨ad2,cp2,rfl⟩:=own_slice hown4
     have HM5:=Hd (HM2.out.slice (M':=putF M m[i]) (f':=fun j=>if j<M.length then f' j else x) (by rw [hl4,← flatR_snoc];exact hown4) hgrow4 (by rw [World.size_alloc,World.size_alloc];exact hap4))
     have HM6:=Hd (show MrgS w (w4.setCell ⟨w1.heap.size,12,none⟩ (.slice ad2 (M.length+1) cp2)) N cs ds [.int .i64 0,.bool false,.bool false,.string ⟨#[]⟩,.int .i64 0,.int .i64 0,.int .i64 0,.int .i64 0,.int .i64 0,.string ⟨#[]⟩,.slice none 0 0,.slice none 0 0,.slice none 0 0] w1.heap.size (w1.heap.size+1) (keysL l) (putF M m[i]) (fun j=>if j<M.length then f' j else x) (.slice ad2 (putF M m[i]).length cp2) by rw [hl4];exact HM5.out)
     clear hown4 hgrow4 hap4 e0 p12 hl4 HM5
     go_wp2_with fail
     go_roundw
     case rel=>exact ⟨i+1,_,_,_,_,by omega,by go_num,Hd HST.out.symm,HKN,HF5,HM6⟩
     case measure=>simp [intOf];omega
end Go.Proofs.YtmjfggadehkbjaaGreatDoor

/- Sums of two values, on both sides. -/
namespace Go.Proofs.YtmjfggadehkbjaaGreatDoor
open Go.RowKit Stb
theorem keysL_of {v:ValD} (h:okC 48 v):(keysL v.fields).Nodup:=by
 have h2:=h.2.2.2.2.1
 unfold keyD at h2
 rw [List.map_map] at h2
 exact h2
theorem kind_range {v:ValD} (h:chkD v=0):0≤v.kind∧v.kind≤7:=(okC_of 48 v 0 h).1
end Go.Proofs.YtmjfggadehkbjaaGreatDoor
