/- The natives (module.native, datakitref38.Native): the same number of arguments on both sides. -/
import Derived.Test.YticpebgjbfanpaaGreatDoorGA
import Derived.Test.YticpebgjbfanpaaGreatDoorNam37
import Derived.Test.YticpebgjbfanpaaGreatDoorFnd39
import Derived.Test.YticpebgjbfanpaaGreatDoorGK
import Derived.BigQuiet
namespace Go.Proofs.YticpebgjbfanpaaGreatDoor
open Go.RowKit
def nat1:List (List UInt8):=[[112,97,116,104],[103,101,116,112,97,116,104],[100,101,108,112,97,116,104,115]]
def nat2:List (List UInt8):=[[115,101,116,112,97,116,104]]
def natE (s:ByteArray):Int:=if nat1.contains s.toList then 1 else if nat2.contains s.toList then 2 else if arB s.toList then arN s.toList else -1
def NatR (s:ByteArray) (w:World) (e:Ending) (w':World):Prop:=∃ (n:Int) (b:Bool),e=.returned (.tuple #[.int .i64 n,.bool b])∧natE s=(if b then n else -1)∧0≤n∧Below w.heap.size w w'
theorem arN_nonneg (l:List UInt8):0≤arN l:=by
 unfold arN
 split
 ·decide
 ·split<;>decide
set_option maxHeartbeats 1600000 in
theorem native_p (s:ByteArray) (w:World) (h:TabAt w):Calls Tryz.prog 55 #[.string s] w (NatR s w):=by
 have HT:=Hd h
 clear h
 cases h1:nat1.contains s.toList
 ·cases h2:nat2.contains s.toList
  ·have HA:=Hd (show natE s=if arB s.toList then arN s.toList else -1 by unfold natE;rw [h1,h2];rfl)
   have p0:=not_mem_beq h1 [112,97,116,104] (by decide)
   have p1:=not_mem_beq h1 [103,101,116,112,97,116,104] (by decide)
   have p2:=not_mem_beq h1 [100,101,108,112,97,116,104,115] (by decide)
   have q0:=not_mem_beq h2 [115,101,116,112,97,116,104] (by decide)
   clear h1 h2
   have HN:=Hd (arN_nonneg s.toList)
   obtain ⟨n,hn⟩:∃ n,arN s.toList=n:=⟨_,rfl⟩
   obtain ⟨b,hb⟩:∃ b,arB s.toList=b:=⟨_,rfl⟩
   have HNN:=Hd hn
   have HBB:=Hd hb
   clear hn hb
   go_enter Tryz.func55,Tryz.ntmps55
   go_wp2_with fail
   refine (arity_prog37 s _ HT.out).mono ?_
   rintro e w' ⟨rfl,hb⟩
   have HB:=Hd hb
   clear hb
   rw [HNN.out,HBB.out]
   go_wp2_with fail
   go_ret2
   exact ⟨n,b,rfl,by rw [HA.out,HNN.out,HBB.out],by rw [← HNN.out];exact HN.out,HB.out⟩
  ·have HA:=Hd (show natE s=2 by unfold natE;rw [h1,h2];rfl)
   have hm:s.toList∈nat2:=by simpa using h2
   have he:s.toList=[115,101,116,112,97,116,104]:=by simpa [nat2] using hm
   clear h1 h2 hm
   go_enter Tryz.func55,Tryz.ntmps55
   go_wp2_with fail
   go_ret2
   exact ⟨2,true,rfl,HA.out,by decide,Below.refl _ _⟩
 ·have HA:=Hd (show natE s=1 by unfold natE;rw [h1];rfl)
  have hm:s.toList∈nat1:=by simpa using h1
  have hm':s.toList=[112,97,116,104]∨s.toList=[103,101,116,112,97,116,104]∨s.toList=[100,101,108,112,97,116,104,115]:=by simpa [nat1] using hm
  clear h1 hm
  rcases hm' with he | he | he
  all_goals
   go_enter Tryz.func55,Tryz.ntmps55
   go_wp2_with fail
   go_ret2
   exact ⟨1,true,rfl,HA.out,by decide,Below.refl _ _⟩
set_option maxHeartbeats 1600000 in
theorem native_r (s:ByteArray) (w:World) (h:TabAt w):Calls Tryz.prog 152 #[.string s] w (NatR s w):=by
 have HT:=Hd h
 clear h
 cases h1:nat1.contains s.toList
 ·cases h2:nat2.contains s.toList
  ·have HA:=Hd (show natE s=if arB s.toList then arN s.toList else -1 by unfold natE;rw [h1,h2];rfl)
   have p0:=not_mem_beq h1 [112,97,116,104] (by decide)
   have p1:=not_mem_beq h1 [103,101,116,112,97,116,104] (by decide)
   have p2:=not_mem_beq h1 [100,101,108,112,97,116,104,115] (by decide)
   have q0:=not_mem_beq h2 [115,101,116,112,97,116,104] (by decide)
   clear h1 h2
   have HN:=Hd (arN_nonneg s.toList)
   obtain ⟨n,hn⟩:∃ n,arN s.toList=n:=⟨_,rfl⟩
   obtain ⟨b,hb⟩:∃ b,arB s.toList=b:=⟨_,rfl⟩
   have HNN:=Hd hn
   have HBB:=Hd hb
   clear hn hb
   go_enter Tryz.func152,Tryz.ntmps152
   go_wp2_with fail
   refine (arity_ref37 s _ HT.out).mono ?_
   rintro e w' ⟨rfl,hb⟩
   have HB:=Hd hb
   clear hb
   rw [HNN.out,HBB.out]
   go_wp2_with fail
   go_ret2
   exact ⟨n,b,rfl,by rw [HA.out,HNN.out,HBB.out],by rw [← HNN.out];exact HN.out,HB.out⟩
  ·have HA:=Hd (show natE s=2 by unfold natE;rw [h1,h2];rfl)
   have hm:s.toList∈nat2:=by simpa using h2
   have he:s.toList=[115,101,116,112,97,116,104]:=by simpa [nat2] using hm
   clear h1 h2 hm
   go_enter Tryz.func152,Tryz.ntmps152
   go_wp2_with fail
   go_ret2
   exact ⟨2,true,rfl,HA.out,by decide,Below.refl _ _⟩
 ·have HA:=Hd (show natE s=1 by unfold natE;rw [h1];rfl)
  have hm:s.toList∈nat1:=by simpa using h1
  have hm':s.toList=[112,97,116,104]∨s.toList=[103,101,116,112,97,116,104]∨s.toList=[100,101,108,112,97,116,104,115]:=by simpa [nat1] using hm
  clear h1 hm
  rcases hm' with he | he | he
  all_goals
   go_enter Tryz.func152,Tryz.ntmps152
   go_wp2_with fail
   go_ret2
   exact ⟨1,true,rfl,HA.out,by decide,Below.refl _ _⟩
end Go.Proofs.YticpebgjbfanpaaGreatDoor

/- A program's functions by their names: module.resolve and its closure, datakitref38.names.resolve. -/
namespace Go.Proofs.YticpebgjbfanpaaGreatDoor
open Go.RowKit Go.Maps
def ixOf (L:List (List UInt8)) (s:List UInt8):Option Nat:=L.findIdx? (·==s)
theorem ixOf_snoc (L:List (List UInt8)) (x s:List UInt8):ixOf (L++[x]) s=(ixOf L s).or (if x=s then some L.length else none):=by
 unfold ixOf
 rw [List.findIdx?_append]
 congr 1
 by_cases h:x=s
 ·subst h;simp
 ·simp [h]
def IdxAt (w:World) (b n:Nat) (L:List (List UInt8)):Prop :=
 ∃ D:DataW Unit,w.ownsMap Tryz.prog 9 (plainElem Tryz.prog 3) b n D∧IsMap D∧(∀ s,Maps.has D (.string s)=(ixOf L s).isSome)∧∀ s i,ixOf L s=some i→D.atKey (.string s) (.lit (.int .i64 0))=.lit (.int .i64 (i:Int))
theorem IdxAt.made (w:World):IdxAt (w.alloc (.map #[] 0)) w.heap.size 0 [] :=
 ⟨.map [],World.ownsMap_made _ _ _ _,isMap_empty,fun s=>rfl,fun s i h=>by cases h⟩
theorem IdxAt.lt {w:World} {b n:Nat} {L:List (List UInt8)} (h:IdxAt w b n L):b<w.heap.size:=by
 obtain ⟨D,h1,_⟩:=h
 exact h1.lt
theorem IdxAt.mono {w:World} {b n n':Nat} {L:List (List UInt8)} (h:IdxAt w b n L) (hn:n≤n'):IdxAt w b n' L:=by
 obtain ⟨D,h1,r⟩:=h
 exact ⟨D,h1.mono hn,r⟩
theorem IdxAt.block {w w':World} {b n:Nat} {L:List (List UInt8)} (h:IdxAt w b n L) (hb:w'.heap[b]?=w.heap[b]?):IdxAt w' b n L:=by
 obtain ⟨D,⟨es,clock,hh,r⟩,h2⟩:=h
 exact ⟨D,⟨es,clock,hb.trans hh,r⟩,h2⟩
theorem IdxAt.below {w w':World} {b n B:Nat} {L:List (List UInt8)} (h:IdxAt w b n L) (hb:Below B w w') (hlt:b<B):IdxAt w' b n L:=h.block (hb.block b hlt)
theorem IdxAt.later {w w':World} {b n:Nat} {L:List (List UInt8)} (h:IdxAt w b n L) (hb:Below w.heap.size w w'):IdxAt w' b n L:=h.below hb h.lt
theorem zeroInt (w:World):(zeroValue 3).run Tryz.prog w=.ok (.int .i64 0) w:=Tryz.zeroValue3 w
theorem wpList_look_idx {w:World} {ops:Array Oper} {rest:List Oper} {o:Oper} {a:Act} {Q:Exit→Act→World→Prop} (hg:o.guard=none) (m x:Operand) (t:TypeId) (hop:o.op=Op.lookup t m x true)
 (ht:Tryz.prog.underlying t=some (.map 9 3)) {b n:Nat} {L:List (List UInt8)}
 (hm:a.eval m=.map (some b)) (h:IdxAt w b n L) (s:ByteArray) (hx:a.eval x=.string s) (hs:s.size≤maxLen) (ok:Bool) (hok:(ixOf L s.data.toList).isSome=ok)
 (hk:∀ c:Int,(∀ i:Nat,ixOf L s.data.toList=some i→c=i)→wpList Tryz.prog ops Q rest (a.put o.dst (.tuple #[.int .i64 c,.bool ok])) w):wpList Tryz.prog ops Q (o::rest) a w:=by
 obtain ⟨D,h1,h2,h3,h4⟩:=h
 refine wpList_lookup_own_ok_int w hg m x t hop 9 3 .i64 (string_keyed Tryz.underlying9) ht Tryz.underlying3 (zeroInt w) b n D hm h1 _ (.string s.data.toList) hx (keyOf_str Tryz.underlying9 hs) (fun c hat hwc=>?_)
 rw [h3,hok]
 refine hk c (fun i hi=>?_)
 rw [h4 _ i hi] at hat
 simpa using hat.symm
theorem wpList_put_idx {w:World} {ops:Array Oper} {rest:List Oper} {o:Oper} {a:Act} {Q:Exit→Act→World→Prop} (hg:o.guard=none) (m x v:Operand) (t:TypeId) (hop:o.op=Op.mapUpdate t m x v)
 (ht:Tryz.prog.underlying t=some (.map 9 3)) {b n:Nat} {L:List (List UInt8)}
 (hm:a.eval m=.map (some b)) (h:IdxAt w b n L) (hn:n<maxLen) (s:ByteArray) (hx:a.eval x=.string s) (hno:(ixOf L s.data.toList).isSome=false) (hL:L.length≤65536) (hv:a.eval v=.int .i64 (L.length:Int)) (hs:s.size≤maxLen)
 (hk:∀ w',IdxAt w' b (n+1) (L++[s.data.toList])→w.grownBy w' (some b)→wpList Tryz.prog ops Q rest (a.put o.dst undef) w'):wpList Tryz.prog ops Q (o::rest) a w:=by
 obtain ⟨D,h1,h2,h3,h4⟩:=h
 have hno':ixOf L s.data.toList=none:=by simpa using hno
 have hwf:(Lit.int .i64 (L.length:Int)).wf=true:=by
  simp only [Lit.wf,Bool.and_eq_true,decide_eq_true_eq]
  constructor
  ·exact Int.le_trans (by decide:IntKind.i64.min≤0) (by omega)
  ·exact Int.le_trans (show (L.length:Int)≤65536 by omega) (by decide)
 refine wpList_mapUpdate_own w hg m x v t hop 9 3 (string_keyed Tryz.underlying9) ht _ b n D hm h1 hn _ _ (.string s.data.toList) hx hv (keyOf_str Tryz.underlying9 hs) _ [] (plainElem_int Tryz.underlying3 hwf) (fun w' r1 r2=>hk w' ⟨_,r1,h2.put _ _,fun q=>?_,fun q i hi=>?_⟩ r2)
 ·rw [ixOf_snoc]
  by_cases hq:q=s.data.toList
  ·subst hq
   rw [has_put_same h2 (isKeyLit_string _),hno']
   simp
  ·rw [has_put_other (by simpa using hq),h3,if_neg (fun e=>hq e.symm)]
   simp
 ·rw [ixOf_snoc] at hi
  by_cases hq:q=s.data.toList
  ·subst hq
   rw [hno'] at hi
   simp at hi
   rw [atKey_put_same h2 (isKeyLit_string _),hi]
  ·rw [if_neg (fun e=>hq e.symm)] at hi
   rw [atKey_put_other (by simpa using hq)]
   exact h4 q i (by simpa using hi)
theorem ixOf_strs (l:List FuncD) (s:ByteArray):ixOf (strs (nmsF l)) s.data.toList=l.findIdx? (fun f=>f.name.toList==s.toList):=by
 unfold ixOf strs nmsF
 rw [List.map_map,List.findIdx?_map]
 congr 1
 funext f
 show (f.name.data.toList==s.data.toList)=(f.name.toList==s.toList)
 rw [ByteArray.toList_eq,ByteArray.toList_eq]
theorem ix_fn_some {l:List FuncD} {s:ByteArray} {i:Nat} (h:ixOf (strs (nmsF l)) s.data.toList=some i):fnIx l s=i:=by
 unfold fnIx
 rw [← ixOf_strs,h]
theorem ix_fn_none {l:List FuncD} {s:ByteArray} (h:ixOf (strs (nmsF l)) s.data.toList=none):fnIx l s=-1:=by
 unfold fnIx
 rw [← ixOf_strs,h]
def resE (l:List FuncD) (s:ByteArray):Int:=match l.findIdx? (fun f=>f.name.toList==s.toList) with | some i=>((l.getD i default).params.length:Int) | none=>natE s
theorem resE_hit {l:List FuncD} {s:ByteArray} {k:Nat} (hk:k<l.length) (h:fnIx l s=k):resE l s=(l[k].params.length:Int):=by
 unfold fnIx at h
 unfold resE
 split at h
 ·rename_i i hi
  rw [hi]
  have:i=k:=by omega
  subst this
  simp [List.getD_eq_getElem?_getD,List.getElem?_eq_getElem hk]
 ·exact absurd h (by omega)
theorem resE_miss {l:List FuncD} {s:ByteArray} (h:fnIx l s=-1):resE l s=natE s:=by
 unfold fnIx at h
 unfold resE
 split at h
 ·exact absurd h (by omega)
 ·rename_i hi
  rw [hi]
structure RslA (ab pb:Nat) (l:List FuncD) (B N:Nat) (w:World):Prop where
 idx:∃ mb,w.cell? ⟨ab,0,none⟩=some (.map (some mb))∧IdxAt w mb l.length (strs (nmsF l))
 row:∃ fa fc,w.cell? ⟨pb,0,none⟩=some (.slice fa l.length fc)∧FuncsAt w B N l fa
 size:B≤w.heap.size
theorem RslA.then {ab pb:Nat} {l:List FuncD} {B N:Nat} {w w':World} (h:RslA ab pb l B N w) (hb:Below w.heap.size w w'):RslA ab pb l B N w':=by
 obtain ⟨⟨mb,h1,h2⟩,⟨fa,fc,h3,h4⟩,h5⟩:=h
 exact ⟨⟨mb,(hb.cell (World.block_lt_of_cell? w _ h1)).trans h1,h2.later hb⟩,⟨fa,fc,(hb.cell (World.block_lt_of_cell? w _ h3)).trans h3,FuncsAt.below (hb.mono h5) _ h4⟩,Nat.le_trans h5 hb.size⟩
def rslV (ab pb:Nat):Value:=.func (.func 54) #[] #[.pointer (some ⟨ab,0,none⟩),.pointer (some ⟨pb,0,none⟩)]
def RslR (l:List FuncD) (B N:Nat) (w:World) (e:Ending) (w':World):Prop:=∃ ab pb,e=.returned (rslV ab pb)∧RslA ab pb l B N w'∧Below w.heap.size w w'
set_option maxRecDepth 100000 in
set_option maxHeartbeats 3200000 in
theorem resolve_p (l:List FuncD) (fa:Option Addr) (fc:Nat) (cs:List Value) (w:World) (B N:Nat) (hN:N≤1048576) (hl:l.length≤65536) (hB:B≤w.heap.size) (hA:FuncsAt w B N l fa) (c0:cs[0]?=some (.slice fa l.length fc)) :
 Calls Tryz.prog 32 #[.agg cs.toArray] w (RslR l B N w):=by
 have HA:=Hd hA
 have R0:=Hd (box_at w cs 36)
 have s1:(w.alloc (.cells cs.toArray 36)).heap.size=w.heap.size+1:=World.size_alloc _ _
 have s2:((w.alloc (.cells cs.toArray 36)).alloc (.map #[] 0)).heap.size=w.heap.size+1+1:=by rw [World.size_alloc,s1]
 have s3:(((w.alloc (.cells cs.toArray 36)).alloc (.map #[] 0)).alloc (.cells #[.map (some (w.heap.size+1))] 116)).heap.size=w.heap.size+1+1+1:=by rw [World.size_alloc,s2]
 have B3:=Hd (show Below w.heap.size w (((w.alloc (.cells cs.toArray 36)).alloc (.map #[] 0)).alloc (.cells #[.map (some (w.heap.size+1))] 116)) from belowThen (belowThen (belowBox w _) (belowBox _ _)) (belowBox _ _))
 have R3:=Hd (show CellsAt (((w.alloc (.cells cs.toArray 36)).alloc (.map #[] 0)).alloc (.cells #[.map (some (w.heap.size+1))] 116)) w.heap.size 0 cs from (R0.out.then (belowBox _ (.map #[] 0)) (by rw [s1];omega)).then (belowBox _ _) (by rw [s2];omega))
 have I3:=Hd (show IdxAt (((w.alloc (.cells cs.toArray 36)).alloc (.map #[] 0)).alloc (.cells #[.map (some (w.heap.size+1))] 116)) (w.heap.size+1) 0 [] by
  have h:=(IdxAt.made (w.alloc (.cells cs.toArray 36))).later (belowBox _ (.cells #[.map (some (w.heap.size+1))] 116))
  rwa [s1] at h)
 have C3:=Hd (show (((w.alloc (.cells cs.toArray 36)).alloc (.map #[] 0)).alloc (.cells #[.map (some (w.heap.size+1))] 116)).cell? ⟨w.heap.size+2,0,none⟩=some (.map (some (w.heap.size+1))) by
  have h:=(box_at ((w.alloc (.cells cs.toArray 36)).alloc (.map #[] 0)) [.map (some (w.heap.size+1))] 116).get0 (j:=0) (v:=.map (some (w.heap.size+1))) rfl
  rwa [s2] at h)
 have S3:=Hd (show w.heap.size+2<(((w.alloc (.cells cs.toArray 36)).alloc (.map #[] 0)).alloc (.cells #[.map (some (w.heap.size+1))] 116)).heap.size by rw [s3];omega)
 have e0:=R3.out.get0 c0
 clear hA s1 s2 s3
 have hmm:=@run_makeMap Tryz.prog
 go_enter Tryz.func32,Tryz.ntmps32
 go_wp2_with fail
 clear hmm
 go_simp
 go_loopw [12] (fun i wr=>∃ k:Nat,k≤l.length∧i=.int .i64 k∧Hid (IdxAt wr (w.heap.size+1) k (strs ((nmsF l).take k)))∧Hid (wr.cell? ⟨w.heap.size+2,0,none⟩=some (.map (some (w.heap.size+1))))∧Hid (CellsAt wr w.heap.size 0 cs)∧Hid (Below w.heap.size w wr)∧Hid (w.heap.size+2<wr.heap.size)) (fun i _=>l.length-(intOf i).toNat)
 case atStart=>exact ⟨0,by omega,rfl,I3,C3,R3,B3,S3⟩
 case round =>
  obtain ⟨w1,rfl⟩:∃ w1,w1=wr:=⟨wr,rfl⟩
  clear I3 C3 R3 B3 S3 e0
  obtain ⟨k,hk,rfl,HI,HC,HR,HB,HS⟩:=hrel
  by_cases hlt:k<l.length
  ·obtain ⟨b,p,rfl,hb,hget⟩:=HA.out.get (by intro h;simp [h] at hlt)
   obtain ⟨fs,g1,g2⟩:=hget k hlt
   obtain ⟨pa,pc,es,gh⟩:=g2.has
   have HRF:=Hd (g1.below (HB.out.mono hB) hb).range
   have f0:=gh.name
   have hlf:=Hd (show (Tryz.prog.info? 82).map (·.size)=some fs.length by rw [gh.len];exact sizeFN)
   have hlf2:=Hd (show (Tryz.prog.info? 82).map (·.size)=some fs.toArray.size by rw [List.size_toArray,gh.len];exact sizeFN)
   have h19:=Hd (show 19=fs.toArray.size by rw [List.size_toArray,gh.len])
   have hone:=Hd (show fs.toArray.all (·.oneCell')=true from Go.all_oneCell_toArray gh.one)
   have hnm:=Hd (show (l[k]).name.size≤maxLen by have:=gh.hn;unfold maxLen;omega)
   have FX:=Hd (box_at w1 fs 82)
   have HB2:=Hd (belowThen HB.out (belowBox w1 (.cells fs.toArray 82)))
   have HR2:=Hd (HR.out.then (belowBox w1 (.cells fs.toArray 82)) (by have:=HS.out;omega))
   have HI2:=Hd (HI.out.later (belowBox w1 (.cells fs.toArray 82)))
   have HC2:=Hd (((belowBox w1 (.cells fs.toArray 82)).cell (p:=⟨w.heap.size+2,0,none⟩) HS.out).trans HC.out)
   have HS2:=Hd (show w.heap.size+2<(w1.alloc (.cells fs.toArray 82)).heap.size by have:=HS.out;rw [World.size_alloc];omega)
   have e0:=FX.out.get0 f0
   have z2:=HC2.out
   have HSN:=Hd (show strs ((nmsF l).take (k+1))=strs ((nmsF l).take k)++[l[k].name.data.toList] by
    rw [strs_next (by rw [nmsF_len];exact hlt),nmsF_get hlt])
   have HLN:=Hd (show (strs ((nmsF l).take k)).length=k by unfold strs;rw [List.length_map,List.length_take,nmsF_len];omega)
   clear gh g1 g2 hget
   obtain ⟨nm,hnm0⟩:∃ s,l[k].name=s:=⟨_,rfl⟩
   rw [hnm0] at e0 hnm HSN
   obtain ⟨ok,hok⟩:∃ v,(ixOf (strs ((nmsF l).take k)) nm.data.toList).isSome=v:=⟨_,rfl⟩
   have HOK:=Hd hok
   clear hok hnm0
   cases ok
   case true =>
    have HI3:=Hd (show IdxAt (w1.alloc (.cells fs.toArray 82)) (w.heap.size+1) (k+1) (strs ((nmsF l).take (k+1))) by
     obtain ⟨D,d1,d2,d3,d4⟩:=HI2.out
     obtain ⟨i,hi⟩:=Option.isSome_iff_exists.1 HOK.out
     refine ⟨D,d1.mono (Nat.le_succ _),d2,fun q=>?_,fun q j hj=>?_⟩
     ·rw [HSN.out,ixOf_snoc,d3]
      by_cases hq:nm.data.toList=q
      ·subst hq;rw [hi];rfl
      ·rw [if_neg hq];simp
     ·rw [HSN.out,ixOf_snoc] at hj
      by_cases hq:nm.data.toList=q
      ·subst hq
       rw [hi] at hj
       exact d4 _ _ (by rw [hi];simpa using hj)
      ·rw [if_neg hq] at hj
       exact d4 _ _ (by simpa using hj))
    go_wp2_with (first
     | (refine wpList_load_mid rfl 82 _ rfl b (p+k * 19) rfl fs _ HRF.out Tryz.underlying82 rfl hlf.out ?_)
     | (refine wpList_store_new rfl 82 _ _ rfl _ fs.toArray rfl rfl hlf2.out h19.out hone.out ?_)
     | (at_lookup;refine wpList_look_idx rfl _ _ 116 rfl Tryz.underlying116 rfl HI2.out nm rfl hnm.out true HOK.out ?_;intro c hc;clear hc))
    go_roundw
    case rel=>exact ⟨k+1,by omega,by go_num,HI3,HC2,HR2,HB2,HS2⟩
    case measure=>simp [intOf];omega
   case false =>
    have hvk:=Hd (show (Value.int .i64 (k:Int))=.int .i64 ((strs ((nmsF l).take k)).length:Int) by rw [HLN.out])
    go_wp2_with (first
     | (refine wpList_load_mid rfl 82 _ rfl b (p+k * 19) rfl fs _ HRF.out Tryz.underlying82 rfl hlf.out ?_)
     | (refine wpList_store_new rfl 82 _ _ rfl _ fs.toArray rfl rfl hlf2.out h19.out hone.out ?_)
     | (at_lookup;refine wpList_look_idx rfl _ _ 116 rfl Tryz.underlying116 rfl HI2.out nm rfl hnm.out false HOK.out ?_;intro c hc;clear hc)
     | (at_mapUpdate;refine wpList_put_idx rfl _ _ _ 116 rfl Tryz.underlying116 rfl HI2.out (by unfold maxLen;omega) nm rfl HOK.out (by rw [HLN.out];omega) hvk.out hnm.out ?_))
    intro w3 hset hgrow
    have HI3:=Hd hset
    have HB3:=Hd (HB2.out.grown hgrow HB2.out.size (fun q hq=>by cases hq;omega))
    have hsz3:=hgrow.size
    have HS3:=Hd (show w.heap.size+2<w3.heap.size by have:=HS2.out;omega)
    have hkeep:∀ q,q≠w.heap.size+1→q<(w1.alloc (.cells fs.toArray 82)).heap.size→w3.heap[q]?=(w1.alloc (.cells fs.toArray 82)).heap[q]?:=fun q hq hq2=>hgrow.block q hq2 (fun e=>by cases e;exact hq rfl)
    have HC3:=Hd (show w3.cell? ⟨w.heap.size+2,0,none⟩=some (.map (some (w.heap.size+1))) by
     rw [← HC2.out]
     simp only [World.cell?]
     rw [hkeep _ (by omega) HS2.out])
    have HR3:=Hd (show CellsAt w3 w.heap.size 0 cs from fun j hj=>by
     rw [← HR2.out j hj]
     simp only [World.cell?]
     rw [hkeep _ (by omega) (by have:=HS2.out;omega)])
    clear hset hgrow hkeep hsz3 e0 z2
    go_wp2
    go_roundw
    case rel=>exact ⟨k+1,by omega,by go_num,Hd (by rw [HSN.out];exact HI3.out),HC3,HR3,HB3,HS3⟩
    case measure=>simp [intOf];omega
  ·obtain rfl:k=l.length:=by omega
   go_wp2_with fail
   go_ret
   refine ⟨w.heap.size+2,w.heap.size,rfl,⟨⟨_,HC.out,?_⟩,⟨fa,fc,HR.out.get0 c0,FuncsAt.below (HB.out.mono hB) _ HA.out⟩,Nat.le_trans hB HB.out.size⟩,HB.out⟩
   have:=HI.out
   rwa [List.take_of_length_le (by rw [nmsF_len];exact Nat.le_refl _)] at this
def ResX (l:List FuncD) (s:ByteArray) (w:World) (e:Ending) (w':World):Prop:=∃ (n:Int) (b:Bool),e=.returned (.tuple #[.string s,.int .i64 n,.bool b])∧resE l s=(if b then n else -1)∧0≤n∧Below w.heap.size w w'
set_option maxRecDepth 100000 in
set_option maxHeartbeats 3200000 in
theorem closure_p (ab pb:Nat) (l:List FuncD) (s:ByteArray) (w:World) (B N:Nat) (hs:s.size≤maxLen) (hT:TabAt w) (h:RslA ab pb l B N w) :
 Calls Tryz.prog 54 #[.string s,.pointer (some ⟨ab,0,none⟩),.pointer (some ⟨pb,0,none⟩)] w (ResX l s w):=by
 obtain ⟨⟨mb,h1,h2⟩,⟨fa,fc,h3,h4⟩,h5⟩:=h
 have HT:=Hd hT
 have HI:=Hd h2
 have HA:=Hd h4
 clear h2 h4 hT
 obtain ⟨ok,hok⟩:∃ v,(ixOf (strs (nmsF l)) s.data.toList).isSome=v:=⟨_,rfl⟩
 have HOK:=Hd hok
 clear hok
 cases ok
 case true =>
  obtain ⟨i,hi⟩:=Option.isSome_iff_exists.1 HOK.out
  have HIX:=Hd (ix_fn_some hi)
  have hil:i<l.length:=by have:=(fnIx_range l s).2;rw [HIX.out] at this;omega
  have HRS:=Hd (resE_hit hil HIX.out)
  obtain ⟨b,p,rfl,hb,hget⟩:=HA.out.get (by intro h;simp [h] at hil)
  obtain ⟨fs,g1,g2⟩:=hget i hil
  obtain ⟨pa,pc,es,gh⟩:=g2.has
  have q1:w.cell? ⟨b,p+i * 19+1,none⟩=some (.slice pa l[i].params.length pc):=g1.range 1 _ gh.params
  have HIC:=Hd hi
  have hi0:(i:Int)<l.length:=by omega
  clear gh g1 g2 hget hi
  go_enter Tryz.func54,Tryz.ntmps54
  go_wp2_with (at_lookup;refine wpList_look_idx rfl _ _ 116 rfl Tryz.underlying116 rfl HI.out s rfl hs true HOK.out ?_;intro c hc;obtain rfl:=hc i HIC.out;clear hc)
  go_quiet (fail)
  go_wp2_with fail
  go_ret3
  exact ⟨_,true,rfl,HRS.out,by omega,⟨rfl,rfl,rfl,Nat.le_refl _,fun _ _=>rfl⟩⟩
 case false =>
  have HIX:=Hd (resE_miss (ix_fn_none (by simpa using HOK.out)))
  go_enter Tryz.func54,Tryz.ntmps54
  go_wp2_with (at_lookup;refine wpList_look_idx rfl _ _ 116 rfl Tryz.underlying116 rfl HI.out s rfl hs false HOK.out ?_;intro c hc;clear hc)
  refine (native_p s _ HT.out).mono ?_
  rintro e w' ⟨n,b,rfl,hn,hn0,hb⟩
  have HN:=Hd hn
  have HB:=Hd hb
  clear hn hb
  go_wp2_with fail
  go_ret3
  exact ⟨n,b,rfl,by rw [HIX.out];exact HN.out,hn0,HB.out⟩
def nmC (fa:Option Addr) (n fc:Nat):List Value:=[.slice none 0 0,.int .i64 0,.slice fa n fc,.bool true]
set_option maxRecDepth 100000 in
set_option maxHeartbeats 3200000 in
theorem resolve_r (l:List FuncD) (fa:Option Addr) (fc:Nat) (s:ByteArray) (w:World) (B N:Nat) (hl:l.length≤65536) (hB:B≤w.heap.size) (hT:TabAt w) (hA:FuncsAt w B N l fa) :
 Calls Tryz.prog 116 #[.agg (nmC fa l.length fc).toArray,.string s] w (ResX l s w):=by
 have HA:=Hd hA
 have HT:=Hd hT
 have B0:=Hd (Box1.start w (nmC fa l.length fc) 106)
 have HA1:=Hd (FuncsAt.below (B0.out.low.mono hB) _ HA.out)
 have e2:=B0.out.row.get0 (j:=2) (v:=.slice fa l.length fc) rfl
 have e3:=B0.out.row.get0 (j:=3) (v:=.bool true) rfl
 clear hA hT
 obtain ⟨ix,hix⟩:∃ i,fnIx l s=i:=⟨_,rfl⟩
 have HIX:=Hd hix
 have hrg:=fnIx_range l s
 rw [hix] at hrg
 obtain ⟨hr1,hr2⟩:=hrg
 clear hix
 by_cases h0:0≤ix
 ·obtain ⟨i,rfl⟩:∃ i:Nat,ix=i:=⟨ix.toNat,by omega⟩
  have hil:i<l.length:=by omega
  have HRS:=Hd (resE_hit hil HIX.out)
  obtain ⟨b,p,rfl,hb,hget⟩:=HA1.out.get (by intro h;simp [h] at hil)
  obtain ⟨fs,g1,g2⟩:=hget i hil
  obtain ⟨pa,pc,es,gh⟩:=g2.has
  have q1:=g1.range 1 _ gh.params
  clear gh g1 g2 hget h0 hr1 hr2
  go_enter Tryz.func116,Tryz.ntmps116
  go_wp2_with fail
  refine (function_r2 l s _ fc _ B N (by omega) HA1.out).mono ?_
  rintro e w' ⟨rfl,rfl⟩
  rw [HIX.out]
  go_wp2_with fail
  go_quiet (fail)
  go_wp2_with fail
  go_ret3
  exact ⟨_,true,rfl,HRS.out,by omega,B0.out.low.trans ⟨rfl,rfl,rfl,Nat.le_refl _,fun _ _=>rfl⟩⟩
 ·obtain rfl:ix=-1:=by omega
  have HRS:=Hd (resE_miss HIX.out)
  clear h0 hr1 hr2
  go_enter Tryz.func116,Tryz.ntmps116
  go_wp2_with fail
  refine (function_r2 l s _ fc _ B N (by omega) HA1.out).mono ?_
  rintro e w' ⟨rfl,rfl⟩
  rw [HIX.out]
  go_wp2_with fail
  refine (native_r s _ (HT.out.below B0.out.low)).mono ?_
  rintro e w' ⟨n,b,rfl,hn,hn0,hb⟩
  have HN:=Hd hn
  have HB:=Hd (belowThen B0.out.low hb)
  clear hn hb
  go_wp2_with fail
  go_ret3
  exact ⟨n,b,rfl,by rw [HRS.out];exact HN.out,hn0,HB.out⟩
end Go.Proofs.YticpebgjbfanpaaGreatDoor
