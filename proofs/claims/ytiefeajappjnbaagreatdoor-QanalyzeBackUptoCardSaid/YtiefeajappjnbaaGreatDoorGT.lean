/- The natives (module.native, datakitref38.Native): the same number of arguments on both sides. -/
import Derived.Test.YtiefeajappjnbaaGreatDoorGA
import Derived.Test.YtiefeajappjnbaaGreatDoorNam37
import Derived.Test.YtiefeajappjnbaaGreatDoorFnd39
import Derived.Test.YtiefeajappjnbaaGreatDoorGK
import Derived.BigQuiet
namespace Go.Proofs.YtiefeajappjnbaaGreatDoor
open Go.RowKit
def rk:List (List UInt8):=[[112,97,116,104],[103,101,116,112,97,116,104],[100,101,108,112,97,116,104,115]]
def rj:List (List UInt8):=[[115,101,116,112,97,116,104]]
def jm (s:ByteArray):Int:=if rk.contains s.toList then 1 else if rj.contains s.toList then 2 else if arB s.toList then arN s.toList else -1
def DH (s:ByteArray) (w:World) (e:Ending) (w':World):Prop:=∃ (n:Int) (b:Bool),e=.returned (.tuple #[.int .i64 n,.bool b])∧jm s=(if b then n else -1)∧0≤n∧Below w.heap.size w w'
theorem mF (l:List UInt8):0≤arN l:=by
 unfold arN
 split
 ·decide
 ·split<;>decide
set_option maxHeartbeats 1600000 in
theorem wF (s:ByteArray) (w:World) (h:cI w):Calls Tryz.prog 134 #[.string s] w (DH s w):=by
 have HT:=Hd h
 clear h
 cases h1:rk.contains s.toList
 ·cases h2:rj.contains s.toList
  ·have HA:=Hd (show jm s=if arB s.toList then arN s.toList else -1 by unfold jm;rw [h1,h2];rfl)
   have p0:=aE h1 [112,97,116,104] (by decide)
   have p1:=aE h1 [103,101,116,112,97,116,104] (by decide)
   have p2:=aE h1 [100,101,108,112,97,116,104,115] (by decide)
   have q0:=aE h2 [115,101,116,112,97,116,104] (by decide)
   clear h1 h2
   have HN:=Hd (mF s.toList)
   obtain ⟨n,hn⟩:∃ n,arN s.toList=n:=⟨_,rfl⟩
   obtain ⟨b,hb⟩:∃ b,arB s.toList=b:=⟨_,rfl⟩
   have HNN:=Hd hn
   have HBB:=Hd hb
   clear hn hb
   go_enter Tryz.func134,Tryz.ntmps134
   go_wp2_with fail
   refine (oO s _ HT.out).mono ?_
   rintro e w' ⟨rfl,hb⟩
   have HB:=Hd hb
   clear hb
   rw [HNN.out,HBB.out]
   go_wp2_with fail
   go_ret2
   exact ⟨n,b,rfl,by rw [HA.out,HNN.out,HBB.out],by rw [← HNN.out];exact HN.out,HB.out⟩
  ·have HA:=Hd (show jm s=2 by unfold jm;rw [h1,h2];rfl)
   have hm:s.toList∈rj:=by simpa using h2
   have he:s.toList=[115,101,116,112,97,116,104]:=by simpa [rj] using hm
   clear h1 h2 hm
   go_enter Tryz.func134,Tryz.ntmps134
   go_wp2_with fail
   go_ret2
   exact ⟨2,true,rfl,HA.out,by decide,Below.refl _ _⟩
 ·have HA:=Hd (show jm s=1 by unfold jm;rw [h1];rfl)
  have hm:s.toList∈rk:=by simpa using h1
  have hm':s.toList=[112,97,116,104]∨s.toList=[103,101,116,112,97,116,104]∨s.toList=[100,101,108,112,97,116,104,115]:=by simpa [rk] using hm
  clear h1 hm
  rcases hm' with he | he | he
  all_goals
   go_enter Tryz.func134,Tryz.ntmps134
   go_wp2_with fail
   go_ret2
   exact ⟨1,true,rfl,HA.out,by decide,Below.refl _ _⟩
set_option maxHeartbeats 1600000 in
theorem wE (s:ByteArray) (w:World) (h:cI w):Calls Tryz.prog 206 #[.string s] w (DH s w):=by
 have HT:=Hd h
 clear h
 cases h1:rk.contains s.toList
 ·cases h2:rj.contains s.toList
  ·have HA:=Hd (show jm s=if arB s.toList then arN s.toList else -1 by unfold jm;rw [h1,h2];rfl)
   have p0:=aE h1 [112,97,116,104] (by decide)
   have p1:=aE h1 [103,101,116,112,97,116,104] (by decide)
   have p2:=aE h1 [100,101,108,112,97,116,104,115] (by decide)
   have q0:=aE h2 [115,101,116,112,97,116,104] (by decide)
   clear h1 h2
   have HN:=Hd (mF s.toList)
   obtain ⟨n,hn⟩:∃ n,arN s.toList=n:=⟨_,rfl⟩
   obtain ⟨b,hb⟩:∃ b,arB s.toList=b:=⟨_,rfl⟩
   have HNN:=Hd hn
   have HBB:=Hd hb
   clear hn hb
   go_enter Tryz.func206,Tryz.ntmps206
   go_wp2_with fail
   refine (qK s _ HT.out).mono ?_
   rintro e w' ⟨rfl,hb⟩
   have HB:=Hd hb
   clear hb
   rw [HNN.out,HBB.out]
   go_wp2_with fail
   go_ret2
   exact ⟨n,b,rfl,by rw [HA.out,HNN.out,HBB.out],by rw [← HNN.out];exact HN.out,HB.out⟩
  ·have HA:=Hd (show jm s=2 by unfold jm;rw [h1,h2];rfl)
   have hm:s.toList∈rj:=by simpa using h2
   have he:s.toList=[115,101,116,112,97,116,104]:=by simpa [rj] using hm
   clear h1 h2 hm
   go_enter Tryz.func206,Tryz.ntmps206
   go_wp2_with fail
   go_ret2
   exact ⟨2,true,rfl,HA.out,by decide,Below.refl _ _⟩
 ·have HA:=Hd (show jm s=1 by unfold jm;rw [h1];rfl)
  have hm:s.toList∈rk:=by simpa using h1
  have hm':s.toList=[112,97,116,104]∨s.toList=[103,101,116,112,97,116,104]∨s.toList=[100,101,108,112,97,116,104,115]:=by simpa [rk] using hm
  clear h1 hm
  rcases hm' with he | he | he
  all_goals
   go_enter Tryz.func206,Tryz.ntmps206
   go_wp2_with fail
   go_ret2
   exact ⟨1,true,rfl,HA.out,by decide,Below.refl _ _⟩
end Go.Proofs.YtiefeajappjnbaaGreatDoor

/- A program's functions by their names: module.resolve and its closure, datakitref38.names.resolve. -/
namespace Go.Proofs.YtiefeajappjnbaaGreatDoor
open Go.RowKit Go.Maps
def jr (L:List (List UInt8)) (s:List UInt8):Option Nat:=L.findIdx? (·==s)
theorem iJ (L:List (List UInt8)) (x s:List UInt8):jr (L++[x]) s=(jr L s).or (if x=s then some L.length else none):=by
 unfold jr
 rw [List.findIdx?_append]
 congr 1
 by_cases h:x=s
 ·subst h;simp
 ·simp [h]
def cS (w:World) (b n:Nat) (L:List (List UInt8)):Prop :=
 ∃ D:DataW Unit,w.ownsMap Tryz.prog 9 (plainElem Tryz.prog 3) b n D∧IsMap D∧(∀ s,Maps.has D (.string s)=(jr L s).isSome)∧∀ s i,jr L s=some i→D.atKey (.string s) (.lit (.int .i64 0))=.lit (.int .i64 (i:Int))
theorem cS.made (w:World):cS (w.alloc (.map #[] 0)) w.heap.size 0 [] :=
 ⟨.map [],World.ownsMap_made _ _ _ _,isMap_empty,fun s=>rfl,fun s i h=>by cases h⟩
theorem cS.lt {w:World} {b n:Nat} {L:List (List UInt8)} (h:cS w b n L):b<w.heap.size:=by
 obtain ⟨D,h1,_⟩:=h
 exact h1.lt
theorem cS.mono {w:World} {b n n':Nat} {L:List (List UInt8)} (h:cS w b n L) (hn:n≤n'):cS w b n' L:=by
 obtain ⟨D,h1,r⟩:=h
 exact ⟨D,h1.mono hn,r⟩
theorem cS.block {w w':World} {b n:Nat} {L:List (List UInt8)} (h:cS w b n L) (hb:w'.heap[b]?=w.heap[b]?):cS w' b n L:=by
 obtain ⟨D,⟨es,clock,hh,r⟩,h2⟩:=h
 exact ⟨D,⟨es,clock,hb.trans hh,r⟩,h2⟩
theorem cS.below {w w':World} {b n B:Nat} {L:List (List UInt8)} (h:cS w b n L) (hb:Below B w w') (hlt:b<B):cS w' b n L:=h.block (hb.block b hlt)
theorem cS.later {w w':World} {b n:Nat} {L:List (List UInt8)} (h:cS w b n L) (hb:Below w.heap.size w w'):cS w' b n L:=h.below hb h.lt
theorem yR (w:World):(zeroValue 3).run Tryz.prog w=.ok (.int .i64 0) w:=Tryz.zeroValue3 w
theorem dx {w:World} {ops:Array Oper} {rest:List Oper} {o:Oper} {a:Act} {Q:Exit→Act→World→Prop} (hg:o.guard=none) (m x:Operand) (t:TypeId) (hop:o.op=Op.lookup t m x true)
 (ht:Tryz.prog.underlying t=some (.map 9 3)) {b n:Nat} {L:List (List UInt8)}
 (hm:a.eval m=.map (some b)) (h:cS w b n L) (s:ByteArray) (hx:a.eval x=.string s) (hs:s.size≤maxLen) (ok:Bool) (hok:(jr L s.data.toList).isSome=ok)
 (hk:∀ c:Int,(∀ i:Nat,jr L s.data.toList=some i→c=i)→wpList Tryz.prog ops Q rest (a.put o.dst (.tuple #[.int .i64 c,.bool ok])) w):wpList Tryz.prog ops Q (o::rest) a w:=by
 obtain ⟨D,h1,h2,h3,h4⟩:=h
 refine wpList_lookup_own_ok_int w hg m x t hop 9 3 .i64 (string_keyed Tryz.underlying9) ht Tryz.underlying3 (yR w) b n D hm h1 _ (.string s.data.toList) hx (iI Tryz.underlying9 hs) (fun c hat hwc=>?_)
 rw [h3,hok]
 refine hk c (fun i hi=>?_)
 rw [h4 _ i hi] at hat
 simpa using hat.symm
theorem lz {w:World} {ops:Array Oper} {rest:List Oper} {o:Oper} {a:Act} {Q:Exit→Act→World→Prop} (hg:o.guard=none) (m x v:Operand) (t:TypeId) (hop:o.op=Op.mapUpdate t m x v)
 (ht:Tryz.prog.underlying t=some (.map 9 3)) {b n:Nat} {L:List (List UInt8)}
 (hm:a.eval m=.map (some b)) (h:cS w b n L) (hn:n<maxLen) (s:ByteArray) (hx:a.eval x=.string s) (hno:(jr L s.data.toList).isSome=false) (hL:L.length≤65536) (hv:a.eval v=.int .i64 (L.length:Int)) (hs:s.size≤maxLen)
 (hk:∀ w',cS w' b (n+1) (L++[s.data.toList])→w.grownBy w' (some b)→wpList Tryz.prog ops Q rest (a.put o.dst undef) w'):wpList Tryz.prog ops Q (o::rest) a w:=by
 obtain ⟨D,h1,h2,h3,h4⟩:=h
 have hno':jr L s.data.toList=none:=by simpa using hno
 have hwf:(Lit.int .i64 (L.length:Int)).wf=true:=by
  simp only [Lit.wf,Bool.and_eq_true,decide_eq_true_eq]
  constructor
  ·exact Int.le_trans (by decide:IntKind.i64.min≤0) (by omega)
  ·exact Int.le_trans (show (L.length:Int)≤65536 by omega) (by decide)
 refine wpList_mapUpdate_own w hg m x v t hop 9 3 (string_keyed Tryz.underlying9) ht _ b n D hm h1 hn _ _ (.string s.data.toList) hx hv (iI Tryz.underlying9 hs) _ [] (plainElem_int Tryz.underlying3 hwf) (fun w' r1 r2=>hk w' ⟨_,r1,h2.put _ _,fun q=>?_,fun q i hi=>?_⟩ r2)
 ·rw [iJ]
  by_cases hq:q=s.data.toList
  ·subst hq
   rw [has_put_same h2 (eF _),hno']
   simp
  ·rw [has_put_other (by simpa using hq),h3,if_neg (fun e=>hq e.symm)]
   simp
 ·rw [iJ] at hi
  by_cases hq:q=s.data.toList
  ·subst hq
   rw [hno'] at hi
   simp at hi
   rw [atKey_put_same h2 (eF _),hi]
  ·rw [if_neg (fun e=>hq e.symm)] at hi
   rw [atKey_put_other (by simpa using hq)]
   exact h4 q i (by simpa using hi)
theorem nC (l:List al) (s:ByteArray):jr (cu (cg l)) s.data.toList=l.findIdx? (fun f=>f.name.toList==s.toList):=by
 unfold jr cu cg
 rw [List.map_map,List.findIdx?_map]
 congr 1
 funext f
 show (f.name.data.toList==s.data.toList)=(f.name.toList==s.toList)
 rw [ByteArray.toList_eq,ByteArray.toList_eq]
theorem rv {l:List al} {s:ByteArray} {i:Nat} (h:jr (cu (cg l)) s.data.toList=some i):fQ l s=i:=by
 unfold fQ
 rw [← nC,h]
theorem ry {l:List al} {s:ByteArray} (h:jr (cu (cg l)) s.data.toList=none):fQ l s=-1:=by
 unfold fQ
 rw [← nC,h]
def b5 (l:List al) (s:ByteArray):Int:=match l.findIdx? (fun f=>f.name.toList==s.toList) with | some i=>((l.getD i default).params.length:Int) | none=>jm s
theorem pw {l:List al} {s:ByteArray} {k:Nat} (hk:k<l.length) (h:fQ l s=k):b5 l s=(l[k].params.length:Int):=by
 unfold fQ at h
 unfold b5
 split at h
 ·rename_i i hi
  rw [hi]
  have:i=k:=by omega
  subst this
  simp [List.getD_eq_getElem?_getD,List.getElem?_eq_getElem hk]
 ·exact absurd h (by omega)
theorem nh {l:List al} {s:ByteArray} (h:fQ l s=-1):b5 l s=jm s:=by
 unfold fQ at h
 unfold b5
 split at h
 ·exact absurd h (by omega)
 ·rename_i hi
  rw [hi]
structure vv (ab pb:Nat) (l:List al) (B N:Nat) (w:World):Prop where
 idx:∃ mb,w.cell? ⟨ab,0,none⟩=some (.map (some mb))∧cS w mb l.length (cu (cg l))
 row:∃ fa fc,w.cell? ⟨pb,0,none⟩=some (.slice fa l.length fc)∧av w B N l fa
 size:B≤w.heap.size
theorem vv.then {ab pb:Nat} {l:List al} {B N:Nat} {w w':World} (h:vv ab pb l B N w) (hb:Below w.heap.size w w'):vv ab pb l B N w':=by
 obtain ⟨⟨mb,h1,h2⟩,⟨fa,fc,h3,h4⟩,h5⟩:=h
 exact ⟨⟨mb,(hb.cell (World.block_lt_of_cell? w _ h1)).trans h1,h2.later hb⟩,⟨fa,fc,(hb.cell (World.block_lt_of_cell? w _ h3)).trans h3,av.below (hb.mono h5) _ h4⟩,Nat.le_trans h5 hb.size⟩
def zr (ab pb:Nat):Value:=.func (.func 133) #[] #[.pointer (some ⟨ab,0,none⟩),.pointer (some ⟨pb,0,none⟩)]
def DX (l:List al) (B N:Nat) (w:World) (e:Ending) (w':World):Prop:=∃ ab pb,e=.returned (zr ab pb)∧vv ab pb l B N w'∧Below w.heap.size w w'
set_option maxRecDepth 100000 in
set_option maxHeartbeats 3200000 in
theorem uk (l:List al) (fa:Option Addr) (fc:Nat) (cs:List Value) (w:World) (B N:Nat) (hN:N≤1048576) (hl:l.length≤65536) (hB:B≤w.heap.size) (hA:av w B N l fa) (c0:cs[0]?=some (.slice fa l.length fc)) :
 Calls Tryz.prog 91 #[.agg cs.toArray] w (DX l B N w):=by
 have HA:=Hd hA
 have R0:=Hd (aA w cs 61)
 have s1:(w.alloc (.cells cs.toArray 61)).heap.size=w.heap.size+1:=World.size_alloc _ _
 have s2:((w.alloc (.cells cs.toArray 61)).alloc (.map #[] 0)).heap.size=w.heap.size+1+1:=by rw [World.size_alloc,s1]
 have s3:(((w.alloc (.cells cs.toArray 61)).alloc (.map #[] 0)).alloc (.cells #[.map (some (w.heap.size+1))] 82)).heap.size=w.heap.size+1+1+1:=by rw [World.size_alloc,s2]
 have B3:=Hd (show Below w.heap.size w (((w.alloc (.cells cs.toArray 61)).alloc (.map #[] 0)).alloc (.cells #[.map (some (w.heap.size+1))] 82)) from ae (ae (af w _) (af _ _)) (af _ _))
 have R3:=Hd (show aj (((w.alloc (.cells cs.toArray 61)).alloc (.map #[] 0)).alloc (.cells #[.map (some (w.heap.size+1))] 82)) w.heap.size 0 cs from (R0.out.then (af _ (.map #[] 0)) (by rw [s1];omega)).then (af _ _) (by rw [s2];omega))
 have I3:=Hd (show cS (((w.alloc (.cells cs.toArray 61)).alloc (.map #[] 0)).alloc (.cells #[.map (some (w.heap.size+1))] 82)) (w.heap.size+1) 0 [] by
  have h:=(cS.made (w.alloc (.cells cs.toArray 61))).later (af _ (.cells #[.map (some (w.heap.size+1))] 82))
  rwa [s1] at h)
 have C3:=Hd (show (((w.alloc (.cells cs.toArray 61)).alloc (.map #[] 0)).alloc (.cells #[.map (some (w.heap.size+1))] 82)).cell? ⟨w.heap.size+2,0,none⟩=some (.map (some (w.heap.size+1))) by
  have h:=(aA ((w.alloc (.cells cs.toArray 61)).alloc (.map #[] 0)) [.map (some (w.heap.size+1))] 82).get0 (j:=0) (v:=.map (some (w.heap.size+1))) rfl
  rwa [s2] at h)
 have S3:=Hd (show w.heap.size+2<(((w.alloc (.cells cs.toArray 61)).alloc (.map #[] 0)).alloc (.cells #[.map (some (w.heap.size+1))] 82)).heap.size by rw [s3];omega)
 have e0:=R3.out.get0 c0
 clear hA s1 s2 s3
 have hmm:=@run_makeMap Tryz.prog
 go_enter Tryz.func91,Tryz.ntmps91
 go_wp2_with fail
 clear hmm
 go_simp
 go_loopw [12] (fun i wr=>∃ k:Nat,k≤l.length∧i=.int .i64 k∧Hid (cS wr (w.heap.size+1) k (cu ((cg l).take k)))∧Hid (wr.cell? ⟨w.heap.size+2,0,none⟩=some (.map (some (w.heap.size+1))))∧Hid (aj wr w.heap.size 0 cs)∧Hid (Below w.heap.size w wr)∧Hid (w.heap.size+2<wr.heap.size)) (fun i _=>l.length-(intOf i).toNat)
 case atStart=>exact ⟨0,by omega,rfl,I3,C3,R3,B3,S3⟩
 case round =>
  obtain ⟨w1,rfl⟩:∃ w1,w1=wr:=⟨wr,rfl⟩
  clear I3 C3 R3 B3 S3 e0
  obtain ⟨k,hk,rfl,HI,HC,HR,HB,HS⟩:=hrel
  by_cases hlt:k<l.length
  ·obtain ⟨b,p,rfl,hb,hget⟩:=HA.out.get (by intro h;simp [h] at hlt)
   obtain ⟨fs,g1,g2⟩:=hget k hlt
   obtain ⟨pa,pc,es,gh⟩:=g2.has
   have HRF:=Hd (g1.below (HB.out.mono hB) hb).range
   have f0:=gh.name
   have hlf:=Hd (show (Tryz.prog.info? 72).map (·.size)=some fs.length by rw [gh.len];exact cj)
   have hlf2:=Hd (show (Tryz.prog.info? 72).map (·.size)=some fs.toArray.size by rw [List.size_toArray,gh.len];exact cj)
   have h19:=Hd (show 19=fs.toArray.size by rw [List.size_toArray,gh.len])
   have hone:=Hd (show fs.toArray.all (·.oneCell')=true from Go.all_oneCell_toArray gh.one)
   have hnm:=Hd (show (l[k]).name.size≤maxLen by have:=gh.hn;unfold maxLen;omega)
   have FX:=Hd (aA w1 fs 72)
   have HB2:=Hd (ae HB.out (af w1 (.cells fs.toArray 72)))
   have HR2:=Hd (HR.out.then (af w1 (.cells fs.toArray 72)) (by have:=HS.out;omega))
   have HI2:=Hd (HI.out.later (af w1 (.cells fs.toArray 72)))
   have HC2:=Hd (((af w1 (.cells fs.toArray 72)).cell (p:=⟨w.heap.size+2,0,none⟩) HS.out).trans HC.out)
   have HS2:=Hd (show w.heap.size+2<(w1.alloc (.cells fs.toArray 72)).heap.size by have:=HS.out;rw [World.size_alloc];omega)
   have e0:=FX.out.get0 f0
   have z2:=HC2.out
   have HSN:=Hd (show cu ((cg l).take (k+1))=cu ((cg l).take k)++[l[k].name.data.toList] by
    rw [fU (by rw [cE];exact hlt),dQ hlt])
   have HLN:=Hd (show (cu ((cg l).take k)).length=k by unfold cu;rw [List.length_map,List.length_take,cE];omega)
   clear gh g1 g2 hget
   obtain ⟨nm,hnm0⟩:∃ s,l[k].name=s:=⟨_,rfl⟩
   rw [hnm0] at e0 hnm HSN
   obtain ⟨ok,hok⟩:∃ v,(jr (cu ((cg l).take k)) nm.data.toList).isSome=v:=⟨_,rfl⟩
   have HOK:=Hd hok
   clear hok hnm0
   cases ok
   case true =>
    have HI3:=Hd (show cS (w1.alloc (.cells fs.toArray 72)) (w.heap.size+1) (k+1) (cu ((cg l).take (k+1))) by
     obtain ⟨D,d1,d2,d3,d4⟩:=HI2.out
     obtain ⟨i,hi⟩:=Option.isSome_iff_exists.1 HOK.out
     refine ⟨D,d1.mono (Nat.le_succ _),d2,fun q=>?_,fun q j hj=>?_⟩
     ·rw [HSN.out,iJ,d3]
      by_cases hq:nm.data.toList=q
      ·subst hq;rw [hi];rfl
      ·rw [if_neg hq];simp
     ·rw [HSN.out,iJ] at hj
      by_cases hq:nm.data.toList=q
      ·subst hq
       rw [hi] at hj
       exact d4 _ _ (by rw [hi];simpa using hj)
      ·rw [if_neg hq] at hj
       exact d4 _ _ (by simpa using hj))
    go_wp2_with (first
     | (refine wpList_load_mid rfl 72 _ rfl b (p+k * 19) rfl fs _ HRF.out Tryz.underlying72 rfl hlf.out ?_)
     | (refine ak rfl 72 _ _ rfl _ fs.toArray rfl rfl hlf2.out h19.out hone.out ?_)
     | (at_lookup;refine dx rfl _ _ 82 rfl Tryz.underlying82 rfl HI2.out nm rfl hnm.out true HOK.out ?_;intro c hc;clear hc))
    go_roundw
    case rel=>exact ⟨k+1,by omega,by go_num,HI3,HC2,HR2,HB2,HS2⟩
    case measure=>simp [intOf];omega
   case false =>
    have hvk:=Hd (show (Value.int .i64 (k:Int))=.int .i64 ((cu ((cg l).take k)).length:Int) by rw [HLN.out])
    go_wp2_with (first
     | (refine wpList_load_mid rfl 72 _ rfl b (p+k * 19) rfl fs _ HRF.out Tryz.underlying72 rfl hlf.out ?_)
     | (refine ak rfl 72 _ _ rfl _ fs.toArray rfl rfl hlf2.out h19.out hone.out ?_)
     | (at_lookup;refine dx rfl _ _ 82 rfl Tryz.underlying82 rfl HI2.out nm rfl hnm.out false HOK.out ?_;intro c hc;clear hc)
     | (at_mapUpdate;refine lz rfl _ _ _ 82 rfl Tryz.underlying82 rfl HI2.out (by unfold maxLen;omega) nm rfl HOK.out (by rw [HLN.out];omega) hvk.out hnm.out ?_))
    intro w3 hset hgrow
    have HI3:=Hd hset
    have HB3:=Hd (HB2.out.grown hgrow HB2.out.size (fun q hq=>by cases hq;omega))
    have hsz3:=hgrow.size
    have HS3:=Hd (show w.heap.size+2<w3.heap.size by have:=HS2.out;omega)
    have hkeep:∀ q,q≠w.heap.size+1→q<(w1.alloc (.cells fs.toArray 72)).heap.size→w3.heap[q]?=(w1.alloc (.cells fs.toArray 72)).heap[q]?:=fun q hq hq2=>hgrow.block q hq2 (fun e=>by cases e;exact hq rfl)
    have HC3:=Hd (show w3.cell? ⟨w.heap.size+2,0,none⟩=some (.map (some (w.heap.size+1))) by
     rw [← HC2.out]
     simp only [World.cell?]
     rw [hkeep _ (by omega) HS2.out])
    have HR3:=Hd (show aj w3 w.heap.size 0 cs from fun j hj=>by
     rw [← HR2.out j hj]
     simp only [World.cell?]
     rw [hkeep _ (by omega) (by have:=HS2.out;omega)])
    clear hset hgrow hkeep hsz3 e0 z2
    go_wp2
    go_roundw
    case rel=>exact ⟨k+1,by omega,by go_num,Hd (by rw [HSN.out];exact HI3.out),HC3,HR3,HB3,HS3⟩
    case measure=>simp [intOf];omega
  ·obtain rfl:k=l.length:=by omega
   go_wp2_with fail
   go_ret
   refine ⟨w.heap.size+2,w.heap.size,rfl,⟨⟨_,HC.out,?_⟩,⟨fa,fc,HR.out.get0 c0,av.below (HB.out.mono hB) _ HA.out⟩,Nat.le_trans hB HB.out.size⟩,HB.out⟩
   have:=HI.out
   rwa [List.take_of_length_le (by rw [cE];exact Nat.le_refl _)] at this
def DE (l:List al) (s:ByteArray) (w:World) (e:Ending) (w':World):Prop:=∃ (n:Int) (b:Bool),e=.returned (.tuple #[.string s,.int .i64 n,.bool b])∧b5 l s=(if b then n else -1)∧0≤n∧Below w.heap.size w w'
set_option maxRecDepth 100000 in
set_option maxHeartbeats 3200000 in
theorem vl (ab pb:Nat) (l:List al) (s:ByteArray) (w:World) (B N:Nat) (hs:s.size≤maxLen) (hT:cI w) (h:vv ab pb l B N w) :
 Calls Tryz.prog 133 #[.string s,.pointer (some ⟨ab,0,none⟩),.pointer (some ⟨pb,0,none⟩)] w (DE l s w):=by
 obtain ⟨⟨mb,h1,h2⟩,⟨fa,fc,h3,h4⟩,h5⟩:=h
 have HT:=Hd hT
 have HI:=Hd h2
 have HA:=Hd h4
 clear h2 h4 hT
 obtain ⟨ok,hok⟩:∃ v,(jr (cu (cg l)) s.data.toList).isSome=v:=⟨_,rfl⟩
 have HOK:=Hd hok
 clear hok
 cases ok
 case true =>
  obtain ⟨i,hi⟩:=Option.isSome_iff_exists.1 HOK.out
  have HIX:=Hd (rv hi)
  have hil:i<l.length:=by have:=(mf l s).2;rw [HIX.out] at this;omega
  have HRS:=Hd (pw hil HIX.out)
  obtain ⟨b,p,rfl,hb,hget⟩:=HA.out.get (by intro h;simp [h] at hil)
  obtain ⟨fs,g1,g2⟩:=hget i hil
  obtain ⟨pa,pc,es,gh⟩:=g2.has
  have q1:w.cell? ⟨b,p+i * 19+1,none⟩=some (.slice pa l[i].params.length pc):=g1.range 1 _ gh.params
  have HIC:=Hd hi
  have hi0:(i:Int)<l.length:=by omega
  clear gh g1 g2 hget hi
  go_enter Tryz.func133,Tryz.ntmps133
  go_wp2_with (at_lookup;refine dx rfl _ _ 82 rfl Tryz.underlying82 rfl HI.out s rfl hs true HOK.out ?_;intro c hc;obtain rfl:=hc i HIC.out;clear hc)
  go_quiet (fail)
  go_wp2_with fail
  go_ret3
  exact ⟨_,true,rfl,HRS.out,by omega,⟨rfl,rfl,rfl,Nat.le_refl _,fun _ _=>rfl⟩⟩
 case false =>
  have HIX:=Hd (nh (ry (by simpa using HOK.out)))
  go_enter Tryz.func133,Tryz.ntmps133
  go_wp2_with (at_lookup;refine dx rfl _ _ 82 rfl Tryz.underlying82 rfl HI.out s rfl hs false HOK.out ?_;intro c hc;clear hc)
  refine (wF s _ HT.out).mono ?_
  rintro e w' ⟨n,b,rfl,hn,hn0,hb⟩
  have HN:=Hd hn
  have HB:=Hd hb
  clear hn hb
  go_wp2_with fail
  go_ret3
  exact ⟨n,b,rfl,by rw [HIX.out];exact HN.out,hn0,HB.out⟩
def nmC (fa:Option Addr) (n fc:Nat):List Value:=[.slice none 0 0,.int .i64 0,.slice fa n fc,.bool true]
set_option maxRecDepth 100000 in
set_option maxHeartbeats 3200000 in
theorem uj (l:List al) (fa:Option Addr) (fc:Nat) (s:ByteArray) (w:World) (B N:Nat) (hl:l.length≤65536) (hB:B≤w.heap.size) (hT:cI w) (hA:av w B N l fa) :
 Calls Tryz.prog 172 #[.agg (nmC fa l.length fc).toArray,.string s] w (DE l s w):=by
 have HA:=Hd hA
 have HT:=Hd hT
 have B0:=Hd (kY.start w (nmC fa l.length fc) 128)
 have HA1:=Hd (av.below (B0.out.low.mono hB) _ HA.out)
 have e2:=B0.out.row.get0 (j:=2) (v:=.slice fa l.length fc) rfl
 have e3:=B0.out.row.get0 (j:=3) (v:=.bool true) rfl
 clear hA hT
 obtain ⟨ix,hix⟩:∃ i,fQ l s=i:=⟨_,rfl⟩
 have HIX:=Hd hix
 have hrg:=mf l s
 rw [hix] at hrg
 obtain ⟨hr1,hr2⟩:=hrg
 clear hix
 by_cases h0:0≤ix
 ·obtain ⟨i,rfl⟩:∃ i:Nat,ix=i:=⟨ix.toNat,by omega⟩
  have hil:i<l.length:=by omega
  have HRS:=Hd (pw hil HIX.out)
  obtain ⟨b,p,rfl,hb,hget⟩:=HA1.out.get (by intro h;simp [h] at hil)
  obtain ⟨fs,g1,g2⟩:=hget i hil
  obtain ⟨pa,pc,es,gh⟩:=g2.has
  have q1:=g1.range 1 _ gh.params
  clear gh g1 g2 hget h0 hr1 hr2
  go_enter Tryz.func172,Tryz.ntmps172
  go_wp2_with fail
  refine (ig l s _ fc _ B N (by omega) HA1.out).mono ?_
  rintro e w' ⟨rfl,rfl⟩
  rw [HIX.out]
  go_wp2_with fail
  go_quiet (fail)
  go_wp2_with fail
  go_ret3
  exact ⟨_,true,rfl,HRS.out,by omega,B0.out.low.trans ⟨rfl,rfl,rfl,Nat.le_refl _,fun _ _=>rfl⟩⟩
 ·obtain rfl:ix=-1:=by omega
  have HRS:=Hd (nh HIX.out)
  clear h0 hr1 hr2
  go_enter Tryz.func172,Tryz.ntmps172
  go_wp2_with fail
  refine (ig l s _ fc _ B N (by omega) HA1.out).mono ?_
  rintro e w' ⟨rfl,rfl⟩
  rw [HIX.out]
  go_wp2_with fail
  refine (wE s _ (HT.out.below B0.out.low)).mono ?_
  rintro e w' ⟨n,b,rfl,hn,hn0,hb⟩
  have HN:=Hd hn
  have HB:=Hd (ae B0.out.low hb)
  clear hn hb
  go_wp2_with fail
  go_ret3
  exact ⟨n,b,rfl,by rw [HRS.out];exact HN.out,hn0,HB.out⟩
end Go.Proofs.YtiefeajappjnbaaGreatDoor
