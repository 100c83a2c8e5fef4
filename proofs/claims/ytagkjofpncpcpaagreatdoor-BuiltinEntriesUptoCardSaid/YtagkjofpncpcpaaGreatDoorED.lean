/- What builtin.entries keeps from round to round: its result's row, the row of its map, the map of places, the fields, a slice of its own. -/
import Derived.Test.YtagkjofpncpcpaaGreatDoorProg
import Derived.Test.YtagkjofpncpcpaaGreatDoorGA
import Derived.Test.YtagkjofpncpcpaaGreatDoorGB
import Derived.Test.YtagkjofpncpcpaaGreatDoorGC
import Derived.Test.YtagkjofpncpcpaaGreatDoorGD
import Derived.Test.YtagkjofpncpcpaaGreatDoorRow36
import Derived.Test.YtagkjofpncpcpaaGreatDoorXD
import Derived.Test.YtagkjofpncpcpaaGreatDoorXE
import Derived.Test.YtagkjofpncpcpaaGreatDoorXK
import Derived.Test.YtagkjofpncpcpaaGreatDoorAD
import Derived.Test.YtagkjofpncpcpaaGreatDoorAE
import Derived.Test.YtagkjofpncpcpaaGreatDoorAF
import Derived.Test.YtagkjofpncpcpaaGreatDoorJA
import Derived.Test.YtagkjofpncpcpaaGreatDoorEA
import Derived.Test.YtagkjofpncpcpaaGreatDoorEB
import Derived.Test.YtagkjofpncpcpaaGreatDoorEC
namespace Go.Proofs.YtagkjofpncpcpaaGreatDoor
namespace Stb
end Stb
open Go.RowKit Go.Maps Stb
structure EntS (w W:World) (B N r p mb H:Nat) (KL:List (List UInt8)) (n:Nat) (xs:List Value) (L:List (ByteArray×ValD)) (v:Value):Prop where
 below:Below w.heap.size w W
 res:RowAt W r zeroV.toList
 row:RowT 30 W p (mapV v)
 own:W.ownsRow H 41 14 v n xs
 idx:IdxAt W mb KL.length KL
 rows:∃ ys,(n=L.length→ys=xs)∧RowsG 14 (rowFE N) B H W v.ownBlock L ys
 size:H≤W.heap.size
structure EntP (w:World) (B r p mb H:Nat):Prop where
 hB:B≤w.heap.size
 hr:w.heap.size≤r
 hp:w.heap.size≤p
 hm:w.heap.size≤mb
 rH:r<H
 pH:p<H
 mH:mb<H
 rp:r≠p
 rm:r≠mb
 pm:p≠mb
section
variable {w W W':World} {B N r p mb H n:Nat} {KL:List (List UInt8)} {xs ys:List Value} {L:List (ByteArray×ValD)} {v v':Value}
theorem EntS.later (h:EntS w W B N r p mb H KL n xs L v) (q:EntP w B r p mb H) (hb:Below W.heap.size W W'):EntS w W' B N r p mb H KL n xs L v:=by
 obtain ⟨ys,e,hy⟩:=h.rows
 exact ⟨belowThen h.below hb,h.res.below hb (Nat.lt_of_lt_of_le q.rH h.size),h.row.then hb,own_below' h.own hb,h.idx.later hb,⟨ys,e,hy.below hb⟩,Nat.le_trans h.size hb.size⟩
theorem EntS.mapPut {K':List (List UInt8)} (h:EntS w W B N r p mb H KL n xs L v) (q:EntP w B r p mb H) (hg:W.grownBy W' (some mb)) (hi:IdxAt W' mb K'.length K'):EntS w W' B N r p mb H K' n xs L v:=by
 obtain ⟨ys,e,hy⟩:=h.rows
 have hs:∀ k,k<W.heap.size→k≠mb→W'.heap[k]?=W.heap[k]?:=fun k hk hne=>hg.block k hk (fun e=>by cases e;exact hne rfl)
 refine ⟨h.below.grown hg h.below.size (fun k hk=>by cases hk;exact q.hm),(hs r (Nat.lt_of_lt_of_le q.rH h.size) q.rm).trans h.res,(hs p h.row.lt q.pm).trans h.row,
  own_blk h.own (fun k hk=>hs k (h.own.lt k hk).2 (by have:=(h.own.lt k hk).1;have:=q.mH;omega)),hi,⟨ys,e,?_⟩,Nat.le_trans h.size hg.size⟩
 exact hy.step hg.os hg.tape hg.output hg.size (fun k hk hor=>hs k hk (by have:=q.mH;have:=q.hm;have:=q.hB;rcases hor with h | h<;>omega)) (.inl rfl)
theorem EntS.push {S E:Nat} {k:ByteArray} {x:ValD} {ds:List Value} (h:EntS w W B N r p mb H KL n xs L v) (hn:n=L.length) (hS:H≤S) (hE:E≤W.heap.size) (ho:∀ q,v.ownBlock=some q→q<S∨E≤q) (hk:k.size≤N) (hl:ds.length=13) (hx:Kept B S E W (fun c=>ValD.At c c.heap.size N x ds)) :
 RowsG 14 (rowFE N) B H W v.ownBlock (L++[(k,x)]) (xs++(.string k::ds)):=by
 obtain ⟨ys,e,hy⟩:=h.rows
 obtain rfl:=e hn
 exact hy.push (by simp [hl]) hS hE ho (hx.imp fun c hc=>⟨ds,rfl,hk,hc⟩)
theorem EntS.slice {L':List (ByteArray×ValD)} {n':Nat} {xs':List Value} (h2:EntS w W B N r p mb H KL n xs L v) (q:EntP w B r p mb H) (hn':RowsG 14 (rowFE N) B H W v.ownBlock L' xs')
 (ho:W'.ownsRow H 41 14 v' n' xs') (hg:W.grownBy W' v.ownBlock)
 (hap:v'.ownBlock=v.ownBlock∨v'.ownBlock=some W.heap.size):EntS w (W'.setCell ⟨p,12,none⟩ v') B N r p mb H KL n' xs' L' v':=by
 have hlt:∀ k,v.ownBlock=some k→H≤k:=fun k hk=>(h2.own.lt k hk).1
 have hs:∀ k,k<H→W'.heap[k]?=W.heap[k]?:=fun k hk=>hg.block k (Nat.lt_of_lt_of_le hk h2.size) (fun e=>by have:=hlt k e.symm;omega)
 have hv':∀ k,v'.ownBlock=some k→H≤k:=fun k hk=>by
  rcases hap with e | e
  ·exact hlt k (by rw [← e];exact hk)
  ·rw [hk] at e
   cases e
   exact h2.size
 have hso:∀ k,k≠p→(W'.setCell ⟨p,12,none⟩ v').heap[k]?=W'.heap[k]?:=fun k hk=>heap_setCell_other _ _ _ _ hk
 have hsz:(W'.setCell ⟨p,12,none⟩ v').heap.size=W'.heap.size:=by simp [World.setCell]
 have hr:RowT 30 W' p (mapV v):=(hs p q.pH).trans h2.row
 have hB2:=q.hB
 refine ⟨below_set (h2.below.grown hg h2.below.size (fun k hk=>by have:=hlt k hk;have:=q.hp;have:=q.pH;omega)) q.hp _,(hso r q.rp).trans ((hs r q.rH).trans h2.res),hr.set 12 v',own_blk ho (fun k hk=>hso k (by have:=hv' k hk;have:=q.pH;omega)),
  (h2.idx.block (hs mb q.mH)).block (hso mb (fun e=>q.pm e.symm)),⟨xs',fun _=>rfl,?_⟩,by rw [hsz];exact Nat.le_trans h2.size hg.size⟩
 have h3:=hn'.grown hg (fun k hk=>by have:=hlt k hk;have:=q.pH;have:=q.hp;omega) hap
 exact h3.step rfl rfl rfl (by rw [hsz];exact Nat.le_refl _) (fun k _ hor=>hso k (by have:=q.pH;have:=q.hp;rcases hor with h | h<;>omega)) (.inl rfl)
theorem EntS.fieldsAt {ad:Option Addr} {cp:Nat} (h:EntS w W B N r p mb H KL n xs L (.slice ad n cp)) (hn:n=L.length):FieldsAt W W.heap.size N L ad:=by
 obtain ⟨ys,e,hy⟩:=h.rows
 obtain rfl:=e hn
 obtain ⟨a,c,e2,h2⟩:=fieldsAt_own h.own hn.symm (Nat.le_refl _) (fun i hi=>hy.done i hi)
 cases e2
 exact h2
end
end Go.Proofs.YtagkjofpncpcpaaGreatDoor

/- builtin.entries: the map of what to_entries makes of a map. -/
namespace Go.Proofs.YtagkjofpncpcpaaGreatDoor
open Go.RowKit Go.Maps Stb
theorem wpList_builtF {P:Program} {ops:Array Oper} {rest:List Oper} {o:Oper} {a:Act} {w:World} {Q:Exit→Act→World→Prop} (hg:o.guard=none) (t:TypeId) (parts:Array (Nat×Operand)) (ho:o.op=.build t parts) (cells:Array Value)
 (hf:P.built t (parts.map fun (i,x)=>(i,a.eval x)).toList=some cells) (h:wpList P ops Q rest (a.put o.dst (.agg cells)) w):wpList P ops Q (o::rest) a w :=
 wpList_plain hg fun _ hK=>wp_builtF t parts ho cells hf (hK _ _ h)
theorem keysE_len {l:List (ByteArray×ValD)} {k:Nat} (h:k≤l.length):(keysL (l.take k)).length=k:=by unfold keysL;rw [List.length_map,List.length_take];omega
theorem keysE_s {l:List (ByteArray×ValD)} {k:Nat} (h:k<l.length):keysL (l.take (k+1))=keysL (l.take k)++[l[k].1.data.toList]:=by unfold keysL;rw [List.take_succ_eq_append_getElem h,List.map_append];rfl
theorem EntP.of {w:World} {B:Nat} (h:B≤w.heap.size):EntP w B w.heap.size (w.heap.size+1) (w.heap.size+2) (w.heap.size+3):=by constructor<;>omega
theorem EntS.start {w:World} {B N:Nat}:EntS w (((w.alloc (.cells zeroV 30)).alloc (.cells (mapV (.slice none 0 0)).toArray 30)).alloc (.map #[] 0)) B N w.heap.size (w.heap.size+1) (w.heap.size+2) (w.heap.size+3) (keysL []) 0 [] [] (.slice none 0 0):=by
 have h1:(w.alloc (.cells zeroV 30)).heap.size=w.heap.size+1:=World.size_alloc ..
 have h2:((w.alloc (.cells zeroV 30)).alloc (.cells (mapV (.slice none 0 0)).toArray 30)).heap.size=w.heap.size+2:=by rw [World.size_alloc,h1]
 refine ⟨belowThen (belowThen (belowBox w _) (belowBox _ _)) (belowBox _ _),?_,?_,World.ownsRow_nil _ _ _ _,?_,⟨[],fun _=>rfl,RowsG.nil⟩,by rw [World.size_alloc,h2];exact Nat.le_refl _⟩
 ·have h:RowAt (w.alloc (.cells zeroV 30)) w.heap.size zeroV.toList:=heap_alloc_new w _
  exact (h.alloc (by rw [h1];omega) _).alloc (by rw [h2];omega) _
 ·have h:=RowT.new (w.alloc (.cells zeroV 30)) 30 (mapV (.slice none 0 0))
  rw [h1] at h
  exact h.alloc _
 ·have h:=IdxAt.made ((w.alloc (.cells zeroV 30)).alloc (.cells (mapV (.slice none 0 0)).toArray 30))
  rw [h2] at h
  exact h
set_option maxRecDepth 100000 in
set_option maxHeartbeats 6400000 in
theorem entries_p (l:List (ByteArray×ValD)) (L:List ValD) (hL:L=l.map fun f=>entD f.1 f.2) (w:World) (B Bo N:Nat) (la:Option Addr) (lc:Nat) (hN:N≤4294967296) (hf:∀ f∈l,fitsV 45 f.2) (hd:(keysL l).Nodup) (hks:∀ f∈l,f.1.size≤N) (hlN:L.length≤N)
 (hB:B≤w.heap.size) (hBo:Bo≤w.heap.size) (hv:ValsAt w B N L la):Calls Tryz.prog 88 #[.slice la L.length lc] w (ResR Bo N (resD (mapD l)) w):=by
 obtain ⟨z0,hz0s,hinfo⟩:=infoF
 obtain ⟨i0,hi,hz0,hz1,hz2⟩:=info_parts hinfo
 have HZS:=Hd hz0s
 have HI:=Hd hi
 have HZ0:=Hd hz0
 have HZ1:=Hd hz1
 have HZ2:=Hd hz2
 clear hinfo hz0s hi hz0 hz1 hz2
 have HA:=Hd hv
 have HF:=Hd hf
 have HD:=Hd hd
 have HKS:=Hd hks
 have HLE:=Hd hL
 have hll:L.length=l.length:=by rw [hL,List.length_map]
 have HLL:=Hd hll
 have EP:=Hd (EntP.of hB)
 have HS0:=Hd (EntS.start (w:=w) (B:=B) (N:=N))
 have hmm:=@run_makeMap Tryz.prog
 clear hv hf hd hks hL hll
 go_enter Tryz.func88,Tryz.ntmps88
 go_wp2_with fail
 clear hmm
 go_simp
 go_loopw [18] (fun i wr=>∃ (k:Nat) (xs:List Value) (ad:Option Addr) (cp:Nat),k≤L.length∧i=.int .i64 k∧Hid (EntS w wr B N w.heap.size (w.heap.size+1) (w.heap.size+2) (w.heap.size+3) (keysL (l.take k)) k xs (l.take k) (.slice ad k cp))) (fun i _=>L.length-(intOf i).toNat)
 case atStart=>exact ⟨0,[],none,0,by omega,rfl,HS0⟩
 case round =>
  clear HS0
  obtain ⟨wa,hwa⟩:∃ wa,wa=wr:=⟨_,rfl⟩
  subst wr
  obtain ⟨k,xs,ad,cp,hk,rfl,HE⟩:=hrel
  by_cases hlt:k<L.length
  ·have hkl:k<l.length:=by rw [← HLL.out];exact hlt
   obtain ⟨b1,o1,rfl,hb1,hget1⟩:=HA.out.get (by intro h;rw [h] at hlt;simp at hlt)
   obtain ⟨cs1,h1,h2⟩:=hget1 k hlt
   obtain ⟨ky,hky⟩:∃ ky,ky=l[k].1:=⟨_,rfl⟩
   obtain ⟨x,hx⟩:∃ x,x=l[k].2:=⟨_,rfl⟩
   have hxe:L[k]=entD ky x:=by simp only [HLE.out,List.getElem_map,hky,hx]
   rw [hxe] at h2
   have HKY:=Hd (show ky.size≤N by rw [hky];exact HKS.out _ (List.getElem_mem hkl))
   have HKZ:=Hd (show ky.size≤maxLen by rw [hky];have:=HKS.out _ (List.getElem_mem hkl);unfold maxLen;omega)
   have HFX:=Hd (show fitsV 47 (entD ky x) from entD_fits (by rw [hx];exact HF.out _ (List.getElem_mem hkl)))
   have HTK:=Hd (show l.take (k+1)=l.take k++[(ky,x)] by rw [List.take_succ_eq_append_getElem hkl,hky,hx])
   have HKT:=Hd (show keysL (l.take (k+1))=keysL (l.take k)++[ky.data.toList] by rw [hky];exact keysE_s hkl)
   have HKL:=Hd (show (keysL (l.take k)).length=k from keysE_len (by omega))
   have HEX:=Hd (show (ixOf (keysL (l.take k)) ky.data.toList).isSome=false by rw [ixOf_none (by rw [hky];exact keysL_new HD.out hkl)];rfl)
   have HTL:=Hd (show (l.take k).length=k by rw [List.length_take];omega)
   have hvk:=Hd (show (Value.int .i64 (k:Int))=.int .i64 ((keysL (l.take k)).length:Int) by rw [HKL.out])
   have HFK:=Hd (show fldP ⟨#[107,101,121]⟩ (entD ky x).fields=(textD ky,true) from fldP_key ky x)
   have HFV:=Hd (show fldP ⟨#[118,97,108,117,101]⟩ (entD ky x).fields=(x,true) from fldP_val ky x)
   have HBW:=Hd (HE.out.below)
   have HR:=Hd (h1.below (HBW.out.mono hB) hb1).range
   have HV1:=Hd (h2.below (HBW.out.mono hB))
   have HL1:=Hd h2.len
   have hi1:=Hd (show (Tryz.prog.info? 30).map (·.size)=some cs1.length by rw [h2.len];exact sizeV)
   have R1:=Hd (RowT.new wa 30 cs1)
   have E1:=Hd (HE.out.later EP.out (belowBox wa (.cells cs1.toArray 30)))
   have HB1:=Hd (show B≤(wa.alloc (.cells cs1.toArray 30)).heap.size from Nat.le_trans hB (E1.out.below).size)
   have HS1:=Hd (show (wa.alloc (.cells cs1.toArray 30)).heap.size=wa.heap.size+1 from World.size_alloc ..)
   clear hky hx hxe h1 h2 hget1 hkl
   go_wp2_with (first
    | ((with_reducible show wpList _ _ _ (⟨some 21,_,_,_,_,_⟩::_) _ _);refine wpList_load_mid rfl 30 _ rfl b1 (o1+k * 13) rfl cs1 _ HR.out Tryz.underlying30 rfl hi1.out ?_)
    | ((with_reducible show wpList _ _ _ (⟨none,.store 30 (.tmp 7) (.tmp 21),_,_,_,_⟩::_) _ _);refine wpList_store_new rfl 30 _ _ rfl zeroV cs1.toArray rfl rfl (row_size HL1.out) (row_zero HL1.out) (Go.all_oneCell_toArray HV1.out.oneCell) ?_)
    | ((with_reducible show wpList _ _ _ (⟨some 23,_,_,_,_,_⟩::_) _ _);refine wpList_load_mid rfl 30 _ rfl wa.heap.size 0 rfl cs1 _ R1.out.range Tryz.underlying30 rfl hi1.out ?_))
   refine (field_b 46 (entD ky x) ⟨#[107,101,121]⟩ _ B N cs1 (by omega) HFX.out hN HB1.out rfl (HV1.out.below ((belowBox wa _).mono (Nat.le_trans hB HBW.out.size)))).mono ?_
   rw [HFK.out]
   rintro e w2 ⟨ks,rfl,hsol,hb⟩
   have hks:=hsol.here
   obtain ⟨_,_,_,_,_,_,hkh⟩:=hks.has
   have HKV:=Hd hks
   have HLK:=Hd hks.len
   have R2:=Hd ((R1.out.then hb).alloc (.cells ks.toArray 30))
   have K2:=Hd (RowT.new w2 30 ks)
   have kk0:=K2.out.cell (show ks[0]?=some (.int .i64 4) from hkh.kind)
   have HK9:=Hd (show ks[9]?=some (.string ky) from hkh.text)
   have E2:=Hd ((E1.out.later EP.out hb).later EP.out (belowBox w2 (.cells ks.toArray 30)))
   have hs2:=Hd (show wa.heap.size+1≤w2.heap.size by have h:=hb.size;rw [HS1.out] at h;exact h)
   have HB2:=Hd (show B≤(w2.alloc (.cells ks.toArray 30)).heap.size from Nat.le_trans hB (E2.out.below).size)
   have HS2:=Hd (show (w2.alloc (.cells ks.toArray 30)).heap.size=w2.heap.size+1 from World.size_alloc ..)
   have HV2:=Hd (HV1.out.below (((belowThen (belowThen (belowBox wa (.cells cs1.toArray 30)) hb) (belowBox w2 (.cells ks.toArray 30)))).mono (Nat.le_trans hB HBW.out.size)))
   clear hks hkh hsol hb
   dsimp only
   go_wp2_with (first
    | ((with_reducible show wpList _ _ _ (⟨none,.store 30 (.tmp 8) (.tmp 25),_,_,_,_⟩::_) _ _);refine wpList_store_new rfl 30 _ _ rfl zeroV ks.toArray rfl rfl (row_size HLK.out) (row_zero HLK.out) (Go.all_oneCell_toArray HKV.out.oneCell) ?_)
    | ((with_reducible show wpList _ _ _ (⟨some 36,_,_,_,_,_⟩::_) _ _);refine wpList_load_mid rfl 30 _ rfl wa.heap.size 0 rfl cs1 _ R2.out.range Tryz.underlying30 rfl hi1.out ?_))
   refine (field_b 46 (entD ky x) ⟨#[118,97,108,117,101]⟩ _ B N cs1 (by omega) HFX.out hN HB2.out rfl HV2.out).mono ?_
   rw [HFV.out]
   rintro e w3 ⟨vs,rfl,hsol,hb⟩
   have HSOL:=Hd (show Solid B (w2.alloc (.cells ks.toArray 30)).heap.size w3 (fun c=>ValD.At c c.heap.size N x vs) from hsol)
   have HVV:=Hd (show ValD.At w3 w3.heap.size N x vs from hsol.here)
   have HLV:=Hd (show vs.length=13 from hsol.here.len)
   have hiv:=Hd (show (Tryz.prog.info? 30).map (·.size)=some vs.length by rw [HLV.out];exact sizeV)
   have K3:=Hd ((K2.out.then hb).alloc (.cells vs.toArray 30))
   have V3:=Hd (RowT.new w3 30 vs)
   have E3:=Hd ((E2.out.later EP.out hb).later EP.out (belowBox w3 (.cells vs.toArray 30)))
   have hs3:=Hd (show w2.heap.size+1≤w3.heap.size by have h:=hb.size;rw [HS2.out] at h;exact h)
   have y9:=K3.out.cell HK9.out
   have p12:=E3.out.row.cell (j:=12) rfl
   have G3:=Hd (show Kept B (w2.heap.size+1) w3.heap.size (w3.alloc (.cells vs.toArray 30)) (fun c=>ValD.At c c.heap.size N x vs) from by
    have k1:=Kept.of_solid HSOL.out
    rw [HS2.out] at k1
    exact k1.below (belowBox w3 _))
   clear hsol hb kk0
   dsimp only
   go_wp2_with (first
    | ((with_reducible show wpList _ _ _ (⟨none,.store 30 (.tmp 10) (.tmp 38),_,_,_,_⟩::_) _ _);refine wpList_store_new rfl 30 _ _ rfl zeroV vs.toArray rfl rfl (row_size HLV.out) (row_zero HLV.out) (Go.all_oneCell_toArray HVV.out.oneCell) ?_)
    | (at_lookup;refine wpList_look_idx rfl _ _ 176 rfl Tryz.underlying176 rfl E3.out.idx ky rfl HKZ.out false HEX.out ?_;intro c' hc';clear hc')
    | (at_mapUpdate;refine wpList_put_idx rfl _ _ _ 176 rfl Tryz.underlying176 rfl E3.out.idx (by rw [HKL.out];unfold maxLen;omega) ky rfl HEX.out (by rw [HKL.out];omega) hvk.out HKZ.out ?_))
   intro w4 hset hgrow
   have E4:=Hd (E3.out.mapPut EP.out (K':=keysL (l.take (k+1))) hgrow (by rw [HKT.out,List.length_append];exact hset))
   have hsz4:=Hd (show w3.heap.size+1≤w4.heap.size by have h:=hgrow.size;rw [World.size_alloc] at h;exact h)
   have HSH:=Hd (show w.heap.size+3≤wa.heap.size from HE.out.size)
   have K4:=Hd (show RowT 30 w4 w2.heap.size ks from (hgrow.block _ K3.out.lt (fun e=>by have:=Option.some.inj e;have:=hs2.out;have:=HSH.out;omega)).trans K3.out)
   have V4:=Hd (show RowT 30 w4 w3.heap.size vs from (hgrow.block _ V3.out.lt (fun e=>by have:=Option.some.inj e;have:=hs2.out;have:=hs3.out;have:=HSH.out;omega)).trans V3.out)
   have G4:=Hd (show Kept B (w2.heap.size+1) w3.heap.size w4 (fun c=>ValD.At c c.heap.size N x vs) from G3.out.step hgrow.os hgrow.tape hgrow.output hgrow.size fun q hq hor=>hgrow.block q hq (fun e=>by cases e;have:=hs2.out;have:=HSH.out;omega))
   have y9:=K4.out.cell HK9.out
   have p12:=E4.out.row.cell (j:=12) rfl
   have HBF:=Hd (builtF ky vs HLV.out)
   have HON:=Hd (show ∀ u∈(Value.string ky::vs),u.oneCell'=true from fun u hu=>by
    rcases List.mem_cons.1 hu with rfl | hu
    ·rfl
    ·exact HVV.out.oneCell u hu)
   have HL14:=Hd (show (Value.string ky::vs).length=14 by rw [List.length_cons,HLV.out])
   have E5:=Hd (E4.out.later EP.out (belowBox w4 (.cells (Value.string ky::vs).toArray 41)))
   have HS5:=Hd (show (w4.alloc (.cells (Value.string ky::vs).toArray 41)).heap.size=w4.heap.size+1 from World.size_alloc ..)
   have G5:=Hd (show RowsG 14 (rowFE N) B (w.heap.size+3) (w4.alloc (.cells (Value.string ky::vs).toArray 41)) (Value.slice ad k cp).ownBlock (l.take (k+1)) (xs++(Value.string ky::vs)) from by
    rw [HTK.out]
    refine E5.out.push HTL.out.symm (S:=w2.heap.size+1) (E:=w3.heap.size) (by have:=hs2.out;have:=HSH.out;omega) (by rw [HS5.out];have:=hsz4.out;omega) (fun q hq=>.inl (by have:=(HE.out.own.lt q hq).2;have:=hs2.out;omega)) HKY.out HLV.out ?_
    exact G4.out.below (belowBox w4 _))
   clear hset hgrow
   go_wp2_with (first
    | ((with_reducible show wpList _ _ _ (⟨some 64,_,_,_,_,_⟩::_) _ _);refine wpList_load_mid rfl 30 _ rfl w3.heap.size 0 rfl vs _ V4.out.range Tryz.underlying30 rfl hiv.out ?_)
    | ((with_reducible show wpList _ _ _ (⟨some 65,_,_,_,_,_⟩::_) _ _);refine wpList_builtF rfl 41 _ rfl (Value.string ky::vs).toArray (by rw [List.map_toArray];exact HBF.out) ?_)
    | ((with_reducible show wpList _ _ _ (⟨some 66,_,_,_,_,_⟩::_) _ _);refine wpList_rowsF rfl [Value.string ky::vs] (Value.string ky::vs) (by simp) 1 _ rfl rfl (by decide) (by decide) (by intro r hr;simp at hr;rw [hr];exact HL14.out) (by rw [List.map_toArray];rfl) ?_)
    | (at_builtin;refine wpList_append_own_at _ rfl _ _ 28 rfl (w.heap.size+3) 41 i0 (.agg z0) 14 184 Tryz.underlying28 HI.out HZ0.out HZ1.out HZ2.out HZS.out (by decide) _ _ _ rfl E5.out.own ⟨w4.heap.size,0,none⟩ 1 1 (Value.string ky::vs) rfl (by rw [HL14.out]) (new_cells w4 (Value.string ky::vs) _) HON.out ?qb4 ?qb5 ?qb6 ?_))
   case qb4=>unfold maxLen;omega
   case qb5=>omega
   case qb6=>exact E5.out.size
   intro v' w6 hown6 hgrow6 _ hap6
   have HRP:=Hd (show RowT 30 w6 (w.heap.size+1) (mapV (.slice ad k cp)) from (hgrow6.block _ E5.out.row.lt (fun e=>by have:=(E5.out.own.lt _ e.symm).1;omega)).trans E5.out.row)
   have q12:=HRP.out.cell (j:=12) rfl
   have z12:=HRP.out.frozen 12
   obtain ⟨ad2,cp2,rfl⟩:=own_slice hown6
   have E6:=Hd (E5.out.slice EP.out G5.out hown6 hgrow6 (by rw [HS5.out];exact hap6))
   clear hown6 hgrow6 hap6 y9 p12
   go_wp2_with fail
   go_roundw
   case rel=>exact ⟨k+1,xs++(Value.string ky::vs),ad2,cp2,by omega,by go_num,E6⟩
   case measure=>simp [intOf];omega
  ·have hke:k=l.length:=by rw [← HLL.out];omega
   have HTA:=Hd (show l.take k=l from List.take_of_length_le (by omega))
   have HFA:=Hd (show FieldsAt wa wa.heap.size N l ad from by
    have h:=HE.out.fieldsAt (by rw [HTA.out];exact hke)
    rwa [HTA.out] at h)
   have HAT:=Hd (show ValD.At wa wa.heap.size N (mapD l) (mapV (.slice ad k cp)) from by
    rw [hke]
    exact mapE_at cp (by have:=HLL.out;omega) HFA.out)
   have HFT:=Hd (show fitsV 46 (mapD l) from ⟨fun x hx=>(by cases hx),HF.out⟩)
   have HR:=Hd (HE.out.row)
   have HZ:=Hd (HE.out.res)
   have HBB:=Hd (HE.out.below)
   have HSZ:=Hd (HE.out.size)
   have hs2:=Hd (show (Tryz.prog.info? 30).map (·.size)=some (mapV (.slice ad k cp)).length from sizeV)
   clear hke
   go_wp2_with ((with_reducible show wpList _ _ _ (⟨some 70,_,_,_,_,_⟩::_) _ _);refine wpList_load_mid rfl 30 _ rfl (w.heap.size+1) 0 rfl (mapV (.slice ad k cp)) _ HR.out.range Tryz.underlying30 rfl hs2.out ?_)
   refine (valid_prog_b 46 (mapD l) _ wa.heap.size Bo N (mapV (.slice ad k cp)) (by omega) HFT.out hN (Nat.le_refl _) HAT.out).mono ?_
   rintro e wE ⟨rs,rfl,hsol,hb⟩
   obtain ⟨r,hr⟩:∃ r,r=resD (mapD l):=⟨_,rfl⟩
   rw [← hr] at hsol ⊢
   have HRE:=Hd hr
   have hlen:=hsol.here.len
   have AT:=Hd hsol.here
   have S1:=Hd hsol
   have HBE:=Hd (show Below w.heap.size w wE from belowThen HBB.out hb)
   have ZE:=Hd (HZ.out.below hb (by have:=HSZ.out;omega))
   clear hsol hb hr
   obtain ⟨rv,rk⟩:=r
   go_wp2_with ((with_reducible show wpList _ _ _ (⟨none,.store 30 (.tmp 2) _,_,_,_,_⟩::_) _ _);refine wpList_store_row rfl 30 _ _ rfl w.heap.size rs.toArray rfl rfl 30 zeroV ZE.out (row_size hlen) (row_zero hlen) (row_ones AT.out) ?_)
   refine bodyPost_ret (results_cell_row2 rfl _ _ w.heap.size 30 _ (0,0) _ rfl (setRow_heap _ _ _ _ _ _ ZE.out) Tryz.underlying30 rfl (row_size hlen)) rfl ?_
   rw [← HRE.out]
   refine ⟨rs,rfl,fun d hd=>S1.out d ?_,below_setRow HBE.out (Nat.le_refl _) _⟩
   exact (Apart.of_setRow0 rs.toArray (by omega) (by have:=HSZ.out;omega)).after hd (by have:=HSZ.out;omega)
end Go.Proofs.YtagkjofpncpcpaaGreatDoor
