/- builtin.lists at from_entries, Apply at to_entries and at from_entries. -/
import Derived.Test.YtagkjofpncpcpaaGreatDoorProg
import Derived.Test.YtagkjofpncpcpaaGreatDoorGA
import Derived.Test.YtagkjofpncpcpaaGreatDoorGB
import Derived.Test.YtagkjofpncpcpaaGreatDoorGC
import Derived.Test.YtagkjofpncpcpaaGreatDoorGD
import Derived.Test.YtagkjofpncpcpaaGreatDoorRow36
import Derived.Test.YtagkjofpncpcpaaGreatDoorXD
import Derived.Test.YtagkjofpncpcpaaGreatDoorXK
import Derived.Test.YtagkjofpncpcpaaGreatDoorAE
import Derived.Test.YtagkjofpncpcpaaGreatDoorAF
import Derived.Test.YtagkjofpncpcpaaGreatDoorJA
import Derived.Test.YtagkjofpncpcpaaGreatDoorEA
import Derived.Test.YtagkjofpncpcpaaGreatDoorEC
import Derived.Test.YtagkjofpncpcpaaGreatDoorED
import Derived.Test.YtagkjofpncpcpaaGreatDoorNam37
namespace Go.Proofs.YtagkjofpncpcpaaGreatDoor
open Go.RowKit
theorem arity_te (w:World) (h:TabAt w):Calls Tryz.prog 13 #[.string ⟨#[116,111,95,101,110,116,114,105,101,115]⟩] w (fun e w'=>e=.returned (.tuple #[.int .i64 0,.bool true])∧Below w.heap.size w w'):=by
 refine (arity_prog37 ⟨#[116,111,95,101,110,116,114,105,101,115]⟩ w h).mono ?_
 rintro e w' ⟨rfl,hb⟩
 refine ⟨?_,hb⟩
 have h1:arN (⟨#[116,111,95,101,110,116,114,105,101,115]⟩:ByteArray).toList=0:=by rw [ByteArray.toList_eq];decide
 have h2:arB (⟨#[116,111,95,101,110,116,114,105,101,115]⟩:ByteArray).toList=true:=by rw [ByteArray.toList_eq];decide
 rw [h1,h2]
theorem arity_fe (w:World) (h:TabAt w):Calls Tryz.prog 13 #[.string ⟨#[102,114,111,109,95,101,110,116,114,105,101,115]⟩] w (fun e w'=>e=.returned (.tuple #[.int .i64 0,.bool true])∧Below w.heap.size w w'):=by
 refine (arity_prog37 ⟨#[102,114,111,109,95,101,110,116,114,105,101,115]⟩ w h).mono ?_
 rintro e w' ⟨rfl,hb⟩
 refine ⟨?_,hb⟩
 have h1:arN (⟨#[102,114,111,109,95,101,110,116,114,105,101,115]⟩:ByteArray).toList=0:=by rw [ByteArray.toList_eq];decide
 have h2:arB (⟨#[102,114,111,109,95,101,110,116,114,105,101,115]⟩:ByteArray).toList=true:=by rw [ByteArray.toList_eq];decide
 rw [h1,h2]
set_option maxRecDepth 100000 in
set_option maxHeartbeats 6400000 in
theorem apply_te (v:ValD) (w:World) (B N:Nat) (cs:List Value) (h7:v.kind=7) (hf:fitsV 46 v) (hN5:5≤N) (hN:N≤4294967296) (hks:∀ f∈v.fields,f.1.size≤N) (hB:B≤w.heap.size) (hv:ValD.At w B N v cs) (ht:TabAt w) :
 Calls Tryz.prog 7 #[.string ⟨#[116,111,95,101,110,116,114,105,101,115]⟩,.agg cs.toArray,.slice none 0 0] w (ResR B N (resD (entsD v.fields)) w):=by
 have hz1:=Hd (show (Tryz.prog.info? 30).map (·.size)=some cs.length by rw [hv.len];exact sizeV)
 have HV:=Hd hv
 have HF:=Hd hf
 have H7:=Hd h7
 have HKS:=Hd hks
 have HTB:=Hd ht
 have HT0:=Hd (show (Below w.heap.size w ((w.alloc (.cells cs.toArray 30)).alloc (.cells #[.int .i64 0,.bool false,.bool false,.string ⟨#[]⟩,.int .i64 0,.int .i64 0,.int .i64 0,.int .i64 0,.int .i64 0,.string ⟨#[]⟩,.slice none 0 0,.slice none 0 0,.slice none 0 0] 30))∧RowAt ((w.alloc (.cells cs.toArray 30)).alloc (.cells #[.int .i64 0,.bool false,.bool false,.string ⟨#[]⟩,.int .i64 0,.int .i64 0,.int .i64 0,.int .i64 0,.int .i64 0,.string ⟨#[]⟩,.slice none 0 0,.slice none 0 0,.slice none 0 0] 30)) (w.heap.size+1) zeroV.toList)∧RowT 30 ((w.alloc (.cells cs.toArray 30)).alloc (.cells #[.int .i64 0,.bool false,.bool false,.string ⟨#[]⟩,.int .i64 0,.int .i64 0,.int .i64 0,.int .i64 0,.int .i64 0,.string ⟨#[]⟩,.slice none 0 0,.slice none 0 0,.slice none 0 0] 30)) w.heap.size cs from by
  refine ⟨⟨belowThen (belowBox w _) (belowBox _ _),?_⟩,(RowT.new w 30 cs).alloc _⟩
  have h:=heap_alloc_new (w.alloc (.cells cs.toArray 30)) (.cells #[.int .i64 0,.bool false,.bool false,.string ⟨#[]⟩,.int .i64 0,.int .i64 0,.int .i64 0,.int .i64 0,.int .i64 0,.string ⟨#[]⟩,.slice none 0 0,.slice none 0 0,.slice none 0 0] 30)
  rw [World.size_alloc] at h
  exact h)
 have HS0:=Hd (show ((w.alloc (.cells cs.toArray 30)).alloc (.cells #[.int .i64 0,.bool false,.bool false,.string ⟨#[]⟩,.int .i64 0,.int .i64 0,.int .i64 0,.int .i64 0,.int .i64 0,.string ⟨#[]⟩,.slice none 0 0,.slice none 0 0,.slice none 0 0] 30)).heap.size=w.heap.size+2 by rw [World.size_alloc,World.size_alloc])
 clear hv hf h7 hks ht
 go_enter Tryz.func7,Tryz.ntmps7
 go_wp2_with fail
 refine (arity_te _ (HTB.out.below HT0.out.1.1)).mono ?_
 rintro e wC ⟨rfl,hb⟩
 have HT:=Hd (show Below w.heap.size w wC∧RowAt wC (w.heap.size+1) zeroV.toList from ⟨belowThen HT0.out.1.1 hb,HT0.out.1.2.below hb (by rw [HS0.out];omega)⟩)
 have RC:=Hd (HT0.out.2.then hb)
 have HSZ:=Hd (show w.heap.size+2≤wC.heap.size by have h:=hb.size;rw [HS0.out] at h;exact h)
 clear hb
 go_wp2_with ((with_reducible show wpList _ _ _ (⟨some 70,_,_,_,_,_⟩::_) _ _);refine wpList_load_mid rfl 30 _ rfl w.heap.size 0 rfl cs _ RC.out.range Tryz.underlying30 rfl hz1.out ?_)
 refine (parts_te v _ B B N cs H7.out HF.out hN5 hN HKS.out (Nat.le_trans hB HT.out.1.size) (Nat.le_trans hB HT.out.1.size) (HV.out.below (HT.out.1.mono hB))).mono ?_
 rintro e wE ⟨rs,rfl,hsol,hb⟩
 obtain ⟨r,hr⟩:∃ r,r=resD (entsD v.fields):=⟨_,rfl⟩
 rw [← hr] at hsol ⊢
 have HR:=Hd hr
 have hlen:=hsol.here.len
 have AT:=Hd hsol.here
 have S1:=Hd hsol
 have HBE:=Hd (show Below w.heap.size w wE from belowThen HT.out.1 hb)
 have ZE:=Hd (HT.out.2.below hb (by have:=HSZ.out;omega))
 clear hsol hb hr
 obtain ⟨rv,rk⟩:=r
 go_wp2_with ((with_reducible show wpList _ _ _ (⟨none,.store 30 (.tmp 6) _,_,_,_,_⟩::_) _ _);refine wpList_store_row rfl 30 _ _ rfl (w.heap.size+1) rs.toArray rfl rfl 30 zeroV ZE.out (row_size hlen) (row_zero hlen) (row_ones AT.out) ?_)
 refine bodyPost_ret (results_cell_row2 rfl _ _ (w.heap.size+1) 30 _ (0,0) _ rfl (setRow_heap _ _ _ _ _ _ ZE.out) Tryz.underlying30 rfl (row_size hlen)) rfl ?_
 rw [← HR.out]
 refine ⟨rs,rfl,fun d hd=>S1.out d ?_,below_setRow HBE.out (by omega) _⟩
 exact (Apart.of_setRow0 rs.toArray (by omega) (by have:=HSZ.out;omega)).after hd (by have:=HSZ.out;omega)
set_option maxRecDepth 100000 in
set_option maxHeartbeats 6400000 in
theorem lists_fe (l:List (ByteArray×ValD)) (L:List ValD) (hL:L=l.map fun f=>entD f.1 f.2) (w:World) (B Bo N:Nat) (la:Option Addr) (lc:Nat) (hN:N≤4294967296) (hf:∀ f∈l,fitsV 45 f.2) (hd:(keysL l).Nodup) (hks:∀ f∈l,f.1.size≤N) (hlN:L.length≤N)
 (hB:B≤w.heap.size) (hBo:Bo≤w.heap.size) (hv:ValsAt w B N L la):Calls Tryz.prog 24 #[.string ⟨#[102,114,111,109,95,101,110,116,114,105,101,115]⟩,.slice la L.length lc] w (ResR Bo N (resD (mapD l)) w):=by
 have HA:=Hd hv
 have HF:=Hd hf
 have HD:=Hd hd
 have HKS:=Hd hks
 have HLE:=Hd hL
 have HT:=Hd (show Below w.heap.size w (w.alloc (.cells #[.int .i64 0,.bool false,.bool false,.string ⟨#[]⟩,.int .i64 0,.int .i64 0,.int .i64 0,.int .i64 0,.int .i64 0,.string ⟨#[]⟩,.slice none 0 0,.slice none 0 0,.slice none 0 0] 30))∧RowAt (w.alloc (.cells #[.int .i64 0,.bool false,.bool false,.string ⟨#[]⟩,.int .i64 0,.int .i64 0,.int .i64 0,.int .i64 0,.int .i64 0,.string ⟨#[]⟩,.slice none 0 0,.slice none 0 0,.slice none 0 0] 30)) w.heap.size zeroV.toList from ⟨belowBox w _,heap_alloc_new w _⟩)
 have HSZ:=Hd (show w.heap.size+1≤(w.alloc (.cells #[.int .i64 0,.bool false,.bool false,.string ⟨#[]⟩,.int .i64 0,.int .i64 0,.int .i64 0,.int .i64 0,.int .i64 0,.string ⟨#[]⟩,.slice none 0 0,.slice none 0 0,.slice none 0 0] 30)).heap.size by rw [World.size_alloc];exact Nat.le_refl _)
 clear hv hf hd hks hL
 go_enter Tryz.func24,Tryz.ntmps24
 go_wp2_with fail
 refine (entries_p l L HLE.out _ B Bo N la lc hN HF.out HD.out HKS.out hlN (Nat.le_trans hB HT.out.1.size) (Nat.le_trans hBo HT.out.1.size) (HA.out.below (HT.out.1.mono hB))).mono ?_
 rintro e wE ⟨rs,rfl,hsol,hb⟩
 obtain ⟨r,hr⟩:∃ r,r=resD (mapD l):=⟨_,rfl⟩
 rw [← hr] at hsol ⊢
 have HR:=Hd hr
 have hlen:=hsol.here.len
 have AT:=Hd hsol.here
 have S1:=Hd hsol
 have HBE:=Hd (show Below w.heap.size w wE from belowThen HT.out.1 hb)
 have ZE:=Hd (HT.out.2.below hb (by have:=HSZ.out;omega))
 clear hsol hb hr
 obtain ⟨rv,rk⟩:=r
 go_wp2_with ((with_reducible show wpList _ _ _ (⟨none,.store 30 (.tmp 4) _,_,_,_,_⟩::_) _ _);refine wpList_store_row rfl 30 _ _ rfl w.heap.size rs.toArray rfl rfl 30 zeroV ZE.out (row_size hlen) (row_zero hlen) (row_ones AT.out) ?_)
 refine bodyPost_ret (results_cell_row2 rfl _ _ w.heap.size 30 _ (0,0) _ rfl (setRow_heap _ _ _ _ _ _ ZE.out) Tryz.underlying30 rfl (row_size hlen)) rfl ?_
 rw [← HR.out]
 refine ⟨rs,rfl,fun d hd=>S1.out d ?_,below_setRow HBE.out (by omega) _⟩
 exact (Apart.of_setRow0 rs.toArray (by omega) (by have:=HSZ.out;omega)).after hd (by have:=HSZ.out;omega)
set_option maxRecDepth 100000 in
set_option maxHeartbeats 6400000 in
theorem apply_fe (l:List (ByteArray×ValD)) (w:World) (B N:Nat) (cs:List Value) (hN:N≤4294967296) (hf:∀ f∈l,fitsV 45 f.2) (hd:(keysL l).Nodup) (hks:∀ f∈l,f.1.size≤N) (hlN:l.length≤N)
 (hB:B≤w.heap.size) (hv:ValD.At w B N (entsD l) cs) (ht:TabAt w):Calls Tryz.prog 7 #[.string ⟨#[102,114,111,109,95,101,110,116,114,105,101,115]⟩,.agg cs.toArray,.slice none 0 0] w (ResR B N (resD (mapD l)) w):=by
 obtain ⟨ya,la,va,yc,lc,vc,hh⟩:=hv.has
 obtain ⟨L,hL⟩:∃ L,L=l.map fun f=>entD f.1 f.2:=⟨_,rfl⟩
 have HLE:=Hd hL
 have HLL:=Hd (show L.length≤N by rw [hL,List.length_map];exact hlN)
 have HA:=Hd (show ValsAt w B N L la by rw [hL];exact hh.atList)
 have HK:=Hd (show cs[0]?=some (.int .i64 6) from hh.kind)
 have HLC:=Hd (show cs[11]?=some (.slice la L.length lc) by rw [hL];exact hh.list)
 have HF:=Hd hf
 have HD:=Hd hd
 have HKS:=Hd hks
 have HTB:=Hd ht
 have HT0:=Hd (show (Below w.heap.size w ((w.alloc (.cells cs.toArray 30)).alloc (.cells #[.int .i64 0,.bool false,.bool false,.string ⟨#[]⟩,.int .i64 0,.int .i64 0,.int .i64 0,.int .i64 0,.int .i64 0,.string ⟨#[]⟩,.slice none 0 0,.slice none 0 0,.slice none 0 0] 30))∧RowAt ((w.alloc (.cells cs.toArray 30)).alloc (.cells #[.int .i64 0,.bool false,.bool false,.string ⟨#[]⟩,.int .i64 0,.int .i64 0,.int .i64 0,.int .i64 0,.int .i64 0,.string ⟨#[]⟩,.slice none 0 0,.slice none 0 0,.slice none 0 0] 30)) (w.heap.size+1) zeroV.toList)∧RowT 30 ((w.alloc (.cells cs.toArray 30)).alloc (.cells #[.int .i64 0,.bool false,.bool false,.string ⟨#[]⟩,.int .i64 0,.int .i64 0,.int .i64 0,.int .i64 0,.int .i64 0,.string ⟨#[]⟩,.slice none 0 0,.slice none 0 0,.slice none 0 0] 30)) w.heap.size cs from by
  refine ⟨⟨belowThen (belowBox w _) (belowBox _ _),?_⟩,(RowT.new w 30 cs).alloc _⟩
  have h:=heap_alloc_new (w.alloc (.cells cs.toArray 30)) (.cells #[.int .i64 0,.bool false,.bool false,.string ⟨#[]⟩,.int .i64 0,.int .i64 0,.int .i64 0,.int .i64 0,.int .i64 0,.string ⟨#[]⟩,.slice none 0 0,.slice none 0 0,.slice none 0 0] 30)
  rw [World.size_alloc] at h
  exact h)
 have HS0:=Hd (show ((w.alloc (.cells cs.toArray 30)).alloc (.cells #[.int .i64 0,.bool false,.bool false,.string ⟨#[]⟩,.int .i64 0,.int .i64 0,.int .i64 0,.int .i64 0,.int .i64 0,.string ⟨#[]⟩,.slice none 0 0,.slice none 0 0,.slice none 0 0] 30)).heap.size=w.heap.size+2 by rw [World.size_alloc,World.size_alloc])
 clear hv hf hd hks ht hh hL
 go_enter Tryz.func7,Tryz.ntmps7
 go_wp2_with fail
 refine (arity_fe _ (HTB.out.below HT0.out.1.1)).mono ?_
 rintro e wC ⟨rfl,hb⟩
 have HT:=Hd (show Below w.heap.size w wC∧RowAt wC (w.heap.size+1) zeroV.toList from ⟨belowThen HT0.out.1.1 hb,HT0.out.1.2.below hb (by rw [HS0.out];omega)⟩)
 have RC:=Hd (HT0.out.2.then hb)
 have HSZ:=Hd (show w.heap.size+2≤wC.heap.size by have h:=hb.size;rw [HS0.out] at h;exact h)
 clear hb
 have e0:=RC.out.cell HK.out
 have e11:=RC.out.cell HLC.out
 go_wp2_with fail
 refine (lists_fe l L HLE.out _ B B N la lc hN HF.out HD.out HKS.out HLL.out (Nat.le_trans hB HT.out.1.size) (Nat.le_trans hB HT.out.1.size) (HA.out.below (HT.out.1.mono hB))).mono ?_
 clear e0 e11
 rintro e wE ⟨rs,rfl,hsol,hb⟩
 obtain ⟨r,hr⟩:∃ r,r=resD (mapD l):=⟨_,rfl⟩
 rw [← hr] at hsol ⊢
 have HR:=Hd hr
 have hlen:=hsol.here.len
 have AT:=Hd hsol.here
 have S1:=Hd hsol
 have HBE:=Hd (show Below w.heap.size w wE from belowThen HT.out.1 hb)
 have ZE:=Hd (HT.out.2.below hb (by have:=HSZ.out;omega))
 clear hsol hb hr
 obtain ⟨rv,rk⟩:=r
 go_wp2_with ((with_reducible show wpList _ _ _ (⟨none,.store 30 (.tmp 6) _,_,_,_,_⟩::_) _ _);refine wpList_store_row rfl 30 _ _ rfl (w.heap.size+1) rs.toArray rfl rfl 30 zeroV ZE.out (row_size hlen) (row_zero hlen) (row_ones AT.out) ?_)
 refine bodyPost_ret (results_cell_row2 rfl _ _ (w.heap.size+1) 30 _ (0,0) _ rfl (setRow_heap _ _ _ _ _ _ ZE.out) Tryz.underlying30 rfl (row_size hlen)) rfl ?_
 rw [← HR.out]
 refine ⟨rs,rfl,fun d hd=>S1.out d ?_,below_setRow HBE.out (by omega) _⟩
 exact (Apart.of_setRow0 rs.toArray (by omega) (by have:=HSZ.out;omega)).after hd (by have:=HSZ.out;omega)
end Go.Proofs.YtagkjofpncpcpaaGreatDoor
