/- A text split: builtin.split. -/
import Derived.Test.YtagkjofpncpcpaaGreatDoorProg
import Derived.Test.YtagkjofpncpcpaaGreatDoorGA
import Derived.Test.YtagkjofpncpcpaaGreatDoorUtf8D
import Derived.Test.YtagkjofpncpcpaaGreatDoorGB
import Derived.Test.YtagkjofpncpcpaaGreatDoorShelf
import Derived.Test.YtagkjofpncpcpaaGreatDoorGD
import Derived.Test.YtagkjofpncpcpaaGreatDoorXK
import Derived.Test.YtagkjofpncpcpaaGreatDoorAB
import Derived.Test.YtagkjofpncpcpaaGreatDoorAD
import Derived.Test.YtagkjofpncpcpaaGreatDoorAH
namespace Go.Proofs.YtagkjofpncpcpaaGreatDoor
open Go.RowKit
def quoL (s t:ByteArray):List ByteArray:=if t.size=0 then charsD s else splitA t s
theorem splitB_sizes (t:ByteArray):∀ (k:Nat) (s:ByteArray),∀ x∈Lib.splitB t 0 k s,x.size≤s.size
 | 0,s,x,hx=>by
   rw [Lib.splitB_zero,List.mem_singleton] at hx
   rw [hx];exact Nat.le_refl _
 | k+1,s,x,hx=>by
   rcases Lib.indexB_cases s t with h | ⟨i,h,hi⟩
   ·rw [Lib.splitB_miss _ _ _ _ h,List.mem_singleton] at hx
    rw [hx];exact Nat.le_refl _
   ·rw [Lib.splitB_hit _ _ _ _ i h] at hx
    rcases List.mem_cons.1 hx with hx | hx
    ·rw [hx,ByteArray.size_extract];omega
    ·have:=splitB_sizes t k _ x hx
     rw [ByteArray.size_extract] at this
     omega
theorem splitA_len {s t:ByteArray} (h1:1≤t.size):(splitA t s).length=Lib.countB s t+1:=Lib.splitB_all t h1 0 _ s rfl
theorem quoL_sizes (s t:ByteArray):∀ x∈quoL s t,x.size≤s.size:=fun x hx=>by
 unfold quoL at hx
 split at hx
 ·unfold charsD at hx
  obtain ⟨p,_,rfl⟩:=List.mem_map.1 hx
  rw [ByteArray.size_extract];omega
 ·exact splitB_sizes _ _ _ x hx
theorem quoL_len {s t:ByteArray} (hv:validS s=true):(quoL s t).length≤s.size+1:=by
 unfold quoL
 split
 ·have:=chars_count hv;omega
 ·rw [splitA_len (by omega)]
  have:=Lib.countB_le t (by omega) s.size s (Nat.le_refl _)
  omega
theorem tl_nil {t:ByteArray} (h:t.size=0):t.toList=[]:=by
 rw [ByteArray.toList_eq]
 exact List.eq_nil_of_length_eq_zero (by rw [Array.length_toList];exact h)
theorem tl_cons {t:ByteArray} (h:¬ t.size=0):(t.toList==[])=false:=by
 have:t.toList≠[]:=fun e=>by
  rw [ByteArray.toList_eq] at e
  have:t.data.toList.length=0:=by rw [e];rfl
  rw [Array.length_toList] at this
  exact h this
 simpa using this
set_option maxRecDepth 100000 in
set_option maxHeartbeats 3200000 in
theorem split_p (s t:ByteArray) (w:World) (Bo N:Nat) (hN:N≤4294967296) (hsN:s.size+1≤N) (hs:s.size≤65536) (ht:t.size≤65536) (hv:validS s=true) (hT:Lib.Utf8Tabs 3 4 w) (hm:∃ m:Int,w.cell? ⟨1,0,none⟩=some (.int .i64 m)) (hBo:Bo≤w.heap.size) :
 Calls Tryz.prog 37 #[.string s,.string t] w (ResR Bo N (resD (lisD ((quoL s t).map textD))) w):=by
 have HSZ:=Hd (quoL_sizes s t)
 have HLN:=Hd (quoL_len (t:=t) hv)
 have H0:=Hd (belowBox w (.cells zeroV 30))
 have Z0:=Hd (show RowAt (w.alloc (.cells zeroV 30)) w.heap.size zeroV.toList from heap_alloc_new w (.cells zeroV 30))
 have HT:=Hd (tabs_below hT H0.out)
 have HV:=Hd hv
 obtain ⟨m,hm⟩:=hm
 have HM:=Hd (show (w.alloc (.cells zeroV 30)).cell? ⟨1,0,none⟩=some (.int .i64 m) by rw [H0.out.cell (World.block_lt_of_cell? w _ hm)];exact hm)
 clear hT hm hv
 by_cases h0:t.size=0
 ·have ht0:(t.toList==[])=true:=by rw [tl_nil h0];rfl
  have HQL:=Hd (show quoL s t=charsD s by unfold quoL;rw [if_pos h0])
  have ht1:t.toList=[]:=tl_nil h0
  go_enter Tryz.func37,Tryz.ntmps37
  go_wp2_with fail
  refine (chars_prog s _ (by omega) HT.out HV.out).mono ?_
  rintro e w1 ⟨a,c,rfl,hc1,hc2,hst,hb⟩
  have HB1:=Hd (belowThen H0.out hb)
  have Z1:=Hd (Z0.out.below hb (by rw [World.size_alloc];omega))
  have HS1:=Hd (show w.heap.size<w1.heap.size by have:=hb.size;rw [World.size_alloc] at this;omega)
  have HST:=Hd hst
  clear hc1 hc2 hst hb
  go_wp2_with fail
  refine (texts_p (charsD s) a c w1 Bo N hN (by have:=HLN.out;rw [HQL.out] at this;omega) (fun x hx=>by have:=HSZ.out x (by rw [HQL.out];exact hx);omega) (Nat.le_trans hBo HB1.out.size) HST.out).mono ?_
  rintro e wE ⟨xs,rfl,hsol,hb⟩
  obtain ⟨r,hr⟩:∃ r,r=resD (lisD ((charsD s).map textD)):=⟨_,rfl⟩
  rw [← hr] at hsol ⊢
  have HQ:=Hd (show resD (lisD ((quoL s t).map textD))=r by rw [HQL.out,hr])
  have hlen:=hsol.here.len
  have AT:=Hd hsol.here
  have S1:=Hd hsol
  have HBE:=Hd (HB1.out.trans (hb.mono HB1.out.size))
  have ZE:=Hd (Z1.out.below hb HS1.out)
  clear hsol hb hr
  obtain ⟨rv,rk⟩:=r
  go_wp2_with ((with_reducible show wpList _ _ _ (⟨none,.store 30 (.tmp 4) _,_,_,_,_⟩::_) _ _);refine wpList_store_row rfl 30 _ _ rfl w.heap.size xs.toArray rfl rfl 30 zeroV ZE.out (row_size hlen) (row_zero hlen) (row_ones AT.out) ?_)
  refine bodyPost_ret (results_cell_row2 rfl _ _ w.heap.size 30 _ (0,0) _ rfl (setRow_heap _ _ _ _ _ _ ZE.out) Tryz.underlying30 rfl (row_size hlen)) rfl ?_
  rw [HQ.out]
  refine ⟨xs,rfl,fun d hd=>S1.out d ?_,below_setRow HBE.out (Nat.le_refl _) _⟩
  exact (Apart.of_setRow0 xs.toArray hBo HS1.out).after hd (by have:=HS1.out;omega)
 ·have ht0:(t.toList==[])=false:=tl_cons h0
  have HQL:=Hd (show quoL s t=splitA t s by unfold quoL;rw [if_neg h0])
  have ht1:¬ t.toList=[]:=by simpa using ht0
  have hc:=Tryz.strings_Split s t m _ (by omega) HM.out (by omega)
  rw [World.size_alloc,← splitA_len (s:=s) (t:=t) (by omega),show Lib.splitB t 0 (Lib.countB s t) s=splitA t s from rfl] at hc
  obtain ⟨l,hl⟩:∃ l,l=splitA t s:=⟨_,rfl⟩
  rw [← hl] at hc HQL
  have HC:=Hd hc
  clear hc hl
  go_enter Tryz.func37,Tryz.ntmps37
  go_wp2_with fail
  refine HC.out.mono ?_
  rintro e w1 ⟨rfl,hw1⟩
  have hb:Below (w.alloc (.cells zeroV 30)).heap.size (w.alloc (.cells zeroV 30)) w1:=by rw [hw1];exact belowBox _ _
  have HB1:=Hd (belowThen H0.out hb)
  have Z1:=Hd (Z0.out.below hb (by rw [World.size_alloc];omega))
  have HS1:=Hd (show w.heap.size<w1.heap.size by have:=hb.size;rw [World.size_alloc] at this;omega)
  have HST:=Hd (show StrsAt w1 l (some ⟨w.heap.size+1,0,none⟩) from .inr ⟨_,rfl,by rw [hw1];simp only [World.size_alloc];omega,fun j x hx=>by
   rw [hw1,show (⟨w.heap.size+1,j,none⟩:Addr)=⟨(w.alloc (.cells zeroV 30)).heap.size,j,none⟩ by rw [World.size_alloc],World.cell?_alloc_new,List.getElem?_toArray,List.getElem?_map,hx]
   rfl⟩)
  clear hb hw1 HC
  go_wp2_with fail
  refine (texts_p l (some ⟨w.heap.size+1,0,none⟩) l.length w1 Bo N hN (by have:=HLN.out;rw [HQL.out] at this;omega) (fun x hx=>by have:=HSZ.out x (by rw [HQL.out];exact hx);omega) (Nat.le_trans hBo HB1.out.size) HST.out).mono ?_
  rintro e wE ⟨xs,rfl,hsol,hb⟩
  obtain ⟨r,hr⟩:∃ r,r=resD (lisD ((l).map textD)):=⟨_,rfl⟩
  rw [← hr] at hsol ⊢
  have HQ:=Hd (show resD (lisD ((quoL s t).map textD))=r by rw [HQL.out,hr])
  have hlen:=hsol.here.len
  have AT:=Hd hsol.here
  have S1:=Hd hsol
  have HBE:=Hd (HB1.out.trans (hb.mono HB1.out.size))
  have ZE:=Hd (Z1.out.below hb HS1.out)
  clear hsol hb hr
  obtain ⟨rv,rk⟩:=r
  go_wp2_with ((with_reducible show wpList _ _ _ (⟨none,.store 30 (.tmp 4) _,_,_,_,_⟩::_) _ _);refine wpList_store_row rfl 30 _ _ rfl w.heap.size xs.toArray rfl rfl 30 zeroV ZE.out (row_size hlen) (row_zero hlen) (row_ones AT.out) ?_)
  refine bodyPost_ret (results_cell_row2 rfl _ _ w.heap.size 30 _ (0,0) _ rfl (setRow_heap _ _ _ _ _ _ ZE.out) Tryz.underlying30 rfl (row_size hlen)) rfl ?_
  rw [HQ.out]
  refine ⟨xs,rfl,fun d hd=>S1.out d ?_,below_setRow HBE.out (Nat.le_refl _) _⟩
  exact (Apart.of_setRow0 xs.toArray hBo HS1.out).after hd (by have:=HS1.out;omega)
end Go.Proofs.YtagkjofpncpcpaaGreatDoor

/- Arith: quotients, products, remainders, on both sides. -/
namespace Go.Proofs.YtagkjofpncpcpaaGreatDoor
open Go.RowKit
def quoV (a b:ValD):ValD×Int:=if a.kind=2∧b.kind=2 then numQ (divD a.num b.num) else if a.kind=4∧b.kind=4 then resD (lisD ((quoL a.text b.text).map textD)) else (zeroD,6)
theorem zero_cell {w W:World} (hm:∃ m:Int,w.cell? ⟨1,0,none⟩=some (.int .i64 m)) (hb:Below w.heap.size w W):∃ m:Int,W.cell? ⟨1,0,none⟩=some (.int .i64 m):=by
 obtain ⟨m,hm⟩:=hm
 exact ⟨m,by rw [hb.cell (World.block_lt_of_cell? w _ hm)];exact hm⟩
end Go.Proofs.YtagkjofpncpcpaaGreatDoor
