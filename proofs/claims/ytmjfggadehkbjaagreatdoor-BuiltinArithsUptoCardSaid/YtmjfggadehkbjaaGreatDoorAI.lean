/- A text split: builtin.split. -/
import Derived.Test.YtmjfggadehkbjaaGreatDoorProg
import Derived.Test.YtmjfggadehkbjaaGreatDoorGA
import Derived.Test.YtmjfggadehkbjaaGreatDoorGB
import Derived.Test.YtmjfggadehkbjaaGreatDoorShelf
import Derived.Test.YtmjfggadehkbjaaGreatDoorGD
import Derived.Test.YtmjfggadehkbjaaGreatDoorRow36
import Derived.Test.YtmjfggadehkbjaaGreatDoorUtf8D
import Derived.Test.YtmjfggadehkbjaaGreatDoorXA
import Derived.Test.YtmjfggadehkbjaaGreatDoorXK
import Derived.Test.YtmjfggadehkbjaaGreatDoorAB
import Derived.Test.YtmjfggadehkbjaaGreatDoorAD
import Derived.Test.YtmjfggadehkbjaaGreatDoorAH
namespace Go.Proofs.YtmjfggadehkbjaaGreatDoor
open Go.RowKit
def quoL (s t:ByteArray):List ByteArray:=if t.size=0 then charsD s else splitA t s
theorem splitB_sizes (t:ByteArray):∀ (k:Nat) (s:ByteArray),∀ x∈Lib.splitB t 0 k s,x.size≤s.size
 | 0,s,x,hx=>by
   rw [Lib.splitB_zero,List.mem_singleton] at hx
   rw [hx];exact Nat.le_refl _
 | k+1,s,x,hx=>by
   rcases Lib.indexB_cases s t with h | ⟨i,h,hi⟩
   ·rw [Lib.splitB_miss _ _ _ _ h,List.mem_singleton] at hx
    rw [hx];exact Nat.le_refl _
   ·rw [Lib.splitB_hit _ _ _ _ i h] at hx
    rcases List.mem_cons.1 hx with hx | hx
    ·rw [hx,ByteArray.size_extract];omega
    ·have:=splitB_sizes t k _ x hx
     rw [ByteArray.size_extract] at this
     omega
theorem splitA_len {s t:ByteArray} (h1:1≤t.size):(splitA t s).length=Lib.countB s t+1:=Lib.splitB_all t h1 0 _ s rfl
theorem quoL_sizes (s t:ByteArray):∀ x∈quoL s t,x.size≤s.size:=fun x hx=>by
 unfold quoL at hx
 split at hx
 ·unfold charsD at hx
  obtain ⟨p,_,rfl⟩:=List.mem_map.1 hx
  rw [ByteArray.size_extract];omega
 ·exact splitB_sizes _ _ _ x hx
theorem quoL_len {s t:ByteArray} (hv:validS s=true):(quoL s t).length≤s.size+1:=by
 unfold quoL
 split
 ·have:=chars_count hv;omega
 ·rw [splitA_len (by omega)]
  have:=Lib.countB_le t (by omega) s.size s (Nat.le_refl _)
  omega
theorem tl_nil {t:ByteArray} (h:t.size=0):t.toList=[]:=by
 rw [ByteArray.toList_eq]
 exact List.eq_nil_of_length_eq_zero (by rw [Array.length_toList];exact h)
theorem tl_cons {t:ByteArray} (h:¬ t.size=0):(t.toList==[])=false:=by
 have:t.toList≠[]:=fun e=>by
  rw [ByteArray.toList_eq] at e
  have:t.data.toList.length=0:=by rw [e];rfl
  rw [Array.length_toList] at this
  exact h this
 simpa using this
set_option maxRecDepth 100000 in
set_option maxHeartbeats 3200000 in
theorem split_p (s t:ByteArray) (w:World) (Bo N:Nat) (hN:N≤4294967296) (hsN:s.size+1≤N) (hs:s.size≤65536) (ht:t.size≤65536) (hv:validS s=true) (hT:Lib.Utf8Tabs 1 2 w) (hm:∃ m:Int,w.cell? ⟨0,0,none⟩=some (.int .i64 m)) (hBo:Bo≤w.heap.size) :
 Calls Tryz.prog 26 #[.string s,.string t] w (ResR Bo N (resD (lisD ((quoL s t).map textD))) w):=by
 have HSZ:=Hd (quoL_sizes s t)
 have HLN:=Hd (quoL_len (t:=t) hv)
 have H0:=Hd (belowBox w (.cells zeroV 30))
 have Z0:=Hd (show RowAt (w.alloc (.cells zeroV 30)) w.heap.size zeroV.toList from heap_alloc_new w (.cells zeroV 30))
 have HT:=Hd (tabs_below hT H0.out)
 have HV:=Hd hv
 obtain ⟨m,hm⟩:=hm
 have HM:=Hd (show (w.alloc (.cells zeroV 30)).cell? ⟨0,0,none⟩=some (.int .i64 m) by rw [H0.out.cell (World.block_lt_of_cell? w _ hm)];exact hm)
 clear hT hm hv
 by_cases h0:t.size=0
 ·have ht0:(t.toList==[])=true:=by rw [tl_nil h0];rfl
  have HQL:=Hd (show quoL s t=charsD s by unfold quoL;rw [if_pos h0])
  have ht1:t.toList=[]:=tl_nil h0
  go_enter Tryz.func26,Tryz.ntmps26
  go_wp2_with fail
  refine (chars_prog s _ (by omega) HT.out HV.out).mono ?_
  rintro e w1 ⟨a,c,rfl,hc1,hc2,hst,hb⟩
  have HB1:=Hd (belowThen H0.out hb)
  have Z1:=Hd (Z0.out.below hb (by rw [World.size_alloc];omega))
  have HS1:=Hd (show w.heap.size<w1.heap.size by have:=hb.size;rw [World.size_alloc] at this;omega)
  have HST:=Hd hst
  clear hc1 hc2 hst hb
  go_wp2_with fail
  refine (texts_p (charsD s) a c w1 Bo N hN (by have:=HLN.out;rw [HQL.out] at this;omega) (fun x hx=>by have:=HSZ.out x (by rw [HQL.out];exact hx);omega) (Nat.le_trans hBo HB1.out.size) HST.out).mono ?_
  rintro e wE ⟨xs,rfl,hsol,hb⟩
  obtain ⟨r,hr⟩:∃ r,r=resD (lisD ((charsD s).map textD)):=⟨_,rfl⟩
  rw [← hr] at hsol ⊢
  have HQ:=Hd (show resD (lisD ((quoL s t).map textD))=r by rw [HQL.out,hr])
  have hlen:=hsol.here.len
  have AT:=Hd hsol.here
  have S1:=Hd hsol
  have HBE:=Hd (HB1.out.trans (hb.mono HB1.out.size))
  have ZE:=Hd (Z1.out.below hb HS1.out)
  clear hsol hb hr
  obtain ⟨rv,rk⟩:=r
  go_wp2_with ((with_reducible show wpList _ _ _ (⟨none,.store 30 (.tmp 4) _,_,_,_,_⟩::_) _ _);refine wpList_store_row rfl 30 _ _ rfl w.heap.size xs.toArray rfl rfl 30 zeroV ZE.out (row_size hlen) (row_zero hlen) (row_ones AT.out) ?_)
  refine bodyPost_ret (results_cell_row2 rfl _ _ w.heap.size 30 _ (0,0) _ rfl (setRow_heap _ _ _ _ _ _ ZE.out) Tryz.underlying30 rfl (row_size hlen)) rfl ?_
  rw [HQ.out]
  refine ⟨xs,rfl,fun d hd=>S1.out d ?_,below_setRow HBE.out (Nat.le_refl _) _⟩
  exact (Apart.of_setRow0 xs.toArray hBo HS1.out).after hd (by have:=HS1.out;omega)
 ·have ht0:(t.toList==[])=false:=tl_cons h0
  have HQL:=Hd (show quoL s t=splitA t s by unfold quoL;rw [if_neg h0])
  have ht1:¬ t.toList=[]:=by simpa using ht0
  have hc:=Tryz.strings_Split s t m _ (by omega) HM.out (by omega)
  rw [World.size_alloc,← splitA_len (s:=s) (t:=t) (by omega),show Lib.splitB t 0 (Lib.countB s t) s=splitA t s from rfl] at hc
  obtain ⟨l,hl⟩:∃ l,l=splitA t s:=⟨_,rfl⟩
  rw [← hl] at hc HQL
  have HC:=Hd hc
  clear hc hl
  go_enter Tryz.func26,Tryz.ntmps26
  go_wp2_with fail
  refine HC.out.mono ?_
  rintro e w1 ⟨rfl,hw1⟩
  have hb:Below (w.alloc (.cells zeroV 30)).heap.size (w.alloc (.cells zeroV 30)) w1:=by rw [hw1];exact belowBox _ _
  have HB1:=Hd (belowThen H0.out hb)
  have Z1:=Hd (Z0.out.below hb (by rw [World.size_alloc];omega))
  have HS1:=Hd (show w.heap.size<w1.heap.size by have:=hb.size;rw [World.size_alloc] at this;omega)
  have HST:=Hd (show StrsAt w1 l (some ⟨w.heap.size+1,0,none⟩) from .inr ⟨_,rfl,by rw [hw1];simp only [World.size_alloc];omega,fun j x hx=>by
   rw [hw1,show (⟨w.heap.size+1,j,none⟩:Addr)=⟨(w.alloc (.cells zeroV 30)).heap.size,j,none⟩ by rw [World.size_alloc],World.cell?_alloc_new,List.getElem?_toArray,List.getElem?_map,hx]
   rfl⟩)
  clear hb hw1 HC
  go_wp2_with fail
  refine (texts_p l (some ⟨w.heap.size+1,0,none⟩) l.length w1 Bo N hN (by have:=HLN.out;rw [HQL.out] at this;omega) (fun x hx=>by have:=HSZ.out x (by rw [HQL.out];exact hx);omega) (Nat.le_trans hBo HB1.out.size) HST.out).mono ?_
  rintro e wE ⟨xs,rfl,hsol,hb⟩
  obtain ⟨r,hr⟩:∃ r,r=resD (lisD ((l).map textD)):=⟨_,rfl⟩
  rw [← hr] at hsol ⊢
  have HQ:=Hd (show resD (lisD ((quoL s t).map textD))=r by rw [HQL.out,hr])
  have hlen:=hsol.here.len
  have AT:=Hd hsol.here
  have S1:=Hd hsol
  have HBE:=Hd (HB1.out.trans (hb.mono HB1.out.size))
  have ZE:=Hd (Z1.out.below hb HS1.out)
  clear hsol hb hr
  obtain ⟨rv,rk⟩:=r
  go_wp2_with ((with_reducible show wpList _ _ _ (⟨none,.store 30 (.tmp 4) _,_,_,_,_⟩::_) _ _);refine wpList_store_row rfl 30 _ _ rfl w.heap.size xs.toArray rfl rfl 30 zeroV ZE.out (row_size hlen) (row_zero hlen) (row_ones AT.out) ?_)
  refine bodyPost_ret (results_cell_row2 rfl _ _ w.heap.size 30 _ (0,0) _ rfl (setRow_heap _ _ _ _ _ _ ZE.out) Tryz.underlying30 rfl (row_size hlen)) rfl ?_
  rw [HQ.out]
  refine ⟨xs,rfl,fun d hd=>S1.out d ?_,below_setRow HBE.out (Nat.le_refl _) _⟩
  exact (Apart.of_setRow0 xs.toArray hBo HS1.out).after hd (by have:=HS1.out;omega)
end Go.Proofs.YtmjfggadehkbjaaGreatDoor

/- Arith: quotients, products, remainders, on both sides. -/
namespace Go.Proofs.YtmjfggadehkbjaaGreatDoor
open Go.RowKit
def quoV (a b:ValD):ValD×Int:=if a.kind=2∧b.kind=2 then numQ (divD a.num b.num) else if a.kind=4∧b.kind=4 then resD (lisD ((quoL a.text b.text).map textD)) else (zeroD,6)
def timesV (a b:ValD):ValD×Int:=if a.kind=2∧b.kind=2 then numQ (mulD a.num b.num) else (zeroD,6)
def remV (a b:ValD):ValD×Int:=if a.kind=2∧b.kind=2 then (if decide (0≤a.num.exp)&&decide (0≤b.num.exp) then numQ (modD a.num b.num) else (zeroD,15)) else (zeroD,6)
theorem zero_cell {w W:World} (hm:∃ m:Int,w.cell? ⟨0,0,none⟩=some (.int .i64 m)) (hb:Below w.heap.size w W):∃ m:Int,W.cell? ⟨0,0,none⟩=some (.int .i64 m):=by
 obtain ⟨m,hm⟩:=hm
 exact ⟨m,by rw [hb.cell (World.block_lt_of_cell? w _ hm)];exact hm⟩
set_option maxRecDepth 100000 in
theorem parts37_all (s t:ByteArray) (w:World) (hs:s.size≤65536) (ht:t.size≤65536) (hv:validS s=true):Calls Tryz.prog 79 #[.string s,.string t] w (StsR (quoL s t) w):=by
 by_cases h0:t.size=0
 ·have ht0:(t.toList==[])=true:=by rw [tl_nil h0];rfl
  have ht1:t.toList=[]:=tl_nil h0
  have HQ:=Hd (show quoL s t=charsD s by unfold quoL;rw [if_pos h0])
  go_enter Tryz.func79,Tryz.ntmps79
  go_wp2_with fail
  refine (chars_ref s _ (by omega) hv).mono ?_
  rintro e w1 ⟨a,c,rfl,h1,h2,h3,hb⟩
  have H:=Hd (show StsR (quoL s t) w (.returned (.slice a (charsD s).length c)) w1 by rw [HQ.out];exact ⟨a,c,rfl,h1,h2,h3,hb⟩)
  clear h1 h2 h3 hb
  go_wp2_with fail
  go_ret
  exact H.out
 ·have h:=parts37_r s t w (by omega) (by omega) (by omega)
  rwa [show splitA t s=quoL s t by unfold quoL;rw [if_neg h0]] at h
theorem text_any {w w':World} {B B' N:Nat} {x:ByteArray} {cs:List Value} (h:ValD.At w B N (textD x) cs):ValD.At w' B' N (textD x) cs:=by
 obtain ⟨ya,la,fa,yc,lc,fc,h1,h2,_⟩:=h
 exact ⟨ya,la,fa,yc,lc,fc,h1,h2,.inl rfl,trivial,trivial⟩
def TxoR (N:Nat) (l:List ByteArray) (w:World) (e:Ending) (w':World):Prop:=∃ (a:Option Addr) (c:Nat),e=.returned (.slice a l.length c)∧(∀ B,Solid B w.heap.size w' (fun c=>ValsAt c c.heap.size N (l.map textD) a))∧Below w.heap.size w w'
theorem texts_own {w wr:World} {N:Nat} {s:Value} {l:List ByteArray} {xs:List Value} (ho:wr.ownsRow w.heap.size 30 13 s l.length xs) (hp:PartsAt w w.heap.size N (l.map textD) l.length xs) :
 ∃ a c,s=.slice a l.length c∧∀ B,Solid B w.heap.size wr (fun c=>ValsAt c c.heap.size N (l.map textD) a):=by
 obtain ⟨a,c,rfl⟩:=own_slice ho
 refine ⟨a,c,rfl,fun B d hd=>?_⟩
 obtain ⟨a2,c2,e,hv⟩:=valsAt_own (own_same ho (fun q h1 h2=>hd.block q h2 (.inr h1))) (l:=l.map textD) (N:=N) (B:=d.heap.size) (by simp) (Nat.le_refl _) (fun i hi=>by
  have h:=hp i hi (by simpa using hi)
  simp only [List.getElem_map] at h ⊢
  exact text_any h)
 simp only [Value.slice.injEq] at e
 obtain ⟨rfl,_,_⟩:=e
 exact hv
theorem apart_fin {wD wE:World} {B L g:Nat} (hb:Below wD.heap.size wD wE) (h1:B≤g) (h2:g<L) (new:Array Value):Apart B L wD (wE.setRow g new) :=
 ⟨hb.os,hb.tape,hb.output,by rw [setRow_size];exact hb.size,fun q hq hor=>by rw [setRow_other _ _ _ _ (by omega)];exact hb.block q hq⟩
set_option maxRecDepth 100000 in
set_option maxHeartbeats 3200000 in
theorem texts_ro (l:List ByteArray) (a:Option Addr) (c:Nat) (w:World) (N:Nat) (hll:l.length≤4294967296) (hls:∀ s∈l,s.size≤N) (h:StrsAt w l a) :
 Calls Tryz.prog 78 #[.slice a l.length c] w (TxoR N l w):=by
 obtain ⟨z0,hz0s,hinfo⟩:=infoV
 obtain ⟨i0,hi,hz0,hz1,hz2⟩:=info_parts hinfo
 have HI:=Hd hi
 have HZ0:=Hd hz0
 have HZ1:=Hd hz1
 have HZ2:=Hd hz2
 have HZS:=Hd hz0s
 have HLS:=Hd hls
 have HA:=Hd h
 clear hi hz0 hz1 hz2 hz0s hinfo hls h
 have HF:=Hd (show ∀ s:Value,∀ wr:World,∀ xs:List Value,wr.ownsRow w.heap.size 30 13 s l.length xs→PartsAt w w.heap.size N (l.map textD) l.length xs→Below w.heap.size w wr→TxoR N l w (.returned s) wr from fun s wr xs ho hp hb=>by
  obtain ⟨a,c,rfl,hv⟩:=texts_own ho hp
  exact ⟨a,c,rfl,hv,hb⟩)
 go_enter Tryz.func78,Tryz.ntmps78
 go_wp2_with fail
 go_simp
 go_loopw [3,4] (fun s i wr=>∃ (k:Nat) (xs:List Value),k≤l.length∧i=.int .i64 k∧wr.ownsRow w.heap.size 30 13 s k xs∧Hid (PartsAt w w.heap.size N (l.map textD) k xs)∧Hid (Below w.heap.size w wr)) (fun _ i _=>l.length-(intOf i).toNat)
 case atStart=>exact ⟨0,[],by omega,rfl,World.ownsRow_nil _ _ _ _,Hd (fun j _ hj=>absurd hj (by omega)),Hd (Below.refl _ _)⟩
 case round =>
  obtain ⟨w2,rfl⟩:∃ w2,w2=wr:=⟨wr,rfl⟩
  obtain ⟨k,xs,hk,rfl,hown,HP,HB⟩:=hrel
  have HO:=Hd hown
  clear hown
  by_cases hlt:k<l.length
  ·obtain ⟨b,rfl,hb,hget⟩:∃ b,a=some ⟨b,0,none⟩∧b<w.heap.size∧∀ (j:Nat) x,l[j]?=some x→w.cell? ⟨b,j,none⟩=some (.string x):=by
    rcases HA.out with h | h
    ·rw [h] at hlt;simp at hlt
    ·exact h
   have hlk:l[k]?=some l[k]:=List.getElem?_eq_getElem hlt
   obtain ⟨x,hx⟩:∃ x,l[k]=x:=⟨_,rfl⟩
   have c1:w2.cell? ⟨b,k,none⟩=some (.string x):=by
    rw [HB.out.cell (p:=⟨b,k,none⟩) hb,← hx]
    exact hget k _ hlk
   have hsz:x.size≤N:=by rw [← hx];exact HLS.out _ (List.getElem_mem hlt)
   have HT:=Hd (show ∀ h:k<(l.map textD).length,ValD.At w w.heap.size N (l.map textD)[k] (textR x) from fun h=>by
    rw [List.getElem_map,hx]
    exact textD_at hsz)
   have hlen1:(textR x).length=13:=rfl
   clear hx hget hlk hsz
   go_wp2_with ((with_reducible show wpList _ _ _ (⟨some 18,_,_,_,_,_⟩::_) _ _);refine wpList_append_own _ rfl _ _ 27 rfl w.heap.size 30 i0 (.agg z0) 13 168 Tryz.underlying27 HI.out HZ0.out HZ1.out HZ2.out HZS.out (by decide) _ _ _ rfl (HO.out.alloc _) ⟨w2.heap.size,0,none⟩ 1 1 (textR x) rfl rfl ?c1 ?c2 ?c3 ?c4 ?c5 ?_)
   case c1 =>
    intro j u hj
    rw [addr_add',World.cell?_alloc_new]
    simpa [textR] using hj
   case c2=>intro u hu;simp [textR] at hu;rcases hu with rfl | rfl | rfl | rfl | rfl | rfl<;>rfl
   case c3=>unfold maxLen;omega
   case c4=>omega
   case c5=>have:=HB.out.size;rw [World.size_alloc];omega
   intro v2 w3 hown3 hgrow _
   have HO3:=Hd hown3
   have HB3:=Hd (grown_below HB.out hgrow (fun q hq=>(HO.out.lt q hq).1))
   clear hgrow hown3
   go_wp2
   go_roundw
   case rel=>exact ⟨k+1,xs++textR x,by omega,by go_num,HO3.out,Hd (HP.out.snoc HO.out.1 (by simpa using hlt) (HT.out (by simpa using hlt))),HB3⟩
   case measure=>simp [intOf];omega
  ·obtain rfl:k=l.length:=by omega
   have HE:=Hd (HF.out _ _ _ HO.out HP.out HB.out)
   go_wp2_with fail
   go_ret
   exact HE.out
theorem num_range {W:World} {g:Nat} {cs:List Value} {n s e:Value} (h:RowT 30 W g cs) (h2:cs[2]?=some n) (h3:cs[3]?=some s) (h4:cs[4]?=some e):W.rangeAt g 2 [n,s,e]:=fun j u hu=>by
 match j,hu with
 | 0,hu=>simp at hu;subst hu;exact h.cell h2
 | 1,hu=>simp at hu;subst hu;exact h.cell h3
 | 2,hu=>simp at hu;subst hu;exact h.cell h4
theorem sizeDEC3 {n s e:Value}:(Tryz.prog.info? 23).map (·.size)=some [n,s,e].length:=by kernel_rfl
end Go.Proofs.YtmjfggadehkbjaaGreatDoor
