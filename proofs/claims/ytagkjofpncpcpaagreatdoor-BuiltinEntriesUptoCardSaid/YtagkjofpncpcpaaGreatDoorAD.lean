/- A number as a result, or its error: builtin.valid of an error, builtin.number, datakitref37.number of any pair. -/
import Derived.Test.YtagkjofpncpcpaaGreatDoorProg
import Derived.Test.YtagkjofpncpcpaaGreatDoorGA
import Derived.Test.YtagkjofpncpcpaaGreatDoorGB
import Derived.Test.YtagkjofpncpcpaaGreatDoorGC
import Derived.Test.YtagkjofpncpcpaaGreatDoorGD
import Derived.Test.YtagkjofpncpcpaaGreatDoorGF
import Derived.Test.YtagkjofpncpcpaaGreatDoorHN
import Derived.Test.YtagkjofpncpcpaaGreatDoorChkp
import Derived.Test.YtagkjofpncpcpaaGreatDoorXK
import Derived.Lib.TrimByte
namespace Go.Proofs.YtagkjofpncpcpaaGreatDoor
open Go.RowKit
end Go.Proofs.YtagkjofpncpcpaaGreatDoor

/- datakitref37.Each: what it gives. -/
namespace Go.Proofs.YtagkjofpncpcpaaGreatDoor
open Go.RowKit
end Go.Proofs.YtagkjofpncpcpaaGreatDoor

/- A list of values appended to a row of the call's own, in whatever region; slices.Clone of values. -/
namespace Go.Proofs.YtagkjofpncpcpaaGreatDoor
open Go.RowKit
def NewsV (w:World) (B N:Nat) (l:List ValD) (ns:List Value):Prop:=ns.length=l.length * 13∧∀ i (hi:i<l.length),ValD.At w B N l[i] ((ns.drop (i * 13)).take 13)
theorem NewsV.below {w w':World} {B N:Nat} {l:List ValD} {ns:List Value} (h:NewsV w B N l ns) (hb:Below B w w'):NewsV w' B N l ns:=⟨h.1,fun i hi=>(h.2 i hi).below hb⟩
theorem NewsV.mono {w:World} {B B' N:Nat} {l:List ValD} {ns:List Value} (h:NewsV w B N l ns) (hb:B≤B'):NewsV w B' N l ns:=⟨h.1,fun i hi=>(h.2 i hi).mono hb⟩
theorem NewsV.nil (w:World) (B N:Nat):NewsV w B N [] []:=⟨rfl,fun _ hi=>absurd hi (Nat.not_lt_zero _)⟩
theorem vals_news {w:World} {base B N n:Nat} {v:Value} {xs:List Value} {l:List ValD} (h:w.ownsRow base 30 13 v n xs) (hn:l.length=n) (hB:w.heap.size≤B) (hx:NewsV w B N l xs):∃ a c,v=.slice a l.length c∧ValsAt w B N l a:=valsAt_own h hn hB hx.2
end Go.Proofs.YtagkjofpncpcpaaGreatDoor

/- Results given exactly (datakitref37.result, list); results that are copies (builtin.valid, list). -/
namespace Go.Proofs.YtagkjofpncpcpaaGreatDoor
open Go.RowKit
theorem own_same {w w':World} {base:Nat} {e:TypeId} {size:Nat} {v:Value} {n:Nat} {xs:List Value} (h:w.ownsRow base e size v n xs) (hs:∀ q,base≤q→q<w.heap.size→w'.heap[q]?=w.heap[q]?):w'.ownsRow base e size v n xs:=by
 obtain ⟨h1,h2⟩:=h
 refine ⟨h1,?_⟩
 rcases h2 with h2 | ⟨g,cap,cur,hv,hg,hh,r⟩
 ·exact Or.inl h2
 ·exact Or.inr ⟨g,cap,cur,hv,hg,by rw [hs g hg (Array.getElem?_eq_some_iff.1 hh).1];exact hh,r⟩
set_option maxRecDepth 100000 in
set_option maxHeartbeats 3200000 in
theorem valid_prog_b (n:Nat) (v:ValD) (w:World) (B Bo N:Nat) (cs:List Value) (hn:n≤65536) (hf:fitsV n v) (hN:N≤4294967296) (hB:B≤w.heap.size) (hv:ValD.At w B N v cs) :
 Calls Tryz.prog 16 #[.agg cs.toArray,.int .i64 0] w (ResR Bo N (resD v) w):=by
 have HV:=Hd hv
 have HFT:=Hd hf
 have hl:=Hd (show (Tryz.prog.info? 30).map (·.size)=some cs.length by rw [hv.len];exact sizeV)
 have H0:=Hd (belowThen (belowBox w (.cells cs.toArray 30)) (belowBox (w.alloc (.cells cs.toArray 30)) (.cells zeroV 30)))
 have HS:=Hd (show ((w.alloc (.cells cs.toArray 30)).alloc (.cells zeroV 30)).heap.size=w.heap.size+1+1 by rw [World.size_alloc,World.size_alloc])
 have R0:=Hd ((box_at w cs 30).then (belowBox (w.alloc (.cells cs.toArray 30)) (.cells zeroV 30)) (by rw [World.size_alloc];omega))
 have Z0:=Hd (show RowAt ((w.alloc (.cells cs.toArray 30)).alloc (.cells zeroV 30)) (w.heap.size+1) zeroV.toList from by
  have h:=heap_alloc_new (w.alloc (.cells cs.toArray 30)) (.cells zeroV 30)
  rw [World.size_alloc] at h
  exact h)
 obtain ⟨k,hk⟩:∃ k,chkD v=k:=⟨_,rfl⟩
 have HK:=Hd hk
 clear hv hf
 go_enter Tryz.func16,Tryz.ntmps16
 go_wp2_with ((with_reducible show wpList _ _ _ (⟨some 8,_,_,_,_,_⟩::_) _ _);refine wpList_load_mid rfl 30 _ rfl w.heap.size 0 rfl cs _ R0.out.range Tryz.underlying30 rfl hl.out ?_)
 refine (vcheck_exact v _ B N cs hN (Nat.le_trans hB H0.out.size) (HV.out.below (H0.out.mono hB))).mono ?_
 rintro e w1 ⟨rfl,hb1⟩
 have H1:=Hd (belowThen H0.out hb1)
 have R1:=Hd (R0.out.then hb1 (by rw [HS.out];omega))
 have Z1:=Hd (Z0.out.below hb1 (by rw [HS.out];omega))
 have hs1:w.heap.size+1+1≤w1.heap.size:=by have:=hb1.size;rw [HS.out] at this;omega
 clear hb1
 rw [hk]
 clear hk
 by_cases hk0:k=0
 ·have HR:=Hd (show resD v=(v,0) by unfold resD;rw [if_pos (by rw [HK.out];exact hk0)])
  subst hk0
  go_wp2_with ((with_reducible show wpList _ _ _ (⟨some 14,_,_,_,_,_⟩::_) _ _);refine wpList_load_mid rfl 30 _ rfl w.heap.size 0 rfl cs _ R1.out.range Tryz.underlying30 rfl hl.out ?_)
  refine (copy_ex n v _ B N cs hn HFT.out hN (Nat.le_trans hB H1.out.size) (HV.out.below (H1.out.mono hB))).mono ?_
  rintro e w2 ⟨cs2,rfl,hsafe,hb2⟩
  have S2:=Hd hsafe
  have A2:=Hd hsafe.here
  have hlen:=hsafe.here.len
  have H2:=Hd (belowThen H1.out hb2)
  have Z2:=Hd (Z1.out.below hb2 (by omega))
  have hs2:w.heap.size+1+1≤w2.heap.size:=Nat.le_trans hs1 hb2.size
  clear hsafe hb2
  go_wp2_with ((with_reducible show wpList _ _ _ (⟨none,.store 30 (.tmp 4) _,_,_,_,_⟩::_) _ _);refine wpList_store_row rfl 30 _ _ rfl (w.heap.size+1) cs2.toArray rfl rfl 30 zeroV Z2.out (row_size hlen) (row_zero hlen) (row_ones A2.out) ?_)
  refine bodyPost_ret (results_cell_row2 rfl _ _ (w.heap.size+1) 30 _ (0,0) _ rfl (setRow_heap _ _ _ _ _ _ Z2.out) Tryz.underlying30 rfl (row_size hlen)) rfl ?_
  rw [HR.out]
  have S3:=(S2.out.next (no2:=none) (keep_setRow w2 (w.heap.size+1) w1.heap.size cs2.toArray (by omega)) (fun q _ h=>by cases h)).wide (L:=w.heap.size) (by omega)
  exact ⟨cs2,rfl,fun c hc=>S3 c hc.keep,below_setRow H2.out (by omega) _⟩
 ·have HR:=Hd (show resD v=(zeroD,k) by unfold resD;rw [if_neg (by rw [HK.out];exact hk0),HK.out])
  have hk1:(k==0)=false:=by simpa using hk0
  have hk2:(k != 0)=true:=by simpa using hk0
  clear hk0
  go_wp2_with ((with_reducible show wpList _ _ _ (⟨none,.store 30 (.tmp 4) _,_,_,_,_⟩::_) _ _);refine wpList_store_row rfl 30 _ _ rfl (w.heap.size+1) zeroV rfl rfl 30 zeroV Z1.out sizeZ rfl oneZ ?_)
  refine bodyPost_ret (results_cell_row2 rfl _ _ (w.heap.size+1) 30 _ (0,0) _ rfl (setRow_heap _ _ _ _ _ _ Z1.out) Tryz.underlying30 rfl sizeZ) rfl ?_
  exact res_zero HR.out (by omega) H1.out
set_option maxRecDepth 100000 in
set_option maxHeartbeats 1600000 in
theorem list_prog_b (n:Nat) (hn:n+1≤65536) (l:List ValD) (hf:∀ x∈l,fitsV n x) (a:Option Addr) (c:Nat) (w:World) (B Bo N:Nat) (hN:N≤4294967296) (hl:l.length≤N) (hB:B≤w.heap.size) (hBo:Bo≤w.heap.size) (h:ValsAt w B N l a) :
 Calls Tryz.prog 60 #[.slice a l.length c] w (ResR Bo N (resD (lisD l)) w):=by
 have HF:=Hd (show fitsV (n+1) (lisD l) from ⟨hf,fun f hf=>by cases hf⟩)
 have HA:=Hd (lisD_at c hl h)
 have H0:=Hd (belowBox w (.cells zeroV 30))
 have Z0:=Hd (show RowAt (w.alloc (.cells zeroV 30)) w.heap.size zeroV.toList from heap_alloc_new w (.cells zeroV 30))
 clear h hf
 go_enter Tryz.func60,Tryz.ntmps60
 go_wp2_with fail
 refine (valid_prog_b (n+1) (lisD l) _ B Bo N (lisR l a c) hn HF.out hN (Nat.le_trans hB H0.out.size) (HA.out.below (H0.out.mono hB))).mono ?_
 rintro e w1 ⟨cs2,rfl,hsol,hb⟩
 obtain ⟨r,hr⟩:∃ r,resD (lisD l)=r:=⟨_,rfl⟩
 have HR:=Hd hr
 rw [hr] at hsol ⊢
 have hlen:=hsol.here.len
 have AT:=Hd hsol.here
 have S1:=Hd hsol
 have H1:=Hd (belowThen H0.out hb)
 have Z1:=Hd (Z0.out.below hb (by rw [World.size_alloc];omega))
 clear hsol hb hr
 obtain ⟨rv,rk⟩:=r
 go_wp2_with ((with_reducible show wpList _ _ _ (⟨none,.store 30 (.tmp 2) _,_,_,_,_⟩::_) _ _);refine wpList_store_row rfl 30 _ _ rfl w.heap.size cs2.toArray rfl rfl 30 zeroV Z1.out (row_size hlen) (row_zero hlen) (row_ones AT.out) ?_)
 refine bodyPost_ret (results_cell_row2 rfl _ _ w.heap.size 30 _ (0,0) _ rfl (setRow_heap _ _ _ _ _ _ Z1.out) Tryz.underlying30 rfl (row_size hlen)) rfl ?_
 rw [HR.out]
 refine ⟨cs2,rfl,fun d hd=>S1.out d ?_,below_setRow H1.out (Nat.le_refl _) _⟩
 exact (Apart.of_setRow0 cs2.toArray hBo (by rw [World.size_alloc];omega)).after hd (by rw [World.size_alloc];omega)
theorem list_prog_bn (n:Nat) (hn:n+1≤65536) (l:List ValD) (m:Nat) (hm:l.length=m) (hf:∀ x∈l,fitsV n x) (a:Option Addr) (c:Nat) (w:World) (B Bo N:Nat) (hN:N≤4294967296) (hl:m≤N) (hB:B≤w.heap.size) (hBo:Bo≤w.heap.size) (h:ValsAt w B N l a) :
 Calls Tryz.prog 60 #[.slice a m c] w (ResR Bo N (resD (lisD l)) w):=by
 subst hm
 exact list_prog_b n hn l hf a c w B Bo N hN hl hB hBo h
end Go.Proofs.YtagkjofpncpcpaaGreatDoor
