/- datakitref41.Check: what is wrong with code. -/
import Derived.Test.YtniljgkkcnekgaaGreatDoorProg
import Derived.Test.YtniljgkkcnekgaaGreatDoorGA
import Derived.Test.YtniljgkkcnekgaaGreatDoorGB
import Derived.Test.YtniljgkkcnekgaaGreatDoorGC
import Derived.Test.YtniljgkkcnekgaaGreatDoorGK
import Derived.Test.YtniljgkkcnekgaaGreatDoorIN
import Derived.Test.YtniljgkkcnekgaaGreatDoorOne41r
import Derived.Test.YtniljgkkcnekgaaGreatDoorGZ
import Derived.Test.YtniljgkkcnekgaaGreatDoorSA
import Derived.Test.YtniljgkkcnekgaaGreatDoorNI
import Derived.Test.YtniljgkkcnekgaaGreatDoorCX
import Derived.Test.YtniljgkkcnekgaaGreatDoorTxp41
import Derived.Test.YtniljgkkcnekgaaGreatDoorTgp41
import Derived.Test.YtniljgkkcnekgaaGreatDoorTxr41
import Derived.Test.YtniljgkkcnekgaaGreatDoorTgr41
import Derived.Deep.RegionHeld
namespace Go.Proofs.YtniljgkkcnekgaaGreatDoor
namespace Stb
end Stb
open Go.RowKit
set_option maxRecDepth 100000 in
set_option maxHeartbeats 6400000 in
theorem code_ref (start:Int) (l:List InsD) (a:Option Addr) (c:Nat) (w:World) (N:Nat) (hN:N≤4294967296) (hl:l.length≤400) (hA:TabAt w) (h:InssAt w w.heap.size N l a) :
 Calls Tryz.prog 5 #[.agg #[.int .i64 start,.slice a l.length c]] w (IntB (codeE start l) w):=by
 have HA:=Hd hA
 have HL:=Hd h
 obtain ⟨n,hn⟩:∃ n,l.length=n:=⟨_,rfl⟩
 have HNL:=Hd hn
 have H0:=Hd (belowBox w (.cells (codeC start n a c).toArray 24))
 have R0:=Hd (box_at w (codeC start n a c) 24)
 rw [hn] at hl ⊢
 clear hA h hn
 by_cases h1:start<0
 ·have HR:=Hd (show codeE start l=2 by unfold codeE;rw [if_pos (.inl h1)])
  go_enter Tryz.func5,Tryz.ntmps5
  go_wp2_with fail
  go_ret
  exact int_ret HR.out H0.out
 by_cases h2:(n:Int)≤start
 ·have HR:=Hd (show codeE start l=2 by unfold codeE;rw [HNL.out,if_pos (.inr h2)])
  have h3:0≤start:=by omega
  clear h1
  go_enter Tryz.func5,Tryz.ntmps5
  go_wp2_with fail
  go_ret
  exact int_ret HR.out H0.out
 have HR:=Hd (show codeE start l=inssE n (l.drop 0) by rw [codeE_ok (by rw [HNL.out];omega),HNL.out])
 have h3:0≤start:=by omega
 have h4:start<(n:Int):=by omega
 clear h1 h2
 go_enter Tryz.func5,Tryz.ntmps5
 go_wp2_with fail
 go_simp
 go_loopw [3] (fun t wr=>∃ j:Nat,j≤n∧t=.int .i64 j∧Hid (codeE start l=inssE n (l.drop j))∧Hid (CellsAt wr w.heap.size 0 (codeC start n a c))∧Hid (Below w.heap.size w wr)∧w.heap.size<wr.heap.size) (fun t _=>n-(intOf t).toNat)
 case atStart=>exact ⟨0,by omega,rfl,HR,R0,H0,by rw [World.size_alloc];omega⟩
 case round =>
  clear R0 H0 HR
  obtain ⟨w1,rfl⟩:∃ w1,w1=wr:=⟨wr,rfl⟩
  obtain ⟨j,hj,rfl,HE,R1,H1,hs1⟩:=hrel
  have e0:=R1.out.get0 (j:=1) (v:=.slice a n c) rfl
  by_cases hlt:j<n
  ·have hlt2:j<l.length:=by rw [HNL.out];exact hlt
   obtain ⟨b,o,rfl,hb,cs,g1,g2⟩:=HL.out.get hlt2
   obtain ⟨x,hx⟩:∃ x,l[j]=x:=⟨_,rfl⟩
   rw [hx] at g2
   have HX:=Hd hx
   have hbb:=hb
   have HC:=Hd (g1.below H1.out hb)
   have HI:=Hd g2
   have hli:=Hd (show (Tryz.prog.info? 41).map (·.size)=some cs.length by rw [g2.len];exact sizeIns)
   clear hx g1 g2
   go_wp2_with fail
   have DD:=Hd (show Below w1.heap.size w1 w1.drew from ⟨rfl,rfl,rfl,Nat.le_refl _,fun _ _=>rfl⟩)
   have H2:=Hd (belowThen H1.out DD.out)
   have R2:=Hd (R1.out.then DD.out hs1)
   have HC2:=Hd (HC.out.below DD.out (by omega))
   have hs2:w.heap.size<w1.drew.heap.size:=hs1
   have e2:=R2.out.get0 (j:=1) (v:=.slice (some ⟨b,o,none⟩) n c) rfl
   refine wp_region_held_drew (S:=fun u=>Below w1.heap.size w1 u∧u.cell? ⟨w.heap.size,1,none⟩=some (.slice (some ⟨b,o,none⟩) n c)) (by kernel_rfl) ⟨DD.out,e2⟩ (fun hHeld=>?_)
   refine wpAnyH_take (i:=0) (v:=?v0) rfl (by kernel_rfl) (by kernel_rfl) (by kernel_rfl) (fun _ _ _ h=>h) (Or.inl ⟨by rfl,?y0⟩) hHeld ?r0
   case y0 =>
    intro u hSu
    have q1:=hSu.2
    clear hSu
    go_simp
    try (with_reducible rfl)
   simp only [Act.put,List.setIfInBounds_toArray]
   refine wpAnyH_take (i:=1) (v:=?v1) rfl (by kernel_rfl) (by kernel_rfl) (by kernel_rfl) (fun _ _ _ h=>h) (Or.inl ⟨by rfl,?y1⟩) hHeld ?r1
   case y1 =>
    intro u hSu
    have q1:=hSu.2
    clear hSu
    go_simp
    try (with_reducible rfl)
   simp only [Act.put]
   refine wpAnyH_take (i:=2) (v:=?v2) rfl (by kernel_rfl) (by kernel_rfl) (by kernel_rfl) (fun _ _ _ h=>h) (Or.inl ⟨by rfl,?y2⟩) hHeld ?r2
   case y2 =>
    intro u hSu
    have q1:=hSu.2
    clear hSu
    go_simp
    try (with_reducible rfl)
   simp only [Act.put]
   refine wpAnyH_take (i:=3) (v:=?v3) rfl (by kernel_rfl) (by kernel_rfl) (by kernel_rfl) (fun _ _ _ h=>h) (Or.inl ⟨by rfl,?y3⟩) hHeld ?r3
   case y3 =>
    intro u hSu
    have q1:=hSu.2
    clear hSu
    go_simp
    try (with_reducible rfl)
   simp only [Act.put]
   refine' wpAnyH_take (i:=4) (v:=_) rfl (by kernel_rfl) (by kernel_rfl) (by kernel_rfl) (fun _ _ _ h=>h) (yieldsIf_load_mid (by rfl) 41 _ rfl b (o+j * 17) rfl cs _ (fun u hu=>(HC.out.below hu.1 (by omega)).range) Tryz.underlying41 rfl hli.out) hHeld ?_
   simp only [Act.put]
   refine wpAnyH_take (i:=5) (v:=?v5) rfl (by kernel_rfl) (by kernel_rfl) (by kernel_rfl) (fun _ _ _ h=>h) (Or.inl ⟨by rfl,?y5⟩) hHeld ?r5
   case y5 =>
    intro u hSu
    have q1:=hSu.2
    clear hSu
    go_simp
    try (with_reducible rfl)
   simp only [Act.put]
   refine wpAnyH_take (i:=6) (v:=?v6) rfl (by kernel_rfl) (by kernel_rfl) (by kernel_rfl) (fun _ _ _ h=>h) (Or.inl ⟨by rfl,?y6⟩) hHeld ?r6
   case y6 =>
    intro u hSu
    have q1:=hSu.2
    clear hSu
    go_simp
    try (with_reducible rfl)
   simp only [Act.put]
   refine wpAnyH_take (i:=7) (v:=?v7) rfl (by kernel_rfl) (by kernel_rfl) (by kernel_rfl) (fun _ _ _ h=>h) (Or.inl ⟨by rfl,?y7⟩) hHeld ?r7
   case y7 =>
    intro u hSu
    have q1:=hSu.2
    clear hSu
    go_simp
    try (with_reducible rfl)
   simp only [Act.put]
   refine rd1 8 rfl (fun K hK=>?_)
   go_simp
   refine (one_ref x n _ w.heap.size N cs hN H2.out.size (HA.out.then H2.out) (HI.out.below H2.out)).mono ?_
   rintro e w3 ⟨rfl,hb3⟩
   refine hK.out _ _ ⟨belowThen DD.out hb3,(R2.out.then hb3 hs2).get0 (j:=1) (v:=.slice (some ⟨b,o,none⟩) n c) rfl⟩ (fun hHeld1=>?_)
   clear hK K hHeld
   refine rd1 9 rfl (fun K hK=>?_)
   go_simp
   refine hK.out _ _ hHeld1 (fun hHeld2=>?_)
   clear hK K hHeld2 hHeld1
   refine wpAnyH_done (by kernel_rfl) ?_ _
   have H3:=Hd (belowThen H2.out hb3)
   have R3:=Hd (R2.out.then hb3 hs2)
   have hs3:w.heap.size<w3.heap.size:=Nat.lt_of_lt_of_le hs2 hb3.size
   obtain ⟨k,hk⟩:∃ k,insE x n=k:=⟨_,rfl⟩
   have HK:=Hd hk
   rw [hk]
   clear hb3 hk
   by_cases hk0:k=0
   ·have HE2:=Hd (show codeE start l=inssE n (l.drop (j+1)) by rw [HE.out,inssE_step hlt2 (by rw [HX.out,HK.out];exact hk0)])
    subst hk0
    go_wp2
    go_roundw
    case rel=>exact ⟨j+1,by omega,by go_num,HE2,R3,H3,hs3⟩
    case measure=>simp [intOf]<;>omega
   ·have HE2:=Hd (show codeE start l=k by rw [HE.out,inssE_stop hlt2 (by rw [HX.out,HK.out];exact hk0),HX.out,HK.out])
    have k1:(k==0)=false:=by simpa using hk0
    have k2:(k != 0)=true:=by simpa using hk0
    clear hk0
    go_wp2_with fail
    go_ret
    exact int_ret HE2.out H3.out
  ·obtain rfl:j=n:=by omega
   have HE2:=Hd (show codeE start l=0 by rw [HE.out,← HNL.out];exact inssE_end)
   go_wp2_with fail
   go_ret
   exact int_ret HE2.out H1.out
end Go.Proofs.YtniljgkkcnekgaaGreatDoor

/- The law QcodeChecks: it says yes, of code that lies in memory. -/
namespace Go.Proofs.YtniljgkkcnekgaaGreatDoor
open Go.RowKit
set_option maxRecDepth 100000 in
set_option maxHeartbeats 1600000 in
theorem small_ex50 (w:World) (B N:Nat) (v:ValD) (cs:List Value) (hN:N≤1099511627776) (hB:B≤w.heap.size) (hv:ValD.At w B N v cs) :
 Calls Tryz.prog 10 #[.agg cs.toArray,.int .i64 50,.int .i64 60] w (SmallR 60 v w):=by
 have HV:=Hd hv
 have hl:=Hd (show (Tryz.prog.info? 39).map (·.size)=some cs.length by rw [hv.len];exact sizeV)
 have H0:=Hd (show Below w.heap.size w (w.alloc (.cells cs.toArray 39)) from belowBox w _)
 clear hv
 go_enter Tryz.func10,Tryz.ntmps10
 go_wp2_with (refine wpList_load_mid rfl 39 _ rfl w.heap.size 0 rfl cs _ (box_at w cs 39).range Tryz.underlying39 rfl hl.out ?_)
 refine (room_ex 60 _ B N v cs 50 (by omega) (by omega) (by omega) hN (Nat.le_trans hB H0.out.size) (HV.out.below (H0.out.mono hB))).mono ?_
 rintro e w1 ⟨k,rfl,hk,_,_,hb1⟩
 have HK:=Hd hk
 have H1:=Hd (belowThen H0.out hb1)
 clear hb1 hk
 go_wp2_with fail
 go_ret
 refine ⟨_,rfl,fun h=>HK.out ?_,H1.out⟩
 simpa using h
def SmcR (n:Nat) (w:World) (e:Ending) (w':World):Prop:=∃ b,e=.returned (.bool b)∧(b=true→n≤400)∧Below w.heap.size w w'
set_option maxRecDepth 100000 in
set_option maxHeartbeats 1600000 in
theorem small41 (start:Int) (l:List InsD) (a:Option Addr) (c:Nat) (w:World) (N:Nat) (hN:N≤1099511627776) (hl:l.length≤1099511627776) (h:InssAt w w.heap.size N l a) :
 Calls Tryz.prog 4 #[.agg #[.int .i64 start,.slice a l.length c]] w (SmcR l.length w):=by
 have HL:=Hd h
 obtain ⟨n,hn⟩:∃ n,l.length=n:=⟨_,rfl⟩
 have HNL:=Hd hn
 have H0:=Hd (belowBox w (.cells (codeC start n a c).toArray 24))
 have R0:=Hd (box_at w (codeC start n a c) 24)
 rw [hn] at hl ⊢
 clear h hn
 by_cases h4:(400:Int)<(n:Int)
 ·go_enter Tryz.func4,Tryz.ntmps4
  go_wp2_with fail
  go_ret
  exact ⟨_,rfl,fun h=>(by cases h),H0.out⟩
 have h5:(n:Int)≤400:=by omega
 have h6:n≤400:=by omega
 clear h4
 go_enter Tryz.func4,Tryz.ntmps4
 go_wp2_with fail
 go_simp
 go_loopw [3] (fun t wr=>∃ j:Nat,j≤n∧t=.int .i64 j∧Hid (CellsAt wr w.heap.size 0 (codeC start n a c))∧Hid (Below w.heap.size w wr)∧w.heap.size<wr.heap.size) (fun t _=>n-(intOf t).toNat)
 case atStart=>exact ⟨0,by omega,rfl,R0,H0,by rw [World.size_alloc];omega⟩
 case round =>
  clear R0 H0
  obtain ⟨w1,rfl⟩:∃ w1,w1=wr:=⟨wr,rfl⟩
  obtain ⟨j,hj,rfl,R1,H1,hs1⟩:=hrel
  have e0:=R1.out.get0 (j:=1) (v:=.slice a n c) rfl
  by_cases hlt:j<n
  ·have hlt2:j<l.length:=by rw [HNL.out];exact hlt
   obtain ⟨b,o,rfl,hb,cs,g1,g2⟩:=HL.out.get hlt2
   obtain ⟨vs,hh⟩:=g2.has
   have HC:=Hd (hh.cells _ _ _ (g1.below H1.out hb))
   have HV:=Hd hh.val
   have hlv:=Hd (show (Tryz.prog.info? 39).map (·.size)=some vs.length by rw [hh.val.len];exact sizeV)
   clear g1 g2 hh
   go_wp2_with ((with_reducible show wpList _ _ _ (⟨some 20,_,_,_,_,_⟩::_) _ _);refine wpList_load_mid rfl 39 _ rfl b (o+j * 17+4) rfl vs _ HC.out.range Tryz.underlying39 rfl hlv.out ?_)
   refine (small_ex50 _ w.heap.size N _ vs hN H1.out.size (HV.out.below H1.out)).mono ?_
   rintro e w3 ⟨b3,rfl,_,hb3⟩
   have H3:=Hd (belowThen H1.out hb3)
   have R3:=Hd (R1.out.then hb3 hs1)
   have hs3:w.heap.size<w3.heap.size:=Nat.lt_of_lt_of_le hs1 hb3.size
   clear hb3 e0
   cases b3 with
   | false =>
     go_wp2_with fail
     go_ret
     exact ⟨_,rfl,fun h=>(by cases h),H3.out⟩
   | true =>
     go_wp2
     go_roundw
     case rel=>exact ⟨j+1,by omega,by go_num,R3,H3,hs3⟩
     case measure=>simp [intOf]<;>omega
  ·go_wp2_with fail
   go_ret
   exact ⟨_,rfl,fun _=>h6,H1.out⟩
theorem InssAt.mono {w:World} {B B' N:Nat} {l:List InsD} {a:Option Addr} (h:InssAt w B N l a) (hB:B≤B'):InssAt w B' N l a:=by
 rcases h with h | ⟨b,o,h1,h2,h3⟩
 ·exact .inl h
 ·refine .inr ⟨b,o,h1,by omega,fun i hi=>?_⟩
  obtain ⟨cs,g1,g2⟩:=h3 i hi
  exact ⟨cs,g1,g2.mono hB⟩
theorem small41_n (start:Int) (l:List InsD) (n:Nat) (hn:l.length=n) (a:Option Addr) (c:Nat) (w:World) (N:Nat) (hN:N≤1099511627776) (hl:n≤1099511627776) (h:InssAt w w.heap.size N l a) :
 Calls Tryz.prog 4 #[.agg #[.int .i64 start,.slice a n c]] w (SmcR n w):=by
 subst hn
 exact small41 start l a c w N hN hl h
theorem code_ref_n (start:Int) (l:List InsD) (n:Nat) (hn:l.length=n) (a:Option Addr) (c:Nat) (w:World) (N:Nat) (k:Int) (hk:codeE start l=k) (hN:N≤4294967296) (hl:n≤400) (hA:TabAt w) (h:InssAt w w.heap.size N l a) :
 Calls Tryz.prog 5 #[.agg #[.int .i64 start,.slice a n c]] w (IntB k w):=by
 subst hn hk
 exact code_ref start l a c w N hN hl hA h
end Go.Proofs.YtniljgkkcnekgaaGreatDoor

/- The law QcodeTexts says yes. -/
namespace Go.Proofs.YtniljgkkcnekgaaGreatDoor
open Go.RowKit Stb
theorem sizeCode41:(Tryz.prog.info? 24).map (·.size)=some 2:=by kernel_rfl
def Yes41 (w:World) (e:Ending) (w':World):Prop:=e=.returned (.bool true)∧Below w.heap.size w w'
theorem targets_pn (start:Int) (l:List InsD) (n:Nat) (hn:l.length=n) (a:Option Addr) (c:Nat) (w:World) (N:Nat) (hl:n≤400) (hok:∀ x∈l,InsOk x l.length) (h:InssAt w w.heap.size N l a) :
 Calls Tryz.prog 6 #[.agg #[.int .i64 start,.slice a n c]] w (TgtR (tgtS l) w):=by subst hn;exact targets_p start l a c w N hl hok h
theorem targets_rn (start:Int) (l:List InsD) (n:Nat) (hn:l.length=n) (a:Option Addr) (c:Nat) (w:World) (N:Nat) (hl:n≤400) (hok:∀ x∈l,InsOk x l.length) (h:InssAt w w.heap.size N l a) :
 Calls Tryz.prog 7 #[.agg #[.int .i64 start,.slice a n c]] w (TgtR (tgtS l) w):=by subst hn;rw [tgt_eq hok];exact targets_r start l a c w N hl hok h
theorem text_pn (start:Int) (l:List InsD) (n:Nat) (hn:l.length=n) (a:Option Addr) (c:Nat) (w:World) (N:Nat) (hN:N≤4294967296) (hl:n≤400) (hc:codeE start l=0) (hP:PowAt w) (h:InssAt w w.heap.size N l a) :
 Calls Tryz.prog 8 #[.agg #[.int .i64 start,.slice a n c]] w (StrB (strOfNums (headT start++linT l n)) w):=by subst hn;exact text41_p start l a c w N hN hl hc hP h
theorem text_rn (start:Int) (l:List InsD) (n:Nat) (hn:l.length=n) (a:Option Addr) (c:Nat) (w:World) (N:Nat) (hN:N≤4294967296) (hl:n≤400) (hc:codeE start l=0) (hP:WordsAt w) (h:InssAt w w.heap.size N l a) :
 Calls Tryz.prog 9 #[.agg #[.int .i64 start,.slice a n c]] w (StrB (strOfNums (headT start++linT l n)) w):=by subst hn;exact text41_r start l a c w N hN hl hc hP h
theorem int_at {w:World} {L:List Int} {a:Option Addr} (h:IntSAt w L a) {k:Nat} (hk:k<L.length):∃ g o,a=some ⟨g,o,none⟩∧∀ u,Below w.heap.size w u→u.cell? ⟨g,o+k,none⟩=some (.int .i64 L[k]):=by
 rcases h with h | ⟨g,o,rfl,h1,h2⟩
 ·rw [h] at hk;cases hk
 ·refine ⟨g,o,rfl,fun u hu=>?_⟩
  have h3:=(h2.below hu h1) k (by rw [List.length_map];exact hk)
  rw [h3,List.getElem?_map,List.getElem?_eq_getElem hk]
  rfl
set_option maxRecDepth 100000 in
set_option maxHeartbeats 12800000 in
theorem law41t (start:Int) (l:List InsD) (a:Option Addr) (c:Nat) (w:World) (N:Nat) (hN:N≤4294967296) (hl:l.length≤1099511627776) (hP:PowAt w) (hW:WordsAt w) (h:InssAt w w.heap.size N l a) :
 Calls Tryz.prog 3 #[.agg #[.int .i64 start,.slice a l.length c]] w (Yes41 w):=by
 have HL:=Hd h
 have HP:=Hd hP
 have HW:=Hd hW
 obtain ⟨n,hn⟩:∃ n,l.length=n:=⟨_,rfl⟩
 have HNL:=Hd hn
 rw [hn] at hl ⊢
 obtain ⟨wb,hwb⟩:∃ wb,wb=w.alloc (.cells #[.int .i64 start,.slice a n c] 24):=⟨_,rfl⟩
 have HWB:=Hd hwb
 have RB:=Hd (show RowT 24 wb w.heap.size (codeC start n a c) by rw [hwb];exact RowT.new w 24 (codeC start n a c))
 have H0:=Hd (show Below w.heap.size w wb by rw [hwb];exact belowBox w _)
 have hli:=Hd (show (Tryz.prog.info? 24).map (·.size)=some (codeC start n a c).length from sizeCode41)
 have HLB:=Hd (show ∀ u,Below w.heap.size w u→InssAt u u.heap.size N l a from fun u hu=>(h.below hu).mono hu.size)
 clear h hn hP hW hwb
 go_enter Tryz.func3,Tryz.ntmps3
 go_wp2_with fail
 rw [← HWB.out]
 refine (small41_n start l n HNL.out a c wb N (by omega) hl (HLB.out _ H0.out)).mono ?_
 rintro e w1 ⟨b,rfl,hb4,hb1⟩
 have H1:=Hd (belowThen H0.out hb1)
 have R1:=Hd (RB.out.then hb1)
 cases b with
 | false =>
   clear hb1 hb4
   go_wp2_with fail
   go_ret
   exact ⟨rfl,H1.out⟩
 | true =>
 have h400:=hb4 rfl
 clear hb1 hb4
 obtain ⟨k,hk⟩:∃ k,codeE start l=k:=⟨_,rfl⟩
 have HK:=Hd hk
 have HTA:=Hd (show ∀ u,TabAt u from fun _=>trivial)
 clear hk
 have e0:=R1.out.cell (j:=0) (v:=.int .i64 start) rfl
 have e1:=R1.out.cell (j:=1) (v:=.slice a n c) rfl
 go_wp2_with fail
 refine (code_ref_n start l n HNL.out a c w1 N k HK.out hN h400 (HTA.out _) (HLB.out _ H1.out)).mono ?_
 rintro e w2 ⟨rfl,hb2⟩
 have H2:=Hd (belowThen H1.out hb2)
 have R2:=Hd (R1.out.then hb2)
 clear hb2 e0 e1
 by_cases hk0:k=0
 case neg =>
  have q1:(k != 0)=true:=by simpa using hk0
  clear hk0
  go_wp2_with fail
  go_ret
  exact ⟨rfl,H2.out⟩
 have q1:(k != 0)=false:=by simp [hk0]
 have HC:=Hd (HK.out.trans hk0)
 have HOK:=Hd (code_ok (by rw [HNL.out];exact h400) HC.out).2
 clear hk0
 go_wp2_with fail
 refine wp_region_held_drew (S:=fun u=>RowT 24 u w.heap.size (codeC start n a c)∧Below w.heap.size w u) (by kernel_rfl) ⟨R2.out.drew,belowThen H2.out (drewU w2)⟩ (fun hHeld=>?_)
 refine' tk 0 _ rfl rfl (yieldsIf_load_mid (by kernel_rfl) 24 _ rfl w.heap.size 0 rfl (codeC start n a c) _ (fun u hu=>hu.1.range) Tryz.underlying24 rfl hli.out) hHeld ?_
 simp only [sq1,sq0]
 refine' tk 2 _ rfl rfl (yieldsIf_load_mid (by kernel_rfl) 24 _ rfl w.heap.size 0 rfl (codeC start n a c) _ (fun u hu=>hu.1.range) Tryz.underlying24 rfl hli.out) hHeld ?_
 simp only [sq1,sq0]
 refine rd1 1 rfl (fun K hK=>?_)
 go_simp
 refine (targets_pn start l n HNL.out a c _ N h400 HOK.out (HLB.out _ hHeld.2)).mono ?_
 rintro e w3 ⟨a3,c3,rfl,hi3,hb3⟩
 refine hK.out _ _ ⟨hHeld.1.then hb3,belowThen hHeld.2 hb3⟩ (fun hHeld1=>?_)
 have HI3:=Hd hi3
 clear hK K hHeld hb3 hi3
 refine rd1 3 rfl (fun K hK=>?_)
 go_simp
 refine (targets_rn start l n HNL.out a c _ N h400 HOK.out (HLB.out _ hHeld1.2)).mono ?_
 rintro e w4 ⟨a4,c4,rfl,hi4,hb4⟩
 refine hK.out _ _ ⟨hHeld1.1.then hb4,belowThen hHeld1.2 hb4⟩ (fun hHeld2=>?_)
 have HI4:=Hd hi4
 replace HI3:=Hd (HI3.out.then hb4)
 clear hK K hHeld1 hb4 hi4
 refine rd1 4 rfl (fun K hK=>?_)
 go_simp
 refine hK.out _ _ hHeld2 (fun hHeldx=>?_)
 clear hK K hHeldx
 refine rd1 5 rfl (fun K hK=>?_)
 go_simp
 refine hK.out _ _ hHeld2 (fun hHeldx=>?_)
 clear hK K hHeldx
 refine wpAnyH_done (by kernel_rfl) ?_ _
 have R4:=Hd hHeld2.1
 have H4:=Hd hHeld2.2
 clear hHeld2
 obtain ⟨L,hL⟩:∃ L,tgtS l=L:=⟨_,rfl⟩
 rw [hL] at HI3 HI4 ⊢
 obtain ⟨m,hm⟩:∃ m,L.length=m:=⟨_,rfl⟩
 have HM:=Hd hm
 have hm4:m≤400:=by
  rw [← hm,← hL,tgt_eq HOK.out]
  unfold tgtR
  rw [List.length_map]
  refine Nat.le_trans (List.length_filter_le _ _) ?_
  rw [List.length_range,HNL.out]
  exact h400
 rw [hm]
 clear hm hL
 go_wp2_with fail
 go_simp
 go_loopw [5] (fun t wr=>∃ k:Nat,t=.int .i64 k∧k≤m∧Hid (Below w4.heap.size w4 wr)) (fun t _=>m-(intOf t).toNat)
 case atStart=>exact ⟨0,rfl,by omega,Hd (Below.refl _ _)⟩
 case round =>
  obtain ⟨w5,rfl⟩:∃ w5,w5=wr:=⟨wr,rfl⟩
  obtain ⟨k,rfl,hk,HB⟩:=hrel
  by_cases hlt:k<m
  ·obtain ⟨g3,o3,rfl,hc3⟩:=int_at HI3.out (k:=k) (by rw [HM.out];exact hlt)
   obtain ⟨g4,o4,rfl,hc4⟩:=int_at HI4.out (k:=k) (by rw [HM.out];exact hlt)
   obtain ⟨y,hy⟩:∃ y,L[k]'(by rw [HM.out];exact hlt)=y:=⟨_,rfl⟩
   rw [hy] at hc3 hc4
   have HC3:=Hd hc3
   have HC4:=Hd hc4
   clear hc3 hc4 hy
   go_wp2_with fail
   refine wp_region_held_drew (S:=fun u=>Below w4.heap.size w4 u) (by kernel_rfl) (belowThen HB.out (drewU w5)) (fun hHeld=>?_)
   refine' tk 0 (.slice (some ⟨g3,o3,none⟩) m c3) rfl rfl (.inl ⟨by rfl,fun u hu=>(by go_simp)⟩) hHeld ?_
   simp only [sq1,sq0]
   refine' tk 1 (.int .i64 k) rfl rfl (.inl ⟨by rfl,fun u hu=>(by go_simp)⟩) hHeld ?_
   simp only [sq1,sq0]
   refine' tk 2 (.pointer (some ⟨g3,o3+k,none⟩)) rfl rfl (.inl ⟨by rfl,fun u hu=>(by go_simp)⟩) hHeld ?_
   simp only [sq1,sq0]
   refine' tk 3 (.int .i64 y) rfl rfl (.inl ⟨by rfl,fun u hu=>(by have hc:=HC3.out u hu;go_simp)⟩) hHeld ?_
   simp only [sq1,sq0]
   refine' tk 4 (.slice (some ⟨g4,o4,none⟩) m c4) rfl rfl (.inl ⟨by rfl,fun u hu=>(by go_simp)⟩) hHeld ?_
   simp only [sq1,sq0]
   refine' tk 5 (.int .i64 k) rfl rfl (.inl ⟨by rfl,fun u hu=>(by go_simp)⟩) hHeld ?_
   simp only [sq1,sq0]
   refine' tk 6 (.pointer (some ⟨g4,o4+k,none⟩)) rfl rfl (.inl ⟨by rfl,fun u hu=>(by go_simp)⟩) hHeld ?_
   simp only [sq1,sq0]
   refine' tk 7 (.int .i64 y) rfl rfl (.inl ⟨by rfl,fun u hu=>(by have hc:=HC4.out u hu;go_simp)⟩) hHeld ?_
   simp only [sq1,sq0]
   refine' tk 8 (.bool false) rfl rfl (.inl ⟨by rfl,fun u hu=>(by go_simp)⟩) hHeld ?_
   simp only [sq1,sq0]
   refine wpAnyH_done (by kernel_rfl) ?_ _
   have HB6:=Hd hHeld
   clear hHeld
   go_wp2_with fail
   go_roundw
   case rel=>exact ⟨k+1,by go_num,by omega,HB6⟩
   case measure=>simp [intOf];omega
  have R5:=Hd (R4.out.then HB.out)
  have H5:=Hd (belowThen H4.out HB.out)
  go_wp2_with fail
  refine wp_region_held_drew (S:=fun u=>RowT 24 u w.heap.size (codeC start n a c)∧Below w.heap.size w u) (by kernel_rfl) ⟨R5.out.drew,belowThen H5.out (drewU w5)⟩ (fun hHeld=>?_)
  refine' tk 0 _ rfl rfl (yieldsIf_load_mid (by kernel_rfl) 24 _ rfl w.heap.size 0 rfl (codeC start n a c) _ (fun u hu=>hu.1.range) Tryz.underlying24 rfl hli.out) hHeld ?_
  simp only [sq1,sq0]
  refine' tk 2 _ rfl rfl (yieldsIf_load_mid (by kernel_rfl) 24 _ rfl w.heap.size 0 rfl (codeC start n a c) _ (fun u hu=>hu.1.range) Tryz.underlying24 rfl hli.out) hHeld ?_
  simp only [sq1,sq0]
  refine rd1 1 rfl (fun K hK=>?_)
  go_simp
  refine (text_pn start l n HNL.out a c _ N hN h400 HC.out (HP.out.then hHeld.2) (HLB.out _ hHeld.2)).mono ?_
  rintro e w6 ⟨rfl,hb6⟩
  refine hK.out _ _ ⟨hHeld.1.then hb6,belowThen hHeld.2 hb6⟩ (fun hHeld1=>?_)
  clear hK K hHeld hb6
  refine rd1 3 rfl (fun K hK=>?_)
  go_simp
  refine (text_rn start l n HNL.out a c _ N hN h400 HC.out (HW.out.then hHeld1.2) (HLB.out _ hHeld1.2)).mono ?_
  rintro e w7 ⟨rfl,hb7⟩
  refine hK.out _ _ ⟨hHeld1.1.then hb7,belowThen hHeld1.2 hb7⟩ (fun hHeld2=>?_)
  clear hK K hHeld1 hb7
  obtain ⟨tx,htx⟩:∃ tx,strOfNums (headT start++linT l n)=tx:=⟨_,rfl⟩
  rw [htx]
  refine' tk 4 (.bool true) rfl rfl (.inl ⟨by rfl,fun u hu=>(by go_simp)⟩) hHeld2 ?_
  simp only [sq1,sq0]
  refine rd1 5 rfl (fun K hK=>?_)
  go_simp
  refine hK.out _ _ hHeld2 (fun hHeldx=>?_)
  clear hK K hHeldx
  refine wpAnyH_done (by kernel_rfl) ?_ _
  go_wp2_with fail
  go_ret
  exact ⟨rfl,hHeld2.2⟩
end Go.Proofs.YtniljgkkcnekgaaGreatDoor
