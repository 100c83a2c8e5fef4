/- The reference's level and at. -/
import Derived.Test.YtiefeajappjnbaaGreatDoorGA
import Derived.Test.YtiefeajappjnbaaGreatDoorMB
import Derived.Test.YtiefeajappjnbaaGreatDoorGG
import Derived.Test.YtiefeajappjnbaaGreatDoorMH
import Derived.Test.YtiefeajappjnbaaGreatDoorMF
namespace Go.Proofs.YtiefeajappjnbaaGreatDoor
open Go.RowKit
def SrcR (f:ExprD→ByteArray) (y:ExprD):Prop:=∀ (w:World) (B N:Nat) (cs:List Value),N≤1048576→B≤w.heap.size→Env w→ExprD.At w B N y cs→Calls Tryz.prog 24 #[.agg cs.toArray] w (StrB (f y) w)
structure KidR (f:ExprD→ByteArray) (y:ExprD):Prop where
 op:1≤y.op∧y.op≤29
 try_:y.op=17→y.args.length=2∧((y.args.getD 1 default).op=30→absB (y.args.getD 1 default)=true)
 size:(f y).size≤274877906944
 call:SrcR f y
theorem absB_ne {e:ExprD} (h:e.op≠30):absB e=false:=by
 unfold absB
 simp [h]
set_option maxRecDepth 100000 in
set_option maxHeartbeats 3200000 in
theorem level_r (x:ExprD) (w:World) (B N:Nat) (cs:List Value) (hop:1≤x.op∧x.op≤30) (h17:x.op=17→x.args.length=2∧((x.args.getD 1 default).op=30→absB (x.args.getD 1 default)=true)) (hB:B≤w.heap.size) (hx:ExprD.At w B N x cs):Calls Tryz.prog 115 #[.agg cs.toArray] w (IntB (levS x) w):=by
 obtain ⟨aa,fa,ac,fc,vs,hh⟩:=hx.has
 have c0:=hh.op
 have c1:=hh.name
 have c15:=hh.args
 have R0:=Hd (box_at w cs 34)
 have H0:=Hd (belowBox w (.cells cs.toArray 34))
 have e0:=R0.out.get0 c0
 obtain ⟨K,hK⟩:∃ K,levS x=K:=⟨_,rfl⟩
 rw [hK]
 have HK:=Hd hK
 clear hK
 by_cases h12:x.op=12
 ·have e1:=R0.out.get0 c1
  rw [h12] at e0
  have HH:=Hd h12
  clear hh hx c0 c1 c15 h17 hop h12
  by_cases hp:x.name=⟨#[43]⟩
  ·rw [hp] at e1
   have HP:=Hd hp
   clear hp
   go_enter Tryz.func115,Tryz.ntmps115
   go_wp2_with fail
   go_ret
   exact ⟨by rw [← HK.out];unfold levS;rw [HH.out,HP.out];rfl,H0.out⟩
  by_cases hq:x.name=⟨#[45]⟩
  ·rw [hq] at e1
   have HP:=Hd hq
   clear hp hq
   go_enter Tryz.func115,Tryz.ntmps115
   go_wp2_with fail
   go_ret
   exact ⟨by rw [← HK.out];unfold levS;rw [HH.out,HP.out];rfl,H0.out⟩
  have HP:=Hd (show ¬ (x.name.data.toList=[43]∨x.name.data.toList=[45]) by
   rintro (h | h)
   ·exact hp (by have:x.name.data=#[43]:=Array.toList_inj.1 h;cases hx9:x.name;simp_all)
   ·exact hq (by have:x.name.data=#[45]:=Array.toList_inj.1 h;cases hx9:x.name;simp_all))
  have q1:(x.name.toList==[43])=false:=by simpa using fun h=>HP.out (.inl (by rw [← ByteArray.toList_eq];exact h))
  have q2:(x.name.toList==[45])=false:=by simpa using fun h=>HP.out (.inr (by rw [← ByteArray.toList_eq];exact h))
  have HLV:=Hd (show levS x=8 by unfold levS;rw [HH.out,if_neg HP.out];rfl)
  clear HP HH
  obtain ⟨nm,hnm⟩:∃ nm,x.name=nm:=⟨_,rfl⟩
  rw [hnm] at e1 q1 q2
  clear hnm hp hq
  go_enter Tryz.func115,Tryz.ntmps115
  go_wp2_with fail
  go_ret
  exact ⟨by rw [← HK.out,HLV.out];rfl,H0.out⟩
 by_cases h17':x.op=17
 ·rw [h17'] at e0
  have e15:=R0.out.get0 c15
  obtain ⟨b,o,a0,a1,rfl,hb,_,_,r1,k1⟩:=args2_at hh (h17 h17').1
  have hl1:=Hd (show (Tryz.prog.info? 34).map (·.size)=some a1.length by rw [k1.len];kernel_rfl)
  have HR1:=Hd (r1.below (H0.out.mono hB) hb)
  have HQ1:=Hd (k1.below (H0.out.mono hB))
  rw [(h17 h17').1] at e15
  have HH:=Hd h17'
  have HAB:=Hd (h17 h17').2
  clear hh hx c0 c1 c15 h17 hop h12 h17' r1 k1
  go_enter Tryz.func115,Tryz.ntmps115
  go_wp2_with ((with_reducible show wpList _ _ _ (⟨some 40,_,_,_,_,_⟩::_) _ _);refine wpList_load_mid rfl 34 _ rfl b (o+17) rfl a1 _ HR1.out.range Tryz.underlying34 rfl hl1.out ?_)
  refine (absent_r _ _ B N a1 (Nat.le_trans hB H0.out.size) HQ1.out).mono ?_
  rintro e w1 ⟨rfl,hb1⟩
  have H1:=Hd (belowThen H0.out hb1)
  clear hb1
  by_cases h30:(x.args.getD 1 default).op=30
  ·have HLV:=Hd (show levS x=10 by unfold levS;rw [HH.out,h30];rfl)
   rw [HAB.out h30]
   clear h30
   go_wp2_with fail
   go_ret
   exact ⟨by rw [← HK.out,HLV.out];rfl,H1.out⟩
  ·have HLV:=Hd (show levS x=9 by unfold levS;rw [HH.out];have h3:=h30;generalize (x.args.getD 1 default).op=q at h3 ⊢;simp [h3])
   rw [absB_ne h30]
   clear h30
   go_wp2_with fail
   go_ret
   exact ⟨by rw [← HK.out,HLV.out];rfl,H1.out⟩
 have HO:=Hd hop
 have H12:=Hd h12
 have H17:=Hd h17'
 clear hh hx c0 c1 c15 h17 hop h12 h17'
 rcases ops31 HO.out with h | h | h | h | h | h | h | h | h | h | h | h | h | h | h | h | h | h | h | h | h | h | h | h | h | h | h | h | h | h
 all_goals
  have HH:=Hd h
  rw [h] at e0
  clear h
  first
   | exact absurd HH.out H12.out
   | exact absurd HH.out H17.out
   | (go_enter Tryz.func115,Tryz.ntmps115
      go_wp2_with fail
      go_ret
      exact ⟨by rw [← HK.out];unfold levS;rw [HH.out];rfl,H0.out⟩)
set_option maxRecDepth 100000 in
set_option maxHeartbeats 3200000 in
theorem at_r (f:ExprD→ByteArray) (y:ExprD) (hk:KidR f y) (k:Int) (w:World) (B N:Nat) (cs:List Value) (hN:N≤1048576) (hB:B≤w.heap.size) (hE:Env w) (hy:ExprD.At w B N y cs):Calls Tryz.prog 66 #[.agg cs.toArray,.int .i64 k] w (StrB (atS f k y) w):=by
 have HY:=Hd hy
 have HE:=Hd hE
 have HK:=Hd hk
 have hl:=Hd (show (Tryz.prog.info? 34).map (·.size)=some cs.length by rw [hy.len];kernel_rfl)
 have R0:=Hd (box_at w cs 34)
 have hs0:=Hd (show w.heap.size<(w.alloc (.cells cs.toArray 34)).heap.size by rw [World.size_alloc];omega)
 have H0:=Hd (belowBox w (.cells cs.toArray 34))
 have HSZ:=Hd hk.size
 clear hy hk hE
 go_enter Tryz.func66,Tryz.ntmps66
 go_wp2_with (refine wpList_load_mid rfl 34 _ rfl w.heap.size 0 rfl cs _ R0.out.range Tryz.underlying34 rfl hl.out ?_)
 refine (level_r y _ B N cs ⟨HK.out.op.1,by have:=HK.out.op.2;omega⟩ HK.out.try_ (Nat.le_trans hB H0.out.size) (HY.out.below (H0.out.mono hB))).mono ?_
 rintro e w1 ⟨rfl,hb1⟩
 have H1:=Hd (belowThen H0.out hb1)
 have R1:=Hd (R0.out.then hb1 hs0.out)
 have HA:=Hd (show atS f k y=if levS y<k then inP (f y) else f y from rfl)
 obtain ⟨lv,hlv⟩:∃ lv,levS y=lv:=⟨_,rfl⟩
 rw [hlv] at HA ⊢
 clear hb1 hlv
 by_cases h:lv<k
 ·have HR:=Hd (HA.out.trans (if_pos h))
  go_wp2_with (refine wpList_load_mid rfl 34 _ rfl w.heap.size 0 rfl cs _ R1.out.range Tryz.underlying34 rfl hl.out ?_)
  refine (HK.out.call _ B N cs hN (Nat.le_trans hB H1.out.size) (HE.out.then H1.out) (HY.out.below (H1.out.mono hB))).mono ?_
  rintro e w2 ⟨rfl,hb2⟩
  have H2:=Hd (belowThen H1.out hb2)
  have s1:(⟨#[40]⟩:ByteArray).size+(f y).size≤9223372036854775807:=by have:=HSZ.out;simp only [szl,List.size_toArray,List.length_cons,List.length_nil];omega
  have s2:((⟨#[40]⟩:ByteArray)++f y).size+(⟨#[41]⟩:ByteArray).size≤9223372036854775807:=by have:=HSZ.out;simp only [ByteArray.size_append,szl,List.size_toArray,List.length_cons,List.length_nil];omega
  clear hb2
  go_wp2_with fail
  go_ret
  exact ⟨by rw [HR.out];rfl,H2.out⟩
 ·have HR:=Hd (HA.out.trans (if_neg h))
  go_wp2_with (refine wpList_load_mid rfl 34 _ rfl w.heap.size 0 rfl cs _ R1.out.range Tryz.underlying34 rfl hl.out ?_)
  refine (HK.out.call _ B N cs hN (Nat.le_trans hB H1.out.size) (HE.out.then H1.out) (HY.out.below (H1.out.mono hB))).mono ?_
  rintro e w2 ⟨rfl,hb2⟩
  have H2:=Hd (belowThen H1.out hb2)
  clear hb2
  go_wp2_with fail
  go_ret
  exact ⟨by rw [HR.out];rfl,H2.out⟩
set_option maxRecDepth 100000 in
set_option maxHeartbeats 3200000 in
theorem body_r (f:ExprD→ByteArray) (y:ExprD) (hk:SrcR f y) (hz:(f y).size≤274877906944) (w:World) (B N:Nat) (cs:List Value) (hN:N≤1048576) (hB:B≤w.heap.size) (hE:Env w) (hy:ExprD.At w B N y cs):Calls Tryz.prog 32 #[.agg cs.toArray] w (StrB (bodyS f y) w):=by
 have HY:=Hd hy
 have HE:=Hd hE
 have HK:=Hd hk
 have HSZ:=Hd hz
 obtain ⟨aa,fa,ac,fc,vs,hh⟩:=hy.has
 have hl:=Hd (show (Tryz.prog.info? 34).map (·.size)=some cs.length by rw [hy.len];kernel_rfl)
 have R0:=Hd (box_at w cs 34)
 have H0:=Hd (belowBox w (.cells cs.toArray 34))
 have e0:=R0.out.get0 hh.op
 have HP:=Hd (show bodyS f y=if y.op=23 then inP (f y) else f y from rfl)
 obtain ⟨q,hq⟩:∃ q,y.op=q:=⟨_,rfl⟩
 rw [hq] at e0 HP
 clear hy hk hE hh hq hz
 by_cases h:q=23
 ·subst h
  have HR:=Hd (HP.out.trans (if_pos rfl))
  go_enter Tryz.func32,Tryz.ntmps32
  go_wp2_with (refine wpList_load_mid rfl 34 _ rfl w.heap.size 0 rfl cs _ R0.out.range Tryz.underlying34 rfl hl.out ?_)
  refine (HK.out _ B N cs hN (Nat.le_trans hB H0.out.size) (HE.out.then H0.out) (HY.out.below (H0.out.mono hB))).mono ?_
  rintro e w1 ⟨rfl,hb1⟩
  have H1:=Hd (belowThen H0.out hb1)
  have s1:(⟨#[40]⟩:ByteArray).size+(f y).size≤9223372036854775807:=by have:=HSZ.out;simp only [szl,List.size_toArray,List.length_cons,List.length_nil];omega
  have s2:((⟨#[40]⟩:ByteArray)++f y).size+(⟨#[41]⟩:ByteArray).size≤9223372036854775807:=by have:=HSZ.out;simp only [ByteArray.size_append,szl,List.size_toArray,List.length_cons,List.length_nil];omega
  clear hb1
  go_wp2_with fail
  go_ret
  exact ⟨by rw [HR.out];rfl,H1.out⟩
 ·have HR:=Hd (HP.out.trans (if_neg h))
  have q1:(q==23)=false:=by simpa using h
  clear h
  go_enter Tryz.func32,Tryz.ntmps32
  go_wp2_with (refine wpList_load_mid rfl 34 _ rfl w.heap.size 0 rfl cs _ R0.out.range Tryz.underlying34 rfl hl.out ?_)
  refine (HK.out _ B N cs hN (Nat.le_trans hB H0.out.size) (HE.out.then H0.out) (HY.out.below (H0.out.mono hB))).mono ?_
  rintro e w1 ⟨rfl,hb1⟩
  have H1:=Hd (belowThen H0.out hb1)
  clear hb1
  go_wp2_with fail
  go_ret
  exact ⟨by rw [HR.out];rfl,H1.out⟩
end Go.Proofs.YtiefeajappjnbaaGreatDoor

/- The reference's two and after (printed by genref36.py). -/
namespace Go.Proofs.YtiefeajappjnbaaGreatDoor
open Go.RowKit
def aftS (f:ExprD→ByteArray) (s:ByteArray) (y:ExprD):ByteArray:=if y.op=30 then ⟨#[]⟩ else s++f y
structure AftR (f:ExprD→ByteArray) (y:ExprD):Prop where
 abs:y.op=30→absB y=true
 src:y.op≠30→SrcR f y
 size:y.op≠30→(f y).size≤274877906944
theorem aftS_le {f:ExprD→ByteArray} {s:ByteArray} {y:ExprD} (h:AftR f y) (hs:s.size≤16):(aftS f s y).size≤274877906960:=by
 unfold aftS
 by_cases h3:y.op=30
 ·rw [if_pos h3];exact Nat.zero_le _
 ·rw [if_neg h3,ByteArray.size_append]
  have:=h.size h3
  omega
theorem empty_app (a:ByteArray):(⟨#[]⟩:ByteArray)++a=a:=by
 apply ByteArray.ext
 simp
theorem aft_pres (f:ExprD→ByteArray) (y:ExprD):presS f y=aftS f ⟨#[]⟩ y:=by
 unfold presS aftS
 rw [empty_app]
set_option maxRecDepth 100000 in
set_option maxHeartbeats 6400000 in
theorem two_r (f:ExprD→ByteArray) (x:ExprD) (l2 r2:Int) (o2:ByteArray) (hn:x.args.length=2) (k0:KidR f (x.args.getD 0 default)) (k1:KidR f (x.args.getD 1 default)) (zo:o2.size≤1048600)
 (w:World) (B N:Nat) (cs:List Value) (hN:N≤1048576) (hB:B≤w.heap.size) (hE:Env w) (hx:ExprD.At w B N x cs):Calls Tryz.prog 116 #[.agg cs.toArray,.int .i64 l2,.string o2,.int .i64 r2] w (StrB (twoS f x l2 o2 r2) w):=by
 have HX:=Hd hx
 have HE:=Hd hE
 have K0:=Hd k0
 have K1:=Hd k1
 have hl:=Hd (show (Tryz.prog.info? 34).map (·.size)=some cs.length by rw [hx.len];kernel_rfl)
 obtain ⟨aa,fa,ac,fc,vs,hh⟩:=hx.has
 have hnm:=Hd (show x.name.size≤1048576 from Nat.le_trans hh.own.2.1 hN)
 obtain ⟨nm,hnm2⟩:∃ nm,x.name=nm:=⟨_,rfl⟩
 have HNE:=Hd hnm2
 have znm:nm.size≤1048576:=by rw [← hnm2];exact hnm.out
 have HC1:=Hd (show cs[1]?=some (.string nm) by rw [← hnm2];exact hh.name)
 obtain ⟨b,o,haa,hb,hget⟩:=args_at hh (n:=2) hn (by decide)
 have HC15:=Hd (show cs[15]?=some (.slice (some ⟨b,o,none⟩) 2 ac) by rw [hh.args,hn,haa])
 obtain ⟨a0,r0,q0⟩:=hget 0 (by decide)
 have HR0:=Hd (show CellsAt w b (o) a0 by simpa using r0)
 have HQ0:=Hd q0
 have hl0:=Hd (show (Tryz.prog.info? 34).map (·.size)=some a0.length by rw [q0.len];kernel_rfl)
 obtain ⟨a1,r1,q1⟩:=hget 1 (by decide)
 have HR1:=Hd (show CellsAt w b (o+17) a1 by simpa using r1)
 have HQ1:=Hd q1
 have hl1:=Hd (show (Tryz.prog.info? 34).map (·.size)=some a1.length by rw [q1.len];kernel_rfl)
 obtain ⟨w1,hw1⟩:∃ w1,w1=w.alloc (.cells cs.toArray 34):=⟨_,rfl⟩
 have HW:=Hd hw1
 have R0:=Hd (show RowT 34 w1 w.heap.size cs by rw [hw1];exact RowT.new w 34 cs)
 have H0:=Hd (show Below w.heap.size w w1 by rw [hw1];exact belowBox w _)
 have HKA:=Hd (show ∀ v,Below w.heap.size w v→B≤v.heap.size∧Env v∧ExprD.At v B N (x.args.getD 0 default) a0∧ExprD.At v B N (x.args.getD 1 default) a1∧ExprD.At v B N x cs from fun v hv=>⟨Nat.le_trans hB hv.size,HE.out.then hv,HQ0.out.below (hv.mono hB),HQ1.out.below (hv.mono hB),HX.out.below (hv.mono hB)⟩)
 have e1:=R0.out.cell HC1.out
 have e15:=R0.out.cell HC15.out
 rw [hw1] at e1 e15
 obtain ⟨s,hs⟩:∃ s,twoS f x l2 o2 r2=s:=⟨_,rfl⟩
 have HST:=Hd hs
 obtain ⟨s0,hs0⟩:∃ z,atS f l2 (x.args.getD 0 default)=z:=⟨_,rfl⟩
 have HS0:=Hd hs0
 have zs0:s0.size≤274877906960:=by rw [← hs0];exact Nat.le_trans (atS_le f _ _) (Nat.le_trans (Nat.add_le_add_right K0.out.size 2) (by decide))
 obtain ⟨s1,hs1⟩:∃ z,atS f r2 (x.args.getD 1 default)=z:=⟨_,rfl⟩
 have HS1:=Hd hs1
 have zs1:s1.size≤274877906960:=by rw [← hs1];exact Nat.le_trans (atS_le f _ _) (Nat.le_trans (Nat.add_le_add_right K1.out.size 2) (by decide))
 have HR:=Hd (show s=s0++o2++s1 by
  rw [← HST.out]
  unfold twoS
  rw [hs0,hs1])
 clear hx hE hh hnm2 hw1 hs hn haa hget k0 k1 hs0 hs1
 go_enter Tryz.func116,Tryz.ntmps116
 go_wp2_with fail
 rw [← HW.out]
 refine wp_region_held_drew (S:=fun u=>Below w1.heap.size w1 u) (by kernel_rfl) (drewU w1) (fun hHeld=>?_)
 refine' tk 0 (.pointer (some ⟨w.heap.size,15,none⟩)) rfl rfl (.inl ⟨by rfl,fun u hu=>(by go_simp)⟩) hHeld ?_
 simp only [sq1,sq0]
 refine' tk 1 (.slice (some ⟨b,o,none⟩) 2 ac) rfl rfl (.inl ⟨by rfl,fun u hu=>(by have hc:=(R0.out.then hu).cell HC15.out;go_simp)⟩) hHeld ?_
 simp only [sq1,sq0]
 refine' tk 2 (.pointer (some ⟨b,o,none⟩)) rfl rfl (.inl ⟨by rfl,fun u hu=>(by go_simp)⟩) hHeld ?_
 simp only [sq1,sq0]
 refine' tk 3 _ rfl rfl (yieldsIf_load_mid (by kernel_rfl) 34 _ rfl (b) (o) rfl a0 _ (fun u hu=>(HR0.out.below ((belowThen H0.out hu).mono hB) hb).range) Tryz.underlying34 rfl hl0.out) hHeld ?_
 simp only [sq1,sq0]
 refine' tk 4 (.int .i64 l2) rfl rfl (.inl ⟨by rfl,fun u hu=>(by go_simp)⟩) hHeld ?_
 simp only [sq1,sq0]
 refine' tk 6 (.string o2) rfl rfl (.inl ⟨by rfl,fun u hu=>(by go_simp)⟩) hHeld ?_
 simp only [sq1,sq0]
 refine' tk 8 (.pointer (some ⟨w.heap.size,15,none⟩)) rfl rfl (.inl ⟨by rfl,fun u hu=>(by go_simp)⟩) hHeld ?_
 simp only [sq1,sq0]
 refine' tk 9 (.slice (some ⟨b,o,none⟩) 2 ac) rfl rfl (.inl ⟨by rfl,fun u hu=>(by have hc:=(R0.out.then hu).cell HC15.out;go_simp)⟩) hHeld ?_
 simp only [sq1,sq0]
 refine' tk 10 (.pointer (some ⟨b,o+17,none⟩)) rfl rfl (.inl ⟨by rfl,fun u hu=>(by go_simp)⟩) hHeld ?_
 simp only [sq1,sq0]
 refine' tk 11 _ rfl rfl (yieldsIf_load_mid (by kernel_rfl) 34 _ rfl (b) (o+17) rfl a1 _ (fun u hu=>(HR1.out.below ((belowThen H0.out hu).mono hB) hb).range) Tryz.underlying34 rfl hl1.out) hHeld ?_
 simp only [sq1,sq0]
 refine' tk 12 (.int .i64 r2) rfl rfl (.inl ⟨by rfl,fun u hu=>(by go_simp)⟩) hHeld ?_
 simp only [sq1,sq0]
 refine rd1 5 rfl (fun K hK=>?_)
 go_simp
 refine (at_r f _ K0.out l2 _ B N a0 hN (HKA.out _ (belowThen H0.out hHeld)).1 (HKA.out _ (belowThen H0.out hHeld)).2.1 (HKA.out _ (belowThen H0.out hHeld)).2.2.1).mono ?_
 rw [HS0.out]
 rintro e uC1 ⟨rfl,hbC⟩
 refine hK.out _ _ (belowThen hHeld hbC) (fun hHeld1=>?_)
 clear hK K hbC hHeld
 have hHeld:=hHeld1
 clear hHeld1
 refine' tk 7 (.string (s0++o2)) rfl rfl (.inl ⟨by rfl,fun u hu=>(by go_simp;all_goals omega)⟩) hHeld ?_
 simp only [sq1,sq0]
 refine rd1 13 rfl (fun K hK=>?_)
 go_simp
 refine (at_r f _ K1.out r2 _ B N a1 hN (HKA.out _ (belowThen H0.out hHeld)).1 (HKA.out _ (belowThen H0.out hHeld)).2.1 (HKA.out _ (belowThen H0.out hHeld)).2.2.2.1).mono ?_
 rw [HS1.out]
 rintro e uC2 ⟨rfl,hbC⟩
 refine hK.out _ _ (belowThen hHeld hbC) (fun hHeld2=>?_)
 clear hK K hbC hHeld
 have hHeld:=hHeld2
 clear hHeld2
 refine' tk 14 (.string ((s0++o2)++s1)) rfl rfl (.inl ⟨by rfl,fun u hu=>(by go_simp;all_goals omega)⟩) hHeld ?_
 simp only [sq1,sq0]
 refine rd1 15 rfl (fun K hK=>?_)
 go_simp
 refine hK.out _ _ hHeld (fun hHeldx=>?_)
 clear hK K hHeldx
 refine wpAnyH_done (by kernel_rfl) ?_ _
 go_wp2_with fail
 go_ret
 exact ⟨by rw [HST.out,HR.out];rfl,belowThen H0.out hHeld⟩
set_option maxRecDepth 100000 in
set_option maxHeartbeats 3200000 in
theorem after_r (f:ExprD→ByteArray) (s:ByteArray) (hs:s.size≤64) (y:ExprD) (hk:AftR f y) (w:World) (B N:Nat) (cs:List Value) (hN:N≤1048576) (hB:B≤w.heap.size) (hE:Env w) (hy:ExprD.At w B N y cs):Calls Tryz.prog 67 #[.string s,.agg cs.toArray] w (StrB (aftS f s y) w):=by
 have HY:=Hd hy
 have HE:=Hd hE
 have HK:=Hd hk
 have hl:=Hd (show (Tryz.prog.info? 34).map (·.size)=some cs.length by rw [hy.len];kernel_rfl)
 have R0:=Hd (box_at w cs 34)
 have H0:=Hd (belowBox w (.cells cs.toArray 34))
 have hs0:=Hd (show w.heap.size<(w.alloc (.cells cs.toArray 34)).heap.size by rw [World.size_alloc];omega)
 have HP:=Hd (show aftS f s y=if y.op=30 then ⟨#[]⟩ else s++f y from rfl)
 clear hy hk hE
 go_enter Tryz.func67,Tryz.ntmps67
 go_wp2_with ((with_reducible show wpList _ _ _ (⟨some 5,_,_,_,_,_⟩::_) _ _);refine wpList_load_mid rfl 34 _ rfl w.heap.size 0 rfl cs _ R0.out.range Tryz.underlying34 rfl hl.out ?_)
 refine (absent_r y _ B N cs (Nat.le_trans hB H0.out.size) (HY.out.below (H0.out.mono hB))).mono ?_
 rintro e w1 ⟨rfl,hb1⟩
 have H1:=Hd (belowThen H0.out hb1)
 have R1:=Hd (R0.out.then hb1 hs0.out)
 clear hb1
 by_cases h:y.op=30
 ·have HR:=Hd (HP.out.trans (if_pos h))
  rw [HK.out.abs h]
  clear h
  go_wp2_with fail
  go_ret
  exact ⟨by rw [HR.out];rfl,H1.out⟩
 ·have HR:=Hd (HP.out.trans (if_neg h))
  have HZ:=Hd (HK.out.size h)
  have HC:=Hd (HK.out.src h)
  rw [absB_ne h]
  clear h
  go_wp2_with ((with_reducible show wpList _ _ _ (⟨some 8,_,_,_,_,_⟩::_) _ _);refine wpList_load_mid rfl 34 _ rfl w.heap.size 0 rfl cs _ R1.out.range Tryz.underlying34 rfl hl.out ?_)
  refine (HC.out _ B N cs hN (Nat.le_trans hB H1.out.size) (HE.out.then H1.out) (HY.out.below (H1.out.mono hB))).mono ?_
  rintro e w2 ⟨rfl,hb2⟩
  have H2:=Hd (belowThen H1.out hb2)
  have s1:s.size+(f y).size≤9223372036854775807:=by have:=HZ.out;omega
  clear hb2
  go_wp2_with fail
  go_ret
  exact ⟨by rw [HR.out];rfl,H2.out⟩
end Go.Proofs.YtiefeajappjnbaaGreatDoor

/- The reference's field (printed by genref36.py). -/
namespace Go.Proofs.YtiefeajappjnbaaGreatDoor
open Go.RowKit
set_option maxRecDepth 100000 in
set_option maxHeartbeats 6400000 in
theorem field_in (f:ExprD→ByteArray) (x:ExprD) (ho:x.op=5) (hn:x.args.length=1) (hi:(x.args.getD 0 default).op=1) (hna:nameB x.name=true) (hq:validS x.name=true∧x.name.size≤1024)
 (w:World) (B N:Nat) (cs:List Value) (hN:N≤1048576) (hB:B≤w.heap.size) (hE:Env w) (hx:ExprD.At w B N x cs):Calls Tryz.prog 65 #[.agg cs.toArray] w (StrB (stepT f x) w):=by
 have HX:=Hd hx
 have HE:=Hd hE
 have HO:=Hd ho
 have HI:=Hd hi
 have HNA:=Hd hna
 have HQ:=Hd hq
 have hl:=Hd (show (Tryz.prog.info? 34).map (·.size)=some cs.length by rw [hx.len];kernel_rfl)
 obtain ⟨aa,fa,ac,fc,vs,hh⟩:=hx.has
 have HC0:=Hd (show cs[0]?=some (.int .i64 5) by rw [← ho];exact hh.op)
 have hnm:=Hd (show x.name.size≤1048576 from Nat.le_trans hh.own.2.1 hN)
 obtain ⟨nm,hnm2⟩:∃ nm,x.name=nm:=⟨_,rfl⟩
 have HNE:=Hd hnm2
 have znm:nm.size≤1048576:=by rw [← hnm2];exact hnm.out
 have HC1:=Hd (show cs[1]?=some (.string nm) by rw [← hnm2];exact hh.name)
 obtain ⟨b,o,haa,hb,hget⟩:=args_at hh (n:=1) hn (by decide)
 have HC15:=Hd (show cs[15]?=some (.slice (some ⟨b,o,none⟩) 1 ac) by rw [hh.args,hn,haa])
 obtain ⟨a0,r0,q0⟩:=hget 0 (by decide)
 have HR0:=Hd (show CellsAt w b (o) a0 by simpa using r0)
 have HQ0:=Hd q0
 have hl0:=Hd (show (Tryz.prog.info? 34).map (·.size)=some a0.length by rw [q0.len];kernel_rfl)
 obtain ⟨w1,hw1⟩:∃ w1,w1=w.alloc (.cells cs.toArray 34):=⟨_,rfl⟩
 have HW:=Hd hw1
 have R0:=Hd (show RowT 34 w1 w.heap.size cs by rw [hw1];exact RowT.new w 34 cs)
 have H0:=Hd (show Below w.heap.size w w1 by rw [hw1];exact belowBox w _)
 have HKA:=Hd (show ∀ v,Below w.heap.size w v→B≤v.heap.size∧Env v∧ExprD.At v B N (x.args.getD 0 default) a0∧ExprD.At v B N x cs from fun v hv=>⟨Nat.le_trans hB hv.size,HE.out.then hv,HQ0.out.below (hv.mono hB),HX.out.below (hv.mono hB)⟩)
 have e0:=R0.out.cell HC0.out
 have e1:=R0.out.cell HC1.out
 have e15:=R0.out.cell HC15.out
 obtain ⟨_,_,_,_,_,g0⟩:=q0.has
 obtain ⟨p0,hp0⟩:∃ p,(x.args.getD 0 default).op=p:=⟨_,rfl⟩
 have HP0:=Hd (show a0[0]?=some (.int .i64 p0) by rw [← hp0];exact g0.op)
 have q9:=((HR0.out.below (H0.out.mono hB) hb).get0' HP0.out)
 rw [show p0=1 by rw [← hp0];exact hi,hw1] at q9
 rw [hw1] at e0 e1 e15
 obtain ⟨s,hs⟩:∃ s,stepT f x=s:=⟨_,rfl⟩
 have HST:=Hd hs
 have HR:=Hd (show s=⟨#[]⟩++⟨#[46]⟩++nm by
  rw [← HST.out]
  unfold stepT
  rw [HO.out]
  simp only [if_true,if_false,Int.reduceEq]
  rw [hnm2,show nameB nm=true by rw [← hnm2];exact hna,if_pos hi,if_pos rfl])
 clear hx hE hh ho hnm2 hw1 hs hn haa hget hi hna hq hp0 g0 q0 r0
 go_enter Tryz.func65,Tryz.ntmps65
 go_wp2_with fail
 rw [← HW.out]
 have sc1:(⟨#[]⟩:ByteArray).size+(⟨#[46]⟩:ByteArray).size≤9223372036854775807:=by simp only [szl,List.size_toArray,List.length_cons,List.length_nil];omega
 have sc2:(⟨#[]⟩++⟨#[46]⟩:ByteArray).size+(nm:ByteArray).size≤9223372036854775807:=by (repeat rw [ByteArray.size_append]);simp only [szl,List.size_toArray,List.length_cons,List.length_nil];omega
 refine (nameR nm _ (by unfold maxLen;omega)).mono ?_
 rintro e w' ⟨rfl,rfl⟩
 rw [show nameB nm=true by rw [← HNE.out];exact HNA.out]
 have u1:=R0.out.cell HC1.out
 go_wp2_with fail
 go_ret
 exact ⟨by rw [HST.out,HR.out];rfl,H0.out⟩
set_option maxRecDepth 100000 in
set_option maxHeartbeats 6400000 in
theorem field_iq (f:ExprD→ByteArray) (x:ExprD) (ho:x.op=5) (hn:x.args.length=1) (hi:(x.args.getD 0 default).op=1) (hna:nameB x.name=false) (hq:validS x.name=true∧x.name.size≤1024)
 (w:World) (B N:Nat) (cs:List Value) (hN:N≤1048576) (hB:B≤w.heap.size) (hE:Env w) (hx:ExprD.At w B N x cs):Calls Tryz.prog 65 #[.agg cs.toArray] w (StrB (stepT f x) w):=by
 have HX:=Hd hx
 have HE:=Hd hE
 have HO:=Hd ho
 have HI:=Hd hi
 have HNA:=Hd hna
 have HQ:=Hd hq
 have hl:=Hd (show (Tryz.prog.info? 34).map (·.size)=some cs.length by rw [hx.len];kernel_rfl)
 obtain ⟨aa,fa,ac,fc,vs,hh⟩:=hx.has
 have HC0:=Hd (show cs[0]?=some (.int .i64 5) by rw [← ho];exact hh.op)
 have hnm:=Hd (show x.name.size≤1048576 from Nat.le_trans hh.own.2.1 hN)
 obtain ⟨nm,hnm2⟩:∃ nm,x.name=nm:=⟨_,rfl⟩
 have HNE:=Hd hnm2
 have znm:nm.size≤1048576:=by rw [← hnm2];exact hnm.out
 have HC1:=Hd (show cs[1]?=some (.string nm) by rw [← hnm2];exact hh.name)
 obtain ⟨b,o,haa,hb,hget⟩:=args_at hh (n:=1) hn (by decide)
 have HC15:=Hd (show cs[15]?=some (.slice (some ⟨b,o,none⟩) 1 ac) by rw [hh.args,hn,haa])
 obtain ⟨a0,r0,q0⟩:=hget 0 (by decide)
 have HR0:=Hd (show CellsAt w b (o) a0 by simpa using r0)
 have HQ0:=Hd q0
 have hl0:=Hd (show (Tryz.prog.info? 34).map (·.size)=some a0.length by rw [q0.len];kernel_rfl)
 obtain ⟨w1,hw1⟩:∃ w1,w1=w.alloc (.cells cs.toArray 34):=⟨_,rfl⟩
 have HW:=Hd hw1
 have R0:=Hd (show RowT 34 w1 w.heap.size cs by rw [hw1];exact RowT.new w 34 cs)
 have H0:=Hd (show Below w.heap.size w w1 by rw [hw1];exact belowBox w _)
 have HKA:=Hd (show ∀ v,Below w.heap.size w v→B≤v.heap.size∧Env v∧ExprD.At v B N (x.args.getD 0 default) a0∧ExprD.At v B N x cs from fun v hv=>⟨Nat.le_trans hB hv.size,HE.out.then hv,HQ0.out.below (hv.mono hB),HX.out.below (hv.mono hB)⟩)
 have e0:=R0.out.cell HC0.out
 have e1:=R0.out.cell HC1.out
 have e15:=R0.out.cell HC15.out
 obtain ⟨_,_,_,_,_,g0⟩:=q0.has
 obtain ⟨p0,hp0⟩:∃ p,(x.args.getD 0 default).op=p:=⟨_,rfl⟩
 have HP0:=Hd (show a0[0]?=some (.int .i64 p0) by rw [← hp0];exact g0.op)
 have q9:=((HR0.out.below (H0.out.mono hB) hb).get0' HP0.out)
 rw [show p0=1 by rw [← hp0];exact hi,hw1] at q9
 rw [hw1] at e0 e1 e15
 obtain ⟨s,hs⟩:∃ s,stepT f x=s:=⟨_,rfl⟩
 have HST:=Hd hs
 have HR:=Hd (show s=⟨#[]⟩++⟨#[46]⟩++quoteS nm by
  rw [← HST.out]
  unfold stepT
  rw [HO.out]
  simp only [if_true,if_false,Int.reduceEq]
  rw [hnm2,show nameB nm=false by rw [← hnm2];exact hna,if_pos hi,if_neg (by decide)])
 clear hx hE hh ho hnm2 hw1 hs hn haa hget hi hna hq hp0 g0 q0 r0
 go_enter Tryz.func65,Tryz.ntmps65
 go_wp2_with fail
 rw [← HW.out]
 have sc1:(⟨#[]⟩:ByteArray).size+(⟨#[46]⟩:ByteArray).size≤9223372036854775807:=by simp only [szl,List.size_toArray,List.length_cons,List.length_nil];omega
 have zq:=quoteS_size nm
 have sc2:(⟨#[]⟩++⟨#[46]⟩:ByteArray).size+(quoteS nm:ByteArray).size≤9223372036854775807:=by (repeat rw [ByteArray.size_append]);simp only [szl,List.size_toArray,List.length_cons,List.length_nil];omega
 clear zq
 refine (nameR nm _ (by unfold maxLen;omega)).mono ?_
 rintro e w' ⟨rfl,rfl⟩
 rw [show nameB nm=false by rw [← HNE.out];exact HNA.out]
 have u1:=R0.out.cell HC1.out
 go_wp2_with fail
 refine (quote_r nm _ (by have:=HQ.out.2;rw [HNE.out] at this;omega) (HKA.out _ H0.out).2.1 (by rw [← HNE.out];exact HQ.out.1)).mono ?_
 rintro e wv ⟨rfl,hb2⟩
 have HV:=Hd (belowThen H0.out hb2)
 clear hb2
 go_wp2_with fail
 go_ret
 exact ⟨by rw [HST.out,HR.out];rfl,HV.out⟩
set_option maxRecDepth 100000 in
set_option maxHeartbeats 6400000 in
theorem field_an (f:ExprD→ByteArray) (x:ExprD) (ho:x.op=5) (hn:x.args.length=1) (k0:KidR f (x.args.getD 0 default)) (hi:(x.args.getD 0 default).op≠1) (hna:nameB x.name=true) (hq:validS x.name=true∧x.name.size≤1024)
 (w:World) (B N:Nat) (cs:List Value) (hN:N≤1048576) (hB:B≤w.heap.size) (hE:Env w) (hx:ExprD.At w B N x cs):Calls Tryz.prog 65 #[.agg cs.toArray] w (StrB (stepT f x) w):=by
 have HX:=Hd hx
 have HE:=Hd hE
 have HO:=Hd ho
 have K0:=Hd k0
 have HI:=Hd hi
 have HNA:=Hd hna
 have HQ:=Hd hq
 have hl:=Hd (show (Tryz.prog.info? 34).map (·.size)=some cs.length by rw [hx.len];kernel_rfl)
 obtain ⟨aa,fa,ac,fc,vs,hh⟩:=hx.has
 have HC0:=Hd (show cs[0]?=some (.int .i64 5) by rw [← ho];exact hh.op)
 have hnm:=Hd (show x.name.size≤1048576 from Nat.le_trans hh.own.2.1 hN)
 obtain ⟨nm,hnm2⟩:∃ nm,x.name=nm:=⟨_,rfl⟩
 have HNE:=Hd hnm2
 have znm:nm.size≤1048576:=by rw [← hnm2];exact hnm.out
 have HC1:=Hd (show cs[1]?=some (.string nm) by rw [← hnm2];exact hh.name)
 obtain ⟨b,o,haa,hb,hget⟩:=args_at hh (n:=1) hn (by decide)
 have HC15:=Hd (show cs[15]?=some (.slice (some ⟨b,o,none⟩) 1 ac) by rw [hh.args,hn,haa])
 obtain ⟨a0,r0,q0⟩:=hget 0 (by decide)
 have HR0:=Hd (show CellsAt w b (o) a0 by simpa using r0)
 have HQ0:=Hd q0
 have hl0:=Hd (show (Tryz.prog.info? 34).map (·.size)=some a0.length by rw [q0.len];kernel_rfl)
 obtain ⟨w1,hw1⟩:∃ w1,w1=w.alloc (.cells cs.toArray 34):=⟨_,rfl⟩
 have HW:=Hd hw1
 have R0:=Hd (show RowT 34 w1 w.heap.size cs by rw [hw1];exact RowT.new w 34 cs)
 have H0:=Hd (show Below w.heap.size w w1 by rw [hw1];exact belowBox w _)
 have HKA:=Hd (show ∀ v,Below w.heap.size w v→B≤v.heap.size∧Env v∧ExprD.At v B N (x.args.getD 0 default) a0∧ExprD.At v B N x cs from fun v hv=>⟨Nat.le_trans hB hv.size,HE.out.then hv,HQ0.out.below (hv.mono hB),HX.out.below (hv.mono hB)⟩)
 have e0:=R0.out.cell HC0.out
 have e1:=R0.out.cell HC1.out
 have e15:=R0.out.cell HC15.out
 obtain ⟨_,_,_,_,_,g0⟩:=q0.has
 obtain ⟨p0,hp0⟩:∃ p,(x.args.getD 0 default).op=p:=⟨_,rfl⟩
 have HP0:=Hd (show a0[0]?=some (.int .i64 p0) by rw [← hp0];exact g0.op)
 have q9:=((HR0.out.below (H0.out.mono hB) hb).get0' HP0.out)
 have n1:(p0==1)=false:=by rw [← hp0];simpa using hi
 have n2:(p0 != 1)=true:=by rw [← hp0];simpa using hi
 rw [hw1] at q9
 rw [hw1] at e0 e1 e15
 obtain ⟨s,hs⟩:∃ s,stepT f x=s:=⟨_,rfl⟩
 have HST:=Hd hs
 obtain ⟨s0,hs0⟩:∃ z,atS f 10 (x.args.getD 0 default)=z:=⟨_,rfl⟩
 have HS0:=Hd hs0
 have zs0:s0.size≤274877906960:=by rw [← hs0];exact Nat.le_trans (atS_le f _ _) (Nat.le_trans (Nat.add_le_add_right K0.out.size 2) (by decide))
 have HR:=Hd (show s=s0++⟨#[46]⟩++nm by
  rw [← HST.out]
  unfold stepT
  rw [HO.out]
  simp only [if_true,if_false,Int.reduceEq]
  rw [hs0,hnm2,show nameB nm=true by rw [← hnm2];exact hna,if_neg hi,if_pos rfl])
 clear hx hE hh ho hnm2 hw1 hs hn haa hget hi hna hq hp0 g0 q0 r0 k0 hs0
 go_enter Tryz.func65,Tryz.ntmps65
 go_wp2_with ((with_reducible show wpList _ _ _ (⟨some 13,_,_,_,_,_⟩::_) _ _);refine wpList_load_mid rfl 34 _ rfl b (o) rfl a0 _ (by rw [← HW.out];exact (HR0.out.below (H0.out.mono hB) hb).range) Tryz.underlying34 rfl hl0.out ?_)
 rw [← HW.out]
 refine (at_r f _ K0.out 10 _ B N a0 hN (HKA.out _ H0.out).1 (HKA.out _ H0.out).2.1 (HKA.out _ H0.out).2.2.1).mono ?_
 rw [HS0.out]
 rintro e wu ⟨rfl,hb1⟩
 have Hwu:=Hd (belowThen H0.out hb1)
 have Hb1:=Hd hb1
 clear hb1
 have u1:=(show wu.cell? ⟨w.heap.size,1,none⟩=some (.string nm) from (R0.out.below Hb1.out (R0.out.lt)).cell HC1.out)
 have sc1:(s0:ByteArray).size+(⟨#[46]⟩:ByteArray).size≤9223372036854775807:=by simp only [szl,List.size_toArray,List.length_cons,List.length_nil];omega
 have sc2:(s0++⟨#[46]⟩:ByteArray).size+(nm:ByteArray).size≤9223372036854775807:=by (repeat rw [ByteArray.size_append]);simp only [szl,List.size_toArray,List.length_cons,List.length_nil];omega
 go_wp2_with fail
 refine (nameR nm _ (by unfold maxLen;omega)).mono ?_
 rintro e w' ⟨rfl,rfl⟩
 rw [show nameB nm=true by rw [← HNE.out];exact HNA.out]
 go_wp2_with fail
 go_ret
 exact ⟨by rw [HST.out,HR.out];rfl,Hwu.out⟩
set_option maxRecDepth 100000 in
set_option maxHeartbeats 6400000 in
theorem field_aq (f:ExprD→ByteArray) (x:ExprD) (ho:x.op=5) (hn:x.args.length=1) (k0:KidR f (x.args.getD 0 default)) (hi:(x.args.getD 0 default).op≠1) (hna:nameB x.name=false) (hq:validS x.name=true∧x.name.size≤1024)
 (w:World) (B N:Nat) (cs:List Value) (hN:N≤1048576) (hB:B≤w.heap.size) (hE:Env w) (hx:ExprD.At w B N x cs):Calls Tryz.prog 65 #[.agg cs.toArray] w (StrB (stepT f x) w):=by
 have HX:=Hd hx
 have HE:=Hd hE
 have HO:=Hd ho
 have K0:=Hd k0
 have HI:=Hd hi
 have HNA:=Hd hna
 have HQ:=Hd hq
 have hl:=Hd (show (Tryz.prog.info? 34).map (·.size)=some cs.length by rw [hx.len];kernel_rfl)
 obtain ⟨aa,fa,ac,fc,vs,hh⟩:=hx.has
 have HC0:=Hd (show cs[0]?=some (.int .i64 5) by rw [← ho];exact hh.op)
 have hnm:=Hd (show x.name.size≤1048576 from Nat.le_trans hh.own.2.1 hN)
 obtain ⟨nm,hnm2⟩:∃ nm,x.name=nm:=⟨_,rfl⟩
 have HNE:=Hd hnm2
 have znm:nm.size≤1048576:=by rw [← hnm2];exact hnm.out
 have HC1:=Hd (show cs[1]?=some (.string nm) by rw [← hnm2];exact hh.name)
 obtain ⟨b,o,haa,hb,hget⟩:=args_at hh (n:=1) hn (by decide)
 have HC15:=Hd (show cs[15]?=some (.slice (some ⟨b,o,none⟩) 1 ac) by rw [hh.args,hn,haa])
 obtain ⟨a0,r0,q0⟩:=hget 0 (by decide)
 have HR0:=Hd (show CellsAt w b (o) a0 by simpa using r0)
 have HQ0:=Hd q0
 have hl0:=Hd (show (Tryz.prog.info? 34).map (·.size)=some a0.length by rw [q0.len];kernel_rfl)
 obtain ⟨w1,hw1⟩:∃ w1,w1=w.alloc (.cells cs.toArray 34):=⟨_,rfl⟩
 have HW:=Hd hw1
 have R0:=Hd (show RowT 34 w1 w.heap.size cs by rw [hw1];exact RowT.new w 34 cs)
 have H0:=Hd (show Below w.heap.size w w1 by rw [hw1];exact belowBox w _)
 have HKA:=Hd (show ∀ v,Below w.heap.size w v→B≤v.heap.size∧Env v∧ExprD.At v B N (x.args.getD 0 default) a0∧ExprD.At v B N x cs from fun v hv=>⟨Nat.le_trans hB hv.size,HE.out.then hv,HQ0.out.below (hv.mono hB),HX.out.below (hv.mono hB)⟩)
 have e0:=R0.out.cell HC0.out
 have e1:=R0.out.cell HC1.out
 have e15:=R0.out.cell HC15.out
 obtain ⟨_,_,_,_,_,g0⟩:=q0.has
 obtain ⟨p0,hp0⟩:∃ p,(x.args.getD 0 default).op=p:=⟨_,rfl⟩
 have HP0:=Hd (show a0[0]?=some (.int .i64 p0) by rw [← hp0];exact g0.op)
 have q9:=((HR0.out.below (H0.out.mono hB) hb).get0' HP0.out)
 have n1:(p0==1)=false:=by rw [← hp0];simpa using hi
 have n2:(p0 != 1)=true:=by rw [← hp0];simpa using hi
 rw [hw1] at q9
 rw [hw1] at e0 e1 e15
 obtain ⟨s,hs⟩:∃ s,stepT f x=s:=⟨_,rfl⟩
 have HST:=Hd hs
 obtain ⟨s0,hs0⟩:∃ z,atS f 10 (x.args.getD 0 default)=z:=⟨_,rfl⟩
 have HS0:=Hd hs0
 have zs0:s0.size≤274877906960:=by rw [← hs0];exact Nat.le_trans (atS_le f _ _) (Nat.le_trans (Nat.add_le_add_right K0.out.size 2) (by decide))
 have HR:=Hd (show s=s0++⟨#[46]⟩++quoteS nm by
  rw [← HST.out]
  unfold stepT
  rw [HO.out]
  simp only [if_true,if_false,Int.reduceEq]
  rw [hs0,hnm2,show nameB nm=false by rw [← hnm2];exact hna,if_neg hi,if_neg (by decide)])
 clear hx hE hh ho hnm2 hw1 hs hn haa hget hi hna hq hp0 g0 q0 r0 k0 hs0
 go_enter Tryz.func65,Tryz.ntmps65
 go_wp2_with ((with_reducible show wpList _ _ _ (⟨some 13,_,_,_,_,_⟩::_) _ _);refine wpList_load_mid rfl 34 _ rfl b (o) rfl a0 _ (by rw [← HW.out];exact (HR0.out.below (H0.out.mono hB) hb).range) Tryz.underlying34 rfl hl0.out ?_)
 rw [← HW.out]
 refine (at_r f _ K0.out 10 _ B N a0 hN (HKA.out _ H0.out).1 (HKA.out _ H0.out).2.1 (HKA.out _ H0.out).2.2.1).mono ?_
 rw [HS0.out]
 rintro e wu ⟨rfl,hb1⟩
 have Hwu:=Hd (belowThen H0.out hb1)
 have Hb1:=Hd hb1
 clear hb1
 have u1:=(show wu.cell? ⟨w.heap.size,1,none⟩=some (.string nm) from (R0.out.below Hb1.out (R0.out.lt)).cell HC1.out)
 have sc1:(s0:ByteArray).size+(⟨#[46]⟩:ByteArray).size≤9223372036854775807:=by simp only [szl,List.size_toArray,List.length_cons,List.length_nil];omega
 have zq:=quoteS_size nm
 have sc2:(s0++⟨#[46]⟩:ByteArray).size+(quoteS nm:ByteArray).size≤9223372036854775807:=by (repeat rw [ByteArray.size_append]);simp only [szl,List.size_toArray,List.length_cons,List.length_nil];omega
 clear zq
 go_wp2_with fail
 refine (nameR nm _ (by unfold maxLen;omega)).mono ?_
 rintro e w' ⟨rfl,rfl⟩
 rw [show nameB nm=false by rw [← HNE.out];exact HNA.out]
 go_wp2_with fail
 refine (quote_r nm _ (by have:=HQ.out.2;rw [HNE.out] at this;omega) (HKA.out _ Hwu.out).2.1 (by rw [← HNE.out];exact HQ.out.1)).mono ?_
 rintro e wv ⟨rfl,hb2⟩
 have HV:=Hd (belowThen Hwu.out hb2)
 clear hb2
 go_wp2_with fail
 go_ret
 exact ⟨by rw [HST.out,HR.out];rfl,HV.out⟩
end Go.Proofs.YtiefeajappjnbaaGreatDoor
