/- qanalyze.Check of a plan gives what eJ says; Program gives the plan's query (printed by genchk43.py). -/
import Derived.Test.YtiefeajappjnbaaGreatDoorGA
import Derived.Test.YtiefeajappjnbaaGreatDoorQup43
import Derived.Test.YtiefeajappjnbaaGreatDoorND
import Derived.Test.YtiefeajappjnbaaGreatDoorQur43
import Derived.Test.YtiefeajappjnbaaGreatDoorGZ
namespace Go.Proofs.YtiefeajappjnbaaGreatDoor
open Go.RowKit
structure Ok4 (d:br):Prop where
 mode:1≤d.mode∧d.mode≤3
 some:d.steps.length≠0
 max:d.steps.length≤48
 all:d.steps.all aW=true
theorem mr {d:br} {l:List al} (h:¬ (1≤d.mode∧d.mode≤3)):eJ d l=1:=by unfold eJ;rw [if_pos (.inl h)]
theorem qz {d:br} {l:List al} (h:d.steps.length=0):eJ d l=1:=by unfold eJ;rw [if_pos (.inr h)]
theorem qA {d:br} {l:List al} (h:1≤d.mode∧d.mode≤3) (h2:48<d.steps.length):eJ d l=10:=by
 unfold eJ
 rw [if_neg (by rintro (g | g);exact g h;omega),if_pos h2]
theorem j3 {d:br} {l:List al} (h:1≤d.mode∧d.mode≤3) (h2:d.steps.length≤48) (h3:d.steps.all aW=false):eJ d l=1:=by
 unfold eJ
 by_cases h0:d.steps.length=0
 ·rw [if_pos (.inr h0)]
 ·rw [if_neg (by rintro (g | g);exact g h;exact h0 g),if_neg (by omega),if_pos h3]
theorem j4 {d:br} {l:List al} (h:Ok4 d):eJ d l=if d.mode=1∧¬ (d.name.size=0∧bL d.init=true∧bL d.upd=true) then 1 else if d.mode≠1∧eI 48 d.init=false then 22 else dP l (a8 d):=by
 unfold eJ
 rw [if_neg (by rintro (g | g);exact g h.mode;exact h.some g),if_neg (by have:=h.max;omega),if_neg (by rw [h.all];decide)]
theorem gf {d:br} {l:List al} (h:Ok4 d) (h1:d.mode=1) (h2:¬ (d.name.size=0∧bL d.init=true∧bL d.upd=true)):eJ d l=1:=by rw [j4 h,if_pos ⟨h1,h2⟩]
theorem tG {d:br} {l:List al} (h:Ok4 d) (h1:d.mode≠1) (h2:eI 48 d.init=false):eJ d l=22:=by rw [j4 h,if_neg (fun g=>h1 g.1),if_pos ⟨h1,h2⟩]
theorem qy {d:br} {l:List al} (h:Ok4 d) (h1:d.mode=1) (h2:d.name.size=0∧bL d.init=true∧bL d.upd=true):eJ d l=dP l (a8 d):=by rw [j4 h,if_neg (fun g=>g.2 h2),if_neg (fun g=>g.1 h1)]
theorem qx {d:br} {l:List al} (h:Ok4 d) (h1:d.mode≠1) (h2:eI 48 d.init=true):eJ d l=dP l (a8 d):=by rw [j4 h,if_neg (fun g=>h1 g.1),if_neg (fun g=>by rw [h2] at g;cases g.2)]
theorem iD {d:br} {j:Nat} (h:j<d.steps.length) (hp:aW d.steps[j]=false):d.steps.all aW=false:=by
 rw [← Bool.not_eq_true,List.all_eq_true]
 intro g
 rw [g _ (List.getElem_mem h)] at hp
 cases hp
theorem kh {d:br} (h:∀ q (hq:q<d.steps.length),aW d.steps[q]=true):d.steps.all aW=true:=List.all_eq_true.2 fun x hx=>by
 obtain ⟨i,hi,rfl⟩:=List.getElem_of_mem hx
 exact h i hi
set_option maxRecDepth 100000 in
set_option maxHeartbeats 25600000 in
theorem tI (d:br) (l:List al) (ps:List Value) (w:World) (B N:Nat) (hN:N≤1048576) (hN1:20≤N) (h4:4≤B) (hB:B≤w.heap.size) (hE:Env w) (hT:cI w) (hsl:gY l) (hsi:cc d.init) (hsu:cc d.upd) (hsb:cc d.body) (hp:cJ w B N d l ps):Calls Tryz.prog 20 #[.agg ps.toArray] w (gK (eJ d l) w):=by
 obtain ⟨sa,sc,ics,ucs,bcs,fa,fc,hh⟩:=hp.has
 have hplen:=hp.len
 obtain ⟨md,hmd⟩:∃ v,d.mode=v:=⟨_,rfl⟩
 obtain ⟨nm,hnm⟩:∃ v,d.name=v:=⟨_,rfl⟩
 obtain ⟨k,hk⟩:∃ v,d.steps.length=v:=⟨_,rfl⟩
 obtain ⟨ln,hln⟩:∃ v,l.length=v:=⟨_,rfl⟩
 have HMD:=Hd hmd
 have HNM:=Hd hnm
 have HK:=Hd hk
 have HLN:=Hd hln
 have HC0:=Hd (show ps[0]?=some (.int .i64 md) by rw [← hmd];exact hh.mode)
 have HC1:=Hd (show ps[1]?=some (.slice sa k sc) by rw [← hk];exact hh.steps)
 have HC2:=Hd (show ps[2]?=some (.string nm) by rw [← hnm];exact hh.name)
 have HC6:=Hd (show ps[54]?=some (.slice fa ln fc) by rw [← hln];exact hh.funcs)
 have HPI:=Hd hh.init
 have HPU:=Hd hh.upd
 have HPX:=Hd hp
 have HSA:=Hd hh.atSteps
 have HIA:=Hd hh.atInit
 have HUA:=Hd hh.atUpd
 have HFA:=Hd hh.atFuncs
 have hli:=Hd (show (Tryz.prog.info? 34).map (·.size)=some ics.length by rw [hh.atInit.len];exact ay)
 have hlu:=Hd (show (Tryz.prog.info? 34).map (·.size)=some ucs.length by rw [hh.atUpd.len];exact ay)
 have hlp:=Hd (show (Tryz.prog.info? 58).map (·.size)=some ps.length by rw [hplen];exact aO)
 have hkN:k≤1048576:=by rw [← hk];exact Nat.le_trans hh.hsl hN
 have HLL:=Hd (show l.length≤N from hh.hl)
 have HB0:=Hd hB
 have HT:=Hd hT
 have HE:=Hd hE
 have HSM:=Hd (And.intro hsl (m7 hsi hsu hsb))
 have R0:=Hd (aq.new w 58 ps)
 have H0:=Hd (af w (.cells ps.toArray 58))
 have c0:=R0.out.cell HC0.out
 have c1:=R0.out.cell HC1.out
 clear hh hp hplen hmd hnm hk hln hT hE hsl hsi hsu hsb
 by_cases hm:md=1∨md=2∨md=3
 case neg =>
  have HR:=Hd (mr (d:=d) (l:=l) (by rw [HMD.out];omega))
  have e1:(md==1)=false:=by simp;omega
  have e2:(md==2)=false:=by simp;omega
  have e3:(md==3)=false:=by simp;omega
  have f1:(md != 1)=true:=by simp;omega
  have f2:(md != 2)=true:=by simp;omega
  have f3:(md != 3)=true:=by simp;omega
  clear hm
  go_enter Tryz.func20,Tryz.ntmps20
  go_wp2_with fail
  go_ret
  exact ⟨by rw [HR.out];rfl,H0.out⟩
 have HMO:=Hd (show 1≤d.mode∧d.mode≤3 by rw [HMD.out];omega)
 by_cases hk0:k=0
 case pos =>
  subst hk0
  have HR:=Hd (qz (d:=d) (l:=l) HK.out)
  rcases hm with rfl | rfl | rfl
  all_goals
   go_enter Tryz.func20,Tryz.ntmps20
   go_wp2_with fail
   go_ret
   exact ⟨by rw [HR.out];rfl,H0.out⟩
 have ek0:((k:Int)==0)=false:=by simpa using hk0
 by_cases hk48:(48:Int)<k
 case pos =>
  have HR:=Hd (qA (d:=d) (l:=l) HMO.out (by rw [HK.out];omega))
  rcases hm with rfl | rfl | rfl
  all_goals
   go_enter Tryz.func20,Tryz.ntmps20
   go_wp2_with fail
   go_ret
   exact ⟨by rw [HR.out];rfl,H0.out⟩
 have hk48':(k:Int)≤48:=by omega
 have HKM:=Hd (show d.steps.length≠0∧d.steps.length≤48 by rw [HK.out];omega)
 clear hk48 hk0
 by_cases hm1:md=1
 case pos =>
  subst hm1
  go_enter Tryz.func20,Tryz.ntmps20
  go_wp2_with fail
  go_simp
  go_loopw [31] (fun i wr=>∃ j:Nat,j≤k∧i=.int .i64 j∧Hid (∀ q (hq:q<d.steps.length),q<j→aW d.steps[q]=true)∧Hid (aq 58 wr w.heap.size ps)∧Hid (Below w.heap.size w wr)) (fun i _=>k-(intOf i).toNat)
  case atStart=>exact ⟨0,by omega,rfl,Hd (fun q _ hq=>absurd hq (by omega)),R0,H0⟩
  case round =>
   clear c0 c1 R0 H0
   obtain ⟨w1,rfl⟩:∃ w1,w1=wr:=⟨wr,rfl⟩
   obtain ⟨j,hj,rfl,HJ,R1,H1⟩:=hrel
   have c1:=R1.out.cell HC1.out
   by_cases hlt:j<k
   case pos =>
    have hjl:j<d.steps.length:=by rw [HK.out];exact hlt
    obtain ⟨b,o,rfl,hb,hget⟩:=HSA.out.get (by intro h;rw [h] at hjl;simp at hjl)
    obtain ⟨hkz,g1⟩:=hget j hjl
    obtain ⟨s,hs⟩:∃ s,d.steps[j]=s:=⟨_,rfl⟩
    rw [hs] at hkz g1
    have HS:=Hd (show ∀ hq:j<d.steps.length,d.steps[j]=s from fun _=>hs)
    have HG:=Hd (show aj w1 b (o+j * 4) [.bool s.each,.bool s.byIdx,.string s.key,.int .i64 s.index] from g1.below (H1.out.mono HB0.out) hb)
    have hkn:s.key.size≤1048576:=Nat.le_trans hkz hN
    have HJL:=Hd hjl
    obtain ⟨wS,hwS⟩:∃ wS,wS=w1.alloc (.cells #[.bool s.each,.bool s.byIdx,.string s.key,.int .i64 s.index] 94):=⟨_,rfl⟩
    have HWS:=Hd hwS
    have RS:=Hd (show aq 58 wS w.heap.size ps by rw [hwS];exact R1.out.alloc _)
    have BS:=Hd (show Below w.heap.size w wS by rw [hwS];exact ae H1.out (af w1 _))
    have TS:=Hd (show aq 94 wS w1.heap.size [.bool s.each,.bool s.byIdx,.string s.key,.int .i64 s.index] by rw [hwS];exact aq.new w1 94 [.bool s.each,.bool s.byIdx,.string s.key,.int .i64 s.index])
    clear g1 hget hs hjl hkz hwS
    go_wp2_with ((with_reducible show wpList _ _ _ (⟨some 34,_,_,_,_,_⟩::_) _ _);refine wpList_load_mid rfl 94 _ rfl b (o+j * 4) rfl [.bool s.each,.bool s.byIdx,.string s.key,.int .i64 s.index] _ HG.out.range Tryz.underlying94 rfl cP ?_)
    rw [← HWS.out]
    refine (pA s _ hkn (HE.out.then BS.out)).mono ?_
    rintro e w2 ⟨rfl,hb2⟩
    have B2:=Hd (ae BS.out hb2)
    have R2:=Hd (RS.out.then hb2)
    clear hb2 c1
    obtain ⟨v,hv⟩:∃ v,aW s=v:=⟨_,rfl⟩
    have HV:=Hd hv
    rw [hv]
    clear hv
    cases v
    ·have HR:=Hd (j3 (l:=l) HMO.out HKM.out.2 (iD HJL.out (by rw [HS.out HJL.out];exact HV.out)))
     go_wp2_with fail
     go_ret
     exact ⟨by rw [HR.out];rfl,B2.out⟩
    ·go_wp2_with fail
     go_roundw
     case rel=>exact ⟨j+1,by omega,by go_num,Hd (fun q hq hqj=>by
      by_cases hqe:q=j
      ·subst hqe;rw [HS.out hq];exact HV.out
      ·exact HJ.out q hq (by omega)),R2,B2⟩
     case measure=>simp [intOf];omega
   have hjk:j=k:=by omega
   have HO4:=Hd (show Ok4 d from ⟨HMO.out,HKM.out.1,HKM.out.2,kh fun q hq=>HJ.out q hq (by rw [hjk,← HK.out];exact hq)⟩)
   subst hjk
   have c0:=R1.out.cell HC0.out
   have c2:=R1.out.cell HC2.out
   have hB1:=Hd (show B≤w1.heap.size from Nat.le_trans HB0.out H1.out.size)
   have c0':=c0
   by_cases hs:nm.toList=[]
   case neg =>
    have HR:=Hd (gf (l:=l) HO4.out HMD.out (fun g=>hs (by rw [← HNM.out];exact (aH _).2 g.1)))
    have s1:(nm.toList==[])=false:=by simp [hs]
    have s2:(nm.toList != [])=true:=by simp [hs]
    have s3:nm.toList.isEmpty=false:=by simp [hs]
    go_wp2_with fail
    go_ret
    exact ⟨by rw [HR.out];rfl,H1.out⟩
   have HNZ:=Hd (show d.name.size=0 by rw [HNM.out];exact (aH _).1 hs)
   go_wp2_with ((with_reducible show wpList _ _ _ (⟨some 47,_,_,_,_,_⟩::_) _ _);refine ax ?hw 34 _ rfl w.heap.size 3 rfl ics _ (R1.out.cells.partU HPI.out) Tryz.underlying34 rfl hli.out ?_;case hw=>(first | rfl | kernel_rfl))
   refine (nV d.init _ B N ics hN hB1.out (HIA.out.below (H1.out.mono HB0.out))).mono ?_
   rintro e w2 ⟨rfl,hb2⟩
   have B2:=Hd (ae H1.out hb2)
   have R2:=Hd (R1.out.then hb2)
   clear hb2 c0 c0' c1 c2 hs
   obtain ⟨z1,hz1⟩:∃ v,bL d.init=v:=⟨_,rfl⟩
   have HZ1:=Hd hz1
   rw [hz1]
   clear hz1
   cases z1
   case false =>
    have HR:=Hd (gf (l:=l) HO4.out HMD.out (fun g=>by rw [HZ1.out] at g;cases g.2.1))
    go_wp2_with fail
    go_ret
    exact ⟨by rw [HR.out];rfl,B2.out⟩
   go_wp2_with ((with_reducible show wpList _ _ _ (⟨some 53,_,_,_,_,_⟩::_) _ _);refine ax ?hw 34 _ rfl w.heap.size 20 rfl ucs _ (R2.out.cells.partU HPU.out) Tryz.underlying34 rfl hlu.out ?_;case hw=>(first | rfl | kernel_rfl))
   refine (nV d.upd _ B N ucs hN (Nat.le_trans HB0.out B2.out.size) (HUA.out.below (B2.out.mono HB0.out))).mono ?_
   rintro e w3 ⟨rfl,hb3⟩
   have B3:=Hd (ae B2.out hb3)
   have R3:=Hd (R2.out.then hb3)
   clear hb3
   obtain ⟨z2,hz2⟩:∃ v,bL d.upd=v:=⟨_,rfl⟩
   have HZ2:=Hd hz2
   rw [hz2]
   clear hz2
   cases z2
   case false =>
    have HR:=Hd (gf (l:=l) HO4.out HMD.out (fun g=>by rw [HZ2.out] at g;cases g.2.2))
    go_wp2_with fail
    go_ret
    exact ⟨by rw [HR.out];rfl,B3.out⟩
   have HR:=Hd (qy (l:=l) HO4.out HMD.out ⟨HNZ.out,HZ1.out,HZ2.out⟩)
   have c0:=R3.out.cell HC0.out
   go_wp2_with ((with_reducible show wpList _ _ _ (⟨some 61,_,_,_,_,_⟩::_) _ _);refine wpList_load_mid rfl 58 _ rfl w.heap.size 0 rfl ps _ R3.out.range Tryz.underlying58 rfl hlp.out ?_)
   have HBZ:=Hd B3.out.size
   refine (oa d l ps _ B N hN hN1 (Nat.le_trans HB0.out HBZ.out) HO4.out.max HO4.out.all (HPX.out.below (B3.out.mono HB0.out))).mono ?_
   rintro e w8 ⟨qa,qc,ms,rfl,_,_,hqs,hb8⟩
   have B8:=Hd (ae B3.out hb8)
   have HQF:=Hd (hqs.here (hb8.mono (Nat.le_trans HB0.out HBZ.out))).1
   have HQX:=Hd (hqs.here (hb8.mono (Nat.le_trans HB0.out HBZ.out))).2
   clear hb8 hqs
   go_wp2_with fail
   refine (tF l (a8 d) qa qc ms _ w8 w8.heap.size N hN (Nat.le_trans h4 (Nat.le_trans HB0.out B8.out.size)) (Nat.le_refl _) (HE.out.then B8.out) (HT.out.below B8.out) HSM.out.1 HSM.out.2 HQF.out HQX.out rfl).mono ?_
   rintro e w9 ⟨rfl,hb9⟩
   have B9:=Hd (ae B8.out hb9)
   clear hb9
   go_wp2_with fail
   go_ret
   exact ⟨by rw [HR.out];rfl,B9.out⟩
 have hm':md=2∨md=3:=by omega
 clear hm hm1
 rcases hm' with rfl | rfl
 all_goals
  go_enter Tryz.func20,Tryz.ntmps20
  go_wp2_with fail
  go_simp
  go_loopw [31] (fun i wr=>∃ j:Nat,j≤k∧i=.int .i64 j∧Hid (∀ q (hq:q<d.steps.length),q<j→aW d.steps[q]=true)∧Hid (aq 58 wr w.heap.size ps)∧Hid (Below w.heap.size w wr)) (fun i _=>k-(intOf i).toNat)
  case atStart=>exact ⟨0,by omega,rfl,Hd (fun q _ hq=>absurd hq (by omega)),R0,H0⟩
  case round =>
   clear c0 c1 R0 H0
   obtain ⟨w1,rfl⟩:∃ w1,w1=wr:=⟨wr,rfl⟩
   obtain ⟨j,hj,rfl,HJ,R1,H1⟩:=hrel
   have c1:=R1.out.cell HC1.out
   by_cases hlt:j<k
   case pos =>
    have hjl:j<d.steps.length:=by rw [HK.out];exact hlt
    obtain ⟨b,o,rfl,hb,hget⟩:=HSA.out.get (by intro h;rw [h] at hjl;simp at hjl)
    obtain ⟨hkz,g1⟩:=hget j hjl
    obtain ⟨s,hs⟩:∃ s,d.steps[j]=s:=⟨_,rfl⟩
    rw [hs] at hkz g1
    have HS:=Hd (show ∀ hq:j<d.steps.length,d.steps[j]=s from fun _=>hs)
    have HG:=Hd (show aj w1 b (o+j * 4) [.bool s.each,.bool s.byIdx,.string s.key,.int .i64 s.index] from g1.below (H1.out.mono HB0.out) hb)
    have hkn:s.key.size≤1048576:=Nat.le_trans hkz hN
    have HJL:=Hd hjl
    obtain ⟨wS,hwS⟩:∃ wS,wS=w1.alloc (.cells #[.bool s.each,.bool s.byIdx,.string s.key,.int .i64 s.index] 94):=⟨_,rfl⟩
    have HWS:=Hd hwS
    have RS:=Hd (show aq 58 wS w.heap.size ps by rw [hwS];exact R1.out.alloc _)
    have BS:=Hd (show Below w.heap.size w wS by rw [hwS];exact ae H1.out (af w1 _))
    have TS:=Hd (show aq 94 wS w1.heap.size [.bool s.each,.bool s.byIdx,.string s.key,.int .i64 s.index] by rw [hwS];exact aq.new w1 94 [.bool s.each,.bool s.byIdx,.string s.key,.int .i64 s.index])
    clear g1 hget hs hjl hkz hwS
    go_wp2_with ((with_reducible show wpList _ _ _ (⟨some 34,_,_,_,_,_⟩::_) _ _);refine wpList_load_mid rfl 94 _ rfl b (o+j * 4) rfl [.bool s.each,.bool s.byIdx,.string s.key,.int .i64 s.index] _ HG.out.range Tryz.underlying94 rfl cP ?_)
    rw [← HWS.out]
    refine (pA s _ hkn (HE.out.then BS.out)).mono ?_
    rintro e w2 ⟨rfl,hb2⟩
    have B2:=Hd (ae BS.out hb2)
    have R2:=Hd (RS.out.then hb2)
    clear hb2 c1
    obtain ⟨v,hv⟩:∃ v,aW s=v:=⟨_,rfl⟩
    have HV:=Hd hv
    rw [hv]
    clear hv
    cases v
    ·have HR:=Hd (j3 (l:=l) HMO.out HKM.out.2 (iD HJL.out (by rw [HS.out HJL.out];exact HV.out)))
     go_wp2_with fail
     go_ret
     exact ⟨by rw [HR.out];rfl,B2.out⟩
    ·go_wp2_with fail
     go_roundw
     case rel=>exact ⟨j+1,by omega,by go_num,Hd (fun q hq hqj=>by
      by_cases hqe:q=j
      ·subst hqe;rw [HS.out hq];exact HV.out
      ·exact HJ.out q hq (by omega)),R2,B2⟩
     case measure=>simp [intOf];omega
   have hjk:j=k:=by omega
   have HO4:=Hd (show Ok4 d from ⟨HMO.out,HKM.out.1,HKM.out.2,kh fun q hq=>HJ.out q hq (by rw [hjk,← HK.out];exact hq)⟩)
   subst hjk
   have c0:=R1.out.cell HC0.out
   have c2:=R1.out.cell HC2.out
   have hB1:=Hd (show B≤w1.heap.size from Nat.le_trans HB0.out H1.out.size)
   go_wp2_with ((with_reducible show wpList _ _ _ (⟨some 58,_,_,_,_,_⟩::_) _ _);refine ax ?hw 34 _ rfl w.heap.size 3 rfl ics _ (R1.out.cells.partU HPI.out) Tryz.underlying34 rfl hli.out ?_;case hw=>(first | rfl | kernel_rfl))
   refine (ym 48 1 d.init (by omega) (by omega) _ B N ics hN hB1.out (HIA.out.below (H1.out.mono HB0.out))).mono ?_
   rintro e w2 ⟨rfl,hb2⟩
   have B2:=Hd (ae H1.out hb2)
   have R2:=Hd (R1.out.then hb2)
   clear hb2 c0 c1 c2
   obtain ⟨z1,hz1⟩:∃ v,eI 48 d.init=v:=⟨_,rfl⟩
   have HZ1:=Hd hz1
   rw [hz1]
   clear hz1
   cases z1
   case false =>
    have HR:=Hd (tG (l:=l) HO4.out (by rw [HMD.out];first | decide | assumption) HZ1.out)
    go_wp2_with fail
    go_ret
    exact ⟨by rw [HR.out];rfl,B2.out⟩
   have HR:=Hd (qx (l:=l) HO4.out (by rw [HMD.out];first | decide | assumption) HZ1.out)
   go_wp2_with ((with_reducible show wpList _ _ _ (⟨some 61,_,_,_,_,_⟩::_) _ _);refine wpList_load_mid rfl 58 _ rfl w.heap.size 0 rfl ps _ R2.out.range Tryz.underlying58 rfl hlp.out ?_)
   have HBZ:=Hd B2.out.size
   refine (oa d l ps _ B N hN hN1 (Nat.le_trans HB0.out HBZ.out) HO4.out.max HO4.out.all (HPX.out.below (B2.out.mono HB0.out))).mono ?_
   rintro e w8 ⟨qa,qc,ms,rfl,_,_,hqs,hb8⟩
   have B8:=Hd (ae B2.out hb8)
   have HQF:=Hd (hqs.here (hb8.mono (Nat.le_trans HB0.out HBZ.out))).1
   have HQX:=Hd (hqs.here (hb8.mono (Nat.le_trans HB0.out HBZ.out))).2
   clear hb8 hqs
   go_wp2_with fail
   refine (tF l (a8 d) qa qc ms _ w8 w8.heap.size N hN (Nat.le_trans h4 (Nat.le_trans HB0.out B8.out.size)) (Nat.le_refl _) (HE.out.then B8.out) (HT.out.below B8.out) HSM.out.1 HSM.out.2 HQF.out HQX.out rfl).mono ?_
   rintro e w9 ⟨rfl,hb9⟩
   have B9:=Hd (ae B8.out hb9)
   clear hb9
   go_wp2_with fail
   go_ret
   exact ⟨by rw [HR.out];rfl,B9.out⟩
def D0 (N:Nat) (d:br) (l:List al) (w:World) (e:Ending) (w':World):Prop:=∃ (qs:List Value) (k:Int),e=.returned (.tuple #[.agg qs.toArray,.int .i64 k])∧Hid (k=eJ d l)∧Hid (qs.length=18∧∀ v∈qs,v.oneCell'=true)∧Hid (k=0→∃ a c ms,qs=.slice a l.length c::ms∧av w' w'.heap.size N l a∧ag.At w' w'.heap.size N (a8 d) ms)∧Below w.heap.size w w'
theorem lx:∀ v∈bZ,v.oneCell'=true:=List.all_eq_true.1 rfl
theorem yu {d:br} {l:List al} (h:eJ d l=0):Ok4 d:=by
 obtain ⟨h1,h2,h3,h4,_⟩:=rU h
 exact ⟨h1,h2,h3,h4⟩
set_option maxRecDepth 100000 in
set_option maxHeartbeats 12800000 in
theorem ul (d:br) (l:List al) (ps:List Value) (w:World) (B N:Nat) (hN:N≤1048576) (hN1:20≤N) (h4:4≤B) (hB:B≤w.heap.size) (hE:Env w) (hT:cI w) (hsl:gY l) (hsi:cc d.init) (hsu:cc d.upd) (hsb:cc d.body) (hp:cJ w B N d l ps):Calls Tryz.prog 16 #[.agg ps.toArray] w (D0 N d l w):=by
 have hplen:=hp.len
 have hlp:=Hd (show (Tryz.prog.info? 58).map (·.size)=some ps.length by rw [hplen];exact aO)
 have HPX:=Hd hp
 have HB0:=Hd hB
 obtain ⟨wA,hwA⟩:∃ wA,wA=(w.alloc (.cells ps.toArray 58)).alloc (.cells #[.slice none 0 0,.int .i64 0,.string ⟨#[]⟩,.int .i64 0,.bool false,.bool false,.string ⟨#[]⟩,.int .i64 0,.int .i64 0,.int .i64 0,.int .i64 0,.int .i64 0,.string ⟨#[]⟩,.slice none 0 0,.slice none 0 0,.slice none 0 0,.slice none 0 0,.slice none 0 0] 61):=⟨_,rfl⟩
 have BA:=Hd (show Below w.heap.size w wA by rw [hwA];exact ae (af w _) (af _ _))
 have PA:=Hd (show aq 58 wA w.heap.size ps by rw [hwA];exact (aq.new w 58 ps).alloc _)
 have ZA:=Hd (show aq 61 wA (w.heap.size+1) bZ by
  have h:=aq.new (w.alloc (.cells ps.toArray 58)) 61 bZ
  rw [World.size_alloc] at h
  rw [hwA];exact h)
 have HWA:=Hd hwA
 have HCK:=Hd (tI d l ps wA B N hN hN1 h4 (Nat.le_trans hB BA.out.size) (hE.then BA.out) (hT.below BA.out) hsl hsi hsu hsb (hp.below (BA.out.mono hB)))
 clear hwA hp hE hT hsl hsi hsu hsb hplen
 go_enter Tryz.func16,Tryz.ntmps16
 go_wp2_with ((with_reducible show wpList _ _ _ (⟨some 5,_,_,_,_,_⟩::_) _ _);refine wpList_load_mid rfl 58 _ rfl w.heap.size 0 rfl ps _ (by rw [← HWA.out];exact PA.out.range) Tryz.underlying58 rfl hlp.out ?_)
 rw [← HWA.out]
 refine HCK.out.mono ?_
 rintro e w1 ⟨rfl,hb1⟩
 have B1:=Hd (ae BA.out hb1)
 have P1:=Hd (PA.out.then hb1)
 have Z1:=Hd (ZA.out.then hb1)
 clear hb1 HWA
 obtain ⟨z,hz⟩:∃ v,eJ d l=v:=⟨_,rfl⟩
 have HZ:=Hd hz
 rw [hz]
 clear hz
 by_cases h0:z=0
 case neg =>
  have e1:(z==0)=false:=by simpa using h0
  have e2:(z != 0)=true:=by simpa using h0
  have HN0:=Hd h0
  clear h0
  go_wp2_with ((with_reducible show wpList _ _ _ (⟨none,.store 61 (.tmp 2) (.tmp 9),_,_,_,_⟩::_) _ _);refine aD rfl 61 _ _ rfl (w.heap.size+1) 0 bZ rfl rfl 61 bZ bZ Z1.out (by kernel_rfl) rfl (Nat.le_refl 18) lx ?_)
  refine bodyPost_ret (ap rfl _ _ (w.heap.size+1) 61 bZ.toArray (0,0) _ rfl (Z1.out.setRow _) Tryz.underlying61 rfl (by kernel_rfl)) rfl ?_
  exact ⟨bZ,z,rfl,Hd HZ.out.symm,Hd ⟨rfl,lx⟩,Hd (fun g=>absurd g HN0.out),below_setRow B1.out (by omega) _⟩
 subst h0
 have HO4:=Hd (yu HZ.out)
 go_wp2_with ((with_reducible show wpList _ _ _ (⟨some 11,_,_,_,_,_⟩::_) _ _);refine wpList_load_mid rfl 58 _ rfl w.heap.size 0 rfl ps _ P1.out.range Tryz.underlying58 rfl hlp.out ?_)
 refine (oa d l ps w1 B N hN hN1 (Nat.le_trans HB0.out B1.out.size) HO4.out.max HO4.out.all (HPX.out.below (B1.out.mono HB0.out))).mono ?_
 rintro e w2 ⟨qa,qc,ms,rfl,hms,hmo,hqs,hb2⟩
 have B2:=Hd (ae B1.out hb2)
 have Z2:=Hd (Z1.out.then hb2)
 have HQS:=Hd hqs
 have HB2:=Hd hb2
 have hlq:=Hd (show (Tryz.prog.info? 61).map (·.size)=some (.slice qa l.length qc::ms:List Value).length by rw [List.length_cons,hms];kernel_rfl)
 have hl17:=Hd hms
 have hoq:=Hd (show ∀ v∈(.slice qa l.length qc::ms:List Value),v.oneCell'=true by intro v hv;rcases List.mem_cons.1 hv with rfl | hv;rfl;exact hmo v hv)
 clear hb2 hqs hms hmo
 go_wp2_with ((with_reducible show wpList _ _ _ (⟨none,.store 61 (.tmp 2) (.tmp 12),_,_,_,_⟩::_) _ _);refine aD rfl 61 _ _ rfl (w.heap.size+1) 0 (.slice qa l.length qc::ms:List Value) rfl rfl 61 bZ (.slice qa l.length qc::ms:List Value) Z2.out hlq.out (by rw [List.length_cons,hl17.out];simp [bZ,ai]) (by rw [List.length_cons,hl17.out];decide) hoq.out ?_)
 refine bodyPost_ret (ap rfl _ _ (w.heap.size+1) 61 (.slice qa l.length qc::ms:List Value).toArray (0,0) _ rfl (Z2.out.setRow _) Tryz.underlying61 rfl (by rw [List.size_toArray];exact hlq.out)) rfl ?_
 have B9:=below_setRow B2.out (show w.heap.size≤w.heap.size+1 by omega) (.slice qa l.length qc::ms:List Value).toArray
 obtain ⟨g1,g2⟩:=HQS.out _ (eT Z1.out.lt (.slice qa l.length qc::ms:List Value).toArray) (cm (B1.out.mono HB0.out) (B9.mono HB0.out) (by rw [setRow_size];exact HB2.out.size))
 exact ⟨_,0,rfl,Hd HZ.out.symm,Hd ⟨by rw [List.length_cons,hl17.out],hoq.out⟩,Hd (fun _=>⟨qa,qc,ms,rfl,g1,g2⟩),B9⟩
end Go.Proofs.YtiefeajappjnbaaGreatDoor

/- datakitref43.Check of a plan gives what eJ says (printed by genchk43.py). -/
namespace Go.Proofs.YtiefeajappjnbaaGreatDoor
open Go.RowKit
set_option maxRecDepth 100000 in
set_option maxHeartbeats 25600000 in
theorem yv (d:br) (l:List al) (ps:List Value) (w:World) (B N:Nat) (hN:N≤1048576) (hN1:20≤N) (hB:B≤w.heap.size) (hT:cI w) (hsc:∀ sa sc,ps[1]?=some (.slice sa d.steps.length sc)→d.steps.length≤sc) (hp:cJ w B N d l ps):Calls Tryz.prog 17 #[.agg ps.toArray] w (gK (eJ d l) w):=by
 obtain ⟨sa,sc,ics,ucs,bcs,fa,fc,hh⟩:=hp.has
 have hplen:=hp.len
 obtain ⟨md,hmd⟩:∃ v,d.mode=v:=⟨_,rfl⟩
 obtain ⟨nm,hnm⟩:∃ v,d.name=v:=⟨_,rfl⟩
 obtain ⟨k,hk⟩:∃ v,d.steps.length=v:=⟨_,rfl⟩
 obtain ⟨ln,hln⟩:∃ v,l.length=v:=⟨_,rfl⟩
 have HMD:=Hd hmd
 have HNM:=Hd hnm
 have HK:=Hd hk
 have HLN:=Hd hln
 have HC0:=Hd (show ps[0]?=some (.int .i64 md) by rw [← hmd];exact hh.mode)
 have HC1:=Hd (show ps[1]?=some (.slice sa k sc) by rw [← hk];exact hh.steps)
 have HC2:=Hd (show ps[2]?=some (.string nm) by rw [← hnm];exact hh.name)
 have HC6:=Hd (show ps[54]?=some (.slice fa ln fc) by rw [← hln];exact hh.funcs)
 have HPI:=Hd hh.init
 have HPU:=Hd hh.upd
 have HPX:=Hd hp
 have HSA:=Hd hh.atSteps
 have HIA:=Hd hh.atInit
 have HUA:=Hd hh.atUpd
 have HFA:=Hd hh.atFuncs
 have hli:=Hd (show (Tryz.prog.info? 34).map (·.size)=some ics.length by rw [hh.atInit.len];exact ay)
 have hlu:=Hd (show (Tryz.prog.info? 34).map (·.size)=some ucs.length by rw [hh.atUpd.len];exact ay)
 have hlp:=Hd (show (Tryz.prog.info? 58).map (·.size)=some ps.length by rw [hplen];exact aO)
 have hkN:k≤1048576:=by rw [← hk];exact Nat.le_trans hh.hsl hN
 have HLL:=Hd (show l.length≤N from hh.hl)
 have HB0:=Hd hB
 have HT:=Hd hT
 have HSC:=Hd hsc
 have R0:=Hd (aq.new w 58 ps)
 have H0:=Hd (af w (.cells ps.toArray 58))
 have c0:=R0.out.cell HC0.out
 have c1:=R0.out.cell HC1.out
 clear hh hp hplen hmd hnm hk hln hT hsc
 by_cases hm1:md<1
 case pos =>
  have HR:=Hd (mr (d:=d) (l:=l) (by rw [HMD.out];omega))
  go_enter Tryz.func17,Tryz.ntmps17
  go_wp2_with fail
  go_ret
  exact ⟨by rw [HR.out];rfl,H0.out⟩
 have hm1':1≤md:=by omega
 clear hm1
 by_cases hm3:3<md
 case pos =>
  have HR:=Hd (mr (d:=d) (l:=l) (by rw [HMD.out];omega))
  go_enter Tryz.func17,Tryz.ntmps17
  go_wp2_with fail
  go_ret
  exact ⟨by rw [HR.out];rfl,H0.out⟩
 have hm3':md≤3:=by omega
 clear hm3
 have HMO:=Hd (show 1≤d.mode∧d.mode≤3 by rw [HMD.out];omega)
 by_cases hk0:k=0
 case pos =>
  subst hk0
  have HR:=Hd (qz (d:=d) (l:=l) HK.out)
  go_enter Tryz.func17,Tryz.ntmps17
  go_wp2_with fail
  go_ret
  exact ⟨by rw [HR.out];rfl,H0.out⟩
 have ek0:((k:Int)==0)=false:=by simpa using hk0
 by_cases hk48:(48:Int)<k
 case pos =>
  have HR:=Hd (qA (d:=d) (l:=l) HMO.out (by rw [HK.out];omega))
  go_enter Tryz.func17,Tryz.ntmps17
  go_wp2_with fail
  go_ret
  exact ⟨by rw [HR.out];rfl,H0.out⟩
 have hk48':(k:Int)≤48:=by omega
 have HKM:=Hd (show d.steps.length≠0∧d.steps.length≤48 by rw [HK.out];omega)
 clear hk48 hk0
 go_enter Tryz.func17,Tryz.ntmps17
 go_wp2_with fail
 go_simp
 go_loopw [3] (fun i wr=>∃ j:Nat,j≤k∧i=.int .i64 j∧Hid (∀ q (hq:q<d.steps.length),q<j→aW d.steps[q]=true)∧Hid (aq 58 wr w.heap.size ps)∧Hid (Below w.heap.size w wr)) (fun i _=>k-(intOf i).toNat)
 case atStart=>exact ⟨0,by omega,rfl,Hd (fun q _ hq=>absurd hq (by omega)),R0,H0⟩
 case round =>
  clear c0 c1 R0 H0
  obtain ⟨w1,rfl⟩:∃ w1,w1=wr:=⟨wr,rfl⟩
  obtain ⟨j,hj,rfl,HJ,R1,H1⟩:=hrel
  have c1:=R1.out.cell HC1.out
  by_cases hlt:j<k
  case pos =>
   have hjl:j<d.steps.length:=by rw [HK.out];exact hlt
   obtain ⟨b,o,rfl,hb,hget⟩:=HSA.out.get (by intro h;rw [h] at hjl;simp at hjl)
   obtain ⟨hkz,g1⟩:=hget j hjl
   obtain ⟨s,hs⟩:∃ s,d.steps[j]=s:=⟨_,rfl⟩
   rw [hs] at hkz g1
   have HS:=Hd (show ∀ hq:j<d.steps.length,d.steps[j]=s from fun _=>hs)
   have HG:=Hd (show aj w1 b (o+j * 4) [.bool s.each,.bool s.byIdx,.string s.key,.int .i64 s.index] from g1.below (H1.out.mono HB0.out) hb)
   have hkn:s.key.size≤1048576:=Nat.le_trans hkz hN
   have HJL:=Hd hjl
   obtain ⟨wS,hwS⟩:∃ wS,wS=w1.alloc (.cells #[.bool s.each,.bool s.byIdx,.string s.key,.int .i64 s.index] 94):=⟨_,rfl⟩
   have HWS:=Hd hwS
   have RS:=Hd (show aq 58 wS w.heap.size ps by rw [hwS];exact R1.out.alloc _)
   have BS:=Hd (show Below w.heap.size w wS by rw [hwS];exact ae H1.out (af w1 _))
   have TS:=Hd (show aq 94 wS w1.heap.size [.bool s.each,.bool s.byIdx,.string s.key,.int .i64 s.index] by rw [hwS];exact aq.new w1 94 [.bool s.each,.bool s.byIdx,.string s.key,.int .i64 s.index])
   clear g1 hget hs hjl hkz hwS
   obtain ⟨ea,hea⟩:∃ v,s.each=v:=⟨_,rfl⟩
   obtain ⟨by_,hby⟩:∃ v,s.byIdx=v:=⟨_,rfl⟩
   obtain ⟨ky,hky⟩:∃ v,s.key=v:=⟨_,rfl⟩
   obtain ⟨ix,hix⟩:∃ v,s.index=v:=⟨_,rfl⟩
   have HPB:=Hd (show aW s=if ea=true then nY by_ ky ix else fD by_ ky ix by rw [← hea,← hby,← hky,← hix];exact lP s)
   rw [hea,hby,hky,hix] at HG TS HWS
   rw [hky] at hkn
   clear hea hby hky hix
   have d0:=TS.out.cell (j:=0) (v:=.bool ea) rfl
   have d1:=TS.out.cell (j:=1) (v:=.bool by_) rfl
   have d2:=TS.out.cell (j:=2) (v:=.string ky) rfl
   have d3:=TS.out.cell (j:=3) (v:=.int .i64 ix) rfl
   rw [HWS.out] at d0 d1 d2 d3
   cases ea
   case true =>
    have E1:=xV by_ ky ix
    have G1:=p5
    have HV:=Hd (show aW s=nY by_ ky ix from HPB.out)
    obtain ⟨v,hv⟩:∃ v,nY by_ ky ix=v:=⟨_,rfl⟩
    rw [hv] at E1 HV
    clear hv
    cases v
    ·have HR:=Hd (j3 (l:=l) HMO.out HKM.out.2 (iD HJL.out (by rw [HS.out HJL.out];exact HV.out)))
     go_wp2_with ((with_reducible show wpList _ _ _ (⟨some 34,_,_,_,_,_⟩::_) _ _);refine wpList_load_mid rfl 94 _ rfl b (o+j * 4) rfl [.bool _,.bool by_,.string ky,.int .i64 ix] _ HG.out.range Tryz.underlying94 rfl cP ?_)
     go_ret
     exact ⟨by rw [HR.out];rfl,by rw [← HWS.out];exact BS.out⟩
    ·go_wp2_with ((with_reducible show wpList _ _ _ (⟨some 34,_,_,_,_,_⟩::_) _ _);refine wpList_load_mid rfl 94 _ rfl b (o+j * 4) rfl [.bool _,.bool by_,.string ky,.int .i64 ix] _ HG.out.range Tryz.underlying94 rfl cP ?_)
     go_roundw
     case rel=>exact ⟨j+1,by omega,by go_num,Hd (fun q hq hqj=>by
      by_cases hqe:q=j
      ·subst hqe;rw [HS.out hq];exact HV.out
      ·exact HJ.out q hq (by omega)),Hd (by rw [← HWS.out];exact RS.out),Hd (by rw [← HWS.out];exact BS.out)⟩
     case measure=>simp [intOf];omega
   have HV:=Hd (show aW s=fD by_ ky ix from HPB.out)
   go_wp2_with ((with_reducible show wpList _ _ _ (⟨some 34,_,_,_,_,_⟩::_) _ _);refine wpList_load_mid rfl 94 _ rfl b (o+j * 4) rfl [.bool _,.bool by_,.string ky,.int .i64 ix] _ HG.out.range Tryz.underlying94 rfl cP ?_)
   obtain ⟨wV,hwV⟩:∃ wV,wV=wS.alloc (.cells #[.bool by_,.string ky,.int .i64 ix] 92):=⟨_,rfl⟩
   have BV:=Hd (show Below w.heap.size w wV by rw [hwV];exact ae BS.out (af wS _))
   have RV:=Hd (show aq 58 wV w.heap.size ps by rw [hwV];exact RS.out.alloc _)
   have TV:=Hd (show aj wV (w1.heap.size+1) 0 [.bool by_,.string ky,.int .i64 ix] by
    have h:=(aq.new wS 92 [.bool by_,.string ky,.int .i64 ix]).cells
    rw [show wS.heap.size=w1.heap.size+1 by rw [HWS.out,World.size_alloc]] at h
    rw [hwV];exact h)
   have hsV:w1.heap.size+1<wV.heap.size:=by rw [hwV,World.size_alloc,HWS.out,World.size_alloc];omega
   rw [← HWS.out,← hwV]
   clear hwV d0 d1 d2 d3 c1
   refine (yW by_ ky ix (w1.heap.size+1) wV hkn hsV TV.out).mono ?_
   rintro e w2 ⟨rfl,hb2⟩
   have B2:=Hd (ae BV.out hb2)
   have R2:=Hd (RV.out.then hb2)
   clear hb2 hsV
   obtain ⟨v,hv⟩:∃ v,fD by_ ky ix=v:=⟨_,rfl⟩
   rw [hv] at HV ⊢
   clear hv
   cases v
   ·have HR:=Hd (j3 (l:=l) HMO.out HKM.out.2 (iD HJL.out (by rw [HS.out HJL.out];exact HV.out)))
    go_wp2_with fail
    go_ret
    exact ⟨by rw [HR.out];rfl,B2.out⟩
   ·go_wp2_with fail
    go_roundw
    case rel=>exact ⟨j+1,by omega,by go_num,Hd (fun q hq hqj=>by
     by_cases hqe:q=j
     ·subst hqe;rw [HS.out hq];exact HV.out
     ·exact HJ.out q hq (by omega)),R2,B2⟩
    case measure=>simp [intOf];omega
  have hjk:j=k:=by omega
  have HO4:=Hd (show Ok4 d from ⟨HMO.out,HKM.out.1,HKM.out.2,kh fun q hq=>HJ.out q hq (by rw [hjk,← HK.out];exact hq)⟩)
  subst hjk
  have c0:=R1.out.cell HC0.out
  have c2:=R1.out.cell HC2.out
  have hB1:=Hd (show B≤w1.heap.size from Nat.le_trans HB0.out H1.out.size)
  by_cases hm:md=1
  case pos =>
   subst hm
   have c0':=c0
   by_cases hs:nm.toList=[]
   case neg =>
    have HR:=Hd (gf (l:=l) HO4.out HMD.out (fun g=>hs (by rw [← HNM.out];exact (aH _).2 g.1)))
    have s1:(nm.toList==[])=false:=by simp [hs]
    have s2:(nm.toList != [])=true:=by simp [hs]
    have s3:nm.toList.isEmpty=false:=by simp [hs]
    go_wp2_with fail
    go_ret
    exact ⟨by rw [HR.out];rfl,H1.out⟩
   have HNZ:=Hd (show d.name.size=0 by rw [HNM.out];exact (aH _).1 hs)
   go_wp2_with ((with_reducible show wpList _ _ _ (⟨some 64,_,_,_,_,_⟩::_) _ _);refine ax ?hw 34 _ rfl w.heap.size 3 rfl ics _ (R1.out.cells.partU HPI.out) Tryz.underlying34 rfl hli.out ?_;case hw=>(first | rfl | kernel_rfl))
   refine (qT d.init _ B N ics hN hB1.out (HIA.out.below (H1.out.mono HB0.out))).mono ?_
   rintro e w2 ⟨rfl,hb2⟩
   have B2:=Hd (ae H1.out hb2)
   have R2:=Hd (R1.out.then hb2)
   clear hb2 c0 c0' c1 c2 hs
   obtain ⟨z1,hz1⟩:∃ v,bL d.init=v:=⟨_,rfl⟩
   have HZ1:=Hd hz1
   rw [hz1]
   clear hz1
   cases z1
   case false =>
    have HR:=Hd (gf (l:=l) HO4.out HMD.out (fun g=>by rw [HZ1.out] at g;cases g.2.1))
    go_wp2_with fail
    go_ret
    exact ⟨by rw [HR.out];rfl,B2.out⟩
   go_wp2_with ((with_reducible show wpList _ _ _ (⟨some 70,_,_,_,_,_⟩::_) _ _);refine ax ?hw 34 _ rfl w.heap.size 20 rfl ucs _ (R2.out.cells.partU HPU.out) Tryz.underlying34 rfl hlu.out ?_;case hw=>(first | rfl | kernel_rfl))
   refine (qT d.upd _ B N ucs hN (Nat.le_trans HB0.out B2.out.size) (HUA.out.below (B2.out.mono HB0.out))).mono ?_
   rintro e w3 ⟨rfl,hb3⟩
   have B3:=Hd (ae B2.out hb3)
   have R3:=Hd (R2.out.then hb3)
   clear hb3
   obtain ⟨z2,hz2⟩:∃ v,bL d.upd=v:=⟨_,rfl⟩
   have HZ2:=Hd hz2
   rw [hz2]
   clear hz2
   cases z2
   case false =>
    have HR:=Hd (gf (l:=l) HO4.out HMD.out (fun g=>by rw [HZ2.out] at g;cases g.2.2))
    go_wp2_with fail
    go_ret
    exact ⟨by rw [HR.out];rfl,B3.out⟩
   have HR:=Hd (qy (l:=l) HO4.out HMD.out ⟨HNZ.out,HZ1.out,HZ2.out⟩)
   have c0:=R3.out.cell HC0.out
   go_wp2_with fail
   obtain ⟨u0,hu0⟩:∃ u0,u0=w3:=⟨_,rfl⟩
   rw [← hu0] at R3 B3 ⊢
   clear hu0
   have HLS:=Hd B3.out.size
   refine wp_region_held_drew (S:=fun wu=>Below w.heap.size u0 wu∧aq 58 wu w.heap.size ps) (by kernel_rfl) ⟨(b7 u0).mono HLS.out,R3.out⟩ (fun hHeld=>?_)
   refine' tk 0 (.pointer (some ⟨w.heap.size,54,none⟩)) rfl rfl (.inl ⟨by rfl,fun u hu=>(by go_simp)⟩) hHeld ?_
   simp only [sq1,sq0]
   refine' tk 1 (.slice fa ln fc) rfl rfl (.inl ⟨by rfl,fun u hu=>(by have hc:=hu.2.cell HC6.out;go_simp)⟩) hHeld ?_
   simp only [sq1,sq0]
   refine' tk 2 _ rfl rfl (yieldsIf_load_mid (by kernel_rfl) 58 _ rfl (w.heap.size) 0 rfl ps _ (fun u hu=>hu.2.range) Tryz.underlying58 rfl hlp.out) hHeld ?_
   simp only [sq1,sq0]
   refine rd1 3 rfl (fun K hK=>?_)
   go_simp
   refine (sB d l ps u0.drew B N hN hN1 (Nat.le_trans HB0.out HLS.out) HO4.out.max HO4.out.all HSC.out (HPX.out.below ((ae B3.out (b7 u0)).mono HB0.out))).mono ?_
   rintro e w8 ⟨ms,rfl,hqx,hb8⟩
   have K8:=Hd (ae (b7 u0) hb8)
   have B8:=Hd (ae B3.out K8.out)
   have R8:=Hd (R3.out.then K8.out)
   have HQX:=Hd hqx
   refine hK.out _ _ ⟨K8.out.mono HLS.out,R8.out⟩ (fun hHeld1=>?_)
   clear hK K hHeld1 hb8 hqx
   refine rd1 4 rfl (fun K hK=>?_)
   rw [if_pos (by kernel_rfl)]
   refine ff 61 _ rfl (.slice fa ln fc::ms:List Value).toArray (by rw [List.map_toArray];exact rW fa ln fc ms HQX.out.len) ?_
   simp only [List.getElem_toArray,List.getElem_cons_succ,List.getElem_cons_zero,Act.put]
   refine hK.out _ _ ⟨K8.out.mono HLS.out,R8.out⟩ (fun hHeld1=>?_)
   clear hK K hHeld1
   refine rd1 5 rfl (fun K hK=>?_)
   go_simp
   refine (A6 l (a8 d) fa fc ms (.slice fa ln fc::ms) w8 w8.heap.size N hN (Nat.le_refl _) (HT.out.below B8.out) (av.mono (Nat.le_trans HB0.out B8.out.size) _ (av.below (B8.out.mono HB0.out) _ HFA.out)) HQX.out (by rw [HLN.out])).mono ?_
   rintro e w9 ⟨rfl,hb9⟩
   have B9:=Hd (ae B8.out hb9)
   have K9:=Hd (ae K8.out hb9)
   have R9:=Hd (R8.out.then hb9)
   refine hK.out _ _ ⟨K9.out.mono HLS.out,R9.out⟩ (fun hHeld1=>?_)
   clear hK K hHeld1 hb9
   refine rd1 6 rfl (fun K hK=>?_)
   go_simp
   refine hK.out _ _ ⟨K9.out.mono HLS.out,R9.out⟩ (fun hHeld1=>?_)
   clear hK K hHeld1
   refine wpAnyH_done (by kernel_rfl) ?_ _
   go_wp2_with fail
   go_ret
   exact ⟨by rw [HR.out];rfl,B9.out⟩
  have e1:(md==1)=false:=by simpa using hm
  have f1:(md != 1)=true:=by simpa using hm
  go_wp2_with ((with_reducible show wpList _ _ _ (⟨some 80,_,_,_,_,_⟩::_) _ _);refine ax ?hw 34 _ rfl w.heap.size 3 rfl ics _ (R1.out.cells.partU HPI.out) Tryz.underlying34 rfl hli.out ?_;case hw=>(first | rfl | kernel_rfl))
  refine (zQ 48 1 d.init (by omega) (by omega) _ B N ics hN hB1.out (HIA.out.below (H1.out.mono HB0.out))).mono ?_
  rintro e w2 ⟨rfl,hb2⟩
  have B2:=Hd (ae H1.out hb2)
  have R2:=Hd (R1.out.then hb2)
  clear hb2 c0 c1 c2
  obtain ⟨z1,hz1⟩:∃ v,eI 48 d.init=v:=⟨_,rfl⟩
  have HZ1:=Hd hz1
  rw [hz1]
  clear hz1
  cases z1
  case false =>
   have HR:=Hd (tG (l:=l) HO4.out (by rw [HMD.out];first | decide | assumption) HZ1.out)
   go_wp2_with fail
   go_ret
   exact ⟨by rw [HR.out];rfl,B2.out⟩
  have HR:=Hd (qx (l:=l) HO4.out (by rw [HMD.out];first | decide | assumption) HZ1.out)
  go_wp2_with fail
  obtain ⟨u0,hu0⟩:∃ u0,u0=w2:=⟨_,rfl⟩
  rw [← hu0] at R2 B2 ⊢
  clear hu0
  have HLS:=Hd B2.out.size
  refine wp_region_held_drew (S:=fun wu=>Below w.heap.size u0 wu∧aq 58 wu w.heap.size ps) (by kernel_rfl) ⟨(b7 u0).mono HLS.out,R2.out⟩ (fun hHeld=>?_)
  refine' tk 0 (.pointer (some ⟨w.heap.size,54,none⟩)) rfl rfl (.inl ⟨by rfl,fun u hu=>(by go_simp)⟩) hHeld ?_
  simp only [sq1,sq0]
  refine' tk 1 (.slice fa ln fc) rfl rfl (.inl ⟨by rfl,fun u hu=>(by have hc:=hu.2.cell HC6.out;go_simp)⟩) hHeld ?_
  simp only [sq1,sq0]
  refine' tk 2 _ rfl rfl (yieldsIf_load_mid (by kernel_rfl) 58 _ rfl (w.heap.size) 0 rfl ps _ (fun u hu=>hu.2.range) Tryz.underlying58 rfl hlp.out) hHeld ?_
  simp only [sq1,sq0]
  refine rd1 3 rfl (fun K hK=>?_)
  go_simp
  refine (sB d l ps u0.drew B N hN hN1 (Nat.le_trans HB0.out HLS.out) HO4.out.max HO4.out.all HSC.out (HPX.out.below ((ae B2.out (b7 u0)).mono HB0.out))).mono ?_
  rintro e w8 ⟨ms,rfl,hqx,hb8⟩
  have K8:=Hd (ae (b7 u0) hb8)
  have B8:=Hd (ae B2.out K8.out)
  have R8:=Hd (R2.out.then K8.out)
  have HQX:=Hd hqx
  refine hK.out _ _ ⟨K8.out.mono HLS.out,R8.out⟩ (fun hHeld1=>?_)
  clear hK K hHeld1 hb8 hqx
  refine rd1 4 rfl (fun K hK=>?_)
  rw [if_pos (by kernel_rfl)]
  refine ff 61 _ rfl (.slice fa ln fc::ms:List Value).toArray (by rw [List.map_toArray];exact rW fa ln fc ms HQX.out.len) ?_
  simp only [List.getElem_toArray,List.getElem_cons_succ,List.getElem_cons_zero,Act.put]
  refine hK.out _ _ ⟨K8.out.mono HLS.out,R8.out⟩ (fun hHeld1=>?_)
  clear hK K hHeld1
  refine rd1 5 rfl (fun K hK=>?_)
  go_simp
  refine (A6 l (a8 d) fa fc ms (.slice fa ln fc::ms) w8 w8.heap.size N hN (Nat.le_refl _) (HT.out.below B8.out) (av.mono (Nat.le_trans HB0.out B8.out.size) _ (av.below (B8.out.mono HB0.out) _ HFA.out)) HQX.out (by rw [HLN.out])).mono ?_
  rintro e w9 ⟨rfl,hb9⟩
  have B9:=Hd (ae B8.out hb9)
  have K9:=Hd (ae K8.out hb9)
  have R9:=Hd (R8.out.then hb9)
  refine hK.out _ _ ⟨K9.out.mono HLS.out,R9.out⟩ (fun hHeld1=>?_)
  clear hK K hHeld1 hb9
  refine rd1 6 rfl (fun K hK=>?_)
  go_simp
  refine hK.out _ _ ⟨K9.out.mono HLS.out,R9.out⟩ (fun hHeld1=>?_)
  clear hK K hHeld1
  refine wpAnyH_done (by kernel_rfl) ?_ _
  go_wp2_with fail
  go_ret
  exact ⟨by rw [HR.out];rfl,B9.out⟩
end Go.Proofs.YtiefeajappjnbaaGreatDoor
