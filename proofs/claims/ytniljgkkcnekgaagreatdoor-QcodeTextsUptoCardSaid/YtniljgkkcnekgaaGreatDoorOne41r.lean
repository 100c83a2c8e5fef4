/- datakitref41.one: what is wrong with an instruction. (Printed by gen41.py.) -/
import Derived.Test.YtniljgkkcnekgaaGreatDoorProg
import Derived.Test.YtniljgkkcnekgaaGreatDoorGA
import Derived.Test.YtniljgkkcnekgaaGreatDoorGB
import Derived.Test.YtniljgkkcnekgaaGreatDoorGF
import Derived.Test.YtniljgkkcnekgaaGreatDoorGK
import Derived.Test.YtniljgkkcnekgaaGreatDoorOnex
import Derived.Test.YtniljgkkcnekgaaGreatDoorIN
namespace Go.Proofs.YtniljgkkcnekgaaGreatDoor
open Go.RowKit
theorem refA_zero (op:Int):useA op=0↔refA op=0:=by
 unfold refA
 by_cases h:op=13
 ·rw [if_pos h,h]
  decide
 ·rw [if_neg h]
set_option maxRecDepth 100000 in
set_option maxHeartbeats 12800000 in
theorem one_ref (x:InsD) (n:Nat) (w:World) (B N:Nat) (cs:List Value) (hN:N≤4294967296) (hB:B≤w.heap.size) (hA:TabAt w) (hx:InsD.At w B N x cs) :
 Calls Tryz.prog 11 #[.agg cs.toArray,.int .i64 n] w (IntB (insE x n) w):=by
 obtain ⟨vs,hh⟩:=hx.has
 have z0:=hh.op
 have z1:=hh.a
 have z2:=hh.b
 have z3:=hh.name
 have H0:=Hd (belowBox w (.cells cs.toArray 41))
 have R0:=Hd (box_at w cs 41)
 have V0:=Hd (hh.cells _ _ _ (box_at w cs 41))
 have HS:=Hd (World.size_alloc w (.cells cs.toArray 41))
 have HX:=Hd hx
 have HV:=Hd hh.val
 have HA:=Hd hA
 have hl:=Hd (show (Tryz.prog.info? 39).map (·.size)=some vs.length by rw [hh.val.len];exact sizeV)
 have hli:=Hd (show (Tryz.prog.info? 41).map (·.size)=some cs.length by rw [hx.len];exact sizeIns)
 clear hh hx hA
 obtain ⟨o,ho⟩:∃ o,x.op=o:=⟨_,rfl⟩
 rw [ho] at z0
 have HO:=Hd ho
 clear ho
 by_cases hlo:o<1
 ·have HR:=Hd (show insE x n=1 by unfold insE;rw [HO.out,if_pos (by omega)])
  go_enter Tryz.func11,Tryz.ntmps11
  go_wp2_with fail
  go_ret
  exact int_ret HR.out H0.out
 by_cases hhi:30<o
 ·have HR:=Hd (show insE x n=1 by unfold insE;rw [HO.out,if_pos (by omega)])
  have hg:31≤o:=by omega
  have hg2:1≤o:=by omega
  clear hlo hhi
  go_enter Tryz.func11,Tryz.ntmps11
  go_wp2_with fail
  go_ret
  exact int_ret HR.out H0.out
 have H30:=Hd (show ¬ (o<1∨30<o) by omega)
 have hg:1≤o:=by omega
 have hg2:o≤30:=by omega
 clear hlo hhi
 obtain ⟨ua,hua⟩:∃ u,useA o=u:=⟨_,rfl⟩
 obtain ⟨ra,hra⟩:∃ u,refA o=u:=⟨_,rfl⟩
 have HRA:=Hd hra
 clear hra
 obtain ⟨ub,hub⟩:∃ u,useB o=u:=⟨_,rfl⟩
 obtain ⟨nm,hnm⟩:∃ u,namO o=u:=⟨_,rfl⟩
 obtain ⟨zz,hzz⟩:∃ u,zerI41 x.val=u:=⟨_,rfl⟩
 have HUA:=Hd hua
 have HRU:=Hd (show ua=0↔ra=0 by rw [← hua,← HRA.out];exact refA_zero o)
 have HUB:=Hd hub
 have HNM:=Hd hnm
 have HZZ:=Hd hzz
 have HBA:=Hd (show ub≠0→ua≠0 from fun h=>by rw [← hua];exact useBA (by rw [hub];exact h))
 have HNB:=Hd (show nm=true→ub=0 from fun h=>by rw [← hub];exact namB0 (by rw [hnm];exact h))
 have HO1:=Hd (show o=1→ua=0∧nm=false from fun h=>by rw [← hua,← hnm,h];exact ⟨rfl,rfl⟩)
 have HBAD:=Hd (show (ua=0∧x.a≠0)∨(ub=0∧x.b≠0)∨(nm=false∧x.name.size≠0)∨(o≠1∧zz=false)→insE x n=1 from fun h=>by
  unfold insE
  rw [HO.out,if_neg H30.out,if_pos]
  unfold badI
  rw [HO.out,hua,hub,hnm,hzz]
  exact decide_eq_true h)
 have HOK:=Hd (show ¬ ((ua=0∧x.a≠0)∨(ub=0∧x.b≠0)∨(nm=false∧x.name.size≠0)∨(o≠1∧zz=false))→insE x n=if withB ua x.a n=false∨withB ub x.b n=false then 2 else if o=1 then chkD x.val else nameE x from fun h=>by
  unfold insE
  rw [HO.out,if_neg H30.out,if_neg,hua,hub]
  unfold badI
  rw [HO.out,hua,hub,hnm,hzz]
  exact fun h2=>h (of_decide_eq_true h2))
 clear hua hub hnm hzz
 have hA3:(ua=0∧x.a≠0)∨ua≠0∨(ua=0∧x.a=0):=by omega
 have hB3:(ub=0∧x.b≠0)∨ub≠0∨(ub=0∧x.b=0):=by omega
 have hC3:(nm=false∧x.name.size≠0)∨nm=true∨(nm=false∧x.name.size=0):=by
  cases nm
  ·by_cases h:x.name.size=0
   ·exact .inr (.inr ⟨rfl,h⟩)
   ·exact .inl ⟨rfl,h⟩
  ·exact .inr (.inl rfl)
 have hD3:(o≠1∧zz=false)∨o=1∨(o≠1∧zz=true):=by
  by_cases h:o=1
  ·exact .inr (.inl h)
  ·cases zz
   ·exact .inl ⟨h,rfl⟩
   ·exact .inr (.inr ⟨h,rfl⟩)
 rcases hA3 with ⟨ha,hx1⟩ | ha | ⟨ha,hx1⟩
 ·have HR:=Hd (HBAD.out (.inl ⟨ha,hx1⟩))
  have hr:ra=0:=HRU.out.1 ha
  have hr1:(ra==0)=true:=by simpa using hr
  have hr2:(ra != 0)=false:=by simpa using hr
  have hx11:(x.a==0)=false:=by simpa using hx1
  have hx12:(x.a != 0)=true:=by simpa using hx1
  clear ha hx1 hB3 hC3 hD3 hr
  go_enter Tryz.func11,Tryz.ntmps11
  go_wp2_with fail
  refine (fields_ref o _ H30.out).mono ?_
  rintro e w1 ⟨rfl,rfl⟩
  rw [HRA.out,HUB.out,HNM.out]
  go_wp2_with fail
  go_ret
  exact int_ret HR.out H0.out
 ·have hr:ra≠0:=fun h=>ha (HRU.out.2 h)
  have hr1:(ra==0)=false:=by simpa using hr
  have hr2:(ra != 0)=true:=by simpa using hr
  rcases hB3 with ⟨hb,hy1⟩ | hb | ⟨hb,hy1⟩
  ·have HR:=Hd (HBAD.out (.inr (.inl ⟨hb,hy1⟩)))
   have hb1:(ub==0)=true:=by simpa using hb
   have hb2:(ub != 0)=false:=by simpa using hb
   have hy11:(x.b==0)=false:=by simpa using hy1
   have hy12:(x.b != 0)=true:=by simpa using hy1
   clear ha hr hb hy1 hC3 hD3
   go_enter Tryz.func11,Tryz.ntmps11
   go_wp2_with fail
   refine (fields_ref o _ H30.out).mono ?_
   rintro e w1 ⟨rfl,rfl⟩
   rw [HRA.out,HUB.out,HNM.out]
   go_wp2_with fail
   go_ret
   exact int_ret HR.out H0.out
  ·have hb1:(ub==0)=false:=by simpa using hb
   have hb2:(ub != 0)=true:=by simpa using hb
   rcases hC3 with ⟨hc,hn1⟩ | hc | ⟨hc,hn1⟩
   ·have HR:=Hd (HBAD.out (.inr (.inr (.inl ⟨hc,hn1⟩))))
    have hn2:¬ x.name.toList=[]:=ne_toList (by omega)
    clear ha hr hb hn1 hD3
    subst hc
    go_enter Tryz.func11,Tryz.ntmps11
    go_wp2_with fail
    refine (fields_ref o _ H30.out).mono ?_
    rintro e w1 ⟨rfl,rfl⟩
    rw [HRA.out,HUB.out,HNM.out]
    go_wp2_with fail
    go_ret
    exact int_ret HR.out H0.out
   ·exact absurd (HNB.out hc) hb
   ·have hn2:x.name.toList=[]:=toList_nil hn1
    rcases hD3 with ⟨hd,hz⟩ | hd | ⟨hd,hz⟩
    ·have HR:=Hd (HBAD.out (.inr (.inr (.inr ⟨hd,hz⟩))))
     have hd1:(o==1)=false:=by simpa using hd
     have hd2:(o != 1)=true:=by simpa using hd
     clear ha hr hb hn1 hd
     subst hc hz
     go_enter Tryz.func11,Tryz.ntmps11
     go_wp2_with fail
     refine (fields_ref o _ H30.out).mono ?_
     rintro e w1 ⟨rfl,rfl⟩
     rw [HRA.out,HUB.out,HNM.out]
     go_wp2_with ((with_reducible show wpList _ _ _ (⟨some 56,_,_,_,_,_⟩::_) _ _);refine wpList_load_mid_g' ?hw 39 _ rfl w.heap.size (0+4) rfl vs _ V0.out.range Tryz.underlying39 rfl hl.out ?_;case hw=>kernel_rfl)
     refine (zero_ref x.val _ B N vs (HV.out.below (H0.out.mono hB))).mono ?_
     rintro e w2 ⟨rfl,hb2⟩
     rw [HZZ.out]
     have H2:=Hd (belowThen H0.out hb2)
     have R2:=Hd (R0.out.then hb2 (by rw [HS.out];omega))
     have V2:=Hd (V0.out.then hb2 (by rw [HS.out];omega))
     have hs2:w.heap.size<w2.heap.size:=by have:=hb2.size;rw [HS.out] at this;omega
     have d0:=R2.out.get0 z0
     have d1:=R2.out.get0 z1
     have d2:=R2.out.get0 z2
     have d3:=R2.out.get0 z3
     clear hb2
     go_wp2_with fail
     go_ret
     exact int_ret HR.out H2.out
    ·exact absurd (HO1.out hd).1 (by exact ha)
    ·have HQ:=Hd (HOK.out (by
      rintro (h | h | h | h)
      ·exact ha h.1
      ·exact hb h.1
      ·exact h.2 hn1
      ·exact absurd h.2 (by rw [hz];decide)))
     have HNB2:=Hd (show badI x=false by
      unfold badI
      rw [HO.out,HUA.out,HUB.out,HNM.out,HZZ.out]
      exact decide_eq_false (by
      rintro (h | h | h | h)
      ·exact ha h.1
      ·exact hb h.1
      ·exact h.2 hn1
      ·exact absurd h.2 (by rw [hz];decide)))
     have HO2:=Hd hd
     have hd1:(o==1)=false:=by simpa using hd
     have hd2:(o != 1)=true:=by simpa using hd
     clear ha hr hb hn1 hd
     subst hc hz
     go_enter Tryz.func11,Tryz.ntmps11
     go_wp2_with fail
     refine (fields_ref o _ H30.out).mono ?_
     rintro e w1 ⟨rfl,rfl⟩
     rw [HRA.out,HUB.out,HNM.out]
     go_wp2_with ((with_reducible show wpList _ _ _ (⟨some 56,_,_,_,_,_⟩::_) _ _);refine wpList_load_mid_g' ?hw 39 _ rfl w.heap.size (0+4) rfl vs _ V0.out.range Tryz.underlying39 rfl hl.out ?_;case hw=>kernel_rfl)
     refine (zero_ref x.val _ B N vs (HV.out.below (H0.out.mono hB))).mono ?_
     rintro e w2 ⟨rfl,hb2⟩
     rw [HZZ.out]
     have H2:=Hd (belowThen H0.out hb2)
     have R2:=Hd (R0.out.then hb2 (by rw [HS.out];omega))
     have V2:=Hd (V0.out.then hb2 (by rw [HS.out];omega))
     have hs2:w.heap.size<w2.heap.size:=by have:=hb2.size;rw [HS.out] at this;omega
     have d0:=R2.out.get0 z0
     have d1:=R2.out.get0 z1
     have d2:=R2.out.get0 z2
     have d3:=R2.out.get0 z3
     clear hb2
     go_wp2_with fail
     refine (right_ref ra x.a n _ (by have h:=refA_kinds o;rw [HRA.out] at h;exact h)).mono ?_
     rintro e w1 ⟨rfl,rfl⟩
     obtain ⟨b1,hw1⟩:∃ b,withB ua x.a n=b:=⟨_,rfl⟩
     have HW1:=Hd hw1
     rw [show withR ra x.a n=b1 by rw [← HRA.out,withR_eq,HUA.out];exact hw1]
     clear hw1
     cases b1 with
     | false =>
       have HR:=Hd (show insE x n=2 by rw [HQ.out,if_pos (.inl HW1.out)])
       go_wp2_with fail
       go_ret
       exact int_ret HR.out H2.out
     | true =>
       go_wp2_with fail
       refine (right_ref ub x.b n _ (by have h:=useB_kinds o;rw [HUB.out] at h;omega)).mono ?_
       rintro e w1 ⟨rfl,rfl⟩
       obtain ⟨b2,hw2⟩:∃ b,withB ub x.b n=b:=⟨_,rfl⟩
       have HW2:=Hd hw2
       rw [show withR ub x.b n=b2 by unfold withR;rw [if_neg (by have h:=useB_kinds o;rw [HUB.out] at h;omega)];exact hw2]
       clear hw2
       cases b2 with
       | false =>
         have HR:=Hd (show insE x n=2 by rw [HQ.out,if_pos (.inr HW2.out)])
         go_wp2_with fail
         go_ret
         exact int_ret HR.out H2.out
       | true =>
         have HR0:=Hd (show insE x n=nameE x by rw [HQ.out,if_neg (by rw [HW1.out,HW2.out];simp),if_neg HO2.out])
         go_wp2_with ((with_reducible show wpList _ _ _ (⟨some 81,_,_,_,_,_⟩::_) _ _);refine wpList_load_mid rfl 41 _ rfl w.heap.size 0 rfl cs _ R2.out.range Tryz.underlying41 rfl hli.out ?_)
         refine (named_ref x _ B N cs (by omega) (HA.out.below H2.out) (HX.out.below (H2.out.mono hB))).mono ?_
         rintro e w3 ⟨rfl,hb3⟩
         have H3:=Hd (belowThen H2.out hb3)
         have R3:=Hd (R2.out.then hb3 (by have:=hs2;omega))
         have hs3:w.heap.size<w3.heap.size:=Nat.lt_of_lt_of_le hs2 hb3.size
         have e3:=R3.out.get0 z3
         obtain ⟨b,hb⟩:∃ b,namB x=b:=⟨_,rfl⟩
         have HBB:=Hd hb
         rw [hb]
         clear hb3 hb
         cases b with
         | false =>
           have HR:=Hd (show insE x n=16 by rw [HR0.out,nameE_ref,if_pos HBB.out])
           go_wp2_with fail
           go_ret
           exact int_ret HR.out H3.out
         | true =>
           go_wp2_with fail
           refine (arity_ref x.name _ (HA.out.below H3.out)).mono ?_
           rintro e w4 ⟨rfl,hb4⟩
           have H4:=Hd (belowThen H3.out hb4)
           have R4:=Hd (R3.out.then hb4 hs3)
           have f0:=R4.out.get0 z0
           have f1:=R4.out.get0 z1
           obtain ⟨m,hm⟩:∃ m,ariN x.name.toList=m:=⟨_,rfl⟩
           obtain ⟨b2,hb2⟩:∃ b,ariB x.name.toList=b:=⟨_,rfl⟩
           have HMM:=Hd hm
           rw [hm,hb2]
           clear hb4 hm hb2
           by_cases h13:o=13
           ·have j1:(o==13)=true:=by simpa using h13
            by_cases hq:m=x.a
            ·have HR:=Hd (show insE x n=0 by rw [HR0.out,nameE_ref,if_neg (by rw [HBB.out];simp),HMM.out,if_neg (by intro h;exact h.2 hq)])
             have q1:(m==x.a)=true:=by simpa using hq
             have q2:(m != x.a)=false:=by simpa using hq
             clear hq h13
             go_wp2_with fail
             go_ret
             exact int_ret HR.out H4.out
            ·have HR:=Hd (show insE x n=17 by rw [HR0.out,nameE_ref,if_neg (by rw [HBB.out];simp),HMM.out,HO.out,if_pos ⟨h13,hq⟩])
             have q1:(m==x.a)=false:=by simpa using hq
             have q2:(m != x.a)=true:=by simpa using hq
             clear hq h13
             go_wp2_with fail
             go_ret
             exact int_ret HR.out H4.out
           ·have j1:(o==13)=false:=by simpa using h13
            have HR:=Hd (show insE x n=0 by rw [HR0.out,nameE_ref,if_neg (by rw [HBB.out];simp),HO.out,if_neg (by intro h;exact h13 h.1)])
            clear h13
            go_wp2_with fail
            go_ret
            exact int_ret HR.out H4.out
  ·have hb1:(ub==0)=true:=by simpa using hb
   have hb2:(ub != 0)=false:=by simpa using hb
   have hy11:(x.b==0)=true:=by simpa using hy1
   have hy12:(x.b != 0)=false:=by simpa using hy1
   rcases hC3 with ⟨hc,hn1⟩ | hc | ⟨hc,hn1⟩
   ·have HR:=Hd (HBAD.out (.inr (.inr (.inl ⟨hc,hn1⟩))))
    have hn2:¬ x.name.toList=[]:=ne_toList (by omega)
    clear ha hr hb hy1 hn1 hD3
    subst hc
    go_enter Tryz.func11,Tryz.ntmps11
    go_wp2_with fail
    refine (fields_ref o _ H30.out).mono ?_
    rintro e w1 ⟨rfl,rfl⟩
    rw [HRA.out,HUB.out,HNM.out]
    go_wp2_with fail
    go_ret
    exact int_ret HR.out H0.out
   ·rcases hD3 with ⟨hd,hz⟩ | hd | ⟨hd,hz⟩
    ·have HR:=Hd (HBAD.out (.inr (.inr (.inr ⟨hd,hz⟩))))
     have hd1:(o==1)=false:=by simpa using hd
     have hd2:(o != 1)=true:=by simpa using hd
     clear ha hr hb hy1 hd
     subst hc hz
     go_enter Tryz.func11,Tryz.ntmps11
     go_wp2_with fail
     refine (fields_ref o _ H30.out).mono ?_
     rintro e w1 ⟨rfl,rfl⟩
     rw [HRA.out,HUB.out,HNM.out]
     go_wp2_with ((with_reducible show wpList _ _ _ (⟨some 56,_,_,_,_,_⟩::_) _ _);refine wpList_load_mid_g' ?hw 39 _ rfl w.heap.size (0+4) rfl vs _ V0.out.range Tryz.underlying39 rfl hl.out ?_;case hw=>kernel_rfl)
     refine (zero_ref x.val _ B N vs (HV.out.below (H0.out.mono hB))).mono ?_
     rintro e w2 ⟨rfl,hb2⟩
     rw [HZZ.out]
     have H2:=Hd (belowThen H0.out hb2)
     have R2:=Hd (R0.out.then hb2 (by rw [HS.out];omega))
     have V2:=Hd (V0.out.then hb2 (by rw [HS.out];omega))
     have hs2:w.heap.size<w2.heap.size:=by have:=hb2.size;rw [HS.out] at this;omega
     have d0:=R2.out.get0 z0
     have d1:=R2.out.get0 z1
     have d2:=R2.out.get0 z2
     have d3:=R2.out.get0 z3
     clear hb2
     go_wp2_with fail
     go_ret
     exact int_ret HR.out H2.out
    ·exact absurd (HO1.out hd).1 (by exact ha)
    ·have HQ:=Hd (HOK.out (by
      rintro (h | h | h | h)
      ·exact ha h.1
      ·exact h.2 hy1
      ·exact absurd h.1 (by rw [hc];decide)
      ·exact absurd h.2 (by rw [hz];decide)))
     have HNB2:=Hd (show badI x=false by
      unfold badI
      rw [HO.out,HUA.out,HUB.out,HNM.out,HZZ.out]
      exact decide_eq_false (by
      rintro (h | h | h | h)
      ·exact ha h.1
      ·exact h.2 hy1
      ·exact absurd h.1 (by rw [hc];decide)
      ·exact absurd h.2 (by rw [hz];decide)))
     have HO2:=Hd hd
     have hd1:(o==1)=false:=by simpa using hd
     have hd2:(o != 1)=true:=by simpa using hd
     clear ha hr hb hy1 hd
     subst hc hz
     go_enter Tryz.func11,Tryz.ntmps11
     go_wp2_with fail
     refine (fields_ref o _ H30.out).mono ?_
     rintro e w1 ⟨rfl,rfl⟩
     rw [HRA.out,HUB.out,HNM.out]
     go_wp2_with ((with_reducible show wpList _ _ _ (⟨some 56,_,_,_,_,_⟩::_) _ _);refine wpList_load_mid_g' ?hw 39 _ rfl w.heap.size (0+4) rfl vs _ V0.out.range Tryz.underlying39 rfl hl.out ?_;case hw=>kernel_rfl)
     refine (zero_ref x.val _ B N vs (HV.out.below (H0.out.mono hB))).mono ?_
     rintro e w2 ⟨rfl,hb2⟩
     rw [HZZ.out]
     have H2:=Hd (belowThen H0.out hb2)
     have R2:=Hd (R0.out.then hb2 (by rw [HS.out];omega))
     have V2:=Hd (V0.out.then hb2 (by rw [HS.out];omega))
     have hs2:w.heap.size<w2.heap.size:=by have:=hb2.size;rw [HS.out] at this;omega
     have d0:=R2.out.get0 z0
     have d1:=R2.out.get0 z1
     have d2:=R2.out.get0 z2
     have d3:=R2.out.get0 z3
     clear hb2
     go_wp2_with fail
     refine (right_ref ra x.a n _ (by have h:=refA_kinds o;rw [HRA.out] at h;exact h)).mono ?_
     rintro e w1 ⟨rfl,rfl⟩
     obtain ⟨b1,hw1⟩:∃ b,withB ua x.a n=b:=⟨_,rfl⟩
     have HW1:=Hd hw1
     rw [show withR ra x.a n=b1 by rw [← HRA.out,withR_eq,HUA.out];exact hw1]
     clear hw1
     cases b1 with
     | false =>
       have HR:=Hd (show insE x n=2 by rw [HQ.out,if_pos (.inl HW1.out)])
       go_wp2_with fail
       go_ret
       exact int_ret HR.out H2.out
     | true =>
       go_wp2_with fail
       refine (right_ref ub x.b n _ (by have h:=useB_kinds o;rw [HUB.out] at h;omega)).mono ?_
       rintro e w1 ⟨rfl,rfl⟩
       obtain ⟨b2,hw2⟩:∃ b,withB ub x.b n=b:=⟨_,rfl⟩
       have HW2:=Hd hw2
       rw [show withR ub x.b n=b2 by unfold withR;rw [if_neg (by have h:=useB_kinds o;rw [HUB.out] at h;omega)];exact hw2]
       clear hw2
       cases b2 with
       | false =>
         have HR:=Hd (show insE x n=2 by rw [HQ.out,if_pos (.inr HW2.out)])
         go_wp2_with fail
         go_ret
         exact int_ret HR.out H2.out
       | true =>
         have HR0:=Hd (show insE x n=nameE x by rw [HQ.out,if_neg (by rw [HW1.out,HW2.out];simp),if_neg HO2.out])
         go_wp2_with ((with_reducible show wpList _ _ _ (⟨some 81,_,_,_,_,_⟩::_) _ _);refine wpList_load_mid rfl 41 _ rfl w.heap.size 0 rfl cs _ R2.out.range Tryz.underlying41 rfl hli.out ?_)
         refine (named_ref x _ B N cs (by omega) (HA.out.below H2.out) (HX.out.below (H2.out.mono hB))).mono ?_
         rintro e w3 ⟨rfl,hb3⟩
         have H3:=Hd (belowThen H2.out hb3)
         have R3:=Hd (R2.out.then hb3 (by have:=hs2;omega))
         have hs3:w.heap.size<w3.heap.size:=Nat.lt_of_lt_of_le hs2 hb3.size
         have e3:=R3.out.get0 z3
         obtain ⟨b,hb⟩:∃ b,namB x=b:=⟨_,rfl⟩
         have HBB:=Hd hb
         rw [hb]
         clear hb3 hb
         cases b with
         | false =>
           have HR:=Hd (show insE x n=16 by rw [HR0.out,nameE_ref,if_pos HBB.out])
           go_wp2_with fail
           go_ret
           exact int_ret HR.out H3.out
         | true =>
           go_wp2_with fail
           refine (arity_ref x.name _ (HA.out.below H3.out)).mono ?_
           rintro e w4 ⟨rfl,hb4⟩
           have H4:=Hd (belowThen H3.out hb4)
           have R4:=Hd (R3.out.then hb4 hs3)
           have f0:=R4.out.get0 z0
           have f1:=R4.out.get0 z1
           obtain ⟨m,hm⟩:∃ m,ariN x.name.toList=m:=⟨_,rfl⟩
           obtain ⟨b2,hb2⟩:∃ b,ariB x.name.toList=b:=⟨_,rfl⟩
           have HMM:=Hd hm
           rw [hm,hb2]
           clear hb4 hm hb2
           by_cases h13:o=13
           ·have j1:(o==13)=true:=by simpa using h13
            by_cases hq:m=x.a
            ·have HR:=Hd (show insE x n=0 by rw [HR0.out,nameE_ref,if_neg (by rw [HBB.out];simp),HMM.out,if_neg (by intro h;exact h.2 hq)])
             have q1:(m==x.a)=true:=by simpa using hq
             have q2:(m != x.a)=false:=by simpa using hq
             clear hq h13
             go_wp2_with fail
             go_ret
             exact int_ret HR.out H4.out
            ·have HR:=Hd (show insE x n=17 by rw [HR0.out,nameE_ref,if_neg (by rw [HBB.out];simp),HMM.out,HO.out,if_pos ⟨h13,hq⟩])
             have q1:(m==x.a)=false:=by simpa using hq
             have q2:(m != x.a)=true:=by simpa using hq
             clear hq h13
             go_wp2_with fail
             go_ret
             exact int_ret HR.out H4.out
           ·have j1:(o==13)=false:=by simpa using h13
            have HR:=Hd (show insE x n=0 by rw [HR0.out,nameE_ref,if_neg (by rw [HBB.out];simp),HO.out,if_neg (by intro h;exact h13 h.1)])
            clear h13
            go_wp2_with fail
            go_ret
            exact int_ret HR.out H4.out
   ·have hn2:x.name.toList=[]:=toList_nil hn1
    rcases hD3 with ⟨hd,hz⟩ | hd | ⟨hd,hz⟩
    ·have HR:=Hd (HBAD.out (.inr (.inr (.inr ⟨hd,hz⟩))))
     have hd1:(o==1)=false:=by simpa using hd
     have hd2:(o != 1)=true:=by simpa using hd
     clear ha hr hb hy1 hn1 hd
     subst hc hz
     go_enter Tryz.func11,Tryz.ntmps11
     go_wp2_with fail
     refine (fields_ref o _ H30.out).mono ?_
     rintro e w1 ⟨rfl,rfl⟩
     rw [HRA.out,HUB.out,HNM.out]
     go_wp2_with ((with_reducible show wpList _ _ _ (⟨some 56,_,_,_,_,_⟩::_) _ _);refine wpList_load_mid_g' ?hw 39 _ rfl w.heap.size (0+4) rfl vs _ V0.out.range Tryz.underlying39 rfl hl.out ?_;case hw=>kernel_rfl)
     refine (zero_ref x.val _ B N vs (HV.out.below (H0.out.mono hB))).mono ?_
     rintro e w2 ⟨rfl,hb2⟩
     rw [HZZ.out]
     have H2:=Hd (belowThen H0.out hb2)
     have R2:=Hd (R0.out.then hb2 (by rw [HS.out];omega))
     have V2:=Hd (V0.out.then hb2 (by rw [HS.out];omega))
     have hs2:w.heap.size<w2.heap.size:=by have:=hb2.size;rw [HS.out] at this;omega
     have d0:=R2.out.get0 z0
     have d1:=R2.out.get0 z1
     have d2:=R2.out.get0 z2
     have d3:=R2.out.get0 z3
     clear hb2
     go_wp2_with fail
     go_ret
     exact int_ret HR.out H2.out
    ·exact absurd (HO1.out hd).1 (by exact ha)
    ·have HQ:=Hd (HOK.out (by
      rintro (h | h | h | h)
      ·exact ha h.1
      ·exact h.2 hy1
      ·exact h.2 hn1
      ·exact absurd h.2 (by rw [hz];decide)))
     have HNB2:=Hd (show badI x=false by
      unfold badI
      rw [HO.out,HUA.out,HUB.out,HNM.out,HZZ.out]
      exact decide_eq_false (by
      rintro (h | h | h | h)
      ·exact ha h.1
      ·exact h.2 hy1
      ·exact h.2 hn1
      ·exact absurd h.2 (by rw [hz];decide)))
     have HO2:=Hd hd
     have hd1:(o==1)=false:=by simpa using hd
     have hd2:(o != 1)=true:=by simpa using hd
     clear ha hr hb hy1 hn1 hd
     subst hc hz
     go_enter Tryz.func11,Tryz.ntmps11
     go_wp2_with fail
     refine (fields_ref o _ H30.out).mono ?_
     rintro e w1 ⟨rfl,rfl⟩
     rw [HRA.out,HUB.out,HNM.out]
     go_wp2_with ((with_reducible show wpList _ _ _ (⟨some 56,_,_,_,_,_⟩::_) _ _);refine wpList_load_mid_g' ?hw 39 _ rfl w.heap.size (0+4) rfl vs _ V0.out.range Tryz.underlying39 rfl hl.out ?_;case hw=>kernel_rfl)
     refine (zero_ref x.val _ B N vs (HV.out.below (H0.out.mono hB))).mono ?_
     rintro e w2 ⟨rfl,hb2⟩
     rw [HZZ.out]
     have H2:=Hd (belowThen H0.out hb2)
     have R2:=Hd (R0.out.then hb2 (by rw [HS.out];omega))
     have V2:=Hd (V0.out.then hb2 (by rw [HS.out];omega))
     have hs2:w.heap.size<w2.heap.size:=by have:=hb2.size;rw [HS.out] at this;omega
     have d0:=R2.out.get0 z0
     have d1:=R2.out.get0 z1
     have d2:=R2.out.get0 z2
     have d3:=R2.out.get0 z3
     clear hb2
     go_wp2_with fail
     refine (right_ref ra x.a n _ (by have h:=refA_kinds o;rw [HRA.out] at h;exact h)).mono ?_
     rintro e w1 ⟨rfl,rfl⟩
     obtain ⟨b1,hw1⟩:∃ b,withB ua x.a n=b:=⟨_,rfl⟩
     have HW1:=Hd hw1
     rw [show withR ra x.a n=b1 by rw [← HRA.out,withR_eq,HUA.out];exact hw1]
     clear hw1
     cases b1 with
     | false =>
       have HR:=Hd (show insE x n=2 by rw [HQ.out,if_pos (.inl HW1.out)])
       go_wp2_with fail
       go_ret
       exact int_ret HR.out H2.out
     | true =>
       go_wp2_with fail
       refine (right_ref ub x.b n _ (by have h:=useB_kinds o;rw [HUB.out] at h;omega)).mono ?_
       rintro e w1 ⟨rfl,rfl⟩
       obtain ⟨b2,hw2⟩:∃ b,withB ub x.b n=b:=⟨_,rfl⟩
       have HW2:=Hd hw2
       rw [show withR ub x.b n=b2 by unfold withR;rw [if_neg (by have h:=useB_kinds o;rw [HUB.out] at h;omega)];exact hw2]
       clear hw2
       cases b2 with
       | false =>
         have HR:=Hd (show insE x n=2 by rw [HQ.out,if_pos (.inr HW2.out)])
         go_wp2_with fail
         go_ret
         exact int_ret HR.out H2.out
       | true =>
         have HR0:=Hd (show insE x n=nameE x by rw [HQ.out,if_neg (by rw [HW1.out,HW2.out];simp),if_neg HO2.out])
         go_wp2_with ((with_reducible show wpList _ _ _ (⟨some 81,_,_,_,_,_⟩::_) _ _);refine wpList_load_mid rfl 41 _ rfl w.heap.size 0 rfl cs _ R2.out.range Tryz.underlying41 rfl hli.out ?_)
         refine (named_ref x _ B N cs (by omega) (HA.out.below H2.out) (HX.out.below (H2.out.mono hB))).mono ?_
         rintro e w3 ⟨rfl,hb3⟩
         have H3:=Hd (belowThen H2.out hb3)
         have R3:=Hd (R2.out.then hb3 (by have:=hs2;omega))
         have hs3:w.heap.size<w3.heap.size:=Nat.lt_of_lt_of_le hs2 hb3.size
         have e3:=R3.out.get0 z3
         obtain ⟨b,hb⟩:∃ b,namB x=b:=⟨_,rfl⟩
         have HBB:=Hd hb
         rw [hb]
         clear hb3 hb
         cases b with
         | false =>
           have HR:=Hd (show insE x n=16 by rw [HR0.out,nameE_ref,if_pos HBB.out])
           go_wp2_with fail
           go_ret
           exact int_ret HR.out H3.out
         | true =>
           go_wp2_with fail
           refine (arity_ref x.name _ (HA.out.below H3.out)).mono ?_
           rintro e w4 ⟨rfl,hb4⟩
           have H4:=Hd (belowThen H3.out hb4)
           have R4:=Hd (R3.out.then hb4 hs3)
           have f0:=R4.out.get0 z0
           have f1:=R4.out.get0 z1
           obtain ⟨m,hm⟩:∃ m,ariN x.name.toList=m:=⟨_,rfl⟩
           obtain ⟨b2,hb2⟩:∃ b,ariB x.name.toList=b:=⟨_,rfl⟩
           have HMM:=Hd hm
           rw [hm,hb2]
           clear hb4 hm hb2
           by_cases h13:o=13
           ·have j1:(o==13)=true:=by simpa using h13
            by_cases hq:m=x.a
            ·have HR:=Hd (show insE x n=0 by rw [HR0.out,nameE_ref,if_neg (by rw [HBB.out];simp),HMM.out,if_neg (by intro h;exact h.2 hq)])
             have q1:(m==x.a)=true:=by simpa using hq
             have q2:(m != x.a)=false:=by simpa using hq
             clear hq h13
             go_wp2_with fail
             go_ret
             exact int_ret HR.out H4.out
            ·have HR:=Hd (show insE x n=17 by rw [HR0.out,nameE_ref,if_neg (by rw [HBB.out];simp),HMM.out,HO.out,if_pos ⟨h13,hq⟩])
             have q1:(m==x.a)=false:=by simpa using hq
             have q2:(m != x.a)=true:=by simpa using hq
             clear hq h13
             go_wp2_with fail
             go_ret
             exact int_ret HR.out H4.out
           ·have j1:(o==13)=false:=by simpa using h13
            have HR:=Hd (show insE x n=0 by rw [HR0.out,nameE_ref,if_neg (by rw [HBB.out];simp),HO.out,if_neg (by intro h;exact h13 h.1)])
            clear h13
            go_wp2_with fail
            go_ret
            exact int_ret HR.out H4.out
 ·have hr:ra=0:=HRU.out.1 ha
  have hr1:(ra==0)=true:=by simpa using hr
  have hr2:(ra != 0)=false:=by simpa using hr
  have hx11:(x.a==0)=true:=by simpa using hx1
  have hx12:(x.a != 0)=false:=by simpa using hx1
  rcases hB3 with ⟨hb,hy1⟩ | hb | ⟨hb,hy1⟩
  ·have HR:=Hd (HBAD.out (.inr (.inl ⟨hb,hy1⟩)))
   have hb1:(ub==0)=true:=by simpa using hb
   have hb2:(ub != 0)=false:=by simpa using hb
   have hy11:(x.b==0)=false:=by simpa using hy1
   have hy12:(x.b != 0)=true:=by simpa using hy1
   clear ha hx1 hr hb hy1 hC3 hD3
   go_enter Tryz.func11,Tryz.ntmps11
   go_wp2_with fail
   refine (fields_ref o _ H30.out).mono ?_
   rintro e w1 ⟨rfl,rfl⟩
   rw [HRA.out,HUB.out,HNM.out]
   go_wp2_with fail
   go_ret
   exact int_ret HR.out H0.out
  ·exact absurd ha (HBA.out hb)
  ·have hb1:(ub==0)=true:=by simpa using hb
   have hb2:(ub != 0)=false:=by simpa using hb
   have hy11:(x.b==0)=true:=by simpa using hy1
   have hy12:(x.b != 0)=false:=by simpa using hy1
   rcases hC3 with ⟨hc,hn1⟩ | hc | ⟨hc,hn1⟩
   ·have HR:=Hd (HBAD.out (.inr (.inr (.inl ⟨hc,hn1⟩))))
    have hn2:¬ x.name.toList=[]:=ne_toList (by omega)
    clear ha hx1 hr hb hy1 hn1 hD3
    subst hc
    go_enter Tryz.func11,Tryz.ntmps11
    go_wp2_with fail
    refine (fields_ref o _ H30.out).mono ?_
    rintro e w1 ⟨rfl,rfl⟩
    rw [HRA.out,HUB.out,HNM.out]
    go_wp2_with fail
    go_ret
    exact int_ret HR.out H0.out
   ·rcases hD3 with ⟨hd,hz⟩ | hd | ⟨hd,hz⟩
    ·have HR:=Hd (HBAD.out (.inr (.inr (.inr ⟨hd,hz⟩))))
     have hd1:(o==1)=false:=by simpa using hd
     have hd2:(o != 1)=true:=by simpa using hd
     clear ha hx1 hr hb hy1 hd
     subst hc hz
     go_enter Tryz.func11,Tryz.ntmps11
     go_wp2_with fail
     refine (fields_ref o _ H30.out).mono ?_
     rintro e w1 ⟨rfl,rfl⟩
     rw [HRA.out,HUB.out,HNM.out]
     go_wp2_with ((with_reducible show wpList _ _ _ (⟨some 56,_,_,_,_,_⟩::_) _ _);refine wpList_load_mid_g' ?hw 39 _ rfl w.heap.size (0+4) rfl vs _ V0.out.range Tryz.underlying39 rfl hl.out ?_;case hw=>kernel_rfl)
     refine (zero_ref x.val _ B N vs (HV.out.below (H0.out.mono hB))).mono ?_
     rintro e w2 ⟨rfl,hb2⟩
     rw [HZZ.out]
     have H2:=Hd (belowThen H0.out hb2)
     have R2:=Hd (R0.out.then hb2 (by rw [HS.out];omega))
     have V2:=Hd (V0.out.then hb2 (by rw [HS.out];omega))
     have hs2:w.heap.size<w2.heap.size:=by have:=hb2.size;rw [HS.out] at this;omega
     have d0:=R2.out.get0 z0
     have d1:=R2.out.get0 z1
     have d2:=R2.out.get0 z2
     have d3:=R2.out.get0 z3
     clear hb2
     go_wp2_with fail
     go_ret
     exact int_ret HR.out H2.out
    ·exact absurd (HO1.out hd).2 (by rw [hc];decide)
    ·have HQ:=Hd (HOK.out (by
      rintro (h | h | h | h)
      ·exact h.2 hx1
      ·exact h.2 hy1
      ·exact absurd h.1 (by rw [hc];decide)
      ·exact absurd h.2 (by rw [hz];decide)))
     have HNB2:=Hd (show badI x=false by
      unfold badI
      rw [HO.out,HUA.out,HUB.out,HNM.out,HZZ.out]
      exact decide_eq_false (by
      rintro (h | h | h | h)
      ·exact h.2 hx1
      ·exact h.2 hy1
      ·exact absurd h.1 (by rw [hc];decide)
      ·exact absurd h.2 (by rw [hz];decide)))
     have HO2:=Hd hd
     have hd1:(o==1)=false:=by simpa using hd
     have hd2:(o != 1)=true:=by simpa using hd
     clear ha hx1 hr hb hy1 hd
     subst hc hz
     go_enter Tryz.func11,Tryz.ntmps11
     go_wp2_with fail
     refine (fields_ref o _ H30.out).mono ?_
     rintro e w1 ⟨rfl,rfl⟩
     rw [HRA.out,HUB.out,HNM.out]
     go_wp2_with ((with_reducible show wpList _ _ _ (⟨some 56,_,_,_,_,_⟩::_) _ _);refine wpList_load_mid_g' ?hw 39 _ rfl w.heap.size (0+4) rfl vs _ V0.out.range Tryz.underlying39 rfl hl.out ?_;case hw=>kernel_rfl)
     refine (zero_ref x.val _ B N vs (HV.out.below (H0.out.mono hB))).mono ?_
     rintro e w2 ⟨rfl,hb2⟩
     rw [HZZ.out]
     have H2:=Hd (belowThen H0.out hb2)
     have R2:=Hd (R0.out.then hb2 (by rw [HS.out];omega))
     have V2:=Hd (V0.out.then hb2 (by rw [HS.out];omega))
     have hs2:w.heap.size<w2.heap.size:=by have:=hb2.size;rw [HS.out] at this;omega
     have d0:=R2.out.get0 z0
     have d1:=R2.out.get0 z1
     have d2:=R2.out.get0 z2
     have d3:=R2.out.get0 z3
     clear hb2
     go_wp2_with fail
     refine (right_ref ra x.a n _ (by have h:=refA_kinds o;rw [HRA.out] at h;exact h)).mono ?_
     rintro e w1 ⟨rfl,rfl⟩
     obtain ⟨b1,hw1⟩:∃ b,withB ua x.a n=b:=⟨_,rfl⟩
     have HW1:=Hd hw1
     rw [show withR ra x.a n=b1 by rw [← HRA.out,withR_eq,HUA.out];exact hw1]
     clear hw1
     cases b1 with
     | false =>
       have HR:=Hd (show insE x n=2 by rw [HQ.out,if_pos (.inl HW1.out)])
       go_wp2_with fail
       go_ret
       exact int_ret HR.out H2.out
     | true =>
       go_wp2_with fail
       refine (right_ref ub x.b n _ (by have h:=useB_kinds o;rw [HUB.out] at h;omega)).mono ?_
       rintro e w1 ⟨rfl,rfl⟩
       obtain ⟨b2,hw2⟩:∃ b,withB ub x.b n=b:=⟨_,rfl⟩
       have HW2:=Hd hw2
       rw [show withR ub x.b n=b2 by unfold withR;rw [if_neg (by have h:=useB_kinds o;rw [HUB.out] at h;omega)];exact hw2]
       clear hw2
       cases b2 with
       | false =>
         have HR:=Hd (show insE x n=2 by rw [HQ.out,if_pos (.inr HW2.out)])
         go_wp2_with fail
         go_ret
         exact int_ret HR.out H2.out
       | true =>
         have HR0:=Hd (show insE x n=nameE x by rw [HQ.out,if_neg (by rw [HW1.out,HW2.out];simp),if_neg HO2.out])
         go_wp2_with ((with_reducible show wpList _ _ _ (⟨some 81,_,_,_,_,_⟩::_) _ _);refine wpList_load_mid rfl 41 _ rfl w.heap.size 0 rfl cs _ R2.out.range Tryz.underlying41 rfl hli.out ?_)
         refine (named_ref x _ B N cs (by omega) (HA.out.below H2.out) (HX.out.below (H2.out.mono hB))).mono ?_
         rintro e w3 ⟨rfl,hb3⟩
         have H3:=Hd (belowThen H2.out hb3)
         have R3:=Hd (R2.out.then hb3 (by have:=hs2;omega))
         have hs3:w.heap.size<w3.heap.size:=Nat.lt_of_lt_of_le hs2 hb3.size
         have e3:=R3.out.get0 z3
         obtain ⟨b,hb⟩:∃ b,namB x=b:=⟨_,rfl⟩
         have HBB:=Hd hb
         rw [hb]
         clear hb3 hb
         cases b with
         | false =>
           have HR:=Hd (show insE x n=16 by rw [HR0.out,nameE_ref,if_pos HBB.out])
           go_wp2_with fail
           go_ret
           exact int_ret HR.out H3.out
         | true =>
           go_wp2_with fail
           refine (arity_ref x.name _ (HA.out.below H3.out)).mono ?_
           rintro e w4 ⟨rfl,hb4⟩
           have H4:=Hd (belowThen H3.out hb4)
           have R4:=Hd (R3.out.then hb4 hs3)
           have f0:=R4.out.get0 z0
           have f1:=R4.out.get0 z1
           obtain ⟨m,hm⟩:∃ m,ariN x.name.toList=m:=⟨_,rfl⟩
           obtain ⟨b2,hb2⟩:∃ b,ariB x.name.toList=b:=⟨_,rfl⟩
           have HMM:=Hd hm
           rw [hm,hb2]
           clear hb4 hm hb2
           by_cases h13:o=13
           ·have j1:(o==13)=true:=by simpa using h13
            by_cases hq:m=x.a
            ·have HR:=Hd (show insE x n=0 by rw [HR0.out,nameE_ref,if_neg (by rw [HBB.out];simp),HMM.out,if_neg (by intro h;exact h.2 hq)])
             have q1:(m==x.a)=true:=by simpa using hq
             have q2:(m != x.a)=false:=by simpa using hq
             clear hq h13
             go_wp2_with fail
             go_ret
             exact int_ret HR.out H4.out
            ·have HR:=Hd (show insE x n=17 by rw [HR0.out,nameE_ref,if_neg (by rw [HBB.out];simp),HMM.out,HO.out,if_pos ⟨h13,hq⟩])
             have q1:(m==x.a)=false:=by simpa using hq
             have q2:(m != x.a)=true:=by simpa using hq
             clear hq h13
             go_wp2_with fail
             go_ret
             exact int_ret HR.out H4.out
           ·have j1:(o==13)=false:=by simpa using h13
            have HR:=Hd (show insE x n=0 by rw [HR0.out,nameE_ref,if_neg (by rw [HBB.out];simp),HO.out,if_neg (by intro h;exact h13 h.1)])
            clear h13
            go_wp2_with fail
            go_ret
            exact int_ret HR.out H4.out
   ·have hn2:x.name.toList=[]:=toList_nil hn1
    rcases hD3 with ⟨hd,hz⟩ | hd | ⟨hd,hz⟩
    ·have HR:=Hd (HBAD.out (.inr (.inr (.inr ⟨hd,hz⟩))))
     have hd1:(o==1)=false:=by simpa using hd
     have hd2:(o != 1)=true:=by simpa using hd
     clear ha hx1 hr hb hy1 hn1 hd
     subst hc hz
     go_enter Tryz.func11,Tryz.ntmps11
     go_wp2_with fail
     refine (fields_ref o _ H30.out).mono ?_
     rintro e w1 ⟨rfl,rfl⟩
     rw [HRA.out,HUB.out,HNM.out]
     go_wp2_with ((with_reducible show wpList _ _ _ (⟨some 56,_,_,_,_,_⟩::_) _ _);refine wpList_load_mid_g' ?hw 39 _ rfl w.heap.size (0+4) rfl vs _ V0.out.range Tryz.underlying39 rfl hl.out ?_;case hw=>kernel_rfl)
     refine (zero_ref x.val _ B N vs (HV.out.below (H0.out.mono hB))).mono ?_
     rintro e w2 ⟨rfl,hb2⟩
     rw [HZZ.out]
     have H2:=Hd (belowThen H0.out hb2)
     have R2:=Hd (R0.out.then hb2 (by rw [HS.out];omega))
     have V2:=Hd (V0.out.then hb2 (by rw [HS.out];omega))
     have hs2:w.heap.size<w2.heap.size:=by have:=hb2.size;rw [HS.out] at this;omega
     have d0:=R2.out.get0 z0
     have d1:=R2.out.get0 z1
     have d2:=R2.out.get0 z2
     have d3:=R2.out.get0 z3
     clear hb2
     go_wp2_with fail
     go_ret
     exact int_ret HR.out H2.out
    ·have HQ:=Hd (HOK.out (by
      rintro (h | h | h | h)
      ·exact h.2 hx1
      ·exact h.2 hy1
      ·exact h.2 hn1
      ·exact h.1 hd))
     have HNB2:=Hd (show badI x=false by
      unfold badI
      rw [HO.out,HUA.out,HUB.out,HNM.out,HZZ.out]
      exact decide_eq_false (by
      rintro (h | h | h | h)
      ·exact h.2 hx1
      ·exact h.2 hy1
      ·exact h.2 hn1
      ·exact h.1 hd))
     have HO2:=Hd hd
     have hd1:(o==1)=true:=by simpa using hd
     have hd2:(o != 1)=false:=by simpa using hd
     clear ha hx1 hr hb hy1 hn1 hd
     subst hc
     go_enter Tryz.func11,Tryz.ntmps11
     go_wp2_with fail
     refine (fields_ref o _ H30.out).mono ?_
     rintro e w1 ⟨rfl,rfl⟩
     rw [HRA.out,HUB.out,HNM.out]
     have H2:=H0
     have R2:=R0
     have V2:=V0
     have hs2:w.heap.size<(w.alloc (.cells cs.toArray 41)).heap.size:=by rw [HS.out];omega
     go_wp2_with fail
     refine (right_ref ra x.a n _ (by have h:=refA_kinds o;rw [HRA.out] at h;exact h)).mono ?_
     rintro e w1 ⟨rfl,rfl⟩
     obtain ⟨b1,hw1⟩:∃ b,withB ua x.a n=b:=⟨_,rfl⟩
     have HW1:=Hd hw1
     rw [show withR ra x.a n=b1 by rw [← HRA.out,withR_eq,HUA.out];exact hw1]
     clear hw1
     cases b1 with
     | false =>
       have HR:=Hd (show insE x n=2 by rw [HQ.out,if_pos (.inl HW1.out)])
       go_wp2_with fail
       go_ret
       exact int_ret HR.out H2.out
     | true =>
       go_wp2_with fail
       refine (right_ref ub x.b n _ (by have h:=useB_kinds o;rw [HUB.out] at h;omega)).mono ?_
       rintro e w1 ⟨rfl,rfl⟩
       obtain ⟨b2,hw2⟩:∃ b,withB ub x.b n=b:=⟨_,rfl⟩
       have HW2:=Hd hw2
       rw [show withR ub x.b n=b2 by unfold withR;rw [if_neg (by have h:=useB_kinds o;rw [HUB.out] at h;omega)];exact hw2]
       clear hw2
       cases b2 with
       | false =>
         have HR:=Hd (show insE x n=2 by rw [HQ.out,if_pos (.inr HW2.out)])
         go_wp2_with fail
         go_ret
         exact int_ret HR.out H2.out
       | true =>
         have HR:=Hd (show insE x n=chkD x.val by rw [HQ.out,if_neg (by rw [HW1.out,HW2.out];simp),if_pos HO2.out])
         go_wp2_with ((with_reducible show wpList _ _ _ (⟨some 79,_,_,_,_,_⟩::_) _ _);refine wpList_load_mid rfl 39 _ rfl w.heap.size (0+4) rfl vs _ V2.out.range Tryz.underlying39 rfl hl.out ?_)
         refine (check07_exact x.val _ B N vs hN (Nat.le_trans hB H2.out.size) (HV.out.below (H2.out.mono hB))).mono ?_
         rintro e w3 ⟨rfl,hb3⟩
         have H3:=Hd (belowThen H2.out hb3)
         obtain ⟨k,hk⟩:∃ k,chkD x.val=k:=⟨_,rfl⟩
         rw [hk] at HR ⊢
         clear hb3 hk
         go_wp2_with fail
         go_ret
         exact int_ret HR.out H3.out
    ·have HQ:=Hd (HOK.out (by
      rintro (h | h | h | h)
      ·exact h.2 hx1
      ·exact h.2 hy1
      ·exact h.2 hn1
      ·exact absurd h.2 (by rw [hz];decide)))
     have HNB2:=Hd (show badI x=false by
      unfold badI
      rw [HO.out,HUA.out,HUB.out,HNM.out,HZZ.out]
      exact decide_eq_false (by
      rintro (h | h | h | h)
      ·exact h.2 hx1
      ·exact h.2 hy1
      ·exact h.2 hn1
      ·exact absurd h.2 (by rw [hz];decide)))
     have HO2:=Hd hd
     have hd1:(o==1)=false:=by simpa using hd
     have hd2:(o != 1)=true:=by simpa using hd
     clear ha hx1 hr hb hy1 hn1 hd
     subst hc hz
     go_enter Tryz.func11,Tryz.ntmps11
     go_wp2_with fail
     refine (fields_ref o _ H30.out).mono ?_
     rintro e w1 ⟨rfl,rfl⟩
     rw [HRA.out,HUB.out,HNM.out]
     go_wp2_with ((with_reducible show wpList _ _ _ (⟨some 56,_,_,_,_,_⟩::_) _ _);refine wpList_load_mid_g' ?hw 39 _ rfl w.heap.size (0+4) rfl vs _ V0.out.range Tryz.underlying39 rfl hl.out ?_;case hw=>kernel_rfl)
     refine (zero_ref x.val _ B N vs (HV.out.below (H0.out.mono hB))).mono ?_
     rintro e w2 ⟨rfl,hb2⟩
     rw [HZZ.out]
     have H2:=Hd (belowThen H0.out hb2)
     have R2:=Hd (R0.out.then hb2 (by rw [HS.out];omega))
     have V2:=Hd (V0.out.then hb2 (by rw [HS.out];omega))
     have hs2:w.heap.size<w2.heap.size:=by have:=hb2.size;rw [HS.out] at this;omega
     have d0:=R2.out.get0 z0
     have d1:=R2.out.get0 z1
     have d2:=R2.out.get0 z2
     have d3:=R2.out.get0 z3
     clear hb2
     go_wp2_with fail
     refine (right_ref ra x.a n _ (by have h:=refA_kinds o;rw [HRA.out] at h;exact h)).mono ?_
     rintro e w1 ⟨rfl,rfl⟩
     obtain ⟨b1,hw1⟩:∃ b,withB ua x.a n=b:=⟨_,rfl⟩
     have HW1:=Hd hw1
     rw [show withR ra x.a n=b1 by rw [← HRA.out,withR_eq,HUA.out];exact hw1]
     clear hw1
     cases b1 with
     | false =>
       have HR:=Hd (show insE x n=2 by rw [HQ.out,if_pos (.inl HW1.out)])
       go_wp2_with fail
       go_ret
       exact int_ret HR.out H2.out
     | true =>
       go_wp2_with fail
       refine (right_ref ub x.b n _ (by have h:=useB_kinds o;rw [HUB.out] at h;omega)).mono ?_
       rintro e w1 ⟨rfl,rfl⟩
       obtain ⟨b2,hw2⟩:∃ b,withB ub x.b n=b:=⟨_,rfl⟩
       have HW2:=Hd hw2
       rw [show withR ub x.b n=b2 by unfold withR;rw [if_neg (by have h:=useB_kinds o;rw [HUB.out] at h;omega)];exact hw2]
       clear hw2
       cases b2 with
       | false =>
         have HR:=Hd (show insE x n=2 by rw [HQ.out,if_pos (.inr HW2.out)])
         go_wp2_with fail
         go_ret
         exact int_ret HR.out H2.out
       | true =>
         have HR0:=Hd (show insE x n=nameE x by rw [HQ.out,if_neg (by rw [HW1.out,HW2.out];simp),if_neg HO2.out])
         go_wp2_with ((with_reducible show wpList _ _ _ (⟨some 81,_,_,_,_,_⟩::_) _ _);refine wpList_load_mid rfl 41 _ rfl w.heap.size 0 rfl cs _ R2.out.range Tryz.underlying41 rfl hli.out ?_)
         refine (named_ref x _ B N cs (by omega) (HA.out.below H2.out) (HX.out.below (H2.out.mono hB))).mono ?_
         rintro e w3 ⟨rfl,hb3⟩
         have H3:=Hd (belowThen H2.out hb3)
         have R3:=Hd (R2.out.then hb3 (by have:=hs2;omega))
         have hs3:w.heap.size<w3.heap.size:=Nat.lt_of_lt_of_le hs2 hb3.size
         have e3:=R3.out.get0 z3
         obtain ⟨b,hb⟩:∃ b,namB x=b:=⟨_,rfl⟩
         have HBB:=Hd hb
         rw [hb]
         clear hb3 hb
         cases b with
         | false =>
           have HR:=Hd (show insE x n=16 by rw [HR0.out,nameE_ref,if_pos HBB.out])
           go_wp2_with fail
           go_ret
           exact int_ret HR.out H3.out
         | true =>
           go_wp2_with fail
           refine (arity_ref x.name _ (HA.out.below H3.out)).mono ?_
           rintro e w4 ⟨rfl,hb4⟩
           have H4:=Hd (belowThen H3.out hb4)
           have R4:=Hd (R3.out.then hb4 hs3)
           have f0:=R4.out.get0 z0
           have f1:=R4.out.get0 z1
           obtain ⟨m,hm⟩:∃ m,ariN x.name.toList=m:=⟨_,rfl⟩
           obtain ⟨b2,hb2⟩:∃ b,ariB x.name.toList=b:=⟨_,rfl⟩
           have HMM:=Hd hm
           rw [hm,hb2]
           clear hb4 hm hb2
           by_cases h13:o=13
           ·have j1:(o==13)=true:=by simpa using h13
            by_cases hq:m=x.a
            ·have HR:=Hd (show insE x n=0 by rw [HR0.out,nameE_ref,if_neg (by rw [HBB.out];simp),HMM.out,if_neg (by intro h;exact h.2 hq)])
             have q1:(m==x.a)=true:=by simpa using hq
             have q2:(m != x.a)=false:=by simpa using hq
             clear hq h13
             go_wp2_with fail
             go_ret
             exact int_ret HR.out H4.out
            ·have HR:=Hd (show insE x n=17 by rw [HR0.out,nameE_ref,if_neg (by rw [HBB.out];simp),HMM.out,HO.out,if_pos ⟨h13,hq⟩])
             have q1:(m==x.a)=false:=by simpa using hq
             have q2:(m != x.a)=true:=by simpa using hq
             clear hq h13
             go_wp2_with fail
             go_ret
             exact int_ret HR.out H4.out
           ·have j1:(o==13)=false:=by simpa using h13
            have HR:=Hd (show insE x n=0 by rw [HR0.out,nameE_ref,if_neg (by rw [HBB.out];simp),HO.out,if_neg (by intro h;exact h13 h.1)])
            clear h13
            go_wp2_with fail
            go_ret
            exact int_ret HR.out H4.out
end Go.Proofs.YtniljgkkcnekgaaGreatDoor
