/- qparse.shape: what it asks of a node, by class of operator (printed by gen36.py). -/
import Derived.Test.YtiefeajappjnbaaGreatDoorGA
import Derived.Test.YtiefeajappjnbaaGreatDoorGI
import Derived.Test.YtiefeajappjnbaaGreatDoorFrr36
import Derived.Test.YtiefeajappjnbaaGreatDoorGJ
import Derived.Deep.WholeRow
namespace Go.Proofs.YtiefeajappjnbaaGreatDoor
open Go.RowKit
set_option maxRecDepth 100000 in
set_option maxHeartbeats 64000000 in
set_option linter.unusedVariables false in
theorem q8 (m:Int) (s:Bool) (hk:KO m s) (hs:eG m=s) (h1:1≤m∧m≤29) (x:ag) (w:World) (B N:Nat) (cs:List Value) (hN:N≤1073741824) (hB:B≤w.heap.size) (he:ag.At w B N x cs) (ho:x.op=m) (hsm:x.args.length≤65536):Calls Tryz.prog 100 #[.agg cs.toArray] w (cq (bh x) w):=by
 obtain ⟨aa,fa,ac,fc,vs,hh⟩:=he.has
 have H0:=Hd (show Below w.heap.size w (w.alloc (.cells cs.toArray 34)) from af w _)
 have hvr:=Hd (show aj (w.alloc (.cells cs.toArray 34)) w.heap.size (0+2) vs from hh.valRange (aA w cs 34))
 have HV:=Hd hh.atVal
 have HA:=Hd hh.atArgs
 have hl:=Hd (show (Tryz.prog.info? 30).map (·.size)=some vs.length by rw [hh.atVal.len];exact bM)
 have hs0:=Hd (show w.heap.size<(w.alloc (.cells cs.toArray 34)).heap.size by rw [World.size_alloc];omega)
 have HX:=Hd (aA w cs 34)
 have hlen:x.args.length≤N:=hh.own.2.2.1
 have hflen:x.funcs.length≤N:=hh.own.2.2.2
 have c0:=hh.op
 have c1:=hh.name
 have c15:=hh.args
 have c16:=hh.funcs
 have HO:=Hd ho
 have HHS:=Hd hs
 have H1:=Hd (show 1≤x.op∧x.op≤29 by rw [ho];exact h1)
 have H30:=Hd (show 1≤m∧m≤30 by omega)
 have h11:=h1.1
 have h29:=h1.2
 rw [ho] at c0
 have HSM:=Hd hsm
 clear hh he ho hs hsm
 rcases hk with ⟨rfl,rfl⟩ | ⟨rfl,rfl⟩ | ⟨rfl,rfl⟩ | ⟨rfl,rfl⟩ | ⟨rfl,rfl⟩ | ⟨rfl,rfl⟩ | ⟨rfl,rfl⟩ | hc
 all_goals first
  | (obtain ⟨e3,e7,e12,e13,e21,e23,e25,n3,n23,n7⟩:=id hc
     have HC:=Hd hc
     clear hc h1)
  | clear h11 h29 h1
 all_goals
  go_enter Tryz.func100,Tryz.ntmps100
  go_wp2_with fail
  refine (tv _ x.args.length (by omega) _).mono ?_
  rintro e w1 ⟨rfl,heq⟩
  rw [← heq] at H0 hvr hs0 HX
  clear heq
  have b0:=HX.out.get0 c0
  have b15:=HX.out.get0 c15
  have b16:=HX.out.get0 c16
  generalize hv:aQ _ x.args.length=v
  have HCV:=Hd (show aQ x.op x.args.length=v by rw [HO.out];exact hv)
  clear hv
  cases v
  case false =>
   have HF:=Hd (jU HCV.out)
   go_wp2_with fail
   go_ret
   exact ⟨am HF.out.symm,H0.out⟩
  have HV1:=Hd (show ar.At w1 B N x.val vs from HV.out.below (H0.out.mono hB))
  have HVR:=Hd hvr.out.range
  go_wp2_with (refine aG rfl 30 _ rfl w.heap.size (0+2) rfl vs _ HVR.out Tryz.underlying30 rfl hl.out ?_)
  first
   | (have h3:=(show Hid (x.op=3) from HO)
      clear h3
      refine (C5 x.val _ B N vs HV1.out).mono ?_)
   | refine (vB x.val _ B N vs HV1.out).mono ?_
  rintro e2 w2 ⟨rfl,hb2⟩
  have HB2:=Hd hb2
  have d0:=(HX.out.then hb2 hs0.out).get0 c0
  have d15:=(HX.out.then hb2 hs0.out).get0 c15
  have d16:=(HX.out.then hb2 hs0.out).get0 c16
  clear hb2 b0 b15 b16
  first
   | (obtain ⟨z,hz⟩:∃ z,bj x.val=z:=⟨_,rfl⟩
      have HZ:=Hd hz
      rw [hz]
      clear hz)
   | (obtain ⟨z,hz⟩:∃ z,jo x.val=z:=⟨_,rfl⟩
      have HZ:=Hd hz
      rw [hz]
      clear hz)
  cases z
  case false =>
   first
    | have HF:=Hd (oB HO.out HZ.out)
    | have HF:=Hd (mN (by rw [HO.out];first | decide | exact HC.out.ne.1) HZ.out)
   go_wp2_with fail
   go_ret
   exact ⟨am HF.out.symm,ae H0.out HB2.out⟩
  by_cases hfu:0<x.funcs.length
  first
   | (have h:=(show Hid (x.op=23) from HO)
      clear h
      case neg =>
       have HF:=Hd (oD HO.out hfu)
       go_wp2_with fail
       go_ret
       exact ⟨am HF.out.symm,ae H0.out HB2.out⟩)
   | (case pos =>
       have HF:=Hd (oC (by rw [HO.out];first | decide | exact HC.out.ne.2.2.2.2.2.1) hfu)
       go_wp2_with fail
       go_ret
       exact ⟨am HF.out.symm,ae H0.out HB2.out⟩)
  have HFU:=Hd hfu
  go_wp2_with fail
  go_simp
  clear d0 d15 d16
  go_loopw [47] (fun i wr=>∃ (k:Nat),k≤x.args.length∧i=.int .i64 k∧(∀ j,j<k→mE x.op x.args j=true)∧Below w1.heap.size w1 wr) (fun i _=>x.args.length-(intOf i).toNat)
  case atStart=>exact ⟨0,by omega,rfl,fun j hj=>absurd hj (by omega),HB2.out⟩
  case round =>
   obtain ⟨k,hk,rfl,hall,hbel⟩:=hrel
   have HB:=Hd hbel
   have HALL:=Hd hall
   have RX:=Hd (HX.out.below HB.out hs0.out)
   have hsr:=Hd (Nat.lt_of_lt_of_le hs0.out HB.out.size)
   clear hbel hall
   by_cases hlt:k<x.args.length
   ·have HG:=Hd (qM x.op hlt)
    have HBA:=Hd (fun h=>jV (x:=x) hlt h)
    have hcp:=kE HCV.out
    have HOO:=Hd (zz hcp.1 hlt ⟨hcp.2.1,hcp.2.2.1,fun _=>HSM.out⟩)
    clear hcp
    obtain ⟨b,p,rfl,hb,hget⟩:=HA.out.get (by intro h;simp [h] at hlt)
    obtain ⟨es,g1,g2⟩:=hget k hlt
    have gb:=Nat.lt_of_lt_of_le hb (Nat.le_trans hB H0.out.size)
    have HR:=Hd (((g1.below H0.out (Nat.lt_of_lt_of_le hb hB))).below HB.out gb).range
    have HE:=Hd (((g2.below (H0.out.mono hB)).below (HB.out.mono (Nat.le_trans hB H0.out.size))).below ((af wr (.cells es.toArray 34)).mono (Nat.le_trans hB (Nat.le_trans H0.out.size HB.out.size))))
    have hle:=Hd (show (Tryz.prog.info? 34).map (·.size)=some es.length by rw [g2.len];exact ay)
    have hle2:=Hd (show (Tryz.prog.info? 34).map (·.size)=some es.toArray.size by rw [List.size_toArray,g2.len];exact ay)
    have h17:=Hd (show 17=es.toArray.size by rw [List.size_toArray,g2.len])
    have hone:=Hd (show es.toArray.all (·.oneCell')=true from Go.all_oneCell_toArray g2.one)
    obtain ⟨aa1,fa1,ac1,fc1,vs1,gh⟩:=g2.has
    have f0:=gh.op
    clear gh g1 g2 hget gb
    have HBX:=Hd (ae HB.out (af wr (.cells es.toArray 34)))
    have k0:=(RX.out.then (af wr (.cells es.toArray 34)) hsr.out).get0 c0
    by_cases hz:x.args[k].op=30
    ·have HZ3:=Hd hz
     rw [hz] at f0
     have r0:=(aA wr es 34).get0 f0
     clear hz
     go_wp2_with (first
      | ((with_reducible show wpList _ _ _ (⟨some 51,_,_,_,_,_⟩::_) _ _);refine aG rfl 34 _ rfl b (p+k * 17) rfl es _ HR.out Tryz.underlying34 rfl hle.out ?_)
      | ((with_reducible show wpList _ _ _ (⟨none,.store 34 (.tmp 4) _,_,_,_,_⟩::_) _ _);refine ak rfl 34 _ _ rfl _ es.toArray rfl rfl hle2.out h17.out hone.out ?_))
     refine (rg _ k _).mono ?_
     rintro e3 w3 ⟨rfl,rfl⟩
     generalize hq:uq _ k=q
     have HQ:=Hd (show decide (lS x.op≤k)=q by rw [← HOO.out];rw [HO.out];exact hq)
     clear hq
     cases q
     case false =>
      have HF:=Hd (HBA.out (by rw [HG.out,if_pos HZ3.out,HQ.out];rfl))
      go_wp2_with fail
      go_ret
      exact ⟨am HF.out.symm,ae H0.out HBX.out⟩
     go_wp2_with (refine aG rfl 34 _ rfl wr.heap.size 0 rfl es _ (aA wr es 34).range Tryz.underlying34 rfl hle.out ?_)
     refine (yH x.args[k] _ B N es (Nat.le_trans hB (Nat.le_trans H0.out.size HBX.out.size)) HE.out).mono ?_
     rintro e4 w4 ⟨rfl,hb4⟩
     have HB4:=Hd (ae HBX.out hb4)
     clear hb4
     obtain ⟨u,hu⟩:∃ u,dX x.args[k]=u:=⟨_,rfl⟩
     have HGV:=Hd (show mE x.op x.args k=u by rw [HG.out,if_pos HZ3.out,hu,HQ.out];simp)
     rw [hu]
     clear hu
     cases u with
     | true =>
       go_wp2_with fail
       go_roundw
       case rel=>exact ⟨k+1,by omega,by go_num,fun j hj=>(by
        by_cases hjk:j=k
        ·rw [hjk];exact HGV.out
        ·exact HALL.out j (by omega)),HB4.out⟩
       case measure=>simp [intOf];omega
     | false =>
       have HF:=Hd (HBA.out HGV.out)
       go_wp2_with fail
       go_ret
       exact ⟨am HF.out.symm,ae H0.out HB4.out⟩
    ·have HGV:=Hd (show mE x.op x.args k=true by rw [HG.out,if_neg hz])
     have hz':(x.args[k].op==30)=false:=by simpa using hz
     have r0:=(aA wr es 34).get0 f0
     clear hz
     go_wp2_with (first
      | ((with_reducible show wpList _ _ _ (⟨some 51,_,_,_,_,_⟩::_) _ _);refine aG rfl 34 _ rfl b (p+k * 17) rfl es _ HR.out Tryz.underlying34 rfl hle.out ?_)
      | ((with_reducible show wpList _ _ _ (⟨none,.store 34 (.tmp 4) _,_,_,_,_⟩::_) _ _);refine ak rfl 34 _ _ rfl _ es.toArray rfl rfl hle2.out h17.out hone.out ?_))
     go_roundw
     case rel=>exact ⟨k+1,by omega,by go_num,fun j hj=>(by
      by_cases hjk:j=k
      ·rw [hjk];exact HGV.out
      ·exact HALL.out j (by omega)),HBX.out⟩
     case measure=>simp [intOf];omega
   ·have HT:=Hd (ae H0.out HB.out)
    have d0:=RX.out.get0 c0
    have d1:=RX.out.get0 c1
    have d15:=RX.out.get0 c15
    have HAA:=qL fun j hj=>HALL.out j (by omega)
    first
     | (have HFO:=Hd (xI (show gk x.op by rw [HO.out];exact HC.out) HCV.out HAA)
        rw [HO.out] at HFO)
     | have HFO:=Hd (tl HO.out HCV.out HAA)
     | have HFO:=Hd (tj HO.out HCV.out HAA)
     | have HFO:=Hd (ti HO.out HCV.out HAA)
     | have HFO:=Hd (th HO.out HCV.out HAA)
     | have HFO:=Hd (tg HO.out HCV.out HAA)
     | have HFO:=Hd (xK HO.out HCV.out HAA)
     | have HFO:=Hd (xJ HO.out HCV.out HAA)
    clear HAA
    rw [HZ.out] at HFO
    have hfu:=HFU.out
    first
     | (obtain ⟨q,hq⟩:∃ b,eL 12 x.name.toList=b:=⟨_,rfl⟩
        have HQ:=Hd hq
        rw [hq] at HFO
        clear hq
        go_wp2_with fail
        refine (ol x.name _).mono ?_
        rintro e4 w4 ⟨rfl,rfl⟩
        rw [HQ.out]
        cases q)
     | (obtain ⟨q,hq⟩:∃ b,eL 13 x.name.toList=b:=⟨_,rfl⟩
        have HQ:=Hd hq
        rw [hq] at HFO
        clear hq
        go_wp2_with fail
        refine (oj x.name _).mono ?_
        rintro e4 w4 ⟨rfl,rfl⟩
        rw [HQ.out]
        cases q)
     | (have HL7:=Hd (show x.args.length=3 by have h7:=(kE HCV.out).2.1;rw [HO.out] at h7;have h3:bT 7=3:=(by decide);rw [h3] at h7;have:=h7 (by decide);omega)
        have l1:1<x.args.length:=(by have:=HL7.out;omega)
        have l2:2<x.args.length:=(by have:=HL7.out;omega)
        obtain ⟨b,p,rfl,hb,hget⟩:=HA.out.get (by intro h;rw [h] at l1;cases l1)
        obtain ⟨es1,g1,g2⟩:=hget 1 l1
        obtain ⟨es2,g3,g4⟩:=hget 2 l2
        obtain ⟨_,_,_,_,_,gh1⟩:=g2.has
        obtain ⟨_,_,_,_,_,gh2⟩:=g4.has
        have r1:=(g1.below HT.out (Nat.lt_of_lt_of_le hb hB)).get0' gh1.op
        have r2:=(g3.below HT.out (Nat.lt_of_lt_of_le hb hB)).get0' gh2.op
        clear g1 g2 g3 g4 gh1 gh2 hget hb
        rw [show p+1 * 17=p+17 by omega] at r1
        rw [show p+2 * 17=p+34 by omega] at r2
        have a1:x.args.getD 1 default=x.args[1]:=(by simp [List.getD,List.getElem?_eq_getElem l1])
        have a2:x.args.getD 2 default=x.args[2]:=(by simp [List.getD,List.getElem?_eq_getElem l2])
        rw [a1,a2] at HFO
        clear a1 a2
        obtain ⟨o1,ho1⟩:∃ o1,x.args[1].op=o1:=⟨_,rfl⟩
        obtain ⟨o2,ho2⟩:∃ o2,x.args[2].op=o2:=⟨_,rfl⟩
        rw [ho1] at r1
        rw [ho2] at r2
        rw [ho1,ho2] at HFO
        clear ho1 ho2 l1 l2
        have hl3:=HL7.out
        rw [hl3] at d15
        clear hl3
        have hz12:(o1=30∧o2=30)∨(o1=30∧(o2 != 30)=true∧o2≠30)∨((o1 != 30)=true∧o1≠30):=by
         by_cases z1:o1=30
         ·by_cases z2:o2=30
          ·exact .inl ⟨z1,z2⟩
          ·exact .inr (.inl ⟨z1,by simpa using z2,z2⟩)
         ·exact .inr (.inr ⟨by simpa using z1,z1⟩)
        rcases hz12 with ⟨rfl,rfl⟩ | ⟨rfl,z2,z3⟩ | ⟨z1,z3⟩
        all_goals by_cases hnm:x.name.toList=[])
     | (have HHE:=Hd (xy HC.out)
        obtain ⟨v5,hv5⟩:∃ b,(m==5)=b:=⟨_,rfl⟩
        obtain ⟨vi,hvi⟩:∃ b,ft m=b:=⟨_,rfl⟩
        have HI:=Hd hvi
        rw [HHE.out,hvi,hv5] at HFO
        clear hvi
        have HV5:=Hd hv5
        clear hv5
        by_cases hnm:x.name.toList=[]
        all_goals
         have hv5:=HV5.out
         go_wp2_with fail
         refine (ov _ _ H30.out).mono ?_
         rintro e4 w4 ⟨rfl,rfl⟩
         rw [HI.out]
         cases vi
         all_goals cases v5)
     | (by_cases hnm:x.name.toList=[]
        all_goals
         go_wp2_with fail
         refine (ov _ _ H30.out).mono ?_
         rintro e4 w4 ⟨rfl,rfl⟩
         first
          | rw [show ft 21=false by decide]
          | rw [show ft 23=false by decide]
          | rw [show ft 25=false by decide]
          | rw [show ft 3=false by decide])
    all_goals
     go_wp2_with fail
     all_goals
      (go_ret
       refine ⟨am (bz ?_),by with_reducible exact HT.out⟩
       have hv:=HFO.out
       rw [hv]
       clear hv HFO
       first | (simp [*];done) | (simp;omega) | grind)
end Go.Proofs.YtiefeajappjnbaaGreatDoor
