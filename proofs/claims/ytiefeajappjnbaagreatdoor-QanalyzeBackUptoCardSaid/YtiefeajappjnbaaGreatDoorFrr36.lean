/- datakitref36.form: what it asks of a node, by class of operator (printed by gen36.py). -/
import Derived.Test.YtiefeajappjnbaaGreatDoorGA
import Derived.Test.YtiefeajappjnbaaGreatDoorGI
import Derived.Test.YtiefeajappjnbaaGreatDoorGJ
import Derived.Deep.WholeRow
namespace Go.Proofs.YtiefeajappjnbaaGreatDoor
open Go.RowKit
def KO (m:Int) (s:Bool):Prop:=(m=12∧s=true)∨(m=13∧s=true)∨(m=21∧s=true)∨(m=23∧s=false)∨(m=25∧s=false)∨(m=3∧s=false)∨(m=7∧s=false)∨gk m
set_option linter.unusedVariables false in
def FrT (Q:Int→Bool→Prop):Prop:=∀ (m:Int) (s:Bool) (hk:Q m s) (hs:eG m=s) (h1:1≤m∧m≤29) (x:ag) (w:World) (B N:Nat) (cs:List Value) (hN:N≤1073741824) (hB:B≤w.heap.size) (he:ag.At w B N x cs) (ho:x.op=m),Calls Tryz.prog 108 #[.agg cs.toArray] w (cq (bh x) w)
set_option maxRecDepth 100000 in
set_option linter.unusedVariables false in
theorem p9 {P:Prop} (h:P:=by
 intro m s hk hs h1 x w B N cs hN hB he ho
 obtain ⟨aa,fa,ac,fc,vs,hh⟩:=he.has
 have H0:=Hd (show Below w.heap.size w (w.alloc (.cells cs.toArray 34)) from af w _)
 have hvr:=Hd (show aj (w.alloc (.cells cs.toArray 34)) w.heap.size (0+2) vs from hh.valRange (aA w cs 34))
 have HV:=Hd hh.atVal
 have HA:=Hd hh.atArgs
 have hl:=Hd (show (Tryz.prog.info? 30).map (·.size)=some vs.length by rw [hh.atVal.len];exact bM)
 have hs0:=Hd (show w.heap.size<(w.alloc (.cells cs.toArray 34)).heap.size by rw [World.size_alloc];omega)
 have HX:=Hd (aA w cs 34)
 have hlen:x.args.length≤N:=hh.own.2.2.1
 have hflen:x.funcs.length≤N:=hh.own.2.2.2
 have c0:=hh.op
 have c1:=hh.name
 have c15:=hh.args
 have c16:=hh.funcs
 have HO:=Hd ho
 have HHS:=Hd hs
 have H1:=Hd (show 1≤x.op∧x.op≤29 by rw [ho];exact h1)
 have H30:=Hd (show 1≤m∧m≤30 by omega)
 have h11:=h1.1
 have h29:=h1.2
 rw [ho] at c0
 obtain ⟨n,hn⟩:∃ n,bT m=n:=⟨_,rfl⟩
 have HNE:=Hd hn
 obtain ⟨f,hf⟩:∃ f:Int,(lS x.op:Int)=f:=⟨_,rfl⟩
 have HFE:=Hd (show Ce m=f by rw [← ho,Ad H1.out,hf])
 have HOE:=Hd hf
 clear hh he ho hf hs
 first
  | obtain ⟨rfl,rfl⟩:=hk
  | have hc:gk m:=hk
 first
  | (obtain ⟨e3,e7,e12,e13,e21,e23,e25,n3,n23,n7⟩:=id hc
     have HC:=Hd hc
     clear hc)
  | clear h11 h29
 first
  | (have HCN:=Hd (show aQ x.op x.args.length=true↔(x.args.length:Int)≤8 from by rw [HO.out];exact yr _)
     obtain rfl:n=-1:=by rw [← hn];decide)
  | (have HCN:=Hd (show aQ x.op x.args.length=true↔(x.args.length:Int) % 2=0 from by rw [HO.out];exact yq _)
     obtain rfl:n=-1:=by rw [← hn];decide)
  | (have hn0:0≤n:=by rw [← hn];first | decide | exact (uw h1 HC.out).1
     have HCN:=Hd (show aQ x.op x.args.length=true↔(x.args.length:Int)=n from by rw [As H1.out (by rw [HO.out,hn];exact hn0),HO.out,hn]))
 clear hn h1
 go_enter Tryz.func108,Tryz.ntmps108
 go_wp2_with fail
 refine (CP _ _ H30.out).mono ?_
 rintro e w1 ⟨rfl,heq⟩
 rw [← heq] at H0 hvr hs0 HX
 clear heq
 rw [HNE.out,HFE.out]
 have b0:=HX.out.get0 c0
 have b15:=HX.out.get0 c15
 by_cases hcnt:aQ x.op x.args.length=true
 case neg =>
  have HF:=Hd (jU (by simpa using hcnt))
  have hq:¬ _:=fun h=>hcnt (HCN.out.2 h)
  clear hcnt
  first
   | have q1:(8:Int)<(x.args.length:Int):=by omega
   | have q1:((x.args.length:Int) % 2==1)=true:=by simp;omega
   | have q1:(((x.args.length:Nat):Int) != n)=true:=by simp;omega
  clear hq
  go_wp2_with fail
  go_ret
  exact ⟨am HF.out.symm,H0.out⟩
 have HCT:=Hd hcnt
 have hq:=HCN.out.1 hcnt
 clear hcnt
 first
  | obtain rfl:n=(x.args.length:Int):=hq.symm
  | (have q1:decide ((x.args.length:Int) > 8)=false:=by simp;omega
     have HLE:=Hd hq)
  | have q1:((x.args.length:Int) % 2==1)=false:=by simp;omega
 clear hq
 go_wp2_with fail
 go_simp
 clear b0 b15
 go_loopw [5] (fun i wr=>∃ (k:Nat),k≤x.args.length∧i=.int .i64 k∧(∀ j,j<k→mE x.op x.args j=true)∧Below w1.heap.size w1 wr) (fun i _=>x.args.length-(intOf i).toNat)
 case atStart=>exact ⟨0,by omega,rfl,fun j hj=>absurd hj (by omega),Below.refl _ _⟩
 case round =>
  obtain ⟨k,hk,rfl,hall,hbel⟩:=hrel
  have HB:=Hd hbel
  have HALL:=Hd hall
  have RX:=Hd (HX.out.below HB.out hs0.out)
  clear hbel hall
  have d0:=RX.out.get0 c0
  have d1:=RX.out.get0 c1
  have d15:=RX.out.get0 c15
  have d16:=RX.out.get0 c16
  by_cases hlt:k<x.args.length
  ·have HG:=Hd (qM x.op hlt)
   have HBA:=Hd (fun h=>jV (x:=x) hlt h)
   obtain ⟨b,p,rfl,hb,hget⟩:=HA.out.get (by intro h;simp [h] at hlt)
   obtain ⟨es,g1,g2⟩:=hget k hlt
   have gb:=Nat.lt_of_lt_of_le hb (Nat.le_trans hB H0.out.size)
   have HR:=Hd (((g1.below H0.out (Nat.lt_of_lt_of_le hb hB))).below HB.out gb)
   have HE:=Hd ((g2.below (H0.out.mono hB)).below (HB.out.mono (Nat.le_trans hB H0.out.size)))
   have hle:=Hd (show (Tryz.prog.info? 34).map (·.size)=some es.length by rw [g2.len];exact ay)
   obtain ⟨aa1,fa1,ac1,fc1,vs1,gh⟩:=g2.has
   have f0:=gh.op
   clear gh g1 g2 hget gb
   have r0:=HR.out.get0' f0
   by_cases hz:x.args[k].op=30
   ·have HZ:=Hd hz
    rw [hz] at f0 r0
    clear hz
    by_cases hkf:(k:Int)<f
    ·have HF:=Hd (HBA.out (by rw [HG.out,if_pos HZ.out];have:¬ lS x.op≤k:=by have:=HOE.out;omega
                              simp [this]))
     go_wp2_with fail
     go_ret
     exact ⟨am HF.out.symm,ae H0.out HB.out⟩
    ·have hkf':decide ((k:Int)<f)=false:=by simp;omega
     have hfk:lS x.op≤k:=by have:=HOE.out;omega
     have HKF:=Hd hfk
     clear hkf hfk
     go_wp2_with (refine aG rfl 34 _ rfl b (p+k * 17) rfl es _ HR.out.range Tryz.underlying34 rfl hle.out ?_)
     refine (yF x.args[k] _ B N es (Nat.le_trans hB (Nat.le_trans H0.out.size HB.out.size)) HE.out).mono ?_
     rintro e2 w2 ⟨rfl,hb2⟩
     have HB2:=Hd (ae HB.out hb2)
     clear hb2
     obtain ⟨v,hv⟩:∃ v,dX x.args[k]=v:=⟨_,rfl⟩
     have HGV:=Hd (show mE x.op x.args k=v by rw [HG.out,if_pos HZ.out,hv];simp [HKF.out])
     rw [hv]
     clear hv
     cases v with
     | true =>
       go_wp2_with fail
       go_roundw
       case rel=>exact ⟨k+1,by omega,by go_num,fun j hj=>(by
        by_cases hjk:j=k
        ·rw [hjk];exact HGV.out
        ·exact HALL.out j (by omega)),HB2.out⟩
       case measure=>simp [intOf];omega
     | false =>
       have HF:=Hd (HBA.out HGV.out)
       go_wp2_with fail
       go_ret
       exact ⟨am HF.out.symm,ae H0.out HB2.out⟩
   ·have HGV:=Hd (show mE x.op x.args k=true by rw [HG.out,if_neg hz])
    have hz':(x.args[k].op==30)=false:=by simpa using hz
    clear hz
    go_wp2_with fail
    go_roundw
    case rel=>exact ⟨k+1,by omega,by go_num,fun j hj=>(by
     by_cases hjk:j=k
     ·rw [hjk];exact HGV.out
     ·exact HALL.out j (by omega)),HB.out⟩
    case measure=>simp [intOf];omega
  ·have HVR:=Hd ((hvr.out.below HB.out hs0.out).range)
   have HV2:=Hd ((HV.out.below (H0.out.mono hB)).below (HB.out.mono (Nat.le_trans hB H0.out.size)))
   have HT:=Hd (ae H0.out HB.out)
   have hBr:=Hd (Nat.le_trans hB HT.out.size)
   have hsr:=Hd (Nat.lt_of_lt_of_le hs0.out HB.out.size)
   have HAA:=qL fun j hj=>HALL.out j (by omega)
   first
    | (have HFO:=Hd (xI (show gk x.op by rw [HO.out];exact HC.out) HCT.out HAA)
       rw [HO.out,HHS.out] at HFO)
    | have HFO:=Hd (tl HO.out HCT.out HAA)
    | have HFO:=Hd (tj HO.out HCT.out HAA)
    | have HFO:=Hd (ti HO.out HCT.out HAA)
    | have HFO:=Hd (th HO.out HCT.out HAA)
    | have HFO:=Hd (tg HO.out HCT.out HAA)
    | have HFO:=Hd (xK HO.out HCT.out HAA)
    | have HFO:=Hd (xJ HO.out HCT.out HAA)
   first
    | (have HL7:=Hd (show x.args.length=3 by have:=HNE.out;have h3:bT 7=3:=(by decide);have h7:=(show Hid (x.op=7) from HO);omega)
       clear hvr H0 HB HX HNE HCN HOE HFE HALL HAA
       have l1:1<x.args.length:=(by have:=HL7.out;omega)
       have l2:2<x.args.length:=(by have:=HL7.out;omega)
       obtain ⟨b,p,rfl,hb,hget⟩:=HA.out.get (by intro h;rw [h] at l1;cases l1)
       obtain ⟨es1,g1,g2⟩:=hget 1 l1
       obtain ⟨es2,g3,g4⟩:=hget 2 l2
       obtain ⟨_,_,_,_,_,gh1⟩:=g2.has
       obtain ⟨_,_,_,_,_,gh2⟩:=g4.has
       have r1:=(g1.below HT.out (Nat.lt_of_lt_of_le hb hB)).get0' gh1.op
       have r2:=(g3.below HT.out (Nat.lt_of_lt_of_le hb hB)).get0' gh2.op
       clear g1 g2 g3 g4 gh1 gh2 hget hb
       rw [show p+1 * 17=p+17 by omega] at r1
       rw [show p+2 * 17=p+34 by omega] at r2
       have a1:x.args.getD 1 default=x.args[1]:=(by simp [List.getD,List.getElem?_eq_getElem l1])
       have a2:x.args.getD 2 default=x.args[2]:=(by simp [List.getD,List.getElem?_eq_getElem l2])
       rw [a1,a2] at HFO
       clear a1 a2
       obtain ⟨o1,ho1⟩:∃ o1,x.args[1].op=o1:=⟨_,rfl⟩
       obtain ⟨o2,ho2⟩:∃ o2,x.args[2].op=o2:=⟨_,rfl⟩
       rw [ho1] at r1
       rw [ho2] at r2
       rw [ho1,ho2] at HFO
       clear ho1 ho2 l1 l2
       have hl3:=HL7.out
       rw [hl3] at d15 hlt
       clear hl3
       have hz12:(o1=30∧o2=30)∨(o1=30∧(o2==30)=false)∨(o1==30)=false:=by
        by_cases z1:o1=30
        ·by_cases z2:o2=30
         ·exact .inl ⟨z1,z2⟩
         ·exact .inr (.inl ⟨z1,by simpa using z2⟩)
        ·exact .inr (.inr (by simpa using z1))
       rcases hz12 with ⟨rfl,rfl⟩ | ⟨rfl,z2⟩ | z1)
    | clear hvr H0 HB HX HNE HCN HOE HFE HALL HAA
   all_goals
    first
     | (have h3:=(show Hid (x.op=3) from HO)
        clear h3
        obtain ⟨z,hz⟩:∃ z,jo x.val=z:=⟨_,rfl⟩
        have HZ:=Hd hz
        rw [hz] at HFO
        clear hz)
     | (obtain ⟨z,hz⟩:∃ z,bj x.val=z:=⟨_,rfl⟩
        have HZ:=Hd hz
        rw [hz] at HFO
        clear hz)
    first
     | (obtain ⟨q,hq⟩:∃ b,eL 12 x.name.toList=b:=⟨_,rfl⟩
        rw [hq] at HFO
        have HQ:=Hd hq
        clear hq)
     | (obtain ⟨q,hq⟩:∃ b,eL 13 x.name.toList=b:=⟨_,rfl⟩
        rw [hq] at HFO
        have HQ:=Hd hq
        clear hq)
     | skip
    go_wp2_with fail
    first
     | (go_ret
        refine ⟨am (bz ?_),by with_reducible first | exact HT3.out | exact HT.out⟩
        have hv:=HFO.out
        rw [hv]
        clear hv HFO
        first | (simp [*];done) | (simp;omega) | grind)
     | (refine (zI _ _ H30.out).mono ?_
        rintro e w2 ⟨rfl,rfl⟩
        rw [HHS.out]
        try cases s
        all_goals first
         | (have h:=(show Hid (eG _=true) from HHS)
            clear h)
         | (by_cases hnm:x.name.toList=[]
            case neg =>
             go_wp2_with fail
             all_goals
              (go_ret
               refine ⟨am (bz ?_),by with_reducible first | exact HT3.out | exact HT.out⟩
               have hv:=HFO.out
               rw [hv]
               clear hv HFO
               first | (simp [*];done) | (simp;omega) | grind))
        all_goals
         go_wp2_with (refine aG rfl 30 _ rfl w.heap.size (0+2) rfl vs _ HVR.out Tryz.underlying30 rfl hl.out ?_)
         all_goals first
          | (go_ret
             refine ⟨am (bz ?_),by with_reducible first | exact HT3.out | exact HT.out⟩
             have hv:=HFO.out
             rw [hv]
             clear hv HFO
             first | (simp [*];done) | (simp;omega) | grind)
          | (first
              | (have h3:=(show Hid (x.op=3) from HO)
                 clear h3
                 refine (C4 x.val _ B N vs HV2.out).mono ?_)
              | refine (vA x.val _ B N vs HV2.out).mono ?_
             rintro e3 w3 ⟨rfl,hb3⟩
             have HT3:=Hd (ae HT.out hb3)
             have k0:=(RX.out.then hb3 hsr.out).get0 c0
             have k1:=(RX.out.then hb3 hsr.out).get0 c1
             have k16:=(RX.out.then hb3 hsr.out).get0 c16
             clear hb3 d0 d1 d15 d16
             rw [HZ.out]
             cases z
             all_goals
              go_wp2_with fail
              all_goals first
               | (go_ret
                  refine ⟨am (bz ?_),by with_reducible first | exact HT3.out | exact HT.out⟩
                  have hv:=HFO.out
                  rw [hv]
                  clear hv HFO
                  first | (simp [*];done) | (simp;omega) | grind)
               | (first
                   | (have h12:=(show Hid (x.op=12) from HO)
                      clear h12
                      refine (oh x.name _).mono ?_)
                   | refine (og x.name _).mono ?_
                  rintro e4 w4 ⟨rfl,rfl⟩
                  rw [HQ.out]
                  cases q
                  all_goals
                   go_wp2_with fail
                   all_goals
                    (go_ret
                     refine ⟨am (bz ?_),by with_reducible first | exact HT3.out | exact HT.out⟩
                     have hv:=HFO.out
                     rw [hv]
                     clear hv HFO
                     first | (simp [*];done) | (simp;omega) | grind))))):P:=h
set_option maxRecDepth 100000 in
set_option maxHeartbeats 12800000 in
theorem Cd:FrT fun m s=>m=12∧s=true:=p9
set_option maxRecDepth 100000 in
set_option maxHeartbeats 12800000 in
theorem Cc:FrT fun m s=>m=13∧s=true:=p9
set_option maxRecDepth 100000 in
set_option maxHeartbeats 12800000 in
theorem Cb:FrT fun m s=>m=21∧s=true:=p9
set_option maxRecDepth 100000 in
set_option maxHeartbeats 12800000 in
theorem Ca:FrT fun m s=>m=23∧s=false:=p9
set_option maxRecDepth 100000 in
set_option maxHeartbeats 12800000 in
theorem BZ:FrT fun m s=>m=25∧s=false:=p9
set_option maxRecDepth 100000 in
set_option maxHeartbeats 12800000 in
theorem Dk:FrT fun m s=>m=3∧s=false:=p9
set_option maxRecDepth 100000 in
set_option maxHeartbeats 12800000 in
theorem Dj:FrT fun m s=>m=7∧s=false:=p9
set_option maxRecDepth 100000 in
set_option maxHeartbeats 12800000 in
theorem Di:FrT fun m _=>gk m:=p9
set_option linter.unusedVariables false in
theorem uM (m:Int) (s:Bool) (hk:KO m s):eG m=s→1≤m∧m≤29→∀ (x:ag) (w:World) (B N:Nat) (cs:List Value) (hN:N≤1073741824) (hB:B≤w.heap.size) (he:ag.At w B N x cs) (ho:x.op=m),Calls Tryz.prog 108 #[.agg cs.toArray] w (cq (bh x) w):=by
 rcases hk with h | h | h | h | h | h | h | h
 ·exact Cd m s h
 ·exact Cc m s h
 ·exact Cb m s h
 ·exact Ca m s h
 ·exact BZ m s h
 ·exact Dk m s h
 ·exact Dj m s h
 ·exact Di m s h
end Go.Proofs.YtiefeajappjnbaaGreatDoor
