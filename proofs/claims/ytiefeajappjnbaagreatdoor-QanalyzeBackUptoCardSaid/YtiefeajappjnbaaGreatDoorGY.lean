/- The head of a function: its name, its parameters (module.function, module.params, datakitref38.head). -/
import Derived.Test.YtiefeajappjnbaaGreatDoorGA
import Derived.Test.YtiefeajappjnbaaGreatDoorFnd39
import Derived.Test.YtiefeajappjnbaaGreatDoorGK
import Derived.Test.YtiefeajappjnbaaGreatDoorGJ
import Derived.BigQuiet
import Derived.Test.YtiefeajappjnbaaGreatDoorGX
namespace Go.Proofs.YtiefeajappjnbaaGreatDoor
open Go.RowKit
def fX (l:List aZ):Int:=if 8<l.length then 10 else paE l 0
def dT (L:List ByteArray) (f:al):Int:=if eu f.name=false then 16 else if fX f.params≠0 then fX f.params else if L.any (fun s=>s.toList==f.name.toList) then 8 else 0
theorem p4 {L:List ByteArray} {f:al} (h:eu f.name=false):dT L f=16:=by unfold dT;rw [if_pos h]
theorem iM {L:List ByteArray} {f:al} {z:Int} (h:eu f.name=true) (hp:fX f.params=z) (hz:z≠0):dT L f=z:=by unfold dT;rw [if_neg (by rw [h];simp),hp,if_pos hz]
theorem s8 {L:List ByteArray} {f:al} (h:eu f.name=true) (hp:fX f.params=0) (ha:L.any (fun s=>s.toList==f.name.toList)=true):dT L f=8:=by unfold dT;rw [if_neg (by rw [h];simp),hp,if_neg (by decide),if_pos ha]
theorem s9 {L:List ByteArray} {f:al} (h:eu f.name=true) (hp:fX f.params=0) (ha:L.any (fun s=>s.toList==f.name.toList)=false):dT L f=0:=by unfold dT;rw [if_neg (by rw [h];simp),hp,if_neg (by decide),if_neg (by rw [ha];simp)]
theorem sD {l:List aZ} (h:8<l.length):fX l=10:=by unfold fX;rw [if_pos h]
theorem wh {l:List aZ} (h:¬ 8<l.length):fX l=paE l 0:=by unfold fX;rw [if_neg h]
theorem qe {l:List al} {k:Nat} (hk:k<l.length):((cg l).take k).any (fun s=>s.toList==l[k].name.toList)=decide (fQ l l[k].name<(k:Int)):=by
 have hself:(l[k].name.toList==l[k].name.toList)=true:=by simp
 cases hi:l.findIdx? (fun f=>f.name.toList==l[k].name.toList) with
 | none =>
   exfalso
   have:=List.findIdx?_eq_none_iff.1 hi l[k] (List.getElem_mem hk)
   rw [hself] at this
   cases this
 | some i =>
   obtain ⟨h1,h2,h3⟩:=List.findIdx?_eq_some_iff_getElem.1 hi
   have e:fQ l l[k].name=i:=by unfold fQ;rw [hi]
   rw [e]
   by_cases hik:i<k
   ·rw [decide_eq_true (show (i:Int)<(k:Int) by omega)]
    exact oP hik (by rw [cE];exact h1) (by rw [dQ h1];exact h2)
   ·rw [decide_eq_false (show ¬ (i:Int)<(k:Int) by omega)]
    refine rY (fun j hl hj=>?_)
    rw [cE] at hl
    rw [dQ hl]
    have:=h3 j (by omega)
    simpa using this
set_option maxHeartbeats 1600000 in
theorem p8 (s:ByteArray) (w:World) (hs:s.size≤1073741824) (hE:Env w):Calls Tryz.prog 92 #[.string s] w (cq (eu s) w):=by
 obtain ⟨m,hm⟩:=hE.max
 have HE:=Hd hE
 clear hE
 rcases Lib.indexB_cases s fW with h | ⟨i,h,hr⟩
 ·obtain ⟨C1,C2,C3⟩:=Lib.cutB_miss s fW h
  have Q:=Hd (jg h)
  have HM:=Hd (show s.size≤maxLen by unfold maxLen;omega)
  have K1:=Hd C1
  have K2:=Hd C2
  have K3:=Hd C3
  clear h C1 C2 C3
  go_enter Tryz.func92,Tryz.ntmps92
  go_wp2_with fail
  refine (Tryz.strings_Cut s fW m _ (by omega) hm).mono ?_
  rintro e w1 ⟨rfl,n,rfl⟩
  rw [K1.out,K2.out,K3.out]
  go_wp2_with fail
  refine (fP s _ HM.out (HE.out.then (_root_.Go.below_drewN (Below.refl _ _) n)).kw).mono ?_
  rintro e w1 ⟨rfl,rfl⟩
  obtain ⟨v,hv⟩:∃ v,aC s=v:=⟨_,rfl⟩
  rw [hv]
  have HV:=Hd hv
  clear hv
  cases v
  all_goals
   go_wp2_with fail
   go_ret
   exact ⟨am (by rw [Q.out,HV.out]),_root_.Go.below_drewN (Below.refl _ _) n⟩
 ·obtain ⟨C1,C2,C3⟩:=Lib.cutB_hit s fW i h
  have Q:=Hd (kn h)
  have H1:=Hd (show (s.extract 0 i).size≤maxLen by unfold maxLen;simp;omega)
  have H2:=Hd (show (s.extract (i+2) s.size).size≤maxLen by unfold maxLen;simp;omega)
  have K1:=Hd C1
  have K2:=Hd (show _=s.extract (i+2) s.size from C2)
  have K3:=Hd C3
  clear h C1 C2 C3 hr
  go_enter Tryz.func92,Tryz.ntmps92
  go_wp2_with fail
  refine (Tryz.strings_Cut s fW m _ (by omega) hm).mono ?_
  rintro e w1 ⟨rfl,n,rfl⟩
  rw [K1.out,K2.out,K3.out]
  generalize hx1:s.extract 0 i=x1 at *
  generalize hx2:s.extract (i+2) s.size=x2 at *
  go_wp2_with fail
  refine (fP x1 _ H1.out (HE.out.then (_root_.Go.below_drewN (Below.refl _ _) n)).kw).mono ?_
  rintro e w1 ⟨rfl,rfl⟩
  obtain ⟨v,hv⟩:∃ v,aC x1=v:=⟨_,rfl⟩
  rw [hv]
  have HV:=Hd hv
  clear hv
  cases v
  ·go_wp2_with fail
   go_ret
   exact ⟨am (by rw [Q.out,HV.out];rfl),_root_.Go.below_drewN (Below.refl _ _) n⟩
  ·go_wp2_with fail
   refine (fP x2 _ H2.out (HE.out.then (_root_.Go.below_drewN (Below.refl _ _) n)).kw).mono ?_
   rintro e w1 ⟨rfl,rfl⟩
   go_wp2_with fail
   go_ret
   exact ⟨am (by rw [Q.out,HV.out];rfl),_root_.Go.below_drewN (Below.refl _ _) n⟩
set_option maxRecDepth 100000 in
set_option maxHeartbeats 3200000 in
theorem un (l:List aZ) (a:Option Addr) (c:Nat) (w:World) (B N:Nat) (hN:N≤1048576) (hB:B≤w.heap.size) (hE:Env w) (hA:aF w B N l a) :
 Calls Tryz.prog 93 #[.slice a l.length c] w (gK (fX l) w):=by
 have HP:=Hd hA
 have HE:=Hd hE
 clear hA hE
 by_cases h8:8<l.length
 ·have HR:=Hd (sD h8)
  go_enter Tryz.func93,Tryz.ntmps93
  go_wp2_with fail
  go_ret
  exact ⟨by rw [HR.out];rfl,Below.refl _ _⟩
 have H00:=Hd (wh h8)
 have hmm:=@run_makeMap Tryz.prog
 go_enter Tryz.func93,Tryz.ntmps93
 go_wp2_with fail
 clear hmm
 go_simp
 go_loopw [12] (fun i w2=>∃ (k2:Nat),k2≤l.length∧i=.int .i64 k2∧Hid (fX l=paE l k2)∧Hid (Below w.heap.size w w2)∧Hid (bQ w2 9 4 w.heap.size k2 (cu ((jl l).take k2)))∧Hid (w.heap.size<w2.heap.size)) (fun i _=>l.length-(intOf i).toNat)
 case atStart=>exact ⟨0,by omega,rfl,H00,Hd (af w _),Hd (bQ.made w 9 4),Hd (by rw [World.size_alloc];omega)⟩
 case round =>
  obtain ⟨w2,rfl⟩:∃ w2,w2=wr:=⟨wr,rfl⟩
  obtain ⟨k2,hk2,rfl,HPP,HB2,HSP,HS2⟩:=hrel
  by_cases hlt2:k2<l.length
  case pos =>
   obtain ⟨b2,p2,rfl,hp2,hpar⟩:=HP.out.get (by intro h;simp [h] at hlt2)
   obtain ⟨ps,hps⟩:∃ ps,ps=(l[k2]).cells:=⟨_,rfl⟩
   have q0:ps[0]?=some (.string (l[k2]).name):=by rw [hps];rfl
   have hpl2:ps.length=2:=by rw [hps];rfl
   have hpone:=Hd (show ps.toArray.all (·.oneCell')=true from Go.all_oneCell_toArray (fun u hu=>by
    rw [hps] at hu
    simp only [aZ.cells,List.mem_cons,List.mem_nil_iff,or_false] at hu
    rcases hu with rfl | rfl<;>rfl))
   have HR2:=Hd (show aj w2 b2 (p2+k2 * 2) ps by rw [hps];exact (hpar k2 hlt2).2.below (HB2.out.mono hB) hp2).range
   have hn2:=Hd (show (l[k2]).name.size≤maxLen by have:=(hpar k2 hlt2).1;unfold maxLen;omega)
   have hlp:=Hd (show (Tryz.prog.info? 120).map (·.size)=some ps.length by rw [hpl2];exact k9)
   have hlp2:=Hd (show (Tryz.prog.info? 120).map (·.size)=some ps.toArray.size by rw [List.size_toArray,hpl2];exact k9)
   have h2s:=Hd (show 2=ps.toArray.size by rw [List.size_toArray,hpl2])
   have PX:=Hd (aA w2 ps 120)
   have HBX:=Hd (ae HB2.out (af w2 (.cells ps.toArray 120)))
   have HSPX:=Hd (HSP.out.later (af w2 (.cells ps.toArray 120)))
   have HEX:=Hd (HE.out.then HBX.out)
   have e0:=PX.out.get0 q0
   clear hpar hps
   obtain ⟨pn,hpn⟩:∃ s,(l[k2]).name=s:=⟨_,rfl⟩
   have HPN:=Hd hpn
   rw [hpn] at e0 hn2 q0
   obtain ⟨v2,hv2⟩:∃ v,aC pn=v:=⟨_,rfl⟩
   have HV2:=Hd hv2
   clear hpn hv2
   go_wp2_with (first
    | (refine wpList_load_mid rfl 120 _ rfl b2 (p2+k2 * 2) rfl ps _ HR2.out Tryz.underlying120 rfl hlp.out ?_)
    | (refine ak rfl 120 _ _ rfl _ ps.toArray rfl rfl hlp2.out h2s.out hpone.out ?_))
   refine (fP pn _ hn2.out HEX.out.kw).mono ?_
   rintro e w' ⟨rfl,rfl⟩
   rw [HV2.out]
   cases v2
   case false =>
    have HZ:=Hd (show fX l=16 by rw [HPP.out,oc hlt2 (by rw [HPN.out];exact HV2.out)])
    go_wp2_with fail
    go_ret
    exact ⟨by rw [HZ.out];rfl,HBX.out⟩
   obtain ⟨sb,hsb⟩:∃ v,decide (pn.data.toList∈cu ((jl l).take k2))=v:=⟨_,rfl⟩
   have HSB:=Hd hsb
   have HID:=Hd (show aC (l[k2]).name=true by rw [HPN.out];exact HV2.out)
   clear hsb
   cases sb
   case true =>
    have HZ:=Hd (show fX l=8 by rw [HPP.out,pI hlt2 HID.out (by rw [HPN.out];exact HSB.out)])
    go_wp2_with (at_lookup;refine aY rfl _ _ 141 rfl Tryz.underlying9 Tryz.underlying4 Tryz.underlying141 (dr _) rfl HSPX.out pn rfl hn2.out true HSB.out ?_)
    go_ret
    exact ⟨by rw [HZ.out];rfl,HBX.out⟩
   have HPN2:=Hd (HPP.out.trans (pH hlt2 HID.out (by rw [HPN.out];exact HSB.out)))
   have HSN:=Hd (show cu ((jl l).take (k2+1))=cu ((jl l).take k2)++[pn.data.toList] by
    rw [fU (by rw [f8];exact hlt2),f9 hlt2,HPN.out])
   go_wp2_with (first
    | (at_lookup;refine aY rfl _ _ 141 rfl Tryz.underlying9 Tryz.underlying4 Tryz.underlying141 (dr _) rfl HSPX.out pn rfl hn2.out false HSB.out ?_)
    | (at_mapUpdate;refine cU rfl _ _ _ 141 rfl Tryz.underlying9 Tryz.underlying4 Tryz.underlying141 rfl HSPX.out (by unfold maxLen;omega) pn rfl rfl hn2.out ?_))
   intro w3 hset hgrow
   have HS3:=Hd hset
   have HB3:=Hd (HBX.out.grown hgrow HBX.out.size (fun q hq=>by cases hq;exact Nat.le_refl _))
   have hs3:=Hd (Nat.lt_of_lt_of_le HS2.out (Nat.le_trans (by rw [World.size_alloc];omega) hgrow.size))
   clear hset hgrow e0
   go_wp2
   go_roundw
   case rel=>exact ⟨k2+1,by omega,by go_num,HPN2,HB3,Hd (by rw [HSN.out];exact HS3.out),hs3⟩
   case measure=>simp [intOf];omega
  case neg =>
   have HZ:=Hd (show fX l=0 by rw [HPP.out,show k2=l.length by omega,lk])
   go_wp2_with fail
   go_ret
   exact ⟨by rw [HZ.out];rfl,HB2.out⟩
set_option maxRecDepth 100000 in
set_option maxHeartbeats 6400000 in
theorem BR (l:List al) (a:Option Addr) (c k:Nat) (w:World) (B N:Nat) (hk:k<l.length) (hl:l.length≤65536) (hN:N≤1048576) (hB:B≤w.heap.size) (hA:av w B N l a) :
 Calls Tryz.prog 85 #[.slice a l.length c,.int .i64 k] w (gK (dT ((cg l).take k) l[k]) w):=by
 have HAA:=Hd hA
 obtain ⟨b,p,rfl,hb,hget⟩:=hA.get (by intro h;simp [h] at hk)
 obtain ⟨fs,g1,g2⟩:=hget k hk
 have HR:=Hd g1.range
 have hbw:b<w.heap.size:=Nat.lt_of_lt_of_le hb hB
 obtain ⟨pa,pc,es,gh⟩:=g2.has
 have f0:=gh.name
 have f1:=gh.params
 have hlf:=Hd (show (Tryz.prog.info? 72).map (·.size)=some fs.length by rw [gh.len];exact cj)
 have hlf2:=Hd (show (Tryz.prog.info? 72).map (·.size)=some fs.toArray.size by rw [List.size_toArray,gh.len];exact cj)
 have h19:=Hd (show 19=fs.toArray.size by rw [List.size_toArray,gh.len])
 have hone:=Hd (show fs.toArray.all (·.oneCell')=true from Go.all_oneCell_toArray gh.one)
 have hnm:=Hd (show (l[k]).name.size≤1073741824 by have:=gh.hn;omega)
 have hpl:(l[k]).params.length≤N:=gh.hp
 have HP:=Hd gh.atPar
 have FX:=Hd (aA w fs 72)
 have HW:=Hd (af w (.cells fs.toArray 72))
 have hwr:=Hd (show w.heap.size<(w.alloc (.cells fs.toArray 72)).heap.size by rw [World.size_alloc];omega)
 have hki:(k:Int)<(l.length:Int):=by omega
 have e0:=FX.out.get0 f0
 have HBEF:=Hd (qe hk)
 obtain ⟨f,hf⟩:∃ f,f=l[k]:=⟨_,rfl⟩
 have HFK:=Hd hf
 rw [← hf] at f0 f1 hnm hpl HP e0 HBEF ⊢
 clear gh g1 g2 hget hA hf
 obtain ⟨z,hz⟩:∃ z,dT ((cg l).take k) f=z:=⟨_,rfl⟩
 rw [hz]
 have HZZ:=Hd hz
 clear hz
 obtain ⟨ib,hib⟩:∃ v,eu f.name=v:=⟨_,rfl⟩
 have HI:=Hd hib
 clear hib
 go_enter Tryz.func85,Tryz.ntmps85
 go_wp2_with (first
  | (refine wpList_load_mid rfl 72 _ rfl b (p+k * 19) rfl fs _ HR.out Tryz.underlying72 rfl hlf.out ?_)
  | (refine ak rfl 72 _ _ rfl _ fs.toArray rfl rfl hlf2.out h19.out hone.out ?_))
 refine (wg f.name _ hnm.out).mono ?_
 rintro e w1 ⟨rfl,hb1⟩
 rw [HI.out]
 have HB1:=Hd (ae HW.out hb1)
 have F1:=Hd (FX.out.then hb1 hwr.out)
 have hw1:=Hd (Nat.lt_of_lt_of_le hwr.out hb1.size)
 clear hb1 e0
 cases ib
 case false =>
  have HR:=Hd (show z=16 by rw [← HZZ.out,p4 HI.out])
  go_wp2_with fail
  go_ret
  exact ⟨by rw [HR.out];rfl,HB1.out⟩
 have e1:=F1.out.get0 f1
 by_cases h8:8<f.params.length
 ·have HR:=Hd (show z=10 by rw [← HZZ.out,iM HI.out (sD h8) (by decide)])
  go_wp2_with fail
  go_ret
  exact ⟨by rw [HR.out];rfl,HB1.out⟩
 have H8:=Hd (wh h8)
 have hp8:f.params.length≤8:=by omega
 clear h8
 go_wp2_with fail
 go_simp
 go_loopw [6] (fun i w2=>∃ (k2:Nat),k2≤f.params.length∧i=.int .i64 k2∧Hid (fX f.params=paE f.params k2)∧Hid (Below w1.heap.size w1 w2)) (fun i _=>f.params.length-(intOf i).toNat)
 case atStart=>exact ⟨0,by omega,rfl,H8,Hd (Below.refl _ _)⟩
 case round =>
  obtain ⟨w2,rfl⟩:∃ w2,w2=wr:=⟨wr,rfl⟩
  clear e1
  obtain ⟨k2,hk2,rfl,HPP,B2⟩:=hrel
  have F2:=Hd (F1.out.then B2.out hw1.out)
  have HB2:=Hd (HB1.out.trans (B2.out.mono HB1.out.size))
  have d1:=F2.out.get0 f1
  by_cases hlt2:k2<f.params.length
  case pos =>
   obtain ⟨b2,p2,rfl,hp2,hpar⟩:=HP.out.get (by intro h;simp [h] at hlt2)
   have PB:=Hd (show Below B w w2 from HB2.out.mono hB)
   have GP:=Hd hpar
   have q0:=((hpar k2 hlt2).2.below PB.out hp2).get0' rfl
   have hn2:=Hd (show (f.params[k2]).name.size≤maxLen by have:=(hpar k2 hlt2).1;unfold maxLen;omega)
   clear hpar
   obtain ⟨pb,hpb⟩:∃ v,aC (f.params[k2]).name=v:=⟨_,rfl⟩
   have HPB:=Hd hpb
   clear hpb
   go_wp2_with fail
   refine (js _ _ hn2.out).mono ?_
   rintro e w' ⟨rfl,rfl⟩
   rw [HPB.out]
   cases pb
   case false =>
    have HR:=Hd (show z=16 by rw [← HZZ.out,iM HI.out (HPP.out.trans (oc hlt2 HPB.out)) (by decide)])
    go_wp2_with fail
    go_ret
    exact ⟨by rw [HR.out];rfl,HB2.out⟩
   go_wp2_with fail
   go_simp
   go_loopw [7] (fun i w3=>∃ (k3:Nat),k3≤k2∧i=.int .i64 k3∧Hid (∀ j (hj:j<k3) (hl:j<f.params.length),(f.params[j].name.toList==f.params[k2].name.toList)=false)∧∃ q,w3=w2.drewN q) (fun i _=>k2-(intOf i).toNat)
   case atStart=>exact ⟨0,by omega,rfl,Hd fun j hj=>absurd hj (by omega),0,rfl⟩
   case round =>
    obtain ⟨k3,hk3,rfl,HNE,q,rfl⟩:=hrel
    by_cases hlt3:k3<k2
    case pos =>
     have hlt4:k3<f.params.length:=by omega
     have q1:=((GP.out k3 hlt4).2.below PB.out hp2).get0' rfl
     cases he:(f.params[k3].name.toList==f.params[k2].name.toList)
     ·have HN3:=Hd (show ∀ j (hj:j<k3+1) (hl:j<f.params.length),(f.params[j].name.toList==f.params[k2].name.toList)=false from fun j hj hl=>by
       by_cases hjk:j=k3
       ·subst hjk;exact he
       ·exact HNE.out j (by omega) hl)
      go_wp2_with fail
      go_quiet (fail)
      go_wp2_with fail
      go_roundw
      case rel=>exact ⟨k3+1,by omega,by go_num,HN3,_,rfl⟩
      case measure=>simp [intOf];omega
     ·have HR:=Hd (show z=8 by rw [← HZZ.out,iM HI.out (HPP.out.trans (AM hlt2 HPB.out hlt3 he)) (by decide)])
      go_wp2_with fail
      go_quiet (fail)
      go_wp2_with fail
      go_ret
      exact ⟨by rw [HR.out];rfl,HB2.out.trans ((eV ⟨_,World.drewN_drewN _ _ _⟩).mono HB2.out.size)⟩
    case neg =>
     have HPN:=Hd (HPP.out.trans (pG hlt2 HPB.out (fun j hj=>HNE.out j (by omega) (by omega))))
     go_wp2_with fail
     go_roundw
     case rel=>exact ⟨k2+1,by omega,by go_num,HPN,Hd (ae B2.out (below_drewN _ _))⟩
     case measure=>simp [intOf];omega
  case neg =>
   have HP0:=Hd (show fX f.params=0 by rw [HPP.out,show k2=f.params.length by omega,lk])
   have d0:=F2.out.get0 f0
   go_wp2_with fail
   refine (ig l f.name _ c _ B N (by omega) (av.below (HB2.out.mono hB) _ HAA.out)).mono ?_
   rintro e w' ⟨rfl,rfl⟩
   by_cases hlt:fQ l f.name<(k:Int)
   ·have HR:=Hd (show z=8 by rw [← HZZ.out,s8 HI.out HP0.out (by rw [HBEF.out];simpa using hlt)])
    go_wp2_with fail
    go_ret
    exact ⟨by rw [HR.out];rfl,HB2.out⟩
   ·have HR:=Hd (show z=0 by rw [← HZZ.out,s9 HI.out HP0.out (by rw [HBEF.out];simpa using hlt)])
    go_wp2_with fail
    go_ret
    exact ⟨by rw [HR.out];rfl,HB2.out⟩
end Go.Proofs.YtiefeajappjnbaaGreatDoor

/- The reference's node of a checked program: datakitref38.names.node. -/
namespace Go.Proofs.YtiefeajappjnbaaGreatDoor
open Go.RowKit
structure iX (wl:List Value) (w u:World) (xs cs zs:List Value):Prop where
 r1:aj u w.heap.size 0 wl
 box:u.heap[w.heap.size+1]?=some (.cells xs.toArray 34 (0,0))
 r3:aj u (w.heap.size+2) 0 cs
 out:u.heap[w.heap.size+3]?=some (.cells zs.toArray 34 (0,0))
 low:Below w.heap.size w u
 size:w.heap.size+4≤u.heap.size
theorem iX.start (wl:List Value) (tW tS:TypeId) (w:World) (xs cs zs:List Value):iX wl w ((((w.alloc (.cells wl.toArray tW)).alloc (.cells xs.toArray 34)).alloc (.cells cs.toArray tS)).alloc (.cells zs.toArray 34)) xs cs zs:=by
 have h:=dK.start wl tW tS 34 34 w xs cs zs
 have s1:(w.alloc (.cells wl.toArray tW)).heap.size=w.heap.size+1:=World.size_alloc _ _
 have s2:((w.alloc (.cells wl.toArray tW)).alloc (.cells xs.toArray 34)).heap.size=w.heap.size+2:=by rw [World.size_alloc,s1]
 have s3:(((w.alloc (.cells wl.toArray tW)).alloc (.cells xs.toArray 34)).alloc (.cells cs.toArray tS)).heap.size=w.heap.size+3:=by rw [World.size_alloc,s2]
 refine ⟨h.r1,?_,fun j hj=>?_,h.out,h.low,h.size⟩
 ·have h3:=heap_alloc_new (w.alloc (.cells wl.toArray tW)) (.cells xs.toArray 34)
  rw [s1] at h3
  exact (heap_alloc_old _ _ (by rw [s3];omega)).trans ((heap_alloc_old _ _ (by rw [s2];omega)).trans h3)
 ·have:=h.scp (j:=j) (v:=cs[j]) (List.getElem?_eq_getElem hj)
  rw [Nat.zero_add,this,List.getElem?_eq_getElem hj]
theorem iX.below {wl:List Value} {w u u':World} {xs cs zs:List Value} (h:iX wl w u xs cs zs) (hb:Below u.heap.size u u'):iX wl w u' xs cs zs :=
 ⟨h.r1.below hb (by have:=h.size;omega),(hb.block _ (by have:=h.size;omega)).trans h.box,h.r3.below hb (by have:=h.size;omega),(hb.block _ (by have:=h.size;omega)).trans h.out,ae h.low hb,Nat.le_trans h.size hb.size⟩
theorem iX.cell {wl:List Value} {w u:World} {xs cs zs:List Value} (h:iX wl w u xs cs zs) {j:Nat} {v:Value} (hv:xs[j]?=some v):u.cell? ⟨w.heap.size+1,j,none⟩=some v:=by
 rw [cell_of_row u (w.heap.size+1) j _ _ _ h.box];simpa using hv
theorem iX.range {wl:List Value} {w u:World} {xs cs zs:List Value} (h:iX wl w u xs cs zs):u.rangeAt (w.heap.size+1) 0 xs:=fun j v hv=>by rw [Nat.zero_add];exact h.cell hv
theorem iX.frozen {wl:List Value} {w u:World} {xs cs zs:List Value} (h:iX wl w u xs cs zs) (j:Nat):u.frozen? ⟨w.heap.size+1,j,none⟩=false:=frozen_of_row u (w.heap.size+1) j _ _ h.box
theorem iX.setSame {wl:List Value} {w u:World} {xs cs zs:List Value} (h:iX wl w u xs cs zs) {j:Nat} {v:Value} (hv:xs[j]?=some v):iX wl w (u.setCell ⟨w.heap.size+1,j,none⟩ v) xs cs zs:=by
 have hc:∀ b o ys,b≠w.heap.size+1→aj u b o ys→aj (u.setCell ⟨w.heap.size+1,j,none⟩ v) b o ys:=fun b o ys hb hy k hk=>by
  rw [← hy k hk]
  simp only [World.cell?]
  rw [heap_setCell_other _ _ _ _ (by simpa using hb)]
 refine ⟨hc _ _ _ (by omega) h.r1,?_,hc _ _ _ (by omega) h.r3,(heap_setCell_other _ _ _ _ (by simp)).trans h.out,h.low.trans (iv _ _ _ (by omega)),by have:=h.size;simpa using this⟩
 rw [heap_setCell_same u (w.heap.size+1) j _ _ _ h.box]
 simp [vY hv]
structure vx (l:List al) (fa:Option Addr) (B N:Nat) (w:World):Prop where
 fn:av w B N l fa
 size:B≤w.heap.size
 tab:cI w
theorem vx.then {l:List al} {fa:Option Addr} {B N:Nat} {w w':World} (h:vx l fa B N w) (hb:Below w.heap.size w w'):vx l fa B N w':=⟨av.below (hb.mono h.size) _ h.fn,Nat.le_trans h.size hb.size,h.tab.below hb⟩
def DF (xs:List Value) (z:Int) (w:World) (e:Ending) (w':World):Prop:=e=.returned (.tuple #[.agg xs.toArray,.int .i64 z])∧Below w.heap.size w w'
set_option maxRecDepth 100000 in
set_option maxHeartbeats 6400000 in
theorem Bw (l:List al) (fa:Option Addr) (fc BE NE:Nat) (x:ag) (xs:List Value) (d:ScD) (cs:List Value) (w:World) (lo B B1 C N:Nat) (hll:l.length≤65536) (hC:C≤536870912) (hB:B≤w.heap.size) (hE:vx l fa BE NE w) (hg:dY d) (h:ScD.At w lo B C d cs) (hx:ag.At w B1 N x xs) :
 Calls Tryz.prog 127 #[.agg (nmC fa l.length fc).toArray,.agg xs.toArray,.agg cs.toArray] w (DF xs (fo (b5 l) x d) w):=by
 obtain ⟨aa,fb,ac,fd,vs,hh⟩:=hx.has
 have c0:=hh.op
 have c1:=hh.name
 have c15:=hh.args
 have hal:x.args.length≤N:=hh.own.2.2.1
 have HD:=Hd h
 have HE:=Hd hE
 have HG:=Hd hg
 have hsz:=Hd (show (Tryz.prog.info? 134).map (·.size)=some cs.length by rw [h.len];kernel_rfl)
 have hsx:=Hd (show (Tryz.prog.info? 34).map (·.size)=some xs.length by rw [hx.len];exact ay)
 have hsx2:=Hd (show (Tryz.prog.info? 34).map (·.size)=some xs.toArray.size by rw [List.size_toArray,hx.len];exact ay)
 have h17:=Hd (show bt.toArray.size=xs.toArray.size by rw [List.size_toArray,List.size_toArray,hx.len];rfl)
 have hsn:=Hd (show (Tryz.prog.info? 128).map (·.size)=some (nmC fa l.length fc).length by kernel_rfl)
 have HXO:=Hd (show xs.toArray.all (·.oneCell')=true from Go.all_oneCell_toArray hx.one)
 have B0:=Hd (show iX (nmC fa l.length fc) w ((((w.alloc (.cells (nmC fa l.length fc).toArray 128)).alloc (.cells xs.toArray 34)).alloc (.cells cs.toArray 134)).alloc (.cells zE0 34)) xs cs bt from iX.start (nmC fa l.length fc) 128 134 w xs cs bt)
 have e0:=B0.out.cell c0
 have e1:=B0.out.cell c1
 obtain ⟨z,hz⟩:∃ z,fo (b5 l) x d=z:=⟨_,rfl⟩
 rw [hz]
 have HZ:=Hd hz
 clear hh hx h hE hg hz
 by_cases h4:x.op=4
 ·have HZ2:=Hd ((wv (R:=b5 l) (d:=d) h4).symm.trans HZ.out)
  rw [h4] at e0
  clear h4
  obtain ⟨va,la,ga,vc,lc,gc,rfl,hv,_,_,k1,_⟩:=HD.out
  have HN:=Hd (hv.keep (a7.of_below (B0.out.low.mono hB)))
  have hvl:d.vs.length≤1099511627776:=by omega
  have e2:=B0.out.r3.get0 (j:=0) (v:=.slice va d.vs.length vc) rfl
  clear hv k1
  go_enter Tryz.func127,Tryz.ntmps127
  go_wp2_with fail
  refine (AZ d.vs x.name va vc _ lo B hvl HN.out).mono ?_
  rintro e u1 ⟨rfl,rfl⟩
  cases hm:iV d.vs x.name
  ·have HR:=Hd (show z=16 by rw [← HZ2.out,hm];rfl)
   clear hm
   go_wp2_with (first
    | (refine wpList_load_mid rfl 34 _ rfl (w.heap.size+1) 0 rfl xs _ B0.out.range Tryz.underlying34 rfl hsx.out ?_)
    | (refine wpList_store_row rfl 34 _ _ rfl (w.heap.size+1+1+1) xs.toArray rfl rfl 34 _ B0.out.out hsx2.out h17.out HXO.out ?_))
   have Z7:=setRow_heap _ (w.heap.size+3) _ xs.toArray _ _ B0.out.out
   refine bodyPost_ret (ap rfl _ _ (w.heap.size+1+1+1) 34 _ (0,0) _ rfl Z7 Tryz.underlying34 rfl hsx2.out) rfl ?_
   exact ⟨by rw [HR.out];rfl,B0.out.low.trans (aM _ _ (by omega))⟩
  ·have HR:=Hd (show z=0 by rw [← HZ2.out,hm];rfl)
   clear hm
   go_wp2_with (first
    | (refine wpList_load_mid rfl 34 _ rfl (w.heap.size+1) 0 rfl xs _ B0.out.range Tryz.underlying34 rfl hsx.out ?_)
    | (refine wpList_store_row rfl 34 _ _ rfl (w.heap.size+1+1+1) xs.toArray rfl rfl 34 _ B0.out.out hsx2.out h17.out HXO.out ?_))
   have Z7:=setRow_heap _ (w.heap.size+3) _ xs.toArray _ _ B0.out.out
   refine bodyPost_ret (ap rfl _ _ (w.heap.size+1+1+1) 34 _ (0,0) _ rfl Z7 Tryz.underlying34 rfl hsx2.out) rfl ?_
   exact ⟨by rw [HR.out];rfl,B0.out.low.trans (aM _ _ (by omega))⟩
 have d4:(x.op==4)=false:=by simpa using h4
 by_cases h27:x.op=27
 ·have HZ2:=Hd ((sJ (R:=b5 l) (d:=d) h27).symm.trans HZ.out)
  rw [h27] at e0
  clear h27 d4 h4
  obtain ⟨va,la,ga,vc,lc,gc,rfl,_,hv,_,_,k1,_⟩:=HD.out
  have HN:=Hd (hv.keep (a7.of_below (B0.out.low.mono hB)))
  have hvl:d.ls.length≤1099511627776:=by omega
  have e2:=B0.out.r3.get0 (j:=1) (v:=.slice la d.ls.length lc) rfl
  clear hv k1
  go_enter Tryz.func127,Tryz.ntmps127
  go_wp2_with fail
  refine (AZ d.ls x.name la lc _ lo B hvl HN.out).mono ?_
  rintro e u1 ⟨rfl,rfl⟩
  cases hm:iV d.ls x.name
  ·have HR:=Hd (show z=16 by rw [← HZ2.out,hm];rfl)
   clear hm
   go_wp2_with (first
    | (refine wpList_load_mid rfl 34 _ rfl (w.heap.size+1) 0 rfl xs _ B0.out.range Tryz.underlying34 rfl hsx.out ?_)
    | (refine wpList_store_row rfl 34 _ _ rfl (w.heap.size+1+1+1) xs.toArray rfl rfl 34 _ B0.out.out hsx2.out h17.out HXO.out ?_))
   have Z7:=setRow_heap _ (w.heap.size+3) _ xs.toArray _ _ B0.out.out
   refine bodyPost_ret (ap rfl _ _ (w.heap.size+1+1+1) 34 _ (0,0) _ rfl Z7 Tryz.underlying34 rfl hsx2.out) rfl ?_
   exact ⟨by rw [HR.out];rfl,B0.out.low.trans (aM _ _ (by omega))⟩
  ·have HR:=Hd (show z=0 by rw [← HZ2.out,hm];rfl)
   clear hm
   go_wp2_with (first
    | (refine wpList_load_mid rfl 34 _ rfl (w.heap.size+1) 0 rfl xs _ B0.out.range Tryz.underlying34 rfl hsx.out ?_)
    | (refine wpList_store_row rfl 34 _ _ rfl (w.heap.size+1+1+1) xs.toArray rfl rfl 34 _ B0.out.out hsx2.out h17.out HXO.out ?_))
   have Z7:=setRow_heap _ (w.heap.size+3) _ xs.toArray _ _ B0.out.out
   refine bodyPost_ret (ap rfl _ _ (w.heap.size+1+1+1) 34 _ (0,0) _ rfl Z7 Tryz.underlying34 rfl hsx2.out) rfl ?_
   exact ⟨by rw [HR.out];rfl,B0.out.low.trans (aM _ _ (by omega))⟩
 have d27:(x.op==27)=false:=by simpa using h27
 by_cases h21:x.op=21
 ·have HZ2:=Hd ((sK (R:=b5 l) (d:=d) h21).symm.trans HZ.out)
  rw [h21] at e0
  clear h21 d4 d27 h4 h27
  go_enter Tryz.func127,Tryz.ntmps127
  go_wp2_with (refine wpList_load_mid rfl 134 _ rfl (w.heap.size+1+1) 0 rfl cs _ B0.out.r3.range Tryz.underlying134 rfl hsz.out ?_)
  refine (zM d x.name cs _ lo B C hC (Nat.le_trans hB B0.out.low.size) (HD.out.keep (a7.of_below (B0.out.low.mono hB)))).mono ?_
  obtain ⟨n,hn⟩:∃ n,ci d.gs x.name=n:=⟨_,rfl⟩
  have HF:=Hd hn
  unfold DI
  rw [hn]
  clear hn
  rintro e u1 ⟨rfl,hb1⟩
  have B1:=Hd (B0.out.below hb1)
  clear hb1 e0 e1 B0
  have e1:=B1.out.cell c1
  have e15:=B1.out.cell c15
  by_cases hn0:0≤n
  ·by_cases hna:n=(x.args.length:Int)
   ·have HR:=Hd (show z=0 by rw [← HZ2.out,j8 (n:=n) HF.out hn0,ka hna])
    have hna1:(n != (x.args.length:Int))=false:=by simpa using hna
    have hna2:(n==(x.args.length:Int))=true:=by simpa using hna
    clear hna
    go_wp2_with (first
     | (refine wpList_load_mid rfl 34 _ rfl (w.heap.size+1) 0 rfl xs _ B1.out.range Tryz.underlying34 rfl hsx.out ?_)
     | (refine wpList_store_row rfl 34 _ _ rfl (w.heap.size+1+1+1) xs.toArray rfl rfl 34 _ B1.out.out hsx2.out h17.out HXO.out ?_))
    have Z7:=setRow_heap u1 (w.heap.size+3) _ xs.toArray _ _ B1.out.out
    refine bodyPost_ret (ap rfl _ _ (w.heap.size+1+1+1) 34 _ (0,0) _ rfl Z7 Tryz.underlying34 rfl hsx2.out) rfl ?_
    exact ⟨by rw [HR.out];rfl,B1.out.low.trans (aM _ _ (by omega))⟩
   ·have HR:=Hd (show z=17 by rw [← HZ2.out,j8 (n:=n) HF.out hn0,iS hna])
    have hna1:(n != (x.args.length:Int))=true:=by simpa using hna
    have hna2:(n==(x.args.length:Int))=false:=by simpa using hna
    clear hna
    go_wp2_with (first
     | (refine wpList_load_mid rfl 34 _ rfl (w.heap.size+1) 0 rfl xs _ B1.out.range Tryz.underlying34 rfl hsx.out ?_)
     | (refine wpList_store_row rfl 34 _ _ rfl (w.heap.size+1+1+1) xs.toArray rfl rfl 34 _ B1.out.out hsx2.out h17.out HXO.out ?_))
    have Z7:=setRow_heap u1 (w.heap.size+3) _ xs.toArray _ _ B1.out.out
    refine bodyPost_ret (ap rfl _ _ (w.heap.size+1+1+1) 34 _ (0,0) _ rfl Z7 Tryz.underlying34 rfl hsx2.out) rfl ?_
    exact ⟨by rw [HR.out];rfl,B1.out.low.trans (aM _ _ (by omega))⟩
  ·have HF1:=Hd (show ci d.gs x.name=-1 by
    by_cases h1:n=-1
    ·rw [HF.out,h1]
    ·exfalso
     obtain ⟨g,hg,_,h2⟩:=uQ (gs:=d.gs) (s:=x.name) (by rw [HF.out];exact h1)
     have h3:=(HG.out g hg).2
     rw [← h2,HF.out] at h3
     exact hn0 h3)
   have HE1:=Hd (HE.out.then B1.out.low)
   go_wp2_with (refine wpList_load_mid rfl 128 _ rfl w.heap.size 0 rfl (nmC fa l.length fc) _ B1.out.r1.range Tryz.underlying128 rfl hsn.out ?_)
   refine (uj l fa fc x.name _ BE NE hll HE1.out.size HE1.out.tab HE1.out.fn).mono ?_
   rintro e u2 ⟨k,b,rfl,hr,hk0,hb2⟩
   have HRR:=Hd hr
   have B2:=Hd (B1.out.below hb2)
   clear hb2 hr e1 e15 B1
   have e1:=B2.out.cell c1
   have e15:=B2.out.cell c15
   cases b
   case false =>
    have HR:=Hd (show z=16 by rw [← HZ2.out,tL HF1.out HRR.out])
    go_wp2_with (first
     | (refine wpList_load_mid rfl 34 _ rfl (w.heap.size+1) 0 rfl xs _ B2.out.range Tryz.underlying34 rfl hsx.out ?_)
     | (refine wpList_store_row rfl 34 _ _ rfl (w.heap.size+1+1+1) xs.toArray rfl rfl 34 _ B2.out.out hsx2.out h17.out HXO.out ?_))
    have Z7:=setRow_heap u2 (w.heap.size+3) _ xs.toArray _ _ B2.out.out
    refine bodyPost_ret (ap rfl _ _ (w.heap.size+1+1+1) 34 _ (0,0) _ rfl Z7 Tryz.underlying34 rfl hsx2.out) rfl ?_
    exact ⟨by rw [HR.out];rfl,B2.out.low.trans (aM _ _ (by omega))⟩
   case true =>
    by_cases hna:k=(x.args.length:Int)
    ·have HR:=Hd (show z=0 by rw [← HZ2.out,iQ (n:=k) HF1.out HRR.out hk0,ka hna])
     have hna1:(k != (x.args.length:Int))=false:=by simpa using hna
     have hna2:(k==(x.args.length:Int))=true:=by simpa using hna
     have fz:=B2.out.frozen 1
     have B3:=Hd (B2.out.setSame c1)
     clear hna
     go_wp2_with (first
      | (refine wpList_load_mid rfl 34 _ rfl (w.heap.size+1) 0 rfl xs _ B3.out.range Tryz.underlying34 rfl hsx.out ?_)
      | (refine wpList_store_row rfl 34 _ _ rfl (w.heap.size+1+1+1) xs.toArray rfl rfl 34 _ B3.out.out hsx2.out h17.out HXO.out ?_))
     have Z7:=setRow_heap _ (w.heap.size+3) _ xs.toArray _ _ B3.out.out
     refine bodyPost_ret (ap rfl _ _ (w.heap.size+1+1+1) 34 _ (0,0) _ rfl Z7 Tryz.underlying34 rfl hsx2.out) rfl ?_
     exact ⟨by rw [HR.out];rfl,B3.out.low.trans (aM _ _ (by omega))⟩
    ·have HR:=Hd (show z=17 by rw [← HZ2.out,iQ (n:=k) HF1.out HRR.out hk0,iS hna])
     have hna1:(k != (x.args.length:Int))=true:=by simpa using hna
     have hna2:(k==(x.args.length:Int))=false:=by simpa using hna
     clear hna
     go_wp2_with (first
      | (refine wpList_load_mid rfl 34 _ rfl (w.heap.size+1) 0 rfl xs _ B2.out.range Tryz.underlying34 rfl hsx.out ?_)
      | (refine wpList_store_row rfl 34 _ _ rfl (w.heap.size+1+1+1) xs.toArray rfl rfl 34 _ B2.out.out hsx2.out h17.out HXO.out ?_))
     have Z7:=setRow_heap u2 (w.heap.size+3) _ xs.toArray _ _ B2.out.out
     refine bodyPost_ret (ap rfl _ _ (w.heap.size+1+1+1) 34 _ (0,0) _ rfl Z7 Tryz.underlying34 rfl hsx2.out) rfl ?_
     exact ⟨by rw [HR.out];rfl,B2.out.low.trans (aM _ _ (by omega))⟩
 ·have HR:=Hd (show z=0 by rw [← HZ.out];exact sI h21 h4 h27)
  have d21:(x.op==21)=false:=by simpa using h21
  clear h21 h27 h4
  go_enter Tryz.func127,Tryz.ntmps127
  go_wp2_with (first
   | (refine wpList_load_mid rfl 34 _ rfl (w.heap.size+1) 0 rfl xs _ B0.out.range Tryz.underlying34 rfl hsx.out ?_)
   | (refine wpList_store_row rfl 34 _ _ rfl (w.heap.size+1+1+1) xs.toArray rfl rfl 34 _ B0.out.out hsx2.out h17.out HXO.out ?_))
  have Z7:=setRow_heap _ (w.heap.size+3) _ xs.toArray _ _ B0.out.out
  refine bodyPost_ret (ap rfl _ _ (w.heap.size+1+1+1) 34 _ (0,0) _ rfl Z7 Tryz.underlying34 rfl hsx2.out) rfl ?_
  exact ⟨by rw [HR.out];rfl,B0.out.low.trans (aM _ _ (by omega))⟩
end Go.Proofs.YtiefeajappjnbaaGreatDoor
