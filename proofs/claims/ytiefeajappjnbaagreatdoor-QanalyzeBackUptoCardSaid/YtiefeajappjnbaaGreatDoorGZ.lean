/- The program's check of a program: module.Check. -/
import Derived.Test.YtiefeajappjnbaaGreatDoorGA
import Derived.Test.YtiefeajappjnbaaGreatDoorVis39
import Derived.Test.YtiefeajappjnbaaGreatDoorGY
import Derived.Test.YtiefeajappjnbaaGreatDoorHE
import Derived.Test.YtiefeajappjnbaaGreatDoorHA
namespace Go.Proofs.YtiefeajappjnbaaGreatDoor
open Go.RowKit
def hU:ScD:=⟨[],[],[]⟩
def fnC (l:List al) (k:Nat) (f:al):Int:=if dT ((cg l).take k) f≠0 then dT ((cg l).take k) f else if eH f.body≠0 then eH f.body else gT (b5 l) 47 f.body (hU.par f.params)
def chF (l:List al) (k:Nat):Int:=kA (((List.range l.length).drop k).map fun i=>fnC l i (l.getD i default))
def dP (l:List al) (x:ag):Int:=if 256<l.length then 10 else if chF l 0≠0 then chF l 0 else if eH x≠0 then eH x else gT (b5 l) 47 x hU
def jJ (l:List al) (x:ag) (k:Nat):Int:=if chF l k≠0 then chF l k else if eH x≠0 then eH x else gT (b5 l) 47 x hU
theorem sF {l:List al} {x:ag} (h:256<l.length):dP l x=10:=by unfold dP;rw [if_pos h]
theorem wi {l:List al} {x:ag} (h:¬ 256<l.length):dP l x=jJ l x 0:=by unfold dP;rw [if_neg h];rfl
theorem mv {l:List al} {k:Nat} (h:k<l.length):chF l k=if fnC l k l[k]≠0 then fnC l k l[k] else chF l (k+1):=by
 unfold chF
 rw [List.drop_eq_getElem_cons (by simpa using h)]
 simp only [List.getElem_range,List.map_cons,kA,List.getD_eq_getElem?_getD,List.getElem?_eq_getElem h,Option.getD_some]
theorem Aw (l:List al):chF l l.length=0:=by
 unfold chF
 rw [List.drop_eq_nil_of_le (by simp)]
 rfl
theorem nk {l:List al} {x:ag} {k:Nat} {z:Int} (h:k<l.length) (hf:fnC l k l[k]=z) (hz:z≠0):jJ l x k=z:=by
 unfold jJ
 rw [mv h,hf,if_pos hz,if_pos hz]
theorem sE {l:List al} {x:ag} {k:Nat} (h:k<l.length) (hf:fnC l k l[k]=0):jJ l x k=jJ l x (k+1):=by
 unfold jJ
 have e:chF l k=chF l (k+1):=by rw [mv h,hf,if_neg (by decide)]
 rw [e]
theorem pB {l:List al} {x:ag}:jJ l x l.length=if eH x≠0 then eH x else gT (b5 l) 47 x hU:=by
 unfold jJ
 rw [Aw,if_neg (by decide)]
theorem jZ {l:List al} {k:Nat} {f:al} {z:Int} (h:dT ((cg l).take k) f=z) (hz:z≠0):fnC l k f=z:=by unfold fnC;rw [h,if_pos hz]
theorem tq {l:List al} {k:Nat} {f:al} {z:Int} (h:dT ((cg l).take k) f=0) (he:eH f.body=z) (hz:z≠0):fnC l k f=z:=by unfold fnC;rw [h,if_neg (by decide),he,if_pos hz]
theorem tp {l:List al} {k:Nat} {f:al} {z:Int} (h:dT ((cg l).take k) f=0) (he:eH f.body=0) (hv:gT (b5 l) 47 f.body (hU.par f.params)=z):fnC l k f=z:=by unfold fnC;rw [h,if_neg (by decide),he,if_neg (by decide),hv]
theorem dY.nil:dY hU:=fun g hg=>by cases hg
theorem sC {l:List aZ} (h:fX l=0):∀ p∈l,iq p.name=false:=by
 intro p hp
 unfold fX at h
 split at h
 ·cases h
 ·rw [nq] at h
  exact ku (jk aC l [] h p hp)
theorem p3 {L:List ByteArray} {f:al} (h:dT L f=0):fX f.params=0:=by
 unfold dT at h
 split at h
 ·cases h
 ·split at h
  ·rename_i hz;exact absurd h hz
  ·rename_i hz;exact Classical.not_not.1 hz
theorem yE (l:List al) (k:Nat) (s:ByteArray):decide (s.data.toList∈cu ((cg l).take k))=((cg l).take k).any (fun t=>t.toList==s.toList):=gW _ s
set_option maxRecDepth 100000 in
set_option maxHeartbeats 6400000 in
theorem tF (l:List al) (x:ag) (fa:Option Addr) (fc:Nat) (ms cs:List Value) (w:World) (B N:Nat) (hN:N≤1048576) (h4:4≤B) (hB:B≤w.heap.size) (hE:Env w) (hT:cI w) (hsl:gY l) (hsx:cc x) (hA:av w B N l fa) (hx:ag.At w B N x ms) (hcs:cs=.slice fa l.length fc::ms) :
 Calls Tryz.prog 45 #[.agg cs.toArray] w (gK (dP l x) w):=by
 have HX:=Hd hx
 have HA:=Hd hA
 have HSL:=Hd hsl
 have HSX:=Hd hsx
 have HE:=Hd hE
 have HT:=Hd hT
 have c0:cs[0]?=some (.slice fa l.length fc):=by rw [hcs];rfl
 have hml:ms.length=17:=hx.len
 have HCL:=Hd (show cs.length=18 by rw [hcs];simp [hml])
 have HMS:=Hd (show (cs.drop 1).take 17=ms by rw [hcs];exact List.take_of_length_le (show ms.length≤17 by omega))
 have hlp:=Hd (show (Tryz.prog.info? 61).map (·.size)=some cs.length by rw [HCL.out];kernel_rfl)
 have hlm:=Hd (show (Tryz.prog.info? 34).map (·.size)=some ms.length by rw [hml];exact ay)
 have R0:=Hd (aA w cs 61)
 have B0:=Hd (af w (.cells cs.toArray 61))
 have hs0:=Hd (show w.heap.size<(w.alloc (.cells cs.toArray 61)).heap.size by rw [World.size_alloc];omega)
 have e0:=R0.out.get0 c0
 clear hx hA hsl hsx hE hT hcs hml
 by_cases hbig:256<l.length
 ·have HR:=Hd (sF (x:=x) hbig)
  have hb1:(256:Int)<(l.length:Int):=by omega
  go_enter Tryz.func45,Tryz.ntmps45
  go_wp2_with fail
  go_ret
  exact ⟨by rw [HR.out];rfl,B0.out⟩
 have HZ0:=Hd (wi (x:=x) hbig)
 have hll:l.length≤256:=by omega
 have hb1:¬ (256:Int)<(l.length:Int):=by omega
 clear hbig
 obtain ⟨z,hz⟩:∃ z,dP l x=z:=⟨_,rfl⟩
 have HZ1:=Hd (show z=jJ l x 0 by rw [← hz];exact HZ0.out)
 rw [hz]
 clear hz HZ0
 go_enter Tryz.func45,Tryz.ntmps45
 go_wp2_with (refine wpList_load_mid rfl 61 _ rfl w.heap.size 0 rfl cs _ R0.out.range Tryz.underlying61 rfl hlp.out ?_)
 refine (uk l fa fc cs _ B N hN (by omega) (Nat.le_trans hB B0.out.size) (av.below (B0.out.mono hB) _ HA.out) c0).mono ?_
 rintro e wA ⟨ab,pb,rfl,hr1,hb⟩
 unfold zr
 have B1:=Hd (ae B0.out hb)
 have R1:=Hd (R0.out.then hb hs0.out)
 have hs1:=Hd (Nat.lt_of_lt_of_le hs0.out hb.size)
 have HRS:=Hd (hr1.then (af wA (.cells (cb ab pb).toArray 140)))
 clear hb hr1 e0 R0 hs0
 have HBW:=Hd (af wA (.cells (cb ab pb).toArray 140))
 have RW:=Hd (aA wA (cb ab pb) 140)
 have hsw:=Hd (show (Tryz.prog.info? 140).map (·.size)=some (cb ab pb).length by kernel_rfl)
 have hsw2:=Hd (show (Tryz.prog.info? 140).map (·.size)=some (cb ab pb).toArray.size by kernel_rfl)
 have h2w:=Hd (show 2=(cb ab pb).toArray.size by rfl)
 have honeW:=Hd (show (cb ab pb).toArray.all (·.oneCell')=true from Go.all_oneCell_toArray (by intro u hu;simp [cb,zr] at hu;rcases hu with rfl | rfl<;>rfl))
 obtain ⟨wB,hwB⟩:∃ wB,wB=wA.alloc (.cells (cb ab pb).toArray 140):=⟨_,rfl⟩
 have hs2:wB.heap.size=wA.heap.size+1:=by rw [hwB];exact World.size_alloc _ _
 have HU2:=Hd hwB
 rw [← hwB] at HBW RW HRS
 have B2:=Hd (ae B1.out HBW.out)
 have R2:=Hd (R1.out.then HBW.out hs1.out)
 have HEW:=Hd (show qR ab pb l B N wB from ⟨HRS.out,HT.out.below B2.out,(HE.out.then B2.out).max⟩)
 have HE2:=Hd (HE.out.then B2.out)
 have e1:=R1.out.get0 c0
 have e2:=R2.out.get0 c0
 have HBM:=Hd (af wB (.map #[] 0))
 have SM:=Hd (bQ.made wB 9 4)
 have e3:=(R2.out.then HBM.out (Nat.lt_of_lt_of_le hs1.out HBW.out.size)).get0 c0
 have HS2:=Hd hs2
 have HWL:=Hd (show w.heap.size<wB.heap.size from Nat.lt_of_lt_of_le hs1.out HBW.out.size)
 clear hwB hs2
 have hmm:=@run_makeMap Tryz.prog
 go_wp2_with (first
  | (refine wpList_load_mid rfl 61 _ rfl w.heap.size 0 rfl cs _ R1.out.range Tryz.underlying61 rfl hlp.out ?_)
  | ((with_reducible show wpList _ _ _ (⟨none,.store 140 _ _,_,_,_,_⟩::_) _ _);refine ak rfl 140 _ _ rfl _ (cb ab pb).toArray rfl rfl hsw2.out h2w.out honeW.out ?_;rw [← HU2.out]))
 clear hmm e1 e2
 go_simp
 go_loopw [25] (fun i wr=>∃ k:Nat,k≤l.length∧i=.int .i64 k∧Hid (z=jJ l x k)∧Hid (Below wB.heap.size wB wr)∧Hid (bQ wr 9 4 wB.heap.size k (cu ((cg l).take k)))∧Hid (wB.heap.size<wr.heap.size)) (fun i _=>l.length-(intOf i).toNat)
 case atStart=>exact ⟨0,by omega,rfl,HZ1,HBM,SM,Hd (by rw [World.size_alloc];omega)⟩
 case round =>
  obtain ⟨w1,rfl⟩:∃ w1,w1=wr:=⟨wr,rfl⟩
  clear e3 HZ1 HBM SM
  obtain ⟨k,hk,rfl,HZ1,HB1,HSM,HS1⟩:=hrel
  have HUP:=Hd (show ∀ u,Below w1.heap.size w1 u→Below wB.heap.size wB u from fun u hu=>HB1.out.trans (hu.mono HB1.out.size))
  have HUW:=Hd (show ∀ u,Below w1.heap.size w1 u→Below w.heap.size w u from fun u hu=>B2.out.trans ((HUP.out u hu).mono B2.out.size))
  by_cases hlt:k<l.length
  case neg =>
   obtain rfl:k=l.length:=by omega
   have R5:=Hd (R2.out.then HB1.out HWL.out)
   have HZK:=Hd (HZ1.out.trans pB)
   have HW1:=Hd (HUW.out _ (Below.refl _ _))
   go_wp2_with (refine wpList_load_mid rfl 34 _ rfl w.heap.size 1 rfl ms _ (R5.out.part HMS.out) Tryz.underlying34 rfl hlm.out ?_)
   refine (tJ x w1 B N ms (by omega) h4 (Nat.le_trans hB HW1.out.size) (HE.out.then HW1.out) HSX.out (ag.At.below (HW1.out.mono hB) _ HX.out)).mono ?_
   obtain ⟨ee,hee⟩:∃ ee,eH x=ee:=⟨_,rfl⟩
   have HEE:=Hd hee
   unfold gK
   rw [hee]
   clear hee
   rintro e w3 ⟨rfl,hb3⟩
   have HW3:=Hd (HUW.out _ hb3)
   have R6:=Hd (R5.out.then hb3 (Nat.lt_of_lt_of_le HWL.out (Nat.le_of_lt HS1.out)))
   have RW3:=Hd (RW.out.then (HUP.out _ hb3) (by rw [HS2.out];omega))
   have HEW3:=Hd (HEW.out.then (HUP.out _ hb3))
   clear hb3
   by_cases hee0:ee=0
   case neg =>
    have HR:=Hd (show z=ee by rw [HZK.out,HEE.out,if_pos hee0])
    have h1:(ee != 0)=true:=by simpa using hee0
    have h2:(ee==0)=false:=by simpa using hee0
    go_wp2_with fail
    go_ret
    exact ⟨by rw [HR.out];rfl,HW3.out⟩
   subst hee0
   obtain ⟨hv,_⟩:=iN HEE.out
   have HV:=Hd (sj ab pb l B N 47 x hv)
   obtain ⟨ev,hev⟩:∃ ev,gT (b5 l) 47 x hU=ev:=⟨_,rfl⟩
   have HEV:=Hd hev
   have HR:=Hd (show z=ev by rw [HZK.out,HEE.out,if_neg (by decide),hev])
   clear hv hev
   go_wp2_with (first
    | (refine wpList_load_mid rfl 34 _ rfl w.heap.size 1 rfl ms _ (R6.out.part HMS.out) Tryz.underlying34 rfl hlm.out ?_)
    | (refine wpList_load_mid rfl 140 _ rfl wA.heap.size 0 rfl (cb ab pb) _ RW3.out.range Tryz.underlying140 rfl hsw.out ?_))
   refine (HV.out w3 0 0 B N 0 ms hU [.slice none 0 0,.slice none 0 0,.slice none 0 0] hN (by omega) (Nat.zero_le _) (Nat.le_trans hB HW3.out.size) (Nat.zero_le _) HEW3.out dY.nil (ScD.At.nil _ _ _ _) (ag.At.below (HW3.out.mono hB) _ HX.out)).mono ?_
   rw [HEV.out]
   rintro e w4 ⟨rs,rfl,hl4,ho4,hb4⟩
   have HW4:=Hd (ae HW3.out hb4)
   have hl42:=Hd (show (Tryz.prog.info? 34).map (·.size)=some rs.toArray.size by rw [List.size_toArray,hl4];exact ay)
   have hl43:=Hd (show 17=rs.toArray.size by rw [List.size_toArray,hl4])
   have HO4:=Hd ho4
   clear hb4 hl4 ho4
   go_wp2_with (refine ak rfl 34 _ _ rfl _ rs.toArray rfl rfl hl42.out hl43.out HO4.out ?_)
   go_ret
   exact ⟨by rw [HR.out];rfl,ae HW4.out (af w4 _)⟩
  obtain ⟨b,p,rfl,hb,hget⟩:=HA.out.get (by intro h;simp [h] at hlt)
  obtain ⟨fs,g1,g2⟩:=hget k hlt
  obtain ⟨pa,pc,es,gh⟩:=g2.has
  have HRF:=Hd (g1.below ((HUW.out _ (Below.refl _ _)).mono hB) hb).range
  have f0:=gh.name
  have f1:=gh.params
  have hlf:=Hd (show (Tryz.prog.info? 72).map (·.size)=some fs.length by rw [gh.len];exact cj)
  have hlf2:=Hd (show (Tryz.prog.info? 72).map (·.size)=some fs.toArray.size by rw [List.size_toArray,gh.len];exact cj)
  have h19:=Hd (show 19=fs.toArray.size by rw [List.size_toArray,gh.len])
  have hone:=Hd (show fs.toArray.all (·.oneCell')=true from Go.all_oneCell_toArray gh.one)
  have hnm:=Hd (show (l[k]).name.size≤1048576 by have:=gh.hn;omega)
  have HP:=Hd gh.atPar
  have HES:=Hd (show (fs.drop 2).take 17=es by rw [gh.body,List.take_of_length_le (by rw [gh.atBody.len];exact Nat.le_refl _)])
  have HEB:=Hd gh.atBody
  have hle:=Hd (show (Tryz.prog.info? 34).map (·.size)=some es.length by rw [gh.atBody.len];exact ay)
  have HF2:=Hd g2
  have FX:=Hd (aA w1 fs 72)
  have BF:=Hd (af w1 (.cells fs.toArray 72))
  have hsf:=Hd (show w1.heap.size<(w1.alloc (.cells fs.toArray 72)).heap.size by rw [World.size_alloc];omega)
  have HSB:=Hd (lJ HSL.out k hlt)
  have HANY:=Hd (yE l k l[k].name)
  have HSN:=Hd (show cu ((cg l).take (k+1))=cu ((cg l).take k)++[l[k].name.data.toList] by
   rw [fU (by rw [cE];exact hlt),dQ hlt])
  have HSTOP:=Hd (show ∀ q:Int,fnC l k l[k]=q→q≠0→z=q from fun q h1 h2=>HZ1.out.trans (nk hlt h1 h2))
  have HGO:=Hd (show fnC l k l[k]=0→z=jJ l x (k+1) from fun h1=>HZ1.out.trans (sE hlt h1))
  clear gh g1 g2 hget
  obtain ⟨f,hf⟩:∃ f,f=l[k]:=⟨_,rfl⟩
  rw [← hf] at f0 f1 hnm HP HEB HF2 HSB HANY HSN HSTOP HGO
  clear hf
  have e0:=FX.out.get0 f0
  obtain ⟨ib,hib⟩:∃ v,eu f.name=v:=⟨_,rfl⟩
  have HI:=Hd hib
  clear hib
  have HWF:=Hd (HUW.out _ BF.out)
  go_wp2_with (first
   | (refine wpList_load_mid rfl 72 _ rfl b (p+k * 19) rfl fs _ HRF.out Tryz.underlying72 rfl hlf.out ?_)
   | (refine ak rfl 72 _ _ rfl _ fs.toArray rfl rfl hlf2.out h19.out hone.out ?_))
  refine (p8 f.name _ (by have:=hnm.out;omega) (HE.out.then HWF.out)).mono ?_
  rintro e w2 ⟨rfl,hb2⟩
  rw [HI.out]
  have B2F:=Hd (ae BF.out hb2)
  have F2:=Hd (FX.out.then hb2 hsf.out)
  have hsf2:=Hd (Nat.lt_of_lt_of_le hsf.out hb2.size)
  clear hb2 e0
  cases ib
  case false =>
   have HR:=Hd (HSTOP.out 16 (jZ (p4 HI.out) (by decide)) (by decide))
   go_wp2_with fail
   go_ret
   exact ⟨by rw [HR.out];rfl,HUW.out _ B2F.out⟩
  have e1:=F2.out.get0 f1
  have HW2:=Hd (HUW.out _ B2F.out)
  obtain ⟨pe,hpe⟩:∃ v,fX f.params=v:=⟨_,rfl⟩
  have HPE:=Hd hpe
  go_wp2_with fail
  refine (un f.params pa pc w2 B N hN (Nat.le_trans hB HW2.out.size) (HE.out.then HW2.out) (aF.below (HW2.out.mono hB) _ HP.out)).mono ?_
  unfold gK
  rw [hpe]
  clear hpe
  rintro e w3 ⟨rfl,hb3⟩
  have B3F:=Hd (ae B2F.out hb3)
  have F3:=Hd (F2.out.then hb3 hsf2.out)
  have hsf3:=Hd (Nat.lt_of_lt_of_le hsf2.out hb3.size)
  clear hb3 e1
  by_cases hpe0:pe=0
  case neg =>
   have HR:=Hd (HSTOP.out pe (jZ (iM HI.out HPE.out hpe0) hpe0) hpe0)
   have h1:(pe != 0)=true:=by simpa using hpe0
   have h2:(pe==0)=false:=by simpa using hpe0
   go_wp2_with fail
   go_ret
   exact ⟨by rw [HR.out];rfl,HUW.out _ B3F.out⟩
  subst hpe0
  have e0:=F3.out.get0 f0
  have HS3:=Hd (HSM.out.below B3F.out HS1.out)
  obtain ⟨sb,hsb⟩:∃ v,decide (f.name.data.toList∈cu ((cg l).take k))=v:=⟨_,rfl⟩
  have HSBB:=Hd hsb
  clear hsb
  have hnmx:=Hd (show f.name.size≤maxLen by have:=hnm.out;unfold maxLen;omega)
  cases sb
  case true =>
   have HR:=Hd (HSTOP.out 8 (jZ (s8 HI.out HPE.out (by rw [← HANY.out];exact HSBB.out)) (by decide)) (by decide))
   go_wp2_with (at_lookup;refine aY rfl _ _ 141 rfl Tryz.underlying9 Tryz.underlying4 Tryz.underlying141 (dr _) rfl HS3.out f.name rfl hnmx.out true HSBB.out ?_)
   go_ret
   exact ⟨by rw [HR.out];rfl,HUW.out _ B3F.out⟩
  have HHD:=Hd (s9 HI.out HPE.out (show ((cg l).take k).any (fun s=>s.toList==f.name.toList)=false by rw [← HANY.out];exact HSBB.out))
  go_wp2_with (first
   | (at_lookup;refine aY rfl _ _ 141 rfl Tryz.underlying9 Tryz.underlying4 Tryz.underlying141 (dr _) rfl HS3.out f.name rfl hnmx.out false HSBB.out ?_)
   | (at_mapUpdate;refine cU rfl _ _ _ 141 rfl Tryz.underlying9 Tryz.underlying4 Tryz.underlying141 rfl HS3.out (by unfold maxLen;omega) f.name rfl rfl hnmx.out ?_))
  intro w4 hset hgrow
  have HS4:=Hd hset
  have HU4:=Hd (show Below wB.heap.size wB w4 from (HUP.out _ B3F.out).grown hgrow (HUP.out _ B3F.out).size (fun q hq=>by cases hq;exact Nat.le_refl _))
  have F4:=Hd (show aj w4 w1.heap.size 0 fs from fun j hj=>by
   rw [← F3.out j hj]
   simp only [World.cell?]
   rw [hgrow.block w1.heap.size hsf3.out (fun e=>by have h1:=Option.some.inj e;have h2:=HS1.out;omega)])
  have hsf4:=Hd (Nat.lt_of_lt_of_le hsf3.out hgrow.size)
  have HW4:=Hd (show Below w.heap.size w w4 from B2.out.trans (HU4.out.mono B2.out.size))
  have HM4:=Hd (show wB.heap.size<w4.heap.size from Nat.lt_of_lt_of_le HS1.out (Nat.le_trans B3F.out.size hgrow.size))
  clear hset hgrow e0
  go_wp2_with (refine wpList_load_mid rfl 34 _ rfl w1.heap.size 2 rfl es _ (F4.out.part HES.out) Tryz.underlying34 rfl hle.out ?_)
  refine (tJ f.body w4 B N es (by omega) h4 (Nat.le_trans hB HW4.out.size) (HE.out.then HW4.out) HSB.out (ag.At.below (HW4.out.mono hB) _ HEB.out)).mono ?_
  obtain ⟨ee,hee⟩:∃ ee,eH f.body=ee:=⟨_,rfl⟩
  have HEE:=Hd hee
  unfold gK
  rw [hee]
  clear hee
  rintro e w5 ⟨rfl,hb5⟩
  have HW5:=Hd (ae HW4.out hb5)
  have HU5:=Hd (HU4.out.trans (hb5.mono HU4.out.size))
  have F5:=Hd (F4.out.then hb5 hsf4.out)
  have HS5:=Hd (HS4.out.later hb5)
  have HM5:=Hd (Nat.lt_of_lt_of_le HM4.out hb5.size)
  clear hb5
  by_cases hee0:ee=0
  case neg =>
   have HR:=Hd (HSTOP.out ee (tq HHD.out HEE.out hee0) hee0)
   have h1:(ee != 0)=true:=by simpa using hee0
   have h2:(ee==0)=false:=by simpa using hee0
   go_wp2_with fail
   go_ret
   exact ⟨by rw [HR.out];rfl,HW5.out⟩
  subst hee0
  obtain ⟨hv,_⟩:=iN HEE.out
  have HV:=Hd (sj ab pb l B N 47 f.body hv)
  obtain ⟨ev,hev⟩:∃ ev,gT (b5 l) 47 f.body (hU.par f.params)=ev:=⟨_,rfl⟩
  have HEV:=Hd hev
  have HFC:=Hd (tp (l:=l) (k:=k) HHD.out HEE.out hev)
  have RW5:=Hd (RW.out.then HU5.out (by rw [HS2.out];omega))
  have HEW5:=Hd (HEW.out.then HU5.out)
  have HGP:=Hd (show dY (hU.par f.params) from dY.nil.par (sC (p3 HHD.out)))
  clear hv hev
  go_wp2_with (first
   | (refine wpList_load_mid rfl 72 _ rfl w1.heap.size 0 rfl fs _ F5.out.range Tryz.underlying72 rfl hlf.out ?_)
   | (refine wpList_load_mid rfl 140 _ rfl wA.heap.size 0 rfl (cb ab pb) _ RW5.out.range Tryz.underlying140 rfl hsw.out ?_))
  refine (A7 ab pb l B N (gT (b5 l) 47 f.body) ((47+1) * 2097152) f HV.out w5 0 0 B N 0 fs hU [.slice none 0 0,.slice none 0 0,.slice none 0 0] hN (by omega) (Nat.zero_le _) (Nat.le_trans hB HW5.out.size) (Nat.zero_le _) HEW5.out HGP.out (ScD.At.nil _ _ _ _) (al.At.below (HW5.out.mono hB) _ HF2.out)).mono ?_
  rw [HEV.out]
  rintro e w6 ⟨rs,rfl,hl6,ho6,hb6⟩
  have HW6:=Hd (ae (ae HW5.out hb6) (af w6 (.cells rs.toArray 72)))
  have HU6:=Hd ((HU5.out.trans (hb6.mono HU5.out.size)).trans ((af w6 (.cells rs.toArray 72)).mono (Nat.le_trans HU5.out.size hb6.size)))
  have HS6:=Hd ((HS5.out.later hb6).later (af w6 (.cells rs.toArray 72)))
  have HM6:=Hd (show wB.heap.size<(w6.alloc (.cells rs.toArray 72)).heap.size from Nat.lt_of_lt_of_le HM5.out (Nat.le_trans hb6.size (af w6 _).size))
  have hl62:=Hd (show (Tryz.prog.info? 72).map (·.size)=some rs.toArray.size by rw [List.size_toArray,hl6];exact cj)
  have hl63:=Hd (show 19=rs.toArray.size by rw [List.size_toArray,hl6])
  have HO6:=Hd ho6
  clear hb6 hl6 ho6
  by_cases hev0:ev=0
  case neg =>
   have HR:=Hd (HSTOP.out ev HFC.out hev0)
   have h1:(ev != 0)=true:=by simpa using hev0
   have h2:(ev==0)=false:=by simpa using hev0
   go_wp2_with (refine ak rfl 72 _ _ rfl _ rs.toArray rfl rfl hl62.out hl63.out HO6.out ?_)
   go_ret
   exact ⟨by rw [HR.out];rfl,HW6.out⟩
  subst hev0
  have HZ2:=Hd (HGO.out HFC.out)
  go_wp2_with (refine ak rfl 72 _ _ rfl _ rs.toArray rfl rfl hl62.out hl63.out HO6.out ?_)
  go_roundw
  case rel=>exact ⟨k+1,by omega,by go_num,HZ2,HU6,Hd (by rw [HSN.out];exact HS6.out),HM6⟩
  case measure=>simp [intOf];omega
end Go.Proofs.YtiefeajappjnbaaGreatDoor

/- The reference's check of a program: datakitref38.Check. -/
namespace Go.Proofs.YtiefeajappjnbaaGreatDoor
open Go.RowKit
set_option maxRecDepth 100000 in
set_option maxHeartbeats 6400000 in
theorem A6 (l:List al) (x:ag) (fa:Option Addr) (fc:Nat) (ms cs:List Value) (w:World) (B N:Nat) (hN:N≤1048576) (hB:B≤w.heap.size) (hT:cI w) (hA:av w B N l fa) (hx:ag.At w B N x ms) (hcs:cs=.slice fa l.length fc::ms) :
 Calls Tryz.prog 43 #[.agg cs.toArray] w (gK (dP l x) w):=by
 have HX:=Hd hx
 have HA:=Hd hA
 have HT:=Hd hT
 have c0:cs[0]?=some (.slice fa l.length fc):=by rw [hcs];rfl
 have hml:ms.length=17:=hx.len
 have HMS:=Hd (show (cs.drop 1).take 17=ms by rw [hcs];exact List.take_of_length_le (show ms.length≤17 by omega))
 have hlm:=Hd (show (Tryz.prog.info? 34).map (·.size)=some ms.length by rw [hml];exact ay)
 have R0:=Hd (aA w cs 61)
 have B0:=Hd (af w (.cells cs.toArray 61))
 have e0:=R0.out.get0 c0
 have s0:(w.alloc (.cells cs.toArray 61)).heap.size=w.heap.size+1:=World.size_alloc _ _
 have HBN:=Hd (af (w.alloc (.cells cs.toArray 61)) (.cells (nmC fa l.length fc).toArray 128))
 have RN:=Hd (show aj ((w.alloc (.cells cs.toArray 61)).alloc (.cells (nmC fa l.length fc).toArray 128)) (w.heap.size+1) 0 (nmC fa l.length fc) by have h:=aA (w.alloc (.cells cs.toArray 61)) (nmC fa l.length fc) 128;rwa [s0] at h)
 have R2:=Hd (R0.out.then HBN.out (by rw [s0];omega))
 have B2:=Hd (ae B0.out HBN.out)
 have hsn:=Hd (show (Tryz.prog.info? 128).map (·.size)=some (nmC fa l.length fc).length by kernel_rfl)
 have hsn2:=Hd (show (Tryz.prog.info? 128).map (·.size)=some (nmC fa l.length fc).toArray.size by kernel_rfl)
 have h4n:=Hd (show 4=(nmC fa l.length fc).toArray.size by rfl)
 have honeN:=Hd (show (nmC fa l.length fc).toArray.all (·.oneCell')=true from Go.all_oneCell_toArray (by intro u hu;simp [nmC] at hu;rcases hu with rfl | rfl | rfl | rfl<;>rfl))
 have s2:((w.alloc (.cells cs.toArray 61)).alloc (.cells (nmC fa l.length fc).toArray 128)).heap.size=w.heap.size+2:=by rw [World.size_alloc,s0]
 obtain ⟨wB,hwB⟩:∃ wB,wB=(w.alloc (.cells cs.toArray 61)).alloc (.cells (nmC fa l.length fc).toArray 128):=⟨_,rfl⟩
 have HU2:=Hd hwB
 rw [← hwB] at RN R2 B2 s2
 have HS2:=Hd s2
 have HEW:=Hd (show vx l fa B N wB from ⟨av.below (B2.out.mono hB) _ HA.out,Nat.le_trans hB B2.out.size,HT.out.below B2.out⟩)
 clear hx hA hT hcs hml s0 HBN hwB s2
 by_cases hbig:256<l.length
 ·have HR:=Hd (sF (x:=x) hbig)
  have hb1:(256:Int)<(l.length:Int):=by omega
  go_enter Tryz.func43,Tryz.ntmps43
  go_wp2_with fail
  go_ret
  exact ⟨by rw [HR.out];rfl,B0.out⟩
 have HZ0:=Hd (wi (x:=x) hbig)
 have hll:l.length≤256:=by omega
 have hb1:¬ (256:Int)<(l.length:Int):=by omega
 clear hbig
 obtain ⟨z,hz⟩:∃ z,dP l x=z:=⟨_,rfl⟩
 have HZ1:=Hd (show z=jJ l x 0 by rw [← hz];exact HZ0.out)
 rw [hz]
 clear hz HZ0
 have e2:=R2.out.get0 c0
 go_enter Tryz.func43,Tryz.ntmps43
 go_wp2_with ((with_reducible show wpList _ _ _ (⟨none,.store 128 _ _,_,_,_,_⟩::_) _ _);refine ak rfl 128 _ _ rfl _ (nmC fa l.length fc).toArray (by rw [World.size_alloc];rfl) rfl hsn2.out h4n.out honeN.out ?_;rw [← HU2.out])
 go_simp
 go_loopw [4] (fun i wr=>∃ k:Nat,k≤l.length∧i=.int .i64 k∧Hid (z=jJ l x k)∧Hid (Below wB.heap.size wB wr)) (fun i _=>l.length-(intOf i).toNat)
 case atStart=>exact ⟨0,by omega,rfl,HZ1,Hd (Below.refl _ _)⟩
 case round =>
  obtain ⟨w1,rfl⟩:∃ w1,w1=wr:=⟨wr,rfl⟩
  clear e2 HZ1
  obtain ⟨k,hk,rfl,HZ1,HB1⟩:=hrel
  have HUP:=Hd (show ∀ u,Below w1.heap.size w1 u→Below wB.heap.size wB u from fun u hu=>HB1.out.trans (hu.mono HB1.out.size))
  have HUW:=Hd (show ∀ u,Below w1.heap.size w1 u→Below w.heap.size w u from fun u hu=>B2.out.trans ((HUP.out u hu).mono B2.out.size))
  have HRP:=Hd (show ∀ u,Below w1.heap.size w1 u→aj u w.heap.size 0 cs from fun u hu=>R2.out.then (HUP.out u hu) (by rw [HS2.out];omega))
  have HRN:=Hd (show ∀ u,Below w1.heap.size w1 u→aj u (w.heap.size+1) 0 (nmC fa l.length fc) from fun u hu=>RN.out.then (HUP.out u hu) (by rw [HS2.out];omega))
  have HW1:=Hd (HUW.out _ (Below.refl _ _))
  have d0:=(HRP.out _ (Below.refl _ _)).get0 c0
  by_cases hlt:k<l.length
  case neg =>
   obtain rfl:k=l.length:=by omega
   have HZK:=Hd (HZ1.out.trans pB)
   have R5:=Hd (HRP.out _ (Below.refl _ _))
   go_wp2_with (refine wpList_load_mid rfl 34 _ rfl w.heap.size 1 rfl ms _ (R5.out.part HMS.out) Tryz.underlying34 rfl hlm.out ?_)
   refine (tH x w1 B N ms (by omega) (Nat.le_trans hB HW1.out.size) (ag.At.below (HW1.out.mono hB) _ HX.out)).mono ?_
   obtain ⟨ee,hee⟩:∃ ee,eH x=ee:=⟨_,rfl⟩
   have HEE:=Hd hee
   unfold gK
   rw [hee]
   clear hee
   rintro e w3 ⟨rfl,hb3⟩
   have HW3:=Hd (HUW.out _ hb3)
   have R6:=Hd (HRP.out _ hb3)
   have RN3:=Hd (HRN.out _ hb3)
   have HEW3:=Hd (HEW.out.then (HUP.out _ hb3))
   clear hb3 d0
   by_cases hee0:ee=0
   case neg =>
    have HR:=Hd (show z=ee by rw [HZK.out,HEE.out,if_pos hee0])
    have h1:(ee != 0)=true:=by simpa using hee0
    have h2:(ee==0)=false:=by simpa using hee0
    go_wp2_with fail
    go_ret
    exact ⟨by rw [HR.out];rfl,HW3.out⟩
   subst hee0
   obtain ⟨_,hv⟩:=iN HEE.out
   have HV:=Hd (sg l fa fc B N (by omega) 47 x hv)
   obtain ⟨ev,hev⟩:∃ ev,gT (b5 l) 47 x hU=ev:=⟨_,rfl⟩
   have HEV:=Hd hev
   have HR:=Hd (show z=ev by rw [HZK.out,HEE.out,if_neg (by decide),hev])
   clear hv hev
   go_wp2_with (first
    | (refine wpList_load_mid rfl 34 _ rfl w.heap.size 1 rfl ms _ (R6.out.part HMS.out) Tryz.underlying34 rfl hlm.out ?_)
    | (refine wpList_load_mid rfl 128 _ rfl (w.heap.size+1) 0 rfl (nmC fa l.length fc) _ RN3.out.range Tryz.underlying128 rfl hsn.out ?_))
   refine (HV.out w3 0 0 B N 0 ms hU [.slice none 0 0,.slice none 0 0,.slice none 0 0] hN (by omega) (Nat.zero_le _) (Nat.le_trans hB HW3.out.size) (Nat.zero_le _) HEW3.out dY.nil (ScD.At.nil _ _ _ _) (ag.At.below (HW3.out.mono hB) _ HX.out)).mono ?_
   rw [HEV.out]
   rintro e w4 ⟨rs,rfl,hl4,ho4,hb4⟩
   have HW4:=Hd (ae HW3.out hb4)
   have hl42:=Hd (show (Tryz.prog.info? 34).map (·.size)=some rs.toArray.size by rw [List.size_toArray,hl4];exact ay)
   have hl43:=Hd (show 17=rs.toArray.size by rw [List.size_toArray,hl4])
   have HO4:=Hd ho4
   clear hb4 hl4 ho4
   go_wp2_with (refine ak rfl 34 _ _ rfl _ rs.toArray rfl rfl hl42.out hl43.out HO4.out ?_)
   go_ret
   exact ⟨by rw [HR.out];rfl,ae HW4.out (af w4 _)⟩
  obtain ⟨b,p,rfl,hb,hget⟩:=HA.out.get (by intro h;simp [h] at hlt)
  obtain ⟨fs,g1,g2⟩:=hget k hlt
  obtain ⟨es,g3,g4⟩:=al.At.bodyAt g1 g2
  have hlf:=Hd (show (Tryz.prog.info? 72).map (·.size)=some fs.length by rw [g2.len];exact cj)
  have hle:=Hd (show (Tryz.prog.info? 34).map (·.size)=some es.length by rw [g4.len];exact ay)
  have G1:=Hd g1
  have G2:=Hd g2
  have G3:=Hd g3
  have G4:=Hd g4
  have HHR:=Hd (show ∀ u,Below w1.heap.size w1 u→Calls Tryz.prog 85 #[.slice (some ⟨b,p,none⟩) l.length fc,.int .i64 k] u (gK (dT ((cg l).take k) l[k]) u) from fun u hu=>BR l _ fc k u B N hlt (by omega) hN (Nat.le_trans hB (HUW.out u hu).size) (av.below ((HUW.out u hu).mono hB) _ HA.out))
  have hpl:l[k].params.length≤N:=by obtain ⟨_,_,_,gh⟩:=g2.has;exact gh.hp
  have HSTOP:=Hd (show ∀ q:Int,fnC l k l[k]=q→q≠0→z=q from fun q h1 h2=>HZ1.out.trans (nk hlt h1 h2))
  have HGO:=Hd (show fnC l k l[k]=0→z=jJ l x (k+1) from fun h1=>HZ1.out.trans (sE hlt h1))
  have hlti:(k:Int)<(l.length:Int):=by omega
  clear g1 g2 g3 g4 hget
  obtain ⟨f,hf⟩:∃ f,f=l[k]:=⟨_,rfl⟩
  rw [← hf] at G2 G4 HHR hpl HSTOP HGO
  clear hf
  obtain ⟨he,hhe⟩:∃ v,dT ((cg l).take k) f=v:=⟨_,rfl⟩
  have HHE:=Hd hhe
  rw [hhe] at HHR
  clear hhe
  go_wp2_with fail
  refine (HHR.out w1 (Below.refl _ _)).mono ?_
  rintro e w2 ⟨rfl,hb2⟩
  have B2F:=Hd hb2
  clear hb2 d0 HHR
  have d0:=(HRP.out _ B2F.out).get0 c0
  by_cases he0:he=0
  case neg =>
   have HR:=Hd (HSTOP.out he (jZ HHE.out he0) he0)
   have h1:(he != 0)=true:=by simpa using he0
   have h2:(he==0)=false:=by simpa using he0
   go_wp2_with fail
   go_ret
   exact ⟨by rw [HR.out];rfl,HUW.out _ B2F.out⟩
  subst he0
  have HW2:=Hd (HUW.out _ B2F.out)
  have HER2:=Hd (G3.out.below (HW2.out.mono hB) hb).range
  go_wp2_with (refine wpList_load_mid rfl 34 _ rfl b (p+k * 19+2) rfl es _ HER2.out Tryz.underlying34 rfl hle.out ?_)
  refine (tH f.body w2 B N es (by omega) (Nat.le_trans hB HW2.out.size) (ag.At.below (HW2.out.mono hB) _ G4.out)).mono ?_
  obtain ⟨ee,hee⟩:∃ ee,eH f.body=ee:=⟨_,rfl⟩
  have HEE:=Hd hee
  unfold gK
  rw [hee]
  clear hee
  rintro e w3 ⟨rfl,hb3⟩
  have B3F:=Hd (ae B2F.out hb3)
  clear hb3 d0
  have d0:=(HRP.out _ B3F.out).get0 c0
  by_cases hee0:ee=0
  case neg =>
   have HR:=Hd (HSTOP.out ee (tq HHE.out HEE.out hee0) hee0)
   have h1:(ee != 0)=true:=by simpa using hee0
   have h2:(ee==0)=false:=by simpa using hee0
   go_wp2_with fail
   go_ret
   exact ⟨by rw [HR.out];rfl,HUW.out _ B3F.out⟩
  subst hee0
  obtain ⟨_,hv⟩:=iN HEE.out
  have HV:=Hd (sg l (some ⟨b,p,none⟩) fc B N (by omega) 47 f.body hv)
  obtain ⟨ev,hev⟩:∃ ev,gT (b5 l) 47 f.body (hU.par f.params)=ev:=⟨_,rfl⟩
  have HEV:=Hd hev
  have HFC:=Hd (tp (l:=l) (k:=k) HHE.out HEE.out hev)
  have HGP:=Hd (show dY (hU.par f.params) from dY.nil.par (sC (p3 HHE.out)))
  have HB3:=Hd (HUP.out _ B3F.out)
  have HW3:=Hd (HUW.out _ B3F.out)
  clear hv hev B2F HW2 HER2
  go_wp2_with fail
  obtain ⟨wO,hwO⟩:∃ wO,wO=w1:=⟨w1,rfl⟩
  rw [← hwO] at HUP HUW HRP HRN HB1 HW1 B3F
  clear hwO w1
  obtain ⟨w1,rfl⟩:∃ w1,w1=w3:=⟨_,rfl⟩
  have HRP:=Hd (show ∀ u,Below w1.heap.size w1 u→aj u w.heap.size 0 cs from fun u hu=>HRP.out u (ae B3F.out hu))
  have HRN:=Hd (show ∀ u,Below w1.heap.size w1 u→aj u (w.heap.size+1) 0 (nmC (some ⟨b,p,none⟩) l.length fc) from fun u hu=>HRN.out u (ae B3F.out hu))
  have HER:=Hd (show ∀ u,Below w1.heap.size w1 u→aj u b (p+k * 19+2) es from fun u hu=>G3.out.below ((HUW.out u (ae B3F.out hu)).mono hB) hb)
  have HFR:=Hd (show ∀ u,Below w1.heap.size w1 u→aj u b (p+k * 19) fs from fun u hu=>G1.out.below ((HUW.out u (ae B3F.out hu)).mono hB) hb)
  have HKF:=Hd (show ∀ u,Below w1.heap.size w1 u→al.At u B N f fs from fun u hu=>al.At.below ((HUW.out u (ae B3F.out hu)).mono hB) _ G2.out)
  have HKE:=Hd (show ∀ u,Below w1.heap.size w1 u→ag.At u B N f.body es from fun u hu=>ag.At.below ((HUW.out u (ae B3F.out hu)).mono hB) _ G4.out)
  have HBB:=Hd (Nat.le_trans hB HW3.out.size)
  have HEN:=Hd (HEW.out.then HB3.out)
  clear d0
  have HB0:=Hd (cG w1)
  refine wp_region_held_drew (S:=fun u=>Below w1.heap.size w1 u) (by kernel_rfl) HB0.out (fun hHeld=>?_)
  refine' tk 0 _ rfl rfl (yieldsIf_load_mid (by kernel_rfl) 128 _ rfl (w.heap.size+1) (0) rfl (nmC (some ⟨b,p,none⟩) l.length fc) _ (fun u hu=>(HRN.out _ hu).range) Tryz.underlying128 rfl hsn.out) hHeld ?_
  simp only [sq1,sq0]
  refine' tk 1 (.pointer (some ⟨w.heap.size,0,none⟩)) rfl rfl (.inl ⟨by rfl,fun u hu=>(by go_simp)⟩) hHeld ?_
  simp only [sq1,sq0]
  refine' tk 2 (.slice (some ⟨b,p,none⟩) l.length fc) rfl rfl (.inl ⟨by rfl,fun u hu=>(by have hc:=(HRP.out _ hu).get0 c0;go_simp)⟩) hHeld ?_
  simp only [sq1,sq0]
  refine' tk 3 (.int .i64 k) rfl rfl (.inl ⟨by rfl,fun u hu=>(by go_simp)⟩) hHeld ?_
  simp only [sq1,sq0]
  refine' tk 4 (.pointer (some ⟨b,p+k * 19,none⟩)) rfl rfl (.inl ⟨by rfl,fun u hu=>(by go_simp)⟩) hHeld ?_
  simp only [sq1,sq0]
  refine' tk 5 (.pointer (some ⟨b,p+k * 19+2,none⟩)) rfl rfl (.inl ⟨by rfl,fun u hu=>(by go_simp)⟩) hHeld ?_
  simp only [sq1,sq0]
  refine' tk 6 _ rfl rfl (yieldsIf_load_mid (by kernel_rfl) 34 _ rfl (b) (p+k * 19+2) rfl es _ (fun u hu=>(HER.out _ hu).range) Tryz.underlying34 rfl hle.out) hHeld ?_
  simp only [sq1,sq0]
  refine' tk 7 (.agg #[.slice none 0 0,.slice none 0 0,.slice none 0 0]) rfl rfl (.inl ⟨by rfl,fun u hu=>(by go_simp)⟩) hHeld ?_
  simp only [sq1,sq0]
  refine' tk 8 (.pointer (some ⟨w.heap.size,0,none⟩)) rfl rfl (.inl ⟨by rfl,fun u hu=>(by go_simp)⟩) hHeld ?_
  simp only [sq1,sq0]
  refine' tk 9 (.slice (some ⟨b,p,none⟩) l.length fc) rfl rfl (.inl ⟨by rfl,fun u hu=>(by have hc:=(HRP.out _ hu).get0 c0;go_simp)⟩) hHeld ?_
  simp only [sq1,sq0]
  refine' tk 10 (.int .i64 k) rfl rfl (.inl ⟨by rfl,fun u hu=>(by go_simp)⟩) hHeld ?_
  simp only [sq1,sq0]
  refine' tk 11 (.pointer (some ⟨b,p+k * 19,none⟩)) rfl rfl (.inl ⟨by rfl,fun u hu=>(by go_simp)⟩) hHeld ?_
  simp only [sq1,sq0]
  refine' tk 12 _ rfl rfl (yieldsIf_load_mid (by kernel_rfl) 72 _ rfl (b) (p+k * 19) rfl fs _ (fun u hu=>(HFR.out _ hu).range) Tryz.underlying72 rfl hlf.out) hHeld ?_
  simp only [sq1,sq0]
  refine wpAnyH_ready (rs:=[13,18]) (by kernel_rfl) (by simp) ?_
  refine AllReadyH.cons rfl (fun K hK=>?_) (AllReadyH.cons rfl (fun K hK=>?_) AllReadyH.nil)
  case' refine_1 =>
   go_simp
   refine (hI f fs hU [.slice none 0 0,.slice none 0 0,.slice none 0 0] _ 0 _ 0 N (by omega) (by omega) (Nat.le_refl _) (Nat.zero_le _) (ScD.At.nil _ _ _ _) (al.At.mono (Nat.le_trans HBB.out HB0.out.size) _ (HKF.out _ HB0.out))).mono ?_
   rintro e uC0 ⟨_,cs3,rfl,rfl,hs3,hbC⟩
   have S3:=Hd hs3
   have HbC0:=Hd hbC
   have HC0:=Hd (ae HB0.out hbC)
   refine hK.out _ _ HC0.out (fun hHeld=>?_)
   clear hK K hbC hs3
   refine wpAnyH_ready (rs:=[14,18]) (by kernel_rfl) (by simp) ?_
   refine AllReadyH.cons rfl (fun K hK=>?_) (AllReadyH.cons rfl (fun K hK=>?_) AllReadyH.nil)
  case' refine_1.refine_1 =>
   go_simp
   refine (HV.out _ 0 _ B N _ es _ cs3 hN (by omega) (Nat.le_refl _) (Nat.le_trans HBB.out HC0.out.size) (Nat.zero_le _) (HEN.out.then HC0.out) HGP.out S3.out (HKE.out _ HC0.out)).mono ?_
   rw [HEV.out]
   rintro e uC1 ⟨rs5,rfl,hl5,ho5,hbC⟩
   have HO5:=Hd ho5
   have HbC1:=Hd hbC
   have HC1:=Hd (ae HC0.out hbC)
   refine hK.out _ _ HC1.out (fun hHeld=>?_)
   clear hK K hbC ho5
   refine' tk 15 (.tuple #[.agg rs5.toArray,.int .i64 ev]) rfl rfl (.inl ⟨by rfl,fun u hu=>(by go_simp)⟩) hHeld ?_
   simp only [sq1,sq0]
   refine' tk 16 (.agg rs5.toArray) rfl rfl (.inl ⟨by rfl,fun u hu=>(by go_simp)⟩) hHeld ?_
   simp only [sq1,sq0]
   refine' tk 17 (.int .i64 ev) rfl rfl (.inl ⟨by rfl,fun u hu=>(by go_simp)⟩) hHeld ?_
   simp only [sq1,sq0]
   refine rd1 18 rfl (fun K hK=>?_)
   go_simp
   obtain ⟨uA,huA⟩:∃ uA,uA=uC1.alloc (.cells zE0 34):=⟨_,rfl⟩
   rw [← huA]
   have HbA:=Hd (show Below uC1.heap.size uC1 uA by rw [huA];exact af uC1 _)
   have ZA:=Hd (show uA.heap[uC1.heap.size]?=some (.cells zE0 34 (0,0)) by rw [huA];exact heap_alloc_new uC1 _)
   have HA:=Hd (ae HC1.out HbA.out)
   obtain ⟨q5,hq5⟩:∃ q5,q5=uC1.heap.size:=⟨_,rfl⟩
   have hqb:w1.heap.size≤q5:=by rw [hq5];exact HC1.out.size
   rw [← hq5] at ZA ⊢
   refine hK.out _ _ HA.out (fun hHeld=>?_)
   clear hK K huA hq5
   refine rd1 19 rfl (fun K hK=>?_)
   rw [if_pos (by kernel_rfl)]
   refine wp_store_row 34 _ _ rfl q5 rs5.toArray rfl rfl 34 _ ZA.out (by rw [List.size_toArray,hl5];exact ay) (show 17=rs5.toArray.size by rw [List.size_toArray,hl5]) HO5.out ?_
   simp only [List.getElem_toArray,List.getElem_cons_succ,List.getElem_cons_zero,Act.put]
   have R5:=Hd (show Below w1.heap.size w1 (World.setRow uA q5 rs5.toArray) from HA.out.trans (aM _ _ hqb))
   have Z5:=Hd (setRow_heap _ q5 _ rs5.toArray _ _ ZA.out)
   obtain ⟨u5,hu5⟩:∃ u5,u5=World.setRow uA q5 rs5.toArray:=⟨_,rfl⟩
   rw [← hu5] at R5 Z5 ⊢
   refine hK.out _ _ R5.out (fun hHeld=>?_)
   clear hK K hu5
   refine rd1 20 rfl (fun K hK=>?_)
   go_simp
   refine hK.out _ _ R5.out (fun hHeldx=>?_)
   clear hK K hHeldx
   refine wpAnyH_done (by kernel_rfl) ?_ _
  case' refine_1.refine_2 =>
   go_simp
   obtain ⟨uA,huA⟩:∃ uA,uA=uC0.alloc (.cells zE0 34):=⟨_,rfl⟩
   rw [← huA]
   have HbA:=Hd (show Below uC0.heap.size uC0 uA by rw [huA];exact af uC0 _)
   have ZA:=Hd (show uA.heap[uC0.heap.size]?=some (.cells zE0 34 (0,0)) by rw [huA];exact heap_alloc_new uC0 _)
   have HA:=Hd (ae HC0.out HbA.out)
   obtain ⟨q5,hq5⟩:∃ q5,q5=uC0.heap.size:=⟨_,rfl⟩
   have hqb:w1.heap.size≤q5:=by rw [hq5];exact HC0.out.size
   rw [← hq5] at ZA ⊢
   have SA:=Hd ((S3.out.keep (a7.of_below HbA.out)).mono HbA.out.size (Nat.le_refl _))
   refine hK.out _ _ HA.out (fun hHeld=>?_)
   clear hK K huA hq5
   refine rd1 14 rfl (fun K hK=>?_)
   go_simp
   refine (HV.out _ 0 _ B N _ es _ cs3 hN (by omega) (Nat.le_refl _) (Nat.le_trans HBB.out HA.out.size) (Nat.zero_le _) (HEN.out.then HA.out) HGP.out SA.out (HKE.out _ HA.out)).mono ?_
   rw [HEV.out]
   rintro e uC1 ⟨rs5,rfl,hl5,ho5,hbC⟩
   have HO5:=Hd ho5
   have HbC1:=Hd hbC
   have HC1:=Hd (ae HA.out hbC)
   have ZC1:=Hd ((HbC1.out.block _ (Array.getElem?_eq_some_iff.1 ZA.out).1).trans ZA.out)
   refine hK.out _ _ HC1.out (fun hHeld=>?_)
   clear hK K hbC ho5
   refine' tk 15 (.tuple #[.agg rs5.toArray,.int .i64 ev]) rfl rfl (.inl ⟨by rfl,fun u hu=>(by go_simp)⟩) hHeld ?_
   simp only [sq1,sq0]
   refine' tk 16 (.agg rs5.toArray) rfl rfl (.inl ⟨by rfl,fun u hu=>(by go_simp)⟩) hHeld ?_
   simp only [sq1,sq0]
   refine' tk 17 (.int .i64 ev) rfl rfl (.inl ⟨by rfl,fun u hu=>(by go_simp)⟩) hHeld ?_
   simp only [sq1,sq0]
   refine rd1 19 rfl (fun K hK=>?_)
   rw [if_pos (by kernel_rfl)]
   refine wp_store_row 34 _ _ rfl q5 rs5.toArray rfl rfl 34 _ ZC1.out (by rw [List.size_toArray,hl5];exact ay) (show 17=rs5.toArray.size by rw [List.size_toArray,hl5]) HO5.out ?_
   simp only [List.getElem_toArray,List.getElem_cons_succ,List.getElem_cons_zero,Act.put]
   have R5:=Hd (show Below w1.heap.size w1 (World.setRow uC1 q5 rs5.toArray) from HC1.out.trans (aM _ _ hqb))
   have Z5:=Hd (setRow_heap _ q5 _ rs5.toArray _ _ ZC1.out)
   obtain ⟨u5,hu5⟩:∃ u5,u5=World.setRow uC1 q5 rs5.toArray:=⟨_,rfl⟩
   rw [← hu5] at R5 Z5 ⊢
   refine hK.out _ _ R5.out (fun hHeld=>?_)
   clear hK K hu5
   refine rd1 20 rfl (fun K hK=>?_)
   go_simp
   refine hK.out _ _ R5.out (fun hHeldx=>?_)
   clear hK K hHeldx
   refine wpAnyH_done (by kernel_rfl) ?_ _
  case' refine_2 =>
   go_simp
   obtain ⟨uA,huA⟩:∃ uA,uA=(w1.alloc (.cells zE0 34)).drew:=⟨_,rfl⟩
   rw [← huA]
   have HbA:=Hd (show Below w1.drew.heap.size w1.drew uA by rw [huA];exact af w1.drew _)
   have ZA:=Hd (show uA.heap[w1.heap.size]?=some (.cells zE0 34 (0,0)) by rw [huA];exact heap_alloc_new w1 _)
   have HA:=Hd (ae HB0.out HbA.out)
   obtain ⟨q5,hq5⟩:∃ q5,q5=w1.heap.size:=⟨_,rfl⟩
   have hqb:w1.heap.size≤q5:=by rw [hq5];exact Nat.le_refl _
   rw [← hq5] at ZA ⊢
   refine hK.out _ _ HA.out (fun hHeld=>?_)
   clear hK K huA hq5
   refine rd1 13 rfl (fun K hK=>?_)
   go_simp
   refine (hI f fs hU [.slice none 0 0,.slice none 0 0,.slice none 0 0] _ 0 _ 0 N (by omega) (by omega) (Nat.le_refl _) (Nat.zero_le _) (ScD.At.nil _ _ _ _) (al.At.mono (Nat.le_trans HBB.out HA.out.size) _ (HKF.out _ HA.out))).mono ?_
   rintro e uC0 ⟨_,cs3,rfl,rfl,hs3,hbC⟩
   have S3:=Hd hs3
   have HbC0:=Hd hbC
   have HC0:=Hd (ae HA.out hbC)
   have ZC0:=Hd ((HbC0.out.block _ (Array.getElem?_eq_some_iff.1 ZA.out).1).trans ZA.out)
   refine hK.out _ _ HC0.out (fun hHeld=>?_)
   clear hK K hbC hs3
   refine rd1 14 rfl (fun K hK=>?_)
   go_simp
   refine (HV.out _ 0 _ B N _ es _ cs3 hN (by omega) (Nat.le_refl _) (Nat.le_trans HBB.out HC0.out.size) (Nat.zero_le _) (HEN.out.then HC0.out) HGP.out S3.out (HKE.out _ HC0.out)).mono ?_
   rw [HEV.out]
   rintro e uC1 ⟨rs5,rfl,hl5,ho5,hbC⟩
   have HO5:=Hd ho5
   have HbC1:=Hd hbC
   have HC1:=Hd (ae HC0.out hbC)
   have ZC1:=Hd ((HbC1.out.block _ (Array.getElem?_eq_some_iff.1 ZC0.out).1).trans ZC0.out)
   refine hK.out _ _ HC1.out (fun hHeld=>?_)
   clear hK K hbC ho5
   refine' tk 15 (.tuple #[.agg rs5.toArray,.int .i64 ev]) rfl rfl (.inl ⟨by rfl,fun u hu=>(by go_simp)⟩) hHeld ?_
   simp only [sq1,sq0]
   refine' tk 16 (.agg rs5.toArray) rfl rfl (.inl ⟨by rfl,fun u hu=>(by go_simp)⟩) hHeld ?_
   simp only [sq1,sq0]
   refine' tk 17 (.int .i64 ev) rfl rfl (.inl ⟨by rfl,fun u hu=>(by go_simp)⟩) hHeld ?_
   simp only [sq1,sq0]
   refine rd1 19 rfl (fun K hK=>?_)
   rw [if_pos (by kernel_rfl)]
   refine wp_store_row 34 _ _ rfl q5 rs5.toArray rfl rfl 34 _ ZC1.out (by rw [List.size_toArray,hl5];exact ay) (show 17=rs5.toArray.size by rw [List.size_toArray,hl5]) HO5.out ?_
   simp only [List.getElem_toArray,List.getElem_cons_succ,List.getElem_cons_zero,Act.put]
   have R5:=Hd (show Below w1.heap.size w1 (World.setRow uC1 q5 rs5.toArray) from HC1.out.trans (aM _ _ hqb))
   have Z5:=Hd (setRow_heap _ q5 _ rs5.toArray _ _ ZC1.out)
   obtain ⟨u5,hu5⟩:∃ u5,u5=World.setRow uC1 q5 rs5.toArray:=⟨_,rfl⟩
   rw [← hu5] at R5 Z5 ⊢
   refine hK.out _ _ R5.out (fun hHeld=>?_)
   clear hK K hu5
   refine rd1 20 rfl (fun K hK=>?_)
   go_simp
   refine hK.out _ _ R5.out (fun hHeldx=>?_)
   clear hK K hHeldx
   refine wpAnyH_done (by kernel_rfl) ?_ _
  all_goals
   have HW5:=Hd (HW3.out.trans (R5.out.mono HW3.out.size))
   have HU5:=Hd (HB3.out.trans (R5.out.mono HB3.out.size))
   clear hHeld
   by_cases hev0:ev=0
   case neg =>
    have HR:=Hd (HSTOP.out ev HFC.out hev0)
    have h1:(ev != 0)=true:=by simpa using hev0
    have h2:(ev==0)=false:=by simpa using hev0
    go_wp2_with fail
    go_ret
    exact ⟨by rw [HR.out];rfl,HW5.out⟩
   subst hev0
   have HZ2:=Hd (HGO.out HFC.out)
   go_wp2_with fail
   go_roundw
  case rel=>exact ⟨k+1,by omega,by go_num,HZ2,HU5⟩
  case measure=>simp [intOf];omega
  case rel=>exact ⟨k+1,by omega,by go_num,HZ2,HU5⟩
  case measure=>simp [intOf];omega
  case rel=>exact ⟨k+1,by omega,by go_num,HZ2,HU5⟩
  case measure=>simp [intOf];omega
end Go.Proofs.YtiefeajappjnbaaGreatDoor
