/- Times as texts: moment.clockText. -/
import Derived.Test.YtniljgkkcnekgaaGreatDoorProg
import Derived.Test.YtniljgkkcnekgaaGreatDoorGA
import Derived.Test.YtniljgkkcnekgaaGreatDoorGB
import Derived.Test.YtniljgkkcnekgaaGreatDoorGZ
import Derived.Test.YtniljgkkcnekgaaGreatDoorGT
namespace Go.Proofs.YtniljgkkcnekgaaGreatDoor
open Go.RowKit
set_option maxRecDepth 100000 in
set_option maxHeartbeats 800000 in
theorem clockText_p (n:Nat) (hn:n≤86399999999999) (w:World):Calls Tryz.prog 116 #[.int .i64 n] w (StrB (clockS n) w):=by
 have HS:=Hd (show pdS (n / 1000000000 / 3600) 2++⟨#[58]⟩++pdS (n / 1000000000 / 60 % 60) 2++⟨#[58]⟩++pdS (n / 1000000000 % 60) 2=hmsS n from rfl)
 have HZ:=Hd (show n % 1000000000=0→clockS n=hmsS n from fun h=>by unfold clockS;rw [if_pos h])
 have HN:=Hd (show n % 1000000000≠0→clockS n=hmsS n++⟨#[46]⟩++strOfNums (fracL n) from fun h=>by unfold clockS;rw [if_neg h])
 have HF:=Hd (show cutZ (padT (n % 1000000000) 9)=fracL n from rfl)
 have HFN:=Hd (fun h=>@fracL_ne n h)
 obtain ⟨s,hs⟩:∃ s,n / 1000000000=s:=⟨_,rfl⟩
 obtain ⟨r,hr⟩:∃ r,n % 1000000000=r:=⟨_,rfl⟩
 have t1:(n:Int).tdiv 1000000000=(s:Int):=by rw [Int.tdiv_eq_ediv_of_nonneg (by omega)];omega
 have t2:(n:Int) / 1000000000=(s:Int):=by omega
 have t3:(n:Int).tmod 1000000000=(r:Int):=by rw [Int.tmod_eq_emod_of_nonneg (by omega)];omega
 have t4:(n:Int) % 1000000000=(r:Int):=by omega
 have hs4:s≤86399:=by omega
 have hr4:r<1000000000:=by omega
 rw [hs] at HS
 rw [hr] at HZ HN HF HFN
 obtain ⟨h,hh⟩:∃ h,s / 3600=h:=⟨_,rfl⟩
 obtain ⟨q,hq⟩:∃ q,s / 60=q:=⟨_,rfl⟩
 obtain ⟨m,hm⟩:∃ m,q % 60=m:=⟨_,rfl⟩
 obtain ⟨x,hx⟩:∃ x,s % 60=x:=⟨_,rfl⟩
 have u1:(s:Int).tdiv 3600=(h:Int):=by rw [Int.tdiv_eq_ediv_of_nonneg (by omega)];omega
 have u2:(s:Int) / 3600=(h:Int):=by omega
 have u3:(s:Int).tdiv 60=(q:Int):=by rw [Int.tdiv_eq_ediv_of_nonneg (by omega)];omega
 have u4:(s:Int) / 60=(q:Int):=by omega
 have u5:(q:Int).tmod 60=(m:Int):=by rw [Int.tmod_eq_emod_of_nonneg (by omega)];omega
 have u6:(q:Int) % 60=(m:Int):=by omega
 have u7:(s:Int).tmod 60=(x:Int):=by rw [Int.tmod_eq_emod_of_nonneg (by omega)];omega
 have u8:(s:Int) % 60=(x:Int):=by omega
 rw [hh,hq,hm,hx] at HS
 obtain ⟨a,ha⟩:∃ a,pdS h 2=a:=⟨_,rfl⟩
 obtain ⟨b,hb⟩:∃ b,pdS m 2=b:=⟨_,rfl⟩
 obtain ⟨c,hc⟩:∃ c,pdS x 2=c:=⟨_,rfl⟩
 have z1:a.size=2:=by rw [← ha];exact pdS_size _ _
 have z2:b.size=2:=by rw [← hb];exact pdS_size _ _
 have z3:c.size=2:=by rw [← hc];exact pdS_size _ _
 have HA:=Hd (fun u=>ha ▸ digits_p h 2 h 2 rfl rfl (by omega) (by omega) (by omega) u)
 have HB:=Hd (fun u=>hb ▸ digits_p m 2 m 2 rfl rfl (by omega) (by omega) (by omega) u)
 have HC:=Hd (fun u=>hc ▸ digits_p x 2 x 2 rfl rfl (by omega) (by omega) (by omega) u)
 rw [ha,hb,hc] at HS
 generalize clockS n=res at *
 generalize hmsS n=hms at *
 generalize fracL n=fr at *
 clear ha hb hc hs hr hh hq hm hx
 go_enter Tryz.func116,Tryz.ntmps116
 go_wp2_with fail
 refine (HA.out _).mono ?_
 rintro e w2 ⟨rfl,hb2⟩
 have H2:=Hd hb2
 clear hb2
 go_wp2_with fail
 refine (HB.out w2).mono ?_
 rintro e w3 ⟨rfl,hb3⟩
 have H3:=Hd (belowThen H2.out hb3)
 clear hb3
 go_wp2_with fail
 refine (HC.out w3).mono ?_
 rintro e w4 ⟨rfl,hb4⟩
 have H4:=Hd (belowThen H3.out hb4)
 clear hb4
 by_cases h0:r=0
 ·have HR:=Hd (HZ.out h0)
  subst h0
  go_wp2_with fail
  go_ret
  exact ⟨by rw [HR.out,← HS.out];rfl,H4.out⟩
 have HR:=Hd (HN.out h0)
 have HFE:=Hd (HFN.out h0)
 have h01:((r:Int)==0)=false:=by simpa using h0
 have hr9:r≤4000000000:=by omega
 clear h0 t1 t2 t3 t4 u1 u2 u3 u4 u5 u6 u7 u8
 obtain ⟨hm,hhm⟩:∃ hm,a++⟨#[58]⟩++b++⟨#[58]⟩++c=hm:=⟨_,rfl⟩
 have zh:hm.size≤8:=by rw [← hhm];simp only [ByteArray.size_append,z1,z2,z3];exact Nat.le_refl _
 have HHM:=Hd hhm
 clear hhm
 go_wp2_with fail
 refine (digits_p r 9 r 9 rfl rfl hr9 (by omega) (by omega) w4).mono ?_
 rintro e w5 ⟨rfl,hb5⟩
 have H5:=Hd (belowThen H4.out hb5)
 have hP:(padT r 9).length=9:=padT_len _ _
 obtain ⟨l0,c0,e0⟩:∃ l0 c0,padT r 9=l0++[c0]:=⟨_,_,rfl⟩
 have HP:=Hd (show pdS r 9=strOfNums (l0++[c0]) by unfold pdS;rw [e0])
 have HP1:=Hd (show l0.length≤8∧(∀ y∈l0++[c0],48≤y∧y≤57)∧cutZ (l0++[c0])=fr from ⟨by rw [e0,List.length_append] at hP;simp at hP;omega,by rw [← e0];exact padT_dig 9 r,by rw [← e0];exact HF.out⟩)
 obtain ⟨p9,hp9⟩:∃ p9,pdS r 9=p9:=⟨_,rfl⟩
 rw [hp9]
 have HP2:=Hd (show p9=strOfNums (l0++[c0]) by rw [← hp9];exact HP.out)
 clear hb5 hP e0 hp9 HP
 go_wp2_with fail
 go_simp
 go_loopw [6] (fun f wr=>∃ (l:List Int) (c:Int) (t:ByteArray),f=.string t∧Hid (t=strOfNums (l++[c]))∧Hid (l.length≤8∧(∀ y∈l++[c],48≤y∧y≤57)∧cutZ (l++[c])=fr)∧wr=w5) (fun f _=>szS f)
 case atStart=>exact ⟨l0,c0,p9,rfl,HP2,HP1,rfl⟩
 case round =>
  clear HP2 HP1
  obtain ⟨l,d,t,rfl,HT,HL,rfl⟩:=hrel
  have hsz:t.size=l.length+1:=by rw [HT.out,strOfNums_size,List.length_append];rfl
  have hl8:=HL.out.1
  have hlt2:l.length<t.size:=by omega
  have hi0:(0:Int)≤(t.size:Int)-1:=by omega
  have hi1:(t.size:Int)-1<(t.size:Int):=by omega
  have hi2:(t.size:Int)-1≤(t.size:Int):=by omega
  have htn:((t.size:Int)-1).toNat=l.length:=by omega
  have hdr:=HL.out.2.1 d (by simp)
  have hb:=byteI_eq hlt2
  rw [show byteI t l.length=d by rw [HT.out];exact byteI_last l d (by omega) (by omega)] at hb
  have HSZ:=Hd hsz
  have ht9:t.size≤9:=by omega
  clear hsz
  by_cases h48:d=48
  ·subst h48
   have HE:=Hd (show t.extract 0 l.length=strOfNums l by rw [HT.out];exact ext_strNums l 48)
   have HC0:=Hd (show cutZ l=fr by rw [← HL.out.2.2,cutZ_nought])
   have hne:l≠[]:=fun e=>HFE.out (by rw [← HC0.out,e];rfl)
   obtain ⟨l2,d2,e2⟩:∃ l2 d2,l=l2++[d2]:=⟨l.dropLast,l.getLast hne,(List.dropLast_concat_getLast hne).symm⟩
   have HX:=Hd (show t.extract 0 l.length=strOfNums (l2++[d2]) by rw [HE.out,e2])
   have HY:=Hd (show l2.length≤8∧(∀ y∈l2++[d2],48≤y∧y≤57)∧cutZ (l2++[d2])=fr from ⟨by rw [e2,List.length_append] at hl8;simp at hl8;omega,fun c hc=>HL.out.2.1 c (by rw [e2];exact List.mem_append_left _ hc),by rw [← e2];exact HC0.out⟩)
   have HM:=Hd (show (t.extract 0 l.length).size<t.size by rw [HE.out,strOfNums_size];exact hlt2)
   obtain ⟨t2,ht2⟩:∃ t2,t.extract 0 l.length=t2:=⟨_,rfl⟩
   rw [ht2] at HX HM
   have HT2:=Hd ht2
   clear hne e2 hdr ht2
   go_wp2_with fail
   rw [HT2.out]
   go_roundw
   case rel=>exact ⟨l2,d2,t2,rfl,HX,HY,trivial⟩
   case measure=>exact HM.out
  ·have h481:(d==48)=false:=by simpa using h48
   have HE:=Hd (show t=strOfNums fr by rw [HT.out,← HL.out.2.2,cutZ_other h48])
   have HQ:=Hd (show res=hm++⟨#[46]⟩++t by rw [HR.out,HE.out,← HS.out,HHM.out])
   clear h48 hdr
   go_wp2_with fail
   go_ret
   exact ⟨by rw [HQ.out,← HHM.out];rfl,H5.out⟩
end Go.Proofs.YtniljgkkcnekgaaGreatDoor
