/- datakitref07.lists, datakitref07.maps. -/
import Derived.Test.YtagkjofpncpcpaaGreatDoorProg
import Derived.Test.YtagkjofpncpcpaaGreatDoorGA
import Derived.Test.YtagkjofpncpcpaaGreatDoorGB
import Derived.Test.YtagkjofpncpcpaaGreatDoorXA
import Derived.Test.YtagkjofpncpcpaaGreatDoorXD
import Derived.Test.YtagkjofpncpcpaaGreatDoorXE
import Derived.Test.YtagkjofpncpcpaaGreatDoorXF
import Derived.Test.YtagkjofpncpcpaaGreatDoorXI
import Derived.Test.YtagkjofpncpcpaaGreatDoorSam07
namespace Go.Proofs.YtagkjofpncpcpaaGreatDoor
open Go.RowKit
def OrdR (m:Nat):Prop:=∀ (v u:ValD) (w:World) (B N:Nat) (cs ds:List Value),okC m v→okC m u→N≤4294967296→B≤w.heap.size→ValD.At w B N v cs→ValD.At w B N u ds →
 Calls Tryz.prog 9 #[.agg cs.toArray,.agg ds.toArray] w (CmpE (cmpD m v u) w)
theorem text_e (a b:ByteArray) (w:World):Calls Tryz.prog 29 #[.string a,.string b] w (CmpE (cmpS a b) w):=by
 refine (text_r a b w).mono ?_
 rintro e w' ⟨h,rfl⟩
 exact ⟨h,Below.refl _ _⟩
set_option maxRecDepth 100000 in
set_option maxHeartbeats 3200000 in
theorem lists_r {m:Nat} (IH:OrdR m) (l1 l2:List ValD) (ya yb:Option Addr) (yc yd B N:Nat) (w:World) (hN:N≤4294967296) (hn1:l1.length≤N) (hn2:l2.length≤N) (hB:B≤w.heap.size) (ho1:∀ x∈l1,okC m x) (ho2:∀ x∈l2,okC m x) (ha:ValsAt w B N l1 ya) (hb:ValsAt w B N l2 yb) :
 Calls Tryz.prog 30 #[.slice ya l1.length yc,.slice yb l2.length yd] w (CmpE (lisC (cmpD m) l1 l2) w):=by
 have HA:=Hd ha
 have HB0:=Hd hb
 obtain ⟨F,hF⟩:∃ F,F=((cmpD m)):=⟨_,rfl⟩
 rw [← hF]
 have HFF:=Hd hF
 have HI:=Hd IH
 have HO1:=Hd ho1
 have HO2:=Hd ho2
 clear IH ho1 ho2
 clear ha hb hF
 go_enter Tryz.func30,Tryz.ntmps30
 go_wp2_with fail
 go_loopw [5] (fun x wr=>∃ k:Nat,x=.int .i64 k∧k≤l1.length∧k≤l2.length∧Hid (Below w.heap.size w wr)∧Hid (lisC F l1 l2=lisC F (l1.drop k) (l2.drop k))) (fun x _=>l1.length-(intOf x).toNat)
 case atStart=>exact ⟨0,rfl,Nat.zero_le _,Nat.zero_le _,Hd (Below.refl _ _),Hd rfl⟩
 case round =>
  obtain ⟨k,rfl,hkl,hkm,HB,HE⟩:=hrel
  by_cases h1:k<l1.length
  ·by_cases h2:k<l2.length
   ·have HD:=Hd (show lisC F l1 l2=if F l1[k] l2[k]=0 then lisC F (l1.drop (k+1)) (l2.drop (k+1)) else F l1[k] l2[k] by rw [HE.out,lisC_drop F h1 h2])
    obtain ⟨s,hs⟩:∃ s,s=F l1[k] l2[k]:=⟨_,rfl⟩
    rw [← hs] at HD
    rw [HFF.out] at hs
    obtain ⟨b0,o0,rfl,hb0,hg0⟩:=HA.out.get (by intro h;rw [h] at h1;simp at h1)
    obtain ⟨c0,hc0,hv0⟩:=hg0 k h1
    have C0:=Hd (show ∀ u:World,Below w.heap.size w u→u.rangeAt b0 (o0+k * 13) c0 from fun u hu=>(hc0.below (hu.mono hB) hb0).range)
    have hz0:=Hd (show (Tryz.prog.info? 30).map (·.size)=some c0.length by rw [hv0.len];exact sizeV)
    have V0:=Hd hv0
    clear hg0 hc0 hv0
    obtain ⟨b1,o1,rfl,hb1,hg1⟩:=HB0.out.get (by intro h;rw [h] at h2;simp at h2)
    obtain ⟨c1,hc1,hv1⟩:=hg1 k h2
    have C1:=Hd (show ∀ u:World,Below w.heap.size w u→u.rangeAt b1 (o1+k * 13) c1 from fun u hu=>(hc1.below (hu.mono hB) hb1).range)
    have hz1:=Hd (show (Tryz.prog.info? 30).map (·.size)=some c1.length by rw [hv1.len];exact sizeV)
    have V1:=Hd hv1
    clear hg1 hc1 hv1
    have HS:=Hd hs
    clear hs
    go_wp2_with fail
    refine wp_region_held_drew (S:=fun u=>Below w.heap.size w u) (by kernel_rfl) (HB.out.trans (drewB _)) (fun hHeld=>?_)
    refine' tk 0 (.slice (some ⟨b0,o0,none⟩) l1.length yc) rfl rfl (.inl ⟨by rfl,fun u hu=>(by go_simp)⟩) hHeld ?_
    simp only [sq1,sq0]
    refine' tk 1 (.int .i64 ((k:Nat):Int)) rfl rfl (.inl ⟨by rfl,fun u hu=>(by go_simp)⟩) hHeld ?_
    simp only [sq1,sq0]
    refine' tk 2 (.pointer (some ⟨b0,o0+k * 13,none⟩)) rfl rfl (.inl ⟨by rfl,fun u hu=>(by go_simp;all_goals first | omega | (rw [IntKind.wrap_i64];omega) | (rw [if_pos (by omega)];congr;all_goals omega))⟩) hHeld ?_
    simp only [sq1,sq0]
    refine' tk 3 (.agg c0.toArray) rfl rfl (yieldsIf_load_mid (by kernel_rfl) 30 _ rfl b0 (o0+k * 13) rfl c0 _ (fun u hu=>C0.out u hu) Tryz.underlying30 rfl hz0.out) hHeld ?_
    simp only [sq1,sq0]
    refine' tk 4 (.slice (some ⟨b1,o1,none⟩) l2.length yd) rfl rfl (.inl ⟨by rfl,fun u hu=>(by go_simp)⟩) hHeld ?_
    simp only [sq1,sq0]
    refine' tk 5 (.int .i64 ((k:Nat):Int)) rfl rfl (.inl ⟨by rfl,fun u hu=>(by go_simp)⟩) hHeld ?_
    simp only [sq1,sq0]
    refine' tk 6 (.pointer (some ⟨b1,o1+k * 13,none⟩)) rfl rfl (.inl ⟨by rfl,fun u hu=>(by go_simp;all_goals first | omega | (rw [IntKind.wrap_i64];omega) | (rw [if_pos (by omega)];congr;all_goals omega))⟩) hHeld ?_
    simp only [sq1,sq0]
    refine' tk 7 (.agg c1.toArray) rfl rfl (yieldsIf_load_mid (by kernel_rfl) 30 _ rfl b1 (o1+k * 13) rfl c1 _ (fun u hu=>C1.out u hu) Tryz.underlying30 rfl hz1.out) hHeld ?_
    simp only [sq1,sq0]
    refine rd1 8 rfl (fun K hK=>?_)
    rw [if_pos (by rfl)]
    go_simp
    refine (HI.out l1[k] l2[k] _ B N c0 c1 (HO1.out _ (List.getElem_mem h1)) (HO2.out _ (List.getElem_mem h2)) hN (Nat.le_trans hB hHeld.size) (V0.out.below (hHeld.mono hB)) (V1.out.below (hHeld.mono hB))).mono ?_
    rintro e uC ⟨rfl,hbC⟩
    rw [← HS.out]
    refine hK.out _ _ (belowThen hHeld hbC) (fun hHeld1=>?_)
    clear hK K hbC hHeld
    refine rd1 9 rfl (fun K hK=>?_)
    rw [if_pos (by rfl)]
    go_simp
    refine hK.out _ _ hHeld1 (fun hHeldx=>?_)
    clear hK K hHeldx
    refine wpAnyH_done (by kernel_rfl) ?_ _
    have HB1:=Hd hHeld1
    clear hHeld1
    by_cases h3:s=0
    ·have h4:=Hd h3
     have h5:(s != 0)=false:=by simp [h3]
     clear h3
     go_wp2_with fail
     go_roundw
     case rel=>exact ⟨k+1,by go_num,by omega,by omega,HB1,Hd (by rw [HD.out,if_pos h4.out])⟩
     case measure=>simp [intOf];omega
    ·have h4:=Hd h3
     have h5:(s != 0)=true:=by simp [h3]
     clear h3
     go_wp2_with fail
     go_ret
     exact ⟨by rw [HD.out,if_neg h4.out];try rfl,HB1.out⟩
   ·have HD:=Hd (show lisC F l1 l2=sgn ((l1.length:Int)-l2.length) 0 by rw [HE.out,lisC_end F hkl hkm (.inr (by omega)),sgn_sub])
    obtain ⟨s,hs⟩:∃ s,s=sgn ((l1.length:Int)-l2.length) 0:=⟨_,rfl⟩
    have HS:=Hd hs
    clear hs
    go_wp2_with (go_at_call 25;refine (sign_r _ _).mono ?_;rintro e w1 ⟨rfl,rfl⟩;rw [← HS.out])
    go_ret
    exact ⟨by rw [HD.out,← HS.out];try rfl,HB.out⟩
  ·have HD:=Hd (show lisC F l1 l2=sgn ((l1.length:Int)-l2.length) 0 by rw [HE.out,lisC_end F hkl hkm (.inl (by omega)),sgn_sub])
   obtain ⟨s,hs⟩:∃ s,s=sgn ((l1.length:Int)-l2.length) 0:=⟨_,rfl⟩
   have HS:=Hd hs
   clear hs
   go_wp2_with (go_at_call 25;refine (sign_r _ _).mono ?_;rintro e w1 ⟨rfl,rfl⟩;rw [← HS.out])
   go_ret
   exact ⟨by rw [HD.out,← HS.out];try rfl,HB.out⟩
set_option maxRecDepth 100000 in
set_option maxHeartbeats 6400000 in
theorem maps_r {m:Nat} (IH:OrdR m) (x y:List (ByteArray×ValD)) (pa pb:Option Addr) (pc pd B0 N:Nat) (w0:World) (hN:N≤4294967296) (hx:x.length≤N) (hy:y.length≤N) (hB0:B0≤w0.heap.size) (ho1:∀ z∈x,okC m z.2) (ho2:∀ z∈y,okC m z.2) (ha:FieldsAt w0 B0 N x pa) (hb:FieldsAt w0 B0 N y pb) :
 Calls Tryz.prog 31 #[.slice pa x.length pc,.slice pb y.length pd] w0 (CmpE (mapC (cmpD m) x y) w0):=by
 obtain ⟨l1,hl1⟩:∃ l,l=sortF x:=⟨_,rfl⟩
 obtain ⟨l2,hl2⟩:∃ l,l=sortF y:=⟨_,rfl⟩
 have hn1:l1.length≤N:=by rw [hl1,sortF_len];exact hx
 have hn2:l2.length≤N:=by rw [hl2,sortF_len];exact hy
 have HO1:=Hd (show ∀ z∈l1,okC m z.2 from fun z hz=>ho1 z ((sortF_perm _).mem_iff.1 (hl1 ▸ hz)))
 have HO2:=Hd (show ∀ z∈l2,okC m z.2 from fun z hz=>ho2 z ((sortF_perm _).mem_iff.1 (hl2 ▸ hz)))
 have HLX:=Hd hl1
 have HLY:=Hd hl2
 obtain ⟨r,hr⟩:∃ r,r=mapC (cmpD m) x y:=⟨_,rfl⟩
 rw [← hr]
 have HR:=Hd (hr.trans (mapC_rows m _ _))
 rw [← hl1,← hl2] at HR
 have HA0:=Hd ha
 have HB00:=Hd hb
 have HI:=Hd IH
 have hxl:=Hd (show x.length=l1.length by rw [hl1,sortF_len])
 have hyl:=Hd (show y.length=l2.length by rw [hl2,sortF_len])
 clear hr hl1 hl2 ha hb IH ho1 ho2
 go_enter Tryz.func31,Tryz.ntmps31
 go_wp2_with fail
 refine (fields_r x pa pc B0 N w0 hN hB0 hx HA0.out).mono ?_
 rintro e wF ⟨ya,yc,rfl,hbF,hfF⟩
 have HBF:=Hd hbF
 have HFF:=Hd hfF
 clear hbF hfF
 rw [hxl.out]
 go_wp2_with fail
 refine (fields_r y pb pd B0 N wF hN (Nat.le_trans hB0 HBF.out.size) hy (HB00.out.below (HBF.out.mono hB0))).mono ?_
 rintro e w ⟨yb,yd,rfl,hbG,hfG⟩
 rw [hyl.out]
 have HA1:=Hd ((HFF.out.below hbG).mono hbG.size)
 rw [← HLX.out] at HA1
 have HB1':=Hd hfG
 rw [← HLY.out] at HB1'
 have HBW:=Hd (belowThen HBF.out hbG)
 clear hbG hfG HFF HBF HA0 HB00
 obtain ⟨B,hBe⟩:∃ B,B=w.heap.size:=⟨_,rfl⟩
 rw [← hBe] at HA1 HB1'
 have hB:B≤w.heap.size:=by omega
 clear hBe
 have HA:=HA1
 have HB0:=HB1'
 clear HA1 HB1'
 go_wp2_with fail
 go_loopw [7] (fun x wr=>∃ k:Nat,x=.int .i64 k∧k≤l1.length∧k≤l2.length∧Hid (Below w.heap.size w wr)∧Hid (lisC keyF l1 l2=lisC keyF (l1.drop k) (l2.drop k))) (fun x _=>l1.length-(intOf x).toNat)
 case atStart=>exact ⟨0,rfl,Nat.zero_le _,Nat.zero_le _,Hd (Below.refl _ _),Hd rfl⟩
 case round =>
  obtain ⟨k,rfl,hkl,hkm,HB,HE⟩:=hrel
  by_cases h12:k<l1.length∧k<l2.length
  ·obtain ⟨h1,h2⟩:=h12
   have HD:=Hd (show lisC keyF l1 l2=if keyF l1[k] l2[k]=0 then lisC keyF (l1.drop (k+1)) (l2.drop (k+1)) else keyF l1[k] l2[k] by rw [HE.out,lisC_drop keyF h1 h2])
   obtain ⟨s,hs⟩:∃ s,s=keyF l1[k] l2[k]:=⟨_,rfl⟩
   rw [← hs] at HD
   obtain ⟨b0,o0,rfl,hb0,hg0⟩:=HA.out.get (by intro h;rw [h] at h1;simp at h1)
   obtain ⟨c0,_,hc0,hv0⟩:=hg0 k h1
   obtain ⟨key0,hk0⟩:∃ key,key=l1[k].1:=⟨_,rfl⟩
   rw [← hk0] at hc0
   have K0:=Hd hk0
   have C0:=Hd (show ∀ u:World,Below w.heap.size w u→u.cell? ⟨b0,o0+k * 14,none⟩=some (.string key0) from fun u hu=>(hc0.below (hu.mono hB) hb0).get0' rfl)
   clear hg0 hc0 hv0 hk0
   obtain ⟨b1,o1,rfl,hb1,hg1⟩:=HB0.out.get (by intro h;rw [h] at h2;simp at h2)
   obtain ⟨c1,_,hc1,hv1⟩:=hg1 k h2
   obtain ⟨key1,hk1⟩:∃ key,key=l2[k].1:=⟨_,rfl⟩
   rw [← hk1] at hc1
   have K1:=Hd hk1
   have C1:=Hd (show ∀ u:World,Below w.heap.size w u→u.cell? ⟨b1,o1+k * 14,none⟩=some (.string key1) from fun u hu=>(hc1.below (hu.mono hB) hb1).get0' rfl)
   clear hg1 hc1 hv1 hk1
   have HS:=Hd (show s=cmpS key0 key1 by rw [hs,K0.out,K1.out];rfl)
   clear hs
   go_wp2_with fail
   refine wp_region_held_drew (S:=fun u=>Below w.heap.size w u) (by kernel_rfl) (HB.out.trans (drewB _)) (fun hHeld=>?_)
   refine' tk 0 (.slice (some ⟨b0,o0,none⟩) l1.length yc) rfl rfl (.inl ⟨by rfl,fun u hu=>(by go_simp)⟩) hHeld ?_
   simp only [sq1,sq0]
   refine' tk 1 (.int .i64 ((k:Nat):Int)) rfl rfl (.inl ⟨by rfl,fun u hu=>(by go_simp)⟩) hHeld ?_
   simp only [sq1,sq0]
   refine' tk 2 (.pointer (some ⟨b0,o0+k * 14,none⟩)) rfl rfl (.inl ⟨by rfl,fun u hu=>(by go_simp;all_goals first | omega | (rw [IntKind.wrap_i64];omega) | (rw [if_pos (by omega)];congr;all_goals omega))⟩) hHeld ?_
   simp only [sq1,sq0]
   refine' tk 3 (.pointer (some ⟨b0,o0+k * 14,none⟩)) rfl rfl (.inl ⟨by rfl,fun u hu=>(by go_simp)⟩) hHeld ?_
   simp only [sq1,sq0]
   refine' tk 4 (.string key0) rfl rfl (.inl ⟨by rfl,fun u hu=>(by have hc:=C0.out u hu;go_simp)⟩) hHeld ?_
   simp only [sq1,sq0]
   refine' tk 5 (.slice (some ⟨b1,o1,none⟩) l2.length yd) rfl rfl (.inl ⟨by rfl,fun u hu=>(by go_simp)⟩) hHeld ?_
   simp only [sq1,sq0]
   refine' tk 6 (.int .i64 ((k:Nat):Int)) rfl rfl (.inl ⟨by rfl,fun u hu=>(by go_simp)⟩) hHeld ?_
   simp only [sq1,sq0]
   refine' tk 7 (.pointer (some ⟨b1,o1+k * 14,none⟩)) rfl rfl (.inl ⟨by rfl,fun u hu=>(by go_simp;all_goals first | omega | (rw [IntKind.wrap_i64];omega) | (rw [if_pos (by omega)];congr;all_goals omega))⟩) hHeld ?_
   simp only [sq1,sq0]
   refine' tk 8 (.pointer (some ⟨b1,o1+k * 14,none⟩)) rfl rfl (.inl ⟨by rfl,fun u hu=>(by go_simp)⟩) hHeld ?_
   simp only [sq1,sq0]
   refine' tk 9 (.string key1) rfl rfl (.inl ⟨by rfl,fun u hu=>(by have hc:=C1.out u hu;go_simp)⟩) hHeld ?_
   simp only [sq1,sq0]
   refine rd1 10 rfl (fun K hK=>?_)
   rw [if_pos (by rfl)]
   go_simp
   refine (text_e key0 key1 _).mono ?_
   rintro e uC ⟨rfl,hbC⟩
   rw [← HS.out]
   refine hK.out _ _ (belowThen hHeld hbC) (fun hHeld1=>?_)
   clear hK K hbC hHeld
   refine rd1 11 rfl (fun K hK=>?_)
   rw [if_pos (by rfl)]
   go_simp
   refine hK.out _ _ hHeld1 (fun hHeldx=>?_)
   clear hK K hHeldx
   refine wpAnyH_done (by kernel_rfl) ?_ _
   have HB1:=Hd hHeld1
   clear hHeld1
   by_cases h3:s=0
   ·have h4:=Hd h3
    have h5:(s != 0)=false:=by simp [h3]
    clear h3
    go_wp2_with fail
    go_roundw
    case rel=>exact ⟨k+1,by go_num,by omega,by omega,HB1,Hd (by rw [HD.out,if_pos h4.out])⟩
    case measure=>simp [intOf];omega
   ·have h4:=Hd (show r=s by rw [HR.out,HD.out,if_neg h3,if_neg h3])
    have h5:(s != 0)=true:=by simp [h3]
    clear h3
    go_wp2_with fail
    go_ret
    exact ⟨by rw [h4.out];try rfl,belowThen HBW.out HB1.out⟩
  ·have HC:=Hd (show lisC keyF l1 l2=sgn l1.length l2.length by rw [HE.out,lisC_end keyF hkl hkm (by omega)])
   have h12':¬ k<l1.length∨(k<l1.length∧¬ k<l2.length):=by omega
   clear h12
   by_cases hq:l1.length=l2.length
   ·have HQ:=Hd (show r=lisC (valF m) l1 l2 by rw [HR.out,HC.out,if_pos (sgn_0.2 (by omega))])
    have hq2:((l1.length:Int) != (l2.length:Int))=false:=by simp [hq]
    have HQL:=Hd hq
    have h1:¬ k<l1.length:=by omega
    have hk1:k=l1.length:=by omega
    clear h12' hq
    obtain ⟨F,hF⟩:∃ F,F=valF m:=⟨_,rfl⟩
    rw [← hF] at HQ
    have HF2:=Hd hF
    clear hF
    subst hk1
    go_wp2_with fail
    go_loopw [9] (fun x wr=>∃ k:Nat,x=.int .i64 k∧k≤l1.length∧Hid (Below w.heap.size w wr)∧Hid (r=lisC F (l1.drop k) (l2.drop k))) (fun x _=>l1.length-(intOf x).toNat)
    case atStart=>exact ⟨0,rfl,Nat.zero_le _,HB,Hd HQ.out⟩
    case round =>
     clear HB HQ HE hkl hkm h1 hq2 HC
     obtain ⟨k,rfl,hkl,HB,HE⟩:=hrel
     by_cases h1:k<l1.length
     ·have h2:k<l2.length:=by have:=HQL.out;omega
      have HD:=Hd (show r=if F l1[k] l2[k]=0 then lisC F (l1.drop (k+1)) (l2.drop (k+1)) else F l1[k] l2[k] by rw [HE.out,lisC_drop F h1 h2])
      obtain ⟨s,hs⟩:∃ s,s=F l1[k] l2[k]:=⟨_,rfl⟩
      rw [← hs] at HD
      rw [HF2.out] at hs
      obtain ⟨b0,o0,rfl,hb0,hg0⟩:=HA.out.get (by intro h;rw [h] at h1;simp at h1)
      obtain ⟨c0,_,hc0,hv0⟩:=hg0 k h1
      have C0:=Hd (show ∀ u:World,Below w.heap.size w u→u.rangeAt b0 (o0+k * 14+1) c0 from fun u hu=>(hc0.below (hu.mono hB) hb0).tail.range)
      have hz0:=Hd (show (Tryz.prog.info? 30).map (·.size)=some c0.length by rw [hv0.len];exact sizeV)
      have V0:=Hd hv0
      clear hg0 hc0 hv0
      obtain ⟨b1,o1,rfl,hb1,hg1⟩:=HB0.out.get (by intro h;rw [h] at h2;simp at h2)
      obtain ⟨c1,_,hc1,hv1⟩:=hg1 k h2
      have C1:=Hd (show ∀ u:World,Below w.heap.size w u→u.rangeAt b1 (o1+k * 14+1) c1 from fun u hu=>(hc1.below (hu.mono hB) hb1).tail.range)
      have hz1:=Hd (show (Tryz.prog.info? 30).map (·.size)=some c1.length by rw [hv1.len];exact sizeV)
      have V1:=Hd hv1
      clear hg1 hc1 hv1
      have HS:=Hd (show s=cmpD m l1[k].2 l2[k].2 from hs)
      clear hs
      go_wp2_with fail
      refine wp_region_held_drew (S:=fun u=>Below w.heap.size w u) (by kernel_rfl) (HB.out.trans (drewB _)) (fun hHeld=>?_)
      refine' tk 0 (.slice (some ⟨b0,o0,none⟩) l1.length yc) rfl rfl (.inl ⟨by rfl,fun u hu=>(by go_simp)⟩) hHeld ?_
      simp only [sq1,sq0]
      refine' tk 1 (.int .i64 ((k:Nat):Int)) rfl rfl (.inl ⟨by rfl,fun u hu=>(by go_simp)⟩) hHeld ?_
      simp only [sq1,sq0]
      refine' tk 2 (.pointer (some ⟨b0,o0+k * 14,none⟩)) rfl rfl (.inl ⟨by rfl,fun u hu=>(by go_simp;all_goals first | omega | (rw [IntKind.wrap_i64];omega) | (rw [if_pos (by omega)];congr;all_goals omega))⟩) hHeld ?_
      simp only [sq1,sq0]
      refine' tk 3 (.pointer (some ⟨b0,o0+k * 14+1,none⟩)) rfl rfl (.inl ⟨by rfl,fun u hu=>(by go_simp)⟩) hHeld ?_
      simp only [sq1,sq0]
      refine' tk 4 (.agg c0.toArray) rfl rfl (yieldsIf_load_mid (by kernel_rfl) 30 _ rfl b0 (o0+k * 14+1) rfl c0 _ (fun u hu=>C0.out u hu) Tryz.underlying30 rfl hz0.out) hHeld ?_
      simp only [sq1,sq0]
      refine' tk 5 (.slice (some ⟨b1,o1,none⟩) l2.length yd) rfl rfl (.inl ⟨by rfl,fun u hu=>(by go_simp)⟩) hHeld ?_
      simp only [sq1,sq0]
      refine' tk 6 (.int .i64 ((k:Nat):Int)) rfl rfl (.inl ⟨by rfl,fun u hu=>(by go_simp)⟩) hHeld ?_
      simp only [sq1,sq0]
      refine' tk 7 (.pointer (some ⟨b1,o1+k * 14,none⟩)) rfl rfl (.inl ⟨by rfl,fun u hu=>(by go_simp;all_goals first | omega | (rw [IntKind.wrap_i64];omega) | (rw [if_pos (by omega)];congr;all_goals omega))⟩) hHeld ?_
      simp only [sq1,sq0]
      refine' tk 8 (.pointer (some ⟨b1,o1+k * 14+1,none⟩)) rfl rfl (.inl ⟨by rfl,fun u hu=>(by go_simp)⟩) hHeld ?_
      simp only [sq1,sq0]
      refine' tk 9 (.agg c1.toArray) rfl rfl (yieldsIf_load_mid (by kernel_rfl) 30 _ rfl b1 (o1+k * 14+1) rfl c1 _ (fun u hu=>C1.out u hu) Tryz.underlying30 rfl hz1.out) hHeld ?_
      simp only [sq1,sq0]
      refine rd1 10 rfl (fun K hK=>?_)
      rw [if_pos (by rfl)]
      go_simp
      refine (HI.out l1[k].2 l2[k].2 _ B N c0 c1 (HO1.out _ (List.getElem_mem h1)) (HO2.out _ (List.getElem_mem h2)) hN (Nat.le_trans hB hHeld.size) (V0.out.below (hHeld.mono hB)) (V1.out.below (hHeld.mono hB))).mono ?_
      rintro e uC ⟨rfl,hbC⟩
      rw [← HS.out]
      refine hK.out _ _ (belowThen hHeld hbC) (fun hHeld1=>?_)
      clear hK K hbC hHeld
      refine rd1 11 rfl (fun K hK=>?_)
      rw [if_pos (by rfl)]
      go_simp
      refine hK.out _ _ hHeld1 (fun hHeldx=>?_)
      clear hK K hHeldx
      refine wpAnyH_done (by kernel_rfl) ?_ _
      have HB1:=Hd hHeld1
      clear hHeld1
      by_cases h3:s=0
      ·have h4:=Hd h3
       have h5:(s != 0)=false:=by simp [h3]
       clear h3
       go_wp2_with fail
       go_roundw
       case rel=>exact ⟨k+1,by go_num,by omega,HB1,Hd (by rw [HD.out,if_pos h4.out])⟩
       case measure=>simp [intOf];omega
      ·have h4:=Hd (show r=s by rw [HD.out,if_neg h3])
       have h5:(s != 0)=true:=by simp [h3]
       clear h3
       go_wp2_with fail
       go_ret
       exact ⟨by rw [h4.out];try rfl,belowThen HBW.out HB1.out⟩
     ·have HZ:=Hd (show r=0 by rw [HE.out,lisC_end F hkl (by have:=HQL.out;omega) (.inl (by omega)),HQL.out,sgn_self])
      go_wp2_with fail
      go_ret
      exact ⟨by rw [HZ.out];try rfl,belowThen HBW.out HB.out⟩
   ·have hq2:((l1.length:Int) != (l2.length:Int))=true:=by simp;omega
    have HQ:=Hd (show r=sgn ((l1.length:Int)-l2.length) 0 by rw [HR.out,HC.out,sgn_sub,if_neg (fun h=>hq (by have:=sgn_0.1 h;omega))])
    clear hq
    rcases h12' with h1 | ⟨h1,h2⟩
    all_goals
     go_wp2_with (go_at_call 25;refine (sign_r _ _).mono ?_;rintro e w1 ⟨rfl,rfl⟩;rw [← HQ.out])
     go_ret
     exact ⟨rfl,belowThen HBW.out HB.out⟩
end Go.Proofs.YtagkjofpncpcpaaGreatDoor

/- datakitref07.Cmp, by the kind of the values. -/
namespace Go.Proofs.YtagkjofpncpcpaaGreatDoor
open Go.RowKit
theorem bytes_S (l m:List Int) (h1:∀ x∈l,0≤x∧x≤255) (h2:∀ x∈m,0≤x∧x≤255):lisC sgn l m=cmpS (strOfNums l) (strOfNums m):=by
 rw [lisC_bytes l m h1 h2,← cmpB_S]
 rfl
set_option maxRecDepth 100000 in
set_option maxHeartbeats 3200000 in
theorem ordR_ne {m:Nat} (IH:OrdR m) (v u:ValD) (w:World) (B N:Nat) (cs ds:List Value) (h1:okC (m+1) v) (h2:okC (m+1) u) (hN:N≤4294967296) (hB:B≤w.heap.size) (hv:ValD.At w B N v cs) (hu:ValD.At w B N u ds) (hk:v.kind≠u.kind) :
 Calls Tryz.prog 9 #[.agg cs.toArray,.agg ds.toArray] w (CmpE (sgn v.kind u.kind) w):=by
 have hq:=And.intro hN hB;clear hq
 obtain ⟨ya,la,fa,yc,lc,fc,hh⟩:=hv.has
 obtain ⟨yb,lb,fb,yd,ld,fd,hg⟩:=hu.has
 have D0:=Hd (duo_boxes w cs ds 30)
 have HH:=Hd hh
 have HG:=Hd hg
 have HV:=Hd hv
 have HU:=Hd hu
 have O1:=Hd h1
 have O2:=Hd h2
 have HI:=Hd IH
 have ekind:=D0.out.one.get0 HH.out.kind
 have fkind:=D0.out.two.get0 HG.out.kind
 clear hh hg hv hu h1 h2 IH
 have hne:(v.kind != u.kind)=true:=by simpa using hk
 have k1:=O1.out.1
 have k2:=O2.out.1
 clear hk
 obtain ⟨r,hr⟩:∃ r,r=sgn v.kind u.kind:=⟨_,rfl⟩
 rw [← hr]
 have HR:=Hd (hr.trans (sgn_sub _ _).symm)
 clear hr
 go_enter Tryz.func9,Tryz.ntmps9
 go_wp2_with (go_at_call 25;refine (sign_r _ _).mono ?_;rintro e w1 ⟨rfl,rfl⟩;rw [← HR.out])
 go_ret
 exact ⟨rfl,D0.out.below⟩
set_option maxRecDepth 100000 in
set_option maxHeartbeats 3200000 in
theorem ordR_0 {m:Nat} (IH:OrdR m) (v u:ValD) (w:World) (B N:Nat) (cs ds:List Value) (h1:okC (m+1) v) (h2:okC (m+1) u) (hN:N≤4294967296) (hB:B≤w.heap.size) (hv:ValD.At w B N v cs) (hu:ValD.At w B N u ds) (hk:v.kind=0) (hku:u.kind=0) :
 Calls Tryz.prog 9 #[.agg cs.toArray,.agg ds.toArray] w (CmpE (0) w):=by
 have hq:=And.intro hN hB;clear hq
 obtain ⟨ya,la,fa,yc,lc,fc,hh⟩:=hv.has
 obtain ⟨yb,lb,fb,yd,ld,fd,hg⟩:=hu.has
 have D0:=Hd (duo_boxes w cs ds 30)
 have HH:=Hd hh
 have HG:=Hd hg
 have HV:=Hd hv
 have HU:=Hd hu
 have O1:=Hd h1
 have O2:=Hd h2
 have HI:=Hd IH
 have ekind:=D0.out.one.get0 HH.out.kind
 have fkind:=D0.out.two.get0 HG.out.kind
 rw [hk] at ekind
 rw [hku] at fkind
 clear hh hg hv hu h1 h2 IH hk hku
 go_enter Tryz.func9,Tryz.ntmps9
 go_wp2_with fail
 go_ret
 exact ⟨rfl,D0.out.below⟩
set_option maxRecDepth 100000 in
set_option maxHeartbeats 3200000 in
theorem ordR_1 {m:Nat} (IH:OrdR m) (v u:ValD) (w:World) (B N:Nat) (cs ds:List Value) (h1:okC (m+1) v) (h2:okC (m+1) u) (hN:N≤4294967296) (hB:B≤w.heap.size) (hv:ValD.At w B N v cs) (hu:ValD.At w B N u ds) (hk:v.kind=1) (hku:u.kind=1) :
 Calls Tryz.prog 9 #[.agg cs.toArray,.agg ds.toArray] w (CmpE (bI v.bool-bI u.bool) w):=by
 have hq:=And.intro hN hB;clear hq
 obtain ⟨ya,la,fa,yc,lc,fc,hh⟩:=hv.has
 obtain ⟨yb,lb,fb,yd,ld,fd,hg⟩:=hu.has
 have D0:=Hd (duo_boxes w cs ds 30)
 have HH:=Hd hh
 have HG:=Hd hg
 have HV:=Hd hv
 have HU:=Hd hu
 have O1:=Hd h1
 have O2:=Hd h2
 have HI:=Hd IH
 have ekind:=D0.out.one.get0 HH.out.kind
 have fkind:=D0.out.two.get0 HG.out.kind
 have ebool:=D0.out.one.get0 HH.out.bool
 have fbool:=D0.out.two.get0 HG.out.bool
 rw [hk] at ekind
 rw [hku] at fkind
 clear hh hg hv hu h1 h2 IH hk hku
 have HL0:=Hd (show w.heap.size<((w.alloc (.cells cs.toArray 30)).alloc (.cells ds.toArray 30)).heap.size by have:=D0.out.size;omega)
 have HL1:=Hd (show w.heap.size+1<((w.alloc (.cells cs.toArray 30)).alloc (.cells ds.toArray 30)).heap.size by have:=D0.out.size;omega)
 obtain ⟨x0,hx0⟩:∃ x,x=bI v.bool:=⟨_,rfl⟩
 obtain ⟨x1,hx1⟩:∃ x,x=bI u.bool:=⟨_,rfl⟩
 have b0:0≤x0∧x0≤1:=by rw [hx0];unfold bI;split<;>omega
 have b1:0≤x1∧x1≤1:=by rw [hx1];unfold bI;split<;>omega
 rw [← hx0,← hx1]
 have HX0:=Hd hx0
 have HX1:=Hd hx1
 clear hx0 hx1
 go_enter Tryz.func9,Tryz.ntmps9
 go_wp2_with fail
 refine wp_region_held_drew (S:=fun u=>Below ((w.alloc (.cells cs.toArray 30)).alloc (.cells ds.toArray 30)).heap.size ((w.alloc (.cells cs.toArray 30)).alloc (.cells ds.toArray 30)) u) (by kernel_rfl) (drewB _) (fun hHeld=>?_)
 refine' tk 0 (.pointer (some ⟨w.heap.size,1,none⟩)) rfl rfl (.inl ⟨by rfl,fun u hu=>(by go_simp)⟩) hHeld ?_
 simp only [sq1,sq0]
 refine' tk 1 (.bool v.bool) rfl rfl (.inl ⟨by rfl,fun q hq=>(by have hc:=(hq.cell (p:=⟨w.heap.size,1,none⟩) HL0.out).trans ebool;go_simp)⟩) hHeld ?_
 simp only [sq1,sq0]
 refine' tk 3 (.pointer (some ⟨w.heap.size+1,1,none⟩)) rfl rfl (.inl ⟨by rfl,fun u hu=>(by go_simp)⟩) hHeld ?_
 simp only [sq1,sq0]
 refine' tk 4 (.bool u.bool) rfl rfl (.inl ⟨by rfl,fun q hq=>(by have hc:=(hq.cell (p:=⟨w.heap.size+1,1,none⟩) HL1.out).trans fbool;go_simp)⟩) hHeld ?_
 simp only [sq1,sq0]
 refine rd1 2 rfl (fun K hK=>?_)
 rw [if_pos (by rfl)]
 go_simp
 refine (truth_r v.bool _).mono ?_
 rintro e uC0 ⟨rfl,rfl⟩
 rw [← HX0.out]
 refine hK.out _ _ hHeld (fun hHeld0=>?_)
 clear hK K hHeld
 have hHeld:=hHeld0
 clear hHeld0
 refine rd1 5 rfl (fun K hK=>?_)
 rw [if_pos (by rfl)]
 go_simp
 refine (truth_r u.bool _).mono ?_
 rintro e uC1 ⟨rfl,rfl⟩
 rw [← HX1.out]
 refine hK.out _ _ hHeld (fun hHeld1=>?_)
 clear hK K hHeld
 have hHeld:=hHeld1
 clear hHeld1
 refine' tk 6 (.int .i64 (x0-x1)) rfl rfl (.inl ⟨by rfl,fun u hu=>(by go_simp;all_goals first | omega | (rw [IntKind.wrap_i64];omega))⟩) hHeld ?_
 simp only [sq1,sq0]
 refine rd1 7 rfl (fun K hK=>?_)
 rw [if_pos (by rfl)]
 go_simp
 refine hK.out _ _ hHeld (fun hHeldx=>?_)
 clear hK K hHeldx
 refine wpAnyH_done (by kernel_rfl) ?_ _
 have HB1:=Hd (belowThen D0.out.below hHeld)
 clear hHeld
 go_wp2_with fail
 go_ret
 exact ⟨rfl,HB1.out⟩
set_option maxRecDepth 100000 in
set_option maxHeartbeats 3200000 in
theorem ordR_2 {m:Nat} (IH:OrdR m) (v u:ValD) (w:World) (B N:Nat) (cs ds:List Value) (h1:okC (m+1) v) (h2:okC (m+1) u) (hN:N≤4294967296) (hB:B≤w.heap.size) (hv:ValD.At w B N v cs) (hu:ValD.At w B N u ds) (hk:v.kind=2) (hku:u.kind=2) :
 Calls Tryz.prog 9 #[.agg cs.toArray,.agg ds.toArray] w (CmpE (decC v.num u.num) w):=by
 have hq:=And.intro hN hB;clear hq
 obtain ⟨ya,la,fa,yc,lc,fc,hh⟩:=hv.has
 obtain ⟨yb,lb,fb,yd,ld,fd,hg⟩:=hu.has
 have D0:=Hd (duo_boxes w cs ds 30)
 have HH:=Hd hh
 have HG:=Hd hg
 have HV:=Hd hv
 have HU:=Hd hu
 have O1:=Hd h1
 have O2:=Hd h2
 have HI:=Hd IH
 have ekind:=D0.out.one.get0 HH.out.kind
 have fkind:=D0.out.two.get0 HG.out.kind
 have eneg:=D0.out.one.get0 HH.out.neg
 have fneg:=D0.out.two.get0 HG.out.neg
 have edigits:=D0.out.one.get0 HH.out.digits
 have fdigits:=D0.out.two.get0 HG.out.digits
 have eexp:=D0.out.one.get0 HH.out.exp
 have fexp:=D0.out.two.get0 HG.out.exp
 rw [hk] at ekind
 rw [hku] at fkind
 clear hh hg hv hu h1 h2 IH hk hku
 obtain ⟨r,hr⟩:∃ r,r=decC v.num u.num:=⟨_,rfl⟩
 rw [← hr]
 have HR:=Hd hr
 clear hr
 go_enter Tryz.func9,Tryz.ntmps9
 go_wp2_with fail
 refine (deccmp_r v.num u.num _ O1.out.2.1 O2.out.2.1).mono ?_
 rintro e w1 ⟨rfl,hb⟩
 rw [← HR.out]
 have HB1:=Hd (belowThen D0.out.below hb)
 clear hb
 go_wp2_with fail
 go_ret
 exact ⟨rfl,HB1.out⟩
set_option maxRecDepth 100000 in
set_option maxHeartbeats 3200000 in
theorem ordR_3 {m:Nat} (IH:OrdR m) (v u:ValD) (w:World) (B N:Nat) (cs ds:List Value) (h1:okC (m+1) v) (h2:okC (m+1) u) (hN:N≤4294967296) (hB:B≤w.heap.size) (hv:ValD.At w B N v cs) (hu:ValD.At w B N u ds) (hk:v.kind=3) (hku:u.kind=3) :
 Calls Tryz.prog 9 #[.agg cs.toArray,.agg ds.toArray] w (CmpE (timC v.time u.time) w):=by
 have hq:=And.intro hN hB;clear hq
 obtain ⟨ya,la,fa,yc,lc,fc,hh⟩:=hv.has
 obtain ⟨yb,lb,fb,yd,ld,fd,hg⟩:=hu.has
 have D0:=Hd (duo_boxes w cs ds 30)
 have HH:=Hd hh
 have HG:=Hd hg
 have HV:=Hd hv
 have HU:=Hd hu
 have O1:=Hd h1
 have O2:=Hd h2
 have HI:=Hd IH
 have HT1:=Hd (h1.2.2.1 hk)
 have HT2:=Hd (h2.2.2.1 hku)
 have ekind:=D0.out.one.get0 HH.out.kind
 have fkind:=D0.out.two.get0 HG.out.kind
 have etkind:=D0.out.one.get0 HH.out.tkind
 have ftkind:=D0.out.two.get0 HG.out.tkind
 have eday:=D0.out.one.get0 HH.out.day
 have fday:=D0.out.two.get0 HG.out.day
 have enano:=D0.out.one.get0 HH.out.nano
 have fnano:=D0.out.two.get0 HG.out.nano
 have eoffset:=D0.out.one.get0 HH.out.offset
 have foffset:=D0.out.two.get0 HG.out.offset
 rw [hk] at ekind
 rw [hku] at fkind
 clear hh hg hv hu h1 h2 IH hk hku
 obtain ⟨r,hr⟩:∃ r,r=timC v.time u.time:=⟨_,rfl⟩
 rw [← hr]
 have HR:=Hd hr
 clear hr
 go_enter Tryz.func9,Tryz.ntmps9
 go_wp2_with fail
 refine (tcmp_r v.time u.time _ HT1.out HT2.out).mono ?_
 rintro e w1 ⟨rfl,hb⟩
 rw [← HR.out]
 have HB1:=Hd (belowThen D0.out.below hb)
 clear hb
 go_wp2_with fail
 go_ret
 exact ⟨rfl,HB1.out⟩
set_option maxRecDepth 100000 in
set_option maxHeartbeats 3200000 in
theorem ordR_4 {m:Nat} (IH:OrdR m) (v u:ValD) (w:World) (B N:Nat) (cs ds:List Value) (h1:okC (m+1) v) (h2:okC (m+1) u) (hN:N≤4294967296) (hB:B≤w.heap.size) (hv:ValD.At w B N v cs) (hu:ValD.At w B N u ds) (hk:v.kind=4) (hku:u.kind=4) :
 Calls Tryz.prog 9 #[.agg cs.toArray,.agg ds.toArray] w (CmpE (cmpS v.text u.text) w):=by
 have hq:=And.intro hN hB;clear hq
 obtain ⟨ya,la,fa,yc,lc,fc,hh⟩:=hv.has
 obtain ⟨yb,lb,fb,yd,ld,fd,hg⟩:=hu.has
 have D0:=Hd (duo_boxes w cs ds 30)
 have HH:=Hd hh
 have HG:=Hd hg
 have HV:=Hd hv
 have HU:=Hd hu
 have O1:=Hd h1
 have O2:=Hd h2
 have HI:=Hd IH
 have ekind:=D0.out.one.get0 HH.out.kind
 have fkind:=D0.out.two.get0 HG.out.kind
 have etext:=D0.out.one.get0 HH.out.text
 have ftext:=D0.out.two.get0 HG.out.text
 rw [hk] at ekind
 rw [hku] at fkind
 clear hh hg hv hu h1 h2 IH hk hku
 obtain ⟨r,hr⟩:∃ r,r=cmpS v.text u.text:=⟨_,rfl⟩
 rw [← hr]
 have HR:=Hd hr
 clear hr
 go_enter Tryz.func9,Tryz.ntmps9
 go_wp2_with fail
 refine (text_e v.text u.text _).mono ?_
 rintro e w1 ⟨rfl,hb⟩
 rw [← HR.out]
 have HB1:=Hd (belowThen D0.out.below hb)
 clear hb
 go_wp2_with fail
 go_ret
 exact ⟨rfl,HB1.out⟩
set_option maxRecDepth 100000 in
set_option maxHeartbeats 3200000 in
theorem ordR_5 {m:Nat} (IH:OrdR m) (v u:ValD) (w:World) (B N:Nat) (cs ds:List Value) (h1:okC (m+1) v) (h2:okC (m+1) u) (hN:N≤4294967296) (hB:B≤w.heap.size) (hv:ValD.At w B N v cs) (hu:ValD.At w B N u ds) (hk:v.kind=5) (hku:u.kind=5) :
 Calls Tryz.prog 9 #[.agg cs.toArray,.agg ds.toArray] w (CmpE (lisC sgn v.bytes u.bytes) w):=by
 have hq:=And.intro hN hB;clear hq
 obtain ⟨ya,la,fa,yc,lc,fc,hh⟩:=hv.has
 obtain ⟨yb,lb,fb,yd,ld,fd,hg⟩:=hu.has
 have D0:=Hd (duo_boxes w cs ds 30)
 have HH:=Hd hh
 have HG:=Hd hg
 have HV:=Hd hv
 have HU:=Hd hu
 have O1:=Hd h1
 have O2:=Hd h2
 have HI:=Hd IH
 have Y1:=conv_bytes (hh.atBytes.below (D0.out.below.mono hB)) yc
 have Y2:=conv_bytes (hg.atBytes.below (D0.out.below.mono hB)) yd
 have ekind:=D0.out.one.get0 HH.out.kind
 have fkind:=D0.out.two.get0 HG.out.kind
 have ebytes:=D0.out.one.get0 HH.out.bytes
 have fbytes:=D0.out.two.get0 HG.out.bytes
 rw [hk] at ekind
 rw [hku] at fkind
 clear hh hg hv hu h1 h2 IH hk hku
 obtain ⟨r,hr⟩:∃ r,r=lisC sgn v.bytes u.bytes:=⟨_,rfl⟩
 rw [← hr]
 have HR:=Hd (hr.trans (bytes_S _ _ HH.out.atBytes.small HG.out.atBytes.small))
 clear hr
 go_enter Tryz.func9,Tryz.ntmps9
 go_wp2_with fail
 refine (text_e (strOfNums v.bytes) (strOfNums u.bytes) _).mono ?_
 rintro e w1 ⟨rfl,hb⟩
 rw [← HR.out]
 have HB1:=Hd (belowThen D0.out.below hb)
 clear hb
 go_wp2_with fail
 go_ret
 exact ⟨rfl,HB1.out⟩
set_option maxRecDepth 100000 in
set_option maxHeartbeats 3200000 in
theorem ordR_6 {m:Nat} (IH:OrdR m) (v u:ValD) (w:World) (B N:Nat) (cs ds:List Value) (h1:okC (m+1) v) (h2:okC (m+1) u) (hN:N≤4294967296) (hB:B≤w.heap.size) (hv:ValD.At w B N v cs) (hu:ValD.At w B N u ds) (hk:v.kind=6) (hku:u.kind=6) :
 Calls Tryz.prog 9 #[.agg cs.toArray,.agg ds.toArray] w (CmpE (lisC (cmpD m) v.list u.list) w):=by
 have hq:=And.intro hN hB;clear hq
 obtain ⟨ya,la,fa,yc,lc,fc,hh⟩:=hv.has
 obtain ⟨yb,lb,fb,yd,ld,fd,hg⟩:=hu.has
 have D0:=Hd (duo_boxes w cs ds 30)
 have HH:=Hd hh
 have HG:=Hd hg
 have HV:=Hd hv
 have HU:=Hd hu
 have O1:=Hd h1
 have O2:=Hd h2
 have HI:=Hd IH
 have HL1:=Hd hh.own.2.2.2.2.2.2.2.2.2.1
 have HL2:=Hd hg.own.2.2.2.2.2.2.2.2.2.1
 have ekind:=D0.out.one.get0 HH.out.kind
 have fkind:=D0.out.two.get0 HG.out.kind
 have elist:=D0.out.one.get0 HH.out.list
 have flist:=D0.out.two.get0 HG.out.list
 rw [hk] at ekind
 rw [hku] at fkind
 clear hh hg hv hu h1 h2 IH hk hku
 obtain ⟨r,hr⟩:∃ r,r=lisC (cmpD m) v.list u.list:=⟨_,rfl⟩
 rw [← hr]
 have HR:=Hd hr
 clear hr
 go_enter Tryz.func9,Tryz.ntmps9
 go_wp2_with fail
 refine (lists_r HI.out v.list u.list la lb lc ld B N _ hN HL1.out HL2.out (Nat.le_trans hB D0.out.below.size) O1.out.2.2.2.2.2.1 O2.out.2.2.2.2.2.1 (HH.out.atList.below (D0.out.below.mono hB)) (HG.out.atList.below (D0.out.below.mono hB))).mono ?_
 rintro e w1 ⟨rfl,hb⟩
 rw [← HR.out]
 have HB1:=Hd (belowThen D0.out.below hb)
 clear hb
 go_wp2_with fail
 go_ret
 exact ⟨rfl,HB1.out⟩
set_option maxRecDepth 100000 in
set_option maxHeartbeats 3200000 in
theorem ordR_7 {m:Nat} (IH:OrdR m) (v u:ValD) (w:World) (B N:Nat) (cs ds:List Value) (h1:okC (m+1) v) (h2:okC (m+1) u) (hN:N≤4294967296) (hB:B≤w.heap.size) (hv:ValD.At w B N v cs) (hu:ValD.At w B N u ds) (hk:v.kind=7) (hku:u.kind=7) :
 Calls Tryz.prog 9 #[.agg cs.toArray,.agg ds.toArray] w (CmpE (mapC (cmpD m) v.fields u.fields) w):=by
 have hq:=And.intro hN hB;clear hq
 obtain ⟨ya,la,fa,yc,lc,fc,hh⟩:=hv.has
 obtain ⟨yb,lb,fb,yd,ld,fd,hg⟩:=hu.has
 have D0:=Hd (duo_boxes w cs ds 30)
 have HH:=Hd hh
 have HG:=Hd hg
 have HV:=Hd hv
 have HU:=Hd hu
 have O1:=Hd h1
 have O2:=Hd h2
 have HI:=Hd IH
 have HL1:=Hd hh.own.2.2.2.2.2.2.2.2.2.2
 have HL2:=Hd hg.own.2.2.2.2.2.2.2.2.2.2
 have ekind:=D0.out.one.get0 HH.out.kind
 have fkind:=D0.out.two.get0 HG.out.kind
 have efields:=D0.out.one.get0 HH.out.fields
 have ffields:=D0.out.two.get0 HG.out.fields
 rw [hk] at ekind
 rw [hku] at fkind
 clear hh hg hv hu h1 h2 IH hk hku
 obtain ⟨r,hr⟩:∃ r,r=mapC (cmpD m) v.fields u.fields:=⟨_,rfl⟩
 rw [← hr]
 have HR:=Hd hr
 clear hr
 go_enter Tryz.func9,Tryz.ntmps9
 go_wp2_with fail
 refine (maps_r HI.out v.fields u.fields fa fb fc fd B N _ hN HL1.out HL2.out (Nat.le_trans hB D0.out.below.size) O1.out.2.2.2.2.2.2 O2.out.2.2.2.2.2.2 (HH.out.atFields.below (D0.out.below.mono hB)) (HG.out.atFields.below (D0.out.below.mono hB))).mono ?_
 rintro e w1 ⟨rfl,hb⟩
 rw [← HR.out]
 have HB1:=Hd (belowThen D0.out.below hb)
 clear hb
 go_wp2_with fail
 go_ret
 exact ⟨rfl,HB1.out⟩
theorem cmp_r (m:Nat):OrdR m:=by
 induction m with
 | zero=>exact fun v u w B N cs ds h=>absurd h (by simp [okC])
 | succ m ih =>
   intro v u w B N cs ds h1 h2 hN hB hv hu
   obtain ⟨k0,k7⟩:=h1.1
   by_cases hk:v.kind=u.kind
   ·have e0:∀ r,cmpD (m+1) v u=r→CmpE r w=CmpE (cmpD (m+1) v u) w:=fun r h=>by rw [h]
    rcases (show v.kind=0∨v.kind=1∨v.kind=2∨v.kind=3∨v.kind=4∨v.kind=5∨v.kind=6∨v.kind=7 by omega) with h | h | h | h | h | h | h | h
    ·rw [← e0 0 (by unfold cmpD;simp [← hk,h])]
     exact ordR_0 ih v u w B N cs ds h1 h2 hN hB hv hu h (hk ▸ h)
    ·rw [← e0 _ (show _=bI v.bool-bI u.bool by unfold cmpD;simp [← hk,h])]
     exact ordR_1 ih v u w B N cs ds h1 h2 hN hB hv hu h (hk ▸ h)
    ·rw [← e0 _ (show _=decC v.num u.num by unfold cmpD;simp [← hk,h])]
     exact ordR_2 ih v u w B N cs ds h1 h2 hN hB hv hu h (hk ▸ h)
    ·rw [← e0 _ (show _=timC v.time u.time by unfold cmpD;simp [← hk,h])]
     exact ordR_3 ih v u w B N cs ds h1 h2 hN hB hv hu h (hk ▸ h)
    ·rw [← e0 _ (show _=cmpS v.text u.text by unfold cmpD;simp [← hk,h])]
     exact ordR_4 ih v u w B N cs ds h1 h2 hN hB hv hu h (hk ▸ h)
    ·rw [← e0 _ (show _=lisC sgn v.bytes u.bytes by unfold cmpD;simp [← hk,h])]
     exact ordR_5 ih v u w B N cs ds h1 h2 hN hB hv hu h (hk ▸ h)
    ·rw [← e0 _ (show _=lisC (cmpD m) v.list u.list by unfold cmpD;simp [← hk,h])]
     exact ordR_6 ih v u w B N cs ds h1 h2 hN hB hv hu h (hk ▸ h)
    ·rw [← e0 _ (show _=mapC (cmpD m) v.fields u.fields by unfold cmpD;simp [← hk,h])]
     exact ordR_7 ih v u w B N cs ds h1 h2 hN hB hv hu h (hk ▸ h)
   ·rw [show cmpD (m+1) v u=sgn v.kind u.kind by unfold cmpD;rw [if_pos hk]]
    exact ordR_ne ih v u w B N cs ds h1 h2 hN hB hv hu hk
end Go.Proofs.YtagkjofpncpcpaaGreatDoor
