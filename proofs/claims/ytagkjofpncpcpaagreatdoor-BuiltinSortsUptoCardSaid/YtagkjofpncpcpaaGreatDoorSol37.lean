/- The law BuiltinSorts: it says yes. -/
import Derived.Test.YtagkjofpncpcpaaGreatDoorProg
import Derived.Test.YtagkjofpncpcpaaGreatDoorGA
import Derived.Test.YtagkjofpncpcpaaGreatDoorGB
import Derived.Test.YtagkjofpncpcpaaGreatDoorGC
import Derived.Test.YtagkjofpncpcpaaGreatDoorGD
import Derived.Test.YtagkjofpncpcpaaGreatDoorRow36
import Derived.Test.YtagkjofpncpcpaaGreatDoorGF
import Derived.Test.YtagkjofpncpcpaaGreatDoorXA
import Derived.Test.YtagkjofpncpcpaaGreatDoorTA
import Derived.Test.YtagkjofpncpcpaaGreatDoorXK
import Derived.Test.YtagkjofpncpcpaaGreatDoorTD
import Derived.Test.YtagkjofpncpcpaaGreatDoorNam37
import Derived.Test.YtagkjofpncpcpaaGreatDoorTE
import Derived.Test.YtagkjofpncpcpaaGreatDoorSam07
import Derived.Test.YtagkjofpncpcpaaGreatDoorOL
import Derived.Test.YtagkjofpncpcpaaGreatDoorLwc07
namespace Go.Proofs.YtagkjofpncpcpaaGreatDoor
namespace Stb
end Stb
open Go.RowKit Stb
theorem resS_ok {v:ValD} (h:chkD v=0):resD v=(v,0):=by unfold resD;rw [if_pos h]
theorem elem_at {w:World} {B N:Nat} {l:List ValD} {a:Option Addr} (h:ValsAt w B N l a) {k:Nat} (hk:k<l.length):∃ b o cs,a=some ⟨b,o,none⟩∧b<B∧CellsAt w b (o+k * 13) cs∧ValD.At w B N l[k] cs:=by
 obtain ⟨b,o,e,hb,hg⟩:=h.get (by intro h;rw [h] at hk;simp at hk)
 obtain ⟨cs,h1,h2⟩:=hg k hk
 exact ⟨b,o,cs,e,hb,h1,h2⟩
set_option maxRecDepth 100000 in
set_option maxHeartbeats 12800000 in
theorem law37s (l:List ValD) (la:Option Addr) (lc:Nat) (w:World) (N:Nat) (hN:N≤4294967296) (hlN:l.length≤N) (ht:TabAt w) (hv:ValsAt w w.heap.size N l la) :
 Calls Tryz.prog 3 #[.slice la l.length lc] w (YesB w):=by
 obtain ⟨r0,hr0⟩:∃ r0,r0=lisR l la lc:=⟨_,rfl⟩
 have HV:=Hd (show ValD.At w w.heap.size N (lisD l) r0 by rw [hr0];exact lisD_at lc hlN hv)
 have HA:=Hd hv
 have HTB:=Hd ht
 have hz0:=Hd (show (Tryz.prog.info? 30).map (·.size)=some r0.length by rw [HV.out.len];exact sizeV)
 have H0:=Hd (show Below w.heap.size w (w.alloc (.cells r0.toArray 30)) from belowBox w _)
 have R0:=Hd (RowT.new w 30 r0)
 have HW:=Hd (show w.alloc (.cells r0.toArray 30)=w.alloc (.cells (lisR l la lc).toArray 30) by rw [hr0])
 clear hv ht hr0
 go_enter Tryz.func3,Tryz.ntmps3
 go_upto_region 2 with fail
 rw [show w.alloc (.cells #[.int .i64 6,.bool false,.bool false,.string ⟨#[]⟩,.int .i64 0,.int .i64 0,.int .i64 0,.int .i64 0,.int .i64 0,.string ⟨#[]⟩,.slice none 0 0,.slice la l.length lc,.slice none 0 0] 30)=_ from HW.out.symm]
 clear HW
 go_wp2_with ((with_reducible show wpList _ _ _ (⟨some 14,_,_,_,_,_⟩::_) _ _);refine wpList_load_mid rfl 30 _ rfl w.heap.size 0 rfl r0 _ R0.out.range Tryz.underlying30 rfl hz0.out ?_)
 refine (valid37x (lisD l) _ w.heap.size N r0 hN H0.out.size (HV.out.below H0.out)).mono ?_
 rintro e w1 ⟨b1,rfl,hq,hb⟩
 have H1:=Hd (belowThen H0.out hb)
 have R1:=Hd (R0.out.then hb)
 clear hb
 cases b1 with
 | false =>
   clear hq
   go_wp2_with fail
   go_ret
   exact ⟨rfl,H1.out⟩
 | true =>
 have HC:=Hd (hq rfl).2
 have HF:=Hd (show ∀ x∈l,fitsV 59 x from (hq rfl).1.1)
 clear hq
 have HOK:=Hd (lis_ok HC.out)
 go_wp2_with ((with_reducible show wpList _ _ _ (⟨some 18,_,_,_,_,_⟩::_) _ _);refine wpList_load_mid rfl 30 _ rfl w.heap.size 0 rfl r0 _ R1.out.range Tryz.underlying30 rfl hz0.out ?_)
 refine (apply_so l _ w.heap.size N r0 hN HOK.out HF.out hlN H1.out.size (HV.out.below H1.out) (HTB.out.below H1.out)).mono ?_
 rintro e w3 ⟨g,hp,hs,xl,hE,hsol,hb⟩
 obtain ⟨A,hA⟩:∃ A,A=ordL l g:=⟨_,rfl⟩
 have HP:=Hd hp
 have HSO:=Hd hs
 have HAE:=Hd hA
 have HPE:=Hd (show List.Perm A l by rw [hA];exact ordL_perm hp)
 have HAC:=Hd (lis_perm HPE.out HC.out)
 rw [← hA,resS_ok HAC.out] at hE hsol
 subst hE
 have HAL:=Hd (show A.length=l.length by rw [hA];exact ordL_len l g)
 have hx:=hsol.here
 have HX:=Hd hx
 have HLX:=Hd hx.len
 have hz3:=Hd (show (Tryz.prog.info? 30).map (·.size)=some xl.length by rw [hx.len];exact sizeV)
 have H3:=Hd (belowThen (belowThen H1.out hb) (belowBox w3 (.cells xl.toArray 30)))
 have X3:=Hd (RowT.new w3 30 xl)
 have hs3:=Hd (show (w3.alloc (.cells xl.toArray 30)).heap.size=w3.heap.size+1 from World.size_alloc ..)
 have HFA:=Hd (show ∀ x∈A,fitsV 59 x from fun x hx=>HF.out x (HPE.out.mem_iff.1 hx))
 have HOA:=Hd (lis_ok HAC.out)
 clear hx hsol hb hp hs hA R1
 dsimp only
 go_wp2_with (first
  | ((with_reducible show wpList _ _ _ (⟨none,.store 30 (.tmp 4) _,_,_,_,_⟩::_) _ _);refine wpList_store_new rfl 30 _ _ rfl zeroV xl.toArray rfl rfl (row_size HLX.out) (row_zero HLX.out) (Go.all_oneCell_toArray HX.out.oneCell) ?_)
  | ((with_reducible show wpList _ _ _ (⟨some 23,_,_,_,_,_⟩::_) _ _);refine wpList_load_mid rfl 30 _ rfl w3.heap.size 0 rfl xl _ X3.out.range Tryz.underlying30 rfl hz3.out ?_))
 refine (apply_so A _ w3.heap.size N xl hN HOA.out HFA.out (by rw [HAL.out];exact hlN) (by rw [hs3.out];omega) (HX.out.below (belowBox w3 _)) (HTB.out.below H3.out)).mono ?_
 rintro e w5 ⟨g2,hp,hs,xs,hE,hsol,hb⟩
 have HAA:=Hd (show ordL A g2=A from by
  rw [HAE.out] at hp hs ⊢
  exact ordL_again HOK.out HP.out HSO.out hp hs)
 rw [HAA.out,resS_ok HAC.out] at hE hsol
 subst hE
 have hx:=hsol.here
 have HXS:=Hd hx
 have HLS:=Hd hx.len
 have hz5:=Hd (show (Tryz.prog.info? 30).map (·.size)=some xs.length by rw [hx.len];exact sizeV)
 have H5:=Hd (belowThen (belowThen H3.out hb) (belowBox w5 (.cells xs.toArray 30)))
 have X5:=Hd ((X3.out.then hb).alloc (.cells xs.toArray 30))
 have S5:=Hd (RowT.new w5 30 xs)
 have hs5:=Hd (show (w5.alloc (.cells xs.toArray 30)).heap.size=w5.heap.size+1 from World.size_alloc ..)
 have hw35:=Hd (show w3.heap.size+1≤w5.heap.size by have h:=hb.size;rw [hs3.out] at h;exact h)
 have BBP:=Hd (show Below w3.heap.size w3 (w5.alloc (.cells xs.toArray 30)) from (belowThen (belowBox w3 (.cells xl.toArray 30)) hb).trans ((belowBox w5 (.cells xs.toArray 30)).mono (by have:=hw35.out;omega)))
 have HX5:=Hd (show ValD.At (w5.alloc (.cells xs.toArray 30)) w5.heap.size N (lisD A) xl from ((HX.out.below BBP.out).mono (by have:=hw35.out;omega)))
 obtain ⟨_,aa,_,_,ac,_,hxh⟩:=HX.out.has
 have a0:=X5.out.cell (show xl[0]?=some (.int .i64 6) from hxh.kind)
 have A11:=Hd (show xl[11]?=some (.slice aa l.length ac) by have h:=hxh.list;rw [show (lisD A).list=A from rfl,HAL.out] at h;exact h)
 have a11:=X5.out.cell A11.out
 have HVA:=Hd (show ValsAt w3 w3.heap.size N A aa from hxh.atList)
 have hll:=hlN
 clear hx hsol hb hp hs hxh
 dsimp only
 go_wp2_with (first
  | ((with_reducible show wpList _ _ _ (⟨none,.store 30 (.tmp 6) _,_,_,_,_⟩::_) _ _);refine wpList_store_new rfl 30 _ _ rfl zeroV xs.toArray rfl rfl (row_size HLS.out) (row_zero HLS.out) (Go.all_oneCell_toArray HXS.out.oneCell) ?_)
  | ((with_reducible show wpList _ _ _ (⟨some 47,_,_,_,_,_⟩::_) _ _);refine wpList_load_mid_g rfl 30 _ rfl w3.heap.size 0 rfl xl _ X5.out.range Tryz.underlying30 rfl hz3.out ?_)
  | ((with_reducible show wpList _ _ _ (⟨some 48,_,_,_,_,_⟩::_) _ _);refine wpList_load_mid_g rfl 30 _ rfl w5.heap.size 0 rfl xs _ S5.out.range Tryz.underlying30 rfl hz5.out ?_))
 refine (same_yes 60 (lisD A) _ w5.heap.size N xl xs ⟨HFA.out,fun f h=>(by cases h)⟩ hN (by rw [hs5.out];omega) HX5.out (HXS.out.below (belowBox w5 _))).mono ?_
 rintro e w6 ⟨rfl,hb⟩
 have H6:=Hd (belowThen H5.out hb)
 have X6:=Hd (X5.out.then hb)
 have HVL:=Hd (show ValsAt w6 w6.heap.size N l la from (HA.out.below H6.out).mono H6.out.size)
 have hs6:=Hd (show w5.heap.size+1≤w6.heap.size by have h:=hb.size;rw [hs5.out] at h;exact h)
 have BB36:=Hd (show Below w3.heap.size w3 w6 from BBP.out.trans (hb.mono (by rw [hs5.out];have:=hw35.out;omega)))
 have HVA6:=Hd (show ValsAt w6 w6.heap.size N A aa from ((HVA.out.below BB36.out).mono (by have:=hw35.out;have:=hs6.out;omega)))
 clear hb a0 a11 R0 X3 X5 S5 HX HXS HX5 HVA
 go_wp2_with fail
 go_simp
 go_loopw [8] (fun i wr=>∃ (k:Nat),k≤l.length∧i=.int .i64 k∧Hid (Below w6.heap.size w6 wr)) (fun i _=>l.length-(intOf i).toNat)
 case atStart=>exact ⟨0,by omega,rfl,Hd (Below.refl _ _)⟩
 case round =>
  obtain ⟨wa,hwa⟩:∃ wa,wa=wr:=⟨_,rfl⟩
  subst wr
  obtain ⟨k,hk,rfl,HB⟩:=hrel
  by_cases hlt:k<l.length
  ·obtain ⟨p,hp,hgp⟩:=rank_place HP.out hlt
   have HGP:=Hd hgp
   have HRK:=Hd (show (List.range l.length).countP (fun q=>rankB (cmpL l) q k)=p by rw [← hgp];exact rank (tri_L HOK.out) HP.out HSO.out hp)
   obtain ⟨lb,lo,ck,hla,hlb,hck,hvk⟩:=elem_at HVL.out hlt
   subst hla
   have CK:=Hd hck
   have VK:=Hd hvk
   have hnk:=Hd (show (Tryz.prog.info? 30).map (·.size)=some ck.length by rw [hvk.len];exact sizeV)
   clear hgp hck hvk
   by_cases hk0:k=0
   case pos =>
    subst hk0
    go_wp2_with fail
    refine wp_region_held_drew (S:=(fun u=>Below wa.heap.size wa u)) (by kernel_rfl) (show Below wa.heap.size wa wa.drew from ⟨rfl,rfl,rfl,Nat.le_refl _,fun _ _=>rfl⟩) (fun hHeld=>?_)
    refine' tk 0 (.int .i64 ((0:Nat):Int)) rfl rfl (.inl ⟨by kernel_rfl,fun u hu=>(by go_simp)⟩) hHeld ?_
    simp only [sq1,sq0]
    refine' tk 1 (.bool false) rfl rfl (.inl ⟨by kernel_rfl,fun u hu=>(by go_simp;all_goals first | omega | (rw [IntKind.wrap_i64];omega) | (rw [if_pos (by omega)];congr;all_goals omega))⟩) hHeld ?_
    simp only [sq1,sq0]
    refine' tk 2 (.bool false) rfl rfl (.inl ⟨by kernel_rfl,fun u hu=>(by go_simp)⟩) hHeld ?_
    simp only [sq1,sq0]
    refine' tk 3 undef rfl rfl (.inr ⟨by rfl,rfl⟩) hHeld ?_
    simp only [sq1,sq0]
    refine' tk 4 undef rfl rfl (.inr ⟨by rfl,rfl⟩) hHeld ?_
    simp only [sq1,sq0]
    refine' tk 5 undef rfl rfl (.inr ⟨by rfl,rfl⟩) hHeld ?_
    simp only [sq1,sq0]
    refine' tk 6 undef rfl rfl (.inr ⟨by rfl,rfl⟩) hHeld ?_
    simp only [sq1,sq0]
    refine' tk 7 undef rfl rfl (.inr ⟨by rfl,rfl⟩) hHeld ?_
    simp only [sq1,sq0]
    refine' tk 8 undef rfl rfl (.inr ⟨by rfl,rfl⟩) hHeld ?_
    simp only [sq1,sq0]
    refine' tk 9 undef rfl rfl (.inr ⟨by rfl,rfl⟩) hHeld ?_
    simp only [sq1,sq0]
    refine' tk 10 undef rfl rfl (.inr ⟨by rfl,rfl⟩) hHeld ?_
    simp only [sq1,sq0]
    refine' tk 11 undef rfl rfl (.inr ⟨by rfl,rfl⟩) hHeld ?_
    simp only [sq1,sq0]
    refine' tk 12 undef rfl rfl (.inr ⟨by rfl,rfl⟩) hHeld ?_
    simp only [sq1,sq0]
    refine' tk 13 undef rfl rfl (.inr ⟨by rfl,rfl⟩) hHeld ?_
    simp only [sq1,sq0]
    refine' tk 14 undef rfl rfl (.inr ⟨by rfl,rfl⟩) hHeld ?_
    simp only [sq1,sq0]
    refine' tk 15 undef rfl rfl (.inr ⟨by rfl,rfl⟩) hHeld ?_
    simp only [sq1,sq0]
    refine' tk 16 (.bool false) rfl rfl (.inl ⟨by kernel_rfl,fun u hu=>(by go_simp)⟩) hHeld ?_
    simp only [sq1,sq0]
    refine wpAnyH_done (by kernel_rfl) ?_ _
    have HB2:=Hd (belowThen HB.out hHeld)
    clear hHeld
    go_wp2_with fail
    go_simp
    go_loopw [9,10] (fun c i wr=>∃ (j m:Nat),j≤l.length∧m≤j∧c=.int .i64 m∧i=.int .i64 j∧Hid (m=(List.range j).countP (fun q=>rankB (cmpL l) q 0))∧Hid (Below w6.heap.size w6 wr)) (fun _ i _=>l.length-(intOf i).toNat)
    case atStart=>exact ⟨0,0,by omega,by omega,rfl,rfl,Hd rfl,HB2⟩
    case round =>
     clear HB2
     obtain ⟨wb,hwb⟩:∃ wb,wb=wr:=⟨_,rfl⟩
     subst wr
     obtain ⟨j,m,hj,hmj,rfl,rfl,HM,HB⟩:=hrel
     by_cases hlj:j<l.length
     ·obtain ⟨lb2,lo2,cj,hla2,_,hcj,hvj⟩:=elem_at HVL.out hlj
      cases hla2
      have CJ:=Hd hcj
      have VJ:=Hd hvj
      have hnj:=Hd (show (Tryz.prog.info? 30).map (·.size)=some cj.length by rw [hvj.len];exact sizeV)
      obtain ⟨x,hx⟩:∃ x,x=cmpD 47 l[j] l[0]:=⟨_,rfl⟩
      have HXE:=Hd hx
      have HXL:=Hd (show x=cmpL l j 0 by rw [hx];unfold cmpL;rw [atL_at hlj,atL_at hlt])
      have HST:=Hd (rankB_step (f:=cmpL l) j 0)
      clear hcj hvj hx
      go_wp2_with fail
      refine wp_region_held_drew (S:=(fun u=>Below wb.heap.size wb u)) (by kernel_rfl) (show Below wb.heap.size wb wb.drew from ⟨rfl,rfl,rfl,Nat.le_refl _,fun _ _=>rfl⟩) (fun hHeld=>?_)
      refine' tk 0 (.slice (some ⟨lb,lo,none⟩) l.length lc) rfl rfl (.inl ⟨by kernel_rfl,fun u hu=>(by go_simp)⟩) hHeld ?_
      simp only [sq1,sq0]
      refine' tk 1 (.int .i64 (j:Int)) rfl rfl (.inl ⟨by kernel_rfl,fun u hu=>(by go_simp)⟩) hHeld ?_
      simp only [sq1,sq0]
      refine' tk 2 (.pointer (some ⟨lb,lo+j * 13,none⟩)) rfl rfl (.inl ⟨by kernel_rfl,fun u hu=>(by go_simp;all_goals first | omega | (rw [IntKind.wrap_i64];omega) | (rw [if_pos (by omega)];congr;all_goals omega))⟩) hHeld ?_
      simp only [sq1,sq0]
      refine' tk 3 (.agg cj.toArray) rfl rfl (yieldsIf_load_mid (by kernel_rfl) 30 _ rfl lb (lo+j * 13) (by kernel_rfl) cj _ (fun u hu=>(CJ.out.below (belowThen HB.out hu) hlb).range) Tryz.underlying30 rfl hnj.out) hHeld ?_
      simp only [sq1,sq0]
      refine' tk 4 (.slice (some ⟨lb,lo,none⟩) l.length lc) rfl rfl (.inl ⟨by kernel_rfl,fun u hu=>(by go_simp)⟩) hHeld ?_
      simp only [sq1,sq0]
      refine' tk 5 (.int .i64 ((0:Nat):Int)) rfl rfl (.inl ⟨by kernel_rfl,fun u hu=>(by go_simp)⟩) hHeld ?_
      simp only [sq1,sq0]
      refine' tk 6 (.pointer (some ⟨lb,lo+0 * 13,none⟩)) rfl rfl (.inl ⟨by kernel_rfl,fun u hu=>(by go_simp;all_goals first | omega | (rw [IntKind.wrap_i64];omega) | (rw [if_pos (by omega)];congr;all_goals omega))⟩) hHeld ?_
      simp only [sq1,sq0]
      refine' tk 7 (.agg ck.toArray) rfl rfl (yieldsIf_load_mid (by kernel_rfl) 30 _ rfl lb (lo+0 * 13) (by kernel_rfl) ck _ (fun u hu=>(CK.out.below (belowThen HB.out hu) hlb).range) Tryz.underlying30 rfl hnk.out) hHeld ?_
      simp only [sq1,sq0]
      refine rd1 8 rfl (fun K hK=>?_)
      try rw [if_pos (by rfl)]
      go_simp
      refine (cmp_r 47 l[j] l[0] _ w6.heap.size N cj ck (HOK.out _ (List.getElem_mem hlj)) (HOK.out _ (List.getElem_mem hlt)) hN (Nat.le_trans HB.out.size hHeld.size) (VJ.out.below (belowThen HB.out hHeld)) (VK.out.below (belowThen HB.out hHeld))).mono ?_
      rw [show cmpD 47 l[j] l[0]=x from HXE.out.symm]
      rintro e u3 ⟨rfl,hb3⟩
      have hA3:Below wb.heap.size wb u3:=belowThen hHeld hb3
      refine hK.out _ _ hA3 (fun _=>?_)
      clear hK K hb3 hHeld
      have hHeld:=hA3
      clear hA3
      try dsimp only
      refine rd1 9 rfl (fun K hK=>?_)
      try rw [if_pos (by rfl)]
      go_simp
      refine hK.out _ _ hHeld (fun _=>?_)
      clear hK K
      refine wpAnyH_done (by kernel_rfl) ?_ _
      have HB2:=Hd (belowThen HB.out hHeld)
      clear hHeld
      by_cases c1:x<0
      ·have HM2:=Hd (show m+1=(List.range (j+1)).countP (fun q=>rankB (cmpL l) q 0) by rw [HST.out,← HM.out,if_pos (by rw [rankB_iff,← HXL.out];exact .inl c1)])
       have hx2:(x==0)=false:=by simp;omega
       go_wp2_with fail
       go_roundw
       case rel=>exact ⟨j+1,m+1,by omega,by omega,by go_num,by go_num,HM2,HB2⟩
       case measure=>simp [intOf];omega
      ·by_cases c2:x=0
       ·have hx2:(x==0)=true:=by simpa using c2
        by_cases c3:j<0
        ·exact absurd c3 (Nat.not_lt_zero _)
        ·have HM2:=Hd (show m=(List.range (j+1)).countP (fun q=>rankB (cmpL l) q 0) by rw [HST.out,← HM.out,if_neg (by rw [rankB_iff,← HXL.out];omega)];rfl)
         go_wp2_with fail
         go_roundw
         case rel=>exact ⟨j+1,m,by omega,by omega,rfl,by go_num,HM2,HB2⟩
         case measure=>simp [intOf];omega
       ·have hx2:(x==0)=false:=by simpa using c2
        have HM2:=Hd (show m=(List.range (j+1)).countP (fun q=>rankB (cmpL l) q 0) by rw [HST.out,← HM.out,if_neg (by rw [rankB_iff,← HXL.out];omega)];rfl)
        go_wp2_with fail
        go_roundw
        case rel=>exact ⟨j+1,m,by omega,by omega,rfl,by go_num,HM2,HB2⟩
        case measure=>simp [intOf];omega
     ·have hje:j=l.length:=by omega
      have hmp:m=p:=by rw [HM.out,hje];exact HRK.out
      subst hmp
      clear hje
      obtain ⟨ab,ao,cm,haa,hab,hcm,hvm⟩:=elem_at HVA6.out (k:=m) (by rw [HAL.out];exact hp)
      subst haa
      have CM:=Hd hcm
      have VM:=Hd (show ValD.At w6 w6.heap.size N l[0] cm from by
       have e:A[m]'(by rw [HAL.out];exact hp)=l[0]:=by
        simp only [HAE.out]
        rw [ordL_at,HGP.out,atL_at hlt]
       rw [← e]
       exact hvm)
      have hnm:=Hd (show (Tryz.prog.info? 30).map (·.size)=some cm.length by rw [hvm.len];exact sizeV)
      clear hcm hvm
      go_wp2_with fail
      refine wp_region_held_drew (S:=(fun u=>Below wb.heap.size wb u)) (by kernel_rfl) (show Below wb.heap.size wb wb.drew from ⟨rfl,rfl,rfl,Nat.le_refl _,fun _ _=>rfl⟩) (fun hHeld=>?_)
      refine' tk 0 (.pointer (some ⟨w3.heap.size,11,none⟩)) rfl rfl (.inl ⟨by kernel_rfl,fun u hu=>(by go_simp)⟩) hHeld ?_
      simp only [sq1,sq0]
      refine' tk 1 (.slice (some ⟨ab,ao,none⟩) l.length ac) rfl rfl (.inl ⟨by kernel_rfl,fun u hu=>(by have hc:=(RowT.cell (X6.out.then (belowThen HB.out hu)) A11.out);go_simp)⟩) hHeld ?_
      simp only [sq1,sq0]
      refine' tk 2 (.int .i64 (m:Int)) rfl rfl (.inl ⟨by kernel_rfl,fun u hu=>(by go_simp)⟩) hHeld ?_
      simp only [sq1,sq0]
      refine' tk 3 (.pointer (some ⟨ab,ao+m * 13,none⟩)) rfl rfl (.inl ⟨by kernel_rfl,fun u hu=>(by go_simp;all_goals first | omega | (rw [IntKind.wrap_i64];omega) | (rw [if_pos (by omega)];congr;all_goals omega))⟩) hHeld ?_
      simp only [sq1,sq0]
      refine' tk 4 (.agg cm.toArray) rfl rfl (yieldsIf_load_mid (by kernel_rfl) 30 _ rfl ab (ao+m * 13) (by kernel_rfl) cm _ (fun u hu=>(CM.out.below (belowThen HB.out hu) hab).range) Tryz.underlying30 rfl hnm.out) hHeld ?_
      simp only [sq1,sq0]
      refine' tk 5 (.slice (some ⟨lb,lo,none⟩) l.length lc) rfl rfl (.inl ⟨by kernel_rfl,fun u hu=>(by go_simp)⟩) hHeld ?_
      simp only [sq1,sq0]
      refine' tk 6 (.int .i64 ((0:Nat):Int)) rfl rfl (.inl ⟨by kernel_rfl,fun u hu=>(by go_simp)⟩) hHeld ?_
      simp only [sq1,sq0]
      refine' tk 7 (.pointer (some ⟨lb,lo+0 * 13,none⟩)) rfl rfl (.inl ⟨by kernel_rfl,fun u hu=>(by go_simp;all_goals first | omega | (rw [IntKind.wrap_i64];omega) | (rw [if_pos (by omega)];congr;all_goals omega))⟩) hHeld ?_
      simp only [sq1,sq0]
      refine' tk 8 (.agg ck.toArray) rfl rfl (yieldsIf_load_mid (by kernel_rfl) 30 _ rfl lb (lo+0 * 13) (by kernel_rfl) ck _ (fun u hu=>(CK.out.below (belowThen HB.out hu) hlb).range) Tryz.underlying30 rfl hnk.out) hHeld ?_
      simp only [sq1,sq0]
      refine rd1 9 rfl (fun K hK=>?_)
      try rw [if_pos (by rfl)]
      go_simp
      refine (same_yes 59 l[0] _ w6.heap.size N cm ck (HF.out _ (List.getElem_mem hlt)) hN (Nat.le_trans HB.out.size hHeld.size) (VM.out.below (belowThen HB.out hHeld)) (VK.out.below (belowThen HB.out hHeld))).mono ?_
      rintro e u3 ⟨rfl,hb3⟩
      have hA3:Below wb.heap.size wb u3:=belowThen hHeld hb3
      refine hK.out _ _ hA3 (fun _=>?_)
      clear hK K hb3 hHeld
      have hHeld:=hA3
      clear hA3
      try dsimp only
      refine' tk 10 (.bool false) rfl rfl (.inl ⟨by kernel_rfl,fun u hu=>(by go_simp)⟩) hHeld ?_
      simp only [sq1,sq0]
      refine wpAnyH_done (by kernel_rfl) ?_ _
      have HB2:=Hd (belowThen HB.out hHeld)
      clear hHeld
      go_wp2_with fail
      go_roundw
      case rel=>exact ⟨0+1,by omega,by go_num,HB2⟩
      case measure=>simp [intOf];omega
   case neg =>
    obtain ⟨q,rfl⟩:∃ q,k=q+1:=⟨k-1,by omega⟩
    obtain ⟨ab,ao,cq,haa,hab,hcq,hvq⟩:=elem_at HVA6.out (k:=q) (by rw [HAL.out];omega)
    obtain ⟨ab2,ao2,ce,haa2,_,hce,hve⟩:=elem_at HVA6.out (k:=q+1) (by rw [HAL.out];exact hlt)
    subst haa
    cases haa2
    have CQ:=Hd hcq
    have CE:=Hd hce
    have VQ:=Hd hvq
    have VE:=Hd hve
    have HOQ:=Hd (show okC 47 (A[q]'(by rw [HAL.out];omega)) from HOA.out _ (List.getElem_mem _))
    have HOE:=Hd (show okC 47 (A[q+1]'(by rw [HAL.out];exact hlt)) from HOA.out _ (List.getElem_mem _))
    have hnq:=Hd (show (Tryz.prog.info? 30).map (·.size)=some cq.length by rw [hvq.len];exact sizeV)
    have hne:=Hd (show (Tryz.prog.info? 30).map (·.size)=some ce.length by rw [hve.len];exact sizeV)
    obtain ⟨x,hx⟩:∃ x,x=cmpD 47 (A[q]'(by rw [HAL.out];omega)) (A[q+1]'(by rw [HAL.out];exact hlt)):=⟨_,rfl⟩
    have hx0:x≤0:=by
     have h:=ordL_le HSO.out (Nat.lt_succ_self q) hlt
     rw [hx]
     unfold cmpL at h
     rw [← HAE.out,atL_at (by rw [HAL.out];omega),atL_at (by rw [HAL.out];exact hlt)] at h
     exact h
    have hxd:decide ((0:Int)<x)=false:=decide_eq_false (by omega)
    obtain ⟨vq,hvq2⟩:∃ v,v=A[q]'(by rw [HAL.out];omega):=⟨_,rfl⟩
    obtain ⟨ve,hve2⟩:∃ v,v=A[q+1]'(by rw [HAL.out];exact hlt):=⟨_,rfl⟩
    rw [← hvq2] at VQ HOQ
    rw [← hve2] at VE HOE
    rw [← hvq2,← hve2] at hx
    have HXE:=Hd hx
    clear hcq hce hvq hve hx hvq2 hve2
    go_wp2_with fail
    refine wp_region_held_drew (S:=(fun u=>Below wa.heap.size wa u)) (by kernel_rfl) (show Below wa.heap.size wa wa.drew from ⟨rfl,rfl,rfl,Nat.le_refl _,fun _ _=>rfl⟩) (fun hHeld=>?_)
    refine' tk 0 (.int .i64 ((q+1:Nat):Int)) rfl rfl (.inl ⟨by kernel_rfl,fun u hu=>(by go_simp)⟩) hHeld ?_
    simp only [sq1,sq0]
    refine' tk 1 (.bool true) rfl rfl (.inl ⟨by kernel_rfl,fun u hu=>(by go_simp;all_goals first | omega | (rw [IntKind.wrap_i64];omega) | (rw [if_pos (by omega)];congr;all_goals omega))⟩) hHeld ?_
    simp only [sq1,sq0]
    refine' tk 2 (.bool true) rfl rfl (.inl ⟨by kernel_rfl,fun u hu=>(by go_simp)⟩) hHeld ?_
    simp only [sq1,sq0]
    refine' tk 3 (.pointer (some ⟨w3.heap.size,11,none⟩)) rfl rfl (.inl ⟨by kernel_rfl,fun u hu=>(by go_simp)⟩) hHeld ?_
    simp only [sq1,sq0]
    refine' tk 4 (.slice (some ⟨ab,ao,none⟩) l.length ac) rfl rfl (.inl ⟨by kernel_rfl,fun u hu=>(by have hc:=(RowT.cell (X6.out.then (belowThen HB.out hu)) A11.out);go_simp)⟩) hHeld ?_
    simp only [sq1,sq0]
    refine' tk 5 (.int .i64 ((q+1:Nat):Int)) rfl rfl (.inl ⟨by kernel_rfl,fun u hu=>(by go_simp)⟩) hHeld ?_
    simp only [sq1,sq0]
    refine' tk 6 (.int .i64 ((q:Nat):Int)) rfl rfl (.inl ⟨by kernel_rfl,fun u hu=>(by go_simp;all_goals first | omega | (rw [IntKind.wrap_i64];omega) | (rw [if_pos (by omega)];congr;all_goals omega))⟩) hHeld ?_
    simp only [sq1,sq0]
    refine' tk 7 (.pointer (some ⟨ab,ao+q * 13,none⟩)) rfl rfl (.inl ⟨by kernel_rfl,fun u hu=>(by go_simp;all_goals first | omega | (rw [IntKind.wrap_i64];omega) | (rw [if_pos (by omega)];congr;all_goals omega))⟩) hHeld ?_
    simp only [sq1,sq0]
    refine' tk 8 (.agg cq.toArray) rfl rfl (yieldsIf_load_mid (by kernel_rfl) 30 _ rfl ab (ao+q * 13) (by kernel_rfl) cq _ (fun u hu=>(CQ.out.below (belowThen HB.out hu) hab).range) Tryz.underlying30 rfl hnq.out) hHeld ?_
    simp only [sq1,sq0]
    refine' tk 9 (.pointer (some ⟨w3.heap.size,11,none⟩)) rfl rfl (.inl ⟨by kernel_rfl,fun u hu=>(by go_simp)⟩) hHeld ?_
    simp only [sq1,sq0]
    refine' tk 10 (.slice (some ⟨ab,ao,none⟩) l.length ac) rfl rfl (.inl ⟨by kernel_rfl,fun u hu=>(by have hc:=(RowT.cell (X6.out.then (belowThen HB.out hu)) A11.out);go_simp)⟩) hHeld ?_
    simp only [sq1,sq0]
    refine' tk 11 (.int .i64 ((q+1:Nat):Int)) rfl rfl (.inl ⟨by kernel_rfl,fun u hu=>(by go_simp)⟩) hHeld ?_
    simp only [sq1,sq0]
    refine' tk 12 (.pointer (some ⟨ab,ao+(q+1) * 13,none⟩)) rfl rfl (.inl ⟨by kernel_rfl,fun u hu=>(by go_simp;all_goals first | omega | (rw [IntKind.wrap_i64];omega) | (rw [if_pos (by omega)];congr;all_goals omega))⟩) hHeld ?_
    simp only [sq1,sq0]
    refine' tk 13 (.agg ce.toArray) rfl rfl (yieldsIf_load_mid (by kernel_rfl) 30 _ rfl ab (ao+(q+1) * 13) (by kernel_rfl) ce _ (fun u hu=>(CE.out.below (belowThen HB.out hu) hab).range) Tryz.underlying30 rfl hne.out) hHeld ?_
    simp only [sq1,sq0]
    refine rd1 14 rfl (fun K hK=>?_)
    try rw [if_pos (by rfl)]
    go_simp
    refine (cmp_r 47 vq ve _ w6.heap.size N cq ce HOQ.out HOE.out hN (Nat.le_trans HB.out.size hHeld.size) (VQ.out.below (belowThen HB.out hHeld)) (VE.out.below (belowThen HB.out hHeld))).mono ?_
    rw [show cmpD 47 vq ve=x from HXE.out.symm]
    rintro e u3 ⟨rfl,hb3⟩
    have hA3:Below wa.heap.size wa u3:=belowThen hHeld hb3
    refine hK.out _ _ hA3 (fun _=>?_)
    clear hK K hb3 hHeld
    have hHeld:=hA3
    clear hA3
    try dsimp only
    refine' tk 15 (.bool false) rfl rfl (.inl ⟨by kernel_rfl,fun u hu=>(by go_simp;all_goals first | omega | (rw [IntKind.wrap_i64];omega) | (rw [if_pos (by omega)];congr;all_goals omega))⟩) hHeld ?_
    simp only [sq1,sq0]
    refine' tk 16 (.bool false) rfl rfl (.inl ⟨by kernel_rfl,fun u hu=>(by go_simp)⟩) hHeld ?_
    simp only [sq1,sq0]
    refine wpAnyH_done (by kernel_rfl) ?_ _
    have HB2:=Hd (belowThen HB.out hHeld)
    clear hHeld
    go_wp2_with fail
    go_simp
    go_loopw [9,10] (fun c i wr=>∃ (j m:Nat),j≤l.length∧m≤j∧c=.int .i64 m∧i=.int .i64 j∧Hid (m=(List.range j).countP (fun q'=>rankB (cmpL l) q' (q+1)))∧Hid (Below w6.heap.size w6 wr)) (fun _ i _=>l.length-(intOf i).toNat)
    case atStart=>exact ⟨0,0,by omega,by omega,rfl,rfl,Hd rfl,HB2⟩
    case round =>
     clear HB2
     obtain ⟨wb,hwb⟩:∃ wb,wb=wr:=⟨_,rfl⟩
     subst wr
     obtain ⟨j,m,hj,hmj,rfl,rfl,HM,HB⟩:=hrel
     by_cases hlj:j<l.length
     ·obtain ⟨lb2,lo2,cj,hla2,_,hcj,hvj⟩:=elem_at HVL.out hlj
      cases hla2
      have CJ:=Hd hcj
      have VJ:=Hd hvj
      have hnj:=Hd (show (Tryz.prog.info? 30).map (·.size)=some cj.length by rw [hvj.len];exact sizeV)
      obtain ⟨x,hx⟩:∃ x,x=cmpD 47 l[j] l[q+1]:=⟨_,rfl⟩
      have HXE:=Hd hx
      have HXL:=Hd (show x=cmpL l j (q+1) by rw [hx];unfold cmpL;rw [atL_at hlj,atL_at hlt])
      have HST:=Hd (rankB_step (f:=cmpL l) j (q+1))
      clear hcj hvj hx
      go_wp2_with fail
      refine wp_region_held_drew (S:=(fun u=>Below wb.heap.size wb u)) (by kernel_rfl) (show Below wb.heap.size wb wb.drew from ⟨rfl,rfl,rfl,Nat.le_refl _,fun _ _=>rfl⟩) (fun hHeld=>?_)
      refine' tk 0 (.slice (some ⟨lb,lo,none⟩) l.length lc) rfl rfl (.inl ⟨by kernel_rfl,fun u hu=>(by go_simp)⟩) hHeld ?_
      simp only [sq1,sq0]
      refine' tk 1 (.int .i64 (j:Int)) rfl rfl (.inl ⟨by kernel_rfl,fun u hu=>(by go_simp)⟩) hHeld ?_
      simp only [sq1,sq0]
      refine' tk 2 (.pointer (some ⟨lb,lo+j * 13,none⟩)) rfl rfl (.inl ⟨by kernel_rfl,fun u hu=>(by go_simp;all_goals first | omega | (rw [IntKind.wrap_i64];omega) | (rw [if_pos (by omega)];congr;all_goals omega))⟩) hHeld ?_
      simp only [sq1,sq0]
      refine' tk 3 (.agg cj.toArray) rfl rfl (yieldsIf_load_mid (by kernel_rfl) 30 _ rfl lb (lo+j * 13) (by kernel_rfl) cj _ (fun u hu=>(CJ.out.below (belowThen HB.out hu) hlb).range) Tryz.underlying30 rfl hnj.out) hHeld ?_
      simp only [sq1,sq0]
      refine' tk 4 (.slice (some ⟨lb,lo,none⟩) l.length lc) rfl rfl (.inl ⟨by kernel_rfl,fun u hu=>(by go_simp)⟩) hHeld ?_
      simp only [sq1,sq0]
      refine' tk 5 (.int .i64 ((q+1:Nat):Int)) rfl rfl (.inl ⟨by kernel_rfl,fun u hu=>(by go_simp)⟩) hHeld ?_
      simp only [sq1,sq0]
      refine' tk 6 (.pointer (some ⟨lb,lo+(q+1) * 13,none⟩)) rfl rfl (.inl ⟨by kernel_rfl,fun u hu=>(by go_simp;all_goals first | omega | (rw [IntKind.wrap_i64];omega) | (rw [if_pos (by omega)];congr;all_goals omega))⟩) hHeld ?_
      simp only [sq1,sq0]
      refine' tk 7 (.agg ck.toArray) rfl rfl (yieldsIf_load_mid (by kernel_rfl) 30 _ rfl lb (lo+(q+1) * 13) (by kernel_rfl) ck _ (fun u hu=>(CK.out.below (belowThen HB.out hu) hlb).range) Tryz.underlying30 rfl hnk.out) hHeld ?_
      simp only [sq1,sq0]
      refine rd1 8 rfl (fun K hK=>?_)
      try rw [if_pos (by rfl)]
      go_simp
      refine (cmp_r 47 l[j] l[q+1] _ w6.heap.size N cj ck (HOK.out _ (List.getElem_mem hlj)) (HOK.out _ (List.getElem_mem hlt)) hN (Nat.le_trans HB.out.size hHeld.size) (VJ.out.below (belowThen HB.out hHeld)) (VK.out.below (belowThen HB.out hHeld))).mono ?_
      rw [show cmpD 47 l[j] l[q+1]=x from HXE.out.symm]
      rintro e u3 ⟨rfl,hb3⟩
      have hA3:Below wb.heap.size wb u3:=belowThen hHeld hb3
      refine hK.out _ _ hA3 (fun _=>?_)
      clear hK K hb3 hHeld
      have hHeld:=hA3
      clear hA3
      try dsimp only
      refine rd1 9 rfl (fun K hK=>?_)
      try rw [if_pos (by rfl)]
      go_simp
      refine hK.out _ _ hHeld (fun _=>?_)
      clear hK K
      refine wpAnyH_done (by kernel_rfl) ?_ _
      have HB2:=Hd (belowThen HB.out hHeld)
      clear hHeld
      by_cases c1:x<0
      ·have HM2:=Hd (show m+1=(List.range (j+1)).countP (fun q'=>rankB (cmpL l) q' (q+1)) by rw [HST.out,← HM.out,if_pos (by rw [rankB_iff,← HXL.out];exact .inl c1)])
       have hx2:(x==0)=false:=by simp;omega
       go_wp2_with fail
       go_roundw
       case rel=>exact ⟨j+1,m+1,by omega,by omega,by go_num,by go_num,HM2,HB2⟩
       case measure=>simp [intOf];omega
      ·by_cases c2:x=0
       ·have hx2:(x==0)=true:=by simpa using c2
        by_cases c3:j<q+1
        ·have HM2:=Hd (show m+1=(List.range (j+1)).countP (fun q'=>rankB (cmpL l) q' (q+1)) by rw [HST.out,← HM.out,if_pos (by rw [rankB_iff,← HXL.out];exact .inr ⟨c2,c3⟩)])
         go_wp2_with fail
         go_roundw
         case rel=>exact ⟨j+1,m+1,by omega,by omega,by go_num,by go_num,HM2,HB2⟩
         case measure=>simp [intOf];omega
        ·have HM2:=Hd (show m=(List.range (j+1)).countP (fun q'=>rankB (cmpL l) q' (q+1)) by rw [HST.out,← HM.out,if_neg (by rw [rankB_iff,← HXL.out];omega)];rfl)
         go_wp2_with fail
         go_roundw
         case rel=>exact ⟨j+1,m,by omega,by omega,rfl,by go_num,HM2,HB2⟩
         case measure=>simp [intOf];omega
       ·have hx2:(x==0)=false:=by simpa using c2
        have HM2:=Hd (show m=(List.range (j+1)).countP (fun q'=>rankB (cmpL l) q' (q+1)) by rw [HST.out,← HM.out,if_neg (by rw [rankB_iff,← HXL.out];omega)];rfl)
        go_wp2_with fail
        go_roundw
        case rel=>exact ⟨j+1,m,by omega,by omega,rfl,by go_num,HM2,HB2⟩
        case measure=>simp [intOf];omega
     ·have hje:j=l.length:=by omega
      have hmp:m=p:=by rw [HM.out,hje];exact HRK.out
      subst hmp
      clear hje
      obtain ⟨ab3,ao3,cm,haa3,_,hcm,hvm⟩:=elem_at HVA6.out (k:=m) (by rw [HAL.out];exact hp)
      cases haa3
      have CM:=Hd hcm
      have VM:=Hd (show ValD.At w6 w6.heap.size N l[q+1] cm from by
       have e:A[m]'(by rw [HAL.out];exact hp)=l[q+1]:=by
        simp only [HAE.out]
        rw [ordL_at,HGP.out,atL_at hlt]
       rw [← e]
       exact hvm)
      have hnm:=Hd (show (Tryz.prog.info? 30).map (·.size)=some cm.length by rw [hvm.len];exact sizeV)
      clear hcm hvm
      go_wp2_with fail
      refine wp_region_held_drew (S:=(fun u=>Below wb.heap.size wb u)) (by kernel_rfl) (show Below wb.heap.size wb wb.drew from ⟨rfl,rfl,rfl,Nat.le_refl _,fun _ _=>rfl⟩) (fun hHeld=>?_)
      refine' tk 0 (.pointer (some ⟨w3.heap.size,11,none⟩)) rfl rfl (.inl ⟨by kernel_rfl,fun u hu=>(by go_simp)⟩) hHeld ?_
      simp only [sq1,sq0]
      refine' tk 1 (.slice (some ⟨ab,ao,none⟩) l.length ac) rfl rfl (.inl ⟨by kernel_rfl,fun u hu=>(by have hc:=(RowT.cell (X6.out.then (belowThen HB.out hu)) A11.out);go_simp)⟩) hHeld ?_
      simp only [sq1,sq0]
      refine' tk 2 (.int .i64 (m:Int)) rfl rfl (.inl ⟨by kernel_rfl,fun u hu=>(by go_simp)⟩) hHeld ?_
      simp only [sq1,sq0]
      refine' tk 3 (.pointer (some ⟨ab,ao+m * 13,none⟩)) rfl rfl (.inl ⟨by kernel_rfl,fun u hu=>(by go_simp;all_goals first | omega | (rw [IntKind.wrap_i64];omega) | (rw [if_pos (by omega)];congr;all_goals omega))⟩) hHeld ?_
      simp only [sq1,sq0]
      refine' tk 4 (.agg cm.toArray) rfl rfl (yieldsIf_load_mid (by kernel_rfl) 30 _ rfl ab (ao+m * 13) (by kernel_rfl) cm _ (fun u hu=>(CM.out.below (belowThen HB.out hu) hab).range) Tryz.underlying30 rfl hnm.out) hHeld ?_
      simp only [sq1,sq0]
      refine' tk 5 (.slice (some ⟨lb,lo,none⟩) l.length lc) rfl rfl (.inl ⟨by kernel_rfl,fun u hu=>(by go_simp)⟩) hHeld ?_
      simp only [sq1,sq0]
      refine' tk 6 (.int .i64 ((q+1:Nat):Int)) rfl rfl (.inl ⟨by kernel_rfl,fun u hu=>(by go_simp)⟩) hHeld ?_
      simp only [sq1,sq0]
      refine' tk 7 (.pointer (some ⟨lb,lo+(q+1) * 13,none⟩)) rfl rfl (.inl ⟨by kernel_rfl,fun u hu=>(by go_simp;all_goals first | omega | (rw [IntKind.wrap_i64];omega) | (rw [if_pos (by omega)];congr;all_goals omega))⟩) hHeld ?_
      simp only [sq1,sq0]
      refine' tk 8 (.agg ck.toArray) rfl rfl (yieldsIf_load_mid (by kernel_rfl) 30 _ rfl lb (lo+(q+1) * 13) (by kernel_rfl) ck _ (fun u hu=>(CK.out.below (belowThen HB.out hu) hlb).range) Tryz.underlying30 rfl hnk.out) hHeld ?_
      simp only [sq1,sq0]
      refine rd1 9 rfl (fun K hK=>?_)
      try rw [if_pos (by rfl)]
      go_simp
      refine (same_yes 59 l[q+1] _ w6.heap.size N cm ck (HF.out _ (List.getElem_mem hlt)) hN (Nat.le_trans HB.out.size hHeld.size) (VM.out.below (belowThen HB.out hHeld)) (VK.out.below (belowThen HB.out hHeld))).mono ?_
      rintro e u3 ⟨rfl,hb3⟩
      have hA3:Below wb.heap.size wb u3:=belowThen hHeld hb3
      refine hK.out _ _ hA3 (fun _=>?_)
      clear hK K hb3 hHeld
      have hHeld:=hA3
      clear hA3
      try dsimp only
      refine' tk 10 (.bool false) rfl rfl (.inl ⟨by kernel_rfl,fun u hu=>(by go_simp)⟩) hHeld ?_
      simp only [sq1,sq0]
      refine wpAnyH_done (by kernel_rfl) ?_ _
      have HB2:=Hd (belowThen HB.out hHeld)
      clear hHeld
      go_wp2_with fail
      go_roundw
      case rel=>exact ⟨q+1+1,by omega,by go_num,HB2⟩
      case measure=>simp [intOf];omega
  ·go_wp2_with fail
   go_ret
   exact ⟨rfl,H6.out.trans (HB.out.mono H6.out.size)⟩
end Go.Proofs.YtagkjofpncpcpaaGreatDoor
