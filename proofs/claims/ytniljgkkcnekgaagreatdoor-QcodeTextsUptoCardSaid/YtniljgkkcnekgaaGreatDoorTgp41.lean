/- qcode.Targets. -/
import Derived.Test.YtniljgkkcnekgaaGreatDoorProg
import Derived.Test.YtniljgkkcnekgaaGreatDoorGA
import Derived.Test.YtniljgkkcnekgaaGreatDoorGB
import Derived.Test.YtniljgkkcnekgaaGreatDoorShelf
import Derived.Test.YtniljgkkcnekgaaGreatDoorGC
import Derived.Test.YtniljgkkcnekgaaGreatDoorIN
import Derived.Test.YtniljgkkcnekgaaGreatDoorGZ
import Derived.Test.YtniljgkkcnekgaaGreatDoorCN
import Derived.Test.YtniljgkkcnekgaaGreatDoorCX
import Derived.Test.YtniljgkkcnekgaaGreatDoorTxp41
import Derived.Sort.OwnSortedInts
namespace Go.Proofs.YtniljgkkcnekgaaGreatDoor
open Go.RowKit
theorem infoI41:(Tryz.prog.info? 3).map (fun i=>(i.zero,i.size,i.bytes))=some (some (.int .i64 0),1,8):=by kernel_rfl
theorem tgtL_s {l:List InsD} {k:Nat} (h:k<l.length):tgtL (l.take (k+1))=tgtL (l.take k)++(if isT l[k]=true then [l[k].a] else []):=by
 unfold tgtL
 rw [List.take_succ_eq_append_getElem h,List.filter_append,List.map_append]
 congr 1
 by_cases hi:isT l[k]=true
 ·rw [if_pos hi];simp [List.filter,hi]
 ·rw [if_neg hi];simp [List.filter,hi]
theorem below_setCells {B g:Nat} (hB:B≤g):∀ (vs:List Value) (o:Nat) (w:World),Below B w (w.setCells g o vs)
 | [],_,w=>Below.refl _ _
 | v::r,o,w=>by
   rw [World.setCells]
   refine Below.trans ?_ (below_setCells hB r (o+1) _)
   exact ⟨rfl,rfl,rfl,by simp,fun q hq=>heap_setCell_other _ _ _ _ (by simp;omega)⟩
theorem mem_len {l:List InsD} (k:Nat):(tgtL (l.take k)).length≤l.length:=by
 unfold tgtL
 rw [List.length_map]
 refine Nat.le_trans (List.length_filter_le _ _) ?_
 rw [List.length_take]
 omega
set_option maxRecDepth 100000 in
set_option maxHeartbeats 12800000 in
theorem targets_p (start:Int) (l:List InsD) (a:Option Addr) (c:Nat) (w:World) (N:Nat) (hl:l.length≤400) (hok:∀ x∈l,InsOk x l.length) (h:InssAt w w.heap.size N l a) :
 Calls Tryz.prog 6 #[.agg #[.int .i64 start,.slice a l.length c]] w (TgtR (tgtS l) w):=by
 obtain ⟨i0,hi0,hz0,hz1,hz2⟩:=info_parts infoI41
 have HI0:=Hd hi0
 have HZ0:=Hd hz0
 have HZ1:=Hd hz1
 have HZ2:=Hd hz2
 have HOK:=Hd hok
 obtain ⟨n,hn⟩:∃ n,l.length=n:=⟨_,rfl⟩
 have HNL:=Hd hn
 rw [hn] at hl ⊢
 have HLS:=Hd h
 obtain ⟨wb,hwb⟩:∃ wb,wb=w.alloc (.cells #[.int .i64 start,.slice a n c] 24):=⟨_,rfl⟩
 have HWB:=Hd hwb
 have RB:=Hd (show RowT 24 wb w.heap.size (codeC start n a c) by rw [hwb];exact RowT.new w 24 (codeC start n a c))
 have HB1:=Hd (show Below w.heap.size w wb by rw [hwb];exact belowBox w _)
 have HSZ:=Hd (show wb.heap.size=w.heap.size+1 by rw [hwb,World.size_alloc])
 have e1:=RB.out.cell (j:=1) (v:=.slice a n c) rfl
 rw [hwb] at e1
 have HML:=Hd (@mem_len l)
 clear h hok hn hwb hi0 hz0 hz1 hz2
 go_enter Tryz.func6,Tryz.ntmps6
 go_wp2_with fail
 rw [← HWB.out]
 go_simp
 clear e1
 go_loopw [3,11] (fun u t wr=>∃ k:Nat,t=.int .i64 k∧k≤n∧Hid (wr.ownsRow wb.heap.size 3 1 u (tgtL (l.take k)).length ((tgtL (l.take k)).map (Value.int .i64)))∧Hid (Below wb.heap.size wb wr)) (fun _ t _=>n-(intOf t).toNat)
 case atStart=>exact ⟨0,rfl,by omega,Hd (World.ownsRow_nil _ _ _ _),Hd (Below.refl _ _)⟩
 case round =>
  obtain ⟨w1,rfl⟩:∃ w1,w1=wr:=⟨wr,rfl⟩
  obtain ⟨k,rfl,hk,HO1,HB1w⟩:=hrel
  by_cases hlt:k<n
  case neg =>
   have hke:l.take k=l:=by rw [show k=l.length by rw [HNL.out];omega,List.take_length]
   rw [hke] at HO1
   clear hke
   have HBW:=Hd (HB1.out.trans (HB1w.out.mono (by have:=HSZ.out;omega)))
   obtain ⟨zs,hzs⟩:∃ zs,tgtL l=zs:=⟨_,rfl⟩
   have HZS:=Hd (show tgtS l=Lib.compact (zs.mergeSort fun x y=>decide (x≤y)) by unfold tgtS;rw [hzs])
   have hzl:zs.length≤400:=by have h5:=HML.out l.length;rw [List.take_length,hzs,HNL.out] at h5;omega
   rw [hzs] at HO1
   clear hzs
   rcases HO1.out.2 with ⟨hv,h0⟩ | ⟨g,cap,cur,hv,hg1,hg2,hg3,hg4,hg5,hg6⟩
   ·obtain rfl:zs=[]:=List.eq_nil_of_length_eq_zero h0
    have HR:=Hd (show tgtS l=[] by rw [HZS.out];simp [Lib.compact,Lib.compactUpTo])
    subst hv
    clear h0
    go_wp2_with fail
    refine (Tryz.slices_Sort_int_none none 0 w1).mono ?_
    rintro e w' ⟨rfl,hww⟩
    replace hww:=hww.symm
    subst hww
    go_wp2_with fail
    refine (Tryz.slices_Compact_int_empty none 0 w1).mono ?_
    rintro e w' ⟨rfl,hww⟩
    replace hww:=hww.symm
    subst hww
    go_wp2_with fail
    go_ret
    rw [HR.out]
    exact ⟨none,0,rfl,.inl rfl,HBW.out⟩
   ·subst hv
    have hgl:g<w1.heap.size:=(Array.getElem?_eq_some_iff.1 hg2).1
    have htk:cur.toList.take zs.length=zs.map (Value.int .i64):=by simpa using hg6
    have HH:=Hd (holds_of_blockI hg2 htk)
    obtain ⟨ts,hts⟩:∃ ts,(zs.mergeSort fun x y=>decide (x≤y))=ts:=⟨_,rfl⟩
    have htl:ts.length=zs.length:=by rw [← hts,List.length_mergeSort]
    have HOW:=Hd (fun nn os=>ownsRow_sortedI (n:=nn) (os:=os) htl hg1 hg2 hg3 hg4 hg5)
    have HGB:=Hd (fun nn os=>grownBy_sortedI (w:=w1) (g:=g) (n:=nn) (os:=os) ts.toArray)
    rw [hts] at HZS
    have HTS:=Hd hts
    have HGL:=Hd hgl
    have HG1:=Hd hg1
    clear hg1 hg2 hg5 hg6 htk hgl hts
    go_wp2_with fail
    refine (Tryz.slices_Sort_int g 0 cap zs w1 HH.out HGL.out (by omega)).mono ?_
    rw [HTS.out]
    rintro e w' ⟨rfl,nn,os,hw'⟩
    have HO8:=Hd (show w'.ownsRow wb.heap.size 3 1 (.slice (some ⟨g,0,none⟩) zs.length cap) zs.length (ts.map (Value.int .i64)) by rw [hw'];exact HOW.out nn os)
    have HB8:=Hd (show Below w.heap.size w w' from HBW.out.grown (show w1.grownBy w' (some g) by rw [hw'];exact HGB.out nn os) HBW.out.size (fun j hj=>by cases hj;have:=HG1.out;have:=HSZ.out;omega))
    clear hw'
    obtain ⟨w8,rfl⟩:∃ w8,w8=w':=⟨w',rfl⟩
    have htt:ts.take zs.length=ts:=by rw [← htl,List.take_length]
    have HC:=Hd (Tryz.slices_Compact_int_cells g 0 zs.length cap ts w8 (by omega) (by omega) hg3 (fun j hj=>by rw [Nat.zero_add,HO8.out.cellAt j (by omega),List.getElem?_map,List.getElem?_eq_getElem hj,List.getD_eq_getElem?_getD,List.getElem?_eq_getElem hj];rfl) (fun j hj=>by rw [Nat.zero_add];exact HO8.out.frozenAt j))
    rw [htt] at HC
    have hcl:=Lib.compact_length_le ts
    obtain ⟨cs,hcs⟩:∃ cs,Lib.compact ts=cs:=⟨_,rfl⟩
    rw [hcs] at HC HZS hcl
    have HG8:=Hd (show g<w8.heap.size from (HO8.out.lt g rfl).2)
    clear htt hcs
    go_wp2_with fail
    refine HC.out.mono ?_
    rintro e w' ⟨rfl,q,hw'⟩
    have hsome:∀ j,j<((cs++List.replicate (zs.length-cs.length) 0).map (Value.int .i64)).length→((w8.drewN q).cell? ⟨g,0+j,none⟩).isSome=true:=fun j hj=>by
     have hj2:j<zs.length:=by simp at hj;omega
     have h1:=HO8.out.cellAt j (by omega)
     rw [List.getElem?_map,List.getElem?_eq_getElem (by omega)] at h1
     show (w8.cell? ⟨g,0+j,none⟩).isSome=true
     rw [Nat.zero_add,h1]
     rfl
    have HCE:=Hd (show CellsAt w' g 0 (cs.map (Value.int .i64)) from fun j hj=>by
     rw [List.length_map] at hj
     have h1:=World.cell?_setCells_in g _ 0 (w8.drewN q) hsome j (by simp;omega)
     rw [hw',h1,List.getElem_map,List.getElem?_map,List.getElem?_eq_getElem hj,List.getElem_append_left hj]
     rfl)
    have HB9:=Hd (show Below w.heap.size w w' by rw [hw'];exact HB8.out.trans ((belowDrewN (Below.refl _ _) q).trans (below_setCells (by have:=HG1.out;have:=HSZ.out;omega) _ _ _)))
    have HSZ9:=Hd (show g<w'.heap.size by
     have h1:=(below_setCells (B:=0) (g:=g) (Nat.zero_le _) ((cs++List.replicate (zs.length-cs.length) 0).map (Value.int .i64)) 0 (w8.drewN q)).size
     rw [hw']
     have h2:=HG8.out
     have h3:(w8.drewN q).heap.size=w8.heap.size:=rfl
     omega)
    clear hw' hsome
    go_wp2_with fail
    go_ret
    rw [HZS.out]
    exact ⟨some ⟨g,0,none⟩,cap,rfl,.inr ⟨g,0,rfl,HSZ9.out,HCE.out⟩,HB9.out⟩
  have hlt2:k<l.length:=by rw [HNL.out];exact hlt
  obtain ⟨g,oo,rfl,hgb,cs,g1,g2⟩:=HLS.out.get hlt2
  have HXO:=Hd (HOK.out l[k] (List.getElem_mem hlt2))
  have HTS:=Hd (tgtL_s hlt2)
  have HMK:=HML.out k
  rw [HNL.out] at HMK
  obtain ⟨x,hx⟩:∃ x,l[k]=x:=⟨_,rfl⟩
  rw [hx] at g2 HXO HTS
  have hh0:Below w.heap.size w w1:=HB1.out.trans (HB1w.out.mono (by have:=HSZ.out;omega))
  have HR:=Hd (g1.below hh0 hgb).range
  obtain ⟨vs,hh⟩:=g2.has
  have hii:=Hd (show (Tryz.prog.info? 41).map (·.size)=some cs.length by rw [g2.len];exact sizeIns)
  have hii2:=Hd (insRow41 g2.len)
  have hii3:=Hd (insZer41 g2.len)
  have hii4:=Hd (Go.all_oneCell_toArray g2.oneCell)
  obtain ⟨o,ho⟩:∃ o,x.op=o:=⟨_,rfl⟩
  have Z0:=Hd hh.op
  have Z1:=Hd hh.a
  have H30:=Hd (show ¬ (o<1∨30<o) by have:=HXO.out.op;omega)
  obtain ⟨xa,hxa⟩:∃ xa,x.a=xa:=⟨_,rfl⟩
  rw [ho] at Z0
  rw [hxa] at Z1 HTS
  obtain ⟨ua,hua⟩:∃ ua,useA o=ua:=⟨_,rfl⟩
  have HUA:=Hd hua
  have HIS:=Hd (show isT x=(ua==2 || (ua==3&&xa != -1)) by unfold isT;rw [ho,hua,hxa])
  obtain ⟨wx,hwx⟩:∃ wx,wx=w1.alloc (.cells cs.toArray 41):=⟨_,rfl⟩
  have HWX:=Hd hwx
  have RX:=Hd (show RowT 41 wx w1.heap.size cs by rw [hwx];exact RowT.new w1 41 cs)
  have HOX:=Hd (show wx.ownsRow wb.heap.size 3 1 u3 _ _ by rw [hwx];exact HO1.out.alloc _)
  have HBX:=Hd (show Below wb.heap.size wb wx by rw [hwx];exact belowThen HB1w.out (belowBox w1 _))
  clear g1 g2 hh hh0 hx hwx ho hua hxa hlt2
  go_wp2_with (first
   | ((with_reducible show wpList _ _ _ (⟨some 14,_,_,_,_,_⟩::_) _ _);refine wpList_load_mid rfl 41 _ rfl g (oo+k * 17) rfl cs _ HR.out Tryz.underlying41 rfl hii.out ?_)
   | ((with_reducible show wpList _ _ _ (⟨none,.store 41 (.tmp 5) (.tmp 14),_,_,_,_⟩::_) _ _);refine wpList_store_new rfl 41 _ _ rfl zerT41 cs.toArray rfl rfl hii2.out hii3.out hii4.out ?_
      have f0:=(RowT.new w1 41 cs).cell Z0.out))
  rw [← HWX.out]
  clear f0
  refine (uses_prog o wx H30.out).mono ?_
  rw [HUA.out]
  rintro e w' ⟨rfl,hww⟩
  replace hww:=hww.symm
  subst hww
  have f1:=RX.out.cell Z1.out
  by_cases hT:isT x=true
  ·have HT2:=Hd (show tgtL (l.take (k+1))=tgtL (l.take k)++[xa] by rw [HTS.out,if_pos hT])
   rw [HIS.out] at hT
   simp only [Bool.or_eq_true,Bool.and_eq_true,beq_iff_eq,bne_iff_ne] at hT
   have HM2:=HMK
   rcases hT with h2 | ⟨h3,h4⟩
   all_goals
    first
     | (have t1:(ua==2)=true:=by simpa using h2)
     | (have t1:(ua==2)=false:=by simp [h3])
    first
     | (have t2:(ua==3)=true:=by simpa using h3)
     | (have t2:(ua==3)=false:=by simp [h2])
    have t3:True:=trivial
   ·clear h2
    go_wp2_with (first
     | (at_builtin;refine wpList_append_own _ rfl _ _ 27 rfl wb.heap.size 3 i0 (.int .i64 0) 1 8 Tryz.underlying27 HI0.out HZ0.out HZ1.out HZ2.out rfl (by decide) _ _ _ rfl (HOX.out.alloc _) ⟨wx.heap.size,0,none⟩ 1 1 [.int .i64 xa] rfl rfl (cell_one_new _ _ _) (fun x hx=>by simp at hx;rcases hx with rfl<;>rfl) (by unfold maxLen;omega) (by omega) (by simp only [World.size_alloc];have:=HBX.out.size;omega) ?_
        intro v' w3 hown' hgrow3 _
        have HB3:=Hd (show Below wb.heap.size wb w3 from Below.grown (HBX.out.alloc HBX.out.size _) hgrow3 (by simp only [World.size_alloc];have:=HBX.out.size;omega) (fun j hj=>by have:=(HOX.out.lt _ hj).1;omega))
        have HO3:=Hd (show w3.ownsRow wb.heap.size 3 1 v' (tgtL (l.take (k+1))).length ((tgtL (l.take (k+1))).map (Value.int .i64)) by rw [HT2.out,List.length_append,List.map_append];exact hown')
        clear hown' hgrow3))
    go_roundw
    case rel=>exact ⟨k+1,by go_num,by omega,HO3,HB3⟩
    case measure=>simp [intOf];omega
   ·have t4:(xa != -1)=true:=by simpa using h4
    clear h3 h4
    go_wp2_with (first
     | (at_builtin;refine wpList_append_own _ rfl _ _ 27 rfl wb.heap.size 3 i0 (.int .i64 0) 1 8 Tryz.underlying27 HI0.out HZ0.out HZ1.out HZ2.out rfl (by decide) _ _ _ rfl (HOX.out.alloc _) ⟨wx.heap.size,0,none⟩ 1 1 [.int .i64 xa] rfl rfl (cell_one_new _ _ _) (fun x hx=>by simp at hx;rcases hx with rfl<;>rfl) (by unfold maxLen;omega) (by omega) (by simp only [World.size_alloc];have:=HBX.out.size;omega) ?_
        intro v' w3 hown' hgrow3 _
        have HB3:=Hd (show Below wb.heap.size wb w3 from Below.grown (HBX.out.alloc HBX.out.size _) hgrow3 (by simp only [World.size_alloc];have:=HBX.out.size;omega) (fun j hj=>by have:=(HOX.out.lt _ hj).1;omega))
        have HO3:=Hd (show w3.ownsRow wb.heap.size 3 1 v' (tgtL (l.take (k+1))).length ((tgtL (l.take (k+1))).map (Value.int .i64)) by rw [HT2.out,List.length_append,List.map_append];exact hown')
        clear hown' hgrow3))
    go_roundw
    case rel=>exact ⟨k+1,by go_num,by omega,HO3,HB3⟩
    case measure=>simp [intOf];omega
  ·have HT2:=Hd (show tgtL (l.take (k+1))=tgtL (l.take k) by rw [HTS.out,if_neg hT,List.append_nil])
   have HO3:=Hd (show wx.ownsRow wb.heap.size 3 1 u3 (tgtL (l.take (k+1))).length ((tgtL (l.take (k+1))).map (Value.int .i64)) by rw [HT2.out];exact HOX.out)
   rw [HIS.out] at hT
   by_cases h3:ua=3
   ·have t1:(ua==2)=false:=by simp [h3]
    have t2:(ua==3)=true:=by simpa using h3
    have t4:(xa != -1)=false:=by rw [t1,t2] at hT;simpa using hT
    clear h3 hT
    go_wp2_with fail
    go_roundw
    case rel=>exact ⟨k+1,by go_num,by omega,HO3,HBX⟩
    case measure=>simp [intOf];omega
   ·have t2:(ua==3)=false:=by simpa using h3
    have t1:(ua==2)=false:=by rw [t2] at hT;simpa using hT
    clear h3 hT
    go_wp2_with fail
    go_roundw
    case rel=>exact ⟨k+1,by go_num,by omega,HO3,HBX⟩
    case measure=>simp [intOf];omega
end Go.Proofs.YtniljgkkcnekgaaGreatDoor
