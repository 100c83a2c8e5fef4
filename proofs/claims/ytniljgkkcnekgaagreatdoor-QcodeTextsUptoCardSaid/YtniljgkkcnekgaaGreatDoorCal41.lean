/- The reference's canonical text of maps; Canonical (printed by gencan.py). -/
import Derived.Test.YtniljgkkcnekgaaGreatDoorProg
import Derived.Test.YtniljgkkcnekgaaGreatDoorGA
import Derived.Test.YtniljgkkcnekgaaGreatDoorGB
import Derived.Test.YtniljgkkcnekgaaGreatDoorGD
import Derived.Test.YtniljgkkcnekgaaGreatDoorGC
import Derived.Test.YtniljgkkcnekgaaGreatDoorGZ
import Derived.Test.YtniljgkkcnekgaaGreatDoorSA
import Derived.Test.YtniljgkkcnekgaaGreatDoorSD
import Derived.Test.YtniljgkkcnekgaaGreatDoorBL
import Derived.Test.YtniljgkkcnekgaaGreatDoorCN
import Derived.Test.YtniljgkkcnekgaaGreatDoorGR
import Derived.Test.YtniljgkkcnekgaaGreatDoorWR
import Derived.Test.YtniljgkkcnekgaaGreatDoorCan41
import Derived.Test.YtniljgkkcnekgaaGreatDoorCam41
import Derived.Test.YtniljgkkcnekgaaGreatDoorFir07
namespace Go.Proofs.YtniljgkkcnekgaaGreatDoor
namespace Stb
end Stb
open Go.RowKit Stb
def KeepG (H:Nat) (wf wr:World) (v:Value):Prop:=wf.heap.size≤wr.heap.size∧∀ g,H≤g→g<wf.heap.size→v.ownBlock≠some g∧wr.heap[g]?=wf.heap[g]?
theorem KeepG.below {H:Nat} {wf wr w':World} {v:Value} (h:KeepG H wf wr v) (hb:Below wr.heap.size wr w'):KeepG H wf w' v :=
 ⟨Nat.le_trans h.1 hb.size,fun g h1 h2=>⟨(h.2 g h1 h2).1,(hb.block g (Nat.lt_of_lt_of_le h2 h.1)).trans (h.2 g h1 h2).2⟩⟩
theorem KeepG.alloc {H:Nat} {wf wr:World} {v:Value} (h:KeepG H wf wr v) (o:Obj):KeepG H wf (wr.alloc o) v:=h.below (belowBox wr o)
theorem KeepG.grown {H:Nat} {wf wr w':World} {v v':Value} (h:KeepG H wf wr v) (hg:wr.grownBy w' v.ownBlock) (hat:∀ q,v'.ownBlock=some q→v.ownBlock=some q∨wr.heap.size≤q):KeepG H wf w' v' :=
 ⟨Nat.le_trans h.1 hg.size,fun g h1 h2=>⟨fun e=>by
  rcases hat g e with h3 | h3
  ·exact (h.2 g h1 h2).1 h3
  ·have:=h.1;omega,(hg.block g (Nat.lt_of_lt_of_le h2 h.1) (fun e=>(h.2 g h1 h2).1 e.symm)).trans (h.2 g h1 h2).2⟩⟩
theorem ValD.At.below0 {wb w0 wz:World} {B N:Nat} {v:ValD} {cs:List Value} (h:ValD.At w0 B N v cs) (h0:Below B wb w0) (hz:Below B wb wz) (hs:w0.heap.size≤wz.heap.size):ValD.At wz B N v cs :=
 h.below ⟨hz.os.trans h0.os.symm,hz.tape.trans h0.tape.symm,hz.output.trans h0.output.symm,hs,fun q hq=>(hz.block q hq).trans (h0.block q hq).symm⟩
set_option maxRecDepth 100000 in
set_option maxHeartbeats 6400000 in
theorem can_7 {m:Nat} (IH:CanP m) (w:World) (B N:Nat) (v:ValD) (cs:List Value) (hN:N≤4294967296) (hok:okK (m+1) v) (hB:B≤w.heap.size) (hv:ValD.At w B N v cs) (hl:(canC (m+1) v).length≤140737480000000) (hk:v.kind=7):Calls Tryz.prog 23 #[.agg cs.toArray] w (StrB (strOfNums (canC (m+1) v)) w):=by
 have hq:=And.intro hN (And.intro hB hl);clear hq
 obtain ⟨ya,la,va,yc,lc,vc,hh⟩:=hv.has
 have R0:=Hd (RowT.new w 39 cs)
 have H1:=Hd (belowBox w (.cells cs.toArray 39))
 have HH:=Hd hh
 have HOK:=Hd hok
 have e0:=R0.out.cell HH.out.kind
 rw [hk] at e0
 obtain ⟨i0,hi0,hz0,hz1,hz2⟩:=info_parts infoU8
 have HI0:=Hd hi0
 have HZ0:=Hd hz0
 have HZ1:=Hd hz1
 have HZ2:=Hd hz2
 have hcan:canC (m+1) v=123::(sepT ((sortF v.fields).map fun z=>quoI z.1++58::canC m z.2)++[125]):=by rw [canC,if_pos hk]
 obtain ⟨pc,hpc⟩:∃ pc,((sortF v.fields).map fun z=>quoI z.1++58::canC m z.2)=pc:=⟨_,rfl⟩
 rw [hpc] at hcan
 have HPC:=Hd hpc
 have hpl:pc.length=v.fields.length:=by rw [← hpc,List.length_map,sortF_len]
 have HR:=Hd (show canC (m+1) v=(123::sepT pc)++[125] from hcan)
 have HSM:=Hd (show ∀ k,((123::sepT (pc.take k))++[125]).length≤140737480000000 from fun k=>by
  have h1:=sepT_mono pc k
  rw [hcan] at hl
  simp only [List.length_cons,List.length_append,List.length_nil] at hl ⊢
  omega)
 have HIH:=Hd IH
 obtain ⟨n,hn⟩:∃ n,v.fields.length=n:=⟨_,rfl⟩
 have hnNN:v.fields.length≤N:=hh.own.2.2.2.2.2.2.2.2.2.2
 have hnN:n≤4294967296:=by omega
 rw [hn] at hpl
 have HN:=Hd hn
 have HPL:=Hd hpl
 obtain ⟨wb,hwb⟩:∃ wb,wb=w.alloc (.cells cs.toArray 39):=⟨_,rfl⟩
 have HWB:=Hd hwb
 rw [← hwb] at R0 H1
 have e1:=(R0.out.alloc (.cells #[.int .u8 123] 5)).cell HH.out.fields
 rw [hn,hwb] at e1
 obtain ⟨w0,hw0⟩:∃ w0,w0=wb.alloc (.cells #[.int .u8 123] 5):=⟨_,rfl⟩
 have HW0:=Hd hw0
 have HS1:=Hd (show wb.heap.size=w.heap.size+1 by rw [HWB.out,World.size_alloc])
 have HSW:=Hd (show w0.heap.size=wb.heap.size+1 by rw [hw0,World.size_alloc])
 have HO0:=Hd (show w0.ownsRow wb.heap.size 5 1 (.slice (some ⟨w.heap.size+1,0,none⟩) 1 1) (123::sepT (pc.take 0)).length ((123::sepT (pc.take 0)).map (Value.int .u8)) by rw [hw0,show Value.slice (some ⟨w.heap.size+1,0,none⟩) 1 1=Value.slice (some ⟨wb.heap.size,0,none⟩) 1 1 by rw [HS1.out]];exact own_byte wb wb.heap.size 123 (Nat.le_refl _))
 have HB0:=Hd (show Below wb.heap.size wb w0 by rw [hw0];exact belowBox wb _)
 have HBK:=Hd (Nat.le_trans hB H1.out.size)
 have HBK0:=Hd (Nat.le_trans HBK.out HB0.out.size)
 have HFR:=Hd (fields_q v.fields va vc B N w0 hN HBK0.out hnNN ((hh.atFields.below (H1.out.mono hB)).below (HB0.out.mono HBK.out)))
 rw [hn] at HFR
 clear hh hok hl hk hcan hpc hn hpl IH hwb hi0 hz0 hz1 hz2 hB hw0 hnNN
 go_enter Tryz.func23,Tryz.ntmps23
 go_wp2_with fail
 rw [← HWB.out,← HW0.out]
 refine HFR.out.mono ?_
 rintro e wf ⟨fa,fc,rfl,hb,hf⟩
 have HOf:=Hd (own_then' HO0.out hb)
 have HBf:=Hd (belowThen HB0.out hb)
 have HFS:=Hd (show w0.heap.size≤wf.heap.size from hb.size)
 have HKf:=Hd (show KeepG w0.heap.size wf wf (.slice (some ⟨w.heap.size+1,0,none⟩) 1 1) from by
  refine ⟨Nat.le_refl _,fun g h1 h2=>⟨fun e=>?_,rfl⟩⟩
  have e2:w.heap.size+1=g:=by simpa [Value.ownBlock] using e
  have:=HS1.out
  have:=HSW.out
  omega)
 have HSF:=Hd hf
 have HSL:=Hd (sortF_len v.fields)
 have HWF:=Hd (belowThen HB0.out hb)
 rw [HN.out]
 clear hb hf e1 e0
 go_wp2_with fail
 go_simp
 go_loopw [5,7] (fun u t wr=>∃ k:Nat,t=.int .i64 k∧k≤n∧Hid (wr.ownsRow wb.heap.size 5 1 u (123::sepT (pc.take k)).length ((123::sepT (pc.take k)).map (Value.int .u8)))∧Hid (Below wb.heap.size wb wr)∧Hid (KeepG w0.heap.size wf wr u)) (fun _ t _=>n-(intOf t).toNat)
 case atStart=>exact ⟨0,rfl,by omega,HOf,HBf,HKf⟩
 case round =>
  clear HOf HBf HKf
  obtain ⟨w1,rfl⟩:∃ w1,w1=wr:=⟨wr,rfl⟩
  obtain ⟨k,rfl,hk,HO1,HB1,HK1⟩:=hrel
  have HLB1:=Hd (show (123::sepT (pc.take k)).length≤140737480000000 by have:=HSM.out k;rw [List.length_append] at this;omega)
  by_cases hlt:k<n
  case neg =>
   have hke:k=n:=by omega
   have HT:=Hd (show pc.take k=pc by rw [hke,← HPL.out,List.take_length])
   have HLM9:=Hd (show ((123::sepT (pc.take k))++[125]).length≤140737480000000 from HSM.out k)
   have HRR:=Hd (show (123::sepT (pc.take k))++[125]=canC (m+1) v by rw [HT.out,HR.out])
   clear hke
   go_wp2_with (first
    | ((with_reducible show wpList _ _ _ (⟨some 104,_,_,_,_,_⟩::_) _ _);refine wpList_append_own_at _ rfl _ _ 35 rfl wb.heap.size 5 i0 (.int .u8 0) 1 1 Tryz.underlying35 HI0.out HZ0.out HZ1.out HZ2.out rfl (by decide) _ _ _ rfl (HO1.out.alloc _) ⟨w1.heap.size,0,none⟩ 1 1 [.int .u8 125] rfl rfl (cell_one_new _ _ _) (fun x hx=>by simp at hx;rcases hx with rfl<;>rfl) (by have:=HLB1.out;unfold maxLen;omega) (by have:=HLB1.out;omega) (by simp only [World.size_alloc];have:=HB1.out.size;omega) ?_
       intro v9 w9 hown' hgrow3 _ hat
       have HK9:=Hd ((HK1.out.alloc (.cells #[.int .u8 125] 5)).grown hgrow3 (fun q hq=>by
        rcases hat with e | e
        ·exact .inl (e ▸ hq)
        ·rw [e] at hq
         cases hq
         exact .inr (Nat.le_refl _)))
       have HB9:=Hd (show Below wb.heap.size wb w9 from Below.grown (HB1.out.alloc HB1.out.size _) hgrow3 (by simp only [World.size_alloc];have:=HB1.out.size;omega) (fun j hj=>by have:=(HO1.out.lt _ hj).1;omega))
       have HO9:=Hd (own_mapc (l:=[125]) hown' (by simp only [List.length_append];rfl))
       have HLB9:=Hd HLM9.out
       have hconv:=conv_owned HO9.out rfl
       rw [HRR.out] at hconv
       clear hown' hgrow3 hat))
   go_ret
   exact ⟨rfl,belowThen H1.out HB9.out⟩
  have hln:k<(sortF v.fields).length:=by rw [HSL.out,HN.out];exact hlt
  rcases HSF.out with hnil | ⟨g,oo,ff,rfl,hg1,hg2,hfq,hrows⟩
  ·rw [hnil] at hln;cases hln
  obtain ⟨ds,hff,hkN,hval⟩:=hfq k hln
  have hrow:=hrows k hln
  rw [hff] at hrow
  obtain ⟨ky,hky⟩:∃ ky,(sortF v.fields)[k].1=ky:=⟨_,rfl⟩
  obtain ⟨x,hx⟩:∃ x,(sortF v.fields)[k].2=x:=⟨_,rfl⟩
  rw [hky] at hrow
  rw [hx] at hval
  have hmem:=(sortF_perm v.fields).mem_iff.1 (List.getElem_mem hln)
  have hkz:ky.size≤131072:=by have:=(HOK.out.2.2.2.2 _ hmem).1;rw [← hky];omega
  have HKX:=Hd (show okK m x by rw [← hx];exact (HOK.out.2.2.2.2 _ hmem).2)
  have HPK:=Hd (show pc[k]'(by rw [HPL.out];exact hlt)=quoI ky++58::canC m x by simp only [← HPC.out,List.getElem_map,hky,hx])
  have HROW:=Hd (show ∀ wz uz,KeepG w0.heap.size wf wz uz→CellsAt wz g (oo+k * 14) (.string ky::ds) from fun wz uz hz=>hrow.congr (hz.2 g hg1 hg2).2)
  have HVAL:=Hd (show ∀ wz uz,Below wb.heap.size wb wz→KeepG w0.heap.size wf wz uz→ValD.At wz B N x ds from fun wz uz hz hk=>hval.below0 (HB0.out.mono HBK.out) (hz.mono HBK.out) (Nat.le_trans HFS.out hk.1))
  have HTK:=Hd (sepT_take (l:=pc) (k:=k) (by rw [HPL.out];exact hlt))
  rw [HPK.out] at HTK
  have HTL:=Hd (HSM.out (k+1))
  rw [HTK.out] at HTL
  have hdl:=hval.len
  have hi5:=Hd (show (Tryz.prog.info? 39).map (·.size)=some ds.length by rw [hdl];exact sizeV)
  have HQR:=Hd (quoI_range ky)
  have HXR:=Hd (canC_range m x)
  have HQQ:=Hd (show quoteS ky=strOfNums (quoI ky) from rfl)
  have HXL:=Hd (show (canC m x).length≤140737480000000 by have:=HTL.out;simp only [List.length_append,List.length_cons,List.length_nil] at this;omega)
  clear hdl hln hff hkN hval hrow hrows hfq hmem hky hx hg1 hg2
  by_cases hk0:k=0
  ·have hgt:¬ (0:Int)<(k:Int):=by omega
   have HTK2:=Hd (show sepT (pc.take (k+1))=sepT (pc.take k)++([]++_) by rw [HTK.out,if_pos hk0])
   rw [if_pos hk0] at HTL
   clear hk0
   have f0:=(HROW.out _ _ HK1.out).get0' (v:=.string ky) rfl
   go_wp2_with fail
   refine (quoted_r ky w1 hkz).mono ?_
   rintro e w4 ⟨rfl,hb4⟩
   rw [HQQ.out]
   have HK4:=Hd (HK1.out.below hb4)
   have HB4:=Hd (belowThen HB1.out hb4)
   have HO4:=Hd (own_then' HO1.out hb4)
   have HCX5:=Hd (strCells_nums (quoI ky) HQR.out)
   clear hb4 f0
   have HLM5:=Hd (show ((123::sepT (pc.take k))++quoI ky).length≤140737480000000 by have:=HTL.out;simp only [List.length_append,List.length_cons,List.length_nil] at this ⊢;omega)
   have HLM6:=Hd (show ((123::sepT (pc.take k))++quoI ky++[58]).length≤140737480000000 by have:=HTL.out;simp only [List.length_append,List.length_cons,List.length_nil] at this ⊢;omega)
   go_wp2_with (first
    | ((with_reducible show wpList _ _ _ (⟨some 90,_,_,_,_,_⟩::_) _ _);refine wpList_append_str rfl (.tmp 83) (.tmp 89) rfl wb.heap.size i0 HI0.out HZ0.out HZ1.out HZ2.out _ u5 _ _ rfl HO4.out (strOfNums (quoI ky)) rfl (by have h1:=HLM5.out;have h2:=strOfNums_size (quoI ky);rw [List.length_append] at h1;omega) HB4.out.size ?_
       intro v5 w5 hown' hgrow3 hat
       rw [HCX5.out,strOfNums_size] at hown'
       have HK5:=Hd (HK4.out.grown hgrow3 hat)
       have HB5:=Hd (show Below wb.heap.size wb w5 from Below.grown HB4.out hgrow3 HB4.out.size (fun j hj=>by have:=(HO4.out.lt _ hj).1;omega))
       have HO5:=Hd (own_mapc (l:=quoI ky) hown' (by simp only [List.length_append]))
       have HLB5:=Hd HLM5.out
       clear hown' hgrow3 hat)
    | ((with_reducible show wpList _ _ _ (⟨some 93,_,_,_,_,_⟩::_) _ _);refine wpList_append_own_at _ rfl _ _ 35 rfl wb.heap.size 5 i0 (.int .u8 0) 1 1 Tryz.underlying35 HI0.out HZ0.out HZ1.out HZ2.out rfl (by decide) _ _ _ rfl (HO5.out.alloc _) ⟨w5.heap.size,0,none⟩ 1 1 [.int .u8 58] rfl rfl (cell_one_new _ _ _) (fun x hx=>by simp at hx;rcases hx with rfl<;>rfl) (by have:=HLB5.out;unfold maxLen;omega) (by have:=HLB5.out;omega) (by simp only [World.size_alloc];have:=HB5.out.size;omega) ?_
       intro v6 w6 hown' hgrow3 _ hat
       have HK6:=Hd ((HK5.out.alloc (.cells #[.int .u8 58] 5)).grown hgrow3 (fun q hq=>by
        rcases hat with e | e
        ·exact .inl (e ▸ hq)
        ·rw [e] at hq
         cases hq
         exact .inr (Nat.le_refl _)))
       have HB6:=Hd (show Below wb.heap.size wb w6 from Below.grown (HB5.out.alloc HB5.out.size _) hgrow3 (by simp only [World.size_alloc];have:=HB5.out.size;omega) (fun j hj=>by have:=(HO5.out.lt _ hj).1;omega))
       have HO6:=Hd (own_mapc (l:=[58]) hown' (by simp only [List.length_append];rfl))
       have HLB6:=Hd HLM6.out
       have HR6:=Hd ((HROW.out _ _ HK6.out).tail.range)
       clear hown' hgrow3 hat)
    | ((with_reducible show wpList _ _ _ (⟨some 99,_,_,_,_,_⟩::_) _ _);refine wpList_load_mid rfl 39 _ rfl g (oo+k * 14+1) rfl ds _ HR6.out Tryz.underlying39 rfl hi5.out ?_))
   refine (HIH.out w6 B N x ds hN HKX.out (Nat.le_trans HBK.out HB6.out.size) (HVAL.out _ _ HB6.out HK6.out) HXL.out).mono ?_
   rintro e w7 ⟨rfl,hb4⟩
   have HK7:=Hd (HK6.out.below hb4)
   have HB7:=Hd (belowThen HB6.out hb4)
   have HO7:=Hd (own_then' HO6.out hb4)
   have HCX8:=Hd (strCells_nums (canC m x) HXR.out)
   clear hb4
   have HLM8:=Hd (show ((123::sepT (pc.take k))++quoI ky++[58]++canC m x).length≤140737480000000 by have:=HTL.out;simp only [List.length_append,List.length_cons,List.length_nil] at this ⊢;omega)
   go_wp2_with (first
    | ((with_reducible show wpList _ _ _ (⟨some 101,_,_,_,_,_⟩::_) _ _);refine wpList_append_str rfl (.tmp 94) (.tmp 100) rfl wb.heap.size i0 HI0.out HZ0.out HZ1.out HZ2.out _ v6 _ _ rfl HO7.out (strOfNums (canC m x)) rfl (by have h1:=HLM8.out;have h2:=strOfNums_size (canC m x);rw [List.length_append] at h1;omega) HB7.out.size ?_
       intro v8 w8 hown' hgrow3 hat
       rw [HCX8.out,strOfNums_size] at hown'
       have HK8:=Hd (HK7.out.grown hgrow3 hat)
       have HB8:=Hd (show Below wb.heap.size wb w8 from Below.grown HB7.out hgrow3 HB7.out.size (fun j hj=>by have:=(HO7.out.lt _ hj).1;omega))
       have HO8:=Hd (own_mapc (l:=canC m x) hown' (by simp only [List.length_append]))
       have HLB8:=Hd HLM8.out
       clear hown' hgrow3 hat))
   have HQ:=Hd (show (123::sepT (pc.take k))++quoI ky++[58]++canC m x=(123::sepT (pc.take (k+1))) by rw [HTK2.out];simp only [List.append_assoc,List.cons_append,List.nil_append])
   have HOQ:=HO8.out
   rw [HQ.out] at HOQ
   have HOR:=Hd HOQ
   clear HOQ
   go_roundw
   case rel=>exact ⟨k+1,by go_num,by omega,HOR,HB8,HK8⟩
   case measure=>simp [intOf];omega
  ·have hgt:(0:Int)<(k:Int):=by omega
   have HTK2:=Hd (show sepT (pc.take (k+1))=sepT (pc.take k)++([44]++_) by rw [HTK.out,if_neg hk0])
   rw [if_neg hk0] at HTL
   clear hk0
   have HLM3:=Hd (show ((123::sepT (pc.take k))++[44]).length≤140737480000000 by have:=HTL.out;simp only [List.length_append,List.length_cons,List.length_nil] at this ⊢;omega)
   go_wp2_with (first
    | ((with_reducible show wpList _ _ _ (⟨some 82,_,_,_,_,_⟩::_) _ _);refine wpList_append_own_at _ rfl _ _ 35 rfl wb.heap.size 5 i0 (.int .u8 0) 1 1 Tryz.underlying35 HI0.out HZ0.out HZ1.out HZ2.out rfl (by decide) _ _ _ rfl (HO1.out.alloc _) ⟨w1.heap.size,0,none⟩ 1 1 [.int .u8 44] rfl rfl (cell_one_new _ _ _) (fun x hx=>by simp at hx;rcases hx with rfl<;>rfl) (by have:=HLB1.out;unfold maxLen;omega) (by have:=HLB1.out;omega) (by simp only [World.size_alloc];have:=HB1.out.size;omega) ?_
       intro v3 w3 hown' hgrow3 _ hat
       have HK3:=Hd ((HK1.out.alloc (.cells #[.int .u8 44] 5)).grown hgrow3 (fun q hq=>by
        rcases hat with e | e
        ·exact .inl (e ▸ hq)
        ·rw [e] at hq
         cases hq
         exact .inr (Nat.le_refl _)))
       have HB3:=Hd (show Below wb.heap.size wb w3 from Below.grown (HB1.out.alloc HB1.out.size _) hgrow3 (by simp only [World.size_alloc];have:=HB1.out.size;omega) (fun j hj=>by have:=(HO1.out.lt _ hj).1;omega))
       have HO3:=Hd (own_mapc (l:=[44]) hown' (by simp only [List.length_append];rfl))
       have HLB3:=Hd HLM3.out
       have f0:=(HROW.out _ _ HK3.out).get0' (v:=.string ky) rfl
       clear hown' hgrow3 hat))
   refine (quoted_r ky w3 hkz).mono ?_
   rintro e w4 ⟨rfl,hb4⟩
   rw [HQQ.out]
   have HK4:=Hd (HK3.out.below hb4)
   have HB4:=Hd (belowThen HB3.out hb4)
   have HO4:=Hd (own_then' HO3.out hb4)
   have HCX5:=Hd (strCells_nums (quoI ky) HQR.out)
   clear hb4 f0
   have HLM5:=Hd (show ((123::sepT (pc.take k))++[44]++quoI ky).length≤140737480000000 by have:=HTL.out;simp only [List.length_append,List.length_cons,List.length_nil] at this ⊢;omega)
   have HLM6:=Hd (show ((123::sepT (pc.take k))++[44]++quoI ky++[58]).length≤140737480000000 by have:=HTL.out;simp only [List.length_append,List.length_cons,List.length_nil] at this ⊢;omega)
   go_wp2_with (first
    | ((with_reducible show wpList _ _ _ (⟨some 90,_,_,_,_,_⟩::_) _ _);refine wpList_append_str rfl (.tmp 83) (.tmp 89) rfl wb.heap.size i0 HI0.out HZ0.out HZ1.out HZ2.out _ v3 _ _ rfl HO4.out (strOfNums (quoI ky)) rfl (by have h1:=HLM5.out;have h2:=strOfNums_size (quoI ky);rw [List.length_append] at h1;omega) HB4.out.size ?_
       intro v5 w5 hown' hgrow3 hat
       rw [HCX5.out,strOfNums_size] at hown'
       have HK5:=Hd (HK4.out.grown hgrow3 hat)
       have HB5:=Hd (show Below wb.heap.size wb w5 from Below.grown HB4.out hgrow3 HB4.out.size (fun j hj=>by have:=(HO4.out.lt _ hj).1;omega))
       have HO5:=Hd (own_mapc (l:=quoI ky) hown' (by simp only [List.length_append]))
       have HLB5:=Hd HLM5.out
       clear hown' hgrow3 hat)
    | ((with_reducible show wpList _ _ _ (⟨some 93,_,_,_,_,_⟩::_) _ _);refine wpList_append_own_at _ rfl _ _ 35 rfl wb.heap.size 5 i0 (.int .u8 0) 1 1 Tryz.underlying35 HI0.out HZ0.out HZ1.out HZ2.out rfl (by decide) _ _ _ rfl (HO5.out.alloc _) ⟨w5.heap.size,0,none⟩ 1 1 [.int .u8 58] rfl rfl (cell_one_new _ _ _) (fun x hx=>by simp at hx;rcases hx with rfl<;>rfl) (by have:=HLB5.out;unfold maxLen;omega) (by have:=HLB5.out;omega) (by simp only [World.size_alloc];have:=HB5.out.size;omega) ?_
       intro v6 w6 hown' hgrow3 _ hat
       have HK6:=Hd ((HK5.out.alloc (.cells #[.int .u8 58] 5)).grown hgrow3 (fun q hq=>by
        rcases hat with e | e
        ·exact .inl (e ▸ hq)
        ·rw [e] at hq
         cases hq
         exact .inr (Nat.le_refl _)))
       have HB6:=Hd (show Below wb.heap.size wb w6 from Below.grown (HB5.out.alloc HB5.out.size _) hgrow3 (by simp only [World.size_alloc];have:=HB5.out.size;omega) (fun j hj=>by have:=(HO5.out.lt _ hj).1;omega))
       have HO6:=Hd (own_mapc (l:=[58]) hown' (by simp only [List.length_append];rfl))
       have HLB6:=Hd HLM6.out
       have HR6:=Hd ((HROW.out _ _ HK6.out).tail.range)
       clear hown' hgrow3 hat)
    | ((with_reducible show wpList _ _ _ (⟨some 99,_,_,_,_,_⟩::_) _ _);refine wpList_load_mid rfl 39 _ rfl g (oo+k * 14+1) rfl ds _ HR6.out Tryz.underlying39 rfl hi5.out ?_))
   refine (HIH.out w6 B N x ds hN HKX.out (Nat.le_trans HBK.out HB6.out.size) (HVAL.out _ _ HB6.out HK6.out) HXL.out).mono ?_
   rintro e w7 ⟨rfl,hb4⟩
   have HK7:=Hd (HK6.out.below hb4)
   have HB7:=Hd (belowThen HB6.out hb4)
   have HO7:=Hd (own_then' HO6.out hb4)
   have HCX8:=Hd (strCells_nums (canC m x) HXR.out)
   clear hb4
   have HLM8:=Hd (show ((123::sepT (pc.take k))++[44]++quoI ky++[58]++canC m x).length≤140737480000000 by have:=HTL.out;simp only [List.length_append,List.length_cons,List.length_nil] at this ⊢;omega)
   go_wp2_with (first
    | ((with_reducible show wpList _ _ _ (⟨some 101,_,_,_,_,_⟩::_) _ _);refine wpList_append_str rfl (.tmp 94) (.tmp 100) rfl wb.heap.size i0 HI0.out HZ0.out HZ1.out HZ2.out _ v6 _ _ rfl HO7.out (strOfNums (canC m x)) rfl (by have h1:=HLM8.out;have h2:=strOfNums_size (canC m x);rw [List.length_append] at h1;omega) HB7.out.size ?_
       intro v8 w8 hown' hgrow3 hat
       rw [HCX8.out,strOfNums_size] at hown'
       have HK8:=Hd (HK7.out.grown hgrow3 hat)
       have HB8:=Hd (show Below wb.heap.size wb w8 from Below.grown HB7.out hgrow3 HB7.out.size (fun j hj=>by have:=(HO7.out.lt _ hj).1;omega))
       have HO8:=Hd (own_mapc (l:=canC m x) hown' (by simp only [List.length_append]))
       have HLB8:=Hd HLM8.out
       clear hown' hgrow3 hat))
   have HQ:=Hd (show (123::sepT (pc.take k))++[44]++quoI ky++[58]++canC m x=(123::sepT (pc.take (k+1))) by rw [HTK2.out];simp only [List.append_assoc,List.cons_append,List.nil_append])
   have HOQ:=HO8.out
   rw [HQ.out] at HOQ
   have HOR:=Hd HOQ
   clear HOQ
   go_roundw
   case rel=>exact ⟨k+1,by go_num,by omega,HOR,HB8,HK8⟩
   case measure=>simp [intOf];omega
theorem can_all:∀ m,CanP m
 | 0=>fun _ _ _ _ _ _ h=>h.elim
 | m+1=>fun w B N v cs hN hok hB hv hl=>by
   have IH:=can_all m
   rcases (show v.kind=0∨v.kind=1∨v.kind=2∨v.kind=3∨v.kind=4∨v.kind=5∨v.kind=6∨v.kind=7 by have:=hok.1.1;omega) with h | h | h | h | h | h | h | h
   ·exact can_0 w B N v cs hN hok hB hv hl h
   ·by_cases hb:v.bool=true
    ·exact can_1t w B N v cs hN hok hB hv hl h hb
    ·exact can_1f w B N v cs hN hok hB hv hl h hb
   ·exact can_2 w B N v cs hN hok hB hv hl h
   ·exact can_3 w B N v cs hN hok hB hv hl h
   ·exact can_4 w B N v cs hN hok hB hv hl h
   ·exact can_5 w B N v cs hN hok hB hv hl h
   ·exact can_6 IH w B N v cs hN hok hB hv hl h
   ·exact can_7 IH w B N v cs hN hok hB hv hl h
end Go.Proofs.YtniljgkkcnekgaaGreatDoor
