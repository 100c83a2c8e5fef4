/- The reference's canonical text of lists (printed by gencan.py). -/
import Derived.Test.YtniljgkkcnekgaaGreatDoorProg
import Derived.Test.YtniljgkkcnekgaaGreatDoorGA
import Derived.Test.YtniljgkkcnekgaaGreatDoorGB
import Derived.Test.YtniljgkkcnekgaaGreatDoorGD
import Derived.Test.YtniljgkkcnekgaaGreatDoorGC
import Derived.Test.YtniljgkkcnekgaaGreatDoorGZ
import Derived.Test.YtniljgkkcnekgaaGreatDoorCN
import Derived.Test.YtniljgkkcnekgaaGreatDoorWR
namespace Go.Proofs.YtniljgkkcnekgaaGreatDoor
namespace Stb
end Stb
open Go.RowKit Stb
def CanP (m:Nat):Prop:=∀ (w:World) (B N:Nat) (v:ValD) (cs:List Value),N≤4294967296→okK m v→B≤w.heap.size→ValD.At w B N v cs→(canC m v).length≤140737480000000→Calls Tryz.prog 23 #[.agg cs.toArray] w (StrB (strOfNums (canC m v)) w)
theorem own_byte (w:World) (B:Nat) (c:Int) (hB:B≤w.heap.size):(w.alloc (.cells #[.int .u8 c] 5)).ownsRow B 5 1 (.slice (some ⟨w.heap.size,0,none⟩) 1 1) 1 ([c].map (Value.int .u8)) :=
 ⟨rfl,.inr ⟨w.heap.size,1,#[.int .u8 c],rfl,hB,heap_alloc_new w _,by omega,by unfold maxLen;omega,rfl,rfl⟩⟩
set_option maxRecDepth 100000 in
set_option maxHeartbeats 6400000 in
theorem can_6 {m:Nat} (IH:CanP m) (w:World) (B N:Nat) (v:ValD) (cs:List Value) (hN:N≤4294967296) (hok:okK (m+1) v) (hB:B≤w.heap.size) (hv:ValD.At w B N v cs) (hl:(canC (m+1) v).length≤140737480000000) (hk:v.kind=6):Calls Tryz.prog 23 #[.agg cs.toArray] w (StrB (strOfNums (canC (m+1) v)) w):=by
 have hq:=And.intro hN (And.intro hB hl);clear hq
 obtain ⟨ya,la,va,yc,lc,vc,hh⟩:=hv.has
 have R0:=Hd (RowT.new w 39 cs)
 have H1:=Hd (belowBox w (.cells cs.toArray 39))
 have HH:=Hd hh
 have HOK:=Hd hok
 have e0:=R0.out.cell HH.out.kind
 rw [hk] at e0
 obtain ⟨i0,hi0,hz0,hz1,hz2⟩:=info_parts infoU8
 have HI0:=Hd hi0
 have HZ0:=Hd hz0
 have HZ1:=Hd hz1
 have HZ2:=Hd hz2
 have hcan:canC (m+1) v=91::(sepT (v.list.map (canC m))++[93]):=by rw [canC];rw [if_neg (by omega)];unfold bodyT;rw [if_neg (by omega),if_neg (by omega),if_neg (by omega),if_neg (by omega),if_neg (by omega),if_neg (by omega),if_pos hk]
 obtain ⟨pc,hpc⟩:∃ pc,(v.list.map (canC m))=pc:=⟨_,rfl⟩
 rw [hpc] at hcan
 have HPC:=Hd hpc
 have hpl:pc.length=v.list.length:=by rw [← hpc,List.length_map]
 have HR:=Hd (show canC (m+1) v=(91::sepT pc)++[93] from hcan)
 have HSM:=Hd (show ∀ k,((91::sepT (pc.take k))++[91]).length≤140737480000000 from fun k=>by
  have h1:=sepT_mono pc k
  rw [hcan] at hl
  simp only [List.length_cons,List.length_append,List.length_nil] at hl ⊢
  omega)
 have HIH:=Hd IH
 have HBB:=Hd hB
 obtain ⟨n,hn⟩:∃ n,v.list.length=n:=⟨_,rfl⟩
 have hnN:n≤4294967296:=by have:=hh.own.2.2.2.2.2.2.2.2.2.1;omega
 rw [hn] at hpl
 have HN:=Hd hn
 have HPL:=Hd hpl
 obtain ⟨wb,hwb⟩:∃ wb,wb=w.alloc (.cells cs.toArray 39):=⟨_,rfl⟩
 have HWB:=Hd hwb
 rw [← hwb] at R0 H1
 have e1:=R0.out.cell HH.out.list
 rw [hn,hwb] at e1
 have HF:=Hd (hh.atList.below (H1.out.mono hB))
 clear hh hok hl hk hcan hpc hn hpl IH hwb hi0 hz0 hz1 hz2 hB
 go_enter Tryz.func23,Tryz.ntmps23
 go_wp2_with fail
 have HS1:=Hd (show wb.heap.size=w.heap.size+1 by rw [HWB.out,World.size_alloc])
 have HOf:=Hd (show (wb.alloc (.cells #[.int .u8 91] 5)).ownsRow wb.heap.size 5 1 (.slice (some ⟨w.heap.size+1,0,none⟩) 1 1) (91::sepT (pc.take 0)).length ((91::sepT (pc.take 0)).map (Value.int .u8)) by rw [show Value.slice (some ⟨w.heap.size+1,0,none⟩) 1 1=Value.slice (some ⟨wb.heap.size,0,none⟩) 1 1 by rw [HS1.out]];exact own_byte wb wb.heap.size 91 (Nat.le_refl _))
 have HBf:=Hd (belowBox wb (.cells #[.int .u8 91] 5))
 rw [← HWB.out]
 obtain ⟨wf,hwf⟩:∃ wf,wf=wb.alloc (.cells #[.int .u8 91] 5):=⟨_,rfl⟩
 rw [← hwf] at HOf HBf ⊢
 clear hwf
 go_simp
 go_loopw [3,4] (fun u t wr=>∃ k:Nat,t=.int .i64 k∧k≤n∧Hid (wr.ownsRow wb.heap.size 5 1 u (91::sepT (pc.take k)).length ((91::sepT (pc.take k)).map (Value.int .u8)))∧Hid (Below wb.heap.size wb wr)) (fun _ t _=>n-(intOf t).toNat)
 case atStart=>exact ⟨0,rfl,by omega,HOf,HBf⟩
 case round =>
  clear HOf HBf
  obtain ⟨w1,rfl⟩:∃ w1,w1=wr:=⟨wr,rfl⟩
  obtain ⟨k,rfl,hk,HO1,HB1⟩:=hrel
  have HLB1:=Hd (show (91::sepT (pc.take k)).length≤140737480000000 by have:=HSM.out k;rw [List.length_append] at this;omega)
  by_cases hlt:k<n
  case neg =>
   have hke:k=n:=by omega
   have HT:=Hd (show pc.take k=pc by rw [hke,← HPL.out,List.take_length])
   have HLM9:=Hd (show ((91::sepT (pc.take k))++[93]).length≤140737480000000 by have:=HSM.out k;simp only [List.length_append,List.length_cons,List.length_nil] at this ⊢;exact this)
   have HRR:=Hd (show (91::sepT (pc.take k))++[93]=canC (m+1) v by rw [HT.out,HR.out])
   clear hke
   have e11:=(R0.out.then HB1.out).cell HH.out.list
   rw [HN.out] at e11
   go_wp2_with (first
    | ((with_reducible show wpList _ _ _ (⟨some 65,_,_,_,_,_⟩::_) _ _);refine wpList_append_own _ rfl _ _ 35 rfl wb.heap.size 5 i0 (.int .u8 0) 1 1 Tryz.underlying35 HI0.out HZ0.out HZ1.out HZ2.out rfl (by decide) _ _ _ rfl (HO1.out.alloc _) ⟨w1.heap.size,0,none⟩ 1 1 [.int .u8 93] rfl rfl (cell_one_new _ _ _) (fun x hx=>by simp at hx;rcases hx with rfl<;>rfl) (by have:=HLB1.out;unfold maxLen;omega) (by have:=HLB1.out;omega) (by simp only [World.size_alloc];have:=HB1.out.size;omega) ?_
       intro v9 w9 hown' hgrow3 _
       have HB9:=Hd (show Below wb.heap.size wb w9 from Below.grown (HB1.out.alloc HB1.out.size _) hgrow3 (by simp only [World.size_alloc];have:=HB1.out.size;omega) (fun j hj=>by have:=(HO1.out.lt _ hj).1;omega))
       have HO9:=Hd (own_mapc (l:=[93]) hown' (by rw [List.length_append];rfl))
       have HLB9:=Hd (show ((91::sepT (pc.take k))++[93]).length≤140737480000000 from HLM9.out)
       have hconv:=conv_owned HO9.out rfl
       rw [HRR.out] at hconv
       clear hown' hgrow3))
   go_ret
   exact ⟨rfl,belowThen H1.out HB9.out⟩
  have hln:k<v.list.length:=by rw [HN.out];exact hlt
  obtain ⟨g,oo,rfl,hgB,hget⟩:=HF.out.get (by intro h;rw [h] at hln;cases hln)
  obtain ⟨ds,hrow,hval⟩:=hget k hln
  obtain ⟨x,hx⟩:∃ x,v.list[k]=x:=⟨_,rfl⟩
  rw [hx] at hval
  have HKX:=Hd (show okK m x by rw [← hx];exact HOK.out.2.2.2.1 _ (List.getElem_mem hln))
  have HPK:=Hd (show pc[k]'(by rw [HPL.out];exact hlt)=canC m x by simp only [← HPC.out,List.getElem_map,hx])
  have HROW:=Hd hrow
  have HVAL:=Hd hval
  have HBK:=Hd (Nat.le_trans HBB.out H1.out.size)
  have HGB:=Hd hgB
  clear hget hrow hval hx hgB
  have HTK:=Hd (sepT_take (l:=pc) (k:=k) (by rw [HPL.out];exact hlt))
  rw [HPK.out] at HTK
  have HTL:=Hd (HSM.out (k+1))
  rw [HTK.out] at HTL
  have hdl:=HVAL.out.len
  have hi5:=Hd (show (Tryz.prog.info? 39).map (·.size)=some ds.length by rw [hdl];exact sizeV)
  have HXL:=Hd (show (canC m x).length≤140737480000000 by have:=HTL.out;simp only [List.length_append,List.length_cons,List.length_nil] at this;omega)
  have HXR:=Hd (canC_range m x)
  clear hdl hln
  by_cases hk0:k=0
  ·have hgt:¬ (0:Int)<(k:Int):=by omega
   have HTK2:=Hd (show sepT (pc.take (k+1))=sepT (pc.take k)++([]++_) by rw [HTK.out,if_pos hk0])
   rw [if_pos hk0] at HTL
   clear hk0
   have e11:=(R0.out.then HB1.out).cell HH.out.list
   rw [HN.out] at e11
   have HR3:=Hd (HROW.out.below (HB1.out.mono HBK.out) HGB.out)
   go_wp2_with ((with_reducible show wpList _ _ _ (⟨some 60,_,_,_,_,_⟩::_) _ _);refine wpList_load_mid rfl 39 _ rfl g (oo+k * 13) rfl ds _ HR3.out.range Tryz.underlying39 rfl hi5.out ?_)
   refine (HIH.out w1 B N x ds hN HKX.out (Nat.le_trans HBK.out HB1.out.size) (HVAL.out.below (HB1.out.mono HBK.out)) HXL.out).mono ?_
   rintro e w4 ⟨rfl,hb4⟩
   have HB4:=Hd (belowThen HB1.out hb4)
   have HO4:=Hd (own_then' HO1.out hb4)
   have HCX5:=Hd (strCells_nums (canC m x) HXR.out)
   clear hb4
   have HLM5:=Hd (show ((91::sepT (pc.take k))++canC m x).length≤140737480000000 by have:=HTL.out;simp only [List.length_append,List.length_cons,List.length_nil] at this ⊢;omega)
   go_wp2_with (first
    | ((with_reducible show wpList _ _ _ (⟨some 62,_,_,_,_,_⟩::_) _ _);refine Lib.wpList_append_own_string _ rfl _ _ 35 9 rfl wb.heap.size 5 i0 Tryz.underlying35 Tryz.underlying9 HI0.out HZ0.out HZ1.out HZ2.out _ _ _ rfl HO4.out (strOfNums (canC m x)) rfl (by rw [strOfNums_size];have:=HLM5.out;rw [List.length_append] at this;unfold maxLen;omega) (by rw [strOfNums_size];have:=HLM5.out;rw [List.length_append] at this;omega) HB4.out.size ?_
       intro v5 w5 hown' hgrow3 _
       rw [HCX5.out,strOfNums_size] at hown'
       have HB5:=Hd (show Below wb.heap.size wb w5 from Below.grown HB4.out hgrow3 HB4.out.size (fun j hj=>by have:=(HO4.out.lt _ hj).1;omega))
       have HO5:=Hd (own_mapc (l:=canC m x) hown' (by simp only [List.length_append]))
       have HLB5:=Hd HLM5.out
       clear hown' hgrow3))
   have HQ:=Hd (show (91::sepT (pc.take k))++canC m x=(91::sepT (pc.take (k+1))) by rw [HTK2.out];simp only [List.cons_append,List.nil_append])
   have HOQ:=HO5.out
   rw [HQ.out] at HOQ
   have HOR:=Hd HOQ
   clear HOQ
   go_roundw
   case rel=>exact ⟨k+1,by go_num,by omega,HOR,HB5⟩
   case measure=>simp [intOf];omega
  ·have hgt:(0:Int)<(k:Int):=by omega
   have HTK2:=Hd (show sepT (pc.take (k+1))=sepT (pc.take k)++([44]++_) by rw [HTK.out,if_neg hk0])
   rw [if_neg hk0] at HTL
   clear hk0
   have HLM3:=Hd (show ((91::sepT (pc.take k))++[44]).length≤140737480000000 by have:=HTL.out;simp only [List.length_append,List.length_cons,List.length_nil] at this ⊢;omega)
   have e11:=(R0.out.then HB1.out).cell HH.out.list
   rw [HN.out] at e11
   go_wp2_with (first
    | ((with_reducible show wpList _ _ _ (⟨some 54,_,_,_,_,_⟩::_) _ _);refine wpList_append_own _ rfl _ _ 35 rfl wb.heap.size 5 i0 (.int .u8 0) 1 1 Tryz.underlying35 HI0.out HZ0.out HZ1.out HZ2.out rfl (by decide) _ _ _ rfl (HO1.out.alloc _) ⟨w1.heap.size,0,none⟩ 1 1 [.int .u8 44] rfl rfl (cell_one_new _ _ _) (fun x hx=>by simp at hx;rcases hx with rfl<;>rfl) (by have:=HLB1.out;unfold maxLen;omega) (by have:=HLB1.out;omega) (by simp only [World.size_alloc];have:=HB1.out.size;omega) ?_
       intro v3 w3 hown' hgrow3 _
       have HB3:=Hd (show Below wb.heap.size wb w3 from Below.grown (HB1.out.alloc HB1.out.size _) hgrow3 (by simp only [World.size_alloc];have:=HB1.out.size;omega) (fun j hj=>by have:=(HO1.out.lt _ hj).1;omega))
       have HO3:=Hd (own_mapc (l:=[44]) hown' (by rw [List.length_append];rfl))
       have HLB3:=Hd (show ((91::sepT (pc.take k))++[44]).length≤140737480000000 from HLM3.out)
       have e11:=(R0.out.then HB3.out).cell HH.out.list
       rw [HN.out] at e11
       have HR3:=Hd (HROW.out.below (HB3.out.mono HBK.out) HGB.out)
       clear hown' hgrow3)
    | ((with_reducible show wpList _ _ _ (⟨some 60,_,_,_,_,_⟩::_) _ _);refine wpList_load_mid rfl 39 _ rfl g (oo+k * 13) rfl ds _ HR3.out.range Tryz.underlying39 rfl hi5.out ?_))
   refine (HIH.out w3 B N x ds hN HKX.out (Nat.le_trans HBK.out HB3.out.size) (HVAL.out.below (HB3.out.mono HBK.out)) HXL.out).mono ?_
   rintro e w4 ⟨rfl,hb4⟩
   have HB4:=Hd (belowThen HB3.out hb4)
   have HO4:=Hd (own_then' HO3.out hb4)
   have HCX5:=Hd (strCells_nums (canC m x) HXR.out)
   clear hb4
   have HLM5:=Hd (show ((91::sepT (pc.take k))++[44]++canC m x).length≤140737480000000 by have:=HTL.out;simp only [List.length_append,List.length_cons,List.length_nil] at this ⊢;omega)
   go_wp2_with (first
    | ((with_reducible show wpList _ _ _ (⟨some 62,_,_,_,_,_⟩::_) _ _);refine Lib.wpList_append_own_string _ rfl _ _ 35 9 rfl wb.heap.size 5 i0 Tryz.underlying35 Tryz.underlying9 HI0.out HZ0.out HZ1.out HZ2.out _ _ _ rfl HO4.out (strOfNums (canC m x)) rfl (by rw [strOfNums_size];have:=HLM5.out;rw [List.length_append] at this;unfold maxLen;omega) (by rw [strOfNums_size];have:=HLM5.out;rw [List.length_append] at this;omega) HB4.out.size ?_
       intro v5 w5 hown' hgrow3 _
       rw [HCX5.out,strOfNums_size] at hown'
       have HB5:=Hd (show Below wb.heap.size wb w5 from Below.grown HB4.out hgrow3 HB4.out.size (fun j hj=>by have:=(HO4.out.lt _ hj).1;omega))
       have HO5:=Hd (own_mapc (l:=canC m x) hown' (by simp only [List.length_append]))
       have HLB5:=Hd HLM5.out
       clear hown' hgrow3))
   have HQ:=Hd (show (91::sepT (pc.take k))++[44]++canC m x=(91::sepT (pc.take (k+1))) by rw [HTK2.out];simp only [List.append_assoc,List.cons_append,List.nil_append])
   have HOQ:=HO5.out
   rw [HQ.out] at HOQ
   have HOR:=Hd HOQ
   clear HOQ
   go_roundw
   case rel=>exact ⟨k+1,by go_num,by omega,HOR,HB5⟩
   case measure=>simp [intOf];omega
end Go.Proofs.YtniljgkkcnekgaaGreatDoor
