/- canon.write of lists (printed by genwri.py). -/
import Derived.Test.YtniljgkkcnekgaaGreatDoorProg
import Derived.Test.YtniljgkkcnekgaaGreatDoorGA
import Derived.Test.YtniljgkkcnekgaaGreatDoorGB
import Derived.Test.YtniljgkkcnekgaaGreatDoorGC
import Derived.Test.YtniljgkkcnekgaaGreatDoorGZ
import Derived.Test.YtniljgkkcnekgaaGreatDoorBL
import Derived.Test.YtniljgkkcnekgaaGreatDoorCN
import Derived.Test.YtniljgkkcnekgaaGreatDoorWR
namespace Go.Proofs.YtniljgkkcnekgaaGreatDoor
namespace Stb
end Stb
open Go.RowKit Stb
def WriP (m:Nat):Prop:=∀ (L b N:Nat) (w:World) (sl:Value) (bs:List Value) (v:ValD) (cs:List Value),N≤4294967296→okW m v→BldS L b w sl bs→HoldB L b N v cs w→bs.length+(canW m v).length≤140737480000000→Calls Tryz.prog 57 #[.pointer (some ⟨b,0,none⟩),.agg cs.toArray] w (BldR L b w sl (bs++numL (canW m v)) (.tuple #[]))
def SepI (L b:Nat) (wb:World) (sl:Value) (bs:List Value) (op:Int) (pc:List (List Int)) (k:Nat) (wr:World):Prop:=∃ sr,BldS L b wr sr (bs++numL (op::sepT (pc.take k)))∧BldF b wb sl wr sr
set_option maxRecDepth 100000 in
set_option maxHeartbeats 6400000 in
theorem wri_6 {m:Nat} (IH:WriP m) (L b N:Nat) (w:World) (sl:Value) (bs:List Value) (v:ValD) (cs:List Value) (hN:N≤4294967296) (hok:okW (m+1) v) (hs:BldS L b w sl bs) (hv:HoldB L b N v cs w) (hl:bs.length+(canW (m+1) v).length≤140737480000000) (hk:v.kind=6):Calls Tryz.prog 57 #[.pointer (some ⟨b,0,none⟩),.agg cs.toArray] w (BldR L b w sl (bs++numL (canW (m+1) v)) (.tuple #[])):=by
 obtain ⟨ya,la,va,yc,lc,vc,hh⟩:=hv.here.has
 have R0:=Hd (RowT.new w 39 cs)
 have S1:=Hd (hs.boxes (.cells cs.toArray 39))
 have F1:=Hd (@BldF.box b w sl (.cells cs.toArray 39))
 have V1:=Hd (hv.boxes (.cells cs.toArray 39))
 have HH:=Hd hh
 have HOK:=Hd hok
 have HLN:=Hd hl
 have hlb:bs.length≤140737480000000:=by omega
 have e0:=R0.out.cell HH.out.kind
 rw [hk] at e0
 have hcan:canW (m+1) v=91::(sepT (v.list.map (canW m))++[93]):=by rw [canW];unfold bodyT;rw [if_neg (by omega),if_neg (by omega),if_neg (by omega),if_neg (by omega),if_neg (by omega),if_neg (by omega),if_pos hk]
 obtain ⟨pc,hpc⟩:∃ pc,(v.list.map (canW m))=pc:=⟨_,rfl⟩
 rw [hpc] at hcan
 have hpl:pc.length=v.list.length:=by rw [← hpc,List.length_map]
 have HPC:=Hd hpc
 have HCE:=Hd (show bs++numL (91::sepT pc)++[Value.int .u8 93]=bs++numL (canW (m+1) v) by rw [hcan,List.append_assoc];unfold numL;simp)
 have HSM:=Hd (show ∀ k,(bs++numL (91::sepT (pc.take k))).length+1≤140737480000000 from fun k=>by
  have h1:=sepT_mono pc k
  rw [hcan] at hl
  rw [List.length_append,numL_len,List.length_cons]
  simp only [List.length_cons,List.length_append,List.length_nil] at hl
  omega)
 have HSB:=Hd (show (sepT pc).length+bs.length+2≤140737480000000 by
  rw [hcan] at hl
  simp only [List.length_cons,List.length_append,List.length_nil] at hl
  omega)
 have e1:=R0.out.cell HH.out.list
 have HI:=Hd IH
 obtain ⟨n,hn⟩:∃ n,v.list.length=n:=⟨_,rfl⟩
 rw [hn] at e1 hpl
 have HN:=Hd hn
 have HPL:=Hd hpl
 obtain ⟨wb,hwb⟩:∃ wb,wb=w.alloc (.cells cs.toArray 39):=⟨_,rfl⟩
 have HWB:=Hd hwb
 rw [← hwb] at R0 S1 F1 V1
 have HNB:=Hd (show w.heap.size≠b by have:=hs.lt;have:=hs.le;omega)
 have HNO:=Hd (show sl.ownBlock≠some w.heap.size from fun e=>by have:=(hs.own.lt _ e).2;omega)
 have hnN:n≤4294967296:=by have:=hh.own.2.2.2.2.2.2.2.2.2.1;omega
 clear hh hok hs hv hl hk hcan hpc hn hpl IH hwb
 go_enter Tryz.func57,Tryz.ntmps57
 go_wp2_with fail
 rw [← HWB.out]
 refine (wbyte L b wb sl bs 91 S1.out (by omega)).mono ?_
 rintro e w0 ⟨rfl,s0,hs0,hf0⟩
 have HQ:=Hd (show SepI L b wb sl bs 91 pc 0 w0 from ⟨s0,hs0,hf0⟩)
 have e1:=(hf0.row R0.out HNB.out HNO.out).cell HH.out.list
 rw [HN.out] at e1
 clear hs0 hf0 e0
 go_wp2_with fail
 go_simp
 go_loopw [60] (fun t wr=>∃ k:Nat,t=.int .i64 k∧k≤n∧Hid (SepI L b wb sl bs 91 pc k wr)) (fun t _=>n-(intOf t).toNat)
 case atStart=>exact ⟨0,rfl,by omega,HQ⟩
 case round =>
  clear HQ
  obtain ⟨w1,rfl⟩:∃ w1,w1=wr:=⟨wr,rfl⟩
  obtain ⟨k,rfl,hk,HQ⟩:=hrel
  obtain ⟨s1,hs1,hf1⟩:=HQ.out
  have H1:=Hd hs1
  have F1b:=Hd hf1
  clear hs1 hf1 HQ
  by_cases hlt:k<n
  case neg =>
   have hke:k=n:=by omega
   have HT:=Hd (show pc.take k=pc by rw [hke,← HPL.out,List.take_length])
   clear hke
   go_wp2_with fail
   refine (wbyte L b w1 s1 _ 93 H1.out (by have:=HSM.out k;omega)).mono ?_
   rintro e w2 ⟨rfl,s2,hs2,hf2⟩
   have H2:=Hd (show BldS L b w2 s2 (bs++numL (canW (m+1) v)) by rw [← HCE.out];rw [HT.out] at hs2;exact hs2)
   have F2:=Hd (F1.out.trans (F1b.out.trans hf2))
   clear hs2 hf2
   go_wp2_with fail
   go_end0
   exact ⟨rfl,s2,H2.out,F2.out⟩
  have hvn:k<v.list.length:=by rw [HN.out];exact hlt
  obtain ⟨g,o,cap,eg,hgL,hgb,hget⟩:=V1.out.list (by intro h;rw [h] at hvn;cases hvn)
  have eg2:=eg.symm.trans HH.out.list
  rw [Option.some.injEq] at eg2
  injection eg2 with eg3 eg4 eg5
  subst eg3
  obtain ⟨ds,hrow,hhold⟩:=hget k hvn
  obtain ⟨x,hx⟩:∃ x,v.list[k]=x:=⟨_,rfl⟩
  have HKX:=Hd (show okW m x by rw [← hx];exact HOK.out.2.2.2.2.1 _ (List.getElem_mem hvn))
  have HPK:=Hd (show pc[k]'(by rw [HPL.out];exact hlt)=canW m x by simp only [← HPC.out,List.getElem_map,hx])
  rw [hx] at hhold
  have HTK:=Hd (sepT_take (l:=pc) (k:=k) (by rw [HPL.out];exact hlt))
  rw [HPK.out] at HTK
  have HTL:=Hd (sepT_mono pc (k+1))
  rw [HTK.out] at HTL
  have D1:=Hd (hhold.bld S1.out F1b.out)
  have HR:=Hd (hrow.congr (F1b.out.block g (Nat.lt_of_lt_of_le hgL (V1.out).1) hgb (fun e=>by have:=(S1.out.own.lt g e).1;omega)))
  have hdl:=hhold.here.len
  have hi1:=Hd (show (Tryz.prog.info? 39).map (·.size)=some ds.length by rw [hdl];exact sizeV)
  have hi2:=Hd (show (Tryz.prog.info? 39).map (·.size)=some ds.toArray.size by rw [List.size_toArray];exact hi1.out)
  have hi3:=Hd (show zeroV.size=ds.toArray.size by show 13=_;rw [List.size_toArray,hdl])
  have hi4:=Hd (show ds.toArray.all (·.oneCell')=true from Go.all_oneCell_toArray hhold.here.oneCell)
  have hi5:=Hd (show (Tryz.prog.info? 39).map (·.size)=some ds.length by rw [hdl];exact sizeV)
  obtain ⟨wx,hwx⟩:∃ wx,wx=w1.alloc (.cells ds.toArray 39):=⟨_,rfl⟩
  have HWX:=Hd hwx
  have RX:=Hd (show RowT 39 wx w1.heap.size ds by rw [hwx];exact RowT.new w1 39 _)
  have SX:=Hd (show BldS L b wx s1 _ by rw [hwx];exact H1.out.boxes _)
  have FX:=Hd (show BldF b wb sl wx s1 by rw [hwx];exact F1b.out.trans (BldF.box _))
  have DX:=Hd (show HoldB L b N x ds wx by rw [hwx];exact D1.out.boxes _)
  have HNB2:=Hd (show w1.heap.size≠b by have:=H1.out.lt;have:=H1.out.le;omega)
  have HNO2:=Hd (show s1.ownBlock≠some w1.heap.size from fun e=>by have:=(H1.out.own.lt _ e).2;omega)
  clear hget eg eg4 eg5 hrow hhold hdl hx hwx hvn
  by_cases hk0:k=0
  ·have hgt:¬ (0:Int)<(k:Int):=by omega
   have HTK2:=Hd (show sepT (pc.take (k+1))=sepT (pc.take k)++([]++_) by rw [HTK.out,if_pos hk0])
   clear hk0
   go_wp2_with (first
    | ((with_reducible show wpList _ _ _ (⟨some 64,_,_,_,_,_⟩::_) _ _);refine wpList_load_mid rfl 39 _ rfl g (o+k * 13) rfl ds _ HR.out.range Tryz.underlying39 rfl hi1.out ?_)
    | ((with_reducible show wpList _ _ _ (⟨none,.store 39 (.tmp 5) (.tmp 64),_,_,_,_⟩::_) _ _);refine wpList_store_new rfl 39 _ _ rfl zeroV ds.toArray rfl rfl hi2.out hi3.out hi4.out ?_)
    | ((with_reducible show wpList _ _ _ (⟨some 70,_,_,_,_,_⟩::_) _ _);rw [← HWX.out];refine wpList_load_mid rfl 39 _ rfl w1.heap.size 0 rfl ds _ RX.out.range Tryz.underlying39 rfl hi5.out ?_))
   refine (HI.out L b N wx s1 _ x ds hN HKX.out SX.out DX.out (by have:=HTL.out;have:=HSB.out;simp only [List.length_append,numL_len,List.length_cons] at *;omega)).mono ?_
   rintro e w3 ⟨rfl,s3,hs2,hf2⟩
   have S3:=Hd hs2
   have F3:=Hd ((FX.out).trans hf2)
   have G3:=Hd (hf2)
   have R3:=Hd (G3.out.row RX.out HNB2.out HNO2.out)
   clear hs2 hf2
   have HQ3:=Hd (show SepI L b wb sl bs 91 pc (k+1) w3 from ⟨s3,by have h:=S3.out;rw [show bs++numL (91::sepT (pc.take (k+1)))=_ from by rw [HTK2.out]];simp only [numL,List.map_append,List.map_cons,List.append_assoc,List.cons_append,List.nil_append] at h ⊢;exact h,F3.out⟩)
   go_wp2_with fail
   go_roundw
   case rel=>exact ⟨k+1,by go_num,by omega,HQ3⟩
   case measure=>simp [intOf];omega
  ·have hgt:(0:Int)<(k:Int):=by omega
   have HTK2:=Hd (show sepT (pc.take (k+1))=sepT (pc.take k)++([44]++_) by rw [HTK.out,if_neg hk0])
   clear hk0
   go_wp2_with (first
    | ((with_reducible show wpList _ _ _ (⟨some 64,_,_,_,_,_⟩::_) _ _);refine wpList_load_mid rfl 39 _ rfl g (o+k * 13) rfl ds _ HR.out.range Tryz.underlying39 rfl hi1.out ?_)
    | ((with_reducible show wpList _ _ _ (⟨none,.store 39 (.tmp 5) (.tmp 64),_,_,_,_⟩::_) _ _);refine wpList_store_new rfl 39 _ _ rfl zeroV ds.toArray rfl rfl hi2.out hi3.out hi4.out ?_))
   rw [← HWX.out]
   refine (wbyte L b wx s1 _ 44 SX.out (by have:=HSM.out k;omega)).mono ?_
   rintro e w3 ⟨rfl,s3,hs2,hf2⟩
   have S3:=Hd hs2
   have F3:=Hd ((FX.out).trans hf2)
   have G3:=Hd (hf2)
   have R3:=Hd (G3.out.row RX.out HNB2.out HNO2.out)
   clear hs2 hf2
   go_wp2_with (first
    | ((with_reducible show wpList _ _ _ (⟨some 70,_,_,_,_,_⟩::_) _ _);refine wpList_load_mid rfl 39 _ rfl w1.heap.size 0 rfl ds _ R3.out.range Tryz.underlying39 rfl hi5.out ?_))
   refine (HI.out L b N w3 s3 _ x ds hN HKX.out S3.out (DX.out.bld SX.out G3.out) (by have:=HTL.out;have:=HSB.out;simp only [List.length_append,numL_len,List.length_cons,List.length_nil] at *;omega)).mono ?_
   rintro e w4 ⟨rfl,s4,hs2,hf2⟩
   have S4:=Hd hs2
   have F4:=Hd ((F3.out).trans hf2)
   have G4:=Hd (G3.out.trans hf2)
   have R4:=Hd (G4.out.row RX.out HNB2.out HNO2.out)
   clear hs2 hf2
   have HQ3:=Hd (show SepI L b wb sl bs 91 pc (k+1) w4 from ⟨s4,by have h:=S4.out;rw [show bs++numL (91::sepT (pc.take (k+1)))=_ from by rw [HTK2.out]];simp only [numL,List.map_append,List.map_cons,List.append_assoc,List.cons_append,List.nil_append] at h ⊢;exact h,F4.out⟩)
   go_wp2_with fail
   go_roundw
   case rel=>exact ⟨k+1,by go_num,by omega,HQ3⟩
   case measure=>simp [intOf];omega
end Go.Proofs.YtniljgkkcnekgaaGreatDoor
