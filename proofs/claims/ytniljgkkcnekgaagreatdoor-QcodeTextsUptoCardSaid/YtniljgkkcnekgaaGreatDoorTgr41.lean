/- datakitref41.Targets. -/
import Derived.Test.YtniljgkkcnekgaaGreatDoorProg
import Derived.Test.YtniljgkkcnekgaaGreatDoorGA
import Derived.Test.YtniljgkkcnekgaaGreatDoorGB
import Derived.Test.YtniljgkkcnekgaaGreatDoorGC
import Derived.Test.YtniljgkkcnekgaaGreatDoorIN
import Derived.Test.YtniljgkkcnekgaaGreatDoorGZ
import Derived.Test.YtniljgkkcnekgaaGreatDoorBL
import Derived.Test.YtniljgkkcnekgaaGreatDoorCN
import Derived.Test.YtniljgkkcnekgaaGreatDoorCX
import Derived.Test.YtniljgkkcnekgaaGreatDoorTgp41
import Derived.Deep.DeepMust
namespace Go.Proofs.YtniljgkkcnekgaaGreatDoor
open Go.RowKit
theorem infoB41:(Tryz.prog.info? 4).map (fun i=>(i.zero,i.size,i.bytes))=some (some (.bool false),1,1):=by kernel_rfl
def ledL (n:Nat) (z:List InsD):List Bool:=(List.range n).map fun i:Nat=>decide ((i:Int)∈tgtL z)
theorem ledL_len (n:Nat) (z:List InsD):(ledL n z).length=n:=by unfold ledL;rw [List.length_map,List.length_range]
theorem ledL_nil (n:Nat):ledL n []=List.replicate n false:=by
 apply List.ext_getElem (by rw [ledL_len,List.length_replicate])
 intro i h1 h2
 unfold ledL tgtL
 simp
theorem ledL_set {n p:Nat} {z:List InsD} {z2:List InsD} (h:tgtL z2=tgtL z++[(p:Int)]):(ledL n z).set p true=ledL n z2:=by
 unfold ledL
 apply List.ext_getElem (by simp)
 intro i h1 h2
 simp only [List.getElem_set,List.getElem_map,List.getElem_range,h]
 by_cases hp:p=i
 ·rw [if_pos hp,hp];simp
 ·rw [if_neg hp]
  have:¬ (i:Int)=(p:Int):=by omega
  simp [this]
def outL (l:List InsD) (k:Nat):List Int:=List.map (fun i:Nat=>(i:Int)) ((List.range k).filter fun i:Nat=>decide ((i:Int)∈tgtL l))
theorem outL_s (l:List InsD) (k:Nat):outL l (k+1)=outL l k++(if decide ((k:Int)∈tgtL l)=true then [(k:Int)] else []):=by
 unfold outL
 rw [List.range_succ,List.filter_append,List.map_append]
 congr 1
 by_cases h:decide ((k:Int)∈tgtL l)=true
 ·rw [if_pos h];simp only [List.filter,h,List.map_cons,List.map_nil]
 ·rw [if_neg h]
  have h2:decide ((k:Int)∈tgtL l)=false:=by simpa using h
  simp only [List.filter,h2,List.map_nil]
theorem outL_len (l:List InsD) (k:Nat):(outL l k).length≤k:=by
 unfold outL
 rw [List.length_map]
 refine Nat.le_trans (List.length_filter_le _ _) ?_
 rw [List.length_range]
 exact Nat.le_refl _
theorem made_false (n:Nat):(madeCells (Value.cells (.bool false)) (n * 1)).toList=(ledL n []).map Value.bool:=by
 rw [ledL_nil,List.map_replicate]
 apply List.ext_getElem?
 intro i
 unfold madeCells
 by_cases h:i<n
 ·simp [h,Value.cells,Nat.mod_one]
 ·simp [h]
theorem refA2 (op:Int):(refA op=2↔useA op=2)∧(refA op=3↔useA op=3):=by
 unfold refA
 split
 ·rename_i h;subst h;decide
 ·exact ⟨Iff.rfl,Iff.rfl⟩
set_option maxRecDepth 100000 in
set_option maxHeartbeats 12800000 in
theorem targets_r (start:Int) (l:List InsD) (a:Option Addr) (c:Nat) (w:World) (N:Nat) (hl:l.length≤400) (hok:∀ x∈l,InsOk x l.length) (h:InssAt w w.heap.size N l a) :
 Calls Tryz.prog 7 #[.agg #[.int .i64 start,.slice a l.length c]] w (TgtR (tgtR l) w):=by
 obtain ⟨i0,hi0,hz0,hz1,hz2⟩:=info_parts infoI41
 obtain ⟨j0,hj0,hy0,hy1,hy2⟩:=info_parts infoB41
 have HI0:=Hd hi0
 have HZ0:=Hd hz0
 have HZ1:=Hd hz1
 have HZ2:=Hd hz2
 have HJ0:=Hd hj0
 have HY0:=Hd hy0
 have HY1:=Hd hy1
 have HY2:=Hd hy2
 have HOK:=Hd hok
 have HTM:=Hd (tgt_mem hok)
 obtain ⟨n,hn⟩:∃ n,l.length=n:=⟨_,rfl⟩
 have HNL:=Hd hn
 rw [hn] at hl ⊢
 have HLS:=Hd h
 obtain ⟨wb,hwb⟩:∃ wb,wb=w.alloc (.cells #[.int .i64 start,.slice a n c] 24):=⟨_,rfl⟩
 have HWB:=Hd hwb
 have RB:=Hd (show RowT 24 wb w.heap.size (codeC start n a c) by rw [hwb];exact RowT.new w 24 (codeC start n a c))
 have HB1:=Hd (show Below w.heap.size w wb by rw [hwb];exact belowBox w _)
 have HSZ:=Hd (show wb.heap.size=w.heap.size+1 by rw [hwb,World.size_alloc])
 have e1:=RB.out.cell (j:=1) (v:=.slice a n c) rfl
 rw [hwb] at e1
 clear h hok hn hi0 hz0 hz1 hz2 hj0 hy0 hy1 hy2
 go_enter Tryz.func7,Tryz.ntmps7
 go_wp2_with (refine wpList_make_full _ rfl _ _ 47 rfl (w.heap.size+1) 4 j0 (.bool false) 1 Tryz.underlying47 HJ0.out HY0.out HY1.out .i64 .i64 _ _ n rfl rfl rfl rfl (by rw [HY2.out];omega) (by unfold maxLen;omega) (by rw [World.size_alloc];exact Nat.le_refl _) ?_)
 intro w0 hown hgrow
 have HO0:=Hd (show w0.ownsRow (w.heap.size+1) 4 1 (.slice (some ⟨w.heap.size+1,0,none⟩) n n) n ((ledL n (l.take 0)).map Value.bool) by rw [List.take_zero,← made_false];simpa [Value.cells] using hown)
 have HB0:=Hd (show Below (w.heap.size+1) wb w0 by rw [hwb];exact Below.grown (Below.refl _ _) hgrow (by rw [World.size_alloc];exact Nat.le_refl _) (fun j hj=>by cases hj))
 clear hown hgrow e1 hwb
 go_wp2_with fail
 go_simp
 go_loopw [4] (fun t wr=>∃ k:Nat,t=.int .i64 k∧k≤n∧Hid (wr.ownsRow (w.heap.size+1) 4 1 (.slice (some ⟨w.heap.size+1,0,none⟩) n n) n ((ledL n (l.take k)).map Value.bool))∧Hid (Below (w.heap.size+1) wb wr)) (fun t _=>n-(intOf t).toNat)
 case atStart=>exact ⟨0,rfl,by omega,HO0,HB0⟩
 case round =>
  clear HO0 HB0
  obtain ⟨w1,rfl⟩:∃ w1,w1=wr:=⟨wr,rfl⟩
  obtain ⟨k,rfl,hk,HO1,HB1w⟩:=hrel
  have e1:=(RB.out.below HB1w.out (by omega)).cell (j:=1) (v:=.slice a n c) rfl
  by_cases hlt:k<n
  case neg =>
   have hke:l.take k=l:=by rw [show k=l.length by rw [HNL.out];omega,List.take_length]
   rw [hke] at HO1
   have HT0:=Hd (show outL l n=tgtR l by unfold tgtR outL;rw [HNL.out])
   clear hke
   go_wp2_with fail
   go_simp
   go_loopw [8,9] (fun u t wr=>∃ j:Nat,t=.int .i64 j∧j≤n∧Hid (wr.ownsRow w1.heap.size 3 1 u (outL l j).length ((outL l j).map (Value.int .i64)))∧Hid (Below w1.heap.size w1 wr)) (fun _ t _=>n-(intOf t).toNat)
   case atStart=>exact ⟨0,rfl,by omega,Hd (World.ownsRow_nil _ _ _ _),Hd (Below.refl _ _)⟩
   case round =>
    obtain ⟨w2,rfl⟩:∃ w2,w2=wr:=⟨wr,rfl⟩
    obtain ⟨j,rfl,hj,HO2,HB2⟩:=hrel
    by_cases hjn:j<n
    case neg =>
     obtain rfl:j=n:=by omega
     have HBZ:=Hd (show Below w.heap.size w w2 from (HB1.out.trans (HB1w.out.mono (by omega))).trans (HB2.out.mono (by have:=HB1w.out.size;have:=HSZ.out;omega)))
     rw [HT0.out] at HO2
     go_wp2_with fail
     go_ret
     rcases HO2.out.2 with ⟨hv,h0⟩ | ⟨g,cap,cur,hv,hg1,hg2,hg3,hg4,hg5,hg6⟩
     ·have hnil:tgtR l=[]:=List.eq_nil_of_length_eq_zero h0
      refine ⟨none,0,?_,.inl hnil,HBZ.out⟩
      rw [hnil]
      show Ending.returned u8=_
      rw [hv]
      rfl
     ·refine ⟨some ⟨g,0,none⟩,cap,?_,.inr ⟨g,0,rfl,(Array.getElem?_eq_some_iff.1 hg2).1,fun i hi=>?_⟩,HBZ.out⟩
      ·show Ending.returned u8=_
       rw [hv]
      ·have h1:=HO2.out.cells (g:=g) (by rw [hv];rfl) i _ (List.getElem?_eq_getElem hi)
       rw [add_zero] at h1
       rw [Nat.zero_add,h1,List.getElem?_eq_getElem hi]
    have hown1:=own_then' HO1.out HB2.out
    have hc:=hown1.cellAt j (by omega)
    rw [List.getElem?_map,List.getElem?_eq_getElem (by rw [ledL_len];exact hjn),Option.map_some] at hc
    have hel:(ledL n l)[j]'(by rw [ledL_len];exact hjn)=decide ((j:Int)∈tgtL l):=by unfold ledL;rw [List.getElem_map,List.getElem_range]
    rw [hel] at hc
    have HS:=Hd (outL_s l j)
    have HOL:=outL_len l j
    obtain ⟨b,hb⟩:∃ b,decide ((j:Int)∈tgtL l)=b:=⟨_,rfl⟩
    rw [hb] at hc HS
    clear hown1 hel hb
    cases b with
    | true =>
      have HS2:=Hd (show outL l (j+1)=outL l j++[(j:Int)] by rw [HS.out,if_pos rfl])
      go_wp2_with (first
       | (at_builtin;refine wpList_append_own _ rfl _ _ 27 rfl w1.heap.size 3 i0 (.int .i64 0) 1 8 Tryz.underlying27 HI0.out HZ0.out HZ1.out HZ2.out rfl (by decide) _ _ _ rfl (HO2.out.alloc _) ⟨w2.heap.size,0,none⟩ 1 1 [.int .i64 (j:Int)] rfl rfl (cell_one_new _ _ _) (fun x hx=>by simp at hx;rcases hx with rfl<;>rfl) (by unfold maxLen;omega) (by omega) (by simp only [World.size_alloc];have:=HB2.out.size;omega) ?_
          intro v' w3 hown' hgrow3 _
          have HB3:=Hd (show Below w1.heap.size w1 w3 from Below.grown (HB2.out.alloc HB2.out.size _) hgrow3 (by simp only [World.size_alloc];have:=HB2.out.size;omega) (fun q hq=>by have:=(HO2.out.lt _ hq).1;omega))
          have HO3:=Hd (show w3.ownsRow w1.heap.size 3 1 v' (outL l (j+1)).length ((outL l (j+1)).map (Value.int .i64)) by rw [HS2.out,List.length_append,List.map_append];exact hown')
          clear hown' hgrow3))
      go_roundw
      case rel=>exact ⟨j+1,by go_num,by omega,HO3,HB3⟩
      case measure=>simp [intOf];omega
    | false =>
      have HO3:=Hd (show w2.ownsRow w1.heap.size 3 1 u8 (outL l (j+1)).length ((outL l (j+1)).map (Value.int .i64)) by rw [HS.out,if_neg (by decide),List.append_nil];exact HO2.out)
      go_wp2_with fail
      go_roundw
      case rel=>exact ⟨j+1,by go_num,by omega,HO3,HB2⟩
      case measure=>simp [intOf];omega
  have hlt2:k<l.length:=by rw [HNL.out];exact hlt
  obtain ⟨g,oo,rfl,hgb,cs,g1,g2⟩:=HLS.out.get hlt2
  have HXO:=Hd (HOK.out l[k] (List.getElem_mem hlt2))
  have HTS:=Hd (tgtL_s hlt2)
  obtain ⟨x,hx⟩:∃ x,l[k]=x:=⟨_,rfl⟩
  rw [hx] at g2 HXO HTS
  have hh0:Below w.heap.size w w1:=HB1.out.trans (HB1w.out.mono (by omega))
  have hrow:=g1.below hh0 hgb
  obtain ⟨vs,hh⟩:=g2.has
  obtain ⟨o,ho⟩:∃ o,x.op=o:=⟨_,rfl⟩
  obtain ⟨xa,hxa⟩:∃ xa,x.a=xa:=⟨_,rfl⟩
  have f0:=hrow.get0' hh.op
  have f1:=hrow 1 (by rw [g2.len];omega)
  rw [hh.a,hxa] at f1
  rw [ho] at f0
  have H30:=Hd (show ¬ (o<1∨30<o) by have:=HXO.out.op;omega)
  rw [hxa] at HTS
  obtain ⟨ua,hua⟩:∃ ua,useA o=ua:=⟨_,rfl⟩
  obtain ⟨ra,hra⟩:∃ ra,refA o=ra:=⟨_,rfl⟩
  have HUA:=Hd hra
  have HRA:=Hd (refA2 o)
  rw [hra,hua] at HRA
  have HIS:=Hd (show isT x=(ua==2 || (ua==3&&xa != -1)) by unfold isT;rw [ho,hua,hxa])
  have HAD:=Hd (show ua=2→0≤xa∧xa<n from fun e=>by have:=HXO.out.addr (by rw [ho,hua];exact e);rw [hxa,HNL.out] at this;exact this)
  have HAC:=Hd (show ua=3→-1≤xa∧xa<n from fun e=>by have:=HXO.out.call (by rw [ho,hua];exact e);rw [hxa,HNL.out] at this;exact this)
  clear g1 g2 hh hh0 hx ho hxa hlt2 hrow hua hra
  go_wp2_with fail
  refine (fields_ref o w1 H30.out).mono ?_
  rw [HUA.out]
  rintro e w' ⟨rfl,hww⟩
  replace hww:=hww.symm
  subst hww
  by_cases hT:isT x=true
  ·have HT2:=Hd (show tgtL (l.take (k+1))=tgtL (l.take k)++[xa] by rw [HTS.out,if_pos hT])
   rw [HIS.out] at hT
   simp only [Bool.or_eq_true,Bool.and_eq_true,beq_iff_eq,bne_iff_ne] at hT
   have hxr:0≤xa∧xa<n:=by
    rcases hT with h2 | ⟨h3,h4⟩
    ·exact HAD.out h2
    ·have:=HAC.out h3;omega
   obtain ⟨p,rfl⟩:=Int.eq_ofNat_of_zero_le hxr.1
   have hpn:p<n:=by omega
   have hown:=HO1.out
   have hc:=hown.cellAt p (by omega)
   have hf:=hown.frozenAt p
   have hst:=hown.stored p (.bool true)
   rw [List.getElem?_map,List.getElem?_eq_getElem (by rw [ledL_len];exact hpn),Option.map_some] at hc
   have HN:=Hd (show (w1.setCell ⟨w.heap.size+1,p,none⟩ (.bool true)).ownsRow (w.heap.size+1) 4 1 (.slice (some ⟨w.heap.size+1,0,none⟩) n n) n ((ledL n (l.take (k+1))).map Value.bool) by
    have h5:=hst.1
    rw [← ledL_set HT2.out,List.map_set]
    exact h5)
   have HB2:=Hd (show Below (w.heap.size+1) wb (w1.setCell ⟨w.heap.size+1,p,none⟩ (.bool true)) from Below.grown HB1w.out hst.2 (by have:=HB1w.out.size;have:=HSZ.out;omega) (fun j hj=>by cases hj;exact Nat.le_refl _))
   clear hst hown hxr
   rcases hT with h2 | ⟨h3,h4⟩
   ·have t1:(ra==2)=true:=by have:=HRA.out.1.2 h2;simpa using this
    clear h2
    go_wp2_with fail
    go_roundw
    case rel=>exact ⟨k+1,by go_num,by omega,HN,HB2⟩
    case measure=>simp [intOf];omega
   ·have hr3:=HRA.out.2.2 h3
    have t1:(ra==2)=false:=by simp [hr3]
    have t2:(ra==3)=true:=by simpa using hr3
    have t4:(0:Int)≤(p:Int):=by omega
    clear h3 h4 hr3
    go_wp2_with fail
    go_roundw
    case rel=>exact ⟨k+1,by go_num,by omega,HN,HB2⟩
    case measure=>simp [intOf];omega
  ·have HO3:=Hd (show w1.ownsRow (w.heap.size+1) 4 1 (.slice (some ⟨w.heap.size+1,0,none⟩) n n) n ((ledL n (l.take (k+1))).map Value.bool) by
    have e:ledL n (l.take (k+1))=ledL n (l.take k):=by unfold ledL;rw [HTS.out,if_neg hT,List.append_nil]
    rw [e];exact HO1.out)
   rw [HIS.out] at hT
   by_cases h3:ua=3
   ·have hr3:=HRA.out.2.2 h3
    have t1:(ra==2)=false:=by simp [hr3]
    have t2:(ra==3)=true:=by simpa using hr3
    have t4:¬ (0:Int)≤xa:=by
     have h1:(ua==2)=false:=by simp [h3]
     have h2:(ua==3)=true:=by simpa using h3
     rw [h1,h2] at hT
     have:xa=-1:=by simpa using hT
     omega
    clear h3 hT hr3
    go_wp2_with fail
    go_roundw
    case rel=>exact ⟨k+1,by go_num,by omega,HO3,HB1w⟩
    case measure=>simp [intOf];omega
   ·have hu2:ua≠2:=fun e=>hT (by simp [e])
    have t1:(ra==2)=false:=by have:ra≠2:=fun e=>hu2 (HRA.out.1.1 e);simpa using this
    have t2:(ra==3)=false:=by have:ra≠3:=fun e=>h3 (HRA.out.2.1 e);simpa using this
    clear h3 hT hu2
    go_wp2_with fail
    go_roundw
    case rel=>exact ⟨k+1,by go_num,by omega,HO3,HB1w⟩
    case measure=>simp [intOf];omega
end Go.Proofs.YtniljgkkcnekgaaGreatDoor
