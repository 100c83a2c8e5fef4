/- decimal.Text: the text of a negative decimal (printed by gennum41.py). -/
import Derived.Test.YtniljgkkcnekgaaGreatDoorProg
import Derived.Test.YtniljgkkcnekgaaGreatDoorGA
import Derived.Test.YtniljgkkcnekgaaGreatDoorGB
import Derived.Test.YtniljgkkcnekgaaGreatDoorGF
import Derived.Test.YtniljgkkcnekgaaGreatDoorGD
import Derived.Test.YtniljgkkcnekgaaGreatDoorGC
import Derived.Test.YtniljgkkcnekgaaGreatDoorGK
import Derived.Test.YtniljgkkcnekgaaGreatDoorGZ
import Derived.Test.YtniljgkkcnekgaaGreatDoorGR
import Derived.Test.YtniljgkkcnekgaaGreatDoorNum36
namespace Go.Proofs.YtniljgkkcnekgaaGreatDoor
open Go.RowKit
set_option maxRecDepth 100000 in
set_option maxHeartbeats 12800000 in
theorem dtext_neg (ds:ByteArray) (ex:Int) (hv:VDec ⟨true,ds,ex⟩) (w:World):Calls Tryz.prog 87 #[.agg #[.bool true,.string ds,.int .i64 ex]] w (StrB (numT ⟨true,ds,ex⟩) w):=by
 have hvd:=Hd (show vdecB ⟨true,ds,ex⟩=true from (vdecB_iff _).2 hv)
 rcases hv with ⟨_,hng,_⟩ | ⟨hp,h120,_,_,_,he1,he2⟩
 ·cases (show true=false from hng)
 replace hp:0<ds.size:=hp
 replace h120:ds.size≤120:=h120
 replace he1:-400≤ex:=he1
 replace he2:ex≤400:=he2
 have hd:¬ ds.toList=[]:=ne_toList hp
 have hd1:(ds.toList==[])=false:=by simp [hd]
 have hd2:ds.toList.isEmpty=false:=by simp [hd]
 have ZC:=Hd (show ∀ (k:Int) (m:Nat),k=m→m≤400→∀ u:World,Calls Tryz.prog 113 #[.string ⟨#[48]⟩,.int .i64 k] u (NouR m u) from fun (k:Int) (m:Nat) (h:k=m) (hm:m≤400) (u:World)=>by rw [h];exact rep_ex m u hm)
 obtain ⟨p,hpp⟩:∃ p:Int,(ds.size:Int)+ex=p:=⟨_,rfl⟩
 have HPP:=Hd hpp
 have hp1:-520≤p∧p≤520:=by omega
 have HN:=Hd (show numT ⟨true,ds,ex⟩=if 0≤ex∧p≤21 then ⟨#[45]⟩++ds++zerosS ex.toNat else if ex<0∧1≤p∧p≤21 then ⟨#[45]⟩++ds.extract 0 p.toNat++⟨#[46]⟩++ds.extract p.toNat ds.size else if -5≤p∧p≤0 then ⟨#[45]⟩++⟨#[48,46]⟩++zerosS (-p).toNat++ds else (if ds.size > 1 then ⟨#[45]⟩++ds.extract 0 1++(⟨#[46]⟩++ds.extract 1 ds.size) else ⟨#[45]⟩++ds.extract 0 1)++(if p<1 then ⟨#[101,45]⟩++wholeS (1-p).toNat else ⟨#[101]⟩++wholeS (p-1).toNat) by
  unfold numT
  rw [if_neg (show ¬ ds.size=0 by omega)]
  show (if 0≤ex∧(ds.size:Int)+ex≤21 then _ else _)=_
  rw [← hpp]
  rfl)
 have HC0:=Hd (show ([Value.bool true,.string ds,.int .i64 ex]:List Value)[0]?=some (.bool true) from rfl)
 have HC1:=Hd (show ([Value.bool true,.string ds,.int .i64 ex]:List Value)[1]?=some (.string ds) from rfl)
 have HC2:=Hd (show ([Value.bool true,.string ds,.int .i64 ex]:List Value)[2]?=some (.int .i64 ex) from rfl)
 obtain ⟨w2,hw2⟩:∃ w2,w2=w.alloc (.cells ([Value.bool true,.string ds,.int .i64 ex]:List Value).toArray 32):=⟨_,rfl⟩
 have HW:=Hd hw2
 have RU:=Hd (show RowT 32 w2 w.heap.size [.bool true,.string ds,.int .i64 ex] by rw [hw2];exact RowT.new w 32 _)
 have HB:=Hd (show Below w.heap.size w w2 by rw [hw2];exact belowBox w _)
 have e1:=RU.out.cell HC1.out
 rw [hw2] at e1
 clear hpp hw2
 go_enter Tryz.func87,Tryz.ntmps87
 go_wp2_with fail
 rw [← HW.out]
 refine (decv_exact ⟨true,ds,ex⟩ _ (by unfold maxLen;show ds.size≤_;omega)).mono ?_
 rw [hvd.out]
 rintro e w3 ⟨rfl,hb2⟩
 replace RU:=Hd (RU.out.then hb2)
 replace HB:=Hd (belowThen HB.out hb2)
 clear hb2 HW e1
 obtain ⟨w2,rfl⟩:∃ w2,w2=w3:=⟨w3,rfl⟩
 have e0:=RU.out.cell HC0.out
 have e1:=RU.out.cell HC1.out
 have e2:=RU.out.cell HC2.out
 by_cases hB:0≤ex∧p≤21
 ·have HR:=Hd (HN.out.trans (if_pos hB))
  obtain ⟨b1,b2⟩:=hB
  obtain ⟨m,hm⟩:∃ m,ex.toNat=m:=⟨_,rfl⟩
  have HK:=Hd (show ex=(m:Int) by omega)
  have HM:=Hd hm
  have hm4:m≤400:=by omega
  have hz:=zeros_size m
  have hz4:(zerosS m).size≤400:=by omega
  have q1:(⟨#[45]⟩:ByteArray).size+ds.size≤9223372036854775807:=by simp only [szl,List.size_toArray,List.length_cons,List.length_nil];omega
  have q2:(⟨#[45]⟩++ds:ByteArray).size+(zerosS m).size≤9223372036854775807:=by rw [ByteArray.size_append];simp only [szl,List.size_toArray,List.length_cons,List.length_nil];omega
  have HPP2:=HPP.out
  clear hm hz
  go_wp2_with fail
  skip
  clear HPP2
  refine wp_region_held_drew (S:=fun u=>Below w2.heap.size w2 u) (by kernel_rfl) (drewU w2) (fun hHeld=>?_)
  refine' tk 0 (.string ⟨#[45]⟩) rfl rfl (.inl ⟨by rfl,fun u hu=>(by go_simp)⟩) hHeld ?_
  simp only [sq1,sq0]
  refine' tk 1 (.pointer (some ⟨w.heap.size,1,none⟩)) rfl rfl (.inl ⟨by rfl,fun u hu=>(by go_simp)⟩) hHeld ?_
  simp only [sq1,sq0]
  refine' tk 2 (.string ds) rfl rfl (.inl ⟨by rfl,fun u hu=>(by have hc:=(RU.out.then hu).cell HC1.out;go_simp)⟩) hHeld ?_
  simp only [sq1,sq0]
  refine' tk 3 (.string (⟨#[45]⟩++ds)) rfl rfl (.inl ⟨by rfl,fun u hu=>(by go_simp;all_goals omega)⟩) hHeld ?_
  simp only [sq1,sq0]
  refine' tk 4 (.pointer (some ⟨w.heap.size,2,none⟩)) rfl rfl (.inl ⟨by rfl,fun u hu=>(by go_simp)⟩) hHeld ?_
  simp only [sq1,sq0]
  refine' tk 5 (.int .i64 ex) rfl rfl (.inl ⟨by rfl,fun u hu=>(by have hc:=(RU.out.then hu).cell HC2.out;go_simp)⟩) hHeld ?_
  simp only [sq1,sq0]
  refine rd1 6 rfl (fun K hK=>?_)
  go_simp
  refine (ZC.out ex m HK.out (by omega) _).mono ?_
  rintro e uC1 ⟨rfl,hbC⟩
  refine hK.out _ _ (belowThen hHeld hbC) (fun hHeld1=>?_)
  clear hK K hbC hHeld
  have hHeld:=hHeld1
  clear hHeld1
  refine' tk 7 (.string ((⟨#[45]⟩++ds)++(zerosS m))) rfl rfl (.inl ⟨by rfl,fun u hu=>(by go_simp;all_goals omega)⟩) hHeld ?_
  simp only [sq1,sq0]
  refine rd1 8 rfl (fun K hK=>?_)
  go_simp
  refine hK.out _ _ hHeld (fun hHeldx=>?_)
  clear hK K hHeldx
  refine wpAnyH_done (by kernel_rfl) ?_ _
  go_wp2_with fail
  go_ret
  exact ⟨by rw [HR.out,HM.out];rfl,belowThen HB.out hHeld⟩
 by_cases hC:ex<0∧1≤p∧p≤21
 ·have HR:=Hd ((HN.out.trans (if_neg hB)).trans (if_pos hC))
  obtain ⟨c1,c2,c3⟩:=hC
  obtain ⟨m,rfl⟩:=Int.eq_ofNat_of_zero_le (show 0≤p by omega)
  have HM:=Hd (show ((m:Int)).toNat=m by omega)
  have hmn:m≤ds.size:=by have:=HPP.out;omega
  have hmi:(m:Int)≤ds.size:=by omega
  have hnex:¬ 0≤ex:=by omega
  have z1:(ds.extract 0 m).size≤120:=Nat.le_trans (ext_size ds 0 m) h120
  have z2:(ds.extract m ds.size).size≤120:=Nat.le_trans (ext_size ds m ds.size) h120
  have q1:(⟨#[45]⟩:ByteArray).size+(ds.extract 0 m).size≤9223372036854775807:=by simp only [szl,List.size_toArray,List.length_cons,List.length_nil];omega
  have q2:(⟨#[45]⟩++ds.extract 0 m:ByteArray).size+(⟨#[46]⟩:ByteArray).size≤9223372036854775807:=by (repeat rw [ByteArray.size_append]);simp only [szl,List.size_toArray,List.length_cons,List.length_nil];omega
  have q3:(⟨#[45]⟩++ds.extract 0 m++⟨#[46]⟩:ByteArray).size+(ds.extract m ds.size).size≤9223372036854775807:=by (repeat rw [ByteArray.size_append]);simp only [szl,List.size_toArray,List.length_cons,List.length_nil];omega
  have HPP2:=HPP.out
  clear hB z1 z2
  go_wp2_with fail
  skip
  go_quiet (fail)
  go_wp2_with fail
  go_ret
  exact ⟨by rw [HR.out,HM.out];rfl,belowDrewN HB.out _⟩
 by_cases hD:-5≤p∧p≤0
 ·have HR:=Hd (((HN.out.trans (if_neg hB)).trans (if_neg hC)).trans (if_pos hD))
  obtain ⟨d1,d2⟩:=hD
  obtain ⟨m,hm⟩:∃ m,(-p).toNat=m:=⟨_,rfl⟩
  have HK:=Hd (show -p=(m:Int) by omega)
  have HM:=Hd hm
  have hm4:m≤400:=by omega
  have hex:ex<0:=by have:=HPP.out;omega
  have hnex:¬ 0≤ex:=by omega
  have hz:=zeros_size m
  have hz4:(zerosS m).size≤400:=by omega
  have q1:(⟨#[45]⟩:ByteArray).size+(⟨#[48,46]⟩:ByteArray).size≤9223372036854775807:=by decide
  have q2:(⟨#[45]⟩++⟨#[48,46]⟩:ByteArray).size+(zerosS m).size≤9223372036854775807:=by (repeat rw [ByteArray.size_append]);simp only [szl,List.size_toArray,List.length_cons,List.length_nil];omega
  have q3:(⟨#[45]⟩++⟨#[48,46]⟩++zerosS m:ByteArray).size+ds.size≤9223372036854775807:=by (repeat rw [ByteArray.size_append]);simp only [szl,List.size_toArray,List.length_cons,List.length_nil];omega
  have HPP2:=HPP.out
  clear hm hz hB hC
  go_wp2_with fail
  skip
  clear HPP2
  refine wp_region_held_drew (S:=fun u=>Below w2.heap.size w2 u) (by kernel_rfl) (drewU w2) (fun hHeld=>?_)
  refine' tk 0 (.string ⟨#[45]⟩) rfl rfl (.inl ⟨by rfl,fun u hu=>(by go_simp)⟩) hHeld ?_
  simp only [sq1,sq0]
  refine' tk 1 (.string (⟨#[45]⟩++⟨#[48,46]⟩)) rfl rfl (.inl ⟨by rfl,fun u hu=>(by go_simp;all_goals omega)⟩) hHeld ?_
  simp only [sq1,sq0]
  refine' tk 2 (.int .i64 p) rfl rfl (.inl ⟨by rfl,fun u hu=>(by go_simp)⟩) hHeld ?_
  simp only [sq1,sq0]
  refine' tk 3 (.int .i64 (-p)) rfl rfl (.inl ⟨by rfl,fun u hu=>(by go_simp;all_goals (first | omega | (rw [IntKind.wrap_i64];omega)))⟩) hHeld ?_
  simp only [sq1,sq0]
  refine' tk 6 (.pointer (some ⟨w.heap.size,1,none⟩)) rfl rfl (.inl ⟨by rfl,fun u hu=>(by go_simp)⟩) hHeld ?_
  simp only [sq1,sq0]
  refine' tk 7 (.string ds) rfl rfl (.inl ⟨by rfl,fun u hu=>(by have hc:=(RU.out.then hu).cell HC1.out;go_simp)⟩) hHeld ?_
  simp only [sq1,sq0]
  refine rd1 4 rfl (fun K hK=>?_)
  go_simp
  refine (ZC.out (-p) m HK.out (by omega) _).mono ?_
  rintro e uC1 ⟨rfl,hbC⟩
  refine hK.out _ _ (belowThen hHeld hbC) (fun hHeld1=>?_)
  clear hK K hbC hHeld
  have hHeld:=hHeld1
  clear hHeld1
  refine' tk 5 (.string ((⟨#[45]⟩++⟨#[48,46]⟩)++(zerosS m))) rfl rfl (.inl ⟨by rfl,fun u hu=>(by go_simp;all_goals omega)⟩) hHeld ?_
  simp only [sq1,sq0]
  refine' tk 8 (.string (((⟨#[45]⟩++⟨#[48,46]⟩)++(zerosS m))++ds)) rfl rfl (.inl ⟨by rfl,fun u hu=>(by go_simp;all_goals omega)⟩) hHeld ?_
  simp only [sq1,sq0]
  refine rd1 9 rfl (fun K hK=>?_)
  go_simp
  refine hK.out _ _ hHeld (fun hHeldx=>?_)
  clear hK K hHeldx
  refine wpAnyH_done (by kernel_rfl) ?_ _
  go_wp2_with fail
  go_ret
  exact ⟨by rw [HR.out,HM.out];rfl,belowThen HB.out hHeld⟩
 have HN2:=Hd (((HN.out.trans (if_neg hB)).trans (if_neg hC)).trans (if_neg hD))
 have hcl:(p < -5∧ex<0)∨(21<p∧0≤ex)∨(21<p∧ex<0):=by omega
 have x1:(ds.extract 0 1).size≤120:=Nat.le_trans (ext_size ds 0 1) h120
 have x2:(ds.extract 1 ds.size).size≤120:=Nat.le_trans (ext_size ds 1 ds.size) h120
 clear hB hC hD
 rcases hcl with ⟨g1,g2⟩ | ⟨g1,g2⟩ | ⟨g1,g2⟩
 ·have hx0:¬ 0≤ex:=by omega
  by_cases hbig:1<ds.size
  ·have HR:=Hd (show numT ⟨true,ds,ex⟩=(⟨#[45]⟩++ds.extract 0 1++(⟨#[46]⟩++ds.extract 1 ds.size))++(⟨#[101,45]⟩++wholeS (1-p).toNat) by rw [HN2.out,if_pos hbig,if_pos (show p<1 by omega)])
   obtain ⟨m,hm⟩:∃ m,(1-p).toNat=m:=⟨_,rfl⟩
   have HM:=Hd hm
   have HK:=Hd (show 1-p=(m:Int) by omega)
   have hm4:m<1000000000000000000:=by omega
   have hws:=wholeS_size m (by omega)
   have hbi:(1:Int)<ds.size:=by omega
   clear hm
   have HPP2:=HPP.out
   have HK2:=HK.out
   go_wp2_with fail
   refine (whole_p m hm4 _).mono ?_
   rintro e w3 ⟨rfl,hb3⟩
   have HB3:=Hd (belowThen HB.out hb3)
   clear hb3
   go_wp2_with fail
   go_ret
   exact ⟨show Ending.returned (.string (⟨#[45]⟩++ds.extract 0 1++(⟨#[46]⟩++ds.extract 1 ds.size)++⟨#[101,45]⟩++wholeS m))=_ by rw [HR.out,HM.out,ByteArray.append_assoc],HB3.out⟩
  ·have HR:=Hd (show numT ⟨true,ds,ex⟩=(⟨#[45]⟩++ds.extract 0 1)++(⟨#[101,45]⟩++wholeS (1-p).toNat) by rw [HN2.out,if_neg hbig,if_pos (show p<1 by omega)])
   obtain ⟨m,hm⟩:∃ m,(1-p).toNat=m:=⟨_,rfl⟩
   have HM:=Hd hm
   have HK:=Hd (show 1-p=(m:Int) by omega)
   have hm4:m<1000000000000000000:=by omega
   have hws:=wholeS_size m (by omega)
   have hbi:¬ (1:Int)<ds.size:=by omega
   clear hm
   have HPP2:=HPP.out
   have HK2:=HK.out
   go_wp2_with fail
   refine (whole_p m hm4 _).mono ?_
   rintro e w3 ⟨rfl,hb3⟩
   have HB3:=Hd (belowThen HB.out hb3)
   clear hb3
   go_wp2_with fail
   go_ret
   exact ⟨show Ending.returned (.string (⟨#[45]⟩++ds.extract 0 1++⟨#[101,45]⟩++wholeS m))=_ by rw [HR.out,HM.out,ByteArray.append_assoc],HB3.out⟩
 ·have hx0:¬ ex<0:=by omega
  by_cases hbig:1<ds.size
  ·have HR:=Hd (show numT ⟨true,ds,ex⟩=(⟨#[45]⟩++ds.extract 0 1++(⟨#[46]⟩++ds.extract 1 ds.size))++(⟨#[101]⟩++wholeS (p-1).toNat) by rw [HN2.out,if_pos hbig,if_neg (show ¬ p<1 by omega)])
   obtain ⟨m,hm⟩:∃ m,(p-1).toNat=m:=⟨_,rfl⟩
   have HM:=Hd hm
   have HK:=Hd (show p-1=(m:Int) by omega)
   have hm4:m<1000000000000000000:=by omega
   have hws:=wholeS_size m (by omega)
   have hbi:(1:Int)<ds.size:=by omega
   clear hm
   have HPP2:=HPP.out
   have HK2:=HK.out
   go_wp2_with fail
   refine (whole_p m hm4 _).mono ?_
   rintro e w3 ⟨rfl,hb3⟩
   have HB3:=Hd (belowThen HB.out hb3)
   clear hb3
   go_wp2_with fail
   go_ret
   exact ⟨show Ending.returned (.string (⟨#[45]⟩++ds.extract 0 1++(⟨#[46]⟩++ds.extract 1 ds.size)++⟨#[101]⟩++wholeS m))=_ by rw [HR.out,HM.out,ByteArray.append_assoc],HB3.out⟩
  ·have HR:=Hd (show numT ⟨true,ds,ex⟩=(⟨#[45]⟩++ds.extract 0 1)++(⟨#[101]⟩++wholeS (p-1).toNat) by rw [HN2.out,if_neg hbig,if_neg (show ¬ p<1 by omega)])
   obtain ⟨m,hm⟩:∃ m,(p-1).toNat=m:=⟨_,rfl⟩
   have HM:=Hd hm
   have HK:=Hd (show p-1=(m:Int) by omega)
   have hm4:m<1000000000000000000:=by omega
   have hws:=wholeS_size m (by omega)
   have hbi:¬ (1:Int)<ds.size:=by omega
   clear hm
   have HPP2:=HPP.out
   have HK2:=HK.out
   go_wp2_with fail
   refine (whole_p m hm4 _).mono ?_
   rintro e w3 ⟨rfl,hb3⟩
   have HB3:=Hd (belowThen HB.out hb3)
   clear hb3
   go_wp2_with fail
   go_ret
   exact ⟨show Ending.returned (.string (⟨#[45]⟩++ds.extract 0 1++⟨#[101]⟩++wholeS m))=_ by rw [HR.out,HM.out,ByteArray.append_assoc],HB3.out⟩
 ·have hx0:¬ 0≤ex:=by omega
  by_cases hbig:1<ds.size
  ·have HR:=Hd (show numT ⟨true,ds,ex⟩=(⟨#[45]⟩++ds.extract 0 1++(⟨#[46]⟩++ds.extract 1 ds.size))++(⟨#[101]⟩++wholeS (p-1).toNat) by rw [HN2.out,if_pos hbig,if_neg (show ¬ p<1 by omega)])
   obtain ⟨m,hm⟩:∃ m,(p-1).toNat=m:=⟨_,rfl⟩
   have HM:=Hd hm
   have HK:=Hd (show p-1=(m:Int) by omega)
   have hm4:m<1000000000000000000:=by omega
   have hws:=wholeS_size m (by omega)
   have hbi:(1:Int)<ds.size:=by omega
   clear hm
   have HPP2:=HPP.out
   have HK2:=HK.out
   go_wp2_with fail
   refine (whole_p m hm4 _).mono ?_
   rintro e w3 ⟨rfl,hb3⟩
   have HB3:=Hd (belowThen HB.out hb3)
   clear hb3
   go_wp2_with fail
   go_ret
   exact ⟨show Ending.returned (.string (⟨#[45]⟩++ds.extract 0 1++(⟨#[46]⟩++ds.extract 1 ds.size)++⟨#[101]⟩++wholeS m))=_ by rw [HR.out,HM.out,ByteArray.append_assoc],HB3.out⟩
  ·exact absurd HPP.out (by omega)
end Go.Proofs.YtniljgkkcnekgaaGreatDoor
