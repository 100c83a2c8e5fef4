/- The walks of differences and products of decimals: Sub, Mul of both sides. -/
import Derived.Test.YtmjfggadehkbjaaGreatDoorProg
import Derived.Test.YtmjfggadehkbjaaGreatDoorGA
import Derived.Test.YtmjfggadehkbjaaGreatDoorGC
import Derived.Test.YtmjfggadehkbjaaGreatDoorGD
import Derived.Test.YtmjfggadehkbjaaGreatDoorRow36
import Derived.Test.YtmjfggadehkbjaaGreatDoorXA
import Derived.Test.YtmjfggadehkbjaaGreatDoorXK
import Derived.Test.YtmjfggadehkbjaaGreatDoorAA
import Derived.Test.YtmjfggadehkbjaaGreatDoorAC
import Derived.Test.YtmjfggadehkbjaaGreatDoorAB
import Derived.Test.YtmjfggadehkbjaaGreatDoorAra08
namespace Go.Proofs.YtmjfggadehkbjaaGreatDoor
open Go.RowKit
set_option maxRecDepth 100000 in
set_option maxHeartbeats 6400000 in
theorem sub_p (a b:DecD) (w:World) (ha:VDec a) (hb:VDec b) :
 Calls Tryz.prog 27 #[.agg #[.bool a.neg,.string a.digits,.int .i64 a.exp],.agg #[.bool b.neg,.string b.digits,.int .i64 b.exp]] w (DecV (subD a b) w):=by
 have HVA:=Hd ha
 have HVB:=Hd (vdec_neg hb)
 clear ha hb
 obtain ⟨r,hr⟩:∃ r,r=addD a (negD b):=⟨_,rfl⟩
 have HR:=Hd hr
 clear hr
 obtain ⟨⟨rn,rd,re⟩,rk⟩:=r
 have HQ:=Hd (show subD a b=((⟨rn,rd,re⟩,rk):DecD×Int) from HR.out.symm)
 have hT:=Hd (tdec w a b [.bool false,.string ⟨#[]⟩,.int .i64 0])
 have ca0:=hT.out.one.cell (j:=0) (v:=.bool a.neg) rfl
 have ca1:=hT.out.one.cell (j:=1) (v:=.string a.digits) rfl
 have ca2:=hT.out.one.cell (j:=2) (v:=.int .i64 a.exp) rfl
 have cb0:=hT.out.two.cell (j:=0) (v:=.bool b.neg) rfl
 have cb1:=hT.out.two.cell (j:=1) (v:=.string b.digits) rfl
 have cb2:=hT.out.two.cell (j:=2) (v:=.int .i64 b.exp) rfl
 go_enter Tryz.func27,Tryz.ntmps27
 go_wp2_with fail
 refine wp_region_held_drew (S:=fun u=>∃ zc,Tdec w u a b zc) (by kernel_rfl) ⟨_,hT.out.drew⟩ (fun hHeld=>?_)
 have hT1:=Hd hT.out.drew
 clear hT ca0 ca1 ca2 cb0 cb1 cb2
 have hT:=hT1
 clear hT1
 refine' tk 0 (.agg #[.bool a.neg,.string a.digits,.int .i64 a.exp]) rfl rfl (.inl ⟨by rfl,fun u hu=>(by obtain ⟨_,T⟩:=hu;have h0:=T.one.cell (j:=0) (v:=.bool a.neg) rfl;have h1:=T.one.cell (j:=1) (v:=.string a.digits) rfl;have h2:=T.one.cell (j:=2) (v:=.int .i64 a.exp) rfl;go_simp)⟩) hHeld ?_
 simp only [sq1,sq0]
 refine' tk 1 (.agg #[.bool b.neg,.string b.digits,.int .i64 b.exp]) rfl rfl (.inl ⟨by rfl,fun u hu=>(by obtain ⟨_,T⟩:=hu;have h0:=T.two.cell (j:=0) (v:=.bool b.neg) rfl;have h1:=T.two.cell (j:=1) (v:=.string b.digits) rfl;have h2:=T.two.cell (j:=2) (v:=.int .i64 b.exp) rfl;go_simp)⟩) hHeld ?_
 simp only [sq1,sq0]
 refine rd1 2 rfl (fun K hK=>?_)
 rw [if_pos (by rfl)]
 go_simp
 refine (neg_p b _).mono ?_
 rintro e u1w ⟨rfl,hbC⟩
 have hT1:=Hd (hT.out.later hbC)
 refine hK.out _ _ ⟨_,hT1.out⟩ (fun hHeldx=>?_)
 clear hK K hHeld hbC hT
 have hT:=hT1
 have hHeld:=hHeldx
 clear hT1 hHeldx
 refine rd1 3 rfl (fun K hK=>?_)
 rw [if_pos (by rfl)]
 go_simp
 refine (add_p a (negD b) _ HVA.out HVB.out).mono ?_
 rintro e u2w ⟨rfl,hbC⟩
 rw [← HR.out]
 have hT1:=Hd (hT.out.later hbC)
 refine hK.out _ _ ⟨_,hT1.out⟩ (fun hHeldx=>?_)
 clear hK K hHeld hbC hT
 have hT:=hT1
 have hHeld:=hHeldx
 clear hT1 hHeldx
 refine' tk 4 (.agg #[.bool rn,.string rd,.int .i64 re]) rfl rfl (.inl ⟨by rfl,fun u hu=>(by go_simp)⟩) hHeld ?_
 simp only [sq1,sq0]
 refine' tk 5 (.int .i64 rk) rfl rfl (.inl ⟨by rfl,fun u hu=>(by go_simp)⟩) hHeld ?_
 simp only [sq1,sq0]
 refine rd1 6 rfl (fun K hK=>?_)
 rw [if_pos (by rfl)]
 refine wp_store_atL rfl 23 _ _ rfl (w.heap.size+1+1) 0 [.bool rn,.string rd,.int .i64 re] rfl rfl 23 _ [.bool rn,.string rd,.int .i64 re] hT.out.res sizeDECl rfl (Nat.le_refl 3) (dec_one _ _ _) ?_
 refine hK.out _ _ ⟨_,hT.out.put [.bool rn,.string rd,.int .i64 re]⟩ (fun hHeldx=>?_)
 clear hK K hHeld
 have hHeld:=hHeldx
 clear hHeldx
 refine rd1 7 rfl (fun K hK=>?_)
 rw [if_pos (by rfl)]
 go_simp
 refine hK.out _ _ hHeld (fun hHeldx=>?_)
 clear hK K hHeldx
 refine wpAnyH_done (by kernel_rfl) ?_ _
 clear hHeld
 go_wp2_with fail
 refine bodyPost_ret (results_cell_row2 rfl _ _ (w.heap.size+1+1) 23 _ (0,0) _ rfl (hT.out.put [.bool rn,.string rd,.int .i64 re]).res Tryz.underlying23 rfl sizeDEC) rfl ?_
 exact ⟨by rw [HQ.out];try rfl,(hT.out.put [.bool rn,.string rd,.int .i64 re]).below⟩
set_option maxRecDepth 100000 in
set_option maxHeartbeats 6400000 in
theorem sub_r (a b:DecD) (w:World) (ha:VDec a) (hb:VDec b) :
 Calls Tryz.prog 75 #[.agg #[.bool a.neg,.string a.digits,.int .i64 a.exp],.agg #[.bool b.neg,.string b.digits,.int .i64 b.exp]] w (DecV (subD a b) w):=by
 have HVA:=Hd ha
 have HVB:=Hd (vdec_neg hb)
 clear ha hb
 obtain ⟨r,hr⟩:∃ r,r=addD a (negD b):=⟨_,rfl⟩
 have HR:=Hd hr
 clear hr
 obtain ⟨⟨rn,rd,re⟩,rk⟩:=r
 have HQ:=Hd (show subD a b=((⟨rn,rd,re⟩,rk):DecD×Int) from HR.out.symm)
 have hT:=Hd (tdec w a b [.bool false,.string ⟨#[]⟩,.int .i64 0])
 have ca0:=hT.out.one.cell (j:=0) (v:=.bool a.neg) rfl
 have ca1:=hT.out.one.cell (j:=1) (v:=.string a.digits) rfl
 have ca2:=hT.out.one.cell (j:=2) (v:=.int .i64 a.exp) rfl
 have cb0:=hT.out.two.cell (j:=0) (v:=.bool b.neg) rfl
 have cb1:=hT.out.two.cell (j:=1) (v:=.string b.digits) rfl
 have cb2:=hT.out.two.cell (j:=2) (v:=.int .i64 b.exp) rfl
 go_enter Tryz.func75,Tryz.ntmps75
 go_wp2_with fail
 refine wp_region_held_drew (S:=fun u=>∃ zc,Tdec w u a b zc) (by kernel_rfl) ⟨_,hT.out.drew⟩ (fun hHeld=>?_)
 have hT1:=Hd hT.out.drew
 clear hT ca0 ca1 ca2 cb0 cb1 cb2
 have hT:=hT1
 clear hT1
 refine' tk 0 (.agg #[.bool a.neg,.string a.digits,.int .i64 a.exp]) rfl rfl (.inl ⟨by rfl,fun u hu=>(by obtain ⟨_,T⟩:=hu;have h0:=T.one.cell (j:=0) (v:=.bool a.neg) rfl;have h1:=T.one.cell (j:=1) (v:=.string a.digits) rfl;have h2:=T.one.cell (j:=2) (v:=.int .i64 a.exp) rfl;go_simp)⟩) hHeld ?_
 simp only [sq1,sq0]
 refine' tk 1 (.agg #[.bool b.neg,.string b.digits,.int .i64 b.exp]) rfl rfl (.inl ⟨by rfl,fun u hu=>(by obtain ⟨_,T⟩:=hu;have h0:=T.two.cell (j:=0) (v:=.bool b.neg) rfl;have h1:=T.two.cell (j:=1) (v:=.string b.digits) rfl;have h2:=T.two.cell (j:=2) (v:=.int .i64 b.exp) rfl;go_simp)⟩) hHeld ?_
 simp only [sq1,sq0]
 refine rd1 2 rfl (fun K hK=>?_)
 rw [if_pos (by rfl)]
 go_simp
 refine (neg_r b _).mono ?_
 rintro e u1w ⟨rfl,hbC⟩
 have hT1:=Hd (hT.out.later hbC)
 refine hK.out _ _ ⟨_,hT1.out⟩ (fun hHeldx=>?_)
 clear hK K hHeld hbC hT
 have hT:=hT1
 have hHeld:=hHeldx
 clear hT1 hHeldx
 refine rd1 3 rfl (fun K hK=>?_)
 rw [if_pos (by rfl)]
 go_simp
 refine (add_r a (negD b) _ HVA.out HVB.out).mono ?_
 rintro e u2w ⟨rfl,hbC⟩
 rw [← HR.out]
 have hT1:=Hd (hT.out.later hbC)
 refine hK.out _ _ ⟨_,hT1.out⟩ (fun hHeldx=>?_)
 clear hK K hHeld hbC hT
 have hT:=hT1
 have hHeld:=hHeldx
 clear hT1 hHeldx
 refine' tk 4 (.agg #[.bool rn,.string rd,.int .i64 re]) rfl rfl (.inl ⟨by rfl,fun u hu=>(by go_simp)⟩) hHeld ?_
 simp only [sq1,sq0]
 refine' tk 5 (.int .i64 rk) rfl rfl (.inl ⟨by rfl,fun u hu=>(by go_simp)⟩) hHeld ?_
 simp only [sq1,sq0]
 refine rd1 6 rfl (fun K hK=>?_)
 rw [if_pos (by rfl)]
 refine wp_store_atL rfl 23 _ _ rfl (w.heap.size+1+1) 0 [.bool rn,.string rd,.int .i64 re] rfl rfl 23 _ [.bool rn,.string rd,.int .i64 re] hT.out.res sizeDECl rfl (Nat.le_refl 3) (dec_one _ _ _) ?_
 refine hK.out _ _ ⟨_,hT.out.put [.bool rn,.string rd,.int .i64 re]⟩ (fun hHeldx=>?_)
 clear hK K hHeld
 have hHeld:=hHeldx
 clear hHeldx
 refine rd1 7 rfl (fun K hK=>?_)
 rw [if_pos (by rfl)]
 go_simp
 refine hK.out _ _ hHeld (fun hHeldx=>?_)
 clear hK K hHeldx
 refine wpAnyH_done (by kernel_rfl) ?_ _
 clear hHeld
 go_wp2_with fail
 refine bodyPost_ret (results_cell_row2 rfl _ _ (w.heap.size+1+1) 23 _ (0,0) _ rfl (hT.out.put [.bool rn,.string rd,.int .i64 re]).res Tryz.underlying23 rfl sizeDEC) rfl ?_
 exact ⟨by rw [HQ.out];try rfl,(hT.out.put [.bool rn,.string rd,.int .i64 re]).below⟩
set_option maxRecDepth 100000 in
set_option maxHeartbeats 6400000 in
theorem mul_p (a b:DecD) (w:World) (ha:VDec a) (hb:VDec b) :
 Calls Tryz.prog 28 #[.agg #[.bool a.neg,.string a.digits,.int .i64 a.exp],.agg #[.bool b.neg,.string b.digits,.int .i64 b.exp]] w (DecV (mulD a b) w):=by
 have CA:=vdec_canon ha
 have CB:=vdec_canon hb
 obtain ⟨sa1,sa2,sa3⟩:=vdec_small ha
 obtain ⟨sb1,sb2,sb3⟩:=vdec_small hb
 have HVA:=Hd ha
 have HVB:=Hd hb
 have HCA:=Hd CA
 have HCB:=Hd CB
 obtain ⟨g,hg⟩:∃ g,(a.neg != b.neg)=g:=⟨_,rfl⟩
 have hg2:(a.neg==b.neg)=!g:=by rw [← hg];simp [bne]
 obtain ⟨A,hA⟩:∃ A,A=numV a.digits:=⟨_,rfl⟩
 obtain ⟨B,hB⟩:∃ B,B=numV b.digits:=⟨_,rfl⟩
 obtain ⟨ez,hez⟩:∃ ez,ez=a.exp+b.exp:=⟨_,rfl⟩
 have HLT:=Hd (show ∃ k,k≤240∧A * B<10 ^ k by
  refine ⟨a.digits.size+b.digits.size,by omega,?_⟩
  rw [Nat.pow_add,hA,hB]
  exact Nat.mul_lt_mul'' (numV_lt CA.1) (numV_lt CB.1))
 obtain ⟨kk,hkk,hlt⟩:=HLT.out
 have HLM:=Hd hlt
 clear hlt HLT
 obtain ⟨r,hr⟩:∃ r,r=normD g (numS (A * B)) ez:=⟨_,rfl⟩
 have HR:=Hd hr
 clear hr
 obtain ⟨⟨rn,rd,re⟩,rk⟩:=r
 have HQ:=Hd (show mulD a b=((⟨rn,rd,re⟩,rk):DecD×Int) by unfold mulD;rw [hg,← hA,← hB,← hez];exact HR.out.symm)
 have hez1:a.exp+b.exp=ez:=hez.symm
 have HA:=Hd hA
 have HB':=Hd hB
 have he1:-800≤ez∧ez≤800:=by omega
 clear ha hb CA CB hA hB hez
 have hT:=Hd (tdec w a b [.bool false,.string ⟨#[]⟩,.int .i64 0])
 have ca0:=hT.out.one.cell (j:=0) (v:=.bool a.neg) rfl
 have ca1:=hT.out.one.cell (j:=1) (v:=.string a.digits) rfl
 have ca2:=hT.out.one.cell (j:=2) (v:=.int .i64 a.exp) rfl
 have cb0:=hT.out.two.cell (j:=0) (v:=.bool b.neg) rfl
 have cb1:=hT.out.two.cell (j:=1) (v:=.string b.digits) rfl
 have cb2:=hT.out.two.cell (j:=2) (v:=.int .i64 b.exp) rfl
 go_enter Tryz.func28,Tryz.ntmps28
 go_wp2_with fail
 refine (dec_valid a _ HVA.out).mono ?_
 rintro e u1w ⟨rfl,hb⟩
 have hT1:=Hd (hT.out.later hb)
 clear hb hT ca0 ca1 ca2 cb0 cb1 cb2
 have hT:=hT1
 clear hT1
 have ca0:=hT.out.one.cell (j:=0) (v:=.bool a.neg) rfl
 have ca1:=hT.out.one.cell (j:=1) (v:=.string a.digits) rfl
 have ca2:=hT.out.one.cell (j:=2) (v:=.int .i64 a.exp) rfl
 have cb0:=hT.out.two.cell (j:=0) (v:=.bool b.neg) rfl
 have cb1:=hT.out.two.cell (j:=1) (v:=.string b.digits) rfl
 have cb2:=hT.out.two.cell (j:=2) (v:=.int .i64 b.exp) rfl
 go_wp2_with fail
 refine (dec_valid b _ HVB.out).mono ?_
 rintro e u2w ⟨rfl,hb⟩
 have hT1:=Hd (hT.out.later hb)
 clear hb hT ca0 ca1 ca2 cb0 cb1 cb2
 have hT:=hT1
 clear hT1
 have ca0:=hT.out.one.cell (j:=0) (v:=.bool a.neg) rfl
 have ca1:=hT.out.one.cell (j:=1) (v:=.string a.digits) rfl
 have ca2:=hT.out.one.cell (j:=2) (v:=.int .i64 a.exp) rfl
 have cb0:=hT.out.two.cell (j:=0) (v:=.bool b.neg) rfl
 have cb1:=hT.out.two.cell (j:=1) (v:=.string b.digits) rfl
 have cb2:=hT.out.two.cell (j:=2) (v:=.int .i64 b.exp) rfl
 go_wp2_with fail
 refine (mul_d a.digits b.digits _ HCA.out HCB.out (by omega) (by omega)).mono ?_
 rintro e u3w ⟨rfl,hb⟩
 rw [← HA.out,← HB'.out]
 have hT1:=Hd (hT.out.later hb)
 clear hb hT ca0 ca1 ca2 cb0 cb1 cb2
 have hT:=hT1
 clear hT1
 have ca0:=hT.out.one.cell (j:=0) (v:=.bool a.neg) rfl
 have ca1:=hT.out.one.cell (j:=1) (v:=.string a.digits) rfl
 have ca2:=hT.out.one.cell (j:=2) (v:=.int .i64 a.exp) rfl
 have cb0:=hT.out.two.cell (j:=0) (v:=.bool b.neg) rfl
 have cb1:=hT.out.two.cell (j:=1) (v:=.string b.digits) rfl
 have cb2:=hT.out.two.cell (j:=2) (v:=.int .i64 b.exp) rfl
 go_wp2_with fail
 refine (norm_p g (numS (A * B)) ez _ (size_of_num (HLM.out) (by omega)) (by omega) (by omega)).mono ?_
 rintro e u4w ⟨rfl,hb⟩
 rw [← HR.out]
 dsimp only
 have hT1:=Hd (hT.out.later hb)
 clear hb hT ca0 ca1 ca2 cb0 cb1 cb2
 have hT:=hT1
 clear hT1
 have ca0:=hT.out.one.cell (j:=0) (v:=.bool a.neg) rfl
 have ca1:=hT.out.one.cell (j:=1) (v:=.string a.digits) rfl
 have ca2:=hT.out.one.cell (j:=2) (v:=.int .i64 a.exp) rfl
 have cb0:=hT.out.two.cell (j:=0) (v:=.bool b.neg) rfl
 have cb1:=hT.out.two.cell (j:=1) (v:=.string b.digits) rfl
 have cb2:=hT.out.two.cell (j:=2) (v:=.int .i64 b.exp) rfl
 go_wp2_with ((with_reducible show wpList _ _ _ (⟨none,.store 23 (.tmp 4) _,_,_,_,_⟩::_) _ _);refine wpList_store_at rfl 23 _ _ rfl (w.heap.size+1+1) 0 [.bool rn,.string rd,.int .i64 re] rfl rfl 23 _ [.bool rn,.string rd,.int .i64 re] hT.out.res sizeDECl rfl (Nat.le_refl 3) (dec_one _ _ _) ?_)
 refine bodyPost_ret (results_cell_row2 rfl _ _ (w.heap.size+1+1) 23 _ (0,0) _ rfl (hT.out.put [.bool rn,.string rd,.int .i64 re]).res Tryz.underlying23 rfl sizeDEC) rfl ?_
 exact ⟨by rw [HQ.out];try rfl,(hT.out.put [.bool rn,.string rd,.int .i64 re]).below⟩
set_option maxRecDepth 100000 in
set_option maxHeartbeats 6400000 in
theorem mul_r (a b:DecD) (w:World) (ha:VDec a) (hb:VDec b) :
 Calls Tryz.prog 35 #[.agg #[.bool a.neg,.string a.digits,.int .i64 a.exp],.agg #[.bool b.neg,.string b.digits,.int .i64 b.exp]] w (DecV (mulD a b) w):=by
 have CA:=vdec_canon ha
 have CB:=vdec_canon hb
 obtain ⟨sa1,sa2,sa3⟩:=vdec_small ha
 obtain ⟨sb1,sb2,sb3⟩:=vdec_small hb
 have HVA:=Hd ha
 have HVB:=Hd hb
 have HCA:=Hd CA
 have HCB:=Hd CB
 obtain ⟨g,hg⟩:∃ g,(a.neg != b.neg)=g:=⟨_,rfl⟩
 have hg2:(a.neg==b.neg)=!g:=by rw [← hg];simp [bne]
 obtain ⟨A,hA⟩:∃ A,A=numV a.digits:=⟨_,rfl⟩
 obtain ⟨B,hB⟩:∃ B,B=numV b.digits:=⟨_,rfl⟩
 obtain ⟨ez,hez⟩:∃ ez,ez=a.exp+b.exp:=⟨_,rfl⟩
 have HLT:=Hd (show ∃ k,k≤240∧A * B<10 ^ k by
  refine ⟨a.digits.size+b.digits.size,by omega,?_⟩
  rw [Nat.pow_add,hA,hB]
  exact Nat.mul_lt_mul'' (numV_lt CA.1) (numV_lt CB.1))
 obtain ⟨kk,hkk,hlt⟩:=HLT.out
 have HLM:=Hd hlt
 clear hlt HLT
 obtain ⟨r,hr⟩:∃ r,r=normD g (numS (A * B)) ez:=⟨_,rfl⟩
 have HR:=Hd hr
 clear hr
 obtain ⟨⟨rn,rd,re⟩,rk⟩:=r
 have HQ:=Hd (show mulD a b=((⟨rn,rd,re⟩,rk):DecD×Int) by unfold mulD;rw [hg,← hA,← hB,← hez];exact HR.out.symm)
 have hez1:a.exp+b.exp=ez:=hez.symm
 have HA:=Hd hA
 have HB':=Hd hB
 have he1:-800≤ez∧ez≤800:=by omega
 clear ha hb CA CB hA hB hez
 have hT:=Hd (tdec w a b [.bool false,.string ⟨#[]⟩,.int .i64 0])
 have ca0:=hT.out.one.cell (j:=0) (v:=.bool a.neg) rfl
 have ca1:=hT.out.one.cell (j:=1) (v:=.string a.digits) rfl
 have ca2:=hT.out.one.cell (j:=2) (v:=.int .i64 a.exp) rfl
 have cb0:=hT.out.two.cell (j:=0) (v:=.bool b.neg) rfl
 have cb1:=hT.out.two.cell (j:=1) (v:=.string b.digits) rfl
 have cb2:=hT.out.two.cell (j:=2) (v:=.int .i64 b.exp) rfl
 go_enter Tryz.func35,Tryz.ntmps35
 go_wp2_with fail
 refine wp_region_held_drew (S:=fun u=>∃ zc,Tdec w u a b zc) (by kernel_rfl) ⟨_,hT.out.drew⟩ (fun hHeld=>?_)
 have hT1:=Hd hT.out.drew
 clear hT ca0 ca1 ca2 cb0 cb1 cb2
 have hT:=hT1
 clear hT1
 refine' tk 0 (.pointer (some ⟨w.heap.size,0,none⟩)) rfl rfl (.inl ⟨by rfl,fun u hu=>(by go_simp)⟩) hHeld ?_
 simp only [sq1,sq0]
 refine' tk 1 (.bool a.neg) rfl rfl (.inl ⟨by rfl,fun u hu=>(by obtain ⟨_,T⟩:=hu;have hc:=T.one.cell (j:=0) (v:=.bool a.neg) rfl;go_simp)⟩) hHeld ?_
 simp only [sq1,sq0]
 refine' tk 2 (.pointer (some ⟨w.heap.size+1,0,none⟩)) rfl rfl (.inl ⟨by rfl,fun u hu=>(by go_simp)⟩) hHeld ?_
 simp only [sq1,sq0]
 refine' tk 3 (.bool b.neg) rfl rfl (.inl ⟨by rfl,fun u hu=>(by obtain ⟨_,T⟩:=hu;have hc:=T.two.cell (j:=0) (v:=.bool b.neg) rfl;go_simp)⟩) hHeld ?_
 simp only [sq1,sq0]
 refine' tk 4 (.bool g) rfl rfl (.inl ⟨by rfl,fun u hu=>(by go_simp;all_goals first | exact hg2 | omega | (rw [IntKind.wrap_i64];omega) | rfl)⟩) hHeld ?_
 simp only [sq1,sq0]
 refine' tk 5 (.pointer (some ⟨w.heap.size,1,none⟩)) rfl rfl (.inl ⟨by rfl,fun u hu=>(by go_simp)⟩) hHeld ?_
 simp only [sq1,sq0]
 refine' tk 6 (.string a.digits) rfl rfl (.inl ⟨by rfl,fun u hu=>(by obtain ⟨_,T⟩:=hu;have hc:=T.one.cell (j:=1) (v:=.string a.digits) rfl;go_simp)⟩) hHeld ?_
 simp only [sq1,sq0]
 refine' tk 7 (.pointer (some ⟨w.heap.size+1,1,none⟩)) rfl rfl (.inl ⟨by rfl,fun u hu=>(by go_simp)⟩) hHeld ?_
 simp only [sq1,sq0]
 refine' tk 8 (.string b.digits) rfl rfl (.inl ⟨by rfl,fun u hu=>(by obtain ⟨_,T⟩:=hu;have hc:=T.two.cell (j:=1) (v:=.string b.digits) rfl;go_simp)⟩) hHeld ?_
 simp only [sq1,sq0]
 refine' tk 10 (.pointer (some ⟨w.heap.size,2,none⟩)) rfl rfl (.inl ⟨by rfl,fun u hu=>(by go_simp)⟩) hHeld ?_
 simp only [sq1,sq0]
 refine' tk 11 (.int .i64 a.exp) rfl rfl (.inl ⟨by rfl,fun u hu=>(by obtain ⟨_,T⟩:=hu;have hc:=T.one.cell (j:=2) (v:=.int .i64 a.exp) rfl;go_simp)⟩) hHeld ?_
 simp only [sq1,sq0]
 refine' tk 12 (.pointer (some ⟨w.heap.size+1,2,none⟩)) rfl rfl (.inl ⟨by rfl,fun u hu=>(by go_simp)⟩) hHeld ?_
 simp only [sq1,sq0]
 refine' tk 13 (.int .i64 b.exp) rfl rfl (.inl ⟨by rfl,fun u hu=>(by obtain ⟨_,T⟩:=hu;have hc:=T.two.cell (j:=2) (v:=.int .i64 b.exp) rfl;go_simp)⟩) hHeld ?_
 simp only [sq1,sq0]
 refine' tk 14 (.int .i64 ez) rfl rfl (.inl ⟨by rfl,fun u hu=>(by go_simp;all_goals first | exact hg2 | omega | (rw [IntKind.wrap_i64];omega) | rfl)⟩) hHeld ?_
 simp only [sq1,sq0]
 refine rd1 9 rfl (fun K hK=>?_)
 rw [if_pos (by rfl)]
 go_simp
 refine (times_r a.digits b.digits _ HCA.out.1 HCB.out.1 (by omega) (by omega)).mono ?_
 rintro e u1w ⟨rfl,hbC⟩
 rw [← HA.out,← HB'.out]
 have hT1:=Hd (hT.out.later hbC)
 refine hK.out _ _ ⟨_,hT1.out⟩ (fun hHeldx=>?_)
 clear hK K hHeld hbC hT
 have hT:=hT1
 have hHeld:=hHeldx
 clear hT1 hHeldx
 refine rd1 15 rfl (fun K hK=>?_)
 rw [if_pos (by rfl)]
 go_simp
 refine (nrm_r g (numS (A * B)) (numS (A * B)) ez _ (by rw [strip_num (numS_canon _).1,numV_numS]) (size_of_num (HLM.out) (by omega)) (size_of_num (HLM.out) (by omega)) (by omega) (by omega)).mono ?_
 rintro e u2w ⟨rfl,hbC⟩
 rw [← HR.out]
 have hT1:=Hd (hT.out.later hbC)
 refine hK.out _ _ ⟨_,hT1.out⟩ (fun hHeldx=>?_)
 clear hK K hHeld hbC hT
 have hT:=hT1
 have hHeld:=hHeldx
 clear hT1 hHeldx
 refine' tk 16 (.agg #[.bool rn,.string rd,.int .i64 re]) rfl rfl (.inl ⟨by rfl,fun u hu=>(by go_simp)⟩) hHeld ?_
 simp only [sq1,sq0]
 refine' tk 17 (.int .i64 rk) rfl rfl (.inl ⟨by rfl,fun u hu=>(by go_simp)⟩) hHeld ?_
 simp only [sq1,sq0]
 refine rd1 18 rfl (fun K hK=>?_)
 rw [if_pos (by rfl)]
 refine wp_store_atL rfl 23 _ _ rfl (w.heap.size+1+1) 0 [.bool rn,.string rd,.int .i64 re] rfl rfl 23 _ [.bool rn,.string rd,.int .i64 re] hT.out.res sizeDECl rfl (Nat.le_refl 3) (dec_one _ _ _) ?_
 refine hK.out _ _ ⟨_,hT.out.put [.bool rn,.string rd,.int .i64 re]⟩ (fun hHeldx=>?_)
 clear hK K hHeld
 have hHeld:=hHeldx
 clear hHeldx
 refine rd1 19 rfl (fun K hK=>?_)
 rw [if_pos (by rfl)]
 go_simp
 refine hK.out _ _ hHeld (fun hHeldx=>?_)
 clear hK K hHeldx
 refine wpAnyH_done (by kernel_rfl) ?_ _
 clear hHeld
 go_wp2_with fail
 refine bodyPost_ret (results_cell_row2 rfl _ _ (w.heap.size+1+1) 23 _ (0,0) _ rfl (hT.out.put [.bool rn,.string rd,.int .i64 re]).res Tryz.underlying23 rfl sizeDEC) rfl ?_
 exact ⟨by rw [HQ.out];try rfl,(hT.out.put [.bool rn,.string rd,.int .i64 re]).below⟩
end Go.Proofs.YtmjfggadehkbjaaGreatDoor
