/- The walks of remainders of decimals: Mod of both sides. -/
import Derived.Test.YtmjfggadehkbjaaGreatDoorProg
import Derived.Test.YtmjfggadehkbjaaGreatDoorGA
import Derived.Test.YtmjfggadehkbjaaGreatDoorGB
import Derived.Test.YtmjfggadehkbjaaGreatDoorGC
import Derived.Test.YtmjfggadehkbjaaGreatDoorRow36
import Derived.Test.YtmjfggadehkbjaaGreatDoorGF
import Derived.Test.YtmjfggadehkbjaaGreatDoorXA
import Derived.Test.YtmjfggadehkbjaaGreatDoorXK
import Derived.Test.YtmjfggadehkbjaaGreatDoorAA
import Derived.Test.YtmjfggadehkbjaaGreatDoorAra03
import Derived.Test.YtmjfggadehkbjaaGreatDoorAC
import Derived.Test.YtmjfggadehkbjaaGreatDoorAB
import Derived.Test.YtmjfggadehkbjaaGreatDoorAra08
namespace Go.Proofs.YtmjfggadehkbjaaGreatDoor
open Go.RowKit
set_option maxRecDepth 100000 in
set_option maxHeartbeats 1600000 in
theorem mod_pp (a b:DecD) (w:World) (ha:VDec a) (hb:VDec b) :
 Calls Tryz.prog 31 #[.agg #[.bool a.neg,.string a.digits,.int .i64 a.exp],.agg #[.bool b.neg,.string b.digits,.int .i64 b.exp]] w (DecV (modD a b) w):=by
 obtain ⟨CX,CY,SX,SY,SY0⟩:=align_canon ha hb
 obtain ⟨kk,hkk,LXY⟩:=xD_lt ha hb
 have HE:=exp_range ha hb
 have HVA:=Hd ha
 have HVB:=Hd hb
 obtain ⟨x,hx⟩:∃ x,x=(alignD a b).1:=⟨_,rfl⟩
 obtain ⟨y,hy⟩:∃ y,y=(alignD a b).2:=⟨_,rfl⟩
 obtain ⟨X,hX⟩:∃ X,X=xD a b:=⟨_,rfl⟩
 obtain ⟨Y,hY⟩:∃ Y,Y=yD a b:=⟨_,rfl⟩
 obtain ⟨ez,hez⟩:∃ ez,ez=expD a b:=⟨_,rfl⟩
 have NX:=Hd (show numV x=X by rw [hx,hX];rfl)
 have NY:=Hd (show numV y=Y by rw [hy,hY];rfl)
 rw [← hx] at CX SX
 rw [← hy] at CY SY SY0
 rw [← hX,← hY] at LXY
 rw [← hez] at HE
 obtain ⟨HE1,HE2⟩:=HE
 have HCX:=Hd CX
 have HCY:=Hd CY
 have HLX:=Hd LXY.1
 have HLY:=Hd LXY.2
 obtain ⟨sa1,sa2,sa3⟩:=vdec_small ha
 obtain ⟨sb1,sb2,sb3⟩:=vdec_small hb
 obtain ⟨g,hg⟩:∃ g,(a.neg != b.neg)=g:=⟨_,rfl⟩
 have hg2:(a.neg==b.neg)=!g:=by rw [← hg];simp [bne]
 have HX0:=Hd (show a.digits.size=0→X=0 from fun h=>by rw [hX];unfold xD alignD;rw [if_pos (.inl h)];exact numV_nil h)
 have AX:=Hd (fun w=>align_x a b w ha hb)
 rw [← hx,← hy,← hez] at AX
 by_cases h0:b.digits.size=0
 ·have HQ:=Hd (show modD a b=(dec0,14) by unfold modD;rw [if_pos h0])
  have hd:=toList_nil h0
  clear h0 SY0
  have hT:=Hd (tdec w a b [.bool false,.string ⟨#[]⟩,.int .i64 0])
  have ca0:=hT.out.one.cell (j:=0) (v:=.bool a.neg) rfl
  have ca1:=hT.out.one.cell (j:=1) (v:=.string a.digits) rfl
  have ca2:=hT.out.one.cell (j:=2) (v:=.int .i64 a.exp) rfl
  have cb0:=hT.out.two.cell (j:=0) (v:=.bool b.neg) rfl
  have cb1:=hT.out.two.cell (j:=1) (v:=.string b.digits) rfl
  have cb2:=hT.out.two.cell (j:=2) (v:=.int .i64 b.exp) rfl
  go_enter Tryz.func31,Tryz.ntmps31
  go_wp2_with ((with_reducible show wpList _ _ _ (⟨none,.store 23 (.tmp 4) _,_,_,_,_⟩::_) _ _);refine wpList_store_at rfl 23 _ _ rfl (w.heap.size+1+1) 0 [.bool false,.string ⟨#[]⟩,.int .i64 0] rfl rfl 23 _ [.bool false,.string ⟨#[]⟩,.int .i64 0] hT.out.res sizeDECl rfl (Nat.le_refl 3) (dec_one _ _ _) ?_)
  refine bodyPost_ret (results_cell_row2 rfl _ _ (w.heap.size+1+1) 23 _ (0,0) _ rfl (hT.out.put [.bool false,.string ⟨#[]⟩,.int .i64 0]).res Tryz.underlying23 rfl sizeDEC) rfl ?_
  exact ⟨by rw [HQ.out];try rfl,(hT.out.put [.bool false,.string ⟨#[]⟩,.int .i64 0]).below⟩
 ·have hy0:0<y.size:=SY0 (by omega)
  have hb0:0<b.digits.size:=by omega
  have eb1:b.digits.toList.isEmpty=false:=by rw [List.isEmpty_eq_false_iff];exact ne_toList (by omega)
  have eb2:(b.digits.toList==[])=false:=by rw [beq_eq_false_iff_ne];exact ne_toList (by omega)
  have eb3:¬ b.digits.toList=[]:=ne_toList (by omega)
  have ey1:y.toList.isEmpty=false:=by rw [List.isEmpty_eq_false_iff];exact ne_toList (by omega)
  have ey2:(y.toList==[])=false:=by rw [beq_eq_false_iff_ne];exact ne_toList (by omega)
  have ey3:¬ y.toList=[]:=ne_toList (by omega)
  have HMOD:=Hd (show modD a b=normD b.neg (numS (if X % Y≠0∧a.neg≠b.neg then Y-X % Y else X % Y)) ez by unfold modD;rw [if_neg h0,← hX,← hY,← hez])
  obtain ⟨m,hm⟩:∃ m,m=X % Y:=⟨_,rfl⟩
  have HM:=Hd hm
  have HMY:=Hd (show m<Y by rw [hm];exact Nat.mod_lt _ (by rw [← NY.out];exact numV_pos HCY.out hy0))
  rw [← hm] at HMOD
  have HAZ:=Hd (show X=0→m=0 from fun h=>by rw [hm,h,Nat.zero_mod])
  clear ha hb CX CY SY0 LXY hx hy hX hY hez h0 hm
  by_cases hm0:m=0
  ·obtain ⟨r,hr⟩:∃ r,r=normD b.neg (numS (m)) ez:=⟨_,rfl⟩
   have HR:=Hd hr
   clear hr
   obtain ⟨⟨rn,rd,re⟩,rk⟩:=r
   have HQ:=Hd (show modD a b=((⟨rn,rd,re⟩,rk):DecD×Int) by rw [HMOD.out,if_neg (by simp [hm0])];exact HR.out.symm)
   have hr1:(numS m).toList=[]:=toList_nil (by rw [hm0,numS_0];rfl)
   clear hm0
   have hT:=Hd (tdec w a b [.bool false,.string ⟨#[]⟩,.int .i64 0])
   have ca0:=hT.out.one.cell (j:=0) (v:=.bool a.neg) rfl
   have ca1:=hT.out.one.cell (j:=1) (v:=.string a.digits) rfl
   have ca2:=hT.out.one.cell (j:=2) (v:=.int .i64 a.exp) rfl
   have cb0:=hT.out.two.cell (j:=0) (v:=.bool b.neg) rfl
   have cb1:=hT.out.two.cell (j:=1) (v:=.string b.digits) rfl
   have cb2:=hT.out.two.cell (j:=2) (v:=.int .i64 b.exp) rfl
   go_enter Tryz.func31,Tryz.ntmps31
   go_wp2_with fail
   refine (AX.out _).mono ?_
   rintro e u1w ⟨rfl,hb⟩
   have hT1:=Hd (hT.out.later hb)
   clear hb hT ca0 ca1 ca2 cb0 cb1 cb2
   have hT:=hT1
   clear hT1
   have ca0:=hT.out.one.cell (j:=0) (v:=.bool a.neg) rfl
   have ca1:=hT.out.one.cell (j:=1) (v:=.string a.digits) rfl
   have ca2:=hT.out.one.cell (j:=2) (v:=.int .i64 a.exp) rfl
   have cb0:=hT.out.two.cell (j:=0) (v:=.bool b.neg) rfl
   have cb1:=hT.out.two.cell (j:=1) (v:=.string b.digits) rfl
   have cb2:=hT.out.two.cell (j:=2) (v:=.int .i64 b.exp) rfl
   go_wp2_with fail
   refine (div_p x y _ HCX.out.1 HCY.out hy0 (by omega) (by omega)).mono ?_
   rintro e u2w ⟨rfl,hb⟩
   rw [NX.out,NY.out]
   rw [← HM.out]
   have hT1:=Hd (hT.out.later hb)
   clear hb hT ca0 ca1 ca2 cb0 cb1 cb2
   have hT:=hT1
   clear hT1
   have ca0:=hT.out.one.cell (j:=0) (v:=.bool a.neg) rfl
   have ca1:=hT.out.one.cell (j:=1) (v:=.string a.digits) rfl
   have ca2:=hT.out.one.cell (j:=2) (v:=.int .i64 a.exp) rfl
   have cb0:=hT.out.two.cell (j:=0) (v:=.bool b.neg) rfl
   have cb1:=hT.out.two.cell (j:=1) (v:=.string b.digits) rfl
   have cb2:=hT.out.two.cell (j:=2) (v:=.int .i64 b.exp) rfl
   go_wp2_with fail
   refine (norm_p b.neg (numS (m)) ez _ (size_of_num (Nat.lt_trans HMY.out HLY.out) (by omega)) (by omega) (by omega)).mono ?_
   rintro e u3w ⟨rfl,hb⟩
   rw [← HR.out]
   dsimp only
   have hT1:=Hd (hT.out.later hb)
   clear hb hT ca0 ca1 ca2 cb0 cb1 cb2
   have hT:=hT1
   clear hT1
   have ca0:=hT.out.one.cell (j:=0) (v:=.bool a.neg) rfl
   have ca1:=hT.out.one.cell (j:=1) (v:=.string a.digits) rfl
   have ca2:=hT.out.one.cell (j:=2) (v:=.int .i64 a.exp) rfl
   have cb0:=hT.out.two.cell (j:=0) (v:=.bool b.neg) rfl
   have cb1:=hT.out.two.cell (j:=1) (v:=.string b.digits) rfl
   have cb2:=hT.out.two.cell (j:=2) (v:=.int .i64 b.exp) rfl
   go_wp2_with ((with_reducible show wpList _ _ _ (⟨none,.store 23 (.tmp 4) _,_,_,_,_⟩::_) _ _);refine wpList_store_at rfl 23 _ _ rfl (w.heap.size+1+1) 0 [.bool rn,.string rd,.int .i64 re] rfl rfl 23 _ [.bool rn,.string rd,.int .i64 re] hT.out.res sizeDECl rfl (Nat.le_refl 3) (dec_one _ _ _) ?_)
   refine bodyPost_ret (results_cell_row2 rfl _ _ (w.heap.size+1+1) 23 _ (0,0) _ rfl (hT.out.put [.bool rn,.string rd,.int .i64 re]).res Tryz.underlying23 rfl sizeDEC) rfl ?_
   exact ⟨by rw [HQ.out];try rfl,(hT.out.put [.bool rn,.string rd,.int .i64 re]).below⟩
  ·have hrp:0<(numS m).size:=by
    rcases Nat.eq_zero_or_pos (numS m).size with h | h
    ·exact absurd (numS_size0.1 h) hm0
    ·exact h
   have er1:(numS m).toList.isEmpty=false:=by rw [List.isEmpty_eq_false_iff];exact ne_toList (by omega)
   have er2:((numS m).toList==[])=false:=by rw [beq_eq_false_iff_ne];exact ne_toList (by omega)
   have er3:¬ (numS m).toList=[]:=ne_toList (by omega)
   have HM0:=Hd hm0
   clear hrp hm0
   cases g with
   | false =>
     obtain ⟨r,hr⟩:∃ r,r=normD b.neg (numS (m)) ez:=⟨_,rfl⟩
     have HR:=Hd hr
     clear hr
     obtain ⟨⟨rn,rd,re⟩,rk⟩:=r
     have HQ:=Hd (show modD a b=((⟨rn,rd,re⟩,rk):DecD×Int) by rw [HMOD.out,if_neg (by simp only [bne_eq_false_iff_eq] at hg;simp [hg])];exact HR.out.symm)
     have hT:=Hd (tdec w a b [.bool false,.string ⟨#[]⟩,.int .i64 0])
     have ca0:=hT.out.one.cell (j:=0) (v:=.bool a.neg) rfl
     have ca1:=hT.out.one.cell (j:=1) (v:=.string a.digits) rfl
     have ca2:=hT.out.one.cell (j:=2) (v:=.int .i64 a.exp) rfl
     have cb0:=hT.out.two.cell (j:=0) (v:=.bool b.neg) rfl
     have cb1:=hT.out.two.cell (j:=1) (v:=.string b.digits) rfl
     have cb2:=hT.out.two.cell (j:=2) (v:=.int .i64 b.exp) rfl
     go_enter Tryz.func31,Tryz.ntmps31
     go_wp2_with fail
     refine (AX.out _).mono ?_
     rintro e u4w ⟨rfl,hb⟩
     have hT1:=Hd (hT.out.later hb)
     clear hb hT ca0 ca1 ca2 cb0 cb1 cb2
     have hT:=hT1
     clear hT1
     have ca0:=hT.out.one.cell (j:=0) (v:=.bool a.neg) rfl
     have ca1:=hT.out.one.cell (j:=1) (v:=.string a.digits) rfl
     have ca2:=hT.out.one.cell (j:=2) (v:=.int .i64 a.exp) rfl
     have cb0:=hT.out.two.cell (j:=0) (v:=.bool b.neg) rfl
     have cb1:=hT.out.two.cell (j:=1) (v:=.string b.digits) rfl
     have cb2:=hT.out.two.cell (j:=2) (v:=.int .i64 b.exp) rfl
     go_wp2_with fail
     refine (div_p x y _ HCX.out.1 HCY.out hy0 (by omega) (by omega)).mono ?_
     rintro e u5w ⟨rfl,hb⟩
     rw [NX.out,NY.out]
     rw [← HM.out]
     have hT1:=Hd (hT.out.later hb)
     clear hb hT ca0 ca1 ca2 cb0 cb1 cb2
     have hT:=hT1
     clear hT1
     have ca0:=hT.out.one.cell (j:=0) (v:=.bool a.neg) rfl
     have ca1:=hT.out.one.cell (j:=1) (v:=.string a.digits) rfl
     have ca2:=hT.out.one.cell (j:=2) (v:=.int .i64 a.exp) rfl
     have cb0:=hT.out.two.cell (j:=0) (v:=.bool b.neg) rfl
     have cb1:=hT.out.two.cell (j:=1) (v:=.string b.digits) rfl
     have cb2:=hT.out.two.cell (j:=2) (v:=.int .i64 b.exp) rfl
     go_wp2_with fail
     refine (norm_p b.neg (numS (m)) ez _ (size_of_num (Nat.lt_trans HMY.out HLY.out) (by omega)) (by omega) (by omega)).mono ?_
     rintro e u6w ⟨rfl,hb⟩
     rw [← HR.out]
     dsimp only
     have hT1:=Hd (hT.out.later hb)
     clear hb hT ca0 ca1 ca2 cb0 cb1 cb2
     have hT:=hT1
     clear hT1
     have ca0:=hT.out.one.cell (j:=0) (v:=.bool a.neg) rfl
     have ca1:=hT.out.one.cell (j:=1) (v:=.string a.digits) rfl
     have ca2:=hT.out.one.cell (j:=2) (v:=.int .i64 a.exp) rfl
     have cb0:=hT.out.two.cell (j:=0) (v:=.bool b.neg) rfl
     have cb1:=hT.out.two.cell (j:=1) (v:=.string b.digits) rfl
     have cb2:=hT.out.two.cell (j:=2) (v:=.int .i64 b.exp) rfl
     go_wp2_with ((with_reducible show wpList _ _ _ (⟨none,.store 23 (.tmp 4) _,_,_,_,_⟩::_) _ _);refine wpList_store_at rfl 23 _ _ rfl (w.heap.size+1+1) 0 [.bool rn,.string rd,.int .i64 re] rfl rfl 23 _ [.bool rn,.string rd,.int .i64 re] hT.out.res sizeDECl rfl (Nat.le_refl 3) (dec_one _ _ _) ?_)
     refine bodyPost_ret (results_cell_row2 rfl _ _ (w.heap.size+1+1) 23 _ (0,0) _ rfl (hT.out.put [.bool rn,.string rd,.int .i64 re]).res Tryz.underlying23 rfl sizeDEC) rfl ?_
     exact ⟨by rw [HQ.out];try rfl,(hT.out.put [.bool rn,.string rd,.int .i64 re]).below⟩
   | true =>
     obtain ⟨r,hr⟩:∃ r,r=normD b.neg (numS (Y-m)) ez:=⟨_,rfl⟩
     have HR:=Hd hr
     clear hr
     obtain ⟨⟨rn,rd,re⟩,rk⟩:=r
     have HQ:=Hd (show modD a b=((⟨rn,rd,re⟩,rk):DecD×Int) by rw [HMOD.out,if_pos ⟨HM0.out,by simpa using hg⟩];exact HR.out.symm)
     have hms:(numS m).size≤4096:=size_of_num (Nat.lt_trans HMY.out HLY.out) (by omega)
     have hT:=Hd (tdec w a b [.bool false,.string ⟨#[]⟩,.int .i64 0])
     have ca0:=hT.out.one.cell (j:=0) (v:=.bool a.neg) rfl
     have ca1:=hT.out.one.cell (j:=1) (v:=.string a.digits) rfl
     have ca2:=hT.out.one.cell (j:=2) (v:=.int .i64 a.exp) rfl
     have cb0:=hT.out.two.cell (j:=0) (v:=.bool b.neg) rfl
     have cb1:=hT.out.two.cell (j:=1) (v:=.string b.digits) rfl
     have cb2:=hT.out.two.cell (j:=2) (v:=.int .i64 b.exp) rfl
     go_enter Tryz.func31,Tryz.ntmps31
     go_wp2_with fail
     refine (AX.out _).mono ?_
     rintro e u7w ⟨rfl,hb⟩
     have hT1:=Hd (hT.out.later hb)
     clear hb hT ca0 ca1 ca2 cb0 cb1 cb2
     have hT:=hT1
     clear hT1
     have ca0:=hT.out.one.cell (j:=0) (v:=.bool a.neg) rfl
     have ca1:=hT.out.one.cell (j:=1) (v:=.string a.digits) rfl
     have ca2:=hT.out.one.cell (j:=2) (v:=.int .i64 a.exp) rfl
     have cb0:=hT.out.two.cell (j:=0) (v:=.bool b.neg) rfl
     have cb1:=hT.out.two.cell (j:=1) (v:=.string b.digits) rfl
     have cb2:=hT.out.two.cell (j:=2) (v:=.int .i64 b.exp) rfl
     go_wp2_with fail
     refine (div_p x y _ HCX.out.1 HCY.out hy0 (by omega) (by omega)).mono ?_
     rintro e u8w ⟨rfl,hb⟩
     rw [NX.out,NY.out]
     rw [← HM.out]
     have hT1:=Hd (hT.out.later hb)
     clear hb hT ca0 ca1 ca2 cb0 cb1 cb2
     have hT:=hT1
     clear hT1
     have ca0:=hT.out.one.cell (j:=0) (v:=.bool a.neg) rfl
     have ca1:=hT.out.one.cell (j:=1) (v:=.string a.digits) rfl
     have ca2:=hT.out.one.cell (j:=2) (v:=.int .i64 a.exp) rfl
     have cb0:=hT.out.two.cell (j:=0) (v:=.bool b.neg) rfl
     have cb1:=hT.out.two.cell (j:=1) (v:=.string b.digits) rfl
     have cb2:=hT.out.two.cell (j:=2) (v:=.int .i64 b.exp) rfl
     go_wp2_with fail
     refine (minus_p y (numS m) _ HCY.out.1 (numS_canon _).1 (by omega) (by omega) (by rw [numV_numS,NY.out];exact Nat.le_of_lt HMY.out)).mono ?_
     rintro e u9w ⟨rfl,hb⟩
     rw [numV_numS,NY.out]
     have hT1:=Hd (hT.out.later hb)
     clear hb hT ca0 ca1 ca2 cb0 cb1 cb2
     have hT:=hT1
     clear hT1
     have ca0:=hT.out.one.cell (j:=0) (v:=.bool a.neg) rfl
     have ca1:=hT.out.one.cell (j:=1) (v:=.string a.digits) rfl
     have ca2:=hT.out.one.cell (j:=2) (v:=.int .i64 a.exp) rfl
     have cb0:=hT.out.two.cell (j:=0) (v:=.bool b.neg) rfl
     have cb1:=hT.out.two.cell (j:=1) (v:=.string b.digits) rfl
     have cb2:=hT.out.two.cell (j:=2) (v:=.int .i64 b.exp) rfl
     go_wp2_with fail
     refine (norm_p b.neg (numS (Y-m)) ez _ (size_of_num (Nat.lt_of_le_of_lt (Nat.sub_le _ _) HLY.out) (by omega)) (by omega) (by omega)).mono ?_
     rintro e u10w ⟨rfl,hb⟩
     rw [← HR.out]
     dsimp only
     have hT1:=Hd (hT.out.later hb)
     clear hb hT ca0 ca1 ca2 cb0 cb1 cb2
     have hT:=hT1
     clear hT1
     have ca0:=hT.out.one.cell (j:=0) (v:=.bool a.neg) rfl
     have ca1:=hT.out.one.cell (j:=1) (v:=.string a.digits) rfl
     have ca2:=hT.out.one.cell (j:=2) (v:=.int .i64 a.exp) rfl
     have cb0:=hT.out.two.cell (j:=0) (v:=.bool b.neg) rfl
     have cb1:=hT.out.two.cell (j:=1) (v:=.string b.digits) rfl
     have cb2:=hT.out.two.cell (j:=2) (v:=.int .i64 b.exp) rfl
     go_wp2_with ((with_reducible show wpList _ _ _ (⟨none,.store 23 (.tmp 4) _,_,_,_,_⟩::_) _ _);refine wpList_store_at rfl 23 _ _ rfl (w.heap.size+1+1) 0 [.bool rn,.string rd,.int .i64 re] rfl rfl 23 _ [.bool rn,.string rd,.int .i64 re] hT.out.res sizeDECl rfl (Nat.le_refl 3) (dec_one _ _ _) ?_)
     refine bodyPost_ret (results_cell_row2 rfl _ _ (w.heap.size+1+1) 23 _ (0,0) _ rfl (hT.out.put [.bool rn,.string rd,.int .i64 re]).res Tryz.underlying23 rfl sizeDEC) rfl ?_
     exact ⟨by rw [HQ.out];try rfl,(hT.out.put [.bool rn,.string rd,.int .i64 re]).below⟩
set_option maxRecDepth 100000 in
set_option maxHeartbeats 1600000 in
theorem mod_rr (a b:DecD) (w:World) (ha:VDec a) (hb:VDec b) :
 Calls Tryz.prog 37 #[.agg #[.bool a.neg,.string a.digits,.int .i64 a.exp],.agg #[.bool b.neg,.string b.digits,.int .i64 b.exp]] w (DecV (modD a b) w):=by
 obtain ⟨CX,CY,SX,SY,SY0⟩:=align_canon ha hb
 obtain ⟨kk,hkk,LXY⟩:=xD_lt ha hb
 have HE:=exp_range ha hb
 have HVA:=Hd ha
 have HVB:=Hd hb
 obtain ⟨x,hx⟩:∃ x,x=(alignD a b).1:=⟨_,rfl⟩
 obtain ⟨y,hy⟩:∃ y,y=(alignD a b).2:=⟨_,rfl⟩
 obtain ⟨X,hX⟩:∃ X,X=xD a b:=⟨_,rfl⟩
 obtain ⟨Y,hY⟩:∃ Y,Y=yD a b:=⟨_,rfl⟩
 obtain ⟨ez,hez⟩:∃ ez,ez=expD a b:=⟨_,rfl⟩
 have NX:=Hd (show numV x=X by rw [hx,hX];rfl)
 have NY:=Hd (show numV y=Y by rw [hy,hY];rfl)
 rw [← hx] at CX SX
 rw [← hy] at CY SY SY0
 rw [← hX,← hY] at LXY
 rw [← hez] at HE
 obtain ⟨HE1,HE2⟩:=HE
 have HCX:=Hd CX
 have HCY:=Hd CY
 have HLX:=Hd LXY.1
 have HLY:=Hd LXY.2
 obtain ⟨sa1,sa2,sa3⟩:=vdec_small ha
 obtain ⟨sb1,sb2,sb3⟩:=vdec_small hb
 obtain ⟨g,hg⟩:∃ g,(a.neg != b.neg)=g:=⟨_,rfl⟩
 have hg2:(a.neg==b.neg)=!g:=by rw [← hg];simp [bne]
 have HX0:=Hd (show a.digits.size=0→X=0 from fun h=>by rw [hX];unfold xD alignD;rw [if_pos (.inl h)];exact numV_nil h)
 have ha0:0<a.digits.size→0<b.digits.size→ez=min a.exp b.exp∧x=padS a.digits (a.exp-ez).toNat∧y=padS b.digits (b.exp-ez).toNat:=fun h1 h2=>by
  rw [hx,hy,hez]
  unfold expD alignD
  rw [if_neg (by omega),if_neg (by omega),if_neg (by omega)]
  exact ⟨rfl,rfl,rfl⟩
 have HPAD:=Hd ha0
 clear ha0
 by_cases h0:b.digits.size=0
 ·have HQ:=Hd (show modD a b=(dec0,14) by unfold modD;rw [if_pos h0])
  have hd:=toList_nil h0
  clear h0 SY0
  have hT:=Hd (tdec w a b [.bool false,.string ⟨#[]⟩,.int .i64 0])
  have ca0:=hT.out.one.cell (j:=0) (v:=.bool a.neg) rfl
  have ca1:=hT.out.one.cell (j:=1) (v:=.string a.digits) rfl
  have ca2:=hT.out.one.cell (j:=2) (v:=.int .i64 a.exp) rfl
  have cb0:=hT.out.two.cell (j:=0) (v:=.bool b.neg) rfl
  have cb1:=hT.out.two.cell (j:=1) (v:=.string b.digits) rfl
  have cb2:=hT.out.two.cell (j:=2) (v:=.int .i64 b.exp) rfl
  go_enter Tryz.func37,Tryz.ntmps37
  go_wp2_with ((with_reducible show wpList _ _ _ (⟨none,.store 23 (.tmp 4) _,_,_,_,_⟩::_) _ _);refine wpList_store_at rfl 23 _ _ rfl (w.heap.size+1+1) 0 [.bool false,.string ⟨#[]⟩,.int .i64 0] rfl rfl 23 _ [.bool false,.string ⟨#[]⟩,.int .i64 0] hT.out.res sizeDECl rfl (Nat.le_refl 3) (dec_one _ _ _) ?_)
  refine bodyPost_ret (results_cell_row2 rfl _ _ (w.heap.size+1+1) 23 _ (0,0) _ rfl (hT.out.put [.bool false,.string ⟨#[]⟩,.int .i64 0]).res Tryz.underlying23 rfl sizeDEC) rfl ?_
  exact ⟨by rw [HQ.out];try rfl,(hT.out.put [.bool false,.string ⟨#[]⟩,.int .i64 0]).below⟩
 ·have hy0:0<y.size:=SY0 (by omega)
  have hb0:0<b.digits.size:=by omega
  have eb1:b.digits.toList.isEmpty=false:=by rw [List.isEmpty_eq_false_iff];exact ne_toList (by omega)
  have eb2:(b.digits.toList==[])=false:=by rw [beq_eq_false_iff_ne];exact ne_toList (by omega)
  have eb3:¬ b.digits.toList=[]:=ne_toList (by omega)
  have ey1:y.toList.isEmpty=false:=by rw [List.isEmpty_eq_false_iff];exact ne_toList (by omega)
  have ey2:(y.toList==[])=false:=by rw [beq_eq_false_iff_ne];exact ne_toList (by omega)
  have ey3:¬ y.toList=[]:=ne_toList (by omega)
  have HMOD:=Hd (show modD a b=normD b.neg (numS (if X % Y≠0∧a.neg≠b.neg then Y-X % Y else X % Y)) ez by unfold modD;rw [if_neg h0,← hX,← hY,← hez])
  obtain ⟨m,hm⟩:∃ m,m=X % Y:=⟨_,rfl⟩
  have HM:=Hd hm
  have HMY:=Hd (show m<Y by rw [hm];exact Nat.mod_lt _ (by rw [← NY.out];exact numV_pos HCY.out hy0))
  rw [← hm] at HMOD
  have HAZ:=Hd (show X=0→m=0 from fun h=>by rw [hm,h,Nat.zero_mod])
  clear ha hb CX CY SY0 LXY hx hy hX hY hez h0 hm
  by_cases ha0:a.digits.size=0
  ·have hda:=toList_nil ha0
   have HQ:=Hd (show modD a b=(a,0) by rw [HMOD.out,HAZ.out (HX0.out ha0),if_neg (by simp),numS_0,vdec_zero0 HVA.out ha0];rfl)
   clear ha0
   have hT:=Hd (tdec w a b [.bool false,.string ⟨#[]⟩,.int .i64 0])
   have ca0:=hT.out.one.cell (j:=0) (v:=.bool a.neg) rfl
   have ca1:=hT.out.one.cell (j:=1) (v:=.string a.digits) rfl
   have ca2:=hT.out.one.cell (j:=2) (v:=.int .i64 a.exp) rfl
   have cb0:=hT.out.two.cell (j:=0) (v:=.bool b.neg) rfl
   have cb1:=hT.out.two.cell (j:=1) (v:=.string b.digits) rfl
   have cb2:=hT.out.two.cell (j:=2) (v:=.int .i64 b.exp) rfl
   go_enter Tryz.func37,Tryz.ntmps37
   go_wp2_with ((with_reducible show wpList _ _ _ (⟨none,.store 23 (.tmp 4) _,_,_,_,_⟩::_) _ _);refine wpList_store_at rfl 23 _ _ rfl (w.heap.size+1+1) 0 [.bool a.neg,.string a.digits,.int .i64 a.exp] rfl rfl 23 _ [.bool a.neg,.string a.digits,.int .i64 a.exp] hT.out.res sizeDECl rfl (Nat.le_refl 3) (dec_one _ _ _) ?_)
   refine bodyPost_ret (results_cell_row2 rfl _ _ (w.heap.size+1+1) 23 _ (0,0) _ rfl (hT.out.put [.bool a.neg,.string a.digits,.int .i64 a.exp]).res Tryz.underlying23 rfl sizeDEC) rfl ?_
   exact ⟨by rw [HQ.out];try rfl,(hT.out.put [.bool a.neg,.string a.digits,.int .i64 a.exp]).below⟩
  ·obtain ⟨hmn,hxp,hyp⟩:=HPAD.out (by omega) hb0
   have HMN:=Hd hmn
   have HXP:=Hd hxp
   have HYP:=Hd hyp
   have hmn1:ez≤a.exp:=by omega
   have hmn2:ez≤b.exp:=by omega
   have ea1:a.digits.toList.isEmpty=false:=by rw [List.isEmpty_eq_false_iff];exact ne_toList (by omega)
   have ea2:(a.digits.toList==[])=false:=by rw [beq_eq_false_iff_ne];exact ne_toList (by omega)
   have ea3:¬ a.digits.toList=[]:=ne_toList (by omega)
   clear ha0 hmn hxp hyp
   by_cases hm0:m=0
   ·obtain ⟨r,hr⟩:∃ r,r=normD b.neg (numS (m)) ez:=⟨_,rfl⟩
    have HR:=Hd hr
    clear hr
    obtain ⟨⟨rn,rd,re⟩,rk⟩:=r
    have HQ:=Hd (show modD a b=((⟨rn,rd,re⟩,rk):DecD×Int) by rw [HMOD.out,if_neg (by simp [hm0])];exact HR.out.symm)
    have hr1:(numS m).toList=[]:=toList_nil (by rw [hm0,numS_0];rfl)
    clear hm0
    have hT:=Hd (tdec w a b [.bool false,.string ⟨#[]⟩,.int .i64 0])
    have ca0:=hT.out.one.cell (j:=0) (v:=.bool a.neg) rfl
    have ca1:=hT.out.one.cell (j:=1) (v:=.string a.digits) rfl
    have ca2:=hT.out.one.cell (j:=2) (v:=.int .i64 a.exp) rfl
    have cb0:=hT.out.two.cell (j:=0) (v:=.bool b.neg) rfl
    have cb1:=hT.out.two.cell (j:=1) (v:=.string b.digits) rfl
    have cb2:=hT.out.two.cell (j:=2) (v:=.int .i64 b.exp) rfl
    go_enter Tryz.func37,Tryz.ntmps37
    go_wp2_with fail
    refine (lower_r a b _).mono ?_
    rintro e u1w ⟨rfl,hb⟩
    rw [← HMN.out]
    have hT1:=Hd (hT.out.later hb)
    clear hb hT ca0 ca1 ca2 cb0 cb1 cb2
    have hT:=hT1
    clear hT1
    have ca0:=hT.out.one.cell (j:=0) (v:=.bool a.neg) rfl
    have ca1:=hT.out.one.cell (j:=1) (v:=.string a.digits) rfl
    have ca2:=hT.out.one.cell (j:=2) (v:=.int .i64 a.exp) rfl
    have cb0:=hT.out.two.cell (j:=0) (v:=.bool b.neg) rfl
    have cb1:=hT.out.two.cell (j:=1) (v:=.string b.digits) rfl
    have cb2:=hT.out.two.cell (j:=2) (v:=.int .i64 b.exp) rfl
    go_wp2_with fail
    refine (atd_r b ez _ (by omega) (by omega) (by omega)).mono ?_
    rintro e u2w ⟨rfl,hb⟩
    rw [← HYP.out]
    have hT1:=Hd (hT.out.later hb)
    clear hb hT ca0 ca1 ca2 cb0 cb1 cb2
    have hT:=hT1
    clear hT1
    have ca0:=hT.out.one.cell (j:=0) (v:=.bool a.neg) rfl
    have ca1:=hT.out.one.cell (j:=1) (v:=.string a.digits) rfl
    have ca2:=hT.out.one.cell (j:=2) (v:=.int .i64 a.exp) rfl
    have cb0:=hT.out.two.cell (j:=0) (v:=.bool b.neg) rfl
    have cb1:=hT.out.two.cell (j:=1) (v:=.string b.digits) rfl
    have cb2:=hT.out.two.cell (j:=2) (v:=.int .i64 b.exp) rfl
    go_wp2_with fail
    refine (atd_r a ez _ (by omega) (by omega) (by omega)).mono ?_
    rintro e u3w ⟨rfl,hb⟩
    rw [← HXP.out]
    have hT1:=Hd (hT.out.later hb)
    clear hb hT ca0 ca1 ca2 cb0 cb1 cb2
    have hT:=hT1
    clear hT1
    have ca0:=hT.out.one.cell (j:=0) (v:=.bool a.neg) rfl
    have ca1:=hT.out.one.cell (j:=1) (v:=.string a.digits) rfl
    have ca2:=hT.out.one.cell (j:=2) (v:=.int .i64 a.exp) rfl
    have cb0:=hT.out.two.cell (j:=0) (v:=.bool b.neg) rfl
    have cb1:=hT.out.two.cell (j:=1) (v:=.string b.digits) rfl
    have cb2:=hT.out.two.cell (j:=2) (v:=.int .i64 b.exp) rfl
    go_wp2_with fail
    refine (quo_r x y _ HCX.out.1 HCY.out hy0 (by omega) (by omega)).mono ?_
    rintro e u4w ⟨rfl,hb⟩
    rw [NX.out,NY.out]
    rw [← HM.out]
    have hT1:=Hd (hT.out.later hb)
    clear hb hT ca0 ca1 ca2 cb0 cb1 cb2
    have hT:=hT1
    clear hT1
    have ca0:=hT.out.one.cell (j:=0) (v:=.bool a.neg) rfl
    have ca1:=hT.out.one.cell (j:=1) (v:=.string a.digits) rfl
    have ca2:=hT.out.one.cell (j:=2) (v:=.int .i64 a.exp) rfl
    have cb0:=hT.out.two.cell (j:=0) (v:=.bool b.neg) rfl
    have cb1:=hT.out.two.cell (j:=1) (v:=.string b.digits) rfl
    have cb2:=hT.out.two.cell (j:=2) (v:=.int .i64 b.exp) rfl
    go_wp2_with fail
    refine (nrm_r b.neg (numS (m)) (numS (m)) ez _ (by rw [strip_num (numS_canon _).1,numV_numS]) (size_of_num (Nat.lt_trans HMY.out HLY.out) (by omega)) (size_of_num (Nat.lt_trans HMY.out HLY.out) (by omega)) (by omega) (by omega)).mono ?_
    rintro e u5w ⟨rfl,hb⟩
    rw [← HR.out]
    dsimp only
    have hT1:=Hd (hT.out.later hb)
    clear hb hT ca0 ca1 ca2 cb0 cb1 cb2
    have hT:=hT1
    clear hT1
    have ca0:=hT.out.one.cell (j:=0) (v:=.bool a.neg) rfl
    have ca1:=hT.out.one.cell (j:=1) (v:=.string a.digits) rfl
    have ca2:=hT.out.one.cell (j:=2) (v:=.int .i64 a.exp) rfl
    have cb0:=hT.out.two.cell (j:=0) (v:=.bool b.neg) rfl
    have cb1:=hT.out.two.cell (j:=1) (v:=.string b.digits) rfl
    have cb2:=hT.out.two.cell (j:=2) (v:=.int .i64 b.exp) rfl
    go_wp2_with ((with_reducible show wpList _ _ _ (⟨none,.store 23 (.tmp 4) _,_,_,_,_⟩::_) _ _);refine wpList_store_at rfl 23 _ _ rfl (w.heap.size+1+1) 0 [.bool rn,.string rd,.int .i64 re] rfl rfl 23 _ [.bool rn,.string rd,.int .i64 re] hT.out.res sizeDECl rfl (Nat.le_refl 3) (dec_one _ _ _) ?_)
    refine bodyPost_ret (results_cell_row2 rfl _ _ (w.heap.size+1+1) 23 _ (0,0) _ rfl (hT.out.put [.bool rn,.string rd,.int .i64 re]).res Tryz.underlying23 rfl sizeDEC) rfl ?_
    exact ⟨by rw [HQ.out];try rfl,(hT.out.put [.bool rn,.string rd,.int .i64 re]).below⟩
   ·have hrp:0<(numS m).size:=by
     rcases Nat.eq_zero_or_pos (numS m).size with h | h
     ·exact absurd (numS_size0.1 h) hm0
     ·exact h
    have er1:(numS m).toList.isEmpty=false:=by rw [List.isEmpty_eq_false_iff];exact ne_toList (by omega)
    have er2:((numS m).toList==[])=false:=by rw [beq_eq_false_iff_ne];exact ne_toList (by omega)
    have er3:¬ (numS m).toList=[]:=ne_toList (by omega)
    have HM0:=Hd hm0
    clear hrp hm0
    cases g with
    | false =>
      obtain ⟨r,hr⟩:∃ r,r=normD b.neg (numS (m)) ez:=⟨_,rfl⟩
      have HR:=Hd hr
      clear hr
      obtain ⟨⟨rn,rd,re⟩,rk⟩:=r
      have HQ:=Hd (show modD a b=((⟨rn,rd,re⟩,rk):DecD×Int) by rw [HMOD.out,if_neg (by simp only [bne_eq_false_iff_eq] at hg;simp [hg])];exact HR.out.symm)
      have hT:=Hd (tdec w a b [.bool false,.string ⟨#[]⟩,.int .i64 0])
      have ca0:=hT.out.one.cell (j:=0) (v:=.bool a.neg) rfl
      have ca1:=hT.out.one.cell (j:=1) (v:=.string a.digits) rfl
      have ca2:=hT.out.one.cell (j:=2) (v:=.int .i64 a.exp) rfl
      have cb0:=hT.out.two.cell (j:=0) (v:=.bool b.neg) rfl
      have cb1:=hT.out.two.cell (j:=1) (v:=.string b.digits) rfl
      have cb2:=hT.out.two.cell (j:=2) (v:=.int .i64 b.exp) rfl
      go_enter Tryz.func37,Tryz.ntmps37
      go_wp2_with fail
      refine (lower_r a b _).mono ?_
      rintro e u6w ⟨rfl,hb⟩
      rw [← HMN.out]
      have hT1:=Hd (hT.out.later hb)
      clear hb hT ca0 ca1 ca2 cb0 cb1 cb2
      have hT:=hT1
      clear hT1
      have ca0:=hT.out.one.cell (j:=0) (v:=.bool a.neg) rfl
      have ca1:=hT.out.one.cell (j:=1) (v:=.string a.digits) rfl
      have ca2:=hT.out.one.cell (j:=2) (v:=.int .i64 a.exp) rfl
      have cb0:=hT.out.two.cell (j:=0) (v:=.bool b.neg) rfl
      have cb1:=hT.out.two.cell (j:=1) (v:=.string b.digits) rfl
      have cb2:=hT.out.two.cell (j:=2) (v:=.int .i64 b.exp) rfl
      go_wp2_with fail
      refine (atd_r b ez _ (by omega) (by omega) (by omega)).mono ?_
      rintro e u7w ⟨rfl,hb⟩
      rw [← HYP.out]
      have hT1:=Hd (hT.out.later hb)
      clear hb hT ca0 ca1 ca2 cb0 cb1 cb2
      have hT:=hT1
      clear hT1
      have ca0:=hT.out.one.cell (j:=0) (v:=.bool a.neg) rfl
      have ca1:=hT.out.one.cell (j:=1) (v:=.string a.digits) rfl
      have ca2:=hT.out.one.cell (j:=2) (v:=.int .i64 a.exp) rfl
      have cb0:=hT.out.two.cell (j:=0) (v:=.bool b.neg) rfl
      have cb1:=hT.out.two.cell (j:=1) (v:=.string b.digits) rfl
      have cb2:=hT.out.two.cell (j:=2) (v:=.int .i64 b.exp) rfl
      go_wp2_with fail
      refine (atd_r a ez _ (by omega) (by omega) (by omega)).mono ?_
      rintro e u8w ⟨rfl,hb⟩
      rw [← HXP.out]
      have hT1:=Hd (hT.out.later hb)
      clear hb hT ca0 ca1 ca2 cb0 cb1 cb2
      have hT:=hT1
      clear hT1
      have ca0:=hT.out.one.cell (j:=0) (v:=.bool a.neg) rfl
      have ca1:=hT.out.one.cell (j:=1) (v:=.string a.digits) rfl
      have ca2:=hT.out.one.cell (j:=2) (v:=.int .i64 a.exp) rfl
      have cb0:=hT.out.two.cell (j:=0) (v:=.bool b.neg) rfl
      have cb1:=hT.out.two.cell (j:=1) (v:=.string b.digits) rfl
      have cb2:=hT.out.two.cell (j:=2) (v:=.int .i64 b.exp) rfl
      go_wp2_with fail
      refine (quo_r x y _ HCX.out.1 HCY.out hy0 (by omega) (by omega)).mono ?_
      rintro e u9w ⟨rfl,hb⟩
      rw [NX.out,NY.out]
      rw [← HM.out]
      have hT1:=Hd (hT.out.later hb)
      clear hb hT ca0 ca1 ca2 cb0 cb1 cb2
      have hT:=hT1
      clear hT1
      have ca0:=hT.out.one.cell (j:=0) (v:=.bool a.neg) rfl
      have ca1:=hT.out.one.cell (j:=1) (v:=.string a.digits) rfl
      have ca2:=hT.out.one.cell (j:=2) (v:=.int .i64 a.exp) rfl
      have cb0:=hT.out.two.cell (j:=0) (v:=.bool b.neg) rfl
      have cb1:=hT.out.two.cell (j:=1) (v:=.string b.digits) rfl
      have cb2:=hT.out.two.cell (j:=2) (v:=.int .i64 b.exp) rfl
      go_wp2_with fail
      refine (nrm_r b.neg (numS (m)) (numS (m)) ez _ (by rw [strip_num (numS_canon _).1,numV_numS]) (size_of_num (Nat.lt_trans HMY.out HLY.out) (by omega)) (size_of_num (Nat.lt_trans HMY.out HLY.out) (by omega)) (by omega) (by omega)).mono ?_
      rintro e u10w ⟨rfl,hb⟩
      rw [← HR.out]
      dsimp only
      have hT1:=Hd (hT.out.later hb)
      clear hb hT ca0 ca1 ca2 cb0 cb1 cb2
      have hT:=hT1
      clear hT1
      have ca0:=hT.out.one.cell (j:=0) (v:=.bool a.neg) rfl
      have ca1:=hT.out.one.cell (j:=1) (v:=.string a.digits) rfl
      have ca2:=hT.out.one.cell (j:=2) (v:=.int .i64 a.exp) rfl
      have cb0:=hT.out.two.cell (j:=0) (v:=.bool b.neg) rfl
      have cb1:=hT.out.two.cell (j:=1) (v:=.string b.digits) rfl
      have cb2:=hT.out.two.cell (j:=2) (v:=.int .i64 b.exp) rfl
      go_wp2_with ((with_reducible show wpList _ _ _ (⟨none,.store 23 (.tmp 4) _,_,_,_,_⟩::_) _ _);refine wpList_store_at rfl 23 _ _ rfl (w.heap.size+1+1) 0 [.bool rn,.string rd,.int .i64 re] rfl rfl 23 _ [.bool rn,.string rd,.int .i64 re] hT.out.res sizeDECl rfl (Nat.le_refl 3) (dec_one _ _ _) ?_)
      refine bodyPost_ret (results_cell_row2 rfl _ _ (w.heap.size+1+1) 23 _ (0,0) _ rfl (hT.out.put [.bool rn,.string rd,.int .i64 re]).res Tryz.underlying23 rfl sizeDEC) rfl ?_
      exact ⟨by rw [HQ.out];try rfl,(hT.out.put [.bool rn,.string rd,.int .i64 re]).below⟩
    | true =>
      obtain ⟨r,hr⟩:∃ r,r=normD b.neg (numS (Y-m)) ez:=⟨_,rfl⟩
      have HR:=Hd hr
      clear hr
      obtain ⟨⟨rn,rd,re⟩,rk⟩:=r
      have HQ:=Hd (show modD a b=((⟨rn,rd,re⟩,rk):DecD×Int) by rw [HMOD.out,if_pos ⟨HM0.out,by simpa using hg⟩];exact HR.out.symm)
      have hms:(numS m).size≤4096:=size_of_num (Nat.lt_trans HMY.out HLY.out) (by omega)
      have hT:=Hd (tdec w a b [.bool false,.string ⟨#[]⟩,.int .i64 0])
      have ca0:=hT.out.one.cell (j:=0) (v:=.bool a.neg) rfl
      have ca1:=hT.out.one.cell (j:=1) (v:=.string a.digits) rfl
      have ca2:=hT.out.one.cell (j:=2) (v:=.int .i64 a.exp) rfl
      have cb0:=hT.out.two.cell (j:=0) (v:=.bool b.neg) rfl
      have cb1:=hT.out.two.cell (j:=1) (v:=.string b.digits) rfl
      have cb2:=hT.out.two.cell (j:=2) (v:=.int .i64 b.exp) rfl
      go_enter Tryz.func37,Tryz.ntmps37
      go_wp2_with fail
      refine (lower_r a b _).mono ?_
      rintro e u11w ⟨rfl,hb⟩
      rw [← HMN.out]
      have hT1:=Hd (hT.out.later hb)
      clear hb hT ca0 ca1 ca2 cb0 cb1 cb2
      have hT:=hT1
      clear hT1
      have ca0:=hT.out.one.cell (j:=0) (v:=.bool a.neg) rfl
      have ca1:=hT.out.one.cell (j:=1) (v:=.string a.digits) rfl
      have ca2:=hT.out.one.cell (j:=2) (v:=.int .i64 a.exp) rfl
      have cb0:=hT.out.two.cell (j:=0) (v:=.bool b.neg) rfl
      have cb1:=hT.out.two.cell (j:=1) (v:=.string b.digits) rfl
      have cb2:=hT.out.two.cell (j:=2) (v:=.int .i64 b.exp) rfl
      go_wp2_with fail
      refine (atd_r b ez _ (by omega) (by omega) (by omega)).mono ?_
      rintro e u12w ⟨rfl,hb⟩
      rw [← HYP.out]
      have hT1:=Hd (hT.out.later hb)
      clear hb hT ca0 ca1 ca2 cb0 cb1 cb2
      have hT:=hT1
      clear hT1
      have ca0:=hT.out.one.cell (j:=0) (v:=.bool a.neg) rfl
      have ca1:=hT.out.one.cell (j:=1) (v:=.string a.digits) rfl
      have ca2:=hT.out.one.cell (j:=2) (v:=.int .i64 a.exp) rfl
      have cb0:=hT.out.two.cell (j:=0) (v:=.bool b.neg) rfl
      have cb1:=hT.out.two.cell (j:=1) (v:=.string b.digits) rfl
      have cb2:=hT.out.two.cell (j:=2) (v:=.int .i64 b.exp) rfl
      go_wp2_with fail
      refine (atd_r a ez _ (by omega) (by omega) (by omega)).mono ?_
      rintro e u13w ⟨rfl,hb⟩
      rw [← HXP.out]
      have hT1:=Hd (hT.out.later hb)
      clear hb hT ca0 ca1 ca2 cb0 cb1 cb2
      have hT:=hT1
      clear hT1
      have ca0:=hT.out.one.cell (j:=0) (v:=.bool a.neg) rfl
      have ca1:=hT.out.one.cell (j:=1) (v:=.string a.digits) rfl
      have ca2:=hT.out.one.cell (j:=2) (v:=.int .i64 a.exp) rfl
      have cb0:=hT.out.two.cell (j:=0) (v:=.bool b.neg) rfl
      have cb1:=hT.out.two.cell (j:=1) (v:=.string b.digits) rfl
      have cb2:=hT.out.two.cell (j:=2) (v:=.int .i64 b.exp) rfl
      go_wp2_with fail
      refine (quo_r x y _ HCX.out.1 HCY.out hy0 (by omega) (by omega)).mono ?_
      rintro e u14w ⟨rfl,hb⟩
      rw [NX.out,NY.out]
      rw [← HM.out]
      have hT1:=Hd (hT.out.later hb)
      clear hb hT ca0 ca1 ca2 cb0 cb1 cb2
      have hT:=hT1
      clear hT1
      have ca0:=hT.out.one.cell (j:=0) (v:=.bool a.neg) rfl
      have ca1:=hT.out.one.cell (j:=1) (v:=.string a.digits) rfl
      have ca2:=hT.out.one.cell (j:=2) (v:=.int .i64 a.exp) rfl
      have cb0:=hT.out.two.cell (j:=0) (v:=.bool b.neg) rfl
      have cb1:=hT.out.two.cell (j:=1) (v:=.string b.digits) rfl
      have cb2:=hT.out.two.cell (j:=2) (v:=.int .i64 b.exp) rfl
      go_wp2_with fail
      refine (less_r y (numS m) _ HCY.out.1 (numS_canon _).1 (by omega) (by omega) (by rw [numV_numS,NY.out];exact Nat.le_of_lt HMY.out)).mono ?_
      rintro e u15w ⟨rfl,hb⟩
      rw [numV_numS,NY.out]
      have hT1:=Hd (hT.out.later hb)
      clear hb hT ca0 ca1 ca2 cb0 cb1 cb2
      have hT:=hT1
      clear hT1
      have ca0:=hT.out.one.cell (j:=0) (v:=.bool a.neg) rfl
      have ca1:=hT.out.one.cell (j:=1) (v:=.string a.digits) rfl
      have ca2:=hT.out.one.cell (j:=2) (v:=.int .i64 a.exp) rfl
      have cb0:=hT.out.two.cell (j:=0) (v:=.bool b.neg) rfl
      have cb1:=hT.out.two.cell (j:=1) (v:=.string b.digits) rfl
      have cb2:=hT.out.two.cell (j:=2) (v:=.int .i64 b.exp) rfl
      go_wp2_with fail
      refine (nrm_r b.neg (numS (Y-m)) (numS (Y-m)) ez _ (by rw [strip_num (numS_canon _).1,numV_numS]) (size_of_num (Nat.lt_of_le_of_lt (Nat.sub_le _ _) HLY.out) (by omega)) (size_of_num (Nat.lt_of_le_of_lt (Nat.sub_le _ _) HLY.out) (by omega)) (by omega) (by omega)).mono ?_
      rintro e u16w ⟨rfl,hb⟩
      rw [← HR.out]
      dsimp only
      have hT1:=Hd (hT.out.later hb)
      clear hb hT ca0 ca1 ca2 cb0 cb1 cb2
      have hT:=hT1
      clear hT1
      have ca0:=hT.out.one.cell (j:=0) (v:=.bool a.neg) rfl
      have ca1:=hT.out.one.cell (j:=1) (v:=.string a.digits) rfl
      have ca2:=hT.out.one.cell (j:=2) (v:=.int .i64 a.exp) rfl
      have cb0:=hT.out.two.cell (j:=0) (v:=.bool b.neg) rfl
      have cb1:=hT.out.two.cell (j:=1) (v:=.string b.digits) rfl
      have cb2:=hT.out.two.cell (j:=2) (v:=.int .i64 b.exp) rfl
      go_wp2_with ((with_reducible show wpList _ _ _ (⟨none,.store 23 (.tmp 4) _,_,_,_,_⟩::_) _ _);refine wpList_store_at rfl 23 _ _ rfl (w.heap.size+1+1) 0 [.bool rn,.string rd,.int .i64 re] rfl rfl 23 _ [.bool rn,.string rd,.int .i64 re] hT.out.res sizeDECl rfl (Nat.le_refl 3) (dec_one _ _ _) ?_)
      refine bodyPost_ret (results_cell_row2 rfl _ _ (w.heap.size+1+1) 23 _ (0,0) _ rfl (hT.out.put [.bool rn,.string rd,.int .i64 re]).res Tryz.underlying23 rfl sizeDEC) rfl ?_
      exact ⟨by rw [HQ.out];try rfl,(hT.out.put [.bool rn,.string rd,.int .i64 re]).below⟩
end Go.Proofs.YtmjfggadehkbjaaGreatDoor
