/- The walks of quotients of decimals: Div of both sides. -/
import Derived.Test.YtmjfggadehkbjaaGreatDoorProg
import Derived.Test.YtmjfggadehkbjaaGreatDoorGA
import Derived.Test.YtmjfggadehkbjaaGreatDoorGB
import Derived.Test.YtmjfggadehkbjaaGreatDoorGC
import Derived.Test.YtmjfggadehkbjaaGreatDoorGD
import Derived.Test.YtmjfggadehkbjaaGreatDoorRow36
import Derived.Test.YtmjfggadehkbjaaGreatDoorGF
import Derived.Test.YtmjfggadehkbjaaGreatDoorXA
import Derived.Test.YtmjfggadehkbjaaGreatDoorXI
import Derived.Test.YtmjfggadehkbjaaGreatDoorXK
import Derived.Test.YtmjfggadehkbjaaGreatDoorAA
import Derived.Test.YtmjfggadehkbjaaGreatDoorAra03
import Derived.Test.YtmjfggadehkbjaaGreatDoorAC
import Derived.Test.YtmjfggadehkbjaaGreatDoorAB
import Derived.Below
import Derived.Laws.AppendOwn
import Derived.Deep.Slices
import Derived.Deep.RegionHeld3
import Derived.Lib.Hide
import Derived.Deep.MidRow
import Derived.WalkKit
import Derived.WalkSpells
import Derived.WalkLawsBesides
import Derived.LoopTactic
import Derived.BigQuiet
import Derived.Deep.QuietTactic
import Derived.Laws.BytesArg
import Derived.OwnWalk
import Derived.Shelf.Strings.Builder1
import Derived.Shelf.Strings.Builder2
import Derived.Shelf.Strings.Trim
import Derived.Shelf.Small.Utf8
import Derived.Shelf.Small.Strs
import Derived.Shelf.Strings.BuilderF
import Derived.Shelf.Strings.BuilderK
import Derived.Shelf.Utf8.RuneCount
import Derived.Shelf.Strings.Builder2Cap
import Derived.Shelf.Strings.Search1
import Derived.Shelf.Strings.Search2
import Derived.Shelf.Strings.Search3
import Derived.Shelf.Strings.Count
import Derived.Shelf.LaysM
import Derived.Shelf.Strings.Shaped
import Derived.Shelf.Strings.Prefix
import Derived.Shelf.Strings.Split
import Derived.Shelf.Strings.SplitShaped
import Derived.Shelf.Unicode.Decode
import Derived.Shelf.Strings.Runes
import Derived.Shelf.Strings.RuneCount
import Derived.Shelf.Strings.AsciiSet
import Derived.Shelf.Strings.Explode
import Derived.Shelf.Bits.Mul64
import Derived.Shelf.Strings.Repeat
import Derived.Shelf.Unicode.DecodeSlow
import Derived.Shelf.Unicode.DecodeAny
import Derived.Shelf.Unicode.DecodeLast
import Derived.Ground.Names2Prog
import Derived.Shelf.Slices.SearchI
import Derived.Deep.AppendLies
import Derived.Lib.Repeat
import Derived.Laws.OwnMore
import Derived.Lib.SliceRun
import Derived.OrdersHeld
import Derived.Laws.CopyOwn
import Derived.Deep.WholeRow
import Derived.Laws.CopyRow
import Derived.Maps.OwnOps
import Derived.Maps.OwnSet
import Derived.Maps.Views
import Derived.Deep.Light
import Derived.Lib.Bytealg
import Derived.StillTailTactics
import Derived.Deep.DeepCutAuto
import Derived.Great.BuildSlice
import Derived.Sort.Walk0
import Derived.Deep.DeepMust
import Derived.Lib.TrimByte
namespace Go.Proofs.YtmjfggadehkbjaaGreatDoor
open Go.RowKit
set_option maxRecDepth 100000 in
set_option maxHeartbeats 6400000 in
theorem div_pp (a b:DecD) (w:World) (ha:VDec a) (hb:VDec b) :
 Calls Tryz.prog 29 #[.agg #[.bool a.neg,.string a.digits,.int .i64 a.exp],.agg #[.bool b.neg,.string b.digits,.int .i64 b.exp]] w (DecV (divD a b) w):=by
 have CA:=vdec_canon ha
 have CB:=vdec_canon hb
 obtain ⟨sa1,sa2,sa3⟩:=vdec_small ha
 obtain ⟨sb1,sb2,sb3⟩:=vdec_small hb
 have HVA:=Hd ha
 have HVB:=Hd hb
 have HCA:=Hd CA
 have HCB:=Hd CB
 obtain ⟨g,hg⟩:∃ g,(a.neg != b.neg)=g:=⟨_,rfl⟩
 have hg2:(a.neg==b.neg)=!g:=by rw [← hg];simp [bne]
 clear ha hb CA CB
 by_cases h0:b.digits.size=0
 ·have HQ:=Hd (show divD a b=(dec0,14) by unfold divD;rw [if_pos h0])
  have hd:=toList_nil h0
  clear h0
  have hT:=Hd (tdec w a b [.bool false,.string ⟨#[]⟩,.int .i64 0])
  have ca0:=hT.out.one.cell (j:=0) (v:=.bool a.neg) rfl
  have ca1:=hT.out.one.cell (j:=1) (v:=.string a.digits) rfl
  have ca2:=hT.out.one.cell (j:=2) (v:=.int .i64 a.exp) rfl
  have cb0:=hT.out.two.cell (j:=0) (v:=.bool b.neg) rfl
  have cb1:=hT.out.two.cell (j:=1) (v:=.string b.digits) rfl
  have cb2:=hT.out.two.cell (j:=2) (v:=.int .i64 b.exp) rfl
  go_enter Tryz.func29,Tryz.ntmps29
  go_wp2_with ((with_reducible show wpList _ _ _ (⟨none,.store 23 (.tmp 4) _,_,_,_,_⟩::_) _ _);refine wpList_store_at rfl 23 _ _ rfl (w.heap.size+1+1) 0 [.bool false,.string ⟨#[]⟩,.int .i64 0] rfl rfl 23 _ [.bool false,.string ⟨#[]⟩,.int .i64 0] hT.out.res sizeDECl rfl (Nat.le_refl 3) (dec_one _ _ _) ?_)
  refine bodyPost_ret (results_cell_row2 rfl _ _ (w.heap.size+1+1) 23 _ (0,0) _ rfl (hT.out.put [.bool false,.string ⟨#[]⟩,.int .i64 0]).res Tryz.underlying23 rfl sizeDEC) rfl ?_
  exact ⟨by rw [HQ.out];try rfl,(hT.out.put [.bool false,.string ⟨#[]⟩,.int .i64 0]).below⟩
 ·have eb1:b.digits.toList.isEmpty=false:=by rw [List.isEmpty_eq_false_iff];exact ne_toList (by omega)
  have eb2:(b.digits.toList==[])=false:=by rw [beq_eq_false_iff_ne];exact ne_toList (by omega)
  have eb3:¬ b.digits.toList=[]:=ne_toList (by omega)
  have hb0:0<b.digits.size:=by omega
  obtain ⟨A,hA⟩:∃ A,A=numV a.digits * 10 ^ e400:=⟨_,rfl⟩
  obtain ⟨B,hB⟩:∃ B,B=numV b.digits:=⟨_,rfl⟩
  obtain ⟨x,hx⟩:∃ x,x=padS a.digits 400:=⟨_,rfl⟩
  have NX:=Hd (show numV x=A by rw [hx,hA];exact numV_pad4 _)
  have HA0:=Hd (show a.digits.size=0→A=0 from fun h=>by rw [hA,numV_nil h,Nat.zero_mul])
  have HXP:=Hd (show x=a.digits++zerosS 400 from hx)
  have HXS:=Hd (show x.size=a.digits.size+400 by rw [hx,padS_size])
  have DX:=Hd (show DigS x by
   rw [hx]
   rcases Nat.eq_zero_or_pos a.digits.size with h | h
   ·intro i hi
    unfold padS at hi ⊢
    rw [byteI_append]
    rw [ByteArray.size_append,zerosS_size] at hi
    rw [if_neg (by omega),byteI_zeros _ _ (by omega)]
    omega
   ·exact (canon_pad HCA.out h _).1)
  have HLT:=Hd (show A<10 ^ x.size by have:=numV_lt DX.out;rw [NX.out] at this;exact this)
  have HDIV:=Hd (show divD a b=if A % B≠0 then (dec0,15) else normD g (numS (A / B)) (a.exp-b.exp-400) by unfold divD;rw [if_neg h0,hg,← hA,← hB])
  have HBE:=Hd hB
  have hxs:x.size≤520:=by have:=HXS.out;omega
  clear hA hB hx h0
  by_cases ha0:a.digits.size=0
  ·have HQ:=Hd (show divD a b=(dec0,0) by rw [HDIV.out,HA0.out ha0,Nat.zero_mod,if_neg (by simp),Nat.zero_div,numS_0];rfl)
   have hda:=toList_nil ha0
   clear ha0
   have hT:=Hd (tdec w a b [.bool false,.string ⟨#[]⟩,.int .i64 0])
   have ca0:=hT.out.one.cell (j:=0) (v:=.bool a.neg) rfl
   have ca1:=hT.out.one.cell (j:=1) (v:=.string a.digits) rfl
   have ca2:=hT.out.one.cell (j:=2) (v:=.int .i64 a.exp) rfl
   have cb0:=hT.out.two.cell (j:=0) (v:=.bool b.neg) rfl
   have cb1:=hT.out.two.cell (j:=1) (v:=.string b.digits) rfl
   have cb2:=hT.out.two.cell (j:=2) (v:=.int .i64 b.exp) rfl
   go_enter Tryz.func29,Tryz.ntmps29
   go_wp2_with ((with_reducible show wpList _ _ _ (⟨none,.store 23 (.tmp 4) _,_,_,_,_⟩::_) _ _);refine wpList_store_at rfl 23 _ _ rfl (w.heap.size+1+1) 0 [.bool false,.string ⟨#[]⟩,.int .i64 0] rfl rfl 23 _ [.bool false,.string ⟨#[]⟩,.int .i64 0] hT.out.res sizeDECl rfl (Nat.le_refl 3) (dec_one _ _ _) ?_)
   refine bodyPost_ret (results_cell_row2 rfl _ _ (w.heap.size+1+1) 23 _ (0,0) _ rfl (hT.out.put [.bool false,.string ⟨#[]⟩,.int .i64 0]).res Tryz.underlying23 rfl sizeDEC) rfl ?_
   exact ⟨by rw [HQ.out];try rfl,(hT.out.put [.bool false,.string ⟨#[]⟩,.int .i64 0]).below⟩
  ·have ea1:a.digits.toList.isEmpty=false:=by rw [List.isEmpty_eq_false_iff];exact ne_toList (by omega)
   have ea2:(a.digits.toList==[])=false:=by rw [beq_eq_false_iff_ne];exact ne_toList (by omega)
   have ea3:¬ a.digits.toList=[]:=ne_toList (by omega)
   clear ha0
   have hzs:=zerosS_size 400
   have hxe:=HXP.out.symm
   obtain ⟨m,hm⟩:∃ m,m=A % B:=⟨_,rfl⟩
   have HM:=Hd hm
   clear hm
   by_cases hm0:m=0
   ·obtain ⟨r,hr⟩:∃ r,r=normD g (numS (A / B)) (a.exp-b.exp-400):=⟨_,rfl⟩
    have HR:=Hd hr
    clear hr
    obtain ⟨⟨rn,rd,re⟩,rk⟩:=r
    have HQ:=Hd (show divD a b=((⟨rn,rd,re⟩,rk):DecD×Int) by rw [HDIV.out,← HM.out,if_neg (by simp [hm0])];exact HR.out.symm)
    have hrz:(numS (A % B)).toList=[]:=toList_nil (by rw [← HM.out,hm0,numS_0];rfl)
    clear hm0
    have hT:=Hd (tdec w a b [.bool false,.string ⟨#[]⟩,.int .i64 0])
    have ca0:=hT.out.one.cell (j:=0) (v:=.bool a.neg) rfl
    have ca1:=hT.out.one.cell (j:=1) (v:=.string a.digits) rfl
    have ca2:=hT.out.one.cell (j:=2) (v:=.int .i64 a.exp) rfl
    have cb0:=hT.out.two.cell (j:=0) (v:=.bool b.neg) rfl
    have cb1:=hT.out.two.cell (j:=1) (v:=.string b.digits) rfl
    have cb2:=hT.out.two.cell (j:=2) (v:=.int .i64 b.exp) rfl
    go_enter Tryz.func29,Tryz.ntmps29
    go_wp2_with fail
    refine (dec_valid a _ HVA.out).mono ?_
    rintro e u1w ⟨rfl,hb⟩
    have hT1:=Hd (hT.out.later hb)
    clear hb hT ca0 ca1 ca2 cb0 cb1 cb2
    have hT:=hT1
    clear hT1
    have ca0:=hT.out.one.cell (j:=0) (v:=.bool a.neg) rfl
    have ca1:=hT.out.one.cell (j:=1) (v:=.string a.digits) rfl
    have ca2:=hT.out.one.cell (j:=2) (v:=.int .i64 a.exp) rfl
    have cb0:=hT.out.two.cell (j:=0) (v:=.bool b.neg) rfl
    have cb1:=hT.out.two.cell (j:=1) (v:=.string b.digits) rfl
    have cb2:=hT.out.two.cell (j:=2) (v:=.int .i64 b.exp) rfl
    go_wp2_with fail
    refine (dec_valid b _ HVB.out).mono ?_
    rintro e u2w ⟨rfl,hb⟩
    have hT1:=Hd (hT.out.later hb)
    clear hb hT ca0 ca1 ca2 cb0 cb1 cb2
    have hT:=hT1
    clear hT1
    have ca0:=hT.out.one.cell (j:=0) (v:=.bool a.neg) rfl
    have ca1:=hT.out.one.cell (j:=1) (v:=.string a.digits) rfl
    have ca2:=hT.out.one.cell (j:=2) (v:=.int .i64 a.exp) rfl
    have cb0:=hT.out.two.cell (j:=0) (v:=.bool b.neg) rfl
    have cb1:=hT.out.two.cell (j:=1) (v:=.string b.digits) rfl
    have cb2:=hT.out.two.cell (j:=2) (v:=.int .i64 b.exp) rfl
    go_wp2_with fail
    refine wp_region_held_drew (S:=fun u=>∃ zc,Tdec w u a b zc) (by kernel_rfl) ⟨_,hT.out.drew⟩ (fun hHeld=>?_)
    have hT1:=Hd hT.out.drew
    clear hT ca0 ca1 ca2 cb0 cb1 cb2
    have hT:=hT1
    clear hT1
    refine' tk 0 (.pointer (some ⟨w.heap.size,1,none⟩)) rfl rfl (.inl ⟨by rfl,fun u hu=>(by go_simp)⟩) hHeld ?_
    simp only [sq1,sq0]
    refine' tk 1 (.string a.digits) rfl rfl (.inl ⟨by rfl,fun u hu=>(by obtain ⟨_,T⟩:=hu;have hc:=T.one.cell (j:=1) (v:=.string a.digits) rfl;go_simp)⟩) hHeld ?_
    simp only [sq1,sq0]
    refine' tk 4 (.pointer (some ⟨w.heap.size+1,1,none⟩)) rfl rfl (.inl ⟨by rfl,fun u hu=>(by go_simp)⟩) hHeld ?_
    simp only [sq1,sq0]
    refine' tk 5 (.string b.digits) rfl rfl (.inl ⟨by rfl,fun u hu=>(by obtain ⟨_,T⟩:=hu;have hc:=T.two.cell (j:=1) (v:=.string b.digits) rfl;go_simp)⟩) hHeld ?_
    simp only [sq1,sq0]
    refine rd1 2 rfl (fun K hK=>?_)
    rw [if_pos (by rfl)]
    go_simp
    refine (rep8_ex 400 _ (by omega)).mono ?_
    rintro e u3w ⟨rfl,hbC⟩
    have hT1:=Hd (hT.out.later hbC)
    refine hK.out _ _ ⟨_,hT1.out⟩ (fun hHeldx=>?_)
    clear hK K hHeld hbC hT
    have hT:=hT1
    have hHeld:=hHeldx
    clear hT1 hHeldx
    refine' tk 3 (.string x) rfl rfl (.inl ⟨by rfl,fun u hu=>(by go_simp;all_goals first | exact hg2 | omega | (rw [IntKind.wrap_i64];omega) | rfl)⟩) hHeld ?_
    simp only [sq1,sq0]
    refine rd1 6 rfl (fun K hK=>?_)
    rw [if_pos (by rfl)]
    go_simp
    refine (div_p x b.digits _ DX.out HCB.out hb0 (by omega) (by omega)).mono ?_
    rintro e u4w ⟨rfl,hbC⟩
    rw [NX.out,← HBE.out]
    have hT1:=Hd (hT.out.later hbC)
    refine hK.out _ _ ⟨_,hT1.out⟩ (fun hHeldx=>?_)
    clear hK K hHeld hbC hT
    have hT:=hT1
    have hHeld:=hHeldx
    clear hT1 hHeldx
    refine' tk 7 (.tuple #[.string (numS (A / B)),.string (numS (A % B))]) rfl rfl (.inl ⟨by rfl,fun u hu=>(by go_simp)⟩) hHeld ?_
    simp only [sq1,sq0]
    refine' tk 8 (.string (numS (A / B))) rfl rfl (.inl ⟨by rfl,fun u hu=>(by go_simp)⟩) hHeld ?_
    simp only [sq1,sq0]
    refine' tk 9 (.string (numS (A % B))) rfl rfl (.inl ⟨by rfl,fun u hu=>(by go_simp)⟩) hHeld ?_
    simp only [sq1,sq0]
    refine rd1 10 rfl (fun K hK=>?_)
    rw [if_pos (by rfl)]
    go_simp
    refine hK.out _ _ hHeld (fun hHeldx=>?_)
    clear hK K hHeldx
    refine rd1 11 rfl (fun K hK=>?_)
    rw [if_pos (by rfl)]
    go_simp
    refine hK.out _ _ hHeld (fun hHeldx=>?_)
    clear hK K hHeldx
    refine wpAnyH_done (by kernel_rfl) ?_ _
    clear hHeld
    have ca0:=hT.out.one.cell (j:=0) (v:=.bool a.neg) rfl
    have ca1:=hT.out.one.cell (j:=1) (v:=.string a.digits) rfl
    have ca2:=hT.out.one.cell (j:=2) (v:=.int .i64 a.exp) rfl
    have cb0:=hT.out.two.cell (j:=0) (v:=.bool b.neg) rfl
    have cb1:=hT.out.two.cell (j:=1) (v:=.string b.digits) rfl
    have cb2:=hT.out.two.cell (j:=2) (v:=.int .i64 b.exp) rfl
    go_wp2_with fail
    refine (norm_p g (numS (A / B)) (a.exp-b.exp-400) _ (size_of_num (Nat.lt_of_le_of_lt (Nat.div_le_self _ _) HLT.out) (by omega)) (by omega) (by omega)).mono ?_
    rintro e u5w ⟨rfl,hb⟩
    rw [← HR.out]
    dsimp only
    have hT1:=Hd (hT.out.later hb)
    clear hb hT ca0 ca1 ca2 cb0 cb1 cb2
    have hT:=hT1
    clear hT1
    have ca0:=hT.out.one.cell (j:=0) (v:=.bool a.neg) rfl
    have ca1:=hT.out.one.cell (j:=1) (v:=.string a.digits) rfl
    have ca2:=hT.out.one.cell (j:=2) (v:=.int .i64 a.exp) rfl
    have cb0:=hT.out.two.cell (j:=0) (v:=.bool b.neg) rfl
    have cb1:=hT.out.two.cell (j:=1) (v:=.string b.digits) rfl
    have cb2:=hT.out.two.cell (j:=2) (v:=.int .i64 b.exp) rfl
    go_wp2_with ((with_reducible show wpList _ _ _ (⟨none,.store 23 (.tmp 4) _,_,_,_,_⟩::_) _ _);refine wpList_store_at rfl 23 _ _ rfl (w.heap.size+1+1) 0 [.bool rn,.string rd,.int .i64 re] rfl rfl 23 _ [.bool rn,.string rd,.int .i64 re] hT.out.res sizeDECl rfl (Nat.le_refl 3) (dec_one _ _ _) ?_)
    refine bodyPost_ret (results_cell_row2 rfl _ _ (w.heap.size+1+1) 23 _ (0,0) _ rfl (hT.out.put [.bool rn,.string rd,.int .i64 re]).res Tryz.underlying23 rfl sizeDEC) rfl ?_
    exact ⟨by rw [HQ.out];try rfl,(hT.out.put [.bool rn,.string rd,.int .i64 re]).below⟩
   ·have HQ:=Hd (show divD a b=(dec0,15) by rw [HDIV.out,← HM.out,if_pos hm0])
    have hrp:0<(numS (A % B)).size:=by
     rcases Nat.eq_zero_or_pos (numS (A % B)).size with h | h
     ·exact absurd (by rw [HM.out];exact numS_size0.1 h) hm0
     ·exact h
    have er1:(numS (A % B)).toList.isEmpty=false:=by rw [List.isEmpty_eq_false_iff];exact ne_toList (by omega)
    have er2:((numS (A % B)).toList==[])=false:=by rw [beq_eq_false_iff_ne];exact ne_toList (by omega)
    have er3:¬ (numS (A % B)).toList=[]:=ne_toList (by omega)
    clear hm0 hrp
    have hT:=Hd (tdec w a b [.bool false,.string ⟨#[]⟩,.int .i64 0])
    have ca0:=hT.out.one.cell (j:=0) (v:=.bool a.neg) rfl
    have ca1:=hT.out.one.cell (j:=1) (v:=.string a.digits) rfl
    have ca2:=hT.out.one.cell (j:=2) (v:=.int .i64 a.exp) rfl
    have cb0:=hT.out.two.cell (j:=0) (v:=.bool b.neg) rfl
    have cb1:=hT.out.two.cell (j:=1) (v:=.string b.digits) rfl
    have cb2:=hT.out.two.cell (j:=2) (v:=.int .i64 b.exp) rfl
    go_enter Tryz.func29,Tryz.ntmps29
    go_wp2_with fail
    refine (dec_valid a _ HVA.out).mono ?_
    rintro e u6w ⟨rfl,hb⟩
    have hT1:=Hd (hT.out.later hb)
    clear hb hT ca0 ca1 ca2 cb0 cb1 cb2
    have hT:=hT1
    clear hT1
    have ca0:=hT.out.one.cell (j:=0) (v:=.bool a.neg) rfl
    have ca1:=hT.out.one.cell (j:=1) (v:=.string a.digits) rfl
    have ca2:=hT.out.one.cell (j:=2) (v:=.int .i64 a.exp) rfl
    have cb0:=hT.out.two.cell (j:=0) (v:=.bool b.neg) rfl
    have cb1:=hT.out.two.cell (j:=1) (v:=.string b.digits) rfl
    have cb2:=hT.out.two.cell (j:=2) (v:=.int .i64 b.exp) rfl
    go_wp2_with fail
    refine (dec_valid b _ HVB.out).mono ?_
    rintro e u7w ⟨rfl,hb⟩
    have hT1:=Hd (hT.out.later hb)
    clear hb hT ca0 ca1 ca2 cb0 cb1 cb2
    have hT:=hT1
    clear hT1
    have ca0:=hT.out.one.cell (j:=0) (v:=.bool a.neg) rfl
    have ca1:=hT.out.one.cell (j:=1) (v:=.string a.digits) rfl
    have ca2:=hT.out.one.cell (j:=2) (v:=.int .i64 a.exp) rfl
    have cb0:=hT.out.two.cell (j:=0) (v:=.bool b.neg) rfl
    have cb1:=hT.out.two.cell (j:=1) (v:=.string b.digits) rfl
    have cb2:=hT.out.two.cell (j:=2) (v:=.int .i64 b.exp) rfl
    go_wp2_with fail
    refine wp_region_held_drew (S:=fun u=>∃ zc,Tdec w u a b zc) (by kernel_rfl) ⟨_,hT.out.drew⟩ (fun hHeld=>?_)
    have hT1:=Hd hT.out.drew
    clear hT ca0 ca1 ca2 cb0 cb1 cb2
    have hT:=hT1
    clear hT1
    refine' tk 0 (.pointer (some ⟨w.heap.size,1,none⟩)) rfl rfl (.inl ⟨by rfl,fun u hu=>(by go_simp)⟩) hHeld ?_
    simp only [sq1,sq0]
    refine' tk 1 (.string a.digits) rfl rfl (.inl ⟨by rfl,fun u hu=>(by obtain ⟨_,T⟩:=hu;have hc:=T.one.cell (j:=1) (v:=.string a.digits) rfl;go_simp)⟩) hHeld ?_
    simp only [sq1,sq0]
    refine' tk 4 (.pointer (some ⟨w.heap.size+1,1,none⟩)) rfl rfl (.inl ⟨by rfl,fun u hu=>(by go_simp)⟩) hHeld ?_
    simp only [sq1,sq0]
    refine' tk 5 (.string b.digits) rfl rfl (.inl ⟨by rfl,fun u hu=>(by obtain ⟨_,T⟩:=hu;have hc:=T.two.cell (j:=1) (v:=.string b.digits) rfl;go_simp)⟩) hHeld ?_
    simp only [sq1,sq0]
    refine rd1 2 rfl (fun K hK=>?_)
    rw [if_pos (by rfl)]
    go_simp
    refine (rep8_ex 400 _ (by omega)).mono ?_
    rintro e u8w ⟨rfl,hbC⟩
    have hT1:=Hd (hT.out.later hbC)
    refine hK.out _ _ ⟨_,hT1.out⟩ (fun hHeldx=>?_)
    clear hK K hHeld hbC hT
    have hT:=hT1
    have hHeld:=hHeldx
    clear hT1 hHeldx
    refine' tk 3 (.string x) rfl rfl (.inl ⟨by rfl,fun u hu=>(by go_simp;all_goals first | exact hg2 | omega | (rw [IntKind.wrap_i64];omega) | rfl)⟩) hHeld ?_
    simp only [sq1,sq0]
    refine rd1 6 rfl (fun K hK=>?_)
    rw [if_pos (by rfl)]
    go_simp
    refine (div_p x b.digits _ DX.out HCB.out hb0 (by omega) (by omega)).mono ?_
    rintro e u9w ⟨rfl,hbC⟩
    rw [NX.out,← HBE.out]
    have hT1:=Hd (hT.out.later hbC)
    refine hK.out _ _ ⟨_,hT1.out⟩ (fun hHeldx=>?_)
    clear hK K hHeld hbC hT
    have hT:=hT1
    have hHeld:=hHeldx
    clear hT1 hHeldx
    refine' tk 7 (.tuple #[.string (numS (A / B)),.string (numS (A % B))]) rfl rfl (.inl ⟨by rfl,fun u hu=>(by go_simp)⟩) hHeld ?_
    simp only [sq1,sq0]
    refine' tk 8 (.string (numS (A / B))) rfl rfl (.inl ⟨by rfl,fun u hu=>(by go_simp)⟩) hHeld ?_
    simp only [sq1,sq0]
    refine' tk 9 (.string (numS (A % B))) rfl rfl (.inl ⟨by rfl,fun u hu=>(by go_simp)⟩) hHeld ?_
    simp only [sq1,sq0]
    refine rd1 10 rfl (fun K hK=>?_)
    rw [if_pos (by rfl)]
    go_simp
    refine hK.out _ _ hHeld (fun hHeldx=>?_)
    clear hK K hHeldx
    refine rd1 11 rfl (fun K hK=>?_)
    rw [if_pos (by rfl)]
    go_simp
    refine hK.out _ _ hHeld (fun hHeldx=>?_)
    clear hK K hHeldx
    refine wpAnyH_done (by kernel_rfl) ?_ _
    clear hHeld
    have ca0:=hT.out.one.cell (j:=0) (v:=.bool a.neg) rfl
    have ca1:=hT.out.one.cell (j:=1) (v:=.string a.digits) rfl
    have ca2:=hT.out.one.cell (j:=2) (v:=.int .i64 a.exp) rfl
    have cb0:=hT.out.two.cell (j:=0) (v:=.bool b.neg) rfl
    have cb1:=hT.out.two.cell (j:=1) (v:=.string b.digits) rfl
    have cb2:=hT.out.two.cell (j:=2) (v:=.int .i64 b.exp) rfl
    go_wp2_with ((with_reducible show wpList _ _ _ (⟨none,.store 23 (.tmp 4) _,_,_,_,_⟩::_) _ _);refine wpList_store_at rfl 23 _ _ rfl (w.heap.size+1+1) 0 [.bool false,.string ⟨#[]⟩,.int .i64 0] rfl rfl 23 _ [.bool false,.string ⟨#[]⟩,.int .i64 0] hT.out.res sizeDECl rfl (Nat.le_refl 3) (dec_one _ _ _) ?_)
    refine bodyPost_ret (results_cell_row2 rfl _ _ (w.heap.size+1+1) 23 _ (0,0) _ rfl (hT.out.put [.bool false,.string ⟨#[]⟩,.int .i64 0]).res Tryz.underlying23 rfl sizeDEC) rfl ?_
    exact ⟨by rw [HQ.out];try rfl,(hT.out.put [.bool false,.string ⟨#[]⟩,.int .i64 0]).below⟩
set_option maxRecDepth 100000 in
set_option maxHeartbeats 6400000 in
theorem div_rr (a b:DecD) (w:World) (ha:VDec a) (hb:VDec b) :
 Calls Tryz.prog 77 #[.agg #[.bool a.neg,.string a.digits,.int .i64 a.exp],.agg #[.bool b.neg,.string b.digits,.int .i64 b.exp]] w (DecV (divD a b) w):=by
 have CA:=vdec_canon ha
 have CB:=vdec_canon hb
 obtain ⟨sa1,sa2,sa3⟩:=vdec_small ha
 obtain ⟨sb1,sb2,sb3⟩:=vdec_small hb
 have HVA:=Hd ha
 have HVB:=Hd hb
 have HCA:=Hd CA
 have HCB:=Hd CB
 obtain ⟨g,hg⟩:∃ g,(a.neg != b.neg)=g:=⟨_,rfl⟩
 have hg2:(a.neg==b.neg)=!g:=by rw [← hg];simp [bne]
 clear ha hb CA CB
 by_cases h0:b.digits.size=0
 ·have HQ:=Hd (show divD a b=(dec0,14) by unfold divD;rw [if_pos h0])
  have hd:=toList_nil h0
  clear h0
  have hT:=Hd (tdec w a b [.bool false,.string ⟨#[]⟩,.int .i64 0])
  have ca0:=hT.out.one.cell (j:=0) (v:=.bool a.neg) rfl
  have ca1:=hT.out.one.cell (j:=1) (v:=.string a.digits) rfl
  have ca2:=hT.out.one.cell (j:=2) (v:=.int .i64 a.exp) rfl
  have cb0:=hT.out.two.cell (j:=0) (v:=.bool b.neg) rfl
  have cb1:=hT.out.two.cell (j:=1) (v:=.string b.digits) rfl
  have cb2:=hT.out.two.cell (j:=2) (v:=.int .i64 b.exp) rfl
  go_enter Tryz.func77,Tryz.ntmps77
  go_wp2_with ((with_reducible show wpList _ _ _ (⟨none,.store 23 (.tmp 4) _,_,_,_,_⟩::_) _ _);refine wpList_store_at rfl 23 _ _ rfl (w.heap.size+1+1) 0 [.bool false,.string ⟨#[]⟩,.int .i64 0] rfl rfl 23 _ [.bool false,.string ⟨#[]⟩,.int .i64 0] hT.out.res sizeDECl rfl (Nat.le_refl 3) (dec_one _ _ _) ?_)
  refine bodyPost_ret (results_cell_row2 rfl _ _ (w.heap.size+1+1) 23 _ (0,0) _ rfl (hT.out.put [.bool false,.string ⟨#[]⟩,.int .i64 0]).res Tryz.underlying23 rfl sizeDEC) rfl ?_
  exact ⟨by rw [HQ.out];try rfl,(hT.out.put [.bool false,.string ⟨#[]⟩,.int .i64 0]).below⟩
 ·have eb1:b.digits.toList.isEmpty=false:=by rw [List.isEmpty_eq_false_iff];exact ne_toList (by omega)
  have eb2:(b.digits.toList==[])=false:=by rw [beq_eq_false_iff_ne];exact ne_toList (by omega)
  have eb3:¬ b.digits.toList=[]:=ne_toList (by omega)
  have hb0:0<b.digits.size:=by omega
  obtain ⟨A,hA⟩:∃ A,A=numV a.digits * 10 ^ e400:=⟨_,rfl⟩
  obtain ⟨B,hB⟩:∃ B,B=numV b.digits:=⟨_,rfl⟩
  obtain ⟨x,hx⟩:∃ x,x=padS a.digits 400:=⟨_,rfl⟩
  have NX:=Hd (show numV x=A by rw [hx,hA];exact numV_pad4 _)
  have HA0:=Hd (show a.digits.size=0→A=0 from fun h=>by rw [hA,numV_nil h,Nat.zero_mul])
  have HXP:=Hd (show x=a.digits++zerosS 400 from hx)
  have HXS:=Hd (show x.size=a.digits.size+400 by rw [hx,padS_size])
  have DX:=Hd (show DigS x by
   rw [hx]
   rcases Nat.eq_zero_or_pos a.digits.size with h | h
   ·intro i hi
    unfold padS at hi ⊢
    rw [byteI_append]
    rw [ByteArray.size_append,zerosS_size] at hi
    rw [if_neg (by omega),byteI_zeros _ _ (by omega)]
    omega
   ·exact (canon_pad HCA.out h _).1)
  have HLT:=Hd (show A<10 ^ x.size by have:=numV_lt DX.out;rw [NX.out] at this;exact this)
  have HDIV:=Hd (show divD a b=if A % B≠0 then (dec0,15) else normD g (numS (A / B)) (a.exp-b.exp-400) by unfold divD;rw [if_neg h0,hg,← hA,← hB])
  have HBE:=Hd hB
  have hxs:x.size≤520:=by have:=HXS.out;omega
  clear hA hB hx h0
  have hzs:=zerosS_size 400
  have hxe:=HXP.out.symm
  obtain ⟨m,hm⟩:∃ m,m=A % B:=⟨_,rfl⟩
  have HM:=Hd hm
  clear hm
  by_cases hm0:m=0
  ·obtain ⟨r,hr⟩:∃ r,r=normD g (numS (A / B)) (a.exp-b.exp-400):=⟨_,rfl⟩
   have HR:=Hd hr
   clear hr
   obtain ⟨⟨rn,rd,re⟩,rk⟩:=r
   have HQ:=Hd (show divD a b=((⟨rn,rd,re⟩,rk):DecD×Int) by rw [HDIV.out,← HM.out,if_neg (by simp [hm0])];exact HR.out.symm)
   have hrz:(numS (A % B)).toList=[]:=toList_nil (by rw [← HM.out,hm0,numS_0];rfl)
   clear hm0
   have hT:=Hd (tdec w a b [.bool false,.string ⟨#[]⟩,.int .i64 0])
   have ca0:=hT.out.one.cell (j:=0) (v:=.bool a.neg) rfl
   have ca1:=hT.out.one.cell (j:=1) (v:=.string a.digits) rfl
   have ca2:=hT.out.one.cell (j:=2) (v:=.int .i64 a.exp) rfl
   have cb0:=hT.out.two.cell (j:=0) (v:=.bool b.neg) rfl
   have cb1:=hT.out.two.cell (j:=1) (v:=.string b.digits) rfl
   have cb2:=hT.out.two.cell (j:=2) (v:=.int .i64 b.exp) rfl
   go_enter Tryz.func77,Tryz.ntmps77
   go_wp2_with fail
   refine wp_region_held_drew (S:=fun u=>∃ zc,Tdec w u a b zc) (by kernel_rfl) ⟨_,hT.out.drew⟩ (fun hHeld=>?_)
   have hT1:=Hd hT.out.drew
   clear hT ca0 ca1 ca2 cb0 cb1 cb2
   have hT:=hT1
   clear hT1
   refine' tk 0 (.pointer (some ⟨w.heap.size,1,none⟩)) rfl rfl (.inl ⟨by rfl,fun u hu=>(by go_simp)⟩) hHeld ?_
   simp only [sq1,sq0]
   refine' tk 1 (.string a.digits) rfl rfl (.inl ⟨by rfl,fun u hu=>(by obtain ⟨_,T⟩:=hu;have hc:=T.one.cell (j:=1) (v:=.string a.digits) rfl;go_simp)⟩) hHeld ?_
   simp only [sq1,sq0]
   refine' tk 4 (.pointer (some ⟨w.heap.size+1,1,none⟩)) rfl rfl (.inl ⟨by rfl,fun u hu=>(by go_simp)⟩) hHeld ?_
   simp only [sq1,sq0]
   refine' tk 5 (.string b.digits) rfl rfl (.inl ⟨by rfl,fun u hu=>(by obtain ⟨_,T⟩:=hu;have hc:=T.two.cell (j:=1) (v:=.string b.digits) rfl;go_simp)⟩) hHeld ?_
   simp only [sq1,sq0]
   refine rd1 2 rfl (fun K hK=>?_)
   rw [if_pos (by rfl)]
   go_simp
   refine (noughts_g 400 _ (by omega)).mono ?_
   rintro e u1w ⟨rfl,hbC⟩
   have hT1:=Hd (hT.out.later hbC)
   refine hK.out _ _ ⟨_,hT1.out⟩ (fun hHeldx=>?_)
   clear hK K hHeld hbC hT
   have hT:=hT1
   have hHeld:=hHeldx
   clear hT1 hHeldx
   refine' tk 3 (.string x) rfl rfl (.inl ⟨by rfl,fun u hu=>(by go_simp;all_goals first | exact hg2 | omega | (rw [IntKind.wrap_i64];omega) | rfl)⟩) hHeld ?_
   simp only [sq1,sq0]
   refine rd1 6 rfl (fun K hK=>?_)
   rw [if_pos (by rfl)]
   go_simp
   refine (quo_r x b.digits _ DX.out HCB.out hb0 (by omega) (by omega)).mono ?_
   rintro e u2w ⟨rfl,hbC⟩
   rw [NX.out,← HBE.out]
   have hT1:=Hd (hT.out.later hbC)
   refine hK.out _ _ ⟨_,hT1.out⟩ (fun hHeldx=>?_)
   clear hK K hHeld hbC hT
   have hT:=hT1
   have hHeld:=hHeldx
   clear hT1 hHeldx
   refine' tk 7 (.tuple #[.string (numS (A / B)),.string (numS (A % B)),.int .i64 0]) rfl rfl (.inl ⟨by rfl,fun u hu=>(by go_simp)⟩) hHeld ?_
   simp only [sq1,sq0]
   refine' tk 8 (.string (numS (A / B))) rfl rfl (.inl ⟨by rfl,fun u hu=>(by go_simp)⟩) hHeld ?_
   simp only [sq1,sq0]
   refine' tk 9 (.string (numS (A % B))) rfl rfl (.inl ⟨by rfl,fun u hu=>(by go_simp)⟩) hHeld ?_
   simp only [sq1,sq0]
   refine' tk 10 (.int .i64 0) rfl rfl (.inl ⟨by rfl,fun u hu=>(by go_simp)⟩) hHeld ?_
   simp only [sq1,sq0]
   refine rd1 11 rfl (fun K hK=>?_)
   rw [if_pos (by rfl)]
   go_simp
   refine hK.out _ _ hHeld (fun hHeldx=>?_)
   clear hK K hHeldx
   refine rd1 12 rfl (fun K hK=>?_)
   rw [if_pos (by rfl)]
   go_simp
   refine hK.out _ _ hHeld (fun hHeldx=>?_)
   clear hK K hHeldx
   refine rd1 13 rfl (fun K hK=>?_)
   rw [if_pos (by rfl)]
   go_simp
   refine hK.out _ _ hHeld (fun hHeldx=>?_)
   clear hK K hHeldx
   refine wpAnyH_done (by kernel_rfl) ?_ _
   clear hHeld
   have ca0:=hT.out.one.cell (j:=0) (v:=.bool a.neg) rfl
   have ca1:=hT.out.one.cell (j:=1) (v:=.string a.digits) rfl
   have ca2:=hT.out.one.cell (j:=2) (v:=.int .i64 a.exp) rfl
   have cb0:=hT.out.two.cell (j:=0) (v:=.bool b.neg) rfl
   have cb1:=hT.out.two.cell (j:=1) (v:=.string b.digits) rfl
   have cb2:=hT.out.two.cell (j:=2) (v:=.int .i64 b.exp) rfl
   go_wp2_with fail
   refine wp_region_held_drew (S:=fun u=>∃ zc,Tdec w u a b zc) (by kernel_rfl) ⟨_,hT.out.drew⟩ (fun hHeld=>?_)
   have hT1:=Hd hT.out.drew
   clear hT ca0 ca1 ca2 cb0 cb1 cb2
   have hT:=hT1
   clear hT1
   refine' tk 0 (.pointer (some ⟨w.heap.size,0,none⟩)) rfl rfl (.inl ⟨by rfl,fun u hu=>(by go_simp)⟩) hHeld ?_
   simp only [sq1,sq0]
   refine' tk 1 (.bool a.neg) rfl rfl (.inl ⟨by rfl,fun u hu=>(by obtain ⟨_,T⟩:=hu;have hc:=T.one.cell (j:=0) (v:=.bool a.neg) rfl;go_simp)⟩) hHeld ?_
   simp only [sq1,sq0]
   refine' tk 2 (.pointer (some ⟨w.heap.size+1,0,none⟩)) rfl rfl (.inl ⟨by rfl,fun u hu=>(by go_simp)⟩) hHeld ?_
   simp only [sq1,sq0]
   refine' tk 3 (.bool b.neg) rfl rfl (.inl ⟨by rfl,fun u hu=>(by obtain ⟨_,T⟩:=hu;have hc:=T.two.cell (j:=0) (v:=.bool b.neg) rfl;go_simp)⟩) hHeld ?_
   simp only [sq1,sq0]
   refine' tk 4 (.bool g) rfl rfl (.inl ⟨by rfl,fun u hu=>(by go_simp;all_goals first | exact hg2 | omega | (rw [IntKind.wrap_i64];omega) | rfl)⟩) hHeld ?_
   simp only [sq1,sq0]
   refine' tk 5 (.string (numS (A / B))) rfl rfl (.inl ⟨by rfl,fun u hu=>(by go_simp)⟩) hHeld ?_
   simp only [sq1,sq0]
   refine' tk 7 (.pointer (some ⟨w.heap.size,2,none⟩)) rfl rfl (.inl ⟨by rfl,fun u hu=>(by go_simp)⟩) hHeld ?_
   simp only [sq1,sq0]
   refine' tk 8 (.int .i64 a.exp) rfl rfl (.inl ⟨by rfl,fun u hu=>(by obtain ⟨_,T⟩:=hu;have hc:=T.one.cell (j:=2) (v:=.int .i64 a.exp) rfl;go_simp)⟩) hHeld ?_
   simp only [sq1,sq0]
   refine' tk 9 (.pointer (some ⟨w.heap.size+1,2,none⟩)) rfl rfl (.inl ⟨by rfl,fun u hu=>(by go_simp)⟩) hHeld ?_
   simp only [sq1,sq0]
   refine' tk 10 (.int .i64 b.exp) rfl rfl (.inl ⟨by rfl,fun u hu=>(by obtain ⟨_,T⟩:=hu;have hc:=T.two.cell (j:=2) (v:=.int .i64 b.exp) rfl;go_simp)⟩) hHeld ?_
   simp only [sq1,sq0]
   refine' tk 11 (.int .i64 (a.exp-b.exp)) rfl rfl (.inl ⟨by rfl,fun u hu=>(by go_simp;all_goals first | exact hg2 | omega | (rw [IntKind.wrap_i64];omega) | rfl)⟩) hHeld ?_
   simp only [sq1,sq0]
   refine' tk 12 (.int .i64 (a.exp-b.exp-400)) rfl rfl (.inl ⟨by rfl,fun u hu=>(by go_simp;all_goals first | exact hg2 | omega | (rw [IntKind.wrap_i64];omega) | rfl)⟩) hHeld ?_
   simp only [sq1,sq0]
   refine rd1 6 rfl (fun K hK=>?_)
   rw [if_pos (by rfl)]
   go_simp
   refine (strip_r (numS (A / B)) _ (by have:=size_of_num (Nat.lt_of_le_of_lt (Nat.div_le_self A B) HLT.out) (by omega);omega)).mono ?_
   rintro e u3w ⟨rfl,rfl⟩
   rw [strip_num (numS_canon _).1,numV_numS]
   refine hK.out _ _ ⟨_,hT.out⟩ (fun hHeldx=>?_)
   clear hK K hHeld
   have hHeld:=hHeldx
   clear hHeldx
   refine rd1 13 rfl (fun K hK=>?_)
   rw [if_pos (by rfl)]
   go_simp
   refine (nrm_r g (numS (A / B)) (numS (A / B)) (a.exp-b.exp-400) _ (by rw [strip_num (numS_canon _).1,numV_numS]) (size_of_num (Nat.lt_of_le_of_lt (Nat.div_le_self _ _) HLT.out) (by omega)) (size_of_num (Nat.lt_of_le_of_lt (Nat.div_le_self _ _) HLT.out) (by omega)) (by omega) (by omega)).mono ?_
   rintro e u4w ⟨rfl,hbC⟩
   rw [← HR.out]
   have hT1:=Hd (hT.out.later hbC)
   refine hK.out _ _ ⟨_,hT1.out⟩ (fun hHeldx=>?_)
   clear hK K hHeld hbC hT
   have hT:=hT1
   have hHeld:=hHeldx
   clear hT1 hHeldx
   refine' tk 14 (.agg #[.bool rn,.string rd,.int .i64 re]) rfl rfl (.inl ⟨by rfl,fun u hu=>(by go_simp)⟩) hHeld ?_
   simp only [sq1,sq0]
   refine' tk 15 (.int .i64 rk) rfl rfl (.inl ⟨by rfl,fun u hu=>(by go_simp)⟩) hHeld ?_
   simp only [sq1,sq0]
   refine rd1 16 rfl (fun K hK=>?_)
   rw [if_pos (by rfl)]
   refine wp_store_atL rfl 23 _ _ rfl (w.heap.size+1+1) 0 [.bool rn,.string rd,.int .i64 re] rfl rfl 23 _ [.bool rn,.string rd,.int .i64 re] hT.out.res sizeDECl rfl (Nat.le_refl 3) (dec_one _ _ _) ?_
   refine hK.out _ _ ⟨_,hT.out.put [.bool rn,.string rd,.int .i64 re]⟩ (fun hHeldx=>?_)
   clear hK K hHeld
   have hHeld:=hHeldx
   clear hHeldx
   refine rd1 17 rfl (fun K hK=>?_)
   rw [if_pos (by rfl)]
   go_simp
   refine hK.out _ _ hHeld (fun hHeldx=>?_)
   clear hK K hHeldx
   refine wpAnyH_done (by kernel_rfl) ?_ _
   clear hHeld
   go_wp2_with fail
   refine bodyPost_ret (results_cell_row2 rfl _ _ (w.heap.size+1+1) 23 _ (0,0) _ rfl (hT.out.put [.bool rn,.string rd,.int .i64 re]).res Tryz.underlying23 rfl sizeDEC) rfl ?_
   exact ⟨by rw [HQ.out];try rfl,(hT.out.put [.bool rn,.string rd,.int .i64 re]).below⟩
  ·have HQ:=Hd (show divD a b=(dec0,15) by rw [HDIV.out,← HM.out,if_pos hm0])
   have hrp:0<(numS (A % B)).size:=by
    rcases Nat.eq_zero_or_pos (numS (A % B)).size with h | h
    ·exact absurd (by rw [HM.out];exact numS_size0.1 h) hm0
    ·exact h
   have er1:(numS (A % B)).toList.isEmpty=false:=by rw [List.isEmpty_eq_false_iff];exact ne_toList (by omega)
   have er2:((numS (A % B)).toList==[])=false:=by rw [beq_eq_false_iff_ne];exact ne_toList (by omega)
   have er3:¬ (numS (A % B)).toList=[]:=ne_toList (by omega)
   clear hm0 hrp
   have hT:=Hd (tdec w a b [.bool false,.string ⟨#[]⟩,.int .i64 0])
   have ca0:=hT.out.one.cell (j:=0) (v:=.bool a.neg) rfl
   have ca1:=hT.out.one.cell (j:=1) (v:=.string a.digits) rfl
   have ca2:=hT.out.one.cell (j:=2) (v:=.int .i64 a.exp) rfl
   have cb0:=hT.out.two.cell (j:=0) (v:=.bool b.neg) rfl
   have cb1:=hT.out.two.cell (j:=1) (v:=.string b.digits) rfl
   have cb2:=hT.out.two.cell (j:=2) (v:=.int .i64 b.exp) rfl
   go_enter Tryz.func77,Tryz.ntmps77
   go_wp2_with fail
   refine wp_region_held_drew (S:=fun u=>∃ zc,Tdec w u a b zc) (by kernel_rfl) ⟨_,hT.out.drew⟩ (fun hHeld=>?_)
   have hT1:=Hd hT.out.drew
   clear hT ca0 ca1 ca2 cb0 cb1 cb2
   have hT:=hT1
   clear hT1
   refine' tk 0 (.pointer (some ⟨w.heap.size,1,none⟩)) rfl rfl (.inl ⟨by rfl,fun u hu=>(by go_simp)⟩) hHeld ?_
   simp only [sq1,sq0]
   refine' tk 1 (.string a.digits) rfl rfl (.inl ⟨by rfl,fun u hu=>(by obtain ⟨_,T⟩:=hu;have hc:=T.one.cell (j:=1) (v:=.string a.digits) rfl;go_simp)⟩) hHeld ?_
   simp only [sq1,sq0]
   refine' tk 4 (.pointer (some ⟨w.heap.size+1,1,none⟩)) rfl rfl (.inl ⟨by rfl,fun u hu=>(by go_simp)⟩) hHeld ?_
   simp only [sq1,sq0]
   refine' tk 5 (.string b.digits) rfl rfl (.inl ⟨by rfl,fun u hu=>(by obtain ⟨_,T⟩:=hu;have hc:=T.two.cell (j:=1) (v:=.string b.digits) rfl;go_simp)⟩) hHeld ?_
   simp only [sq1,sq0]
   refine rd1 2 rfl (fun K hK=>?_)
   rw [if_pos (by rfl)]
   go_simp
   refine (noughts_g 400 _ (by omega)).mono ?_
   rintro e u5w ⟨rfl,hbC⟩
   have hT1:=Hd (hT.out.later hbC)
   refine hK.out _ _ ⟨_,hT1.out⟩ (fun hHeldx=>?_)
   clear hK K hHeld hbC hT
   have hT:=hT1
   have hHeld:=hHeldx
   clear hT1 hHeldx
   refine' tk 3 (.string x) rfl rfl (.inl ⟨by rfl,fun u hu=>(by go_simp;all_goals first | exact hg2 | omega | (rw [IntKind.wrap_i64];omega) | rfl)⟩) hHeld ?_
   simp only [sq1,sq0]
   refine rd1 6 rfl (fun K hK=>?_)
   rw [if_pos (by rfl)]
   go_simp
   refine (quo_r x b.digits _ DX.out HCB.out hb0 (by omega) (by omega)).mono ?_
   rintro e u6w ⟨rfl,hbC⟩
   rw [NX.out,← HBE.out]
   have hT1:=Hd (hT.out.later hbC)
   refine hK.out _ _ ⟨_,hT1.out⟩ (fun hHeldx=>?_)
   clear hK K hHeld hbC hT
   have hT:=hT1
   have hHeld:=hHeldx
   clear hT1 hHeldx
   refine' tk 7 (.tuple #[.string (numS (A / B)),.string (numS (A % B)),.int .i64 0]) rfl rfl (.inl ⟨by rfl,fun u hu=>(by go_simp)⟩) hHeld ?_
   simp only [sq1,sq0]
   refine' tk 8 (.string (numS (A / B))) rfl rfl (.inl ⟨by rfl,fun u hu=>(by go_simp)⟩) hHeld ?_
   simp only [sq1,sq0]
   refine' tk 9 (.string (numS (A % B))) rfl rfl (.inl ⟨by rfl,fun u hu=>(by go_simp)⟩) hHeld ?_
   simp only [sq1,sq0]
   refine' tk 10 (.int .i64 0) rfl rfl (.inl ⟨by rfl,fun u hu=>(by go_simp)⟩) hHeld ?_
   simp only [sq1,sq0]
   refine rd1 11 rfl (fun K hK=>?_)
   rw [if_pos (by rfl)]
   go_simp
   refine hK.out _ _ hHeld (fun hHeldx=>?_)
   clear hK K hHeldx
   refine rd1 12 rfl (fun K hK=>?_)
   rw [if_pos (by rfl)]
   go_simp
   refine hK.out _ _ hHeld (fun hHeldx=>?_)
   clear hK K hHeldx
   refine rd1 13 rfl (fun K hK=>?_)
   rw [if_pos (by rfl)]
   go_simp
   refine hK.out _ _ hHeld (fun hHeldx=>?_)
   clear hK K hHeldx
   refine wpAnyH_done (by kernel_rfl) ?_ _
   clear hHeld
   have ca0:=hT.out.one.cell (j:=0) (v:=.bool a.neg) rfl
   have ca1:=hT.out.one.cell (j:=1) (v:=.string a.digits) rfl
   have ca2:=hT.out.one.cell (j:=2) (v:=.int .i64 a.exp) rfl
   have cb0:=hT.out.two.cell (j:=0) (v:=.bool b.neg) rfl
   have cb1:=hT.out.two.cell (j:=1) (v:=.string b.digits) rfl
   have cb2:=hT.out.two.cell (j:=2) (v:=.int .i64 b.exp) rfl
   go_wp2_with ((with_reducible show wpList _ _ _ (⟨none,.store 23 (.tmp 4) _,_,_,_,_⟩::_) _ _);refine wpList_store_at rfl 23 _ _ rfl (w.heap.size+1+1) 0 [.bool false,.string ⟨#[]⟩,.int .i64 0] rfl rfl 23 _ [.bool false,.string ⟨#[]⟩,.int .i64 0] hT.out.res sizeDECl rfl (Nat.le_refl 3) (dec_one _ _ _) ?_)
   refine bodyPost_ret (results_cell_row2 rfl _ _ (w.heap.size+1+1) 23 _ (0,0) _ rfl (hT.out.put [.bool false,.string ⟨#[]⟩,.int .i64 0]).res Tryz.underlying23 rfl sizeDEC) rfl ?_
   exact ⟨by rw [HQ.out];try rfl,(hT.out.put [.bool false,.string ⟨#[]⟩,.int .i64 0]).below⟩
end Go.Proofs.YtmjfggadehkbjaaGreatDoor
