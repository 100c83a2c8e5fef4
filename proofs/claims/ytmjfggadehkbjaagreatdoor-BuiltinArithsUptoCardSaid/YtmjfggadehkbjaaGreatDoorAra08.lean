/- The walks of sums of decimals: decimal.Add, datakitref02.Add. -/
import Derived.Test.YtmjfggadehkbjaaGreatDoorProg
import Derived.Test.YtmjfggadehkbjaaGreatDoorGA
import Derived.Test.YtmjfggadehkbjaaGreatDoorGB
import Derived.Test.YtmjfggadehkbjaaGreatDoorGC
import Derived.Test.YtmjfggadehkbjaaGreatDoorGD
import Derived.Test.YtmjfggadehkbjaaGreatDoorRow36
import Derived.Test.YtmjfggadehkbjaaGreatDoorXA
import Derived.Test.YtmjfggadehkbjaaGreatDoorXF
import Derived.Test.YtmjfggadehkbjaaGreatDoorXI
import Derived.Test.YtmjfggadehkbjaaGreatDoorXK
import Derived.Test.YtmjfggadehkbjaaGreatDoorAA
import Derived.Test.YtmjfggadehkbjaaGreatDoorAra03
import Derived.Test.YtmjfggadehkbjaaGreatDoorAC
import Derived.Test.YtmjfggadehkbjaaGreatDoorAB
import Derived.Below
import Derived.Laws.AppendOwn
import Derived.Deep.Slices
import Derived.Deep.RegionHeld3
import Derived.Lib.Hide
import Derived.Deep.MidRow
import Derived.WalkKit
import Derived.WalkSpells
import Derived.WalkLawsBesides
import Derived.LoopTactic
import Derived.BigQuiet
import Derived.Deep.QuietTactic
import Derived.Laws.BytesArg
import Derived.OwnWalk
import Derived.Shelf.Strings.Builder1
import Derived.Shelf.Strings.Builder2
import Derived.Shelf.Strings.Trim
import Derived.Shelf.Small.Utf8
import Derived.Shelf.Small.Strs
import Derived.Shelf.Strings.BuilderF
import Derived.Shelf.Strings.BuilderK
import Derived.Shelf.Utf8.RuneCount
import Derived.Shelf.Strings.Builder2Cap
import Derived.Shelf.Strings.Search1
import Derived.Shelf.Strings.Search2
import Derived.Shelf.Strings.Search3
import Derived.Shelf.Strings.Count
import Derived.Shelf.LaysM
import Derived.Shelf.Strings.Shaped
import Derived.Shelf.Strings.Prefix
import Derived.Shelf.Strings.Split
import Derived.Shelf.Strings.SplitShaped
import Derived.Shelf.Unicode.Decode
import Derived.Shelf.Strings.Runes
import Derived.Shelf.Strings.RuneCount
import Derived.Shelf.Strings.AsciiSet
import Derived.Shelf.Strings.Explode
import Derived.Shelf.Bits.Mul64
import Derived.Shelf.Strings.Repeat
import Derived.Shelf.Unicode.DecodeSlow
import Derived.Shelf.Unicode.DecodeAny
import Derived.Shelf.Unicode.DecodeLast
import Derived.Ground.Names2Prog
import Derived.Shelf.Slices.SearchI
import Derived.Deep.AppendLies
import Derived.Lib.Repeat
import Derived.Laws.OwnMore
import Derived.Lib.SliceRun
import Derived.OrdersHeld
import Derived.Laws.CopyOwn
import Derived.Deep.WholeRow
import Derived.Laws.CopyRow
import Derived.Maps.OwnOps
import Derived.Maps.OwnSet
import Derived.Maps.Views
import Derived.Deep.Light
import Derived.Lib.Bytealg
import Derived.StillTailTactics
import Derived.Deep.DeepCutAuto
import Derived.Great.BuildSlice
import Derived.Sort.Walk0
import Derived.Deep.DeepMust
import Derived.Lib.TrimByte
namespace Go.Proofs.YtmjfggadehkbjaaGreatDoor
open Go.RowKit
theorem lower_r (a b:DecD) (w:World):Calls Tryz.prog 82 #[.agg #[.bool a.neg,.string a.digits,.int .i64 a.exp],.agg #[.bool b.neg,.string b.digits,.int .i64 b.exp]] w (CmpE (min a.exp b.exp) w):=by
 have HB:=Hd (show Below w.heap.size w ((w.alloc (.cells #[.bool a.neg,.string a.digits,.int .i64 a.exp] 23)).alloc (.cells #[.bool b.neg,.string b.digits,.int .i64 b.exp] 23)) from belowThen (belowBox w _) (belowBox _ _))
 by_cases h:a.exp<b.exp
 ·have HQ:=Hd (show min a.exp b.exp=a.exp by omega)
  go_enter Tryz.func82,Tryz.ntmps82
  go_wp2_with fail
  go_ret
  exact ⟨by rw [HQ.out];rfl,HB.out⟩
 ·have HQ:=Hd (show min a.exp b.exp=b.exp by omega)
  go_enter Tryz.func82,Tryz.ntmps82
  go_wp2_with fail
  go_ret
  exact ⟨by rw [HQ.out];rfl,HB.out⟩
set_option maxRecDepth 100000 in
set_option maxHeartbeats 1600000 in
theorem atd_r (a:DecD) (z:Int) (w:World) (hz:z≤a.exp) (hk:a.exp-z≤4000) (hs:a.digits.size≤120):Calls Tryz.prog 83 #[.agg #[.bool a.neg,.string a.digits,.int .i64 a.exp],.int .i64 z] w (StrV (padS a.digits (a.exp-z).toNat) w):=by
 obtain ⟨k,hke⟩:∃ k,k=(a.exp-z).toNat:=⟨_,rfl⟩
 have hk1:a.exp-z=(k:Int):=by omega
 have hk2:k≤4000:=by omega
 rw [← hke]
 have HB:=Hd (belowBox w (.cells #[.bool a.neg,.string a.digits,.int .i64 a.exp] 23))
 have RA:=Hd (RowT.new w 23 [.bool a.neg,.string a.digits,.int .i64 a.exp])
 obtain ⟨W,hW⟩:∃ W,W=w.alloc (.cells #[.bool a.neg,.string a.digits,.int .i64 a.exp] 23):=⟨_,rfl⟩
 have HZS:=zerosS_size k
 have hsz:(zerosS k).size≤4000:=by omega
 clear hke hW HZS
 go_enter Tryz.func83,Tryz.ntmps83
 go_wp2_with fail
 refine wp_region_held_drew (S:=fun u=>RowT 23 u w.heap.size [.bool a.neg,.string a.digits,.int .i64 a.exp]∧Below w.heap.size w u) (by kernel_rfl) ⟨RA.out,HB.out.trans (drewB _)⟩ (fun hHeld=>?_)
 refine' tk 0 (.pointer (some ⟨w.heap.size,1,none⟩)) rfl rfl (.inl ⟨by rfl,fun u hu=>(by go_simp)⟩) hHeld ?_
 simp only [sq1,sq0]
 refine' tk 1 (.string a.digits) rfl rfl (.inl ⟨by rfl,fun u hu=>(by have hc:=hu.1.cell (j:=1) (v:=.string a.digits) rfl;go_simp)⟩) hHeld ?_
 simp only [sq1,sq0]
 refine' tk 2 (.pointer (some ⟨w.heap.size,2,none⟩)) rfl rfl (.inl ⟨by rfl,fun u hu=>(by go_simp)⟩) hHeld ?_
 simp only [sq1,sq0]
 refine' tk 3 (.int .i64 a.exp) rfl rfl (.inl ⟨by rfl,fun u hu=>(by have hc:=hu.1.cell (j:=2) (v:=.int .i64 a.exp) rfl;go_simp)⟩) hHeld ?_
 simp only [sq1,sq0]
 refine' tk 4 (.int .i64 z) rfl rfl (.inl ⟨by rfl,fun u hu=>(by go_simp)⟩) hHeld ?_
 simp only [sq1,sq0]
 refine' tk 5 (.int .i64 ((k:Nat):Int)) rfl rfl (.inl ⟨by rfl,fun u hu=>(by go_simp;all_goals first | omega | (rw [IntKind.wrap_i64];omega))⟩) hHeld ?_
 simp only [sq1,sq0]
 refine rd1 6 rfl (fun K hK=>?_)
 rw [if_pos (by rfl)]
 go_simp
 refine (noughts_g k _ (by omega)).mono ?_
 rintro e uC ⟨rfl,hbC⟩
 refine hK.out _ _ ⟨hHeld.1.then hbC,belowThen hHeld.2 hbC⟩ (fun hHeldx=>?_)
 clear hK K hHeld hbC
 have hHeld:=hHeldx
 clear hHeldx
 refine' tk 7 (.string (a.digits++zerosS k)) rfl rfl (.inl ⟨by rfl,fun u hu=>(by go_simp;all_goals omega)⟩) hHeld ?_
 simp only [sq1,sq0]
 refine rd1 8 rfl (fun K hK=>?_)
 rw [if_pos (by rfl)]
 go_simp
 refine hK.out _ _ hHeld (fun hHeldx=>?_)
 clear hK K hHeldx
 refine wpAnyH_done (by kernel_rfl) ?_ _
 have HF:=Hd hHeld.2
 clear hHeld
 go_wp2_with fail
 go_ret
 exact ⟨rfl,HF.out⟩
set_option maxRecDepth 100000 in
set_option maxHeartbeats 6400000 in
theorem add_p (a b:DecD) (w:World) (ha:VDec a) (hb:VDec b) :
 Calls Tryz.prog 53 #[.agg #[.bool a.neg,.string a.digits,.int .i64 a.exp],.agg #[.bool b.neg,.string b.digits,.int .i64 b.exp]] w (DecV (addD a b) w):=by
 obtain ⟨CX,CY,SX,SY,_⟩:=align_canon ha hb
 obtain ⟨kk,hkk,LXY⟩:=xD_lt ha hb
 have HE:=exp_range ha hb
 have HVA:=Hd ha
 have HVB:=Hd hb
 obtain ⟨x,hx⟩:∃ x,x=(alignD a b).1:=⟨_,rfl⟩
 obtain ⟨y,hy⟩:∃ y,y=(alignD a b).2:=⟨_,rfl⟩
 obtain ⟨X,hX⟩:∃ X,X=xD a b:=⟨_,rfl⟩
 obtain ⟨Y,hY⟩:∃ Y,Y=yD a b:=⟨_,rfl⟩
 obtain ⟨ez,hez⟩:∃ ez,ez=expD a b:=⟨_,rfl⟩
 have NX:=Hd (show numV x=X by rw [hx,hX];rfl)
 have NY:=Hd (show numV y=Y by rw [hy,hY];rfl)
 rw [← hx] at CX SX
 rw [← hy] at CY SY
 rw [← hX,← hY] at LXY
 rw [← hez] at HE
 obtain ⟨HE1,HE2⟩:=HE
 have HCX:=Hd CX
 have HCY:=Hd CY
 have HLX:=Hd LXY.1
 have HLY:=Hd LXY.2
 have HADD:=Hd (show addD a b=if a.neg=b.neg then normD a.neg (numS (X+Y)) ez else if Y≤X then normD a.neg (numS (X-Y)) ez else normD b.neg (numS (Y-X)) ez by unfold addD;rw [← hX,← hY,← hez])
 have AX:=Hd (fun w=>align_x a b w ha hb)
 rw [← hx,← hy,← hez] at AX
 clear ha hb CX CY LXY hx hy hX hY hez
 by_cases hn:a.neg=b.neg
 ·obtain ⟨r,hr⟩:∃ r,r=normD a.neg (numS (X+Y)) ez:=⟨_,rfl⟩
  have HR:=Hd hr
  clear hr
  obtain ⟨⟨rn,rd,re⟩,rk⟩:=r
  have HQ:=Hd (show addD a b=((⟨rn,rd,re⟩,rk):DecD×Int) by rw [HADD.out,if_pos hn];exact HR.out.symm)
  have hnb:(a.neg==b.neg)=true:=by simp [hn]
  clear hn
  have hT:=Hd (tdec w a b [.bool false,.string ⟨#[]⟩,.int .i64 0])
  have ca0:=hT.out.one.cell (j:=0) (v:=.bool a.neg) rfl
  have ca1:=hT.out.one.cell (j:=1) (v:=.string a.digits) rfl
  have ca2:=hT.out.one.cell (j:=2) (v:=.int .i64 a.exp) rfl
  have cb0:=hT.out.two.cell (j:=0) (v:=.bool b.neg) rfl
  have cb1:=hT.out.two.cell (j:=1) (v:=.string b.digits) rfl
  have cb2:=hT.out.two.cell (j:=2) (v:=.int .i64 b.exp) rfl
  go_enter Tryz.func53,Tryz.ntmps53
  go_wp2_with fail
  refine (AX.out _).mono ?_
  rintro e u1w ⟨rfl,hb⟩
  have hT1:=Hd (hT.out.later hb)
  clear hb hT ca0 ca1 ca2 cb0 cb1 cb2
  have hT:=hT1
  clear hT1
  have ca0:=hT.out.one.cell (j:=0) (v:=.bool a.neg) rfl
  have ca1:=hT.out.one.cell (j:=1) (v:=.string a.digits) rfl
  have ca2:=hT.out.one.cell (j:=2) (v:=.int .i64 a.exp) rfl
  have cb0:=hT.out.two.cell (j:=0) (v:=.bool b.neg) rfl
  have cb1:=hT.out.two.cell (j:=1) (v:=.string b.digits) rfl
  have cb2:=hT.out.two.cell (j:=2) (v:=.int .i64 b.exp) rfl
  go_wp2_with fail
  refine wp_region_held_drew (S:=fun u=>∃ zc,Tdec w u a b zc) (by kernel_rfl) ⟨_,hT.out.drew⟩ (fun hHeld=>?_)
  have hT1:=Hd hT.out.drew
  clear hT ca0 ca1 ca2 cb0 cb1 cb2
  have hT:=hT1
  clear hT1
  refine' tk 0 (.pointer (some ⟨w.heap.size,0,none⟩)) rfl rfl (.inl ⟨by rfl,fun u hu=>(by go_simp)⟩) hHeld ?_
  simp only [sq1,sq0]
  refine' tk 1 (.bool a.neg) rfl rfl (.inl ⟨by rfl,fun u hu=>(by obtain ⟨_,T⟩:=hu;have hc:=T.one.cell (j:=0) (v:=.bool a.neg) rfl;go_simp)⟩) hHeld ?_
  simp only [sq1,sq0]
  refine' tk 2 (.string x) rfl rfl (.inl ⟨by rfl,fun u hu=>(by go_simp)⟩) hHeld ?_
  simp only [sq1,sq0]
  refine' tk 3 (.string y) rfl rfl (.inl ⟨by rfl,fun u hu=>(by go_simp)⟩) hHeld ?_
  simp only [sq1,sq0]
  refine' tk 5 (.int .i64 ez) rfl rfl (.inl ⟨by rfl,fun u hu=>(by go_simp)⟩) hHeld ?_
  simp only [sq1,sq0]
  refine rd1 4 rfl (fun K hK=>?_)
  rw [if_pos (by rfl)]
  go_simp
  refine (plus_p x y _ HCX.out.1 HCY.out.1 (by omega) (by omega)).mono ?_
  rintro e u2w ⟨rfl,hbC⟩
  rw [NX.out,NY.out]
  have hT1:=Hd (hT.out.later hbC)
  refine hK.out _ _ ⟨_,hT1.out⟩ (fun hHeldx=>?_)
  clear hK K hHeld hbC hT
  have hT:=hT1
  have hHeld:=hHeldx
  clear hT1 hHeldx
  refine rd1 6 rfl (fun K hK=>?_)
  rw [if_pos (by rfl)]
  go_simp
  refine (norm_p a.neg (numS (X+Y)) ez _ (size_of_num (add_lt HLX.out HLY.out) (by omega)) (by omega) (by omega)).mono ?_
  rintro e u3w ⟨rfl,hbC⟩
  rw [← HR.out]
  have hT1:=Hd (hT.out.later hbC)
  refine hK.out _ _ ⟨_,hT1.out⟩ (fun hHeldx=>?_)
  clear hK K hHeld hbC hT
  have hT:=hT1
  have hHeld:=hHeldx
  clear hT1 hHeldx
  refine' tk 7 (.agg #[.bool rn,.string rd,.int .i64 re]) rfl rfl (.inl ⟨by rfl,fun u hu=>(by go_simp)⟩) hHeld ?_
  simp only [sq1,sq0]
  refine' tk 8 (.int .i64 rk) rfl rfl (.inl ⟨by rfl,fun u hu=>(by go_simp)⟩) hHeld ?_
  simp only [sq1,sq0]
  refine rd1 9 rfl (fun K hK=>?_)
  rw [if_pos (by rfl)]
  refine wp_store_atL rfl 23 _ _ rfl (w.heap.size+1+1) 0 [.bool rn,.string rd,.int .i64 re] rfl rfl 23 _ [.bool rn,.string rd,.int .i64 re] hT.out.res sizeDECl rfl (Nat.le_refl 3) (dec_one _ _ _) ?_
  refine hK.out _ _ ⟨_,hT.out.put [.bool rn,.string rd,.int .i64 re]⟩ (fun hHeldx=>?_)
  clear hK K hHeld
  have hHeld:=hHeldx
  clear hHeldx
  refine rd1 10 rfl (fun K hK=>?_)
  rw [if_pos (by rfl)]
  go_simp
  refine hK.out _ _ hHeld (fun hHeldx=>?_)
  clear hK K hHeldx
  refine wpAnyH_done (by kernel_rfl) ?_ _
  clear hHeld
  go_wp2_with fail
  refine bodyPost_ret (results_cell_row2 rfl _ _ (w.heap.size+1+1) 23 _ (0,0) _ rfl (hT.out.put [.bool rn,.string rd,.int .i64 re]).res Tryz.underlying23 rfl sizeDEC) rfl ?_
  exact ⟨by rw [HQ.out];try rfl,(hT.out.put [.bool rn,.string rd,.int .i64 re]).below⟩
 ·have hnb:(a.neg==b.neg)=false:=by simp [hn]
  obtain ⟨s,hs⟩:∃ s,s=lenC x y:=⟨_,rfl⟩
  have HS:=Hd hs
  have HSV:=Hd (show s=sgn X Y by rw [hs,lenC_num HCX.out HCY.out,NX.out,NY.out])
  clear hs
  by_cases hle:Y≤X
  ·obtain ⟨r,hr⟩:∃ r,r=normD a.neg (numS (X-Y)) ez:=⟨_,rfl⟩
   have HR:=Hd hr
   clear hr
   obtain ⟨⟨rn,rd,re⟩,rk⟩:=r
   have HQ:=Hd (show addD a b=((⟨rn,rd,re⟩,rk):DecD×Int) by rw [HADD.out,if_neg hn,if_pos hle];exact HR.out.symm)
   have hs0:0≤s:=by rw [HSV.out];unfold sgn;rw [if_neg (by omega)];split<;>omega
   have HLE:=Hd hle
   clear hn hle
   have hT:=Hd (tdec w a b [.bool false,.string ⟨#[]⟩,.int .i64 0])
   have ca0:=hT.out.one.cell (j:=0) (v:=.bool a.neg) rfl
   have ca1:=hT.out.one.cell (j:=1) (v:=.string a.digits) rfl
   have ca2:=hT.out.one.cell (j:=2) (v:=.int .i64 a.exp) rfl
   have cb0:=hT.out.two.cell (j:=0) (v:=.bool b.neg) rfl
   have cb1:=hT.out.two.cell (j:=1) (v:=.string b.digits) rfl
   have cb2:=hT.out.two.cell (j:=2) (v:=.int .i64 b.exp) rfl
   go_enter Tryz.func53,Tryz.ntmps53
   go_wp2_with fail
   refine (AX.out _).mono ?_
   rintro e u4w ⟨rfl,hb⟩
   have hT1:=Hd (hT.out.later hb)
   clear hb hT ca0 ca1 ca2 cb0 cb1 cb2
   have hT:=hT1
   clear hT1
   have ca0:=hT.out.one.cell (j:=0) (v:=.bool a.neg) rfl
   have ca1:=hT.out.one.cell (j:=1) (v:=.string a.digits) rfl
   have ca2:=hT.out.one.cell (j:=2) (v:=.int .i64 a.exp) rfl
   have cb0:=hT.out.two.cell (j:=0) (v:=.bool b.neg) rfl
   have cb1:=hT.out.two.cell (j:=1) (v:=.string b.digits) rfl
   have cb2:=hT.out.two.cell (j:=2) (v:=.int .i64 b.exp) rfl
   go_wp2_with (go_at_call 108;refine (dcmp_p _ _ _).mono ?_;rintro e w9 ⟨rfl,rfl⟩;rw [← HS.out])
   refine wp_region_held_drew (S:=fun u=>∃ zc,Tdec w u a b zc) (by kernel_rfl) ⟨_,hT.out.drew⟩ (fun hHeld=>?_)
   have hT1:=Hd hT.out.drew
   clear hT ca0 ca1 ca2 cb0 cb1 cb2
   have hT:=hT1
   clear hT1
   refine' tk 0 (.pointer (some ⟨w.heap.size,0,none⟩)) rfl rfl (.inl ⟨by rfl,fun u hu=>(by go_simp)⟩) hHeld ?_
   simp only [sq1,sq0]
   refine' tk 1 (.bool a.neg) rfl rfl (.inl ⟨by rfl,fun u hu=>(by obtain ⟨_,T⟩:=hu;have hc:=T.one.cell (j:=0) (v:=.bool a.neg) rfl;go_simp)⟩) hHeld ?_
   simp only [sq1,sq0]
   refine' tk 2 (.string x) rfl rfl (.inl ⟨by rfl,fun u hu=>(by go_simp)⟩) hHeld ?_
   simp only [sq1,sq0]
   refine' tk 3 (.string y) rfl rfl (.inl ⟨by rfl,fun u hu=>(by go_simp)⟩) hHeld ?_
   simp only [sq1,sq0]
   refine' tk 5 (.int .i64 ez) rfl rfl (.inl ⟨by rfl,fun u hu=>(by go_simp)⟩) hHeld ?_
   simp only [sq1,sq0]
   refine rd1 4 rfl (fun K hK=>?_)
   rw [if_pos (by rfl)]
   go_simp
   refine (minus_p x y _ HCX.out.1 HCY.out.1 (by omega) (by omega) (by rw [NX.out,NY.out];exact HLE.out)).mono ?_
   rintro e u5w ⟨rfl,hbC⟩
   rw [NX.out,NY.out]
   have hT1:=Hd (hT.out.later hbC)
   refine hK.out _ _ ⟨_,hT1.out⟩ (fun hHeldx=>?_)
   clear hK K hHeld hbC hT
   have hT:=hT1
   have hHeld:=hHeldx
   clear hT1 hHeldx
   refine rd1 6 rfl (fun K hK=>?_)
   rw [if_pos (by rfl)]
   go_simp
   refine (norm_p a.neg (numS (X-Y)) ez _ (size_of_num (Nat.lt_of_le_of_lt (Nat.sub_le _ _) HLX.out) (by omega)) (by omega) (by omega)).mono ?_
   rintro e u6w ⟨rfl,hbC⟩
   rw [← HR.out]
   have hT1:=Hd (hT.out.later hbC)
   refine hK.out _ _ ⟨_,hT1.out⟩ (fun hHeldx=>?_)
   clear hK K hHeld hbC hT
   have hT:=hT1
   have hHeld:=hHeldx
   clear hT1 hHeldx
   refine' tk 7 (.agg #[.bool rn,.string rd,.int .i64 re]) rfl rfl (.inl ⟨by rfl,fun u hu=>(by go_simp)⟩) hHeld ?_
   simp only [sq1,sq0]
   refine' tk 8 (.int .i64 rk) rfl rfl (.inl ⟨by rfl,fun u hu=>(by go_simp)⟩) hHeld ?_
   simp only [sq1,sq0]
   refine rd1 9 rfl (fun K hK=>?_)
   rw [if_pos (by rfl)]
   refine wp_store_atL rfl 23 _ _ rfl (w.heap.size+1+1) 0 [.bool rn,.string rd,.int .i64 re] rfl rfl 23 _ [.bool rn,.string rd,.int .i64 re] hT.out.res sizeDECl rfl (Nat.le_refl 3) (dec_one _ _ _) ?_
   refine hK.out _ _ ⟨_,hT.out.put [.bool rn,.string rd,.int .i64 re]⟩ (fun hHeldx=>?_)
   clear hK K hHeld
   have hHeld:=hHeldx
   clear hHeldx
   refine rd1 10 rfl (fun K hK=>?_)
   rw [if_pos (by rfl)]
   go_simp
   refine hK.out _ _ hHeld (fun hHeldx=>?_)
   clear hK K hHeldx
   refine wpAnyH_done (by kernel_rfl) ?_ _
   clear hHeld
   go_wp2_with fail
   refine bodyPost_ret (results_cell_row2 rfl _ _ (w.heap.size+1+1) 23 _ (0,0) _ rfl (hT.out.put [.bool rn,.string rd,.int .i64 re]).res Tryz.underlying23 rfl sizeDEC) rfl ?_
   exact ⟨by rw [HQ.out];try rfl,(hT.out.put [.bool rn,.string rd,.int .i64 re]).below⟩
  ·obtain ⟨r,hr⟩:∃ r,r=normD b.neg (numS (Y-X)) ez:=⟨_,rfl⟩
   have HR:=Hd hr
   clear hr
   obtain ⟨⟨rn,rd,re⟩,rk⟩:=r
   have HQ:=Hd (show addD a b=((⟨rn,rd,re⟩,rk):DecD×Int) by rw [HADD.out,if_neg hn,if_neg hle];exact HR.out.symm)
   have hs0:s<0:=by rw [HSV.out,sgn_lt (by omega)];omega
   have HLE:=Hd (show X≤Y by omega)
   clear hn hle
   have hT:=Hd (tdec w a b [.bool false,.string ⟨#[]⟩,.int .i64 0])
   have ca0:=hT.out.one.cell (j:=0) (v:=.bool a.neg) rfl
   have ca1:=hT.out.one.cell (j:=1) (v:=.string a.digits) rfl
   have ca2:=hT.out.one.cell (j:=2) (v:=.int .i64 a.exp) rfl
   have cb0:=hT.out.two.cell (j:=0) (v:=.bool b.neg) rfl
   have cb1:=hT.out.two.cell (j:=1) (v:=.string b.digits) rfl
   have cb2:=hT.out.two.cell (j:=2) (v:=.int .i64 b.exp) rfl
   go_enter Tryz.func53,Tryz.ntmps53
   go_wp2_with fail
   refine (AX.out _).mono ?_
   rintro e u7w ⟨rfl,hb⟩
   have hT1:=Hd (hT.out.later hb)
   clear hb hT ca0 ca1 ca2 cb0 cb1 cb2
   have hT:=hT1
   clear hT1
   have ca0:=hT.out.one.cell (j:=0) (v:=.bool a.neg) rfl
   have ca1:=hT.out.one.cell (j:=1) (v:=.string a.digits) rfl
   have ca2:=hT.out.one.cell (j:=2) (v:=.int .i64 a.exp) rfl
   have cb0:=hT.out.two.cell (j:=0) (v:=.bool b.neg) rfl
   have cb1:=hT.out.two.cell (j:=1) (v:=.string b.digits) rfl
   have cb2:=hT.out.two.cell (j:=2) (v:=.int .i64 b.exp) rfl
   go_wp2_with (go_at_call 108;refine (dcmp_p _ _ _).mono ?_;rintro e w9 ⟨rfl,rfl⟩;rw [← HS.out])
   refine wp_region_held_drew (S:=fun u=>∃ zc,Tdec w u a b zc) (by kernel_rfl) ⟨_,hT.out.drew⟩ (fun hHeld=>?_)
   have hT1:=Hd hT.out.drew
   clear hT ca0 ca1 ca2 cb0 cb1 cb2
   have hT:=hT1
   clear hT1
   refine' tk 0 (.pointer (some ⟨w.heap.size+1,0,none⟩)) rfl rfl (.inl ⟨by rfl,fun u hu=>(by go_simp)⟩) hHeld ?_
   simp only [sq1,sq0]
   refine' tk 1 (.bool b.neg) rfl rfl (.inl ⟨by rfl,fun u hu=>(by obtain ⟨_,T⟩:=hu;have hc:=T.two.cell (j:=0) (v:=.bool b.neg) rfl;go_simp)⟩) hHeld ?_
   simp only [sq1,sq0]
   refine' tk 2 (.string y) rfl rfl (.inl ⟨by rfl,fun u hu=>(by go_simp)⟩) hHeld ?_
   simp only [sq1,sq0]
   refine' tk 3 (.string x) rfl rfl (.inl ⟨by rfl,fun u hu=>(by go_simp)⟩) hHeld ?_
   simp only [sq1,sq0]
   refine' tk 5 (.int .i64 ez) rfl rfl (.inl ⟨by rfl,fun u hu=>(by go_simp)⟩) hHeld ?_
   simp only [sq1,sq0]
   refine rd1 4 rfl (fun K hK=>?_)
   rw [if_pos (by rfl)]
   go_simp
   refine (minus_p y x _ HCY.out.1 HCX.out.1 (by omega) (by omega) (by rw [NX.out,NY.out];exact HLE.out)).mono ?_
   rintro e u8w ⟨rfl,hbC⟩
   rw [NX.out,NY.out]
   have hT1:=Hd (hT.out.later hbC)
   refine hK.out _ _ ⟨_,hT1.out⟩ (fun hHeldx=>?_)
   clear hK K hHeld hbC hT
   have hT:=hT1
   have hHeld:=hHeldx
   clear hT1 hHeldx
   refine rd1 6 rfl (fun K hK=>?_)
   rw [if_pos (by rfl)]
   go_simp
   refine (norm_p b.neg (numS (Y-X)) ez _ (size_of_num (Nat.lt_of_le_of_lt (Nat.sub_le _ _) HLY.out) (by omega)) (by omega) (by omega)).mono ?_
   rintro e u9w ⟨rfl,hbC⟩
   rw [← HR.out]
   have hT1:=Hd (hT.out.later hbC)
   refine hK.out _ _ ⟨_,hT1.out⟩ (fun hHeldx=>?_)
   clear hK K hHeld hbC hT
   have hT:=hT1
   have hHeld:=hHeldx
   clear hT1 hHeldx
   refine' tk 7 (.agg #[.bool rn,.string rd,.int .i64 re]) rfl rfl (.inl ⟨by rfl,fun u hu=>(by go_simp)⟩) hHeld ?_
   simp only [sq1,sq0]
   refine' tk 8 (.int .i64 rk) rfl rfl (.inl ⟨by rfl,fun u hu=>(by go_simp)⟩) hHeld ?_
   simp only [sq1,sq0]
   refine rd1 9 rfl (fun K hK=>?_)
   rw [if_pos (by rfl)]
   refine wp_store_atL rfl 23 _ _ rfl (w.heap.size+1+1) 0 [.bool rn,.string rd,.int .i64 re] rfl rfl 23 _ [.bool rn,.string rd,.int .i64 re] hT.out.res sizeDECl rfl (Nat.le_refl 3) (dec_one _ _ _) ?_
   refine hK.out _ _ ⟨_,hT.out.put [.bool rn,.string rd,.int .i64 re]⟩ (fun hHeldx=>?_)
   clear hK K hHeld
   have hHeld:=hHeldx
   clear hHeldx
   refine rd1 10 rfl (fun K hK=>?_)
   rw [if_pos (by rfl)]
   go_simp
   refine hK.out _ _ hHeld (fun hHeldx=>?_)
   clear hK K hHeldx
   refine wpAnyH_done (by kernel_rfl) ?_ _
   clear hHeld
   go_wp2_with fail
   refine bodyPost_ret (results_cell_row2 rfl _ _ (w.heap.size+1+1) 23 _ (0,0) _ rfl (hT.out.put [.bool rn,.string rd,.int .i64 re]).res Tryz.underlying23 rfl sizeDEC) rfl ?_
   exact ⟨by rw [HQ.out];try rfl,(hT.out.put [.bool rn,.string rd,.int .i64 re]).below⟩
set_option maxRecDepth 100000 in
set_option maxHeartbeats 6400000 in
theorem add_r (a b:DecD) (w:World) (ha:VDec a) (hb:VDec b) :
 Calls Tryz.prog 71 #[.agg #[.bool a.neg,.string a.digits,.int .i64 a.exp],.agg #[.bool b.neg,.string b.digits,.int .i64 b.exp]] w (DecV (addD a b) w):=by
 obtain ⟨CX,CY,SX,SY,_⟩:=align_canon ha hb
 obtain ⟨kk,hkk,LXY⟩:=xD_lt ha hb
 have HE:=exp_range ha hb
 have HVA:=Hd ha
 have HVB:=Hd hb
 obtain ⟨x,hx⟩:∃ x,x=(alignD a b).1:=⟨_,rfl⟩
 obtain ⟨y,hy⟩:∃ y,y=(alignD a b).2:=⟨_,rfl⟩
 obtain ⟨X,hX⟩:∃ X,X=xD a b:=⟨_,rfl⟩
 obtain ⟨Y,hY⟩:∃ Y,Y=yD a b:=⟨_,rfl⟩
 obtain ⟨ez,hez⟩:∃ ez,ez=expD a b:=⟨_,rfl⟩
 have NX:=Hd (show numV x=X by rw [hx,hX];rfl)
 have NY:=Hd (show numV y=Y by rw [hy,hY];rfl)
 rw [← hx] at CX SX
 rw [← hy] at CY SY
 rw [← hX,← hY] at LXY
 rw [← hez] at HE
 obtain ⟨HE1,HE2⟩:=HE
 have HCX:=Hd CX
 have HCY:=Hd CY
 have HLX:=Hd LXY.1
 have HLY:=Hd LXY.2
 have HADD:=Hd (show addD a b=if a.neg=b.neg then normD a.neg (numS (X+Y)) ez else if Y≤X then normD a.neg (numS (X-Y)) ez else normD b.neg (numS (Y-X)) ez by unfold addD;rw [← hX,← hY,← hez])
 have ha0:0<a.digits.size→0<b.digits.size→ez=min a.exp b.exp∧x=padS a.digits (a.exp-ez).toNat∧y=padS b.digits (b.exp-ez).toNat:=fun h1 h2=>by
  rw [hx,hy,hez]
  unfold expD alignD
  rw [if_neg (by omega),if_neg (by omega),if_neg (by omega)]
  exact ⟨rfl,rfl,rfl⟩
 have HPAD:=Hd ha0
 obtain ⟨sa1,sa2,sa3⟩:=vdec_small ha
 obtain ⟨sb1,sb2,sb3⟩:=vdec_small hb
 clear ha hb CX CY LXY hx hy hX hY hez ha0
 by_cases h0:a.digits.size=0
 ·have HQ:=Hd (addD_left HVA.out HVB.out h0)
  have hd:=toList_nil h0
  have hT:=Hd (tdec w a b [.bool false,.string ⟨#[]⟩,.int .i64 0])
  have ca0:=hT.out.one.cell (j:=0) (v:=.bool a.neg) rfl
  have ca1:=hT.out.one.cell (j:=1) (v:=.string a.digits) rfl
  have ca2:=hT.out.one.cell (j:=2) (v:=.int .i64 a.exp) rfl
  have cb0:=hT.out.two.cell (j:=0) (v:=.bool b.neg) rfl
  have cb1:=hT.out.two.cell (j:=1) (v:=.string b.digits) rfl
  have cb2:=hT.out.two.cell (j:=2) (v:=.int .i64 b.exp) rfl
  go_enter Tryz.func71,Tryz.ntmps71
  go_wp2_with ((with_reducible show wpList _ _ _ (⟨none,.store 23 (.tmp 4) _,_,_,_,_⟩::_) _ _);refine wpList_store_at rfl 23 _ _ rfl (w.heap.size+1+1) 0 [.bool b.neg,.string b.digits,.int .i64 b.exp] rfl rfl 23 _ [.bool b.neg,.string b.digits,.int .i64 b.exp] hT.out.res sizeDECl rfl (Nat.le_refl 3) (dec_one _ _ _) ?_)
  refine bodyPost_ret (results_cell_row2 rfl _ _ (w.heap.size+1+1) 23 _ (0,0) _ rfl (hT.out.put [.bool b.neg,.string b.digits,.int .i64 b.exp]).res Tryz.underlying23 rfl sizeDEC) rfl ?_
  exact ⟨by rw [HQ.out];try rfl,(hT.out.put [.bool b.neg,.string b.digits,.int .i64 b.exp]).below⟩
 ·by_cases h1:b.digits.size=0
  ·have HQ:=Hd (addD_right HVA.out h0 h1)
   have hd:=toList_nil h1
   have ea1:a.digits.toList.isEmpty=false:=by rw [List.isEmpty_eq_false_iff];exact ne_toList (by omega)
   have ea2:(a.digits.toList==[])=false:=by rw [beq_eq_false_iff_ne];exact ne_toList (by omega)
   have ea3:¬ a.digits.toList=[]:=ne_toList (by omega)
   have hT:=Hd (tdec w a b [.bool false,.string ⟨#[]⟩,.int .i64 0])
   have ca0:=hT.out.one.cell (j:=0) (v:=.bool a.neg) rfl
   have ca1:=hT.out.one.cell (j:=1) (v:=.string a.digits) rfl
   have ca2:=hT.out.one.cell (j:=2) (v:=.int .i64 a.exp) rfl
   have cb0:=hT.out.two.cell (j:=0) (v:=.bool b.neg) rfl
   have cb1:=hT.out.two.cell (j:=1) (v:=.string b.digits) rfl
   have cb2:=hT.out.two.cell (j:=2) (v:=.int .i64 b.exp) rfl
   go_enter Tryz.func71,Tryz.ntmps71
   go_wp2_with ((with_reducible show wpList _ _ _ (⟨none,.store 23 (.tmp 4) _,_,_,_,_⟩::_) _ _);refine wpList_store_at rfl 23 _ _ rfl (w.heap.size+1+1) 0 [.bool a.neg,.string a.digits,.int .i64 a.exp] rfl rfl 23 _ [.bool a.neg,.string a.digits,.int .i64 a.exp] hT.out.res sizeDECl rfl (Nat.le_refl 3) (dec_one _ _ _) ?_)
   refine bodyPost_ret (results_cell_row2 rfl _ _ (w.heap.size+1+1) 23 _ (0,0) _ rfl (hT.out.put [.bool a.neg,.string a.digits,.int .i64 a.exp]).res Tryz.underlying23 rfl sizeDEC) rfl ?_
   exact ⟨by rw [HQ.out];try rfl,(hT.out.put [.bool a.neg,.string a.digits,.int .i64 a.exp]).below⟩
  ·obtain ⟨hmn,hxp,hyp⟩:=HPAD.out (by omega) (by omega)
   have HMN:=Hd hmn
   have HXP:=Hd hxp
   have HYP:=Hd hyp
   have hmn1:ez≤a.exp:=by omega
   have hmn2:ez≤b.exp:=by omega
   have ea1:a.digits.toList.isEmpty=false:=by rw [List.isEmpty_eq_false_iff];exact ne_toList (by omega)
   have ea2:(a.digits.toList==[])=false:=by rw [beq_eq_false_iff_ne];exact ne_toList (by omega)
   have ea3:¬ a.digits.toList=[]:=ne_toList (by omega)
   have eb1:b.digits.toList.isEmpty=false:=by rw [List.isEmpty_eq_false_iff];exact ne_toList (by omega)
   have eb2:(b.digits.toList==[])=false:=by rw [beq_eq_false_iff_ne];exact ne_toList (by omega)
   have eb3:¬ b.digits.toList=[]:=ne_toList (by omega)
   clear h0 h1 hmn hxp hyp
   by_cases hn:a.neg=b.neg
   ·obtain ⟨r,hr⟩:∃ r,r=normD a.neg (numS (X+Y)) ez:=⟨_,rfl⟩
    have HR:=Hd hr
    clear hr
    obtain ⟨⟨rn,rd,re⟩,rk⟩:=r
    have HQ:=Hd (show addD a b=((⟨rn,rd,re⟩,rk):DecD×Int) by rw [HADD.out,if_pos hn];exact HR.out.symm)
    have hnb:(a.neg==b.neg)=true:=by simp [hn]
    clear hn
    have hT:=Hd (tdec w a b [.bool false,.string ⟨#[]⟩,.int .i64 0])
    have ca0:=hT.out.one.cell (j:=0) (v:=.bool a.neg) rfl
    have ca1:=hT.out.one.cell (j:=1) (v:=.string a.digits) rfl
    have ca2:=hT.out.one.cell (j:=2) (v:=.int .i64 a.exp) rfl
    have cb0:=hT.out.two.cell (j:=0) (v:=.bool b.neg) rfl
    have cb1:=hT.out.two.cell (j:=1) (v:=.string b.digits) rfl
    have cb2:=hT.out.two.cell (j:=2) (v:=.int .i64 b.exp) rfl
    go_enter Tryz.func71,Tryz.ntmps71
    go_wp2_with fail
    refine (lower_r a b _).mono ?_
    rintro e u1w ⟨rfl,hb⟩
    rw [← HMN.out]
    have hT1:=Hd (hT.out.later hb)
    clear hb hT ca0 ca1 ca2 cb0 cb1 cb2
    have hT:=hT1
    clear hT1
    have ca0:=hT.out.one.cell (j:=0) (v:=.bool a.neg) rfl
    have ca1:=hT.out.one.cell (j:=1) (v:=.string a.digits) rfl
    have ca2:=hT.out.one.cell (j:=2) (v:=.int .i64 a.exp) rfl
    have cb0:=hT.out.two.cell (j:=0) (v:=.bool b.neg) rfl
    have cb1:=hT.out.two.cell (j:=1) (v:=.string b.digits) rfl
    have cb2:=hT.out.two.cell (j:=2) (v:=.int .i64 b.exp) rfl
    go_wp2_with fail
    refine wp_region_held_drew (S:=fun u=>∃ zc,Tdec w u a b zc) (by kernel_rfl) ⟨_,hT.out.drew⟩ (fun hHeld=>?_)
    have hT1:=Hd hT.out.drew
    clear hT ca0 ca1 ca2 cb0 cb1 cb2
    have hT:=hT1
    clear hT1
    refine' tk 0 (.agg #[.bool a.neg,.string a.digits,.int .i64 a.exp]) rfl rfl (.inl ⟨by rfl,fun u hu=>(by obtain ⟨_,T⟩:=hu;have h0:=T.one.cell (j:=0) (v:=.bool a.neg) rfl;have h1:=T.one.cell (j:=1) (v:=.string a.digits) rfl;have h2:=T.one.cell (j:=2) (v:=.int .i64 a.exp) rfl;go_simp)⟩) hHeld ?_
    simp only [sq1,sq0]
    refine' tk 1 (.int .i64 ez) rfl rfl (.inl ⟨by rfl,fun u hu=>(by go_simp)⟩) hHeld ?_
    simp only [sq1,sq0]
    refine' tk 3 (.agg #[.bool b.neg,.string b.digits,.int .i64 b.exp]) rfl rfl (.inl ⟨by rfl,fun u hu=>(by obtain ⟨_,T⟩:=hu;have h0:=T.two.cell (j:=0) (v:=.bool b.neg) rfl;have h1:=T.two.cell (j:=1) (v:=.string b.digits) rfl;have h2:=T.two.cell (j:=2) (v:=.int .i64 b.exp) rfl;go_simp)⟩) hHeld ?_
    simp only [sq1,sq0]
    refine' tk 4 (.int .i64 ez) rfl rfl (.inl ⟨by rfl,fun u hu=>(by go_simp)⟩) hHeld ?_
    simp only [sq1,sq0]
    refine rd1 2 rfl (fun K hK=>?_)
    rw [if_pos (by rfl)]
    go_simp
    refine (atd_r a ez _ (by omega) (by omega) (by omega)).mono ?_
    rintro e u2w ⟨rfl,hbC⟩
    rw [← HXP.out]
    have hT1:=Hd (hT.out.later hbC)
    refine hK.out _ _ ⟨_,hT1.out⟩ (fun hHeldx=>?_)
    clear hK K hHeld hbC hT
    have hT:=hT1
    have hHeld:=hHeldx
    clear hT1 hHeldx
    refine rd1 5 rfl (fun K hK=>?_)
    rw [if_pos (by rfl)]
    go_simp
    refine (atd_r b ez _ (by omega) (by omega) (by omega)).mono ?_
    rintro e u3w ⟨rfl,hbC⟩
    rw [← HYP.out]
    have hT1:=Hd (hT.out.later hbC)
    refine hK.out _ _ ⟨_,hT1.out⟩ (fun hHeldx=>?_)
    clear hK K hHeld hbC hT
    have hT:=hT1
    have hHeld:=hHeldx
    clear hT1 hHeldx
    refine rd1 6 rfl (fun K hK=>?_)
    rw [if_pos (by rfl)]
    go_simp
    refine hK.out _ _ hHeld (fun hHeldx=>?_)
    clear hK K hHeldx
    refine rd1 7 rfl (fun K hK=>?_)
    rw [if_pos (by rfl)]
    go_simp
    refine hK.out _ _ hHeld (fun hHeldx=>?_)
    clear hK K hHeldx
    refine wpAnyH_done (by kernel_rfl) ?_ _
    clear hHeld
    have ca0:=hT.out.one.cell (j:=0) (v:=.bool a.neg) rfl
    have ca1:=hT.out.one.cell (j:=1) (v:=.string a.digits) rfl
    have ca2:=hT.out.one.cell (j:=2) (v:=.int .i64 a.exp) rfl
    have cb0:=hT.out.two.cell (j:=0) (v:=.bool b.neg) rfl
    have cb1:=hT.out.two.cell (j:=1) (v:=.string b.digits) rfl
    have cb2:=hT.out.two.cell (j:=2) (v:=.int .i64 b.exp) rfl
    go_wp2_with fail
    refine wp_region_held_drew (S:=fun u=>∃ zc,Tdec w u a b zc) (by kernel_rfl) ⟨_,hT.out.drew⟩ (fun hHeld=>?_)
    have hT1:=Hd hT.out.drew
    clear hT ca0 ca1 ca2 cb0 cb1 cb2
    have hT:=hT1
    clear hT1
    refine' tk 0 (.pointer (some ⟨w.heap.size,0,none⟩)) rfl rfl (.inl ⟨by rfl,fun u hu=>(by go_simp)⟩) hHeld ?_
    simp only [sq1,sq0]
    refine' tk 1 (.bool a.neg) rfl rfl (.inl ⟨by rfl,fun u hu=>(by obtain ⟨_,T⟩:=hu;have hc:=T.one.cell (j:=0) (v:=.bool a.neg) rfl;go_simp)⟩) hHeld ?_
    simp only [sq1,sq0]
    refine' tk 2 (.string x) rfl rfl (.inl ⟨by rfl,fun u hu=>(by go_simp)⟩) hHeld ?_
    simp only [sq1,sq0]
    refine' tk 3 (.string y) rfl rfl (.inl ⟨by rfl,fun u hu=>(by go_simp)⟩) hHeld ?_
    simp only [sq1,sq0]
    refine' tk 5 (.int .i64 ez) rfl rfl (.inl ⟨by rfl,fun u hu=>(by go_simp)⟩) hHeld ?_
    simp only [sq1,sq0]
    refine rd1 4 rfl (fun K hK=>?_)
    rw [if_pos (by rfl)]
    go_simp
    refine (sum_r x y _ HCX.out.1 HCY.out.1 (by omega) (by omega)).mono ?_
    rintro e u4w ⟨rfl,hbC⟩
    rw [NX.out,NY.out]
    have hT1:=Hd (hT.out.later hbC)
    refine hK.out _ _ ⟨_,hT1.out⟩ (fun hHeldx=>?_)
    clear hK K hHeld hbC hT
    have hT:=hT1
    have hHeld:=hHeldx
    clear hT1 hHeldx
    refine rd1 6 rfl (fun K hK=>?_)
    rw [if_pos (by rfl)]
    go_simp
    refine (nrm_r a.neg (numS (X+Y)) (numS (X+Y)) ez _ (by rw [strip_num (numS_canon _).1,numV_numS]) (size_of_num (add_lt HLX.out HLY.out) (by omega)) (size_of_num (add_lt HLX.out HLY.out) (by omega)) (by omega) (by omega)).mono ?_
    rintro e u5w ⟨rfl,hbC⟩
    rw [← HR.out]
    have hT1:=Hd (hT.out.later hbC)
    refine hK.out _ _ ⟨_,hT1.out⟩ (fun hHeldx=>?_)
    clear hK K hHeld hbC hT
    have hT:=hT1
    have hHeld:=hHeldx
    clear hT1 hHeldx
    refine' tk 7 (.agg #[.bool rn,.string rd,.int .i64 re]) rfl rfl (.inl ⟨by rfl,fun u hu=>(by go_simp)⟩) hHeld ?_
    simp only [sq1,sq0]
    refine' tk 8 (.int .i64 rk) rfl rfl (.inl ⟨by rfl,fun u hu=>(by go_simp)⟩) hHeld ?_
    simp only [sq1,sq0]
    refine rd1 9 rfl (fun K hK=>?_)
    rw [if_pos (by rfl)]
    refine wp_store_atL rfl 23 _ _ rfl (w.heap.size+1+1) 0 [.bool rn,.string rd,.int .i64 re] rfl rfl 23 _ [.bool rn,.string rd,.int .i64 re] hT.out.res sizeDECl rfl (Nat.le_refl 3) (dec_one _ _ _) ?_
    refine hK.out _ _ ⟨_,hT.out.put [.bool rn,.string rd,.int .i64 re]⟩ (fun hHeldx=>?_)
    clear hK K hHeld
    have hHeld:=hHeldx
    clear hHeldx
    refine rd1 10 rfl (fun K hK=>?_)
    rw [if_pos (by rfl)]
    go_simp
    refine hK.out _ _ hHeld (fun hHeldx=>?_)
    clear hK K hHeldx
    refine wpAnyH_done (by kernel_rfl) ?_ _
    clear hHeld
    go_wp2_with fail
    refine bodyPost_ret (results_cell_row2 rfl _ _ (w.heap.size+1+1) 23 _ (0,0) _ rfl (hT.out.put [.bool rn,.string rd,.int .i64 re]).res Tryz.underlying23 rfl sizeDEC) rfl ?_
    exact ⟨by rw [HQ.out];try rfl,(hT.out.put [.bool rn,.string rd,.int .i64 re]).below⟩
   ·have hnb:(a.neg==b.neg)=false:=by simp [hn]
    obtain ⟨s,hs⟩:∃ s,s=lenC x y:=⟨_,rfl⟩
    have HS:=Hd hs
    have HSV:=Hd (show s=sgn X Y by rw [hs,lenC_num HCX.out HCY.out,NX.out,NY.out])
    clear hs
    by_cases hle:Y≤X
    ·obtain ⟨r,hr⟩:∃ r,r=normD a.neg (numS (X-Y)) ez:=⟨_,rfl⟩
     have HR:=Hd hr
     clear hr
     obtain ⟨⟨rn,rd,re⟩,rk⟩:=r
     have HQ:=Hd (show addD a b=((⟨rn,rd,re⟩,rk):DecD×Int) by rw [HADD.out,if_neg hn,if_pos hle];exact HR.out.symm)
     have hs0:0≤s:=by rw [HSV.out];unfold sgn;rw [if_neg (by omega)];split<;>omega
     have HLE:=Hd hle
     clear hn hle
     have hT:=Hd (tdec w a b [.bool false,.string ⟨#[]⟩,.int .i64 0])
     have ca0:=hT.out.one.cell (j:=0) (v:=.bool a.neg) rfl
     have ca1:=hT.out.one.cell (j:=1) (v:=.string a.digits) rfl
     have ca2:=hT.out.one.cell (j:=2) (v:=.int .i64 a.exp) rfl
     have cb0:=hT.out.two.cell (j:=0) (v:=.bool b.neg) rfl
     have cb1:=hT.out.two.cell (j:=1) (v:=.string b.digits) rfl
     have cb2:=hT.out.two.cell (j:=2) (v:=.int .i64 b.exp) rfl
     go_enter Tryz.func71,Tryz.ntmps71
     go_wp2_with fail
     refine (lower_r a b _).mono ?_
     rintro e u6w ⟨rfl,hb⟩
     rw [← HMN.out]
     have hT1:=Hd (hT.out.later hb)
     clear hb hT ca0 ca1 ca2 cb0 cb1 cb2
     have hT:=hT1
     clear hT1
     have ca0:=hT.out.one.cell (j:=0) (v:=.bool a.neg) rfl
     have ca1:=hT.out.one.cell (j:=1) (v:=.string a.digits) rfl
     have ca2:=hT.out.one.cell (j:=2) (v:=.int .i64 a.exp) rfl
     have cb0:=hT.out.two.cell (j:=0) (v:=.bool b.neg) rfl
     have cb1:=hT.out.two.cell (j:=1) (v:=.string b.digits) rfl
     have cb2:=hT.out.two.cell (j:=2) (v:=.int .i64 b.exp) rfl
     go_wp2_with fail
     refine wp_region_held_drew (S:=fun u=>∃ zc,Tdec w u a b zc) (by kernel_rfl) ⟨_,hT.out.drew⟩ (fun hHeld=>?_)
     have hT1:=Hd hT.out.drew
     clear hT ca0 ca1 ca2 cb0 cb1 cb2
     have hT:=hT1
     clear hT1
     refine' tk 0 (.agg #[.bool a.neg,.string a.digits,.int .i64 a.exp]) rfl rfl (.inl ⟨by rfl,fun u hu=>(by obtain ⟨_,T⟩:=hu;have h0:=T.one.cell (j:=0) (v:=.bool a.neg) rfl;have h1:=T.one.cell (j:=1) (v:=.string a.digits) rfl;have h2:=T.one.cell (j:=2) (v:=.int .i64 a.exp) rfl;go_simp)⟩) hHeld ?_
     simp only [sq1,sq0]
     refine' tk 1 (.int .i64 ez) rfl rfl (.inl ⟨by rfl,fun u hu=>(by go_simp)⟩) hHeld ?_
     simp only [sq1,sq0]
     refine' tk 3 (.agg #[.bool b.neg,.string b.digits,.int .i64 b.exp]) rfl rfl (.inl ⟨by rfl,fun u hu=>(by obtain ⟨_,T⟩:=hu;have h0:=T.two.cell (j:=0) (v:=.bool b.neg) rfl;have h1:=T.two.cell (j:=1) (v:=.string b.digits) rfl;have h2:=T.two.cell (j:=2) (v:=.int .i64 b.exp) rfl;go_simp)⟩) hHeld ?_
     simp only [sq1,sq0]
     refine' tk 4 (.int .i64 ez) rfl rfl (.inl ⟨by rfl,fun u hu=>(by go_simp)⟩) hHeld ?_
     simp only [sq1,sq0]
     refine rd1 2 rfl (fun K hK=>?_)
     rw [if_pos (by rfl)]
     go_simp
     refine (atd_r a ez _ (by omega) (by omega) (by omega)).mono ?_
     rintro e u7w ⟨rfl,hbC⟩
     rw [← HXP.out]
     have hT1:=Hd (hT.out.later hbC)
     refine hK.out _ _ ⟨_,hT1.out⟩ (fun hHeldx=>?_)
     clear hK K hHeld hbC hT
     have hT:=hT1
     have hHeld:=hHeldx
     clear hT1 hHeldx
     refine rd1 5 rfl (fun K hK=>?_)
     rw [if_pos (by rfl)]
     go_simp
     refine (atd_r b ez _ (by omega) (by omega) (by omega)).mono ?_
     rintro e u8w ⟨rfl,hbC⟩
     rw [← HYP.out]
     have hT1:=Hd (hT.out.later hbC)
     refine hK.out _ _ ⟨_,hT1.out⟩ (fun hHeldx=>?_)
     clear hK K hHeld hbC hT
     have hT:=hT1
     have hHeld:=hHeldx
     clear hT1 hHeldx
     refine rd1 6 rfl (fun K hK=>?_)
     rw [if_pos (by rfl)]
     go_simp
     refine hK.out _ _ hHeld (fun hHeldx=>?_)
     clear hK K hHeldx
     refine rd1 7 rfl (fun K hK=>?_)
     rw [if_pos (by rfl)]
     go_simp
     refine hK.out _ _ hHeld (fun hHeldx=>?_)
     clear hK K hHeldx
     refine wpAnyH_done (by kernel_rfl) ?_ _
     clear hHeld
     have ca0:=hT.out.one.cell (j:=0) (v:=.bool a.neg) rfl
     have ca1:=hT.out.one.cell (j:=1) (v:=.string a.digits) rfl
     have ca2:=hT.out.one.cell (j:=2) (v:=.int .i64 a.exp) rfl
     have cb0:=hT.out.two.cell (j:=0) (v:=.bool b.neg) rfl
     have cb1:=hT.out.two.cell (j:=1) (v:=.string b.digits) rfl
     have cb2:=hT.out.two.cell (j:=2) (v:=.int .i64 b.exp) rfl
     go_wp2_with (go_at_call 129;refine (cmp01_r _ _ _).mono ?_;rintro e w9 ⟨rfl,rfl⟩;rw [← HS.out])
     refine wp_region_held_drew (S:=fun u=>∃ zc,Tdec w u a b zc) (by kernel_rfl) ⟨_,hT.out.drew⟩ (fun hHeld=>?_)
     have hT1:=Hd hT.out.drew
     clear hT ca0 ca1 ca2 cb0 cb1 cb2
     have hT:=hT1
     clear hT1
     refine' tk 0 (.pointer (some ⟨w.heap.size,0,none⟩)) rfl rfl (.inl ⟨by rfl,fun u hu=>(by go_simp)⟩) hHeld ?_
     simp only [sq1,sq0]
     refine' tk 1 (.bool a.neg) rfl rfl (.inl ⟨by rfl,fun u hu=>(by obtain ⟨_,T⟩:=hu;have hc:=T.one.cell (j:=0) (v:=.bool a.neg) rfl;go_simp)⟩) hHeld ?_
     simp only [sq1,sq0]
     refine' tk 2 (.string x) rfl rfl (.inl ⟨by rfl,fun u hu=>(by go_simp)⟩) hHeld ?_
     simp only [sq1,sq0]
     refine' tk 3 (.string y) rfl rfl (.inl ⟨by rfl,fun u hu=>(by go_simp)⟩) hHeld ?_
     simp only [sq1,sq0]
     refine' tk 5 (.int .i64 ez) rfl rfl (.inl ⟨by rfl,fun u hu=>(by go_simp)⟩) hHeld ?_
     simp only [sq1,sq0]
     refine rd1 4 rfl (fun K hK=>?_)
     rw [if_pos (by rfl)]
     go_simp
     refine (less_r x y _ HCX.out.1 HCY.out.1 (by omega) (by omega) (by rw [NX.out,NY.out];exact HLE.out)).mono ?_
     rintro e u9w ⟨rfl,hbC⟩
     rw [NX.out,NY.out]
     have hT1:=Hd (hT.out.later hbC)
     refine hK.out _ _ ⟨_,hT1.out⟩ (fun hHeldx=>?_)
     clear hK K hHeld hbC hT
     have hT:=hT1
     have hHeld:=hHeldx
     clear hT1 hHeldx
     refine rd1 6 rfl (fun K hK=>?_)
     rw [if_pos (by rfl)]
     go_simp
     refine (nrm_r a.neg (numS (X-Y)) (numS (X-Y)) ez _ (by rw [strip_num (numS_canon _).1,numV_numS]) (size_of_num (Nat.lt_of_le_of_lt (Nat.sub_le _ _) HLX.out) (by omega)) (size_of_num (Nat.lt_of_le_of_lt (Nat.sub_le _ _) HLX.out) (by omega)) (by omega) (by omega)).mono ?_
     rintro e u10w ⟨rfl,hbC⟩
     rw [← HR.out]
     have hT1:=Hd (hT.out.later hbC)
     refine hK.out _ _ ⟨_,hT1.out⟩ (fun hHeldx=>?_)
     clear hK K hHeld hbC hT
     have hT:=hT1
     have hHeld:=hHeldx
     clear hT1 hHeldx
     refine' tk 7 (.agg #[.bool rn,.string rd,.int .i64 re]) rfl rfl (.inl ⟨by rfl,fun u hu=>(by go_simp)⟩) hHeld ?_
     simp only [sq1,sq0]
     refine' tk 8 (.int .i64 rk) rfl rfl (.inl ⟨by rfl,fun u hu=>(by go_simp)⟩) hHeld ?_
     simp only [sq1,sq0]
     refine rd1 9 rfl (fun K hK=>?_)
     rw [if_pos (by rfl)]
     refine wp_store_atL rfl 23 _ _ rfl (w.heap.size+1+1) 0 [.bool rn,.string rd,.int .i64 re] rfl rfl 23 _ [.bool rn,.string rd,.int .i64 re] hT.out.res sizeDECl rfl (Nat.le_refl 3) (dec_one _ _ _) ?_
     refine hK.out _ _ ⟨_,hT.out.put [.bool rn,.string rd,.int .i64 re]⟩ (fun hHeldx=>?_)
     clear hK K hHeld
     have hHeld:=hHeldx
     clear hHeldx
     refine rd1 10 rfl (fun K hK=>?_)
     rw [if_pos (by rfl)]
     go_simp
     refine hK.out _ _ hHeld (fun hHeldx=>?_)
     clear hK K hHeldx
     refine wpAnyH_done (by kernel_rfl) ?_ _
     clear hHeld
     go_wp2_with fail
     refine bodyPost_ret (results_cell_row2 rfl _ _ (w.heap.size+1+1) 23 _ (0,0) _ rfl (hT.out.put [.bool rn,.string rd,.int .i64 re]).res Tryz.underlying23 rfl sizeDEC) rfl ?_
     exact ⟨by rw [HQ.out];try rfl,(hT.out.put [.bool rn,.string rd,.int .i64 re]).below⟩
    ·obtain ⟨r,hr⟩:∃ r,r=normD b.neg (numS (Y-X)) ez:=⟨_,rfl⟩
     have HR:=Hd hr
     clear hr
     obtain ⟨⟨rn,rd,re⟩,rk⟩:=r
     have HQ:=Hd (show addD a b=((⟨rn,rd,re⟩,rk):DecD×Int) by rw [HADD.out,if_neg hn,if_neg hle];exact HR.out.symm)
     have hs0:s<0:=by rw [HSV.out,sgn_lt (by omega)];omega
     have HLE:=Hd (show X≤Y by omega)
     clear hn hle
     have hT:=Hd (tdec w a b [.bool false,.string ⟨#[]⟩,.int .i64 0])
     have ca0:=hT.out.one.cell (j:=0) (v:=.bool a.neg) rfl
     have ca1:=hT.out.one.cell (j:=1) (v:=.string a.digits) rfl
     have ca2:=hT.out.one.cell (j:=2) (v:=.int .i64 a.exp) rfl
     have cb0:=hT.out.two.cell (j:=0) (v:=.bool b.neg) rfl
     have cb1:=hT.out.two.cell (j:=1) (v:=.string b.digits) rfl
     have cb2:=hT.out.two.cell (j:=2) (v:=.int .i64 b.exp) rfl
     go_enter Tryz.func71,Tryz.ntmps71
     go_wp2_with fail
     refine (lower_r a b _).mono ?_
     rintro e u11w ⟨rfl,hb⟩
     rw [← HMN.out]
     have hT1:=Hd (hT.out.later hb)
     clear hb hT ca0 ca1 ca2 cb0 cb1 cb2
     have hT:=hT1
     clear hT1
     have ca0:=hT.out.one.cell (j:=0) (v:=.bool a.neg) rfl
     have ca1:=hT.out.one.cell (j:=1) (v:=.string a.digits) rfl
     have ca2:=hT.out.one.cell (j:=2) (v:=.int .i64 a.exp) rfl
     have cb0:=hT.out.two.cell (j:=0) (v:=.bool b.neg) rfl
     have cb1:=hT.out.two.cell (j:=1) (v:=.string b.digits) rfl
     have cb2:=hT.out.two.cell (j:=2) (v:=.int .i64 b.exp) rfl
     go_wp2_with fail
     refine wp_region_held_drew (S:=fun u=>∃ zc,Tdec w u a b zc) (by kernel_rfl) ⟨_,hT.out.drew⟩ (fun hHeld=>?_)
     have hT1:=Hd hT.out.drew
     clear hT ca0 ca1 ca2 cb0 cb1 cb2
     have hT:=hT1
     clear hT1
     refine' tk 0 (.agg #[.bool a.neg,.string a.digits,.int .i64 a.exp]) rfl rfl (.inl ⟨by rfl,fun u hu=>(by obtain ⟨_,T⟩:=hu;have h0:=T.one.cell (j:=0) (v:=.bool a.neg) rfl;have h1:=T.one.cell (j:=1) (v:=.string a.digits) rfl;have h2:=T.one.cell (j:=2) (v:=.int .i64 a.exp) rfl;go_simp)⟩) hHeld ?_
     simp only [sq1,sq0]
     refine' tk 1 (.int .i64 ez) rfl rfl (.inl ⟨by rfl,fun u hu=>(by go_simp)⟩) hHeld ?_
     simp only [sq1,sq0]
     refine' tk 3 (.agg #[.bool b.neg,.string b.digits,.int .i64 b.exp]) rfl rfl (.inl ⟨by rfl,fun u hu=>(by obtain ⟨_,T⟩:=hu;have h0:=T.two.cell (j:=0) (v:=.bool b.neg) rfl;have h1:=T.two.cell (j:=1) (v:=.string b.digits) rfl;have h2:=T.two.cell (j:=2) (v:=.int .i64 b.exp) rfl;go_simp)⟩) hHeld ?_
     simp only [sq1,sq0]
     refine' tk 4 (.int .i64 ez) rfl rfl (.inl ⟨by rfl,fun u hu=>(by go_simp)⟩) hHeld ?_
     simp only [sq1,sq0]
     refine rd1 2 rfl (fun K hK=>?_)
     rw [if_pos (by rfl)]
     go_simp
     refine (atd_r a ez _ (by omega) (by omega) (by omega)).mono ?_
     rintro e u12w ⟨rfl,hbC⟩
     rw [← HXP.out]
     have hT1:=Hd (hT.out.later hbC)
     refine hK.out _ _ ⟨_,hT1.out⟩ (fun hHeldx=>?_)
     clear hK K hHeld hbC hT
     have hT:=hT1
     have hHeld:=hHeldx
     clear hT1 hHeldx
     refine rd1 5 rfl (fun K hK=>?_)
     rw [if_pos (by rfl)]
     go_simp
     refine (atd_r b ez _ (by omega) (by omega) (by omega)).mono ?_
     rintro e u13w ⟨rfl,hbC⟩
     rw [← HYP.out]
     have hT1:=Hd (hT.out.later hbC)
     refine hK.out _ _ ⟨_,hT1.out⟩ (fun hHeldx=>?_)
     clear hK K hHeld hbC hT
     have hT:=hT1
     have hHeld:=hHeldx
     clear hT1 hHeldx
     refine rd1 6 rfl (fun K hK=>?_)
     rw [if_pos (by rfl)]
     go_simp
     refine hK.out _ _ hHeld (fun hHeldx=>?_)
     clear hK K hHeldx
     refine rd1 7 rfl (fun K hK=>?_)
     rw [if_pos (by rfl)]
     go_simp
     refine hK.out _ _ hHeld (fun hHeldx=>?_)
     clear hK K hHeldx
     refine wpAnyH_done (by kernel_rfl) ?_ _
     clear hHeld
     have ca0:=hT.out.one.cell (j:=0) (v:=.bool a.neg) rfl
     have ca1:=hT.out.one.cell (j:=1) (v:=.string a.digits) rfl
     have ca2:=hT.out.one.cell (j:=2) (v:=.int .i64 a.exp) rfl
     have cb0:=hT.out.two.cell (j:=0) (v:=.bool b.neg) rfl
     have cb1:=hT.out.two.cell (j:=1) (v:=.string b.digits) rfl
     have cb2:=hT.out.two.cell (j:=2) (v:=.int .i64 b.exp) rfl
     go_wp2_with (go_at_call 129;refine (cmp01_r _ _ _).mono ?_;rintro e w9 ⟨rfl,rfl⟩;rw [← HS.out])
     refine wp_region_held_drew (S:=fun u=>∃ zc,Tdec w u a b zc) (by kernel_rfl) ⟨_,hT.out.drew⟩ (fun hHeld=>?_)
     have hT1:=Hd hT.out.drew
     clear hT ca0 ca1 ca2 cb0 cb1 cb2
     have hT:=hT1
     clear hT1
     refine' tk 0 (.pointer (some ⟨w.heap.size+1,0,none⟩)) rfl rfl (.inl ⟨by rfl,fun u hu=>(by go_simp)⟩) hHeld ?_
     simp only [sq1,sq0]
     refine' tk 1 (.bool b.neg) rfl rfl (.inl ⟨by rfl,fun u hu=>(by obtain ⟨_,T⟩:=hu;have hc:=T.two.cell (j:=0) (v:=.bool b.neg) rfl;go_simp)⟩) hHeld ?_
     simp only [sq1,sq0]
     refine' tk 2 (.string y) rfl rfl (.inl ⟨by rfl,fun u hu=>(by go_simp)⟩) hHeld ?_
     simp only [sq1,sq0]
     refine' tk 3 (.string x) rfl rfl (.inl ⟨by rfl,fun u hu=>(by go_simp)⟩) hHeld ?_
     simp only [sq1,sq0]
     refine' tk 5 (.int .i64 ez) rfl rfl (.inl ⟨by rfl,fun u hu=>(by go_simp)⟩) hHeld ?_
     simp only [sq1,sq0]
     refine rd1 4 rfl (fun K hK=>?_)
     rw [if_pos (by rfl)]
     go_simp
     refine (less_r y x _ HCY.out.1 HCX.out.1 (by omega) (by omega) (by rw [NX.out,NY.out];exact HLE.out)).mono ?_
     rintro e u14w ⟨rfl,hbC⟩
     rw [NX.out,NY.out]
     have hT1:=Hd (hT.out.later hbC)
     refine hK.out _ _ ⟨_,hT1.out⟩ (fun hHeldx=>?_)
     clear hK K hHeld hbC hT
     have hT:=hT1
     have hHeld:=hHeldx
     clear hT1 hHeldx
     refine rd1 6 rfl (fun K hK=>?_)
     rw [if_pos (by rfl)]
     go_simp
     refine (nrm_r b.neg (numS (Y-X)) (numS (Y-X)) ez _ (by rw [strip_num (numS_canon _).1,numV_numS]) (size_of_num (Nat.lt_of_le_of_lt (Nat.sub_le _ _) HLY.out) (by omega)) (size_of_num (Nat.lt_of_le_of_lt (Nat.sub_le _ _) HLY.out) (by omega)) (by omega) (by omega)).mono ?_
     rintro e u15w ⟨rfl,hbC⟩
     rw [← HR.out]
     have hT1:=Hd (hT.out.later hbC)
     refine hK.out _ _ ⟨_,hT1.out⟩ (fun hHeldx=>?_)
     clear hK K hHeld hbC hT
     have hT:=hT1
     have hHeld:=hHeldx
     clear hT1 hHeldx
     refine' tk 7 (.agg #[.bool rn,.string rd,.int .i64 re]) rfl rfl (.inl ⟨by rfl,fun u hu=>(by go_simp)⟩) hHeld ?_
     simp only [sq1,sq0]
     refine' tk 8 (.int .i64 rk) rfl rfl (.inl ⟨by rfl,fun u hu=>(by go_simp)⟩) hHeld ?_
     simp only [sq1,sq0]
     refine rd1 9 rfl (fun K hK=>?_)
     rw [if_pos (by rfl)]
     refine wp_store_atL rfl 23 _ _ rfl (w.heap.size+1+1) 0 [.bool rn,.string rd,.int .i64 re] rfl rfl 23 _ [.bool rn,.string rd,.int .i64 re] hT.out.res sizeDECl rfl (Nat.le_refl 3) (dec_one _ _ _) ?_
     refine hK.out _ _ ⟨_,hT.out.put [.bool rn,.string rd,.int .i64 re]⟩ (fun hHeldx=>?_)
     clear hK K hHeld
     have hHeld:=hHeldx
     clear hHeldx
     refine rd1 10 rfl (fun K hK=>?_)
     rw [if_pos (by rfl)]
     go_simp
     refine hK.out _ _ hHeld (fun hHeldx=>?_)
     clear hK K hHeldx
     refine wpAnyH_done (by kernel_rfl) ?_ _
     clear hHeld
     go_wp2_with fail
     refine bodyPost_ret (results_cell_row2 rfl _ _ (w.heap.size+1+1) 23 _ (0,0) _ rfl (hT.out.put [.bool rn,.string rd,.int .i64 re]).res Tryz.underlying23 rfl sizeDEC) rfl ?_
     exact ⟨by rw [HQ.out];try rfl,(hT.out.put [.bool rn,.string rd,.int .i64 re]).below⟩
end Go.Proofs.YtmjfggadehkbjaaGreatDoor
