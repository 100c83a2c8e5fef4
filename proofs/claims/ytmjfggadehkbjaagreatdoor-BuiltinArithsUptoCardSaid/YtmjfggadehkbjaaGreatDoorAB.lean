/- Decimals in normal form: decimal.norm, datakitref02.normal. -/
import Derived.Test.YtmjfggadehkbjaaGreatDoorProg
import Derived.Test.YtmjfggadehkbjaaGreatDoorGA
import Derived.Test.YtmjfggadehkbjaaGreatDoorGB
import Derived.Test.YtmjfggadehkbjaaGreatDoorGC
import Derived.Test.YtmjfggadehkbjaaGreatDoorShelf
import Derived.Test.YtmjfggadehkbjaaGreatDoorGD
import Derived.Test.YtmjfggadehkbjaaGreatDoorRow36
import Derived.Test.YtmjfggadehkbjaaGreatDoorGF
import Derived.Test.YtmjfggadehkbjaaGreatDoorXA
import Derived.Test.YtmjfggadehkbjaaGreatDoorXE
import Derived.Test.YtmjfggadehkbjaaGreatDoorXI
import Derived.Test.YtmjfggadehkbjaaGreatDoorXK
import Derived.Test.YtmjfggadehkbjaaGreatDoorAA
import Derived.Test.YtmjfggadehkbjaaGreatDoorAra03
import Derived.Test.YtmjfggadehkbjaaGreatDoorAC
import Derived.Below
import Derived.Laws.AppendOwn
import Derived.Deep.Slices
import Derived.Deep.RegionHeld3
import Derived.Lib.Hide
import Derived.Deep.MidRow
import Derived.WalkKit
import Derived.WalkSpells
import Derived.WalkLawsBesides
import Derived.LoopTactic
import Derived.BigQuiet
import Derived.Deep.QuietTactic
import Derived.Laws.BytesArg
import Derived.OwnWalk
import Derived.Shelf.Strings.Builder1
import Derived.Shelf.Strings.Builder2
import Derived.Shelf.Strings.Trim
import Derived.Shelf.Small.Utf8
import Derived.Shelf.Small.Strs
import Derived.Shelf.Strings.BuilderF
import Derived.Shelf.Strings.BuilderK
import Derived.Shelf.Utf8.RuneCount
import Derived.Shelf.Strings.Builder2Cap
import Derived.Shelf.Strings.Search1
import Derived.Shelf.Strings.Search2
import Derived.Shelf.Strings.Search3
import Derived.Shelf.Strings.Count
import Derived.Shelf.LaysM
import Derived.Shelf.Strings.Shaped
import Derived.Shelf.Strings.Prefix
import Derived.Shelf.Strings.Split
import Derived.Shelf.Strings.SplitShaped
import Derived.Shelf.Unicode.Decode
import Derived.Shelf.Strings.Runes
import Derived.Shelf.Strings.RuneCount
import Derived.Shelf.Strings.AsciiSet
import Derived.Shelf.Strings.Explode
import Derived.Shelf.Bits.Mul64
import Derived.Shelf.Strings.Repeat
import Derived.Shelf.Unicode.DecodeSlow
import Derived.Shelf.Unicode.DecodeAny
import Derived.Shelf.Unicode.DecodeLast
import Derived.Ground.Names2Prog
import Derived.Shelf.Slices.SearchI
import Derived.Deep.AppendLies
import Derived.Lib.Repeat
import Derived.Laws.OwnMore
import Derived.Lib.SliceRun
import Derived.OrdersHeld
import Derived.Laws.CopyOwn
import Derived.Deep.WholeRow
import Derived.Laws.CopyRow
import Derived.Maps.OwnOps
import Derived.Maps.OwnSet
import Derived.Maps.Views
import Derived.Deep.Light
import Derived.Lib.Bytealg
import Derived.StillTailTactics
import Derived.Deep.DeepCutAuto
import Derived.Great.BuildSlice
import Derived.Sort.Walk0
import Derived.Deep.DeepMust
import Derived.Lib.TrimByte
namespace Go.Proofs.YtmjfggadehkbjaaGreatDoor
open Go.RowKit
def cutS (s:ByteArray):ByteArray:=⟨(Lib.trimRightB s.data.toList 48).toArray⟩
def tzS (s:ByteArray):Nat:=s.size-(cutS s).size
def normD (neg:Bool) (s:ByteArray) (exp:Int):DecD×Int :=
 if s.size=0 then (dec0,0) else if 120<(cutS s).size∨400<exp+tzS s∨exp+tzS s < -400 then (dec0,2) else (⟨neg,cutS s,exp+tzS s⟩,0)
def DecV (r:DecD×Int) (w:World) (e:Ending) (w':World):Prop:=e=.returned (.tuple #[.agg #[.bool r.1.neg,.string r.1.digits,.int .i64 r.1.exp],.int .i64 r.2])∧Below w.heap.size w w'
theorem cut_prefix (l:List UInt8) (c:UInt8):Lib.trimRightB l c=l.take (Lib.trimRightB l c).length:=by
 have h:Lib.trimRightB l c <+: l:=by
  unfold Lib.trimRightB
  have:=List.dropWhile_suffix (l:=l.reverse) (·==c)
  have h2:=List.reverse_prefix.2 this
  rwa [List.reverse_reverse] at h2
 exact List.prefix_iff_eq_take.1 h
theorem cutS_size (s:ByteArray):(cutS s).size=(Lib.trimRightB s.data.toList 48).length:=by unfold cutS;simp [ByteArray.size]
theorem cutS_le (s:ByteArray):(cutS s).size≤s.size:=by
 rw [cutS_size,cut_prefix,List.length_take]
 exact Nat.min_le_right _ _
theorem cutS_extract (s:ByteArray):s.extract 0 (cutS s).size=cutS s:=by
 rw [Lib.extract_upto,cutS_size,← cut_prefix]
 rfl
theorem tzS_at {s:ByteArray} {n:Nat} (hn:n≤s.size) (h1:∀ j,j<n→byteI s (s.size-1-j)=48) (h2:n<s.size→byteI s (s.size-1-n)≠48):tzS s=n:=by
 have e:Lib.trimRightB s.data.toList 48=s.data.toList.take (s.size-n):=by
  refine Lib.trimRightB_take s.data.toList 48 (s.size-n) (Nat.sub_le _ _) (fun j b hj hb=>?_) (fun b hk hb=>?_)
  ·obtain ⟨hlt,hg⟩:=List.getElem?_eq_some_iff.1 hb
   have hlt2:j<s.size:=hlt
   have h3:=h1 (s.size-1-j) (by omega)
   rw [show s.size-1-(s.size-1-j)=j by omega,← byteI_eq hlt2] at h3
   have e2:s.data.toList[j]=s[j]:=rfl
   rw [← hg,e2]
   exact UInt8.toNat_inj.1 (by show s[j].toNat=48;omega)
  ·intro hb2
   obtain ⟨hlt,hg⟩:=List.getElem?_eq_some_iff.1 hb
   have hlt2:s.size-n-1<s.size:=by omega
   refine h2 (by omega) ?_
   rw [show s.size-1-n=s.size-n-1 by omega,← byteI_eq hlt2]
   have e2:s.data.toList[s.size-n-1]=s[s.size-n-1]:=rfl
   rw [← e2,hg,hb2]
   rfl
 unfold tzS
 rw [cutS_size,e,List.length_take,data_len]
 omega
set_option maxRecDepth 100000 in
theorem zeros_g (s:ByteArray) (w:World) (hs:s.size≤4294967296):Calls Tryz.prog 136 #[.string s] w (IntV (tzS s) w):=by
 go_enter Tryz.func136,Tryz.ntmps136
 go_wp2_with fail
 go_simp
 go_loopw [3] (fun i wr=>∃ k:Nat,k≤s.size∧i=.int .i64 k∧Hid (∀ j,j<k→byteI s (s.size-1-j)=48)∧w=wr) (fun i _=>s.size-(intOf i).toNat)
 case atStart=>exact ⟨0,by omega,rfl,Hd (fun j hj=>absurd hj (Nat.not_lt_zero _)),rfl⟩
 case round =>
  obtain ⟨k,hk,rfl,HZ,rfl⟩:=hrel
  by_cases hlt:k<s.size
  ·have hi0:(0:Int)≤(s.size:Int)-1-(k:Int):=by omega
   have hi1:(s.size:Int)-1-(k:Int)<(s.size:Int):=by omega
   have hlt2:s.size-1-k<s.size:=by omega
   have htn:((s.size:Int)-1-(k:Int)).toNat=s.size-1-k:=by omega
   have hb:=byteI_eq hlt2
   by_cases h48:byteI s (s.size-1-k)=48
   ·have HK:=Hd h48
    have q1:(byteI s (s.size-1-k)==48)=true:=by simp [h48]
    clear h48
    go_wp2_with fail
    go_roundw
    case rel=>exact ⟨k+1,by omega,by go_num,Hd (fun j hj=>by rcases Nat.lt_or_ge j k with h | h;exact HZ.out j h;rw [show j=k by omega];exact HK.out),trivial⟩
    case measure=>simp [intOf];omega
   ·have HE:=Hd (tzS_at hk HZ.out (fun _=>h48))
    have q1:(byteI s (s.size-1-k)==48)=false:=by simp [h48]
    have q2:(byteI s (s.size-1-k) != 48)=true:=by simp [h48]
    clear h48
    go_wp2_with fail
    go_ret
    exact ⟨by rw [HE.out];rfl,rfl⟩
  ·have HE:=Hd (tzS_at hk HZ.out (fun h=>absurd h hlt))
   have hke:k=s.size:=by omega
   go_wp2_with fail
   go_ret
   exact ⟨by rw [HE.out];rfl,rfl⟩
theorem decZ (w:World) (d:Array Value):(w.alloc (.cells d 23)).heap[w.heap.size]?=some (.cells d 23 (0,0)):=heap_alloc_new w _
theorem sizeDEC {x y z:Value}:(Tryz.prog.info? 23).map (·.size)=some (#[x,y,z]:Array Value).size:=by kernel_rfl
set_option maxRecDepth 100000 in
set_option maxHeartbeats 1600000 in
theorem norm_p (neg:Bool) (s:ByteArray) (exp:Int) (w:World) (hs:s.size≤4096) (he0:-4096≤exp) (he1:exp≤4096):Calls Tryz.prog 66 #[.bool neg,.string s,.int .i64 exp] w (DecV (normD neg s exp) w):=by
 by_cases h0:s.size=0
 ·have HQ:=Hd (show normD neg s exp=(dec0,0) by unfold normD;rw [if_pos h0])
  have hd:=toList_nil h0
  have Z0:=Hd (decZ w #[.bool false,.string ⟨#[]⟩,.int .i64 0])
  clear h0
  go_enter Tryz.func66,Tryz.ntmps66
  go_wp2_with fail
  refine bodyPost_ret (results_cell_row2 rfl _ _ w.heap.size 23 _ (0,0) _ rfl Z0.out Tryz.underlying23 rfl sizeDEC) rfl ?_
  rw [HQ.out]
  exact ⟨rfl,belowBox w _⟩
 ·have hd:s.toList.isEmpty=false:=by rw [List.isEmpty_eq_false_iff];exact ne_toList (by omega)
  have hd2:(s.toList==[])=false:=by rw [beq_eq_false_iff_ne];exact ne_toList (by omega)
  have hd3:¬ s.toList=[]:=ne_toList (by omega)
  obtain ⟨t,ht⟩:∃ t,t=cutS s:=⟨_,rfl⟩
  obtain ⟨z,hz⟩:∃ z,z=tzS s:=⟨_,rfl⟩
  have hle:=cutS_le s
  have hex:=cutS_extract s
  rw [← ht] at hle hex
  have hz1:(s.size:Int)-(t.size:Int)=(z:Int):=by rw [hz];unfold tzS;rw [← ht];omega
  have hz2:(s.size:Int)-(z:Int)=(t.size:Int):=by omega
  have hz3:z≤4096:=by omega
  have HT:=Hd ht
  have HN:=Hd (show normD neg s exp=if 120<t.size∨400<exp+z∨exp+z < -400 then (dec0,2) else (⟨neg,t,exp+z⟩,0) by unfold normD;rw [if_neg h0,← ht,← hz])
  clear ht hz h0
  by_cases hb1:400-(z:Int)<exp
  ·have HQ:=Hd (show normD neg s exp=(dec0,2) by rw [HN.out,if_pos (by omega)])
   have Z0:=Hd (decZ w #[.bool false,.string ⟨#[]⟩,.int .i64 0])
   go_enter Tryz.func66,Tryz.ntmps66
   go_wp2_with (go_at_call 119;refine (Tryz.strings_TrimRight_one _ 48 (by decide) _ (by omega)).mono ?_;rintro e w3 ⟨rfl,rfl⟩;rw [show (⟨(Lib.trimRightB s.data.toList 48).toArray⟩:ByteArray)=t from HT.out.symm])
   refine bodyPost_ret (results_cell_row2 rfl _ _ w.heap.size 23 _ (0,0) _ rfl Z0.out Tryz.underlying23 rfl sizeDEC) rfl ?_
   rw [HQ.out]
   exact ⟨rfl,belowBox w _⟩
  ·by_cases hb2:exp < -400-(z:Int)
   ·have HQ:=Hd (show normD neg s exp=(dec0,2) by rw [HN.out,if_pos (by omega)])
    have Z0:=Hd (decZ w #[.bool false,.string ⟨#[]⟩,.int .i64 0])
    go_enter Tryz.func66,Tryz.ntmps66
    go_wp2_with (go_at_call 119;refine (Tryz.strings_TrimRight_one _ 48 (by decide) _ (by omega)).mono ?_;rintro e w3 ⟨rfl,rfl⟩;rw [show (⟨(Lib.trimRightB s.data.toList 48).toArray⟩:ByteArray)=t from HT.out.symm])
    refine bodyPost_ret (results_cell_row2 rfl _ _ w.heap.size 23 _ (0,0) _ rfl Z0.out Tryz.underlying23 rfl sizeDEC) rfl ?_
    rw [HQ.out]
    exact ⟨rfl,belowBox w _⟩
   ·by_cases hb3:120<t.size
    ·have HQ:=Hd (show normD neg s exp=(dec0,2) by rw [HN.out,if_pos (by omega)])
     have Z0:=Hd (decZ w #[.bool false,.string ⟨#[]⟩,.int .i64 0])
     go_enter Tryz.func66,Tryz.ntmps66
     go_wp2_with (go_at_call 119;refine (Tryz.strings_TrimRight_one _ 48 (by decide) _ (by omega)).mono ?_;rintro e w3 ⟨rfl,rfl⟩;rw [show (⟨(Lib.trimRightB s.data.toList 48).toArray⟩:ByteArray)=t from HT.out.symm])
     refine bodyPost_ret (results_cell_row2 rfl _ _ w.heap.size 23 _ (0,0) _ rfl Z0.out Tryz.underlying23 rfl sizeDEC) rfl ?_
     rw [HQ.out]
     exact ⟨rfl,belowBox w _⟩
    ·have HQ:=Hd (show normD neg s exp=(⟨neg,t,exp+z⟩,0) by rw [HN.out,if_neg (by omega)])
     have Z0:=Hd (decZ w #[.bool neg,.string t,.int .i64 (exp+(z:Int))])
     go_enter Tryz.func66,Tryz.ntmps66
     go_wp2_with (go_at_call 119;refine (Tryz.strings_TrimRight_one _ 48 (by decide) _ (by omega)).mono ?_;rintro e w3 ⟨rfl,rfl⟩;rw [show (⟨(Lib.trimRightB s.data.toList 48).toArray⟩:ByteArray)=t from HT.out.symm])
     refine bodyPost_ret (results_cell_row2 rfl _ _ w.heap.size 23 _ (0,0) _ rfl Z0.out Tryz.underlying23 rfl sizeDEC) rfl ?_
     rw [HQ.out]
     exact ⟨rfl,belowBox w _⟩
set_option maxRecDepth 100000 in
set_option maxHeartbeats 1600000 in
theorem nrm_r (neg:Bool) (s0 s:ByteArray) (exp:Int) (w:World) (hst:stripS s0=s) (hs0:s0.size≤4096) (hs:s.size≤4096) (he0:-4096≤exp) (he1:exp≤4096):Calls Tryz.prog 80 #[.bool neg,.string s0,.int .i64 exp] w (DecV (normD neg s exp) w):=by
 have HST:=Hd hst
 clear hst
 by_cases h0:s.size=0
 ·have HQ:=Hd (show normD neg s exp=(dec0,0) by unfold normD;rw [if_pos h0])
  have hd:=toList_nil h0
  have Z0:=Hd (decZ w #[.bool false,.string ⟨#[]⟩,.int .i64 0])
  clear h0
  go_enter Tryz.func80,Tryz.ntmps80
  go_wp2_with (go_at_call 133;refine (strip_r _ _ (by omega)).mono ?_;rintro e w3 ⟨rfl,rfl⟩;rw [HST.out])
  refine bodyPost_ret (results_cell_row2 rfl _ _ w.heap.size 23 _ (0,0) _ rfl Z0.out Tryz.underlying23 rfl sizeDEC) rfl ?_
  rw [HQ.out]
  exact ⟨rfl,belowBox w _⟩
 ·have hd:s.toList.isEmpty=false:=by rw [List.isEmpty_eq_false_iff];exact ne_toList (by omega)
  have hd2:(s.toList==[])=false:=by rw [beq_eq_false_iff_ne];exact ne_toList (by omega)
  have hd3:¬ s.toList=[]:=ne_toList (by omega)
  obtain ⟨t,ht⟩:∃ t,t=cutS s:=⟨_,rfl⟩
  obtain ⟨z,hz⟩:∃ z,z=tzS s:=⟨_,rfl⟩
  have hle:=cutS_le s
  have hex:=cutS_extract s
  rw [← ht] at hle hex
  have hz2:(s.size:Int)-(z:Int)=(t.size:Int):=by rw [hz];unfold tzS;rw [← ht];omega
  have hz3:z≤4096:=by omega
  have HZ:=Hd hz
  have HN:=Hd (show normD neg s exp=if 120<t.size∨400<exp+z∨exp+z < -400 then (dec0,2) else (⟨neg,t,exp+z⟩,0) by unfold normD;rw [if_neg h0,← ht,← hz])
  clear ht hz h0
  by_cases hb:120<t.size∨400<exp+z∨exp+z < -400
  ·have HQ:=Hd (show normD neg s exp=(dec0,2) by rw [HN.out,if_pos hb])
   have hb2:120<t.size∨(¬ 120<t.size∧400<exp)∨(¬ 120<t.size∧¬ 400<exp∧400<exp+z)∨(¬ 120<t.size∧¬ 400<exp∧¬ 400<exp+z∧exp+z < -400):=by omega
   have Z0:=Hd (decZ w #[.bool false,.string ⟨#[]⟩,.int .i64 0])
   clear hb
   rcases hb2 with b1 | ⟨b1,b2⟩ | ⟨b1,b2,b3⟩ | ⟨b1,b2,b3,b4⟩
   all_goals
    go_enter Tryz.func80,Tryz.ntmps80
    go_wp2_with (first
     | (go_at_call 133;refine (strip_r _ _ (by omega)).mono ?_;rintro e w3 ⟨rfl,rfl⟩;rw [HST.out])
     | (go_at_call 136;refine (zeros_g _ _ (by omega)).mono ?_;rintro e w3 ⟨rfl,rfl⟩;rw [← HZ.out]))
    refine bodyPost_ret (results_cell_row2 rfl _ _ w.heap.size 23 _ (0,0) _ rfl Z0.out Tryz.underlying23 rfl sizeDEC) rfl ?_
    rw [HQ.out]
    exact ⟨rfl,belowBox w _⟩
  ·have HQ:=Hd (show normD neg s exp=(⟨neg,t,exp+z⟩,0) by rw [HN.out,if_neg hb])
   have b1:¬ 120<t.size:=by omega
   have b2:¬ 400<exp:=by omega
   have b3:¬ 400<exp+z:=by omega
   have b4:¬ exp+z < -400:=by omega
   have Z0:=Hd (decZ w #[.bool neg,.string t,.int .i64 (exp+(z:Int))])
   clear hb
   go_enter Tryz.func80,Tryz.ntmps80
   go_wp2_with (first
    | (go_at_call 133;refine (strip_r _ _ (by omega)).mono ?_;rintro e w3 ⟨rfl,rfl⟩;rw [HST.out])
    | (go_at_call 136;refine (zeros_g _ _ (by omega)).mono ?_;rintro e w3 ⟨rfl,rfl⟩;rw [← HZ.out]))
   refine bodyPost_ret (results_cell_row2 rfl _ _ w.heap.size 23 _ (0,0) _ rfl Z0.out Tryz.underlying23 rfl sizeDEC) rfl ?_
   rw [HQ.out]
   exact ⟨rfl,belowBox w _⟩
end Go.Proofs.YtmjfggadehkbjaaGreatDoor

/- decimal.align: the digits of both and their exponent. -/
namespace Go.Proofs.YtmjfggadehkbjaaGreatDoor
open Go.RowKit
def expD (a b:DecD):Int:=if a.digits.size=0 then b.exp else if b.digits.size=0 then a.exp else min a.exp b.exp
def AlnX (x y:ByteArray) (z:Int) (w:World) (e:Ending) (w':World):Prop:=e=.returned (.tuple #[.string x,.string y,.int .i64 z])∧Below w.heap.size w w'
set_option maxRecDepth 100000 in
set_option maxHeartbeats 3200000 in
theorem alx0a (a b:DecD) (w:World) (ha:VDec a) (hb:VDec b) (h0:a.digits.size=0) :
 Calls Tryz.prog 69 #[.agg #[.bool a.neg,.string a.digits,.int .i64 a.exp],.agg #[.bool b.neg,.string b.digits,.int .i64 b.exp]] w (AlnX (alignD a b).1 (alignD a b).2 (expD a b) w):=by
 have HEX:=Hd (show expD a b=b.exp by unfold expD;rw [if_pos h0])
 have HQ:=Hd (show (alignD a b).1=⟨#[]⟩∧(alignD a b).2=b.digits by
  unfold alignD
  rw [if_pos (.inl h0)]
  exact ⟨by
   have:=Array.eq_empty_of_size_eq_zero (xs:=a.digits.data) h0
   cases h:a.digits with | mk data=>rw [h] at this;simp only at this;rw [this],rfl⟩)
 have hd:=toList_nil h0
 have HVA:=Hd ha
 have HVB:=Hd hb
 have HB:=Hd (show Below w.heap.size w ((w.alloc (.cells #[.bool a.neg,.string a.digits,.int .i64 a.exp] 23)).alloc (.cells #[.bool b.neg,.string b.digits,.int .i64 b.exp] 23)) from belowThen (belowBox w _) (belowBox _ _))
 have RA0:=Hd (show RowT 23 ((w.alloc (.cells #[.bool a.neg,.string a.digits,.int .i64 a.exp] 23)).alloc (.cells #[.bool b.neg,.string b.digits,.int .i64 b.exp] 23)) w.heap.size [.bool a.neg,.string a.digits,.int .i64 a.exp] from (RowT.new w 23 _).alloc _)
 have RB0:=Hd (show RowT 23 ((w.alloc (.cells #[.bool a.neg,.string a.digits,.int .i64 a.exp] 23)).alloc (.cells #[.bool b.neg,.string b.digits,.int .i64 b.exp] 23)) (w.heap.size+1) [.bool b.neg,.string b.digits,.int .i64 b.exp] from by
  have:=RowT.new (w.alloc (.cells #[.bool a.neg,.string a.digits,.int .i64 a.exp] 23)) 23 [.bool b.neg,.string b.digits,.int .i64 b.exp]
  rw [World.size_alloc] at this
  exact this)
 clear ha hb
 go_enter Tryz.func69,Tryz.ntmps69
 go_wp2_with fail
 refine (dec_valid a _ HVA.out).mono ?_
 rintro e w1 ⟨rfl,hb⟩
 have HB1:=Hd (belowThen HB.out hb)
 have RA1:=Hd (RA0.out.then hb)
 have RB1:=Hd (RB0.out.then hb)
 have d0:=RB1.out.cell (j:=0) (v:=.bool b.neg) rfl
 have d1:=RB1.out.cell (j:=1) (v:=.string b.digits) rfl
 have d2:=RB1.out.cell (j:=2) (v:=.int .i64 b.exp) rfl
 clear hb RA0 RB0
 go_wp2_with fail
 refine (dec_valid b _ HVB.out).mono ?_
 rintro e W ⟨rfl,hb⟩
 have HB2:=Hd (belowThen HB1.out hb)
 have RA:=Hd (RA1.out.then hb)
 have RB:=Hd (RB1.out.then hb)
 clear hb RA1 RB1 d0 d1 d2
 have c1:=RA.out.cell (j:=1) (v:=.string a.digits) rfl
 have c2:=RA.out.cell (j:=2) (v:=.int .i64 a.exp) rfl
 have d1:=RB.out.cell (j:=1) (v:=.string b.digits) rfl
 have d2:=RB.out.cell (j:=2) (v:=.int .i64 b.exp) rfl
 go_wp2_with fail
 go_quiet (fail)
 go_wp2_with fail
 refine bodyPost_ret (results_tmp3' rfl _ _ _) rfl ?_
 exact ⟨by rw [HQ.out.1,HQ.out.2,HEX.out];rfl,HB2.out.trans (drewNU _ _)⟩
set_option maxRecDepth 100000 in
set_option maxHeartbeats 3200000 in
theorem alx0b (a b:DecD) (w:World) (ha:VDec a) (hb:VDec b) (h0:b.digits.size=0) (h1:0<a.digits.size) :
 Calls Tryz.prog 69 #[.agg #[.bool a.neg,.string a.digits,.int .i64 a.exp],.agg #[.bool b.neg,.string b.digits,.int .i64 b.exp]] w (AlnX (alignD a b).1 (alignD a b).2 (expD a b) w):=by
 have HEX:=Hd (show expD a b=a.exp by unfold expD;rw [if_neg (by omega),if_pos h0])
 have HQ:=Hd (show (alignD a b).1=a.digits∧(alignD a b).2=⟨#[]⟩ by
  unfold alignD
  rw [if_pos (.inr h0)]
  exact ⟨rfl,by
   have:=Array.eq_empty_of_size_eq_zero (xs:=b.digits.data) h0
   cases h:b.digits with | mk data=>rw [h] at this;simp only at this;rw [this]⟩)
 have hd:=toList_nil h0
 have hd2:a.digits.toList.isEmpty=false:=by rw [List.isEmpty_eq_false_iff];exact ne_toList h1
 have HVA:=Hd ha
 have HVB:=Hd hb
 have HB:=Hd (show Below w.heap.size w ((w.alloc (.cells #[.bool a.neg,.string a.digits,.int .i64 a.exp] 23)).alloc (.cells #[.bool b.neg,.string b.digits,.int .i64 b.exp] 23)) from belowThen (belowBox w _) (belowBox _ _))
 have RA0:=Hd (show RowT 23 ((w.alloc (.cells #[.bool a.neg,.string a.digits,.int .i64 a.exp] 23)).alloc (.cells #[.bool b.neg,.string b.digits,.int .i64 b.exp] 23)) w.heap.size [.bool a.neg,.string a.digits,.int .i64 a.exp] from (RowT.new w 23 _).alloc _)
 have RB0:=Hd (show RowT 23 ((w.alloc (.cells #[.bool a.neg,.string a.digits,.int .i64 a.exp] 23)).alloc (.cells #[.bool b.neg,.string b.digits,.int .i64 b.exp] 23)) (w.heap.size+1) [.bool b.neg,.string b.digits,.int .i64 b.exp] from by
  have:=RowT.new (w.alloc (.cells #[.bool a.neg,.string a.digits,.int .i64 a.exp] 23)) 23 [.bool b.neg,.string b.digits,.int .i64 b.exp]
  rw [World.size_alloc] at this
  exact this)
 clear ha hb
 go_enter Tryz.func69,Tryz.ntmps69
 go_wp2_with fail
 refine (dec_valid a _ HVA.out).mono ?_
 rintro e w1 ⟨rfl,hb⟩
 have HB1:=Hd (belowThen HB.out hb)
 have RA1:=Hd (RA0.out.then hb)
 have RB1:=Hd (RB0.out.then hb)
 have d0:=RB1.out.cell (j:=0) (v:=.bool b.neg) rfl
 have d1:=RB1.out.cell (j:=1) (v:=.string b.digits) rfl
 have d2:=RB1.out.cell (j:=2) (v:=.int .i64 b.exp) rfl
 clear hb RA0 RB0
 go_wp2_with fail
 refine (dec_valid b _ HVB.out).mono ?_
 rintro e W ⟨rfl,hb⟩
 have HB2:=Hd (belowThen HB1.out hb)
 have RA:=Hd (RA1.out.then hb)
 have RB:=Hd (RB1.out.then hb)
 clear hb RA1 RB1 d0 d1 d2
 have c1:=RA.out.cell (j:=1) (v:=.string a.digits) rfl
 have c2:=RA.out.cell (j:=2) (v:=.int .i64 a.exp) rfl
 have d1:=RB.out.cell (j:=1) (v:=.string b.digits) rfl
 have d2:=RB.out.cell (j:=2) (v:=.int .i64 b.exp) rfl
 go_wp2_with fail
 go_quiet (fail)
 go_wp2_with fail
 refine bodyPost_ret (results_tmp3' rfl _ _ _) rfl ?_
 exact ⟨by rw [HQ.out.1,HQ.out.2,HEX.out];rfl,HB2.out.trans (drewNU _ _)⟩
set_option maxRecDepth 100000 in
set_option maxHeartbeats 3200000 in
theorem alx (a b:DecD) (w:World) (ha:VDec a) (hb:VDec b) (h0:0<a.digits.size) (h1:0<b.digits.size) :
 Calls Tryz.prog 69 #[.agg #[.bool a.neg,.string a.digits,.int .i64 a.exp],.agg #[.bool b.neg,.string b.digits,.int .i64 b.exp]] w (AlnX (alignD a b).1 (alignD a b).2 (expD a b) w):=by
 have HEX:=Hd (show expD a b=min a.exp b.exp by unfold expD;rw [if_neg (by omega),if_neg (by omega)])
 obtain ⟨mn,hmn⟩:∃ mn,mn=min a.exp b.exp:=⟨_,rfl⟩
 obtain ⟨ka,hka⟩:∃ k,k=(a.exp-mn).toNat:=⟨_,rfl⟩
 obtain ⟨kb,hkb⟩:∃ k,k=(b.exp-mn).toNat:=⟨_,rfl⟩
 have hEa:-400≤a.exp∧a.exp≤400∧a.digits.size≤120:=by rcases ha with h | h<;>omega
 have hEb:-400≤b.exp∧b.exp≤400∧b.digits.size≤120:=by rcases hb with h | h<;>omega
 have k1:(ka:Int)≤a.exp-mn:=by omega
 have k2:a.exp-mn≤(ka:Int):=by omega
 have k3:(kb:Int)≤b.exp-mn:=by omega
 have k4:b.exp-mn≤(kb:Int):=by omega
 have k5:ka≤800:=by omega
 have k6:kb≤800:=by omega
 obtain ⟨e1,e2,e3⟩:=hEa
 obtain ⟨e4,e5,e6⟩:=hEb
 have z1:(zerosS ka).size≤800:=by rw [zerosS_size];exact k5
 have z2:(zerosS kb).size≤800:=by rw [zerosS_size];exact k6
 have HMN:=Hd hmn
 have HQ:=Hd (show (alignD a b).1=a.digits++zerosS ka∧(alignD a b).2=b.digits++zerosS kb by
  unfold alignD padS
  rw [if_neg (by omega),← hmn,← hka,← hkb]
  exact ⟨rfl,rfl⟩)
 clear hmn hka hkb
 have hd:a.digits.toList.isEmpty=false:=by rw [List.isEmpty_eq_false_iff];exact ne_toList h0
 have hd2:b.digits.toList.isEmpty=false:=by rw [List.isEmpty_eq_false_iff];exact ne_toList h1
 have HVA:=Hd ha
 have HVB:=Hd hb
 have HB:=Hd (show Below w.heap.size w ((w.alloc (.cells #[.bool a.neg,.string a.digits,.int .i64 a.exp] 23)).alloc (.cells #[.bool b.neg,.string b.digits,.int .i64 b.exp] 23)) from belowThen (belowBox w _) (belowBox _ _))
 have RA0:=Hd (show RowT 23 ((w.alloc (.cells #[.bool a.neg,.string a.digits,.int .i64 a.exp] 23)).alloc (.cells #[.bool b.neg,.string b.digits,.int .i64 b.exp] 23)) w.heap.size [.bool a.neg,.string a.digits,.int .i64 a.exp] from (RowT.new w 23 _).alloc _)
 have RB0:=Hd (show RowT 23 ((w.alloc (.cells #[.bool a.neg,.string a.digits,.int .i64 a.exp] 23)).alloc (.cells #[.bool b.neg,.string b.digits,.int .i64 b.exp] 23)) (w.heap.size+1) [.bool b.neg,.string b.digits,.int .i64 b.exp] from by
  have:=RowT.new (w.alloc (.cells #[.bool a.neg,.string a.digits,.int .i64 a.exp] 23)) 23 [.bool b.neg,.string b.digits,.int .i64 b.exp]
  rw [World.size_alloc] at this
  exact this)
 clear ha hb
 go_enter Tryz.func69,Tryz.ntmps69
 go_wp2_with fail
 refine (dec_valid a _ HVA.out).mono ?_
 rintro e w1 ⟨rfl,hb⟩
 have HB1:=Hd (belowThen HB.out hb)
 have RA1:=Hd (RA0.out.then hb)
 have RB1:=Hd (RB0.out.then hb)
 have d0:=RB1.out.cell (j:=0) (v:=.bool b.neg) rfl
 have d1:=RB1.out.cell (j:=1) (v:=.string b.digits) rfl
 have d2:=RB1.out.cell (j:=2) (v:=.int .i64 b.exp) rfl
 clear hb RA0 RB0
 go_wp2_with fail
 refine (dec_valid b _ HVB.out).mono ?_
 rintro e W ⟨rfl,hb⟩
 have HB2:=Hd (belowThen HB1.out hb)
 have RA:=Hd (RA1.out.then hb)
 have RB:=Hd (RB1.out.then hb)
 clear hb RA1 RB1 d0 d1 d2
 have c1:=RA.out.cell (j:=1) (v:=.string a.digits) rfl
 have c2:=RA.out.cell (j:=2) (v:=.int .i64 a.exp) rfl
 have d1:=RB.out.cell (j:=1) (v:=.string b.digits) rfl
 have d2:=RB.out.cell (j:=2) (v:=.int .i64 b.exp) rfl
 go_wp2_with fail
 rw [← HMN.out]
 refine wp_region_held_drew (S:=fun u=>Below W.heap.size W u) (by kernel_rfl) (drewU W) (fun hHeld=>?_)
 refine' tk 0 (.pointer (some ⟨w.heap.size,1,none⟩)) rfl rfl (.inl ⟨by rfl,fun u hu=>(by go_simp)⟩) hHeld ?_
 simp only [sq1,sq0]
 refine' tk 1 (.string a.digits) rfl rfl (.inl ⟨by rfl,fun u hu=>(by have hc:=(RA.out.then hu).cell (j:=1) (v:=.string a.digits) rfl;go_simp)⟩) hHeld ?_
 simp only [sq1,sq0]
 refine' tk 2 (.pointer (some ⟨w.heap.size,2,none⟩)) rfl rfl (.inl ⟨by rfl,fun u hu=>(by go_simp)⟩) hHeld ?_
 simp only [sq1,sq0]
 refine' tk 3 (.int .i64 a.exp) rfl rfl (.inl ⟨by rfl,fun u hu=>(by have hc:=(RA.out.then hu).cell (j:=2) (v:=.int .i64 a.exp) rfl;go_simp)⟩) hHeld ?_
 simp only [sq1,sq0]
 refine' tk 4 (.int .i64 mn) rfl rfl (.inl ⟨by rfl,fun u hu=>(by go_simp)⟩) hHeld ?_
 simp only [sq1,sq0]
 refine' tk 5 (.int .i64 ((ka:Nat):Int)) rfl rfl (.inl ⟨by rfl,fun u hu=>(by go_simp;all_goals first | omega | (rw [IntKind.wrap_i64];omega))⟩) hHeld ?_
 simp only [sq1,sq0]
 refine' tk 8 (.pointer (some ⟨(w.heap.size+1),1,none⟩)) rfl rfl (.inl ⟨by rfl,fun u hu=>(by go_simp)⟩) hHeld ?_
 simp only [sq1,sq0]
 refine' tk 9 (.string b.digits) rfl rfl (.inl ⟨by rfl,fun u hu=>(by have hc:=(RB.out.then hu).cell (j:=1) (v:=.string b.digits) rfl;go_simp)⟩) hHeld ?_
 simp only [sq1,sq0]
 refine' tk 10 (.pointer (some ⟨(w.heap.size+1),2,none⟩)) rfl rfl (.inl ⟨by rfl,fun u hu=>(by go_simp)⟩) hHeld ?_
 simp only [sq1,sq0]
 refine' tk 11 (.int .i64 b.exp) rfl rfl (.inl ⟨by rfl,fun u hu=>(by have hc:=(RB.out.then hu).cell (j:=2) (v:=.int .i64 b.exp) rfl;go_simp)⟩) hHeld ?_
 simp only [sq1,sq0]
 refine' tk 12 (.int .i64 mn) rfl rfl (.inl ⟨by rfl,fun u hu=>(by go_simp)⟩) hHeld ?_
 simp only [sq1,sq0]
 refine' tk 13 (.int .i64 ((kb:Nat):Int)) rfl rfl (.inl ⟨by rfl,fun u hu=>(by go_simp;all_goals first | omega | (rw [IntKind.wrap_i64];omega))⟩) hHeld ?_
 simp only [sq1,sq0]
 refine' tk 16 (.int .i64 mn) rfl rfl (.inl ⟨by rfl,fun u hu=>(by go_simp)⟩) hHeld ?_
 simp only [sq1,sq0]
 refine rd1 6 rfl (fun K hK=>?_)
 rw [if_pos (by rfl)]
 go_simp
 refine (rep8_ex ka _ (by omega)).mono ?_
 rintro e u6 ⟨rfl,hbC⟩
 refine hK.out _ _ (hHeld.trans (hbC.mono hHeld.size)) (fun hHeldx=>?_)
 clear hK K hbC hHeld
 have hHeld:=hHeldx
 clear hHeldx
 refine' tk 7 (.string (a.digits++zerosS ka)) rfl rfl (.inl ⟨by rfl,fun u hu=>(by go_simp;all_goals omega)⟩) hHeld ?_
 simp only [sq1,sq0]
 refine rd1 14 rfl (fun K hK=>?_)
 rw [if_pos (by rfl)]
 go_simp
 refine (rep8_ex kb _ (by omega)).mono ?_
 rintro e u14 ⟨rfl,hbC⟩
 refine hK.out _ _ (hHeld.trans (hbC.mono hHeld.size)) (fun hHeldx=>?_)
 clear hK K hbC hHeld
 have hHeld:=hHeldx
 clear hHeldx
 refine' tk 15 (.string (b.digits++zerosS kb)) rfl rfl (.inl ⟨by rfl,fun u hu=>(by go_simp;all_goals omega)⟩) hHeld ?_
 simp only [sq1,sq0]
 refine' tk 17 (.string (a.digits++zerosS ka)) rfl rfl (.inl ⟨by rfl,fun u hu=>(by go_simp)⟩) hHeld ?_
 simp only [sq1,sq0]
 refine' tk 18 (.string (b.digits++zerosS kb)) rfl rfl (.inl ⟨by rfl,fun u hu=>(by go_simp)⟩) hHeld ?_
 simp only [sq1,sq0]
 refine' tk 19 (.int .i64 mn) rfl rfl (.inl ⟨by rfl,fun u hu=>(by go_simp)⟩) hHeld ?_
 simp only [sq1,sq0]
 refine wpAnyH_done (by kernel_rfl) ?_ _
 have HW:=Hd hHeld
 clear hHeld
 go_wp2_with fail
 refine bodyPost_ret (results_tmp3' rfl _ _ _) rfl ?_
 exact ⟨by rw [HQ.out.1,HQ.out.2,HEX.out,← HMN.out];rfl,HB2.out.trans (HW.out.mono HB2.out.size)⟩
theorem align_x (a b:DecD) (w:World) (ha:VDec a) (hb:VDec b) :
 Calls Tryz.prog 69 #[.agg #[.bool a.neg,.string a.digits,.int .i64 a.exp],.agg #[.bool b.neg,.string b.digits,.int .i64 b.exp]] w (AlnX (alignD a b).1 (alignD a b).2 (expD a b) w):=by
 by_cases h0:a.digits.size=0
 ·exact alx0a a b w ha hb h0
 ·by_cases h1:b.digits.size=0
  ·exact alx0b a b w ha hb h1 (by omega)
  ·exact alx a b w ha hb (by omega) (by omega)
end Go.Proofs.YtmjfggadehkbjaaGreatDoor

/- Sums, products, quotients, remainders of decimals: what they are (plain), decimal.Add .. Mod, datakitref02.Add .. Mod. -/
namespace Go.Proofs.YtmjfggadehkbjaaGreatDoor
open Go.RowKit
set_option maxRecDepth 100000 in
set_option maxHeartbeats 1600000 in
theorem noughts_g (n:Nat) (w:World) (hn:n≤4096):Calls Tryz.prog 132 #[.int .i64 n] w (NouR n w):=by
 obtain ⟨i0,hin,hz0,hz1,hz2⟩:=info_parts infoU8
 go_enter Tryz.func132,Tryz.ntmps132
 go_wp2_with (refine wpList_make_full _ rfl _ _ 26 rfl w.heap.size 5 i0 (.int .u8 0) 1 Tryz.underlying26 hin hz0 hz1 .i64 .i64 _ _ n rfl rfl rfl rfl (by rw [hz2];omega) (by unfold maxLen;omega) (Nat.le_refl _) ?_)
 intro w1 hown hgrow
 have HO:=Hd (show w1.ownsRow w.heap.size 5 1 (.slice (some ⟨w.heap.size,0,none⟩) n n) n ((zerosAt n 0).map (Value.int .u8)) by rw [← made_zeros];simpa [Value.cells] using hown)
 have HB:=Hd (show Below w.heap.size w w1 from Below.grown (Below.refl _ _) hgrow (Nat.le_refl _) (fun j hj=>by cases hj))
 clear hown hgrow
 go_wp2_with fail
 go_simp
 go_loopw [4] (fun i wr=>∃ k:Nat,k≤n∧i=.int .i64 k∧wr.ownsRow w.heap.size 5 1 (.slice (some ⟨w.heap.size,0,none⟩) n n) n ((zerosAt n k).map (Value.int .u8))∧Below w.heap.size w wr) (fun i _=>n-(intOf i).toNat)
 case atStart=>exact ⟨0,by omega,rfl,HO.out,HB.out⟩
 case round =>
  clear HO HB
  obtain ⟨w2,rfl⟩:∃ w2,w2=wr:=⟨wr,rfl⟩
  obtain ⟨k,hk,rfl,hown,hbel⟩:=hrel
  have HO:=Hd hown
  have HB:=Hd hbel
  by_cases hlt:k<n
  ·have hc:=hown.cellAt k (by omega)
   have hf:=hown.frozenAt k
   have hst:=Hd (hown.stored k (.int .u8 48))
   rw [List.getElem?_map,List.getElem?_eq_getElem (by rw [zerosAt_len hk];exact hlt),Option.map_some] at hc
   have HN:=Hd (show (w2.setCell ⟨w.heap.size,k,none⟩ (.int .u8 48)).ownsRow w.heap.size 5 1 (.slice (some ⟨w.heap.size,0,none⟩) n n) n ((zerosAt n (k+1)).map (Value.int .u8)) by
    have:=hst.out.1
    rw [← zerosAt_set hlt]
    simpa [List.map_set] using this)
   have HB2:=Hd (show Below w.heap.size w (w2.setCell ⟨w.heap.size,k,none⟩ (.int .u8 48)) from Below.grown hbel hst.out.2 hbel.size (fun j hj=>by cases hj;exact Nat.le_refl _))
   clear hown hbel hst
   go_wp2_with fail
   go_roundw
   case rel=>exact ⟨k+1,by omega,by go_num,HN.out,HB2.out⟩
   case measure=>simp [intOf];omega
  ·obtain rfl:n=k:=by omega
   clear hown hbel
   have HC:=HO.out
   rw [zerosAt_full] at HC
   have hconv:=conv_owned HC (by simp)
   clear HC
   go_wp2_with fail
   go_ret
   exact ⟨rfl,HB.out⟩
theorem canon_pad {s:ByteArray} (h:Canon s) (hs:0<s.size) (k:Nat):Canon (padS s k):=by
 refine ⟨fun i hi=>?_,.inr ?_⟩
 ·unfold padS at hi ⊢
  rw [byteI_append]
  rw [ByteArray.size_append,zerosS_size] at hi
  split
  ·exact h.1 i ‹_›
  ·rw [byteI_zeros _ _ (by omega)]
   omega
 ·unfold padS
  rw [byteI_append,if_pos hs]
  exact h.2.resolve_left (by omega)
theorem zerosS_list (k:Nat):(zerosS k).data.toList=List.replicate k 48:=by
 unfold zerosS
 rw [strOfNums_list]
 simp
theorem dv_zeros:∀ k,dv (List.replicate k (48:UInt8))=0
 | 0=>rfl
 | k+1=>by rw [List.replicate_succ,dv_cons,dv_zeros k];simp
theorem numV_pad (s:ByteArray) (k:Nat):numV (padS s k)=numV s * 10 ^ k:=by
 unfold numV padS
 rw [ByteArray.data_append,Array.toList_append,dv_append,zerosS_list,dv_zeros,List.length_replicate]
 rfl
theorem numV_nil {s:ByteArray} (h:s.size=0):numV s=0:=by
 unfold numV
 rw [show s.data.toList=[] from List.eq_nil_of_length_eq_zero h]
 rfl
theorem numV_pos {s:ByteArray} (h:Canon s) (hs:0<s.size):0<numV s:=by
 have:=canon_size h hs
 have:0<10 ^ (s.size-1):=Nat.pow_pos (by decide)
 omega
theorem vdec_canon {d:DecD} (h:VDec d):Canon d.digits:=by
 rcases h with ⟨h0,_⟩ | ⟨h0,h1,h2,h3,_⟩
 ·exact ⟨fun i hi=>by omega,.inl h0⟩
 ·exact ⟨h2,.inr h3⟩
theorem vdec_small {d:DecD} (h:VDec d):d.digits.size≤120∧-400≤d.exp∧d.exp≤400:=by rcases h with h | h<;>omega
theorem dig_ext {d:DecD} (h0:d.digits.size=0) (h1:d.neg=false) (h2:d.exp=0):d=dec0:=by
 obtain ⟨n,s,e⟩:=d
 simp only at h0 h1 h2
 have:s=⟨#[]⟩:=by
  cases s with | mk data =>
   have:=Array.eq_empty_of_size_eq_zero (xs:=data) h0
   rw [this]
 rw [this,h1,h2]
 rfl
theorem vdec_zero0 {d:DecD} (h:VDec d) (h0:d.digits.size=0):d=dec0:=by
 rcases h with ⟨_,h1,h2⟩ | ⟨h1,_⟩
 ·exact dig_ext h0 h1 h2
 ·omega
theorem normD_self {d:DecD} (h:VDec d):normD d.neg d.digits d.exp=(d,0):=by
 by_cases h0:d.digits.size=0
 ·unfold normD
  rw [if_pos h0,← vdec_zero0 h h0]
 ·have hs:=vdec_small h
  have h4:byteI d.digits (d.digits.size-1)≠48:=by rcases h with h | ⟨_,_,_,_,h4,_⟩;omega;exact h4
  have ht:tzS d.digits=0:=tzS_at (Nat.zero_le _) (fun j hj=>absurd hj (Nat.not_lt_zero _)) (fun _=>h4)
  have hc:cutS d.digits=d.digits:=by
   have e:=cutS_extract d.digits
   have hle:=cutS_le d.digits
   have:(cutS d.digits).size=d.digits.size:=by unfold tzS at ht;omega
   rw [← e,this,ByteArray.extract_zero_size]
  unfold normD
  rw [if_neg h0,ht,hc,if_neg (by omega)]
  simp
theorem align_canon {a b:DecD} (ha:VDec a) (hb:VDec b):Canon (alignD a b).1∧Canon (alignD a b).2∧(alignD a b).1.size≤920∧(alignD a b).2.size≤920∧(0<b.digits.size→0<(alignD a b).2.size):=by
 have ca:=vdec_canon ha
 have cb:=vdec_canon hb
 have sa:=vdec_small ha
 have sb:=vdec_small hb
 unfold alignD
 split
 ·exact ⟨ca,cb,by show a.digits.size≤920;omega,by show b.digits.size≤920;omega,fun h=>h⟩
 ·refine ⟨canon_pad ca (by omega) _,canon_pad cb (by omega) _,?_,?_,fun _=>?_⟩
  ·show (padS _ _).size≤920
   rw [padS_size];omega
  ·show (padS _ _).size≤920
   rw [padS_size];omega
  ·show 0<(padS _ _).size
   rw [padS_size];omega
def xD (a b:DecD):Nat:=numV (alignD a b).1
def yD (a b:DecD):Nat:=numV (alignD a b).2
def addD (a b:DecD):DecD×Int :=
 if a.neg=b.neg then normD a.neg (numS (xD a b+yD a b)) (expD a b) else if yD a b≤xD a b then normD a.neg (numS (xD a b-yD a b)) (expD a b) else normD b.neg (numS (yD a b-xD a b)) (expD a b)
def subD (a b:DecD):DecD×Int:=addD a (negD b)
def mulD (a b:DecD):DecD×Int:=normD (a.neg != b.neg) (numS (numV a.digits * numV b.digits)) (a.exp+b.exp)
def e400:Nat:=400
theorem numV_pad4 (s:ByteArray):numV (padS s 400)=numV s * 10 ^ e400:=numV_pad s e400
def divD (a b:DecD):DecD×Int :=
 if b.digits.size=0 then (dec0,14) else if numV a.digits * 10 ^ e400 % numV b.digits≠0 then (dec0,15) else normD (a.neg != b.neg) (numS (numV a.digits * 10 ^ e400 / numV b.digits)) (a.exp-b.exp-400)
def modD (a b:DecD):DecD×Int :=
 if b.digits.size=0 then (dec0,14) else normD b.neg (numS (if xD a b % yD a b≠0∧a.neg≠b.neg then yD a b-xD a b % yD a b else xD a b % yD a b)) (expD a b)
theorem addD_left {a b:DecD} (ha:VDec a) (hb:VDec b) (h0:a.digits.size=0):addD a b=(b,0):=by
 have hx:xD a b=0:=by unfold xD alignD;rw [if_pos (.inl h0)];exact numV_nil h0
 have hy:yD a b=numV b.digits:=by unfold yD alignD;rw [if_pos (.inl h0)]
 have he:expD a b=b.exp:=by unfold expD;rw [if_pos h0]
 have han:a.neg=false:=by rw [vdec_zero0 ha h0];rfl
 have hs:=canon_numS (vdec_canon hb)
 unfold addD
 rw [hx,hy,he]
 by_cases h1:a.neg=b.neg
 ·rw [if_pos h1,Nat.zero_add,hs,h1]
  exact normD_self hb
 ·rw [if_neg h1]
  have hb0:0<b.digits.size:=by
   rcases Nat.eq_zero_or_pos b.digits.size with h | h
   ·exact absurd (by rw [han,vdec_zero0 hb h];rfl) h1
   ·exact h
  have:=numV_pos (vdec_canon hb) hb0
  rw [if_neg (by omega),Nat.sub_zero,hs]
  exact normD_self hb
theorem addD_right {a b:DecD} (ha:VDec a) (h1:a.digits.size≠0) (h0:b.digits.size=0):addD a b=(a,0):=by
 have hx:xD a b=numV a.digits:=by unfold xD alignD;rw [if_pos (.inr h0)]
 have hy:yD a b=0:=by unfold yD alignD;rw [if_pos (.inr h0)];exact numV_nil h0
 have he:expD a b=a.exp:=by unfold expD;rw [if_neg h1,if_pos h0]
 have hs:=canon_numS (vdec_canon ha)
 unfold addD
 rw [hx,hy,he,Nat.add_zero,Nat.sub_zero,hs,if_pos (Nat.zero_le _),ite_self]
 exact normD_self ha
theorem vdec_neg {d:DecD} (h:VDec d):VDec (negD d):=by
 rcases h with ⟨h0,h1,h2⟩ | ⟨h0,h1⟩
 ·exact .inl ⟨h0,by show negB d=false;unfold negB;rw [if_pos h0];exact h1,h2⟩
 ·exact .inr ⟨h0,h1⟩
theorem exp_range {a b:DecD} (ha:VDec a) (hb:VDec b):-400≤expD a b∧expD a b≤400:=by
 have sa:=vdec_small ha
 have sb:=vdec_small hb
 unfold expD
 split
 ·omega
 ·split<;>omega
theorem xD_lt {a b:DecD} (ha:VDec a) (hb:VDec b):∃ k,k≤920∧xD a b<10 ^ k∧yD a b<10 ^ k:=by
 obtain ⟨c1,c2,s1,s2,_⟩:=align_canon ha hb
 have h1:=numV_lt c1.1
 have h2:=numV_lt c2.1
 refine ⟨max (alignD a b).1.size (alignD a b).2.size,by omega,?_,?_⟩
 ·exact Nat.lt_of_lt_of_le h1 (Nat.pow_le_pow_right (by decide) (by omega))
 ·exact Nat.lt_of_lt_of_le h2 (Nat.pow_le_pow_right (by decide) (by omega))
theorem size_of_num {n k:Nat} (h:n<10 ^ k) (hk:k≤4096):(numS n).size≤4096:=Nat.le_trans (numS_le h) hk
theorem add_lt {n m k:Nat} (h1:n<10 ^ k) (h2:m<10 ^ k):n+m<10 ^ (k+1):=by rw [Nat.pow_succ];omega
structure Tdec (w W:World) (a b:DecD) (cs:List Value):Prop where
 below:Below w.heap.size w W
 one:RowT 23 W w.heap.size [.bool a.neg,.string a.digits,.int .i64 a.exp]
 two:RowT 23 W (w.heap.size+1) [.bool b.neg,.string b.digits,.int .i64 b.exp]
 res:RowT 23 W (w.heap.size+1+1) cs
theorem Tdec.later {w W W':World} {a b:DecD} {cs:List Value} (h:Tdec w W a b cs) (hb:Below W.heap.size W W'):Tdec w W' a b cs:=⟨belowThen h.below hb,h.one.then hb,h.two.then hb,h.res.then hb⟩
theorem Tdec.drew {w W:World} {a b:DecD} {cs:List Value} (h:Tdec w W a b cs):Tdec w W.drew a b cs:=⟨h.below.trans (drewB _),h.one,h.two,h.res⟩
theorem Tdec.put {w W:World} {a b:DecD} {cs:List Value} (h:Tdec w W a b cs) (new:List Value):Tdec w (W.setRow (w.heap.size+1+1) new.toArray) a b new :=
 ⟨below_setRow h.below (by omega) _,h.one.setRowOther (by omega) _,h.two.setRowOther (by omega) _,h.res.setRow new⟩
theorem tdec (w:World) (a b:DecD) (z:List Value):Tdec w (((w.alloc (.cells #[.bool a.neg,.string a.digits,.int .i64 a.exp] 23)).alloc (.cells #[.bool b.neg,.string b.digits,.int .i64 b.exp] 23)).alloc (.cells z.toArray 23)) a b z:=by
 refine ⟨belowThen (belowThen (belowBox w _) (belowBox _ _)) (belowBox _ _),((RowT.new w 23 _).alloc _).alloc _,?_,?_⟩
 ·have h:=RowT.new (w.alloc (.cells #[.bool a.neg,.string a.digits,.int .i64 a.exp] 23)) 23 [.bool b.neg,.string b.digits,.int .i64 b.exp]
  rw [World.size_alloc] at h
  exact h.alloc _
 ·have h:=RowT.new ((w.alloc (.cells #[.bool a.neg,.string a.digits,.int .i64 a.exp] 23)).alloc (.cells #[.bool b.neg,.string b.digits,.int .i64 b.exp] 23)) 23 z
  rw [World.size_alloc,World.size_alloc] at h
  exact h
theorem dec_one (x:Bool) (y:ByteArray) (z:Int):∀ v∈[Value.bool x,.string y,.int .i64 z],v.oneCell'=true:=by
 intro v hv
 simp only [List.mem_cons,List.not_mem_nil,or_false] at hv
 rcases hv with rfl | rfl | rfl<;>rfl
theorem sizeDECl {x y z:Value}:(Tryz.prog.info? 23).map (·.size)=some ([x,y,z]:List Value).length:=by kernel_rfl
end Go.Proofs.YtmjfggadehkbjaaGreatDoor
