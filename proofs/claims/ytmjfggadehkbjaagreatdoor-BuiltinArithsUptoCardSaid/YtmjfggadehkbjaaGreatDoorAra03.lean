/- Differences of strings of digits, numerals of rows of digits: decimal.minus, Strip, text, datakitref01.Sum, datakitref01.Less. -/
import Derived.Test.YtmjfggadehkbjaaGreatDoorProg
import Derived.Test.YtmjfggadehkbjaaGreatDoorGA
import Derived.Test.YtmjfggadehkbjaaGreatDoorGB
import Derived.Test.YtmjfggadehkbjaaGreatDoorGC
import Derived.Test.YtmjfggadehkbjaaGreatDoorShelf
import Derived.Test.YtmjfggadehkbjaaGreatDoorGD
import Derived.Test.YtmjfggadehkbjaaGreatDoorAA
import Derived.Below
import Derived.Laws.AppendOwn
import Derived.Deep.Slices
import Derived.Deep.RegionHeld3
import Derived.Lib.Hide
import Derived.Deep.MidRow
import Derived.WalkKit
import Derived.WalkSpells
import Derived.WalkLawsBesides
import Derived.LoopTactic
import Derived.BigQuiet
import Derived.Deep.QuietTactic
import Derived.Laws.BytesArg
import Derived.OwnWalk
import Derived.Shelf.Strings.Builder1
import Derived.Shelf.Strings.Builder2
import Derived.Shelf.Strings.Trim
import Derived.Shelf.Small.Utf8
import Derived.Shelf.Small.Strs
import Derived.Shelf.Strings.BuilderF
import Derived.Shelf.Strings.BuilderK
import Derived.Shelf.Utf8.RuneCount
import Derived.Shelf.Strings.Builder2Cap
import Derived.Shelf.Strings.Search1
import Derived.Shelf.Strings.Search2
import Derived.Shelf.Strings.Search3
import Derived.Shelf.Strings.Count
import Derived.Shelf.LaysM
import Derived.Shelf.Strings.Shaped
import Derived.Shelf.Strings.Prefix
import Derived.Shelf.Strings.Split
import Derived.Shelf.Strings.SplitShaped
import Derived.Shelf.Unicode.Decode
import Derived.Shelf.Strings.Runes
import Derived.Shelf.Strings.RuneCount
import Derived.Shelf.Strings.AsciiSet
import Derived.Shelf.Strings.Explode
import Derived.Shelf.Bits.Mul64
import Derived.Shelf.Strings.Repeat
import Derived.Shelf.Unicode.DecodeSlow
import Derived.Shelf.Unicode.DecodeAny
import Derived.Shelf.Unicode.DecodeLast
import Derived.Ground.Names2Prog
import Derived.Shelf.Slices.SearchI
import Derived.Deep.AppendLies
import Derived.Lib.Repeat
import Derived.Laws.OwnMore
import Derived.Lib.SliceRun
import Derived.OrdersHeld
import Derived.Laws.CopyOwn
import Derived.Deep.WholeRow
import Derived.Laws.CopyRow
import Derived.Maps.OwnOps
import Derived.Maps.OwnSet
import Derived.Maps.Views
import Derived.Deep.Light
import Derived.Lib.Bytealg
import Derived.StillTailTactics
import Derived.Deep.DeepCutAuto
import Derived.Great.BuildSlice
import Derived.Sort.Walk0
import Derived.Deep.DeepMust
import Derived.Lib.TrimByte
namespace Go.Proofs.YtmjfggadehkbjaaGreatDoor
open Go.RowKit
theorem infoI64:(Tryz.prog.info? 3).map (fun i=>(i.zero,i.size,i.bytes))=some (some (.int .i64 0),1,8):=by kernel_rfl
def digJ (x j:Nat):Int:=((x / 10 ^ j % 10:Nat):Int)
def rowL (n i x:Nat):List Int:=(List.range i).map (digJ x)++List.replicate (n-i) 0
theorem rowL_len {n i x:Nat} (h:i≤n):(rowL n i x).length=n:=by unfold rowL;rw [List.length_append,List.length_map,List.length_range,List.length_replicate];omega
theorem rowL_full (n x:Nat):rowL n n x=(List.range n).map (digJ x):=by unfold rowL;rw [Nat.sub_self];exact List.append_nil _
theorem rowL_set {n i x:Nat} (h:i<n):(rowL n i x).set i (digJ x i)=rowL n (i+1) x:=by
 unfold rowL
 obtain ⟨m,hm⟩:∃ m,n-i=m+1:=⟨n-i-1,by omega⟩
 rw [hm,show n-(i+1)=m by omega,List.set_append_right _ _ (by simp),List.length_map,List.length_range,Nat.sub_self,List.replicate_succ,List.set_cons_zero,List.range_succ,List.map_append,List.append_assoc]
 rfl
theorem made_rowL (n x:Nat):(madeCells (Value.cells (.int .i64 0)) (n * 1)).toList=(rowL n 0 x).map (Value.int .i64):=by
 apply List.ext_getElem?
 intro i
 unfold madeCells rowL
 by_cases h:i<n
 ·simp [h,Value.cells,Nat.mod_one]
 ·simp [h]
def DigL (w:World) (b n x:Nat):Prop:=b<w.heap.size∧∀ j,j<n→w.cell? ⟨b,j,none⟩=some (.int .i64 (digJ x j))
theorem DigL.below {w w':World} {b n x:Nat} (h:DigL w b n x) (hb:Below w.heap.size w w'):∀ j,j<n→w'.cell? ⟨b,j,none⟩=some (.int .i64 (digJ x j)):=fun j hj=>(hb.cell (p:=⟨b,j,none⟩) h.1).trans (h.2 j hj)
theorem digL_own {w:World} {B b n c x:Nat} (h:w.ownsRow B 3 1 (.slice (some ⟨b,0,none⟩) n c) n ((rowL n n x).map (Value.int .i64))) (hb:b<w.heap.size):DigL w b n x:=⟨hb,fun j hj=>by
 have:=h.cellAt j (by omega)
 rw [this,rowL_full,List.map_map,List.getElem?_map,List.getElem?_range hj]
 rfl⟩
theorem digJ_range (x j:Nat):0≤digJ x j∧digJ x j≤9:=by unfold digJ;omega
theorem strip_at {s:ByteArray} {k:Nat} (hk:k≤s.size) (h1:∀ j,j<k→byteI s j=48) (h2:k<s.size→byteI s k≠48):stripS s=s.extract k s.size:=by
 unfold stripS
 rw [Lib.extract_from,Lib.trimLeftB_drop s.data.toList 48 k hk]
 ·intro j b hj hb
  have hj2:j<s.size:=by omega
  have h3:=h1 j hj
  rw [← byteI_eq hj2] at h3
  have e:s.data.toList[j]?=some s[j]:=List.getElem?_eq_getElem hj2
  rw [e] at hb
  cases hb
  exact UInt8.toNat_inj.1 (by show s[j].toNat=48;omega)
 ·intro b hb e
  obtain ⟨hlt,hg⟩:=List.getElem?_eq_some_iff.1 hb
  have hlt2:k<s.size:=hlt
  refine h2 hlt2 ?_
  rw [← byteI_eq hlt2]
  have e2:s.data.toList[k]=s[k]:=rfl
  rw [← e2,hg,e]
  rfl
set_option maxRecDepth 100000 in
theorem strip_r (s:ByteArray) (w:World) (hs:s.size≤4294967296):Calls Tryz.prog 133 #[.string s] w (fun e w'=>e=.returned (.string (stripS s))∧w'=w):=by
 go_enter Tryz.func133,Tryz.ntmps133
 go_wp2_with fail
 go_simp
 go_loopw [3] (fun i wr=>∃ k:Nat,k≤s.size∧i=.int .i64 k∧Hid (∀ j,j<k→byteI s j=48)∧w=wr) (fun i _=>s.size-(intOf i).toNat)
 case atStart=>exact ⟨0,by omega,rfl,Hd (fun j hj=>absurd hj (Nat.not_lt_zero _)),rfl⟩
 case round =>
  obtain ⟨k,hk,rfl,HZ,rfl⟩:=hrel
  by_cases hlt:k<s.size
  ·have hb:=byteI_eq hlt
   by_cases h48:byteI s k=48
   ·have HK:=Hd h48
    have q1:(byteI s k==48)=true:=by simp [h48]
    clear h48
    go_wp2_with fail
    go_roundw
    case rel=>exact ⟨k+1,by omega,by go_num,Hd (fun j hj=>by rcases Nat.lt_or_ge j k with h | h;exact HZ.out j h;rw [show j=k by omega];exact HK.out),trivial⟩
    case measure=>simp [intOf];omega
   ·have HE:=Hd (strip_at hk HZ.out (fun _=>h48))
    have q1:(byteI s k==48)=false:=by simp [h48]
    have q2:(byteI s k != 48)=true:=by simp [h48]
    clear h48
    go_wp2_with fail
    go_ret
    exact ⟨by rw [HE.out];rfl,rfl⟩
  ·have HE:=Hd (strip_at hk HZ.out (fun h=>absurd h hlt))
   go_wp2_with fail
   go_ret
   exact ⟨by rw [HE.out];rfl,rfl⟩
theorem strip_d (s:ByteArray) (w:World):Calls Tryz.prog 168 #[.string s] w (fun e w'=>e=.returned (.string (stripS s))∧w'=w):=by
 go_enter Tryz.func168,Tryz.ntmps168
 go_wp2_with (go_at_call 120;refine (Tryz.strings_TrimLeft_one _ 48 (by decide) _).mono ?_;rintro e w3 ⟨rfl,rfl⟩;rw [trimS_eq])
 go_ret
 exact ⟨rfl,rfl⟩
set_option maxRecDepth 100000 in
set_option maxHeartbeats 3200000 in
theorem dtext_r (b n c x:Nat) (w:World) (hn:n≤65536) (hx:x<10 ^ n) (h:DigL w b n x):Calls Tryz.prog 138 #[.slice (some ⟨b,0,none⟩) n c] w (StrV (numS x) w):=by
 obtain ⟨i0,hin,hz0,hz1,hz2⟩:=info_parts infoU8
 have HLT:=Hd hx
 have HL:=Hd h
 clear hx h
 go_enter Tryz.func138,Tryz.ntmps138
 go_wp2_with (refine wpList_make_full _ rfl _ _ 26 rfl w.heap.size 5 i0 (.int .u8 0) 1 Tryz.underlying26 hin hz0 hz1 .i64 .i64 _ _ (n) rfl rfl rfl rfl (by rw [hz2];omega) (by unfold maxLen;omega) (Nat.le_refl _) ?_)
 intro w1 hown hgrow
 have HO:=Hd (show w1.ownsRow w.heap.size 5 1 (.slice (some ⟨w.heap.size,0,none⟩) (n) (n)) (n) ((rowD (n) 0 (x)).map (Value.int .u8)) by rw [← made_rowD];simpa [Value.cells] using hown)
 have HBW:=Hd (show Below w.heap.size w w1 from Below.grown (Below.refl _ _) hgrow (Nat.le_refl _) (fun j hj=>by cases hj))
 clear hown hgrow
 go_wp2_with fail
 go_simp
 go_loopw [4] (fun i wr=>∃ k:Nat,k≤n∧i=.int .i64 k∧Hid (wr.ownsRow w.heap.size 5 1 (.slice (some ⟨w.heap.size,0,none⟩) (n) (n)) (n) ((rowD (n) k (x)).map (Value.int .u8)))∧Hid (Below w.heap.size w wr)) (fun i _=>n-(intOf i).toNat)
 case atStart=>exact ⟨0,by omega,rfl,HO,HBW⟩
 case round =>
  clear HO HBW
  obtain ⟨w2,rfl⟩:∃ w2,w2=wr:=⟨wr,rfl⟩
  obtain ⟨k,hk,rfl,HO,HBW⟩:=hrel
  by_cases hlt:k<n
  ·have hcell:=HL.out.below HBW.out k hlt
   obtain ⟨dg,hdg⟩:∃ dg,dg=digJ x k:=⟨_,rfl⟩
   rw [← hdg] at hcell
   obtain ⟨hd0,hd9⟩:=digJ_range x k
   rw [← hdg] at hd0 hd9
   obtain ⟨y,hy⟩:∃ y:Int,y=dg+48:=⟨_,rfl⟩
   obtain ⟨q,hq⟩:∃ q,q=n-1-k:=⟨_,rfl⟩
   have hy0:48≤y:=by omega
   have hy1:y≤57:=by omega
   have hy2:(48:Int)+dg=y:=by omega
   have hqm:q<n:=by omega
   have hq1:(n:Int)-1-(k:Int)=(q:Int):=by omega
   have HQ:=Hd hq
   have HY:=Hd (show y=((x / 10 ^ k % 10:Nat):Int)+48 by rw [hy,hdg];rfl)
   have hown:=HO.out
   have hc:=hown.cellAt q (by omega)
   have hf:=hown.frozenAt q
   have hst:=Hd (hown.stored q (.int .u8 y))
   rw [List.getElem?_map,List.getElem?_eq_getElem (by rw [rowD_len hk];omega),Option.map_some] at hc
   have HN:=Hd (show (w2.setCell ⟨w.heap.size,q,none⟩ (.int .u8 y)).ownsRow w.heap.size 5 1 (.slice (some ⟨w.heap.size,0,none⟩) (n) (n)) (n) ((rowD (n) (k+1) (x)).map (Value.int .u8)) by
    have:=hst.out.1
    rw [← rowD_set hlt,← HQ.out,← HY.out]
    simpa [List.map_set] using this)
   have HB2:=Hd (show Below w.heap.size w (w2.setCell ⟨w.heap.size,q,none⟩ (.int .u8 y)) from Below.grown HBW.out hst.out.2 HBW.out.size (fun j hj=>by cases hj;exact Nat.le_refl _))
   clear hown hst hq hy hdg HO HBW
   go_wp2_with fail
   go_roundw
   case rel=>exact ⟨k+1,by omega,by go_num,HN,HB2⟩
   case measure=>simp [intOf];omega
  ·obtain rfl:k=n:=by omega
   have HCV:=HO.out
   rw [rowD_full] at HCV
   have hconv:=conv_owned HCV (by rw [digN_len])
   clear HCV
   go_wp2_with (go_at_call 133;refine (strip_r _ _ (by rw [strOfNums_size,digN_len];omega)).mono ?_;rintro e w3 ⟨rfl,rfl⟩;rw [strip_digN HLT.out])
   go_ret
   exact ⟨rfl,HBW.out⟩
set_option maxRecDepth 100000 in
set_option maxHeartbeats 3200000 in
theorem dtext_d (b n c x:Nat) (w:World) (hn:n≤65536) (hx:x<10 ^ n) (h:DigL w b n x):Calls Tryz.prog 118 #[.slice (some ⟨b,0,none⟩) n c] w (StrV (numS x) w):=by
 obtain ⟨i0,hin,hz0,hz1,hz2⟩:=info_parts infoU8
 have HLT:=Hd hx
 have HL:=Hd h
 clear hx h
 go_enter Tryz.func118,Tryz.ntmps118
 go_wp2_with (refine wpList_make_full _ rfl _ _ 26 rfl w.heap.size 5 i0 (.int .u8 0) 1 Tryz.underlying26 hin hz0 hz1 .i64 .i64 _ _ (n) rfl rfl rfl rfl (by rw [hz2];omega) (by unfold maxLen;omega) (Nat.le_refl _) ?_)
 intro w1 hown hgrow
 have HO:=Hd (show w1.ownsRow w.heap.size 5 1 (.slice (some ⟨w.heap.size,0,none⟩) (n) (n)) (n) ((rowD (n) 0 (x)).map (Value.int .u8)) by rw [← made_rowD];simpa [Value.cells] using hown)
 have HBW:=Hd (show Below w.heap.size w w1 from Below.grown (Below.refl _ _) hgrow (Nat.le_refl _) (fun j hj=>by cases hj))
 clear hown hgrow
 go_wp2_with fail
 go_simp
 go_loopw [10] (fun i wr=>∃ k:Nat,k≤n∧i=.int .i64 k∧Hid (wr.ownsRow w.heap.size 5 1 (.slice (some ⟨w.heap.size,0,none⟩) (n) (n)) (n) ((rowD (n) k (x)).map (Value.int .u8)))∧Hid (Below w.heap.size w wr)) (fun i _=>n-(intOf i).toNat)
 case atStart=>exact ⟨0,by omega,rfl,HO,HBW⟩
 case round =>
  clear HO HBW
  obtain ⟨w2,rfl⟩:∃ w2,w2=wr:=⟨wr,rfl⟩
  obtain ⟨k,hk,rfl,HO,HBW⟩:=hrel
  by_cases hlt:k<n
  ·have hcell:=HL.out.below HBW.out k hlt
   obtain ⟨dg,hdg⟩:∃ dg,dg=digJ x k:=⟨_,rfl⟩
   rw [← hdg] at hcell
   obtain ⟨hd0,hd9⟩:=digJ_range x k
   rw [← hdg] at hd0 hd9
   obtain ⟨y,hy⟩:∃ y:Int,y=dg+48:=⟨_,rfl⟩
   obtain ⟨q,hq⟩:∃ q,q=n-1-k:=⟨_,rfl⟩
   have hy0:48≤y:=by omega
   have hy1:y≤57:=by omega
   have hy2:(48:Int)+dg=y:=by omega
   have hqm:q<n:=by omega
   have hq1:(n:Int)-1-(k:Int)=(q:Int):=by omega
   have HQ:=Hd hq
   have HY:=Hd (show y=((x / 10 ^ k % 10:Nat):Int)+48 by rw [hy,hdg];rfl)
   have hown:=HO.out
   have hc:=hown.cellAt q (by omega)
   have hf:=hown.frozenAt q
   have hst:=Hd (hown.stored q (.int .u8 y))
   rw [List.getElem?_map,List.getElem?_eq_getElem (by rw [rowD_len hk];omega),Option.map_some] at hc
   have HN:=Hd (show (w2.setCell ⟨w.heap.size,q,none⟩ (.int .u8 y)).ownsRow w.heap.size 5 1 (.slice (some ⟨w.heap.size,0,none⟩) (n) (n)) (n) ((rowD (n) (k+1) (x)).map (Value.int .u8)) by
    have:=hst.out.1
    rw [← rowD_set hlt,← HQ.out,← HY.out]
    simpa [List.map_set] using this)
   have HB2:=Hd (show Below w.heap.size w (w2.setCell ⟨w.heap.size,q,none⟩ (.int .u8 y)) from Below.grown HBW.out hst.out.2 HBW.out.size (fun j hj=>by cases hj;exact Nat.le_refl _))
   clear hown hst hq hy hdg HO HBW
   go_wp2_with fail
   go_roundw
   case rel=>exact ⟨k+1,by omega,by go_num,HN,HB2⟩
   case measure=>simp [intOf];omega
  ·obtain rfl:k=n:=by omega
   have HCV:=HO.out
   rw [rowD_full] at HCV
   have hconv:=conv_owned HCV (by rw [digN_len])
   clear HCV
   go_wp2_with (go_at_call 168;refine (strip_d _ _).mono ?_;rintro e w3 ⟨rfl,rfl⟩;rw [strip_digN HLT.out])
   go_ret
   exact ⟨rfl,HBW.out⟩
set_option maxRecDepth 100000 in
set_option maxHeartbeats 3200000 in
theorem minus_p (a b:ByteArray) (w:World) (ha:DigS a) (hb:DigS b) (hsa:a.size≤4096) (hsb:b.size≤4096) (hle:numV b≤numV a):Calls Tryz.prog 70 #[.string a,.string b] w (StrV (numS (numV a-numV b)) w):=by
 obtain ⟨i0,hin,hz0,hz1,hz2⟩:=info_parts infoU8
 obtain ⟨A,hA⟩:∃ A,A=numV a:=⟨_,rfl⟩
 obtain ⟨B,hB⟩:∃ B,B=numV b:=⟨_,rfl⟩
 have HLT:=Hd (show A-B<10 ^ a.size by have h1:=numV_lt ha;omega)
 have HLE:=Hd (show B≤A by omega)
 have DA:=Hd (show ∀ i,digA a i=A / 10 ^ i % 10 from fun i=>by rw [digA_num ha,hA])
 have DB:=Hd (show ∀ i,digA b i=B / 10 ^ i % 10 from fun i=>by rw [digA_num hb,hB])
 have LA:=Hd (digA_le ha)
 have LB:=Hd (digA_le hb)
 have HDA:=Hd ha
 have HDB:=Hd hb
 rw [← hA,← hB]
 clear ha hb hA hB hle
 go_enter Tryz.func70,Tryz.ntmps70
 go_wp2_with (refine wpList_make_full _ rfl _ _ 26 rfl w.heap.size 5 i0 (.int .u8 0) 1 Tryz.underlying26 hin hz0 hz1 .i64 .i64 _ _ (a.size) rfl rfl rfl rfl (by rw [hz2];omega) (by unfold maxLen;omega) (Nat.le_refl _) ?_)
 intro w1 hown hgrow
 have HO:=Hd (show w1.ownsRow w.heap.size 5 1 (.slice (some ⟨w.heap.size,0,none⟩) (a.size) (a.size)) (a.size) ((rowD (a.size) 0 (A-B)).map (Value.int .u8)) by rw [← made_rowD];simpa [Value.cells] using hown)
 have HBW:=Hd (show Below w.heap.size w w1 from Below.grown (Below.refl _ _) hgrow (Nat.le_refl _) (fun j hj=>by cases hj))
 clear hown hgrow
 go_wp2_with fail
 go_simp
 go_loopw [6,14] (fun cv i wr=>∃ k c:Nat,k≤a.size∧i=.int .i64 k∧cv=.int .i64 c∧c≤1∧Hid (c=borA A B (10 ^ k))∧Hid (wr.ownsRow w.heap.size 5 1 (.slice (some ⟨w.heap.size,0,none⟩) (a.size) (a.size)) (a.size) ((rowD (a.size) k (A-B)).map (Value.int .u8)))∧Hid (Below w.heap.size w wr)) (fun _ i _=>a.size-(intOf i).toNat)
 case atStart=>exact ⟨0,0,by omega,rfl,rfl,by omega,Hd (borA_0 A B).symm,HO,HBW⟩
 case round =>
  clear HO HBW
  obtain ⟨w2,rfl⟩:∃ w2,w2=wr:=⟨wr,rfl⟩
  obtain ⟨k,c,hk,rfl,rfl,hc1,HC,HO,HBW⟩:=hrel
  by_cases hlt:k<a.size
  ·obtain ⟨u,hu⟩:∃ u,u=digA a k:=⟨_,rfl⟩
   obtain ⟨v,hv⟩:∃ v,v=digA b k:=⟨_,rfl⟩
   obtain ⟨q,hq⟩:∃ q,q=a.size-1-k:=⟨_,rfl⟩
   have hu9:u≤9:=hu ▸ LA.out k
   have hv9:v≤9:=hv ▸ LB.out k
   have HDG:=Hd (show (A-B) / 10 ^ k % 10=(u+10-v-c) % 10 by rw [dif_dig A B _ (pow10_pos k) HLE.out,← DA.out,← DB.out,← HC.out,← hu,← hv])
   have HC2:=Hd (show borA A B (10 ^ (k+1))=if u<v+c then 1 else 0 by rw [Nat.pow_succ,borA_next A B _ (pow10_pos k),← DA.out,← DB.out,← HC.out,← hu,← hv])
   have hqm:q<a.size:=by omega
   have hq1:(a.size:Int)-1-(k:Int)=(q:Int):=by omega
   have HU:=Hd hu
   have HV:=Hd hv
   have HQ:=Hd hq
   obtain ⟨x,hx⟩:∃ x:Int,x=(u:Int)-(v:Int)-(c:Int):=⟨_,rfl⟩
   have hx1:(u:Int)-(v:Int)-(c:Int)=x:=by omega
   by_cases hneg:x<0
   ·obtain ⟨y,hy⟩:∃ y:Int,y=x+10+48:=⟨_,rfl⟩
    obtain ⟨z,hz⟩:∃ z:Int,z=x+10:=⟨_,rfl⟩
    have hz1:x+10=z:=by omega
    have hz0:0≤z∧z≤9:=by omega
    have hy0:48≤y:=by omega
    have hy1:y≤57:=by omega
    have hy2:(48:Int)+z=y:=by omega
    have HY:=Hd (show (((A-B) / 10 ^ k % 10:Nat):Int)+48=y by rw [HDG.out];omega)
    have HCN:=Hd (show 1=borA A B (10 ^ (k+1)) by rw [HC2.out,if_pos (by omega)])
    have hown:=HO.out
    have hc:=hown.cellAt q (by omega)
    have hf:=hown.frozenAt q
    have hst:=Hd (hown.stored q (.int .u8 y))
    rw [List.getElem?_map,List.getElem?_eq_getElem (by rw [rowD_len hk];omega),Option.map_some] at hc
    have HN:=Hd (show (w2.setCell ⟨w.heap.size,q,none⟩ (.int .u8 y)).ownsRow w.heap.size 5 1 (.slice (some ⟨w.heap.size,0,none⟩) (a.size) (a.size)) (a.size) ((rowD (a.size) (k+1) (A-B)).map (Value.int .u8)) by
     have:=hst.out.1
     rw [← rowD_set hlt,← HQ.out,HY.out]
     simpa [List.map_set] using this)
    have HB2:=Hd (show Below w.heap.size w (w2.setCell ⟨w.heap.size,q,none⟩ (.int .u8 y)) from Below.grown HBW.out hst.out.2 HBW.out.size (fun j hj=>by cases hj;exact Nat.le_refl _))
    clear hown hst hu hv hq hx hy hz HO HBW
    go_wp2_with fail
    refine (at_p a k _ HDA.out (by omega) (by omega)).mono ?_
    rintro e w3 ⟨rfl,rfl⟩
    rw [← HU.out]
    go_wp2_with fail
    refine (at_p b k _ HDB.out (by omega) (by omega)).mono ?_
    rintro e w3 ⟨rfl,rfl⟩
    rw [← HV.out]
    go_wp2_with fail
    go_roundw
    case rel=>exact ⟨k+1,1,by omega,by go_num,rfl,by omega,HCN,HN,HB2⟩
    case measure=>simp [intOf];omega
   ·obtain ⟨y,hy⟩:∃ y:Int,y=x+48:=⟨_,rfl⟩
    have hx0:0≤x∧x≤9:=by omega
    have hy0:48≤y:=by omega
    have hy1:y≤57:=by omega
    have hy2:(48:Int)+x=y:=by omega
    have HY:=Hd (show (((A-B) / 10 ^ k % 10:Nat):Int)+48=y by rw [HDG.out];omega)
    have HCN:=Hd (show 0=borA A B (10 ^ (k+1)) by rw [HC2.out,if_neg (by omega)])
    have hown:=HO.out
    have hc:=hown.cellAt q (by omega)
    have hf:=hown.frozenAt q
    have hst:=Hd (hown.stored q (.int .u8 y))
    rw [List.getElem?_map,List.getElem?_eq_getElem (by rw [rowD_len hk];omega),Option.map_some] at hc
    have HN:=Hd (show (w2.setCell ⟨w.heap.size,q,none⟩ (.int .u8 y)).ownsRow w.heap.size 5 1 (.slice (some ⟨w.heap.size,0,none⟩) (a.size) (a.size)) (a.size) ((rowD (a.size) (k+1) (A-B)).map (Value.int .u8)) by
     have:=hst.out.1
     rw [← rowD_set hlt,← HQ.out,HY.out]
     simpa [List.map_set] using this)
    have HB2:=Hd (show Below w.heap.size w (w2.setCell ⟨w.heap.size,q,none⟩ (.int .u8 y)) from Below.grown HBW.out hst.out.2 HBW.out.size (fun j hj=>by cases hj;exact Nat.le_refl _))
    clear hown hst hu hv hq hx hy HO HBW
    go_wp2_with fail
    refine (at_p a k _ HDA.out (by omega) (by omega)).mono ?_
    rintro e w3 ⟨rfl,rfl⟩
    rw [← HU.out]
    go_wp2_with fail
    refine (at_p b k _ HDB.out (by omega) (by omega)).mono ?_
    rintro e w3 ⟨rfl,rfl⟩
    rw [← HV.out]
    go_wp2_with fail
    go_roundw
    case rel=>exact ⟨k+1,0,by omega,by go_num,rfl,by omega,HCN,HN,HB2⟩
    case measure=>simp [intOf];omega
  ·obtain rfl:k=a.size:=by omega
   have HCV:=HO.out
   rw [rowD_full] at HCV
   have hconv:=conv_owned HCV (by rw [digN_len])
   clear HCV
   go_wp2_with (go_at_call 120;refine (Tryz.strings_TrimLeft_one _ 48 (by decide) _).mono ?_;rintro e w3 ⟨rfl,rfl⟩;rw [trimS_eq,strip_digN HLT.out])
   go_ret
   exact ⟨rfl,HBW.out⟩
set_option maxRecDepth 100000 in
set_option maxHeartbeats 3200000 in
theorem sum_r (a b:ByteArray) (w:World) (ha:DigS a) (hb:DigS b) (hsa:a.size≤4096) (hsb:b.size≤4096):Calls Tryz.prog 128 #[.string a,.string b] w (StrV (numS (numV a+numV b)) w):=by
 rcases Nat.lt_or_ge a.size b.size with hlt0 | hge0
 ·obtain ⟨i0,hin,hz0,hz1,hz2⟩:=info_parts infoI64
  obtain ⟨A,hA⟩:∃ A,A=numV a:=⟨_,rfl⟩
  obtain ⟨B,hB⟩:∃ B,B=numV b:=⟨_,rfl⟩
  have HLT:=Hd (show A+B<10 ^ (b.size+1) by
   have h1:=numV_lt ha
   have h2:=numV_lt hb
   have h3:10 ^ a.size≤10 ^ b.size:=Nat.pow_le_pow_right (by decide) (by omega)
   have h4:10 ^ b.size≤10 ^ b.size:=Nat.pow_le_pow_right (by decide) (by omega)
   rw [Nat.pow_succ,hA,hB]
   omega)
  have DA:=Hd (show ∀ i,digA a i=A / 10 ^ i % 10 from fun i=>by rw [digA_num ha,hA])
  have DB:=Hd (show ∀ i,digA b i=B / 10 ^ i % 10 from fun i=>by rw [digA_num hb,hB])
  have LA:=Hd (digA_le ha)
  have LB:=Hd (digA_le hb)
  have HDA:=Hd ha
  have HDB:=Hd hb
  rw [← hA,← hB]
  clear ha hb hA hB
  go_enter Tryz.func128,Tryz.ntmps128
  all_goals
   go_wp2_with (refine wpList_make_full _ rfl _ _ 111 rfl w.heap.size 3 i0 (.int .i64 0) 1 Tryz.underlying111 hin hz0 hz1 .i64 .i64 _ _ (b.size+1) rfl rfl rfl rfl (by rw [hz2];omega) (by unfold maxLen;omega) (Nat.le_refl _) ?_)
   intro w1 hown hgrow
   have HO:=Hd (show w1.ownsRow w.heap.size 3 1 (.slice (some ⟨w.heap.size,0,none⟩) (b.size+1) (b.size+1)) (b.size+1) ((rowL (b.size+1) 0 (A+B)).map (Value.int .i64)) by rw [← made_rowL];simpa [Value.cells] using hown)
   have HBW:=Hd (show Below w.heap.size w w1 from Below.grown (Below.refl _ _) hgrow (Nat.le_refl _) (fun j hj=>by cases hj))
   clear hown hgrow
   clear hlt0
   go_wp2_with fail
   go_simp
   go_loopw [7,8] (fun cv i wr=>∃ k c:Nat,k≤b.size+1∧i=.int .i64 k∧cv=.int .i64 c∧c≤1∧Hid (c=carA A B (10 ^ k))∧Hid (wr.ownsRow w.heap.size 3 1 (.slice (some ⟨w.heap.size,0,none⟩) (b.size+1) (b.size+1)) (b.size+1) ((rowL (b.size+1) k (A+B)).map (Value.int .i64)))∧Hid (Below w.heap.size w wr)) (fun _ i _=>b.size+1-(intOf i).toNat)
   case atStart=>exact ⟨0,0,by omega,rfl,rfl,by omega,Hd (carA_0 A B).symm,HO,HBW⟩
   case round =>
    clear HO HBW
    obtain ⟨w2,rfl⟩:∃ w2,w2=wr:=⟨wr,rfl⟩
    obtain ⟨k,c,hk,rfl,rfl,hc1,HC,HO,HBW⟩:=hrel
    by_cases hlt:k<b.size+1
    ·obtain ⟨u,hu⟩:∃ u,u=digA a k:=⟨_,rfl⟩
     obtain ⟨v,hv⟩:∃ v,v=digA b k:=⟨_,rfl⟩
     obtain ⟨x,hx⟩:∃ x,x=u+v+c:=⟨_,rfl⟩
     obtain ⟨d,hd⟩:∃ d,d=x % 10:=⟨_,rfl⟩
     obtain ⟨c2,hc2⟩:∃ c2,c2=x / 10:=⟨_,rfl⟩
     have hu9:u≤9:=hu ▸ LA.out k
     have hv9:v≤9:=hv ▸ LB.out k
     have HDG:=Hd (show digJ (A+B) k=(d:Int) by unfold digJ;rw [hd,hx,sum_dig A B _ (pow10_pos k),← DA.out,← DB.out,← HC.out,← hu,← hv])
     have HC2:=Hd (show c2=carA A B (10 ^ (k+1)) by rw [hc2,hx,Nat.pow_succ,carA_next A B _ (pow10_pos k),← DA.out,← DB.out,← HC.out,← hu,← hv])
     have hx1:(u:Int)+(v:Int)+(c:Int)=(x:Int):=by omega
     have htm:(x:Int).tmod 10=(d:Int):=by rw [Int.tmod_eq_emod_of_nonneg (by omega)];omega
     have htd:(x:Int).tdiv 10=(c2:Int):=by rw [Int.tdiv_eq_ediv_of_nonneg (by omega)];omega
     have hx19:x≤19:=by omega
     have hkm:k≤b.size:=by omega
     have hc21:c2≤1:=by omega
     have HU:=Hd hu
     have HV:=Hd hv
     have hown:=HO.out
     have hc:=hown.cellAt k (by omega)
     have hf:=hown.frozenAt k
     have hst:=Hd (hown.stored k (.int .i64 (d:Int)))
     rw [List.getElem?_map,List.getElem?_eq_getElem (by rw [rowL_len hk];omega),Option.map_some] at hc
     have HN:=Hd (show (w2.setCell ⟨w.heap.size,k,none⟩ (.int .i64 (d:Int))).ownsRow w.heap.size 3 1 (.slice (some ⟨w.heap.size,0,none⟩) (b.size+1) (b.size+1)) (b.size+1) ((rowL (b.size+1) (k+1) (A+B)).map (Value.int .i64)) by
      have:=hst.out.1
      rw [← rowL_set hlt,HDG.out]
      simpa [List.map_set] using this)
     have HB2:=Hd (show Below w.heap.size w (w2.setCell ⟨w.heap.size,k,none⟩ (.int .i64 (d:Int))) from Below.grown HBW.out hst.out.2 HBW.out.size (fun j hj=>by cases hj;exact Nat.le_refl _))
     clear hown hst hu hv hx hd hc2 HO HBW
     go_wp2_with fail
     refine (at_r a k _ HDA.out (by omega) (by omega)).mono ?_
     rintro e w3 ⟨rfl,rfl⟩
     rw [← HU.out]
     go_wp2_with fail
     refine (at_r b k _ HDB.out (by omega) (by omega)).mono ?_
     rintro e w3 ⟨rfl,rfl⟩
     rw [← HV.out]
     go_wp2_with fail
     go_roundw
     case rel=>exact ⟨k+1,c2,by omega,by go_num,rfl,hc21,HC2,HN,HB2⟩
     case measure=>simp [intOf];omega
    ·obtain rfl:k=b.size+1:=by omega
     have HDL:=Hd (digL_own HO.out (by rcases HO.out.2 with ⟨h,_⟩ | ⟨g,_,cur,h,_,hg,_⟩;cases h;cases h;exact (Array.getElem?_eq_some_iff.1 hg).1))
     go_wp2_with fail
     refine (dtext_r w.heap.size (b.size+1) (b.size+1) (A+B) _ (by omega) HLT.out HDL.out).mono ?_
     rintro e w3 ⟨rfl,hb⟩
     have HB3:=Hd (belowThen HBW.out hb)
     clear hb
     go_wp2_with fail
     go_ret
     exact ⟨rfl,HB3.out⟩
 ·have hlt0:¬ a.size<b.size:=by omega
  obtain ⟨i0,hin,hz0,hz1,hz2⟩:=info_parts infoI64
  obtain ⟨A,hA⟩:∃ A,A=numV a:=⟨_,rfl⟩
  obtain ⟨B,hB⟩:∃ B,B=numV b:=⟨_,rfl⟩
  have HLT:=Hd (show A+B<10 ^ (a.size+1) by
   have h1:=numV_lt ha
   have h2:=numV_lt hb
   have h3:10 ^ a.size≤10 ^ a.size:=Nat.pow_le_pow_right (by decide) (by omega)
   have h4:10 ^ b.size≤10 ^ a.size:=Nat.pow_le_pow_right (by decide) (by omega)
   rw [Nat.pow_succ,hA,hB]
   omega)
  have DA:=Hd (show ∀ i,digA a i=A / 10 ^ i % 10 from fun i=>by rw [digA_num ha,hA])
  have DB:=Hd (show ∀ i,digA b i=B / 10 ^ i % 10 from fun i=>by rw [digA_num hb,hB])
  have LA:=Hd (digA_le ha)
  have LB:=Hd (digA_le hb)
  have HDA:=Hd ha
  have HDB:=Hd hb
  rw [← hA,← hB]
  clear ha hb hA hB
  go_enter Tryz.func128,Tryz.ntmps128
  all_goals
   go_wp2_with (refine wpList_make_full _ rfl _ _ 111 rfl w.heap.size 3 i0 (.int .i64 0) 1 Tryz.underlying111 hin hz0 hz1 .i64 .i64 _ _ (a.size+1) rfl rfl rfl rfl (by rw [hz2];omega) (by unfold maxLen;omega) (Nat.le_refl _) ?_)
   intro w1 hown hgrow
   have HO:=Hd (show w1.ownsRow w.heap.size 3 1 (.slice (some ⟨w.heap.size,0,none⟩) (a.size+1) (a.size+1)) (a.size+1) ((rowL (a.size+1) 0 (A+B)).map (Value.int .i64)) by rw [← made_rowL];simpa [Value.cells] using hown)
   have HBW:=Hd (show Below w.heap.size w w1 from Below.grown (Below.refl _ _) hgrow (Nat.le_refl _) (fun j hj=>by cases hj))
   clear hown hgrow
   clear hlt0
   go_wp2_with fail
   go_simp
   go_loopw [7,8] (fun cv i wr=>∃ k c:Nat,k≤a.size+1∧i=.int .i64 k∧cv=.int .i64 c∧c≤1∧Hid (c=carA A B (10 ^ k))∧Hid (wr.ownsRow w.heap.size 3 1 (.slice (some ⟨w.heap.size,0,none⟩) (a.size+1) (a.size+1)) (a.size+1) ((rowL (a.size+1) k (A+B)).map (Value.int .i64)))∧Hid (Below w.heap.size w wr)) (fun _ i _=>a.size+1-(intOf i).toNat)
   case atStart=>exact ⟨0,0,by omega,rfl,rfl,by omega,Hd (carA_0 A B).symm,HO,HBW⟩
   case round =>
    clear HO HBW
    obtain ⟨w2,rfl⟩:∃ w2,w2=wr:=⟨wr,rfl⟩
    obtain ⟨k,c,hk,rfl,rfl,hc1,HC,HO,HBW⟩:=hrel
    by_cases hlt:k<a.size+1
    ·obtain ⟨u,hu⟩:∃ u,u=digA a k:=⟨_,rfl⟩
     obtain ⟨v,hv⟩:∃ v,v=digA b k:=⟨_,rfl⟩
     obtain ⟨x,hx⟩:∃ x,x=u+v+c:=⟨_,rfl⟩
     obtain ⟨d,hd⟩:∃ d,d=x % 10:=⟨_,rfl⟩
     obtain ⟨c2,hc2⟩:∃ c2,c2=x / 10:=⟨_,rfl⟩
     have hu9:u≤9:=hu ▸ LA.out k
     have hv9:v≤9:=hv ▸ LB.out k
     have HDG:=Hd (show digJ (A+B) k=(d:Int) by unfold digJ;rw [hd,hx,sum_dig A B _ (pow10_pos k),← DA.out,← DB.out,← HC.out,← hu,← hv])
     have HC2:=Hd (show c2=carA A B (10 ^ (k+1)) by rw [hc2,hx,Nat.pow_succ,carA_next A B _ (pow10_pos k),← DA.out,← DB.out,← HC.out,← hu,← hv])
     have hx1:(u:Int)+(v:Int)+(c:Int)=(x:Int):=by omega
     have htm:(x:Int).tmod 10=(d:Int):=by rw [Int.tmod_eq_emod_of_nonneg (by omega)];omega
     have htd:(x:Int).tdiv 10=(c2:Int):=by rw [Int.tdiv_eq_ediv_of_nonneg (by omega)];omega
     have hx19:x≤19:=by omega
     have hkm:k≤a.size:=by omega
     have hc21:c2≤1:=by omega
     have HU:=Hd hu
     have HV:=Hd hv
     have hown:=HO.out
     have hc:=hown.cellAt k (by omega)
     have hf:=hown.frozenAt k
     have hst:=Hd (hown.stored k (.int .i64 (d:Int)))
     rw [List.getElem?_map,List.getElem?_eq_getElem (by rw [rowL_len hk];omega),Option.map_some] at hc
     have HN:=Hd (show (w2.setCell ⟨w.heap.size,k,none⟩ (.int .i64 (d:Int))).ownsRow w.heap.size 3 1 (.slice (some ⟨w.heap.size,0,none⟩) (a.size+1) (a.size+1)) (a.size+1) ((rowL (a.size+1) (k+1) (A+B)).map (Value.int .i64)) by
      have:=hst.out.1
      rw [← rowL_set hlt,HDG.out]
      simpa [List.map_set] using this)
     have HB2:=Hd (show Below w.heap.size w (w2.setCell ⟨w.heap.size,k,none⟩ (.int .i64 (d:Int))) from Below.grown HBW.out hst.out.2 HBW.out.size (fun j hj=>by cases hj;exact Nat.le_refl _))
     clear hown hst hu hv hx hd hc2 HO HBW
     go_wp2_with fail
     refine (at_r a k _ HDA.out (by omega) (by omega)).mono ?_
     rintro e w3 ⟨rfl,rfl⟩
     rw [← HU.out]
     go_wp2_with fail
     refine (at_r b k _ HDB.out (by omega) (by omega)).mono ?_
     rintro e w3 ⟨rfl,rfl⟩
     rw [← HV.out]
     go_wp2_with fail
     go_roundw
     case rel=>exact ⟨k+1,c2,by omega,by go_num,rfl,hc21,HC2,HN,HB2⟩
     case measure=>simp [intOf];omega
    ·obtain rfl:k=a.size+1:=by omega
     have HDL:=Hd (digL_own HO.out (by rcases HO.out.2 with ⟨h,_⟩ | ⟨g,_,cur,h,_,hg,_⟩;cases h;cases h;exact (Array.getElem?_eq_some_iff.1 hg).1))
     go_wp2_with fail
     refine (dtext_r w.heap.size (a.size+1) (a.size+1) (A+B) _ (by omega) HLT.out HDL.out).mono ?_
     rintro e w3 ⟨rfl,hb⟩
     have HB3:=Hd (belowThen HBW.out hb)
     clear hb
     go_wp2_with fail
     go_ret
     exact ⟨rfl,HB3.out⟩
set_option maxRecDepth 100000 in
set_option maxHeartbeats 3200000 in
theorem less_r (a b:ByteArray) (w:World) (ha:DigS a) (hb:DigS b) (hsa:a.size≤4096) (hsb:b.size≤4096) (hle:numV b≤numV a):Calls Tryz.prog 85 #[.string a,.string b] w (StrV (numS (numV a-numV b)) w):=by
 obtain ⟨i0,hin,hz0,hz1,hz2⟩:=info_parts infoI64
 obtain ⟨A,hA⟩:∃ A,A=numV a:=⟨_,rfl⟩
 obtain ⟨B,hB⟩:∃ B,B=numV b:=⟨_,rfl⟩
 have HLT:=Hd (show A-B<10 ^ a.size by have h1:=numV_lt ha;omega)
 have HLE:=Hd (show B≤A by omega)
 have DA:=Hd (show ∀ i,digA a i=A / 10 ^ i % 10 from fun i=>by rw [digA_num ha,hA])
 have DB:=Hd (show ∀ i,digA b i=B / 10 ^ i % 10 from fun i=>by rw [digA_num hb,hB])
 have LA:=Hd (digA_le ha)
 have LB:=Hd (digA_le hb)
 have HDA:=Hd ha
 have HDB:=Hd hb
 rw [← hA,← hB]
 clear ha hb hA hB hle
 go_enter Tryz.func85,Tryz.ntmps85
 go_wp2_with (refine wpList_make_full _ rfl _ _ 111 rfl w.heap.size 3 i0 (.int .i64 0) 1 Tryz.underlying111 hin hz0 hz1 .i64 .i64 _ _ (a.size) rfl rfl rfl rfl (by rw [hz2];omega) (by unfold maxLen;omega) (Nat.le_refl _) ?_)
 intro w1 hown hgrow
 have HO:=Hd (show w1.ownsRow w.heap.size 3 1 (.slice (some ⟨w.heap.size,0,none⟩) (a.size) (a.size)) (a.size) ((rowL (a.size) 0 (A-B)).map (Value.int .i64)) by rw [← made_rowL];simpa [Value.cells] using hown)
 have HBW:=Hd (show Below w.heap.size w w1 from Below.grown (Below.refl _ _) hgrow (Nat.le_refl _) (fun j hj=>by cases hj))
 clear hown hgrow
 go_wp2_with fail
 go_simp
 go_loopw [6,7] (fun cv i wr=>∃ k c:Nat,k≤a.size∧i=.int .i64 k∧cv=.int .i64 c∧c≤1∧Hid (c=borA A B (10 ^ k))∧Hid (wr.ownsRow w.heap.size 3 1 (.slice (some ⟨w.heap.size,0,none⟩) (a.size) (a.size)) (a.size) ((rowL (a.size) k (A-B)).map (Value.int .i64)))∧Hid (Below w.heap.size w wr)) (fun _ i _=>a.size-(intOf i).toNat)
 case atStart=>exact ⟨0,0,by omega,rfl,rfl,by omega,Hd (borA_0 A B).symm,HO,HBW⟩
 case round =>
  clear HO HBW
  obtain ⟨w2,rfl⟩:∃ w2,w2=wr:=⟨wr,rfl⟩
  obtain ⟨k,c,hk,rfl,rfl,hc1,HC,HO,HBW⟩:=hrel
  by_cases hlt:k<a.size
  ·obtain ⟨u,hu⟩:∃ u,u=digA a k:=⟨_,rfl⟩
   obtain ⟨v,hv⟩:∃ v,v=digA b k:=⟨_,rfl⟩
   have hu9:u≤9:=hu ▸ LA.out k
   have hv9:v≤9:=hv ▸ LB.out k
   obtain ⟨x,hx⟩:∃ x,x=u+10-v-c:=⟨_,rfl⟩
   obtain ⟨d,hd⟩:∃ d,d=x % 10:=⟨_,rfl⟩
   obtain ⟨t,ht⟩:∃ t,t=x / 10:=⟨_,rfl⟩
   obtain ⟨c2,hc2⟩:∃ c2,c2=1-t:=⟨_,rfl⟩
   have HDG:=Hd (show digJ (A-B) k=(d:Int) by unfold digJ;rw [dif_dig A B _ (pow10_pos k) HLE.out,← DA.out,← DB.out,← HC.out,← hu,← hv,hd,hx])
   have HC2:=Hd (show c2=borA A B (10 ^ (k+1)) by rw [Nat.pow_succ,borA_next A B _ (pow10_pos k),← DA.out,← DB.out,← HC.out,← hu,← hv];split<;>omega)
   have hx1:(u:Int)-(v:Int)-(c:Int)+10=(x:Int):=by omega
   have htm:(x:Int).tmod 10=(d:Int):=by rw [Int.tmod_eq_emod_of_nonneg (by omega)];omega
   have htd:(x:Int).tdiv 10=(t:Int):=by rw [Int.tdiv_eq_ediv_of_nonneg (by omega)];omega
   have ht1:t≤1:=by omega
   have ht2:(1:Int)-(t:Int)=(c2:Int):=by omega
   have hx19:x≤19:=by omega
   have hc21:c2≤1:=by omega
   have HU:=Hd hu
   have HV:=Hd hv
   have hown:=HO.out
   have hc:=hown.cellAt k (by omega)
   have hf:=hown.frozenAt k
   have hst:=Hd (hown.stored k (.int .i64 (d:Int)))
   rw [List.getElem?_map,List.getElem?_eq_getElem (by rw [rowL_len hk];omega),Option.map_some] at hc
   have HN:=Hd (show (w2.setCell ⟨w.heap.size,k,none⟩ (.int .i64 (d:Int))).ownsRow w.heap.size 3 1 (.slice (some ⟨w.heap.size,0,none⟩) (a.size) (a.size)) (a.size) ((rowL (a.size) (k+1) (A-B)).map (Value.int .i64)) by
    have:=hst.out.1
    rw [← rowL_set hlt,HDG.out]
    simpa [List.map_set] using this)
   have HB2:=Hd (show Below w.heap.size w (w2.setCell ⟨w.heap.size,k,none⟩ (.int .i64 (d:Int))) from Below.grown HBW.out hst.out.2 HBW.out.size (fun j hj=>by cases hj;exact Nat.le_refl _))
   clear hown hst hu hv hx hd ht hc2 HO HBW
   go_wp2_with fail
   refine (at_r a k _ HDA.out (by omega) (by omega)).mono ?_
   rintro e w3 ⟨rfl,rfl⟩
   rw [← HU.out]
   go_wp2_with fail
   refine (at_r b k _ HDB.out (by omega) (by omega)).mono ?_
   rintro e w3 ⟨rfl,rfl⟩
   rw [← HV.out]
   go_wp2_with fail
   go_roundw
   case rel=>exact ⟨k+1,c2,by omega,by go_num,rfl,hc21,HC2,HN,HB2⟩
   case measure=>simp [intOf];omega
  ·obtain rfl:k=a.size:=by omega
   have HDL:=Hd (digL_own HO.out (by rcases HO.out.2 with ⟨h,_⟩ | ⟨g,_,cur,h,_,hg,_⟩;cases h;cases h;exact (Array.getElem?_eq_some_iff.1 hg).1))
   go_wp2_with fail
   refine (dtext_r w.heap.size a.size a.size (A-B) _ (by omega) HLT.out HDL.out).mono ?_
   rintro e w3 ⟨rfl,hb⟩
   have HB3:=Hd (belowThen HBW.out hb)
   clear hb
   go_wp2_with fail
   go_ret
   exact ⟨rfl,HB3.out⟩
end Go.Proofs.YtmjfggadehkbjaaGreatDoor
