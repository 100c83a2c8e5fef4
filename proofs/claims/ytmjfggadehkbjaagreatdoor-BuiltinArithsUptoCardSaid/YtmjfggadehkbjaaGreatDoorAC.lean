/- Products of strings of digits: datakitref01.Times, digits.Mul. -/
import Derived.Test.YtmjfggadehkbjaaGreatDoorProg
import Derived.Test.YtmjfggadehkbjaaGreatDoorGA
import Derived.Test.YtmjfggadehkbjaaGreatDoorGB
import Derived.Test.YtmjfggadehkbjaaGreatDoorGC
import Derived.Test.YtmjfggadehkbjaaGreatDoorShelf
import Derived.Test.YtmjfggadehkbjaaGreatDoorGD
import Derived.Test.YtmjfggadehkbjaaGreatDoorXA
import Derived.Test.YtmjfggadehkbjaaGreatDoorXF
import Derived.Test.YtmjfggadehkbjaaGreatDoorXI
import Derived.Test.YtmjfggadehkbjaaGreatDoorAA
import Derived.Test.YtmjfggadehkbjaaGreatDoorAra03
import Derived.Deep.RegionHeld3
import Derived.Below
import Derived.Laws.AppendOwn
import Derived.Deep.Slices
import Derived.Lib.Hide
import Derived.Deep.MidRow
import Derived.WalkKit
import Derived.WalkSpells
import Derived.WalkLawsBesides
import Derived.LoopTactic
import Derived.BigQuiet
import Derived.Deep.QuietTactic
import Derived.Laws.BytesArg
import Derived.OwnWalk
import Derived.Shelf.Strings.Builder1
import Derived.Shelf.Strings.Builder2
import Derived.Shelf.Strings.Trim
import Derived.Shelf.Small.Utf8
import Derived.Shelf.Small.Strs
import Derived.Shelf.Strings.BuilderF
import Derived.Shelf.Strings.BuilderK
import Derived.Shelf.Utf8.RuneCount
import Derived.Shelf.Strings.Builder2Cap
import Derived.Shelf.Strings.Search1
import Derived.Shelf.Strings.Search2
import Derived.Shelf.Strings.Search3
import Derived.Shelf.Strings.Count
import Derived.Shelf.LaysM
import Derived.Shelf.Strings.Shaped
import Derived.Shelf.Strings.Prefix
import Derived.Shelf.Strings.Split
import Derived.Shelf.Strings.SplitShaped
import Derived.Shelf.Unicode.Decode
import Derived.Shelf.Strings.Runes
import Derived.Shelf.Strings.RuneCount
import Derived.Shelf.Strings.AsciiSet
import Derived.Shelf.Strings.Explode
import Derived.Shelf.Bits.Mul64
import Derived.Shelf.Strings.Repeat
import Derived.Shelf.Unicode.DecodeSlow
import Derived.Shelf.Unicode.DecodeAny
import Derived.Shelf.Unicode.DecodeLast
import Derived.Ground.Names2Prog
import Derived.Shelf.Slices.SearchI
import Derived.Deep.AppendLies
import Derived.Lib.Repeat
import Derived.Laws.OwnMore
import Derived.Lib.SliceRun
import Derived.OrdersHeld
import Derived.Laws.CopyOwn
import Derived.Deep.WholeRow
import Derived.Laws.CopyRow
import Derived.Maps.OwnOps
import Derived.Maps.OwnSet
import Derived.Maps.Views
import Derived.Deep.Light
import Derived.Lib.Bytealg
import Derived.StillTailTactics
import Derived.Deep.DeepCutAuto
import Derived.Great.BuildSlice
import Derived.Sort.Walk0
import Derived.Deep.DeepMust
import Derived.Lib.TrimByte
namespace Go.Proofs.YtmjfggadehkbjaaGreatDoor
open Go.RowKit
def vN:List Nat→Nat
 | []=>0
 | x::r=>x+10 * vN r
theorem vN_zero:∀ n,vN (List.replicate n 0)=0
 | 0=>rfl
 | n+1=>by rw [List.replicate_succ];show 0+10 * vN (List.replicate n 0)=0;rw [vN_zero n]
theorem vN_set:∀ (l:List Nat) (j y:Nat) (h:j<l.length),vN (l.set j y)+l[j] * 10 ^ j=vN l+y * 10 ^ j
 | [],_,_,h=>absurd h (Nat.not_lt_zero _)
 | x::r,0,y,_=>by
   rw [List.set_cons_zero,List.getElem_cons_zero,Nat.pow_zero]
   show y+10 * vN r+x * 1=x+10 * vN r+y * 1
   omega
 | x::r,j+1,y,h=>by
   have ih:=vN_set r j y (by simpa using h)
   rw [List.set_cons_succ,List.getElem_cons_succ,Nat.pow_succ]
   show x+10 * vN (r.set j y)+(r[j]'(by simpa using h)) * (10 ^ j * 10)=x+10 * vN r+y * (10 ^ j * 10)
   rw [← Nat.mul_assoc,← Nat.mul_assoc]
   omega
theorem vN_dig:∀ (l:List Nat),(∀ x∈l,x≤9)→∀ (j:Nat) (h:j<l.length),vN l / 10 ^ j % 10=l[j]
 | [],_,_,h=>absurd h (Nat.not_lt_zero _)
 | x::r,h9,0,_=>by
   have:=h9 x (by simp)
   rw [Nat.pow_zero,Nat.div_one,List.getElem_cons_zero]
   show (x+10 * vN r) % 10=x
   omega
 | x::r,h9,j+1,h=>by
   have:=h9 x (by simp)
   have ih:=vN_dig r (fun y hy=>h9 y (by simp [hy])) j (by simpa using h)
   rw [Nat.pow_succ',← Nat.div_div_eq_div_mul,List.getElem_cons_succ,← ih]
   congr 2
   show (x+10 * vN r) / 10=vN r
   omega
theorem made_zeroN (n:Nat):(madeCells (Value.cells (.int .i64 0)) (n * 1)).toList=(List.replicate n 0).map fun d:Nat=>Value.int .i64 (d:Int):=by
 rw [made_rowL n 0]
 unfold rowL
 simp
theorem mul_step {l:List Nat} {p d c c2 z m:Nat} (hp:p<l.length) (hz:l[p]=z) (h:z+m+c=d+10 * c2):vN (l.set p d)+c2 * 10 ^ (p+1)=vN l+c * 10 ^ p+m * 10 ^ p:=by
 have h1:=vN_set l p d hp
 rw [hz] at h1
 rw [Nat.pow_succ,← Nat.mul_assoc]
 generalize 10 ^ p=P at *
 have h2:(z+m+c) * P=(d+10 * c2) * P:=by rw [h]
 simp only [Nat.add_mul] at h2
 have h3:c2 * P * 10=10 * c2 * P:=by rw [Nat.mul_comm (c2 * P),Nat.mul_assoc]
 omega
theorem mod_step (B k:Nat):B % 10 ^ (k+1)=B % 10 ^ k+10 ^ k * (B / 10 ^ k % 10):=by rw [Nat.pow_succ,Nat.mod_mul]
theorem mul_end {A B u i c s:Nat} {l:List Nat} (hB:B<10 ^ s) (hu:u=A / 10 ^ i % 10) (h:vN l+c * 10 ^ (i+(s+1))=(A % 10 ^ i) * B+u * (B % 10 ^ (s+1)) * 10 ^ i):c=0∧vN l=(A % 10 ^ (i+1)) * B:=by
 have hB2:B<10 ^ (s+1):=by rw [Nat.pow_succ];omega
 rw [Nat.mod_eq_of_lt hB2] at h
 have e:(A % 10 ^ i) * B+u * B * 10 ^ i=(A % 10 ^ (i+1)) * B:=by
  rw [mod_step,← hu,Nat.add_mul]
  congr 1
  simp only [Nat.mul_comm,Nat.mul_assoc]
 rw [e] at h
 have h1:A % 10 ^ (i+1)<10 ^ (i+1):=Nat.mod_lt _ (Nat.pow_pos (by decide))
 have h2:(A % 10 ^ (i+1)) * B≤10 ^ (i+1) * 10 ^ s:=Nat.mul_le_mul (Nat.le_of_lt h1) (Nat.le_of_lt hB)
 have h4:0<10 ^ s:=Nat.pow_pos (by decide)
 have h5:(A % 10 ^ (i+1)) * B<10 ^ (i+1) * 10 ^ s:=by
  rcases Nat.eq_zero_or_pos B with h | h
  ·rw [h,Nat.mul_zero];exact Nat.mul_pos (Nat.pow_pos (by decide)) h4
  ·exact Nat.lt_of_lt_of_le (Nat.mul_lt_mul_of_pos_right h1 h) (Nat.mul_le_mul_left _ (Nat.le_of_lt hB))
 rw [← Nat.pow_add,show i+1+s=i+(s+1) by omega] at h5
 rcases Nat.eq_zero_or_pos c with h6 | h6
 ·subst h6
  exact ⟨rfl,by omega⟩
 ·have:=Nat.mul_le_mul_right (10 ^ (i+(s+1))) h6
  omega
theorem digL_list {w:World} {B0 b n c x:Nat} {l:List Nat} (hl:l.length=n) (h9:∀ y∈l,y≤9) (hx:vN l=x) (h:w.ownsRow B0 3 1 (.slice (some ⟨b,0,none⟩) n c) n (l.map fun d:Nat=>Value.int .i64 (d:Int))):DigL w b n x:=by
 refine ⟨?_,fun j hj=>?_⟩
 ·rcases h.2 with ⟨h,_⟩ | ⟨g,_,cur,h,_,hg,_⟩
  ·cases h
  ·cases h
   exact (Array.getElem?_eq_some_iff.1 hg).1
 ·have:=h.cellAt j (by omega)
  rw [this,List.getElem?_map,List.getElem?_eq_getElem (by omega)]
  unfold digJ
  rw [← hx,vN_dig l h9 j (by omega)]
  rfl
theorem drewB' (w:World) {B:Nat}:Below B w w.drew:=⟨rfl,rfl,rfl,Nat.le_refl _,fun _ _=>rfl⟩
theorem own_drewT {w:World} {B n c:Nat} {t:TypeId} {sz:Nat} {xs:List Value} (h:w.ownsRow B t sz (.slice (some ⟨B,0,none⟩) n c) n xs):w.drew.ownsRow B t sz (.slice (some ⟨B,0,none⟩) n c) n xs:=h
def MulV (s:ByteArray) (w:World) (e:Ending) (w':World):Prop:=e=.returned (.tuple #[.string s,.int .i64 0])∧Below w.heap.size w w'
theorem limited_ok (s:ByteArray) (w:World) (hs:s.size≤600):Calls Tryz.prog 117 #[.string s] w (fun e w'=>e=.returned (.tuple #[.string s,.int .i64 0])∧w'=w):=by
 go_enter Tryz.func117,Tryz.ntmps117
 go_wp2_with fail
 go_ret2
 exact ⟨rfl,rfl⟩
theorem numS_small {x n:Nat} (hn:n≤600) (h:x<10 ^ n):(numS x).size≤600:=by
 rcases Nat.eq_zero_or_pos (numS x).size with h0 | h0
 ·omega
 ·have h1:=canon_size (numS_canon x) h0
  rw [numV_numS] at h1
  have h2:10 ^ ((numS x).size-1)<10 ^ n:=by omega
  have h3:=(Nat.pow_lt_pow_iff_right (by decide:1<10)).1 h2
  omega
set_option maxRecDepth 100000 in
set_option maxHeartbeats 6400000 in
theorem times_r (a b:ByteArray) (w:World) (ha:DigS a) (hb:DigS b) (hsa:a.size≤4096) (hsb:b.size≤4096):Calls Tryz.prog 81 #[.string a,.string b] w (StrV (numS (numV a * numV b)) w):=by
 obtain ⟨i0,hin,hz0,hz1,hz2⟩:=info_parts infoI64
 obtain ⟨A,hA⟩:∃ A,A=numV a:=⟨_,rfl⟩
 obtain ⟨B,hB⟩:∃ B,B=numV b:=⟨_,rfl⟩
 have HAL:=Hd (show A<10 ^ a.size by have:=numV_lt ha;omega)
 have HBL:=Hd (show B<10 ^ b.size by have:=numV_lt hb;omega)
 have DA:=Hd (show ∀ i,digA a i=A / 10 ^ i % 10 from fun i=>by rw [digA_num ha,hA])
 have DB:=Hd (show ∀ i,digA b i=B / 10 ^ i % 10 from fun i=>by rw [digA_num hb,hB])
 have LA:=Hd (digA_le ha)
 have LB:=Hd (digA_le hb)
 have HDA:=Hd ha
 have HDB:=Hd hb
 rw [← hA,← hB]
 obtain ⟨n,hn⟩:∃ n,n=a.size+b.size+1:=⟨_,rfl⟩
 have HLT:=Hd (show A * B<10 ^ n by
  have h1:=Nat.mul_lt_mul'' HAL.out HBL.out
  rw [← Nat.pow_add] at h1
  have h2:10 ^ (a.size+b.size)≤10 ^ n:=Nat.pow_le_pow_right (by decide) (by omega)
  omega)
 have hn1:(a.size:Int)+(b.size:Int)+1=(n:Int):=by omega
 have hnb:n≤8193:=by omega
 have HNE:=Hd hn
 clear ha hb hA hB hn
 go_enter Tryz.func81,Tryz.ntmps81
 go_wp2_with (refine wpList_make_full _ rfl _ _ 111 rfl w.heap.size 3 i0 (.int .i64 0) 1 Tryz.underlying111 hin hz0 hz1 .i64 .i64 _ _ n rfl rfl rfl rfl (by rw [hz2];omega) (by unfold maxLen;omega) (Nat.le_refl _) ?_)
 intro w1 hown hgrow
 have HO:=Hd (show w1.ownsRow w.heap.size 3 1 (.slice (some ⟨w.heap.size,0,none⟩) n n) n ((List.replicate n 0).map fun d:Nat=>Value.int .i64 (d:Int)) by rw [← made_zeroN];simpa [Value.cells] using hown)
 have HBW:=Hd (show Below w.heap.size w w1 from Below.grown (Below.refl _ _) hgrow (Nat.le_refl _) (fun j hj=>by cases hj))
 clear hown hgrow
 go_wp2_with fail
 go_simp
 go_loopw [6] (fun iv wr=>∃ (i:Nat) (l:List Nat),i≤a.size∧iv=.int .i64 i∧l.length=n∧Hid (∀ x∈l,x≤9)∧Hid (vN l=(A % 10 ^ i) * B)∧Hid (wr.ownsRow w.heap.size 3 1 (.slice (some ⟨w.heap.size,0,none⟩) n n) n (l.map fun d:Nat=>Value.int .i64 (d:Int)))∧Hid (Below w.heap.size w wr)) (fun iv _=>a.size-(intOf iv).toNat)
 case atStart=>exact ⟨0,List.replicate n 0,by omega,rfl,by simp,Hd (fun x hx=>by rw [(List.mem_replicate.1 hx).2];omega),Hd (by rw [vN_zero,Nat.pow_zero,Nat.mod_one,Nat.zero_mul]),HO,HBW⟩
 case round =>
  clear HO HBW
  obtain ⟨wA,hwA⟩:∃ wA,wA=wr:=⟨wr,rfl⟩
  subst hwA
  obtain ⟨i,l0,hi,rfl,hll0,H90,HV0,HO,HBW⟩:=hrel
  by_cases hilt:i<a.size
  ·obtain ⟨u,hu⟩:∃ u,u=digA a i:=⟨_,rfl⟩
   have hu9:u≤9:=hu ▸ LA.out i
   have HUA:=Hd (show u=A / 10 ^ i % 10 by rw [hu,DA.out])
   have HU:=Hd hu
   clear hu
   go_wp2_with fail
   go_simp
   go_loopw [7,8] (fun cv kv wr=>∃ (k c:Nat) (l:List Nat),k≤b.size+1∧kv=.int .i64 k∧cv=.int .i64 c∧c≤9∧l.length=n∧Hid (∀ x∈l,x≤9)∧Hid (vN l+c * 10 ^ (i+k)=(A % 10 ^ i) * B+u * (B % 10 ^ k) * 10 ^ i)∧Hid (wr.ownsRow w.heap.size 3 1 (.slice (some ⟨w.heap.size,0,none⟩) n n) n (l.map fun d:Nat=>Value.int .i64 (d:Int)))∧Hid (Below w.heap.size w wr)) (fun _ kv _=>b.size+1-(intOf kv).toNat)
   case atStart=>exact ⟨0,0,l0,by omega,rfl,rfl,by omega,hll0,H90,Hd (by rw [HV0.out,Nat.pow_zero,Nat.mod_one];omega),HO,HBW⟩
   case round =>
    clear HO HBW H90 HV0 hll0 l0
    obtain ⟨w2,hw2⟩:∃ w2,w2=wr:=⟨wr,rfl⟩
    subst hw2
    obtain ⟨k,c,l,hk,rfl,rfl,hc9,hll,H9,HV1,HO,HBW⟩:=hrel
    by_cases hklt:k<b.size+1
    ·obtain ⟨v,hv⟩:∃ v,v=digA b k:=⟨_,rfl⟩
     have hv9:v≤9:=hv ▸ LB.out k
     have HVB:=Hd (show v=B / 10 ^ k % 10 by rw [hv,DB.out])
     have HV:=Hd hv
     obtain ⟨p,hp⟩:∃ p,p=i+k:=⟨_,rfl⟩
     have hpn:p<n:=by have:=HNE.out;omega
     obtain ⟨z,hz⟩:∃ z,z=l[p]'(by omega):=⟨_,rfl⟩
     have hz9:z≤9:=hz ▸ H9.out _ (List.getElem_mem _)
     obtain ⟨uv,huv⟩:∃ uv,uv=u * v:=⟨_,rfl⟩
     have huv1:(u:Int) * (v:Int)=(uv:Int):=by rw [huv];rfl
     have huv81:uv≤81:=by rw [huv];exact Nat.mul_le_mul hu9 hv9
     obtain ⟨zuv,hzuv⟩:∃ zuv,zuv=z+uv:=⟨_,rfl⟩
     obtain ⟨x,hx⟩:∃ x,x=zuv+c:=⟨_,rfl⟩
     obtain ⟨d,hd⟩:∃ d,d=x % 10:=⟨_,rfl⟩
     obtain ⟨c2,hc2⟩:∃ c2,c2=x / 10:=⟨_,rfl⟩
     have hx99:x≤99:=by omega
     have hp1:(i:Int)+(k:Int)=(p:Int):=by omega
     have htm:(x:Int).tmod 10=(d:Int):=by rw [Int.tmod_eq_emod_of_nonneg (by omega)];omega
     have htd:(x:Int).tdiv 10=(c2:Int):=by rw [Int.tdiv_eq_ediv_of_nonneg (by omega)];omega
     have hc29:c2≤9:=by omega
     have HS:=Hd (mul_step (l:=l) (p:=p) (by omega) hz.symm (show z+u * v+c=d+10 * c2 by omega))
     have HNV:=Hd (show vN (l.set p d)+c2 * 10 ^ (i+(k+1))=(A % 10 ^ i) * B+u * (B % 10 ^ (k+1)) * 10 ^ i by
      have h1:=HS.out
      have h2:=HV1.out
      rw [hp] at h1
      rw [show i+(k+1)=i+k+1 by omega,mod_step,← HVB.out,Nat.mul_add,Nat.add_mul]
      rw [hp]
      rw [show u * (10 ^ k * v) * 10 ^ i=u * v * 10 ^ (i+k) by rw [Nat.pow_add];simp only [Nat.mul_comm,Nat.mul_left_comm,Nat.mul_assoc]]
      omega)
     have H92:=Hd (show ∀ y∈l.set p d,y≤9 from fun y hy=>by
      rcases List.mem_or_eq_of_mem_set hy with h | h
      ·exact H9.out y h
      ·omega)
     have hown:=HO.out
     have hcell:=hown.cellAt p (by omega)
     have hf:=hown.frozenAt p
     have hst:=Hd (hown.stored p (.int .i64 (d:Int)))
     rw [List.getElem?_map,List.getElem?_eq_getElem (by omega),Option.map_some,← hz] at hcell
     have HN:=Hd (show (w2.setCell ⟨w.heap.size,p,none⟩ (.int .i64 (d:Int))).ownsRow w.heap.size 3 1 (.slice (some ⟨w.heap.size,0,none⟩) n n) n ((l.set p d).map fun d:Nat=>Value.int .i64 (d:Int)) by
      have:=hst.out.1
      rw [List.map_set]
      exact this)
     have HB2:=Hd (show Below w.heap.size w (w2.setCell ⟨w.heap.size,p,none⟩ (.int .i64 (d:Int))) from Below.grown HBW.out hst.out.2 HBW.out.size (fun j hj=>by cases hj;exact Nat.le_refl _))
     have hzuv1:(z:Int)+(uv:Int)=(zuv:Int):=by omega
     have hx1:(zuv:Int)+(c:Int)=(x:Int):=by omega
     have hx2:(c:Int)+(zuv:Int)=(x:Int):=by omega
     have hll2:(l.set p d).length=n:=by rw [List.length_set];exact hll
     have HLL2:=Hd hll2
     clear hown hst hv hp hz huv hzuv hx hd hc2 HO HBW hll hll2 HS H9 HV1
     go_wp2_with fail
     refine wp_region_held_drew (S:=fun u=>u.cell? ⟨w.heap.size,p,none⟩=some (.int .i64 ((z:Nat):Int))) (by kernel_rfl) hcell (fun hHeld=>?_)
     refine' tk 0 (.slice (some ⟨w.heap.size,0,none⟩) n n) rfl rfl (.inl ⟨by rfl,fun q hq=>(by go_simp)⟩) hHeld ?_
     simp only [sq1,sq0]
     refine' tk 1 (.int .i64 ((i:Nat):Int)) rfl rfl (.inl ⟨by rfl,fun q hq=>(by go_simp)⟩) hHeld ?_
     simp only [sq1,sq0]
     refine' tk 2 (.int .i64 ((k:Nat):Int)) rfl rfl (.inl ⟨by rfl,fun q hq=>(by go_simp)⟩) hHeld ?_
     simp only [sq1,sq0]
     refine' tk 3 (.int .i64 ((p:Nat):Int)) rfl rfl (.inl ⟨by rfl,fun q hq=>(by go_simp;all_goals first | omega | (rw [IntKind.wrap_i64];omega) | (rw [if_pos (by omega)];congr;all_goals omega))⟩) hHeld ?_
     simp only [sq1,sq0]
     refine' tk 4 (.pointer (some ⟨w.heap.size,p,none⟩)) rfl rfl (.inl ⟨by rfl,fun q hq=>(by go_simp;all_goals first | omega | (rw [IntKind.wrap_i64];omega) | (rw [if_pos (by omega)];congr;all_goals omega))⟩) hHeld ?_
     simp only [sq1,sq0]
     refine' tk 5 (.int .i64 ((z:Nat):Int)) rfl rfl (.inl ⟨by rfl,fun q hq=>(by have hc:=hq;go_simp)⟩) hHeld ?_
     simp only [sq1,sq0]
     refine' tk 6 (.string a) rfl rfl (.inl ⟨by rfl,fun q hq=>(by go_simp)⟩) hHeld ?_
     simp only [sq1,sq0]
     refine' tk 7 (.int .i64 ((i:Nat):Int)) rfl rfl (.inl ⟨by rfl,fun q hq=>(by go_simp)⟩) hHeld ?_
     simp only [sq1,sq0]
     refine' tk 9 (.string b) rfl rfl (.inl ⟨by rfl,fun q hq=>(by go_simp)⟩) hHeld ?_
     simp only [sq1,sq0]
     refine' tk 10 (.int .i64 ((k:Nat):Int)) rfl rfl (.inl ⟨by rfl,fun q hq=>(by go_simp)⟩) hHeld ?_
     simp only [sq1,sq0]
     refine' tk 14 (.int .i64 ((c:Nat):Int)) rfl rfl (.inl ⟨by rfl,fun q hq=>(by go_simp)⟩) hHeld ?_
     simp only [sq1,sq0]
     refine rd1 8 rfl (fun K hK=>?_)
     rw [if_pos (by rfl)]
     go_simp
     refine (at_r a i _ HDA.out (by omega) (by omega)).mono ?_
     rintro e uC ⟨rfl,rfl⟩
     rw [← HU.out]
     refine hK.out _ _ hHeld (fun hHeld1=>?_)
     clear hK K hHeld
     have hHeld:=hHeld1
     clear hHeld1
     refine rd1 11 rfl (fun K hK=>?_)
     rw [if_pos (by rfl)]
     go_simp
     refine (at_r b k _ HDB.out (by omega) (by omega)).mono ?_
     rintro e uC ⟨rfl,rfl⟩
     rw [← HV.out]
     refine hK.out _ _ hHeld (fun hHeld1=>?_)
     clear hK K hHeld
     have hHeld:=hHeld1
     clear hHeld1
     refine' tk 12 (.int .i64 ((uv:Nat):Int)) rfl rfl (.inl ⟨by rfl,fun q hq=>(by go_simp;all_goals first | omega | (rw [IntKind.wrap_i64];omega) | (rw [if_pos (by omega)];congr;all_goals omega))⟩) hHeld ?_
     simp only [sq1,sq0]
     refine' tk 13 (.int .i64 ((zuv:Nat):Int)) rfl rfl (.inl ⟨by rfl,fun q hq=>(by go_simp;all_goals first | omega | (rw [IntKind.wrap_i64];omega) | (rw [if_pos (by omega)];congr;all_goals omega))⟩) hHeld ?_
     simp only [sq1,sq0]
     refine' tk 15 (.int .i64 ((x:Nat):Int)) rfl rfl (.inl ⟨by rfl,fun q hq=>(by go_simp;all_goals first | omega | (rw [IntKind.wrap_i64];omega) | (rw [if_pos (by omega)];congr;all_goals omega))⟩) hHeld ?_
     simp only [sq1,sq0]
     refine rd1 16 rfl (fun K hK=>?_)
     rw [if_pos (by rfl)]
     go_simp
     refine hK.out _ _ hHeld (fun hHeldx=>?_)
     clear hK K hHeldx hHeld
     refine wpAnyH_done (by kernel_rfl) ?_ _
     go_wp2_with fail
     go_roundw
     case rel=>exact ⟨k+1,c2,l.set p d,by omega,by go_num,rfl,hc29,HLL2.out,H92,HNV,Hd (own_drewT HN.out),Hd (HB2.out.trans (drewB' _))⟩
     case measure=>simp [intOf];omega
    ·obtain rfl:k=b.size+1:=by omega
     have hc0:=mul_end (HBL.out) HUA.out HV1.out
     obtain ⟨rfl,hv2⟩:=hc0
     have HVN:=Hd hv2
     clear hv2 HV1
     go_wp2_with fail
     go_roundw
     case rel=>exact ⟨i+1,l,by omega,by go_num,hll,H9,HVN,HO,HBW⟩
     case measure=>simp [intOf];omega
  ·obtain rfl:i=a.size:=by omega
   have HDL:=Hd (digL_list hll0 H90.out (by rw [HV0.out,Nat.mod_eq_of_lt HAL.out]) HO.out)
   clear HO HV0 H90
   go_wp2_with fail
   refine (dtext_r w.heap.size n n (A * B) _ (by omega) HLT.out HDL.out).mono ?_
   rintro e w3 ⟨rfl,hb⟩
   have HB3:=Hd (belowThen HBW.out hb)
   clear hb
   go_wp2_with fail
   go_ret
   exact ⟨rfl,HB3.out⟩
set_option maxRecDepth 100000 in
set_option maxHeartbeats 6400000 in
theorem mul_d (a b:ByteArray) (w:World) (ca:Canon a) (cb:Canon b) (hsa:a.size≤120) (hsb:b.size≤120):Calls Tryz.prog 65 #[.string a,.string b] w (MulV (numS (numV a * numV b)) w):=by
 have ha:=ca.1
 have hb:=cb.1
 have HCA:=Hd ca.2
 have HCB:=Hd cb.2
 clear ca cb
 obtain ⟨i0,hin,hz0,hz1,hz2⟩:=info_parts infoI64
 obtain ⟨A,hA⟩:∃ A,A=numV a:=⟨_,rfl⟩
 obtain ⟨B,hB⟩:∃ B,B=numV b:=⟨_,rfl⟩
 have HAL:=Hd (show A<10 ^ a.size by have:=numV_lt ha;omega)
 have HBL:=Hd (show B<10 ^ b.size by have:=numV_lt hb;omega)
 have DA:=Hd (show ∀ i,digA a i=A / 10 ^ i % 10 from fun i=>by rw [digA_num ha,hA])
 have DB:=Hd (show ∀ i,digA b i=B / 10 ^ i % 10 from fun i=>by rw [digA_num hb,hB])
 have LA:=Hd (digA_le ha)
 have LB:=Hd (digA_le hb)
 have HDA:=Hd ha
 have HDB:=Hd hb
 rw [← hA,← hB]
 obtain ⟨n,hn⟩:∃ n,n=a.size+b.size+1:=⟨_,rfl⟩
 have HLT:=Hd (show A * B<10 ^ n by
  have h1:=Nat.mul_lt_mul'' HAL.out HBL.out
  rw [← Nat.pow_add] at h1
  have h2:10 ^ (a.size+b.size)≤10 ^ n:=Nat.pow_le_pow_right (by decide) (by omega)
  omega)
 have hn1:(a.size:Int)+(b.size:Int)+1=(n:Int):=by omega
 have hnb:n≤8193:=by omega
 have HNE:=Hd hn
 clear ha hb hA hB hn
 go_enter Tryz.func65,Tryz.ntmps65
 go_wp2_with fail
 refine (dvalid_yes a _ (by omega) HDA.out HCA.out).mono ?_
 rintro e wv ⟨rfl,rfl⟩
 go_wp2_with fail
 refine (dvalid_yes b _ (by omega) HDB.out HCB.out).mono ?_
 rintro e wv ⟨rfl,rfl⟩
 go_wp2_with (refine wpList_make_full _ rfl _ _ 111 rfl w.heap.size 3 i0 (.int .i64 0) 1 Tryz.underlying111 hin hz0 hz1 .i64 .i64 _ _ n rfl rfl rfl rfl (by rw [hz2];omega) (by unfold maxLen;omega) (Nat.le_refl _) ?_)
 intro w1 hown hgrow
 have HO:=Hd (show w1.ownsRow w.heap.size 3 1 (.slice (some ⟨w.heap.size,0,none⟩) n n) n ((List.replicate n 0).map fun d:Nat=>Value.int .i64 (d:Int)) by rw [← made_zeroN];simpa [Value.cells] using hown)
 have HBW:=Hd (show Below w.heap.size w w1 from Below.grown (Below.refl _ _) hgrow (Nat.le_refl _) (fun j hj=>by cases hj))
 clear hown hgrow
 go_wp2_with fail
 go_simp
 go_loopw [27] (fun iv wr=>∃ (i:Nat) (l:List Nat),i≤a.size∧iv=.int .i64 i∧l.length=n∧Hid (∀ x∈l,x≤9)∧Hid (vN l=(A % 10 ^ i) * B)∧Hid (wr.ownsRow w.heap.size 3 1 (.slice (some ⟨w.heap.size,0,none⟩) n n) n (l.map fun d:Nat=>Value.int .i64 (d:Int)))∧Hid (Below w.heap.size w wr)) (fun iv _=>a.size-(intOf iv).toNat)
 case atStart=>exact ⟨0,List.replicate n 0,by omega,rfl,by simp,Hd (fun x hx=>by rw [(List.mem_replicate.1 hx).2];omega),Hd (by rw [vN_zero,Nat.pow_zero,Nat.mod_one,Nat.zero_mul]),HO,HBW⟩
 case round =>
  clear HO HBW
  obtain ⟨wA,hwA⟩:∃ wA,wA=wr:=⟨wr,rfl⟩
  subst hwA
  obtain ⟨i,l0,hi,rfl,hll0,H90,HV0,HO,HBW⟩:=hrel
  by_cases hilt:i<a.size
  ·obtain ⟨u,hu⟩:∃ u,u=digA a i:=⟨_,rfl⟩
   have hu9:u≤9:=hu ▸ LA.out i
   have HUA:=Hd (show u=A / 10 ^ i % 10 by rw [hu,DA.out])
   have HU:=Hd hu
   clear hu
   go_wp2_with fail
   go_simp
   go_loopw [8,33] (fun cv kv wr=>∃ (k c:Nat) (l:List Nat),k≤b.size+1∧kv=.int .i64 k∧cv=.int .i64 c∧c≤9∧l.length=n∧Hid (∀ x∈l,x≤9)∧Hid (vN l+c * 10 ^ (i+k)=(A % 10 ^ i) * B+u * (B % 10 ^ k) * 10 ^ i)∧Hid (wr.ownsRow w.heap.size 3 1 (.slice (some ⟨w.heap.size,0,none⟩) n n) n (l.map fun d:Nat=>Value.int .i64 (d:Int)))∧Hid (Below w.heap.size w wr)) (fun _ kv _=>b.size+1-(intOf kv).toNat)
   case atStart=>exact ⟨0,0,l0,by omega,rfl,rfl,by omega,hll0,H90,Hd (by rw [HV0.out,Nat.pow_zero,Nat.mod_one];omega),HO,HBW⟩
   case round =>
    clear HO HBW H90 HV0 hll0 l0
    obtain ⟨w2,hw2⟩:∃ w2,w2=wr:=⟨wr,rfl⟩
    subst hw2
    obtain ⟨k,c,l,hk,rfl,rfl,hc9,hll,H9,HV1,HO,HBW⟩:=hrel
    by_cases hklt:k<b.size+1
    ·obtain ⟨v,hv⟩:∃ v,v=digA b k:=⟨_,rfl⟩
     have hv9:v≤9:=hv ▸ LB.out k
     have HVB:=Hd (show v=B / 10 ^ k % 10 by rw [hv,DB.out])
     have HV:=Hd hv
     obtain ⟨p,hp⟩:∃ p,p=i+k:=⟨_,rfl⟩
     have hpn:p<n:=by have:=HNE.out;omega
     obtain ⟨z,hz⟩:∃ z,z=l[p]'(by omega):=⟨_,rfl⟩
     have hz9:z≤9:=hz ▸ H9.out _ (List.getElem_mem _)
     obtain ⟨uv,huv⟩:∃ uv,uv=u * v:=⟨_,rfl⟩
     have huv1:(u:Int) * (v:Int)=(uv:Int):=by rw [huv];rfl
     have huv81:uv≤81:=by rw [huv];exact Nat.mul_le_mul hu9 hv9
     obtain ⟨zuv,hzuv⟩:∃ zuv,zuv=z+uv:=⟨_,rfl⟩
     obtain ⟨x,hx⟩:∃ x,x=zuv+c:=⟨_,rfl⟩
     obtain ⟨d,hd⟩:∃ d,d=x % 10:=⟨_,rfl⟩
     obtain ⟨c2,hc2⟩:∃ c2,c2=x / 10:=⟨_,rfl⟩
     have hx99:x≤99:=by omega
     have hp1:(i:Int)+(k:Int)=(p:Int):=by omega
     have htm:(x:Int).tmod 10=(d:Int):=by rw [Int.tmod_eq_emod_of_nonneg (by omega)];omega
     have htd:(x:Int).tdiv 10=(c2:Int):=by rw [Int.tdiv_eq_ediv_of_nonneg (by omega)];omega
     have hc29:c2≤9:=by omega
     have HS:=Hd (mul_step (l:=l) (p:=p) (by omega) hz.symm (show z+u * v+c=d+10 * c2 by omega))
     have HNV:=Hd (show vN (l.set p d)+c2 * 10 ^ (i+(k+1))=(A % 10 ^ i) * B+u * (B % 10 ^ (k+1)) * 10 ^ i by
      have h1:=HS.out
      have h2:=HV1.out
      rw [hp] at h1
      rw [show i+(k+1)=i+k+1 by omega,mod_step,← HVB.out,Nat.mul_add,Nat.add_mul]
      rw [hp]
      rw [show u * (10 ^ k * v) * 10 ^ i=u * v * 10 ^ (i+k) by rw [Nat.pow_add];simp only [Nat.mul_comm,Nat.mul_left_comm,Nat.mul_assoc]]
      omega)
     have H92:=Hd (show ∀ y∈l.set p d,y≤9 from fun y hy=>by
      rcases List.mem_or_eq_of_mem_set hy with h | h
      ·exact H9.out y h
      ·omega)
     have hown:=HO.out
     have hcell:=hown.cellAt p (by omega)
     have hf:=hown.frozenAt p
     have hst:=Hd (hown.stored p (.int .i64 (d:Int)))
     rw [List.getElem?_map,List.getElem?_eq_getElem (by omega),Option.map_some,← hz] at hcell
     have HN:=Hd (show (w2.setCell ⟨w.heap.size,p,none⟩ (.int .i64 (d:Int))).ownsRow w.heap.size 3 1 (.slice (some ⟨w.heap.size,0,none⟩) n n) n ((l.set p d).map fun d:Nat=>Value.int .i64 (d:Int)) by
      have:=hst.out.1
      rw [List.map_set]
      exact this)
     have HB2:=Hd (show Below w.heap.size w (w2.setCell ⟨w.heap.size,p,none⟩ (.int .i64 (d:Int))) from Below.grown HBW.out hst.out.2 HBW.out.size (fun j hj=>by cases hj;exact Nat.le_refl _))
     have hzuv1:(z:Int)+(uv:Int)=(zuv:Int):=by omega
     have hx1:(zuv:Int)+(c:Int)=(x:Int):=by omega
     have hx2:(c:Int)+(zuv:Int)=(x:Int):=by omega
     have hll2:(l.set p d).length=n:=by rw [List.length_set];exact hll
     have HLL2:=Hd hll2
     clear hown hst hv hp hz huv hzuv hx hd hc2 HO HBW hll hll2 HS H9 HV1
     go_wp2_with fail
     refine wp_region_held_drew (S:=fun u=>u.cell? ⟨w.heap.size,p,none⟩=some (.int .i64 ((z:Nat):Int))) (by kernel_rfl) hcell (fun hHeld=>?_)
     refine' tk 0 (.int .i64 ((c:Nat):Int)) rfl rfl (.inl ⟨by rfl,fun q hq=>(by go_simp)⟩) hHeld ?_
     simp only [sq1,sq0]
     refine' tk 1 (.slice (some ⟨w.heap.size,0,none⟩) n n) rfl rfl (.inl ⟨by rfl,fun q hq=>(by go_simp)⟩) hHeld ?_
     simp only [sq1,sq0]
     refine' tk 2 (.int .i64 ((i:Nat):Int)) rfl rfl (.inl ⟨by rfl,fun q hq=>(by go_simp)⟩) hHeld ?_
     simp only [sq1,sq0]
     refine' tk 3 (.int .i64 ((k:Nat):Int)) rfl rfl (.inl ⟨by rfl,fun q hq=>(by go_simp)⟩) hHeld ?_
     simp only [sq1,sq0]
     refine' tk 4 (.int .i64 ((p:Nat):Int)) rfl rfl (.inl ⟨by rfl,fun q hq=>(by go_simp;all_goals first | omega | (rw [IntKind.wrap_i64];omega) | (rw [if_pos (by omega)];congr;all_goals omega))⟩) hHeld ?_
     simp only [sq1,sq0]
     refine' tk 5 (.pointer (some ⟨w.heap.size,p,none⟩)) rfl rfl (.inl ⟨by rfl,fun q hq=>(by go_simp;all_goals first | omega | (rw [IntKind.wrap_i64];omega) | (rw [if_pos (by omega)];congr;all_goals omega))⟩) hHeld ?_
     simp only [sq1,sq0]
     refine' tk 6 (.int .i64 ((z:Nat):Int)) rfl rfl (.inl ⟨by rfl,fun q hq=>(by have hc:=hq;go_simp)⟩) hHeld ?_
     simp only [sq1,sq0]
     refine' tk 7 (.string a) rfl rfl (.inl ⟨by rfl,fun q hq=>(by go_simp)⟩) hHeld ?_
     simp only [sq1,sq0]
     refine' tk 8 (.int .i64 ((i:Nat):Int)) rfl rfl (.inl ⟨by rfl,fun q hq=>(by go_simp)⟩) hHeld ?_
     simp only [sq1,sq0]
     refine' tk 10 (.string b) rfl rfl (.inl ⟨by rfl,fun q hq=>(by go_simp)⟩) hHeld ?_
     simp only [sq1,sq0]
     refine' tk 11 (.int .i64 ((k:Nat):Int)) rfl rfl (.inl ⟨by rfl,fun q hq=>(by go_simp)⟩) hHeld ?_
     simp only [sq1,sq0]
     refine rd1 9 rfl (fun K hK=>?_)
     rw [if_pos (by rfl)]
     go_simp
     refine (at_d a i _ HDA.out (by omega) (by omega)).mono ?_
     rintro e uC ⟨rfl,rfl⟩
     rw [← HU.out]
     refine hK.out _ _ hHeld (fun hHeld1=>?_)
     clear hK K hHeld
     have hHeld:=hHeld1
     clear hHeld1
     refine rd1 12 rfl (fun K hK=>?_)
     rw [if_pos (by rfl)]
     go_simp
     refine (at_d b k _ HDB.out (by omega) (by omega)).mono ?_
     rintro e uC ⟨rfl,rfl⟩
     rw [← HV.out]
     refine hK.out _ _ hHeld (fun hHeld1=>?_)
     clear hK K hHeld
     have hHeld:=hHeld1
     clear hHeld1
     refine' tk 13 (.int .i64 ((uv:Nat):Int)) rfl rfl (.inl ⟨by rfl,fun q hq=>(by go_simp;all_goals first | omega | (rw [IntKind.wrap_i64];omega) | (rw [if_pos (by omega)];congr;all_goals omega))⟩) hHeld ?_
     simp only [sq1,sq0]
     refine' tk 14 (.int .i64 ((zuv:Nat):Int)) rfl rfl (.inl ⟨by rfl,fun q hq=>(by go_simp;all_goals first | omega | (rw [IntKind.wrap_i64];omega) | (rw [if_pos (by omega)];congr;all_goals omega))⟩) hHeld ?_
     simp only [sq1,sq0]
     refine' tk 15 (.int .i64 ((x:Nat):Int)) rfl rfl (.inl ⟨by rfl,fun q hq=>(by go_simp;all_goals first | omega | (rw [IntKind.wrap_i64];omega) | (rw [if_pos (by omega)];congr;all_goals omega))⟩) hHeld ?_
     simp only [sq1,sq0]
     refine rd1 16 rfl (fun K hK=>?_)
     rw [if_pos (by rfl)]
     go_simp
     refine hK.out _ _ hHeld (fun hHeldx=>?_)
     clear hK K hHeldx hHeld
     refine wpAnyH_done (by kernel_rfl) ?_ _
     go_wp2_with fail
     go_roundw
     case rel=>exact ⟨k+1,c2,l.set p d,by omega,by go_num,rfl,hc29,HLL2.out,H92,HNV,Hd (own_drewT HN.out),Hd (HB2.out.trans (drewB' _))⟩
     case measure=>simp [intOf];omega
    ·obtain rfl:k=b.size+1:=by omega
     have hc0:=mul_end (HBL.out) HUA.out HV1.out
     obtain ⟨rfl,hv2⟩:=hc0
     have HVN:=Hd hv2
     clear hv2 HV1
     go_wp2_with fail
     go_roundw
     case rel=>exact ⟨i+1,l,by omega,by go_num,hll,H9,HVN,HO,HBW⟩
     case measure=>simp [intOf];omega
  ·obtain rfl:i=a.size:=by omega
   have HDL:=Hd (digL_list hll0 H90.out (by rw [HV0.out,Nat.mod_eq_of_lt HAL.out]) HO.out)
   clear HO HV0 H90
   go_wp2_with fail
   refine (dtext_d w.heap.size n n (A * B) _ (by omega) HLT.out HDL.out).mono ?_
   rintro e w3 ⟨rfl,hb⟩
   have HB3:=Hd (belowThen HBW.out hb)
   clear hb
   have hs6:(numS (A * B)).size≤600:=numS_small (by have:=HNE.out;omega) HLT.out
   go_wp2_with fail
   refine (limited_ok _ _ hs6).mono ?_
   rintro e w4 ⟨rfl,rfl⟩
   go_wp2_with fail
   go_ret2
   exact ⟨rfl,HB3.out⟩
end Go.Proofs.YtmjfggadehkbjaaGreatDoor

/- Quotients and remainders of strings of digits: decimal.divide, datakitref01.Quo. -/
namespace Go.Proofs.YtmjfggadehkbjaaGreatDoor
open Go.RowKit
theorem numS_le {x n:Nat} (h:x<10 ^ n):(numS x).size≤n:=by
 rcases Nat.eq_zero_or_pos (numS x).size with h0 | h0
 ·omega
 ·have h1:=canon_size (numS_canon x) h0
  rw [numV_numS] at h1
  have h2:10 ^ ((numS x).size-1)<10 ^ n:=by omega
  have h3:=(Nat.pow_lt_pow_iff_right (by decide:1<10)).1 h2
  omega
theorem lenC_num {s t:ByteArray} (hs:Canon s) (ht:Canon t):lenC s t=sgn (numV s) (numV t):=by
 have a1:=numV_lt hs.1
 have a2:=numV_lt ht.1
 unfold lenC
 by_cases h1:s.size<t.size
 ·rw [if_pos h1]
  have h3:=canon_size ht (by omega)
  have h4:10 ^ s.size≤10 ^ (t.size-1):=Nat.pow_le_pow_right (by decide) (by omega)
  rw [sgn_lt (by omega)]
 ·rw [if_neg h1]
  by_cases h2:t.size<s.size
  ·rw [if_pos h2]
   have h3:=canon_size hs (by omega)
   have h4:10 ^ t.size≤10 ^ (s.size-1):=Nat.pow_le_pow_right (by decide) (by omega)
   rw [sgn_gt (by omega)]
  ·rw [if_neg h2]
   have e:s.size=t.size:=by omega
   obtain ⟨q1,q2⟩:=less_dv s.data.toList t.data.toList (allDig_of hs.1) (allDig_of ht.1) e
   obtain ⟨q3,_⟩:=less_dv t.data.toList s.data.toList (allDig_of ht.1) (allDig_of hs.1) e.symm
   rw [Go.Proofs.bytesLess_eq] at q1 q3
   have r1:s.data.toList<t.data.toList↔numV s<numV t:=by simpa [numV] using q1
   have r3:t.data.toList<s.data.toList↔numV t<numV s:=by simpa [numV] using q3
   unfold cmpS sgn
   simp only [r1,r3,Int.ofNat_lt]
def rowF (n i x:Nat):List Int:=digN i x++List.replicate (n-i) 0
theorem rowF_len {n i x:Nat} (h:i≤n):(rowF n i x).length=n:=by unfold rowF;rw [List.length_append,List.length_replicate,digN_len];omega
theorem rowF_full (n x:Nat):rowF n n x=digN n x:=by unfold rowF;rw [Nat.sub_self];exact List.append_nil _
theorem digN_snoc {i Q q:Nat} (hq:q≤9):digN (i+1) (10 * Q+q)=digN i Q++[(q:Int)+48]:=by
 conv=>lhs;unfold digN
 rw [show (10 * Q+q) / 10=Q by omega,show (10 * Q+q) % 10=q by omega]
theorem rowF_set {n i Q q:Nat} (h:i<n) (hq:q≤9):(rowF n i Q).set i ((q:Int)+48)=rowF n (i+1) (10 * Q+q):=by
 unfold rowF
 rw [digN_snoc hq]
 obtain ⟨m,hm⟩:∃ m,n-i=m+1:=⟨n-i-1,by omega⟩
 rw [hm,show n-(i+1)=m by omega,List.set_append_right _ _ (by rw [digN_len];omega),digN_len,Nat.sub_self,List.replicate_succ,List.set_cons_zero,List.append_assoc]
 rfl
theorem made_rowF (n x:Nat):(madeCells (Value.cells (.int .u8 0)) (n * 1)).toList=(rowF n 0 x).map (Value.int .u8):=by
 rw [made_rowD n x]
 unfold rowD rowF digN
 simp
def preV (A n i:Nat):Nat:=A / 10 ^ (n-i)
theorem preV_0 {A n:Nat} (h:A<10 ^ n):preV A n 0=0:=by unfold preV;rw [Nat.sub_zero];exact Nat.div_eq_of_lt h
theorem preV_n (A n:Nat):preV A n n=A:=by unfold preV;rw [Nat.sub_self,Nat.pow_zero,Nat.div_one]
theorem preV_next {A n i:Nat} (h:i<n):preV A n (i+1)=10 * preV A n i+A / 10 ^ (n-1-i) % 10:=by
 unfold preV
 rw [show n-i=(n-1-i)+1 by omega,show n-(i+1)=n-1-i by omega,Nat.pow_succ,← Nat.div_div_eq_div_mul]
 omega
theorem div_next {P B d:Nat} (hB:0<B):(10 * P+d) / B=10 * (P / B)+(10 * (P % B)+d) / B∧(10 * P+d) % B=(10 * (P % B)+d) % B:=by
 have h:=Nat.div_add_mod P B
 have e:10 * P+d=(10 * (P % B)+d)+B * (10 * (P / B)):=by
  rw [show B * (10 * (P / B))=10 * (B * (P / B)) by rw [← Nat.mul_assoc,Nat.mul_comm B 10,Nat.mul_assoc]]
  omega
 rw [e,Nat.add_mul_div_left _ _ hB,Nat.add_mul_mod_self_left]
 omega
theorem extract_dig {a:ByteArray} {i:Nat} (h:i<a.size):(a.extract i (i+1)).data.toList=[a[i]]:=by
 rw [show (a.extract i (i+1)).data.toList=(a.data.toList.drop i).take 1 by simp [ByteArray.extract,ByteArray.copySlice,List.take_drop]]
 rw [List.drop_eq_getElem_cons (show i<a.data.toList.length from h)]
 rfl
theorem strip_next {a:ByteArray} (ha:DigS a) {R i:Nat} (h:i<a.size):stripS (numS R++a.extract i (i+1))=numS (10 * R+numV a / 10 ^ (a.size-1-i) % 10):=by
 have hd:=ha i h
 rw [← byteI_eq h] at hd
 have hl:(numS R++a.extract i (i+1)).data.toList=(numS R).data.toList++[a[i]]:=by rw [ByteArray.data_append,Array.toList_append,extract_dig h]
 have hdig:DigS (numS R++a.extract i (i+1)):=(dig_iff _).2 fun c hc=>by
  rw [hl] at hc
  rcases List.mem_append.1 hc with hc | hc
  ·exact allDig_of (numS_canon R).1 c hc
  ·rw [List.mem_singleton.1 hc]
   omega
 rw [strip_num hdig]
 congr 1
 unfold numV
 rw [hl,dv_snoc,show dv (numS R).data.toList=R from numV_numS R,← show numV a=dv a.data.toList from rfl,← digA_num ha]
 have e:=digA_at ha (i:=a.size-1-i) (by omega)
 rw [show a.size-1-(a.size-1-i)=i by omega,← byteI_eq h] at e
 omega
theorem own_belowT {w w':World} {B n c:Nat} {t:TypeId} {sz:Nat} {xs:List Value} (h:w.ownsRow B t sz (.slice (some ⟨B,0,none⟩) n c) n xs) (hb:Below w.heap.size w w'):w'.ownsRow B t sz (.slice (some ⟨B,0,none⟩) n c) n xs:=by
 refine ⟨h.1,?_⟩
 rcases h.2 with h1 | ⟨g,cap,cur,e,h1,h2,h3⟩
 ·exact .inl h1
 ·exact .inr ⟨g,cap,cur,e,h1,(hb.block g (Array.getElem?_eq_some_iff.1 h2).1).trans h2,h3⟩
def DivV (s t:ByteArray) (w:World) (e:Ending) (w':World):Prop:=e=.returned (.tuple #[.string s,.string t])∧Below w.heap.size w w'
set_option maxRecDepth 100000 in
set_option maxHeartbeats 6400000 in
theorem div_p (a b:ByteArray) (w:World) (ha:DigS a) (hb:Canon b) (hb0:0<b.size) (hsa:a.size≤2048) (hsb:b.size≤2048):Calls Tryz.prog 67 #[.string a,.string b] w (DivV (numS (numV a / numV b)) (numS (numV a % numV b)) w):=by
 obtain ⟨i0,hin,hz0,hz1,hz2⟩:=info_parts infoU8
 have HAV:=Hd (numV_lt ha)
 have HBV:=Hd (numV_lt hb.1)
 have HB0:=Hd (show 0<numV b by have:=canon_size hb hb0;have:0<10 ^ (b.size-1):=Nat.pow_pos (by decide);omega)
 have HDA:=Hd ha
 have HCB:=Hd hb
 have HST0:=Hd (fun R i h=>strip_next (a:=a) ha (R:=R) (i:=i) h)
 obtain ⟨A,hA⟩:∃ A,A=numV a:=⟨_,rfl⟩
 obtain ⟨B,hB⟩:∃ B,B=numV b:=⟨_,rfl⟩
 rw [← hA] at HAV HST0
 rw [← hB] at HBV HB0
 rw [← hA,← hB]
 have HBE:=Hd hB
 have HLT:=Hd (show A / B<10 ^ a.size from Nat.lt_of_le_of_lt (Nat.div_le_self _ _) HAV.out)
 clear ha hb hA hB
 go_enter Tryz.func67,Tryz.ntmps67
 go_wp2_with (refine wpList_make_full _ rfl _ _ 26 rfl w.heap.size 5 i0 (.int .u8 0) 1 Tryz.underlying26 hin hz0 hz1 .i64 .i64 _ _ a.size rfl rfl rfl rfl (by rw [hz2];omega) (by unfold maxLen;omega) (Nat.le_refl _) ?_)
 intro w1 hown hgrow
 have HO:=Hd (show w1.ownsRow w.heap.size 5 1 (.slice (some ⟨w.heap.size,0,none⟩) a.size a.size) a.size ((rowF a.size 0 (preV A a.size 0 / B)).map (Value.int .u8)) by rw [← made_rowF];simpa [Value.cells] using hown)
 have HBW:=Hd (show Below w.heap.size w w1 from Below.grown (Below.refl _ _) hgrow (Nat.le_refl _) (fun j hj=>by cases hj))
 clear hown hgrow
 go_wp2_with fail
 go_simp
 go_loopw [7,15] (fun rv iv wr=>∃ (i:Nat) (rs:ByteArray),i≤a.size∧iv=.int .i64 i∧rv=.string rs∧rs.size≤2048∧Hid (rs=numS (preV A a.size i % B))∧Hid (wr.ownsRow w.heap.size 5 1 (.slice (some ⟨w.heap.size,0,none⟩) a.size a.size) a.size ((rowF a.size i (preV A a.size i / B)).map (Value.int .u8)))∧Hid (Below w.heap.size w wr)) (fun _ iv _=>a.size-(intOf iv).toNat)
 case atStart=>exact ⟨0,⟨#[]⟩,by omega,rfl,rfl,by decide,Hd (by rw [preV_0 HAV.out,Nat.zero_mod,numS_0]),HO,HBW⟩
 case round =>
  clear HO HBW
  obtain ⟨wA,hwA⟩:∃ wA,wA=wr:=⟨wr,rfl⟩
  subst hwA
  obtain ⟨i,rs0,hi,rfl,rfl,hrs,HR,HO,HBW⟩:=hrel
  by_cases hilt:i<a.size
  ·obtain ⟨X,hX⟩:∃ X,X=10 * (preV A a.size i % B)+A / 10 ^ (a.size-1-i) % 10:=⟨_,rfl⟩
   have HST:=Hd (show stripS (rs0++a.extract i (i+1))=numS X by rw [HR.out,HST0.out _ _ hilt,hX])
   have HXB:=Hd (show X<10 * B by have:=Nat.mod_lt (preV A a.size i) HB0.out;omega)
   have HSZ:=Hd (show (rs0++a.extract i (i+1)).size≤4294967296 by rw [ByteArray.size_append,ByteArray.size_extract];omega)
   have HX:=Hd hX
   clear hX
   go_wp2_with (go_at_call 120;refine (Tryz.strings_TrimLeft_one _ 48 (by decide) _).mono ?_;rintro e w3 ⟨rfl,rfl⟩;rw [trimS_eq,HST.out])
   go_loopw [7,9] (fun rv nv wr=>∃ (q:Nat) (rs:ByteArray),q≤9∧nv=.int .u8 ((q:Int)+48)∧rv=.string rs∧rs.size≤2049∧Hid (q * B≤X∧rs=numS (X-q * B))∧Hid (wr.ownsRow w.heap.size 5 1 (.slice (some ⟨w.heap.size,0,none⟩) a.size a.size) a.size ((rowF a.size i (preV A a.size i / B)).map (Value.int .u8)))∧Hid (Below w.heap.size w wr)) (fun _ nv _=>58-(intOf nv).toNat)
   case atStart=>exact ⟨0,numS X,by omega,rfl,rfl,by have:=numS_le (x:=X) (n:=b.size+1) (by rw [Nat.pow_succ];have:=HXB.out;have:=HBV.out;omega);omega,Hd (by rw [Nat.zero_mul];exact ⟨Nat.zero_le _,rfl⟩),HO,HBW⟩
   case round =>
    clear HO HBW HR HST HSZ hrs
    obtain ⟨w2,hw2⟩:∃ w2,w2=wr:=⟨wr,rfl⟩
    subst hw2
    obtain ⟨q,rs,hq,rfl,rfl,hrs,HY,HO,HBW⟩:=hrel
    obtain ⟨Y,hYe⟩:∃ Y,Y=X-q * B:=⟨_,rfl⟩
    have HRS:=Hd (show rs=numS Y by rw [HY.out.2,hYe])
    have HC:=Hd (show lenC rs b=sgn Y B by rw [HRS.out,lenC_num (numS_canon _) HCB.out,numV_numS,← HBE.out])
    have HYE:=Hd hYe
    obtain ⟨s,hs⟩:∃ s,s=lenC rs b:=⟨_,rfl⟩
    have HS:=Hd hs
    have HCD:=Hd (show Canon rs by rw [HRS.out];exact numS_canon _)
    have HRV:=Hd (show numV rs=Y by rw [HRS.out,numV_numS])
    clear hs hYe
    by_cases hge:B≤Y
    ·have hs0:0≤s:=by rw [HS.out,HC.out];unfold sgn;rw [if_neg (by omega)];split<;>omega
     have hq8:q≤8:=by
      rcases Nat.lt_or_ge 8 q with h | h
      ·have h1:=Nat.mul_le_mul_right B h
       have h2:=HXB.out
       have h3:=HYE.out
       have h4:=HY.out.1
       omega
      ·exact h
     have HQB:=Hd (show (q+1) * B≤X∧numS (Y-B)=numS (X-(q+1) * B) by
      have h3:=HYE.out
      have h4:=HY.out.1
      rw [Nat.add_mul,Nat.one_mul]
      exact ⟨by omega,by congr 1;omega⟩)
     have hr2:(numS (Y-B)).size≤2049:=by
      have h3:=HYE.out
      have:=numS_le (x:=Y-B) (n:=b.size+1) (by rw [Nat.pow_succ];have:=HXB.out;have:=HBV.out;omega)
      omega
     have HGE:=Hd hge
     clear hge
     go_wp2_with (go_at_call 108;refine (dcmp_p _ _ _).mono ?_;rintro e w3 ⟨rfl,rfl⟩;rw [← HS.out])
     refine (minus_p rs b _ HCD.out.1 HCB.out.1 (by omega) (by omega) (by rw [HRV.out,← HBE.out];exact HGE.out)).mono ?_
     rintro e w3 ⟨rfl,hb⟩
     rw [HRV.out,← HBE.out]
     have HB3:=Hd (belowThen HBW.out hb)
     have HO3:=Hd (own_belowT HO.out hb)
     clear hb HO HBW
     go_wp2_with fail
     go_roundw
     case rel=>exact ⟨q+1,numS (Y-B),by omega,by go_num,rfl,hr2,HQB,HO3,HB3⟩
     case measure=>simp [intOf];omega
    ·have hs1:s=-1:=by rw [HS.out,HC.out,sgn_lt (by omega)]
     have HQX:=Hd (show X / B=q∧X % B=Y by
      have h3:=HYE.out
      have h4:=HY.out.1
      have e:X=Y+B * q:=by rw [Nat.mul_comm B q];omega
      rw [e,Nat.add_mul_div_left _ _ HB0.out,Nat.add_mul_mod_self_left,Nat.div_eq_of_lt (by omega),Nat.mod_eq_of_lt (by omega)]
      omega)
     have HNX:=Hd (show preV A a.size (i+1) / B=10 * (preV A a.size i / B)+q∧preV A a.size (i+1) % B=Y by
      rw [preV_next hilt]
      have:=div_next (P:=preV A a.size i) (B:=B) (d:=A / 10 ^ (a.size-1-i) % 10) HB0.out
      rw [← HX.out,HQX.out.1,HQX.out.2] at this
      exact this)
     obtain ⟨y,hy⟩:∃ y:Int,y=(q:Int)+48:=⟨_,rfl⟩
     have hy0:48≤y:=by omega
     have hy1:y≤57:=by omega
     have hy2:(q:Int)+48=y:=by omega
     have hy3:(48:Int)+(q:Int)=y:=by omega
     have HYY:=Hd hy
     have hown:=HO.out
     have hc:=hown.cellAt i (by omega)
     have hf:=hown.frozenAt i
     have hst:=Hd (hown.stored i (.int .u8 y))
     rw [List.getElem?_map,List.getElem?_eq_getElem (by rw [rowF_len hi];exact hilt),Option.map_some] at hc
     have HN:=Hd (show (w2.setCell ⟨w.heap.size,i,none⟩ (.int .u8 y)).ownsRow w.heap.size 5 1 (.slice (some ⟨w.heap.size,0,none⟩) a.size a.size) a.size ((rowF a.size (i+1) (preV A a.size (i+1) / B)).map (Value.int .u8)) by
      have:=hst.out.1
      rw [HNX.out.1,← rowF_set hilt hq,← HYY.out]
      simpa [List.map_set] using this)
     have HB2:=Hd (show Below w.heap.size w (w2.setCell ⟨w.heap.size,i,none⟩ (.int .u8 y)) from Below.grown HBW.out hst.out.2 HBW.out.size (fun j hj=>by cases hj;exact Nat.le_refl _))
     have hrs2:rs.size≤2048:=by
      have:=numS_le (x:=Y) (n:=b.size) (by have:=HBV.out;omega)
      rw [HRS.out]
      omega
     have HRN:=Hd (show rs=numS (preV A a.size (i+1) % B) by rw [HNX.out.2];exact HRS.out)
     clear hown hst hy HO HBW hge HNX
     go_wp2_with (go_at_call 108;refine (dcmp_p _ _ _).mono ?_;rintro e w3 ⟨rfl,rfl⟩;rw [← HS.out])
     go_roundw
     case rel=>exact ⟨i+1,rs,by omega,by go_num,rfl,hrs2,HRN,HN,HB2⟩
     case measure=>simp [intOf];omega
  ·obtain rfl:i=a.size:=by omega
   have HRE:=Hd (show rs0=numS (A % B) by rw [HR.out,preV_n])
   have HCV:=HO.out
   rw [rowF_full,preV_n] at HCV
   have hconv:=conv_owned HCV (by rw [digN_len])
   clear HCV HO HR
   go_wp2_with (go_at_call 120;refine (Tryz.strings_TrimLeft_one _ 48 (by decide) _).mono ?_;rintro e w3 ⟨rfl,rfl⟩;rw [trimS_eq,strip_digN HLT.out])
   go_ret2
   exact ⟨by rw [HRE.out];try rfl,HBW.out⟩
def QuoV (s t:ByteArray) (w:World) (e:Ending) (w':World):Prop:=e=.returned (.tuple #[.string s,.string t,.int .i64 0])∧Below w.heap.size w w'
set_option maxRecDepth 100000 in
set_option maxHeartbeats 6400000 in
theorem quo_r (a b:ByteArray) (w:World) (ha:DigS a) (hb:Canon b) (hb0:0<b.size) (hsa:a.size≤2048) (hsb:b.size≤2048):Calls Tryz.prog 84 #[.string a,.string b] w (QuoV (numS (numV a / numV b)) (numS (numV a % numV b)) w):=by
 obtain ⟨i0,hin,hz0,hz1,hz2⟩:=info_parts infoU8
 have HAV:=Hd (numV_lt ha)
 have HBV:=Hd (numV_lt hb.1)
 have HB0:=Hd (show 0<numV b by have:=canon_size hb hb0;have:0<10 ^ (b.size-1):=Nat.pow_pos (by decide);omega)
 have HDA:=Hd ha
 have HCB:=Hd hb
 have HST0:=Hd (fun R i h=>strip_next (a:=a) ha (R:=R) (i:=i) h)
 obtain ⟨A,hA⟩:∃ A,A=numV a:=⟨_,rfl⟩
 obtain ⟨B,hB⟩:∃ B,B=numV b:=⟨_,rfl⟩
 rw [← hA] at HAV HST0
 rw [← hB] at HBV HB0
 rw [← hA,← hB]
 have HBE:=Hd hB
 have HLT:=Hd (show A / B<10 ^ a.size from Nat.lt_of_le_of_lt (Nat.div_le_self _ _) HAV.out)
 have hbe:b.toList.isEmpty=false:=by rw [List.isEmpty_eq_false_iff];exact ne_toList hb0
 have hbe2:(b.toList==[])=false:=by rw [beq_eq_false_iff_ne];exact ne_toList hb0
 have hbe3:¬ b.toList=[]:=ne_toList hb0
 clear ha hb hA hB
 go_enter Tryz.func84,Tryz.ntmps84
 go_wp2_with (refine wpList_make_full _ rfl _ _ 26 rfl w.heap.size 5 i0 (.int .u8 0) 1 Tryz.underlying26 hin hz0 hz1 .i64 .i64 _ _ a.size rfl rfl rfl rfl (by rw [hz2];omega) (by unfold maxLen;omega) (Nat.le_refl _) ?_)
 intro w1 hown hgrow
 have HO:=Hd (show w1.ownsRow w.heap.size 5 1 (.slice (some ⟨w.heap.size,0,none⟩) a.size a.size) a.size ((rowF a.size 0 (preV A a.size 0 / B)).map (Value.int .u8)) by rw [← made_rowF];simpa [Value.cells] using hown)
 have HBW:=Hd (show Below w.heap.size w w1 from Below.grown (Below.refl _ _) hgrow (Nat.le_refl _) (fun j hj=>by cases hj))
 clear hown hgrow
 clear hbe hbe2 hbe3
 go_wp2_with fail
 go_simp
 go_loopw [8,9] (fun rv iv wr=>∃ (i:Nat) (rs:ByteArray),i≤a.size∧iv=.int .i64 i∧rv=.string rs∧rs.size≤2048∧Hid (rs=numS (preV A a.size i % B))∧Hid (wr.ownsRow w.heap.size 5 1 (.slice (some ⟨w.heap.size,0,none⟩) a.size a.size) a.size ((rowF a.size i (preV A a.size i / B)).map (Value.int .u8)))∧Hid (Below w.heap.size w wr)) (fun _ iv _=>a.size-(intOf iv).toNat)
 case atStart=>exact ⟨0,⟨#[]⟩,by omega,rfl,rfl,by decide,Hd (by rw [preV_0 HAV.out,Nat.zero_mod,numS_0]),HO,HBW⟩
 case round =>
  clear HO HBW
  obtain ⟨wA,hwA⟩:∃ wA,wA=wr:=⟨wr,rfl⟩
  subst hwA
  obtain ⟨i,rs0,hi,rfl,rfl,hrs,HR,HO,HBW⟩:=hrel
  by_cases hilt:i<a.size
  ·obtain ⟨X,hX⟩:∃ X,X=10 * (preV A a.size i % B)+A / 10 ^ (a.size-1-i) % 10:=⟨_,rfl⟩
   have HST:=Hd (show stripS (rs0++a.extract i (i+1))=numS X by rw [HR.out,HST0.out _ _ hilt,hX])
   have HXB:=Hd (show X<10 * B by have:=Nat.mod_lt (preV A a.size i) HB0.out;omega)
   have HSZ:=Hd (show (rs0++a.extract i (i+1)).size≤4294967296 by rw [ByteArray.size_append,ByteArray.size_extract];omega)
   have HX:=Hd hX
   clear hX
   go_wp2_with (go_at_call 133;refine (strip_r _ _ HSZ.out).mono ?_;rintro e w3 ⟨rfl,rfl⟩;rw [HST.out])
   go_loopw [8,10] (fun rv nv wr=>∃ (q:Nat) (rs:ByteArray),q≤9∧nv=.int .i64 q∧rv=.string rs∧rs.size≤2049∧Hid (q * B≤X∧rs=numS (X-q * B))∧Hid (wr.ownsRow w.heap.size 5 1 (.slice (some ⟨w.heap.size,0,none⟩) a.size a.size) a.size ((rowF a.size i (preV A a.size i / B)).map (Value.int .u8)))∧Hid (Below w.heap.size w wr)) (fun _ nv _=>10-(intOf nv).toNat)
   case atStart=>exact ⟨0,numS X,by omega,rfl,rfl,by have:=numS_le (x:=X) (n:=b.size+1) (by rw [Nat.pow_succ];have:=HXB.out;have:=HBV.out;omega);omega,Hd (by rw [Nat.zero_mul];exact ⟨Nat.zero_le _,rfl⟩),HO,HBW⟩
   case round =>
    clear HO HBW HR HST HSZ hrs
    obtain ⟨w2,hw2⟩:∃ w2,w2=wr:=⟨wr,rfl⟩
    subst hw2
    obtain ⟨q,rs,hq,rfl,rfl,hrs,HY,HO,HBW⟩:=hrel
    obtain ⟨Y,hYe⟩:∃ Y,Y=X-q * B:=⟨_,rfl⟩
    have HRS:=Hd (show rs=numS Y by rw [HY.out.2,hYe])
    have HC:=Hd (show lenC rs b=sgn Y B by rw [HRS.out,lenC_num (numS_canon _) HCB.out,numV_numS,← HBE.out])
    have HYE:=Hd hYe
    obtain ⟨s,hs⟩:∃ s,s=lenC rs b:=⟨_,rfl⟩
    have HS:=Hd hs
    have HCD:=Hd (show Canon rs by rw [HRS.out];exact numS_canon _)
    have HRV:=Hd (show numV rs=Y by rw [HRS.out,numV_numS])
    clear hs hYe
    by_cases hge:B≤Y
    ·have hs0:0≤s:=by rw [HS.out,HC.out];unfold sgn;rw [if_neg (by omega)];split<;>omega
     have hq8:q≤8:=by
      rcases Nat.lt_or_ge 8 q with h | h
      ·have h1:=Nat.mul_le_mul_right B h
       have h2:=HXB.out
       have h3:=HYE.out
       have h4:=HY.out.1
       omega
      ·exact h
     have HQB:=Hd (show (q+1) * B≤X∧numS (Y-B)=numS (X-(q+1) * B) by
      have h3:=HYE.out
      have h4:=HY.out.1
      rw [Nat.add_mul,Nat.one_mul]
      exact ⟨by omega,by congr 1;omega⟩)
     have hr2:(numS (Y-B)).size≤2049:=by
      have h3:=HYE.out
      have:=numS_le (x:=Y-B) (n:=b.size+1) (by rw [Nat.pow_succ];have:=HXB.out;have:=HBV.out;omega)
      omega
     have HGE:=Hd hge
     clear hge
     go_wp2_with (go_at_call 129;refine (cmp01_r _ _ _).mono ?_;rintro e w3 ⟨rfl,rfl⟩;rw [← HS.out])
     refine (less_r rs b _ HCD.out.1 HCB.out.1 (by omega) (by omega) (by rw [HRV.out,← HBE.out];exact HGE.out)).mono ?_
     rintro e w3 ⟨rfl,hb⟩
     rw [HRV.out,← HBE.out]
     have HB3:=Hd (belowThen HBW.out hb)
     have HO3:=Hd (own_belowT HO.out hb)
     clear hb HO HBW
     go_wp2_with fail
     go_roundw
     case rel=>exact ⟨q+1,numS (Y-B),by omega,by go_num,rfl,hr2,HQB,HO3,HB3⟩
     case measure=>simp [intOf];omega
    ·have hs1:s=-1:=by rw [HS.out,HC.out,sgn_lt (by omega)]
     have HQX:=Hd (show X / B=q∧X % B=Y by
      have h3:=HYE.out
      have h4:=HY.out.1
      have e:X=Y+B * q:=by rw [Nat.mul_comm B q];omega
      rw [e,Nat.add_mul_div_left _ _ HB0.out,Nat.add_mul_mod_self_left,Nat.div_eq_of_lt (by omega),Nat.mod_eq_of_lt (by omega)]
      omega)
     have HNX:=Hd (show preV A a.size (i+1) / B=10 * (preV A a.size i / B)+q∧preV A a.size (i+1) % B=Y by
      rw [preV_next hilt]
      have:=div_next (P:=preV A a.size i) (B:=B) (d:=A / 10 ^ (a.size-1-i) % 10) HB0.out
      rw [← HX.out,HQX.out.1,HQX.out.2] at this
      exact this)
     obtain ⟨y,hy⟩:∃ y:Int,y=(q:Int)+48:=⟨_,rfl⟩
     have hy0:48≤y:=by omega
     have hy1:y≤57:=by omega
     have hy2:(q:Int)+48=y:=by omega
     have hy3:(48:Int)+(q:Int)=y:=by omega
     have HYY:=Hd hy
     have hown:=HO.out
     have hc:=hown.cellAt i (by omega)
     have hf:=hown.frozenAt i
     have hst:=Hd (hown.stored i (.int .u8 y))
     rw [List.getElem?_map,List.getElem?_eq_getElem (by rw [rowF_len hi];exact hilt),Option.map_some] at hc
     have HN:=Hd (show (w2.setCell ⟨w.heap.size,i,none⟩ (.int .u8 y)).ownsRow w.heap.size 5 1 (.slice (some ⟨w.heap.size,0,none⟩) a.size a.size) a.size ((rowF a.size (i+1) (preV A a.size (i+1) / B)).map (Value.int .u8)) by
      have:=hst.out.1
      rw [HNX.out.1,← rowF_set hilt hq,← HYY.out]
      simpa [List.map_set] using this)
     have HB2:=Hd (show Below w.heap.size w (w2.setCell ⟨w.heap.size,i,none⟩ (.int .u8 y)) from Below.grown HBW.out hst.out.2 HBW.out.size (fun j hj=>by cases hj;exact Nat.le_refl _))
     have hrs2:rs.size≤2048:=by
      have:=numS_le (x:=Y) (n:=b.size) (by have:=HBV.out;omega)
      rw [HRS.out]
      omega
     have HRN:=Hd (show rs=numS (preV A a.size (i+1) % B) by rw [HNX.out.2];exact HRS.out)
     clear hown hst hy HO HBW hge HNX
     go_wp2_with (go_at_call 129;refine (cmp01_r _ _ _).mono ?_;rintro e w3 ⟨rfl,rfl⟩;rw [← HS.out])
     go_roundw
     case rel=>exact ⟨i+1,rs,by omega,by go_num,rfl,hrs2,HRN,HN,HB2⟩
     case measure=>simp [intOf];omega
  ·obtain rfl:i=a.size:=by omega
   have HRE:=Hd (show rs0=numS (A % B) by rw [HR.out,preV_n])
   have HCV:=HO.out
   rw [rowF_full,preV_n] at HCV
   have hconv:=conv_owned HCV (by rw [digN_len])
   clear HCV HO HR
   go_wp2_with (go_at_call 133;refine (strip_r _ _ (by rw [strOfNums_size,digN_len];omega)).mono ?_;rintro e w3 ⟨rfl,rfl⟩;rw [strip_digN HLT.out])
   refine bodyPost_ret (results_tmp3' rfl _ _ _) rfl ?_
   exact ⟨by rw [HRE.out];try rfl,HBW.out⟩
end Go.Proofs.YtmjfggadehkbjaaGreatDoor
