/- digits.FromInt with digits.reverse: the digits of a number. -/
import Derived.Test.YtniljgkkcnekgaaGreatDoorProg
import Derived.Test.YtniljgkkcnekgaaGreatDoorGA
import Derived.Test.YtniljgkkcnekgaaGreatDoorGB
import Derived.Test.YtniljgkkcnekgaaGreatDoorGD
import Derived.Test.YtniljgkkcnekgaaGreatDoorGC
import Derived.Test.YtniljgkkcnekgaaGreatDoorGZ
namespace Go.Proofs.YtniljgkkcnekgaaGreatDoor
open Go.RowKit
def revAt (l:List Int) (j:Nat):List Int:=(List.range l.length).map fun p=>if p<j∨l.length-j≤p then l.getD (l.length-1-p) 0 else l.getD p 0
theorem revAt_len (l:List Int) (j:Nat):(revAt l j).length=l.length:=by simp [revAt]
theorem revAt_get (l:List Int) (j p:Nat) (h:p<l.length):(revAt l j)[p]?=some (if p<j∨l.length-j≤p then l.getD (l.length-1-p) 0 else l.getD p 0):=by
 unfold revAt
 rw [List.getElem?_map,List.getElem?_range h]
 rfl
theorem revAt_0 (l:List Int):revAt l 0=l:=by
 apply List.ext_getElem?
 intro p
 by_cases h:p<l.length
 ·rw [revAt_get l 0 p h,if_neg (by omega),List.getD_eq_getElem?_getD,List.getElem?_eq_getElem h];rfl
 ·rw [List.getElem?_eq_none (by rw [revAt_len];omega),List.getElem?_eq_none (by omega)]
theorem revAt_full (l:List Int) (j:Nat) (hj:l.length≤2 * j+1):revAt l j=l.reverse:=by
 apply List.ext_getElem?
 intro p
 by_cases h:p<l.length
 ·rw [revAt_get l j p h,List.getElem?_reverse h]
  by_cases h2:p<j∨l.length-j≤p
  ·rw [if_pos h2,List.getD_eq_getElem?_getD,List.getElem?_eq_getElem (by omega)];rfl
  ·rw [if_neg h2,show l.length-1-p=p by omega,List.getD_eq_getElem?_getD,List.getElem?_eq_getElem h];rfl
 ·rw [List.getElem?_eq_none (by rw [revAt_len];omega),List.getElem?_eq_none (by rw [List.length_reverse];omega)]
theorem revAt_set (l:List Int) (j k:Nat) (h:j<k) (hk:k+j+1=l.length):((revAt l j).set j (l.getD k 0)).set k (l.getD j 0)=revAt l (j+1):=by
 apply List.ext_getElem?
 intro p
 by_cases hp:p<l.length
 ·rw [revAt_get l (j+1) p hp]
  by_cases h1:k=p
  ·subst h1
   rw [List.getElem?_set_self (by rw [List.length_set,revAt_len];exact hp),if_pos (by omega),show l.length-1-k=j by omega]
  ·rw [List.getElem?_set_ne h1]
   by_cases h2:j=p
   ·subst h2
    rw [List.getElem?_set_self (by rw [revAt_len];exact hp),if_pos (by omega),show l.length-1-j=k by omega]
   ·rw [List.getElem?_set_ne h2,revAt_get l j p hp]
    by_cases h3:p<j∨l.length-j≤p
    ·rw [if_pos h3,if_pos (by omega)]
    ·rw [if_neg h3,if_neg (by omega)]
 ·rw [List.getElem?_eq_none (by rw [List.length_set,List.length_set,revAt_len];omega),List.getElem?_eq_none (by rw [revAt_len];omega)]
theorem revAt_j (l:List Int) (j k:Nat) (h:j<k) (hk:k+j+1=l.length):(revAt l j)[j]?=some (l.getD j 0)∧(revAt l j)[k]?=some (l.getD k 0):=by
 rw [revAt_get l j j (by omega),revAt_get l j k (by omega),if_neg (by omega),if_neg (by omega)]
 exact ⟨rfl,rfl⟩
def RevR (B n:Nat) (v:Value) (l:List Int) (w:World) (e:Ending) (w':World):Prop:=e=.returned (.tuple #[])∧w'.ownsRow B 5 1 v n (l.reverse.map (Value.int .u8))∧Below B w w'
theorem own_rev {w:World} {B n:Nat} {v:Value} {l l':List Int} (h:w.ownsRow B 5 1 v n (l.map (Value.int .u8))) (e:l=l'):w.ownsRow B 5 1 v n (l'.map (Value.int .u8)):=e ▸ h
set_option maxRecDepth 100000 in
set_option maxHeartbeats 6400000 in
theorem reverse_p (B:Nat) (v:Value) (l:List Int) (w:World) (hl:l.length≤1000) (hown:w.ownsRow B 5 1 v l.length (l.map (Value.int .u8))):Calls Tryz.prog 156 #[v] w (RevR B l.length v l w):=by
 obtain ⟨n,hn⟩:∃ n,l.length=n:=⟨_,rfl⟩
 rw [hn] at hl hown ⊢
 rcases hown.2 with ⟨rfl,h0⟩ | ⟨g,cap,cur,rfl,hg,_⟩
 ·have HO:=Hd hown
  have HL:=Hd (show l.reverse=l by
   have:l=[]:=List.length_eq_zero_iff.1 (by omega)
   rw [this];rfl)
  clear hown hn
  subst h0
  go_enter Tryz.func156,Tryz.ntmps156
  go_wp2_with fail
  go_simp
  go_loop [2,3] (fun i k=>i=.int .i64 0∧k=.int .i64 (-1)) (fun _ _=>0)
  case atStart=>exact ⟨rfl,rfl⟩
  case round =>
   obtain ⟨rfl,rfl⟩:=hrel
   go_wp2_with fail
   go_end0
   exact ⟨rfl,by rw [HL.out];exact HO.out,Below.refl _ _⟩
 ·have HO:=Hd hown
  have HG:=Hd hg
  have HN:=Hd hn
  clear hown hg hn
  go_enter Tryz.func156,Tryz.ntmps156
  go_wp2_with fail
  go_simp
  go_loopw [2,3] (fun i k wr=>∃ (j:Nat) (kk:Int),i=.int .i64 j∧k=.int .i64 kk∧kk+j+1=n∧2 * j≤n∧Hid (wr.ownsRow B 5 1 (.slice (some ⟨g,0,none⟩) n cap) n ((revAt l j).map (Value.int .u8)))∧Hid (Below B w wr)) (fun i _ _=>n-(intOf i).toNat)
  case atStart=>exact ⟨0,(n:Int)-1,rfl,rfl,by omega,by omega,Hd (own_rev HO.out (revAt_0 l).symm),Hd (Below.refl _ _)⟩
  case round =>
   clear HO
   obtain ⟨w1,rfl⟩:∃ w1,w1=wr:=⟨wr,rfl⟩
   obtain ⟨j,kk,rfl,rfl,hkj,hj2,HO,HB⟩:=hrel
   by_cases hlt:(j:Int)<kk
   ·obtain ⟨k,rfl⟩:=Int.eq_ofNat_of_zero_le (show 0≤kk by omega)
    have hjk:j<k:=by omega
    have hkn:k+j+1=n:=by omega
    have HKN:=Hd hkn
    have hcj:w1.cell? ⟨g,j,none⟩=some (.int .u8 (l.getD j 0)):=by
     rw [HO.out.cellAt j (by omega),List.getElem?_map,(revAt_j l j k hjk (by rw [HN.out];exact hkn)).1];rfl
    have hck:w1.cell? ⟨g,k,none⟩=some (.int .u8 (l.getD k 0)):=by
     rw [HO.out.cellAt k (by omega),List.getElem?_map,(revAt_j l j k hjk (by rw [HN.out];exact hkn)).2];rfl
    have hfj:=HO.out.frozenAt j
    have hfk:=HO.out.frozenAt k
    obtain ⟨xj,hxj⟩:∃ xj,l.getD j 0=xj:=⟨_,rfl⟩
    obtain ⟨xk,hxk⟩:∃ xk,l.getD k 0=xk:=⟨_,rfl⟩
    rw [hxj] at hcj
    rw [hxk] at hck
    have HXX:=Hd (show ((revAt l j).set j xk).set k xj=revAt l (j+1) by rw [← hxj,← hxk];exact revAt_set l j k hjk (by rw [HN.out];exact hkn))
    have HO2:=Hd (show ((w1.setCell ⟨g,j,none⟩ (.int .u8 xk)).setCell ⟨g,k,none⟩ (.int .u8 xj)).ownsRow B 5 1 (.slice (some ⟨g,0,none⟩) n cap) n ((revAt l (j+1)).map (Value.int .u8)) by
     rw [← HXX.out,List.map_set,List.map_set]
     exact ((HO.out.stored j (.int .u8 xk)).1.stored k (.int .u8 xj)).1)
    have HB2:=Hd (show Below B w ((w1.setCell ⟨g,j,none⟩ (.int .u8 xk)).setCell ⟨g,k,none⟩ (.int .u8 xj)) from below_set (below_set HB.out HG.out _) HG.out _)
    clear hxj hxk hkn
    go_wp2_with fail
    go_region
    all_goals
     go_wp2_with fail
     go_roundw
     case rel=>exact ⟨j+1,(k:Int)-1,by go_num,by go_num,by omega,by omega,Hd HO2.out,Hd HB2.out.drew⟩
     case measure=>simp [intOf];omega
   ·have HF:=Hd (show revAt l j=l.reverse from revAt_full l j (by rw [HN.out];omega))
    go_wp2_with fail
    go_end0
    exact ⟨rfl,own_rev HO.out HF.out,HB.out⟩
set_option maxRecDepth 100000 in
set_option maxHeartbeats 6400000 in
theorem fromInt_p (n:Nat) (hn:n<1000000000000000000) (w:World):Calls Tryz.prog 135 #[.int .i64 n] w (StrB (fromI n) w):=by
 obtain ⟨i0,hin,hz0,hz1,hz2⟩:=info_parts infoU8
 go_enter Tryz.func135,Tryz.ntmps135
 go_wp2_with fail
 go_simp
 go_loopw [3,0] (fun v t wr=>∃ (m:Nat) (out:List Int),t=.int .i64 m∧m≤n∧Hid (digL n=digL m++out.reverse)∧out.length≤18∧Hid (wr.ownsRow w.heap.size 5 1 v out.length (out.map (Value.int .u8)))∧Hid (Below w.heap.size w wr)) (fun _ t _=>(intOf t).toNat)
 case atStart=>exact ⟨n,[],rfl,Nat.le_refl _,Hd (by simp),by simp,Hd (World.ownsRow_nil _ _ _ _),Hd (Below.refl _ _)⟩
 case round =>
  obtain ⟨w1,rfl⟩:∃ w1,w1=wr:=⟨wr,rfl⟩
  obtain ⟨m,out,rfl,hm,HD,hol,HO,HB⟩:=hrel
  by_cases h0:m=0
  ·subst h0
   have HL:=Hd (show digL n=out.reverse by rw [HD.out,digL_0];rfl)
   clear HD
   go_wp2_with fail
   refine (reverse_p w.heap.size _ out _ (by omega) HO.out).mono ?_
   rintro e w2 ⟨rfl,ho2,hb2⟩
   have HB2:=Hd (HB.out.trans hb2)
   have hconv:=conv_owned ho2 (by simp)
   clear hb2 ho2
   go_wp2_with fail
   go_ret
   exact ⟨by rw [fromI,HL.out];rfl,HB2.out⟩
  ·obtain ⟨d,hd⟩:∃ d,m % 10=d:=⟨_,rfl⟩
   obtain ⟨q,hq⟩:∃ q,m / 10=q:=⟨_,rfl⟩
   have hm10:m=10 * q+d:=by omega
   have hd10:d<10:=by omega
   obtain ⟨c,hc⟩:∃ c:Int,((48+d:Nat):Int)=c:=⟨_,rfl⟩
   have hcd:(48:Int)+(d:Int)=c:=by omega
   have hc0:48≤c:=by omega
   have hc1:c≤57:=by omega
   have HDN:=Hd (show digL n=digL q++(out++[c]).reverse by
    rw [HD.out,digL_step h0,hd,hq,hc]
    simp)
   have hol2:(out++[c]).length≤18:=by
    have h1:=digL_len 18 n hn
    rw [HDN.out] at h1
    simp only [List.length_append,List.length_reverse,List.length_cons,List.length_nil] at h1 ⊢
    omega
   have hol3:out.length≤17:=by simpa using hol2
   have hrem:(m:Int) % 10=d:=by omega
   have hquo:(m:Int) / 10=q:=by omega
   have htm:(m:Int).tmod 10=d:=by rw [Int.tmod_eq_emod_of_nonneg (by omega)];exact hrem
   have htd:(m:Int).tdiv 10=q:=by rw [Int.tdiv_eq_ediv_of_nonneg (by omega)];exact hquo
   have HM10:=Hd hm10
   have hqm:q<m:=by omega
   clear HD hd hq hc hm10
   go_wp2_with (first
    | (at_builtin;refine wpList_append_own _ rfl _ _ 35 rfl w.heap.size 5 i0 (.int .u8 0) 1 1 Tryz.underlying35 hin hz0 hz1 hz2 rfl (by decide) _ _ _ rfl (HO.out.alloc _) ⟨w1.heap.size,0,none⟩ 1 1 [.int .u8 c] rfl rfl (by first | exact cell_one_new _ _ _ | (simpa using cell_one_new _ _ _)) (fun x hx=>by simp at hx;rcases hx with rfl<;>rfl) (by unfold maxLen;omega) (by omega) (by simp only [World.size_alloc];have:=HB.out.size;omega) ?_
       intro v' w3 hown' hgrow3 _
       have HB3:=Hd (show Below w.heap.size w w3 from Below.grown (HB.out.alloc HB.out.size _) hgrow3 (by simp only [World.size_alloc];have:=HB.out.size;omega) (fun j hj=>by have:=(HO.out.lt _ hj).1;omega))
       have HO3:=Hd (own_mapc (l:=[c]) hown' (by rw [List.length_append];rfl))
       clear hown' hgrow3))
   go_roundw
   case rel=>exact ⟨q,out++[c],by go_num,by omega,HDN,hol2,HO3,HB3⟩
   case measure=>simp [intOf];omega
theorem whole_p (n:Nat) (hn:n<1000000000000000000) (w:World):Calls Tryz.prog 114 #[.int .i64 n] w (StrB (wholeS n) w):=by
 by_cases h:n=0
 ·subst h
  go_enter Tryz.func114,Tryz.ntmps114
  go_wp2_with fail
  go_ret
  exact ⟨rfl,Below.refl _ _⟩
 ·have HR:=Hd (show wholeS n=fromI n from if_neg h)
  have n1:((n:Int)==0)=false:=by simp;omega
  clear h
  go_enter Tryz.func114,Tryz.ntmps114
  go_wp2_with fail
  refine (fromInt_p n hn w).mono ?_
  rintro e w1 ⟨rfl,hb1⟩
  have HB:=Hd hb1
  clear hb1
  go_wp2_with fail
  go_ret
  exact ⟨by rw [HR.out];rfl,HB.out⟩
end Go.Proofs.YtniljgkkcnekgaaGreatDoor

/- The reference's FromInt and number. -/
namespace Go.Proofs.YtniljgkkcnekgaaGreatDoor
open Go.RowKit
def numS (k:Int):ByteArray:=if k<0 then ⟨#[45]⟩++fromI (-k).toNat else wholeS k.toNat
theorem fromI_size (n:Nat) (h:n<10 ^ 20):(fromI n).size≤20:=by
 unfold fromI
 rw [strOfNums_size];exact digL_len 20 n h
theorem numS_size (k:Int) (h0:-100000≤k) (h1:k≤100000):(numS k).size≤30:=by
 have a:=fromI_size (-k).toNat (by omega)
 have b:=wholeS_size k.toNat (by omega)
 unfold numS
 split
 ·rw [ByteArray.size_append];simp only [sz_lit,List.size_toArray,List.length_cons,List.length_nil];omega
 ·omega
theorem numS_neg (k:Int) (m:Nat) (S:ByteArray) (h:-k=m) (hm:0<m):S++⟨#[101]⟩++numS k=S++(⟨#[101,45]⟩++wholeS m):=by
 unfold numS wholeS
 rw [if_pos (by omega),if_neg (by omega),show (-k).toNat=m by omega,ByteArray.append_assoc]
 congr 1
theorem numS_pos (k:Int) (m:Nat) (S:ByteArray) (h:k=m):S++⟨#[101]⟩++numS k=S++(⟨#[101]⟩++wholeS m):=by
 unfold numS
 rw [if_neg (by omega),show k.toNat=m by omega,ByteArray.append_assoc]
theorem strN_append (a b:List Int):strOfNums a++strOfNums b=strOfNums (a++b):=by
 apply ba_ext
 rw [ByteArray.data_append,Array.toList_append,strOfNums_data,strOfNums_data,strOfNums_data,List.map_append]
set_option maxRecDepth 100000 in
set_option maxHeartbeats 6400000 in
theorem fromInt_r (n:Nat) (hn:n<1000000000000000000) (w:World):Calls Tryz.prog 35 #[.int .i64 n] w (StrB (fromI n) w):=by
 go_enter Tryz.func35,Tryz.ntmps35
 go_wp2_with fail
 go_simp
 go_loopw [3,0] (fun v t wr=>∃ (m:Nat) (out:List Int) (sv:ByteArray),t=.int .i64 m∧m≤n∧v=.string sv∧sv.size≤18∧Hid (sv=strOfNums out)∧Hid (digL n=digL m++out)∧out.length≤18∧Hid (Below w.heap.size w wr)) (fun _ t _=>(intOf t).toNat)
 case atStart=>exact ⟨n,[],⟨#[]⟩,rfl,Nat.le_refl _,rfl,by simp [szl],Hd rfl,Hd (by simp),by simp,Hd (Below.refl _ _)⟩
 case round =>
  obtain ⟨w1,rfl⟩:∃ w1,w1=wr:=⟨wr,rfl⟩
  obtain ⟨m,out,sv,rfl,hm,rfl,hsv,HSV,HD,hol,HB⟩:=hrel
  by_cases h0:m=0
  ·subst h0
   have HL:=Hd (show digL n=out by rw [HD.out,digL_0];rfl)
   clear HD
   go_wp2_with fail
   go_ret
   exact ⟨by rw [fromI,HL.out,HSV.out];rfl,HB.out⟩
  ·obtain ⟨d,hd⟩:∃ d,m % 10=d:=⟨_,rfl⟩
   obtain ⟨q,hq⟩:∃ q,m / 10=q:=⟨_,rfl⟩
   have hm10:m=10 * q+d:=by omega
   have hd10:d<10:=by omega
   obtain ⟨c,hc⟩:∃ c:Int,((48+d:Nat):Int)=c:=⟨_,rfl⟩
   have hcd:(48:Int)+(d:Int)=c:=by omega
   have hc0:48≤c:=by omega
   have hc1:c≤57:=by omega
   have HDN:=Hd (show digL n=digL q++(c::out) by
    rw [HD.out,digL_step h0,hd,hq,hc]
    simp)
   have hol2:(c::out).length≤18:=by
    have h1:=digL_len 18 n hn
    rw [HDN.out] at h1
    simp only [List.length_append,List.length_cons] at h1 ⊢
    omega
   have hol3:out.length≤17:=by simpa using hol2
   have hsz:sv.size=out.length:=by rw [HSV.out];exact strOfNums_size _
   have HZ:=Hd (show (strOfNums [c]++sv).size=out.length+1 by rw [ByteArray.size_append,strOfNums_size,hsz];simp;omega)
   have HSN:=Hd (show strOfNums [c]++sv=strOfNums (c::out) by rw [HSV.out,strN_append];rfl)
   have hrem:(m:Int) % 10=d:=by omega
   have hquo:(m:Int) / 10=q:=by omega
   have htm:(m:Int).tmod 10=d:=by rw [Int.tmod_eq_emod_of_nonneg (by omega)];exact hrem
   have htd:(m:Int).tdiv 10=q:=by rw [Int.tdiv_eq_ediv_of_nonneg (by omega)];exact hquo
   have hconv:=@conv_one w1 c
   have hcat:(strOfNums [c]).size+sv.size≤9223372036854775807:=by rw [strOfNums_size,hsz];simp;omega
   have HB2:=Hd (show Below w.heap.size w (w1.alloc (.cells #[.int .u8 c] 5)) from HB.out.alloc HB.out.size _)
   have HM10:=Hd hm10
   have hqm:q<m:=by omega
   clear HD hd hq hc hm10 hsz
   go_wp2_with fail
   go_roundw
   case rel=>exact ⟨q,c::out,_,by go_num,by omega,rfl,by rw [HZ.out];omega,HSN,HDN,hol2,HB2⟩
   case measure=>simp [intOf];omega
theorem number_r (k:Int) (h0:-100000≤k) (h1:k≤100000) (w:World):Calls Tryz.prog 61 #[.int .i64 k] w (StrB (numS k) w):=by
 by_cases hn:k<0
 ·obtain ⟨m,hm⟩:∃ m:Nat,-k=m:=⟨(-k).toNat,by omega⟩
  have HR:=Hd (show numS k=⟨#[45]⟩++fromI m by unfold numS;rw [if_pos hn,show (-k).toNat=m by omega])
  have hz:=fromI_size m (by omega)
  have hc:(⟨#[45]⟩:ByteArray).size+(fromI m).size≤9223372036854775807:=by simp only [szl,List.size_toArray,List.length_cons,List.length_nil];omega
  have HM:=Hd hm
  clear hm hz
  go_enter Tryz.func61,Tryz.ntmps61
  go_wp2_with fail
  rw [HM.out]
  refine (fromInt_r m (by have:=HM.out;omega) w).mono ?_
  rintro e w1 ⟨rfl,hb1⟩
  have HB:=Hd hb1
  clear hb1
  go_wp2_with fail
  go_ret
  exact ⟨by rw [HR.out];rfl,HB.out⟩
 ·obtain ⟨m,rfl⟩:=Int.eq_ofNat_of_zero_le (show 0≤k by omega)
  by_cases h:m=0
  ·subst h
   go_enter Tryz.func61,Tryz.ntmps61
   go_wp2_with fail
   go_ret
   exact ⟨rfl,Below.refl _ _⟩
  ·have HR:=Hd (show numS (m:Int)=fromI m by unfold numS wholeS;rw [if_neg (by omega),show ((m:Int)).toNat=m by omega,if_neg h])
   have n1:((m:Int)==0)=false:=by simp;omega
   clear h
   go_enter Tryz.func61,Tryz.ntmps61
   go_wp2_with fail
   refine (fromInt_r m (by omega) w).mono ?_
   rintro e w1 ⟨rfl,hb1⟩
   have HB:=Hd hb1
   clear hb1
   go_wp2_with fail
   go_ret
   exact ⟨by rw [HR.out];rfl,HB.out⟩
end Go.Proofs.YtniljgkkcnekgaaGreatDoor

/- The reference's quotation (layer 10): sign, Quoted. -/
namespace Go.Proofs.YtniljgkkcnekgaaGreatDoor
open Go.RowKit
theorem qlen2 {s:ByteArray} {i:Nat} (hs:s.size≤131072):(34::escL ((nums s).take i)).length≤786433:=by
 have h1:=escL_len ((nums s).take i)
 have h2:((nums s).take i).length≤s.size:=by rw [List.length_take,nums_length];omega
 simp only [List.length_cons]
 omega
set_option maxRecDepth 100000 in
set_option maxHeartbeats 12800000 in
theorem sign10_r (c:Int) (h0:0≤c) (h1:c≤255) (w:World):Calls Tryz.prog 36 #[.int .u8 c] w (StrB (strOfNums (escB c)) w):=by
 by_cases hq:c=34∨c=92∨c=8∨c=12∨c=10∨c=13∨c=9
 ·clear h0 h1
  rcases hq with rfl | rfl | rfl | rfl | rfl | rfl | rfl
  all_goals
   go_enter Tryz.func36,Tryz.ntmps36
   go_wp2_with fail
   go_ret
   exact ⟨rfl,Below.refl _ _⟩
 ·have hne:c≠34∧c≠92∧c≠8∧c≠12∧c≠10∧c≠13∧c≠9:=by omega
  clear hq
  by_cases h32:c<32
  ·obtain ⟨m,rfl⟩:=Int.eq_ofNat_of_zero_le h0
   have hm:m<32:=by omega
   have HNE:=Hd hne
   clear h32 h0 h1 hne
   rcases (show m=0∨m=1∨m=2∨m=3∨m=4∨m=5∨m=6∨m=7∨m=8∨m=9∨m=10∨m=11∨m=12∨m=13∨m=14∨m=15∨m=16∨m=17∨m=18∨m=19∨m=20∨m=21∨m=22∨m=23∨m=24∨m=25∨m=26∨m=27∨m=28∨m=29∨m=30∨m=31 by omega) with rfl | rfl | rfl | rfl | rfl | rfl | rfl | rfl | rfl | rfl | rfl | rfl | rfl | rfl | rfl | rfl | rfl | rfl | rfl | rfl | rfl | rfl | rfl | rfl | rfl | rfl | rfl | rfl | rfl | rfl | rfl | rfl
   all_goals first
    | exact absurd rfl HNE.out.2.2.1
    | exact absurd rfl HNE.out.2.2.2.1
    | exact absurd rfl HNE.out.2.2.2.2.1
    | exact absurd rfl HNE.out.2.2.2.2.2.1
    | exact absurd rfl HNE.out.2.2.2.2.2.2
    | (clear HNE hm
       go_enter Tryz.func36,Tryz.ntmps36
       go_wp2_with fail
       go_quiet (fail)
       go_wp2_with fail
       go_ret
       exact ⟨rfl,belowDrewN (Below.refl _ _) _⟩)
  ·obtain ⟨n0,n1,n2,n3,n4,n5,n6⟩:=hne
   have HE:=Hd (show escB c=[c] by unfold escB;rw [if_neg n0,if_neg n1,if_neg n2,if_neg n3,if_neg n4,if_neg n5,if_neg n6,if_neg h32])
   have hconv:=@conv_one w c
   have q0:(c==34)=false:=by simpa using n0
   have q1:(c==92)=false:=by simpa using n1
   have q2:(c==8)=false:=by simpa using n2
   have q3:(c==12)=false:=by simpa using n3
   have q4:(c==10)=false:=by simpa using n4
   have q5:(c==13)=false:=by simpa using n5
   have q6:(c==9)=false:=by simpa using n6
   clear n0 n1 n2 n3 n4 n5 n6
   go_enter Tryz.func36,Tryz.ntmps36
   go_wp2_with fail
   go_ret
   exact ⟨by rw [HE.out];rfl,belowBox _ _⟩
set_option maxRecDepth 100000 in
set_option maxHeartbeats 6400000 in
theorem quoted_r (s:ByteArray) (w:World) (hs:s.size≤131072):Calls Tryz.prog 22 #[.string s] w (StrB (quoteS s) w):=by
 obtain ⟨i0,hin,hz0,hz1,hz2⟩:=info_parts infoU8
 go_enter Tryz.func22,Tryz.ntmps22
 go_wp2_with fail
 go_simp
 go_loopw [3,4] (fun v t wr=>∃ i:Nat,t=.int .i64 i∧i≤s.size∧Hid (QRel s w i v wr)) (fun _ t _=>s.size-(intOf t).toNat)
 case atStart=>exact ⟨0,rfl,by omega,Hd ⟨own_one w _ (Nat.le_refl _),belowBox w _⟩⟩
 case round =>
  obtain ⟨w1,rfl⟩:∃ w1,w1=wr:=⟨wr,rfl⟩
  obtain ⟨i,rfl,hi,hrel⟩:=hrel
  have HO:=Hd hrel.out.1
  have HB:=Hd hrel.out.2
  have hql:=qlen2 (s:=s) (i:=i) hs
  clear hrel
  by_cases hlt:i<s.size
  case neg =>
   have hie:i=s.size:=by omega
   have hnl:(nums s).take i=nums s:=List.take_of_length_le (by rw [nums_length];omega)
   have HN:=Hd hnl
   clear hnl hie
   go_wp2_with (first
    | (at_builtin;refine wpList_append_own _ rfl _ _ 35 rfl w.heap.size 5 i0 (.int .u8 0) 1 1 Tryz.underlying35 hin hz0 hz1 hz2 rfl (by decide) _ _ _ rfl (HO.out.alloc _) ⟨w1.heap.size,0,none⟩ 1 1 [.int .u8 (34)] rfl rfl (cell_one_new _ _ _) (fun x hx=>by simp at hx;rcases hx with rfl<;>rfl) (by unfold maxLen;omega) (by omega) (by simp only [World.size_alloc];have:=HB.out.size;omega) ?_
       intro v' w3 hown' hgrow3 _
       have HB3:=Hd (show Below w.heap.size w w3 from Below.grown (HB.out.alloc HB.out.size _) hgrow3 (by simp only [World.size_alloc];have:=HB.out.size;omega) (fun j hj=>by have:=(HO.out.lt _ hj).1;omega))
       have hconv:=conv_owned (own_mapc (l:=[34]) hown' (by rw [List.length_append];rfl)) rfl
       clear hown' hgrow3))
   go_ret
   exact ⟨by rw [show quoteS s=strOfNums (34::escL ((nums s).take i)++[34]) by rw [HN.out];rfl];rfl,HB3.out⟩
  have hb:=byteI_eq hlt
  have hr:=byteI_range hlt
  go_wp2_with fail
  refine (sign10_r (byteI s i) hr.1 hr.2 w1).mono ?_
  rintro e w2 ⟨rfl,hb2⟩
  have HB2:=Hd (belowThen HB.out hb2)
  have HO2:=Hd (own_then' HO.out hb2)
  have hel:=escB_len (byteI s i)
  have HSZ:=Hd (show (strOfNums (escB (byteI s i))).size=(escB (byteI s i)).length from strOfNums_size _)
  have HCL:=Hd (strCells_nums (escB (byteI s i)) (escB_range hr.1 hr.2))
  clear hb2
  go_wp2_with (first
   | (at_builtin;refine Lib.wpList_append_own_string _ rfl _ _ 35 9 rfl w.heap.size 5 i0 Tryz.underlying35 Tryz.underlying9 hin hz0 hz1 hz2 _ _ _ rfl HO2.out (strOfNums (escB (byteI s i))) rfl (by rw [HSZ.out];unfold maxLen;omega) (by rw [HSZ.out];omega) HB2.out.size ?_
      intro v' w3 hown' hgrow3 _
      rw [HCL.out,HSZ.out] at hown'
      have HB3:=Hd (show Below w.heap.size w w3 from Below.grown HB2.out hgrow3 HB2.out.size (fun j hj=>by have:=(HO2.out.lt _ hj).1;omega))
      have HO3:=Hd hown'
      clear hown' hgrow3))
  go_roundw
  case rel=>exact ⟨i+1,by go_num,by omega,Hd (qnext hlt rfl (l:=escB (byteI s i)) HO3.out rfl HB3.out)⟩
  case measure=>simp [intOf];omega
end Go.Proofs.YtniljgkkcnekgaaGreatDoor
