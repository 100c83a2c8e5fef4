/- Comparisons of numbers, strings and digits: the program's and the reference's small functions. -/
import Derived.Test.YtagkjofpncpcpaaGreatDoorProg
import Derived.Test.YtagkjofpncpcpaaGreatDoorGA
import Derived.Test.YtagkjofpncpcpaaGreatDoorGB
import Derived.Test.YtagkjofpncpcpaaGreatDoorShelf
import Derived.Test.YtagkjofpncpcpaaGreatDoorRow36
import Derived.Test.YtagkjofpncpcpaaGreatDoorGF
import Derived.Test.YtagkjofpncpcpaaGreatDoorGH
import Derived.Test.YtagkjofpncpcpaaGreatDoorChkq
import Derived.Test.YtagkjofpncpcpaaGreatDoorXA
import Derived.StillTailTactics
import Derived.Deep.DeepCutAuto
import Derived.Great.BuildSlice
import Derived.Sort.Walk0
import Derived.Deep.DeepMust
namespace Go.Proofs.YtagkjofpncpcpaaGreatDoor
open Go.RowKit
def IntE (k:Int) (w:World) (e:Ending) (w':World):Prop:=e=.returned (.int .i64 k)∧w'=w
theorem sgn_lt {a b:Int} (h:a<b):sgn a b=-1:=by unfold sgn;rw [if_pos h]
theorem sgn_gt {a b:Int} (h:b<a):sgn a b=1:=by unfold sgn;rw [if_neg (by omega),if_pos h]
theorem nan_i (x:Int) (w:World):Calls Tryz.prog 267 #[.int .i64 x] w (fun e w'=>e=.returned (.bool false)∧w'=w):=by
 have h:(x != x)=false:=by simp
 go_enter Tryz.func267,Tryz.ntmps267
 go_wp2_with fail
 go_ret
 exact ⟨rfl,rfl⟩
theorem nan_b (x:Int) (w:World):Calls Tryz.prog 293 #[.int .u8 x] w (fun e w'=>e=.returned (.bool false)∧w'=w):=by
 have h:(x != x)=false:=by simp
 go_enter Tryz.func293,Tryz.ntmps293
 go_wp2_with fail
 go_ret
 exact ⟨rfl,rfl⟩
theorem cmp_i (a b:Int) (w:World):Calls Tryz.prog 208 #[.int .i64 a,.int .i64 b] w (IntE (sgn a b) w):=by
 by_cases h1:a<b
 ·have HS:=Hd (sgn_lt h1)
  go_enter Tryz.func208,Tryz.ntmps208
  go_wp2_with (go_at_call 267;refine (nan_i _ _).mono ?_;rintro e w1 ⟨rfl,rfl⟩)
  go_ret
  exact ⟨by rw [HS.out];rfl,rfl⟩
 ·by_cases h2:b<a
  ·have HS:=Hd (sgn_gt h2)
   go_enter Tryz.func208,Tryz.ntmps208
   go_wp2_with (go_at_call 267;refine (nan_i _ _).mono ?_;rintro e w1 ⟨rfl,rfl⟩)
   go_ret
   exact ⟨by rw [HS.out];rfl,rfl⟩
  ·obtain rfl:a=b:=by omega
   have HS:=Hd (sgn_self a)
   clear h1 h2
   go_enter Tryz.func208,Tryz.ntmps208
   go_wp2_with (go_at_call 267;refine (nan_i _ _).mono ?_;rintro e w1 ⟨rfl,rfl⟩)
   go_ret
   exact ⟨by rw [HS.out];rfl,rfl⟩
theorem cmp_b (a b:Int) (w:World):Calls Tryz.prog 270 #[.int .u8 a,.int .u8 b] w (IntE (sgn a b) w):=by
 by_cases h1:a<b
 ·have HS:=Hd (sgn_lt h1)
  go_enter Tryz.func270,Tryz.ntmps270
  go_wp2_with (go_at_call 293;refine (nan_b _ _).mono ?_;rintro e w1 ⟨rfl,rfl⟩)
  go_ret
  exact ⟨by rw [HS.out];rfl,rfl⟩
 ·by_cases h2:b<a
  ·have HS:=Hd (sgn_gt h2)
   go_enter Tryz.func270,Tryz.ntmps270
   go_wp2_with (go_at_call 293;refine (nan_b _ _).mono ?_;rintro e w1 ⟨rfl,rfl⟩)
   go_ret
   exact ⟨by rw [HS.out];rfl,rfl⟩
  ·obtain rfl:a=b:=by omega
   have HS:=Hd (sgn_self a)
   clear h1 h2
   go_enter Tryz.func270,Tryz.ntmps270
   go_wp2_with (go_at_call 293;refine (nan_b _ _).mono ?_;rintro e w1 ⟨rfl,rfl⟩)
   go_ret
   exact ⟨by rw [HS.out];rfl,rfl⟩
theorem flag_p (b:Bool) (w:World):Calls Tryz.prog 209 #[.bool b] w (IntE (bI b) w):=by
 cases b with
 | true =>
   go_enter Tryz.func209,Tryz.ntmps209
   go_wp2_with fail
   go_ret
   exact ⟨rfl,rfl⟩
 | false =>
   go_enter Tryz.func209,Tryz.ntmps209
   go_wp2_with fail
   go_ret
   exact ⟨rfl,rfl⟩
theorem truth_r (b:Bool) (w:World):Calls Tryz.prog 26 #[.bool b] w (IntE (bI b) w):=by
 cases b with
 | true =>
   go_enter Tryz.func26,Tryz.ntmps26
   go_wp2_with fail
   go_ret
   exact ⟨rfl,rfl⟩
 | false =>
   go_enter Tryz.func26,Tryz.ntmps26
   go_wp2_with fail
   go_ret
   exact ⟨rfl,rfl⟩
theorem sign_r (a:Int) (w:World):Calls Tryz.prog 25 #[.int .i64 a] w (IntE (sgn a 0) w):=by
 by_cases h1:a<0
 ·have HS:=Hd (sgn_lt h1)
  go_enter Tryz.func25,Tryz.ntmps25
  go_wp2_with fail
  go_ret
  exact ⟨by rw [HS.out];rfl,rfl⟩
 ·by_cases h2:0<a
  ·have HS:=Hd (sgn_gt h2)
   go_enter Tryz.func25,Tryz.ntmps25
   go_wp2_with fail
   go_ret
   exact ⟨by rw [HS.out];rfl,rfl⟩
  ·obtain rfl:a=0:=by omega
   have HS:=Hd (sgn_self 0)
   clear h1 h2
   go_enter Tryz.func25,Tryz.ntmps25
   go_wp2_with fail
   go_ret
   exact ⟨by rw [HS.out];rfl,rfl⟩
theorem sign5_r (a b:Int) (w:World):Calls Tryz.prog 92 #[.int .i64 a,.int .i64 b] w (IntE (sgn a b) w):=by
 by_cases h1:a<b
 ·have HS:=Hd (sgn_lt h1)
  go_enter Tryz.func92,Tryz.ntmps92
  go_wp2_with fail
  go_ret
  exact ⟨by rw [HS.out];rfl,rfl⟩
 ·by_cases h2:b<a
  ·have HS:=Hd (sgn_gt h2)
   go_enter Tryz.func92,Tryz.ntmps92
   go_wp2_with fail
   go_ret
   exact ⟨by rw [HS.out];rfl,rfl⟩
  ·obtain rfl:a=b:=by omega
   have HS:=Hd (sgn_self a)
   clear h1 h2
   go_enter Tryz.func92,Tryz.ntmps92
   go_wp2_with fail
   go_ret
   exact ⟨by rw [HS.out];rfl,rfl⟩
theorem less_yes {a b:ByteArray} (h:a.data.toList<b.data.toList):Op.bytesLess a.toList b.toList=true:=by
 rw [Go.Proofs.bytesLess_eq,ByteArray.toList_eq,ByteArray.toList_eq]
 exact decide_eq_true h
theorem less_no {a b:ByteArray} (h:¬ a.data.toList<b.data.toList):Op.bytesLess a.toList b.toList=false:=by
 rw [Go.Proofs.bytesLess_eq,ByteArray.toList_eq,ByteArray.toList_eq]
 exact decide_eq_false h
theorem text_r (a b:ByteArray) (w:World):Calls Tryz.prog 29 #[.string a,.string b] w (IntE (cmpS a b) w):=by
 by_cases h1:a.data.toList<b.data.toList
 ·have HS:=Hd (show cmpS a b=-1 by unfold cmpS;rw [if_pos h1])
  have q1:=less_yes h1
  clear h1
  go_enter Tryz.func29,Tryz.ntmps29
  go_wp2_with fail
  go_ret
  exact ⟨by rw [HS.out];rfl,rfl⟩
 ·have q1:=less_no h1
  by_cases h2:b.data.toList<a.data.toList
  ·have HS:=Hd (show cmpS a b=1 by unfold cmpS;rw [if_neg h1,if_pos h2])
   have q3:(a.toList==b.toList)=false:=by
    rw [ByteArray.toList_eq,ByteArray.toList_eq]
    exact beq_eq_false_iff_ne.2 fun e=>List.lt_irrefl _ (e ▸ h2)
   clear h1 h2
   go_enter Tryz.func29,Tryz.ntmps29
   go_wp2_with fail
   go_ret
   exact ⟨by rw [HS.out];rfl,rfl⟩
  ·have HS:=Hd (show cmpS a b=0 by unfold cmpS;rw [if_neg h1,if_neg h2])
   have q3:(a.toList==b.toList)=true:=by
    rw [ByteArray.toList_eq,ByteArray.toList_eq]
    exact beq_iff_eq.2 (List.le_antisymm (List.not_lt.1 h2) (List.not_lt.1 h1))
   clear h1 h2
   go_enter Tryz.func29,Tryz.ntmps29
   go_wp2_with fail
   go_ret
   exact ⟨by rw [HS.out];rfl,rfl⟩
theorem dcmp_p (a b:ByteArray) (w:World):Calls Tryz.prog 125 #[.string a,.string b] w (IntE (lenC a b) w):=by
 by_cases h1:a.size<b.size
 ·have HS:=Hd (show lenC a b=-1 by unfold lenC;rw [if_pos h1])
  have hn:((a.size:Int) != (b.size:Int))=true:=by simp;omega
  go_enter Tryz.func125,Tryz.ntmps125
  go_wp2_with fail
  go_ret
  exact ⟨by rw [HS.out];rfl,rfl⟩
 ·by_cases h2:b.size<a.size
  ·have HS:=Hd (show lenC a b=1 by unfold lenC;rw [if_neg h1,if_pos h2])
   have hn:((a.size:Int) != (b.size:Int))=true:=by simp;omega
   go_enter Tryz.func125,Tryz.ntmps125
   go_wp2_with fail
   go_ret
   exact ⟨by rw [HS.out];rfl,rfl⟩
  ·have HS:=Hd (show lenC a b=cmpS a b by unfold lenC;rw [if_neg h1,if_neg h2])
   have hn:((a.size:Int) != (b.size:Int))=false:=by simp;omega
   go_enter Tryz.func125,Tryz.ntmps125
   go_wp2_with (go_at_call 186;refine (Tryz.strings_Compare _ _ _).mono ?_;rintro e w1 ⟨rfl,rfl⟩)
   go_ret
   exact ⟨by rw [HS.out,← cmpB_S];rfl,rfl⟩
end Go.Proofs.YtagkjofpncpcpaaGreatDoor

/- Comparisons of numerals (datakitref01.Cmp), of bytes (slices.Compare). -/
namespace Go.Proofs.YtagkjofpncpcpaaGreatDoor
open Go.RowKit
theorem cmp01_r (a b:ByteArray) (w:World):Calls Tryz.prog 151 #[.string a,.string b] w (IntE (lenC a b) w):=by
 by_cases h1:a.size<b.size
 ·have HS:=Hd (show lenC a b=-1 by unfold lenC;rw [if_pos h1])
  go_enter Tryz.func151,Tryz.ntmps151
  go_wp2_with fail
  go_ret
  exact ⟨by rw [HS.out];rfl,rfl⟩
 ·have h1':decide ((a.size:Int)<(b.size:Int))=false:=by simp;omega
  by_cases h2:b.size<a.size
  ·have HS:=Hd (show lenC a b=1 by unfold lenC;rw [if_neg h1,if_pos h2])
   have hn:((a.size:Int)==(b.size:Int))=false:=by simp;omega
   have q3:(a.toList==b.toList)=false:=by
    rw [ByteArray.toList_eq,ByteArray.toList_eq]
    refine beq_eq_false_iff_ne.2 fun e=>?_
    have:=congrArg List.length e
    have e1:a.data.toList.length=a.size:=rfl
    have e2:b.data.toList.length=b.size:=rfl
    omega
   go_enter Tryz.func151,Tryz.ntmps151
   go_wp2_with fail
   go_ret
   exact ⟨by rw [HS.out];rfl,rfl⟩
  ·have hs:a.size=b.size:=by omega
   clear h1'
   by_cases h3:a.data.toList<b.data.toList
   ·have HS:=Hd (show lenC a b=-1 by unfold lenC cmpS;rw [if_neg h1,if_neg h2,if_pos h3])
    have q1:=less_yes h3
    clear h1 h2 h3
    go_enter Tryz.func151,Tryz.ntmps151
    go_wp2_with fail
    go_ret
    exact ⟨by rw [HS.out];rfl,rfl⟩
   ·have q1:=less_no h3
    by_cases h4:b.data.toList<a.data.toList
    ·have HS:=Hd (show lenC a b=1 by unfold lenC cmpS;rw [if_neg h1,if_neg h2,if_neg h3,if_pos h4])
     have q3:(a.toList==b.toList)=false:=by
      rw [ByteArray.toList_eq,ByteArray.toList_eq]
      exact beq_eq_false_iff_ne.2 fun e=>List.lt_irrefl _ (e ▸ h4)
     clear h1 h2 h3 h4
     go_enter Tryz.func151,Tryz.ntmps151
     go_wp2_with fail
     go_ret
     exact ⟨by rw [HS.out];rfl,rfl⟩
    ·have HS:=Hd (show lenC a b=0 by unfold lenC cmpS;rw [if_neg h1,if_neg h2,if_neg h3,if_neg h4])
     have q3:(a.toList==b.toList)=true:=by
      rw [ByteArray.toList_eq,ByteArray.toList_eq]
      exact beq_iff_eq.2 (List.le_antisymm (List.not_lt.1 h4) (List.not_lt.1 h3))
     clear h1 h2 h3 h4
     go_enter Tryz.func151,Tryz.ntmps151
     go_wp2_with fail
     go_ret
     exact ⟨by rw [HS.out];rfl,rfl⟩
end Go.Proofs.YtagkjofpncpcpaaGreatDoor

/- Comparison of bytes (slices.Compare). -/
namespace Go.Proofs.YtagkjofpncpcpaaGreatDoor
open Go.RowKit
theorem BytesAt.cellK {w:World} {B:Nat} {l:List Int} {a:Option Addr} (h:BytesAt w B l a) (hn:l≠[]):∃ b o,a=some ⟨b,o,none⟩∧∀ k (hk:k<l.length),w.cell? ⟨b,o+k,none⟩=some (.int .u8 l[k]):=by
 rcases h with h | ⟨b,o,rfl,_,hc,_⟩
 ·exact absurd h hn
 ·exact ⟨b,o,rfl,fun k hk=>by
   have:=hc k (by rw [List.length_map];exact hk)
   rw [this,List.getElem?_map,List.getElem?_eq_getElem hk]
   rfl⟩
set_option maxRecDepth 100000 in
theorem bytes_p (l m:List Int) (ya yb:Option Addr) (yc yd B:Nat) (w:World) (hl:l.length≤4294967296) (ha:BytesAt w B l ya) (hb:BytesAt w B m yb) :
 Calls Tryz.prog 211 #[.slice ya l.length yc,.slice yb m.length yd] w (IntE (lisC sgn l m) w):=by
 have HA:=Hd ha
 have HB:=Hd hb
 clear ha hb
 go_enter Tryz.func211,Tryz.ntmps211
 go_wp2_with fail
 go_loopw [11] (fun x wr=>∃ k:Nat,x=.int .i64 k∧k≤l.length∧k≤m.length∧wr=w∧lisC sgn l m=lisC sgn (l.drop k) (m.drop k)) (fun x _=>l.length-(intOf x).toNat)
 case atStart=>exact ⟨0,rfl,Nat.zero_le _,Nat.zero_le _,rfl,rfl⟩
 case round =>
  obtain ⟨k,rfl,hkl,hkm,hw,he⟩:=hrel
  subst wr
  have HE:=Hd he
  clear he
  by_cases h1:k<l.length
  ·obtain ⟨b0,o0,rfl,hc0⟩:=HA.out.cellK (by intro h;rw [h] at h1;simp at h1)
   have c0:=hc0 k h1
   obtain ⟨x,hx⟩:∃ x,x=l[k]:=⟨_,rfl⟩
   rw [← hx] at c0
   have HX:=Hd hx
   clear hc0 hx
   by_cases h2:k<m.length
   ·obtain ⟨b1,o1,rfl,hc1⟩:=HB.out.cellK (by intro h;rw [h] at h2;simp at h2)
    have c1:=hc1 k h2
    obtain ⟨y,hy⟩:∃ y,y=m[k]:=⟨_,rfl⟩
    rw [← hy] at c1
    have HY:=Hd hy
    clear hc1 hy
    have HD:=Hd (show lisC sgn l m=if sgn x y=0 then lisC sgn (l.drop (k+1)) (m.drop (k+1)) else sgn x y by rw [HE.out,lisC_drop sgn h1 h2,← HX.out,← HY.out])
    obtain ⟨s,hs⟩:∃ s,s=sgn x y:=⟨_,rfl⟩
    have HS:=Hd hs
    clear hs
    by_cases h3:s=0
    ·have h4:=Hd h3
     have h5:(s != 0)=false:=by simp [h3]
     clear h3
     go_wp2_with (go_at_call 270;refine (cmp_b _ _ _).mono ?_;rintro e w1 ⟨rfl,rfl⟩;rw [← HS.out])
     go_roundw
     case rel=>exact ⟨k+1,by go_num,by omega,by omega,trivial,by rw [HD.out,← HS.out,if_pos h4.out]⟩
     case measure=>simp [intOf];omega
    ·have h4:=Hd h3
     have h5:(s != 0)=true:=by simp [h3]
     clear h3
     go_wp2_with (go_at_call 270;refine (cmp_b _ _ _).mono ?_;rintro e w1 ⟨rfl,rfl⟩;rw [← HS.out])
     go_ret
     exact ⟨by rw [HD.out,← HS.out,if_neg h4.out];rfl,rfl⟩
   ·have HD:=Hd (show lisC sgn l m=1 by rw [HE.out,lisC_end sgn hkl hkm (.inr (by omega)),sgn_gt (by omega)])
    go_wp2_with fail
    go_ret
    exact ⟨by rw [HD.out];rfl,rfl⟩
  ·by_cases h2:l.length<m.length
   ·have HD:=Hd (show lisC sgn l m=-1 by rw [HE.out,lisC_end sgn hkl hkm (.inl (by omega)),sgn_lt (by omega)])
    go_wp2_with fail
    go_ret
    exact ⟨by rw [HD.out];rfl,rfl⟩
   ·have HD:=Hd (show lisC sgn l m=0 by rw [HE.out,lisC_end sgn hkl hkm (.inl (by omega)),sgn_0.2 (by omega)])
    go_wp2_with fail
    go_ret
    exact ⟨by rw [HD.out];rfl,rfl⟩
theorem lisC_bytes:∀ (l m:List Int),(∀ x∈l,0≤x∧x≤255)→(∀ x∈m,0≤x∧x≤255)→lisC sgn l m=Lib.compareBytes (l.map fun n=>UInt8.ofNat n.toNat) (m.map fun n=>UInt8.ofNat n.toNat)
 | [],[],_,_=>rfl
 | [],y::s,_,_=>by
   show sgn 0 ((y::s).length:Int)=-1
   rw [sgn_lt (by rw [List.length_cons];omega)]
 | x::r,[],_,_=>by
   show sgn ((x::r).length:Int) 0=1
   rw [sgn_gt (by rw [List.length_cons];omega)]
 | x::r,y::s,h1,h2=>by
   have hx:=h1 x (List.mem_cons_self ..)
   have hy:=h2 y (List.mem_cons_self ..)
   have ih:=lisC_bytes r s (fun z hz=>h1 z (List.mem_cons_of_mem _ hz)) (fun z hz=>h2 z (List.mem_cons_of_mem _ hz))
   have ex:(UInt8.ofNat x.toNat).toNat=x.toNat:=by simp;omega
   have ey:(UInt8.ofNat y.toNat).toNat=y.toNat:=by simp;omega
   rw [List.map_cons,List.map_cons]
   unfold Lib.compareBytes
   rw [← ih]
   simp only [UInt8.lt_iff_toNat_lt,ex,ey]
   show (if sgn x y=0 then lisC sgn r s else sgn x y)=_
   rcases Int.lt_trichotomy x y with h | h | h
   ·rw [sgn_lt h,if_neg (by decide),if_pos (by omega)]
   ·subst h
    rw [sgn_self,if_pos rfl,if_neg (by omega),if_neg (by omega)]
   ·rw [sgn_gt h,if_neg (by decide),if_neg (by omega),if_pos (by omega)]
end Go.Proofs.YtagkjofpncpcpaaGreatDoor

/- The moment of a time: datakitref05.split, moment; moment.carry, moment. -/
namespace Go.Proofs.YtagkjofpncpcpaaGreatDoor
open Go.RowKit
theorem split_r (d n:Int) (w:World) (hd1:0≤d) (hd2:d≤3652058) (hn1:-86400000000000≤n) (hn2:n≤172800000000000) :
 Calls Tryz.prog 153 #[.int .i64 d,.int .i64 n] w (fun e w'=>e=.returned (.tuple #[.int .i64 (d+n / 86400000000000),.int .i64 (n % 86400000000000)])∧w'=w):=by
 go_enter Tryz.func153,Tryz.ntmps153
 go_wp2_with fail
 go_loopw [0,1] (fun x y wr=>∃ p q:Int,x=.int .i64 p∧y=.int .i64 q∧-86400000000000≤q∧q≤172800000000000∧p+q / 86400000000000=d+n / 86400000000000∧q % 86400000000000=n % 86400000000000∧wr=w) (fun _ y _=>(172800000000000-intOf y).toNat)
 case atStart=>exact ⟨d,n,rfl,rfl,hn1,hn2,rfl,rfl,rfl⟩
 case round =>
  obtain ⟨p,q,rfl,rfl,h1,h2,h3,h4,hw⟩:=hrel
  subst wr
  have hp1:-10≤p:=by omega
  have hp2:p≤3652070:=by omega
  have H3:=Hd h3
  have H4:=Hd h4
  clear h3 h4
  by_cases hq:q<0
  ·go_wp2_with fail
   go_roundw
   case rel=>exact ⟨p-1,q+86400000000000,by first | rfl | go_num,by first | rfl | go_num,by omega,by omega,by have:=H3.out;omega,by have:=H4.out;omega,by first | rfl | trivial⟩
   case measure=>simp [intOf];omega
  ·go_wp2_with fail
   go_loopw [0,1] (fun x y wr=>∃ p q:Int,x=.int .i64 p∧y=.int .i64 q∧0≤q∧q≤172800000000000∧p+q / 86400000000000=d+n / 86400000000000∧q % 86400000000000=n % 86400000000000∧wr=w) (fun _ y _=>(intOf y).toNat)
   case atStart=>exact ⟨p,q,rfl,rfl,by omega,h2,H3.out,H4.out,rfl⟩
   case round =>
    obtain ⟨p,q,rfl,rfl,h1,h2,h3,h4,hw⟩:=hrel
    subst wr
    have hp1:-10≤p:=by omega
    have hp2:p≤3652070:=by omega
    have H3:=Hd h3
    have H4:=Hd h4
    clear h3 h4
    by_cases hq:86400000000000≤q
    ·go_wp2_with fail
     go_roundw
     case rel=>exact ⟨p+1,q-86400000000000,by first | rfl | go_num,by first | rfl | go_num,by omega,by omega,by have:=H3.out;omega,by have:=H4.out;omega,by first | rfl | trivial⟩
     case measure=>simp [intOf];omega
    ·go_wp2_with fail
     go_ret2
     exact ⟨by rw [← H3.out,← H4.out,show q / 86400000000000=0 by omega,show q % 86400000000000=q by omega,Int.add_zero];rfl,rfl⟩
theorem nano_rng {t:TimeD} (h:vtimeB t=true):(0≤t.day∧t.day≤3652058)∧(-86400000000000≤t.nano-t.offset * 60000000000∧t.nano-t.offset * 60000000000≤172800000000000)∧(0≤t.nano∧t.nano≤86399999999999)∧(-1439≤t.offset∧t.offset≤1439):=by
 obtain ⟨_,_,h3,h4,h5,h6,h7,h8,_⟩:=(vtimeB_iff t).1 h
 refine ⟨⟨h3,h4⟩,⟨by omega,by omega⟩,⟨h5,h6⟩,h7,h8⟩
theorem moment5_r (t:TimeD) (w:World) (h:vtimeB t=true) :
 Calls Tryz.prog 91 #[.agg #[.int .i64 t.kind,.int .i64 t.day,.int .i64 t.nano,.int .i64 t.offset]] w (fun e w'=>e=.returned (.tuple #[.int .i64 (dayT t),.int .i64 (nanT t)])∧Below w.heap.size w w'):=by
 obtain ⟨⟨a1,a2⟩,⟨a3,a4⟩,⟨a5,a6⟩,a7,a8⟩:=nano_rng h
 have HB:=Hd (belowBox w (.cells #[.int .i64 t.kind,.int .i64 t.day,.int .i64 t.nano,.int .i64 t.offset] 26))
 obtain ⟨s,hs⟩:∃ s,s=t.offset * 60000000000:=⟨_,rfl⟩
 have HS:=Hd hs
 rw [← hs] at a3 a4
 have b1:-86340000000000≤s:=by omega
 have b2:s≤86340000000000:=by omega
 clear h hs
 go_enter Tryz.func91,Tryz.ntmps91
 go_wp2_with (go_at_call 153;rw [← HS.out];refine (split_r t.day (t.nano-s) _ a1 a2 a3 a4).mono ?_;rintro e w1 ⟨rfl,rfl⟩)
 go_ret2
 exact ⟨by unfold dayT nanT;rw [← HS.out];rfl,HB.out⟩
end Go.Proofs.YtagkjofpncpcpaaGreatDoor

/- The moment of a time: moment.carry, moment.moment. -/
namespace Go.Proofs.YtagkjofpncpcpaaGreatDoor
open Go.RowKit
def SpanE (x y:Int) (w:World) (e:Ending) (w':World):Prop:=e=.returned (.agg #[.int .i64 x,.int .i64 y])∧Below w.heap.size w w'
theorem sizeSPAN:(Tryz.prog.info? 263).map (·.size)=some 2:=by kernel_rfl
theorem carry_p (d n:Int) (w:World) (hd1:0≤d) (hd2:d≤3652058) (hn1:-86399999999999≤n) (hn2:n≤172799999999999) :
 Calls Tryz.prog 292 #[.int .i64 d,.int .i64 n] w (SpanE (d+n / 86400000000000) (n % 86400000000000) w):=by
 by_cases hneg:n<0
 ·have e1:n.tdiv 86400000000000=0:=by
   have:=Int.neg_tdiv (-n) 86400000000000
   rw [Int.neg_neg,Int.tdiv_eq_ediv_of_nonneg (a:=-n) (by omega)] at this
   rw [this]
   omega
  have e2:n.tmod 86400000000000=n:=by
   have:=Int.neg_tmod (-n) 86400000000000
   rw [Int.neg_neg,Int.tmod_eq_emod_of_nonneg (a:=-n) (by omega)] at this
   rw [this]
   omega
  have E3:=Hd (show d+n / 86400000000000=d+-1∧n % 86400000000000=n+86400000000000 by omega)
  go_enter Tryz.func292,Tryz.ntmps292
  go_wp2_with fail
  refine bodyPost_ret (results_cell_row rfl _ _ w.heap.size 263 _ (0,0) _ rfl (heap_alloc_new w _) Tryz.underlying263 rfl sizeSPAN) rfl ?_
  exact ⟨by rw [E3.out.1,E3.out.2],belowBox _ _⟩
 ·by_cases hbig:86400000000000≤n
  ·have e1:n.tdiv 86400000000000=1:=by rw [Int.tdiv_eq_ediv_of_nonneg (by omega)];omega
   have e2:n.tmod 86400000000000=n-86400000000000:=by rw [Int.tmod_eq_emod_of_nonneg (by omega)];omega
   have E3:=Hd (show d+n / 86400000000000=d+1∧n % 86400000000000=n-86400000000000 by omega)
   have h3:¬ n-86400000000000<0:=by omega
   go_enter Tryz.func292,Tryz.ntmps292
   go_wp2_with fail
   refine bodyPost_ret (results_cell_row rfl _ _ w.heap.size 263 _ (0,0) _ rfl (heap_alloc_new w _) Tryz.underlying263 rfl sizeSPAN) rfl ?_
   exact ⟨by rw [E3.out.1,E3.out.2],belowBox _ _⟩
  ·have e1:n.tdiv 86400000000000=0:=by rw [Int.tdiv_eq_ediv_of_nonneg (by omega)];omega
   have e2:n.tmod 86400000000000=n:=by rw [Int.tmod_eq_emod_of_nonneg (by omega)];omega
   have E3:=Hd (show d+n / 86400000000000=d∧n % 86400000000000=n by omega)
   go_enter Tryz.func292,Tryz.ntmps292
   go_wp2_with fail
   refine bodyPost_ret (results_cell_row rfl _ _ w.heap.size 263 _ (0,0) _ rfl (heap_alloc_new w _) Tryz.underlying263 rfl sizeSPAN) rfl ?_
   exact ⟨by rw [E3.out.1,E3.out.2],belowBox _ _⟩
theorem nano_rng2 {t:TimeD} (h:vtimeB t=true):-86399999999999≤t.nano-t.offset * 60000000000∧t.nano-t.offset * 60000000000≤172799999999999:=by
 obtain ⟨_,_,⟨h5,h6⟩,h7,h8⟩:=nano_rng h
 omega
theorem moment_p (t:TimeD) (w:World) (h:vtimeB t=true) :
 Calls Tryz.prog 269 #[.agg #[.int .i64 t.kind,.int .i64 t.day,.int .i64 t.nano,.int .i64 t.offset]] w (SpanE (dayT t) (nanT t) w):=by
 obtain ⟨⟨a1,a2⟩,_,⟨a5,a6⟩,a7,a8⟩:=nano_rng h
 obtain ⟨a3,a4⟩:=nano_rng2 h
 obtain ⟨s,hs⟩:∃ s,s=t.offset * 60000000000:=⟨_,rfl⟩
 have HS:=Hd hs
 rw [← hs] at a3 a4
 have b1:-86340000000000≤s:=by omega
 have b2:s≤86340000000000:=by omega
 have HB:=Hd (show Below w.heap.size w ((w.alloc (.cells #[.int .i64 t.kind,.int .i64 t.day,.int .i64 t.nano,.int .i64 t.offset] 26)).alloc (.cells #[.int .i64 0,.int .i64 0] 263)) from belowThen (belowBox w _) (belowBox _ _))
 have R0:=Hd (show RowT 263 ((w.alloc (.cells #[.int .i64 t.kind,.int .i64 t.day,.int .i64 t.nano,.int .i64 t.offset] 26)).alloc (.cells #[.int .i64 0,.int .i64 0] 263)) (w.heap.size+1) [.int .i64 0,.int .i64 0] from by
  have:=RowT.new (w.alloc (.cells #[.int .i64 t.kind,.int .i64 t.day,.int .i64 t.nano,.int .i64 t.offset] 26)) 263 [.int .i64 0,.int .i64 0]
  rw [World.size_alloc] at this
  exact this)
 clear h hs
 go_enter Tryz.func269,Tryz.ntmps269
 have ZO:=Hd (show ∀ v∈([.int .i64 (t.day+(t.nano-s) / 86400000000000),.int .i64 ((t.nano-s) % 86400000000000)]:List Value),v.oneCell'=true from by intro v hv;simp at hv;rcases hv with rfl | rfl<;>rfl)
 go_wp2_with (first | (go_at_call 292;rw [← HS.out];refine (carry_p t.day (t.nano-s) _ a1 a2 a3 a4).mono ?_;rintro e w1 ⟨rfl,hb⟩;have H1:=Hd (belowThen HB.out hb);have R1:=Hd (R0.out.then hb);clear hb) | ((with_reducible show wpList _ _ _ (⟨none,.store 263 (.tmp 2) (.tmp 11),_,_,_,_⟩::_) _ _);refine wpList_store_at rfl 263 _ _ rfl (w.heap.size+1) 0 [.int .i64 (t.day+(t.nano-s) / 86400000000000),.int .i64 ((t.nano-s) % 86400000000000)] rfl rfl 263 [.int .i64 0,.int .i64 0] [.int .i64 (t.day+(t.nano-s) / 86400000000000),.int .i64 ((t.nano-s) % 86400000000000)] R1.out sizeSPAN rfl (Nat.le_refl 2) ZO.out ?_))
 refine bodyPost_ret (results_cell_row rfl _ _ (w.heap.size+1) 263 _ (0,0) _ rfl (R1.out.setRow _) Tryz.underlying263 rfl sizeSPAN) rfl ?_
 exact ⟨by unfold dayT nanT;rw [← HS.out],H1.out.trans ((FB.setRow (pb:=w.heap.size+1) _).below (Nat.le_add_right _ 1) H1.out.size)⟩
end Go.Proofs.YtagkjofpncpcpaaGreatDoor

/- Comparison of times: moment.compare, moment.Cmp. -/
namespace Go.Proofs.YtagkjofpncpcpaaGreatDoor
open Go.RowKit
theorem eqSPAN (x y x' y':Int) (w:World):(Op.equalIn 10000 263 (.agg #[.int .i64 x,.int .i64 y]) (.agg #[.int .i64 x',.int .i64 y'])).run Tryz.prog w=.ok (x==x'&&y==y') w:=by
 have u3:=Tryz.underlying3
 have a3:=Tryz.isAgg3
 have z3:=Tryz.sizeOf3
 have hS:Tryz.prog.underlying 263=some (.struct (Tryz.prog.fieldsOf 263)):=by kernel_rfl
 have hp:Tryz.prog.stoodInHeld 263=false:=by kernel_rfl
 rw [show (10000:Nat)=9999+1 from rfl,run_equalIn_agg w 9999 263 _ _ hS hp]
 simp only [Program.fieldsOf,Tryz.underlying263]
 go_simp
 by_cases h1:x=x'<;>by_cases h2:y=y'<;>simp [h1,h2]
theorem guardSPAN:Program.eqGuardType Tryz.prog Tryz.prog.depth 263=false:=by kernel_rfl
theorem guardTIM:Program.eqGuardType Tryz.prog Tryz.prog.depth 26=false:=by kernel_rfl
def CmpE (k:Int) (w:World) (e:Ending) (w':World):Prop:=e=.returned (.int .i64 k)∧Below w.heap.size w w'
set_option maxRecDepth 100000 in
set_option maxHeartbeats 3200000 in
theorem mcmp_p (x y x' y':Int) (w:World):Calls Tryz.prog 268 #[.agg #[.int .i64 x,.int .i64 y],.agg #[.int .i64 x',.int .i64 y']] w (CmpE (if sgn x x'=0 then sgn y y' else sgn x x') w):=by
 obtain ⟨r,hr⟩:∃ r,r=(if sgn x x'=0 then sgn y y' else sgn x x'):=⟨_,rfl⟩
 rw [← hr]
 have HRR:=Hd hr
 clear hr
 have E1:=eqSPAN x y x' y'
 have E2:=guardSPAN
 have HB:=Hd (show Below w.heap.size w ((w.alloc (.cells #[.int .i64 x,.int .i64 y] 263)).alloc (.cells #[.int .i64 x',.int .i64 y'] 263)) from belowThen (belowBox w _) (belowBox _ _))
 obtain ⟨t,ht⟩:∃ t,t=(x==x'&&y==y'):=⟨_,rfl⟩
 rw [← ht] at E1
 obtain ⟨s,hs⟩:∃ s,s=sgn x x':=⟨_,rfl⟩
 have HS:=Hd hs
 have HT:=Hd ht
 clear hs ht
 cases t with
 | true =>
   have HQ:=Hd (show r=0 by
    rw [HRR.out]
    have h:=HT.out.symm
    simp only [Bool.and_eq_true,beq_iff_eq] at h
    rw [h.1,h.2,sgn_self,sgn_self,if_pos rfl])
   go_enter Tryz.func268,Tryz.ntmps268
   go_wp2_with fail
   go_ret
   exact ⟨by rw [HQ.out];rfl,HB.out⟩
 | false =>
   by_cases h3:s=0
   ·have HQ:=Hd (show r=sgn y y' by rw [HRR.out,← HS.out,if_pos h3])
    have h5:(s != 0)=false:=by simp [h3]
    clear h3
    go_enter Tryz.func268,Tryz.ntmps268
    go_wp2_with (go_at_call 208;refine (cmp_i _ _ _).mono ?_;rintro e w1 ⟨rfl,rfl⟩;try rw [← HS.out])
    go_ret
    exact ⟨by rw [HQ.out];rfl,HB.out⟩
   ·have HQ:=Hd (show r=s by rw [HRR.out,← HS.out,if_neg h3])
    have h5:(s != 0)=true:=by simp [h3]
    clear h3
    go_enter Tryz.func268,Tryz.ntmps268
    go_wp2_with (go_at_call 208;refine (cmp_i _ _ _).mono ?_;rintro e w1 ⟨rfl,rfl⟩;rw [← HS.out])
    go_ret
    exact ⟨by rw [HQ.out];rfl,HB.out⟩
end Go.Proofs.YtagkjofpncpcpaaGreatDoor

/- Comparison of times: moment.Cmp. -/
namespace Go.Proofs.YtagkjofpncpcpaaGreatDoor
open Go.RowKit
theorem timeB_eq {a b:TimeD} (h:timeB a b=true):timC a b=0:=by
 unfold timeB at h
 simp only [Bool.and_eq_true,beq_iff_eq] at h
 obtain ⟨h1,h2,h3,h4⟩:=h
 have:a=b:=by cases a;cases b;simp_all
 rw [this,timC_self]
set_option maxRecDepth 100000 in
set_option maxHeartbeats 3200000 in
theorem tcmp_p (a b:TimeD) (w:World) (ha:vtimeB a=true) (hb:vtimeB b=true) :
 Calls Tryz.prog 210 #[.agg #[.int .i64 a.kind,.int .i64 a.day,.int .i64 a.nano,.int .i64 a.offset],.agg #[.int .i64 b.kind,.int .i64 b.day,.int .i64 b.nano,.int .i64 b.offset]] w (CmpE (timC a b) w):=by
 have HVA:=Hd ha
 have HVB:=Hd hb
 clear ha hb
 obtain ⟨r,hr⟩:∃ r,r=timC a b:=⟨_,rfl⟩
 rw [← hr]
 have E1:=eqTIME a b
 have E2:=guardTIM
 obtain ⟨w0,hw0⟩:∃ w0,w0=(w.alloc (.cells #[.int .i64 a.kind,.int .i64 a.day,.int .i64 a.nano,.int .i64 a.offset] 26)).alloc (.cells #[.int .i64 b.kind,.int .i64 b.day,.int .i64 b.nano,.int .i64 b.offset] 26):=⟨_,rfl⟩
 have HW0:=Hd hw0
 have HB:=Hd (show Below w.heap.size w w0 by rw [hw0];exact belowThen (belowBox w _) (belowBox _ _))
 have RA:=Hd (show RowT 26 w0 w.heap.size [.int .i64 a.kind,.int .i64 a.day,.int .i64 a.nano,.int .i64 a.offset] by rw [hw0];exact (RowT.new w 26 _).alloc _)
 have RB:=Hd (show RowT 26 w0 (w.heap.size+1) [.int .i64 b.kind,.int .i64 b.day,.int .i64 b.nano,.int .i64 b.offset] by
  rw [hw0]
  have:=RowT.new (w.alloc (.cells #[.int .i64 a.kind,.int .i64 a.day,.int .i64 a.nano,.int .i64 a.offset] 26)) 26 [.int .i64 b.kind,.int .i64 b.day,.int .i64 b.nano,.int .i64 b.offset]
  rw [World.size_alloc] at this
  exact this)
 clear hw0
 cases ht:timeB a b with
 | true =>
   have HQ:=Hd (show r=0 by rw [hr];exact timeB_eq ht)
   rw [ht] at E1
   clear hr ht
   go_enter Tryz.func210,Tryz.ntmps210
   go_wp2_with fail
   go_ret
   exact ⟨by rw [HQ.out];rfl,by rw [← HW0.out];exact HB.out⟩
 | false =>
   rw [ht] at E1
   clear ht
   obtain ⟨s,hs⟩:∃ s,s=sgn a.kind b.kind:=⟨_,rfl⟩
   have HS:=Hd hs
   clear hs
   by_cases h3:s=0
   ·obtain ⟨mc,hmc⟩:∃ mc,mc=momC a b:=⟨_,rfl⟩
    have HMC:=Hd hmc
    clear hmc
    have h5:(s != 0)=false:=by simp [h3]
    by_cases h6:mc=0
    ·have HQ:=Hd (show r=sgn a.offset b.offset by rw [hr];unfold timC;rw [← HS.out,if_pos h3,← HMC.out,if_pos h6])
     have h7:(mc != 0)=false:=by simp [h6]
     clear hr h3 h6
     go_enter Tryz.func210,Tryz.ntmps210
     go_wp2_with (go_at_call 208;refine (cmp_i _ _ _).mono ?_;rintro e w1 ⟨rfl,rfl⟩;rw [← HS.out])
     rw [← HW0.out]
     refine wp_region_held_drew (S:=fun u=>Below w0.heap.size w0 u) (by kernel_rfl) (drewU w0) (fun hHeld=>?_)
     refine' tk 0 _ rfl rfl (yieldsIf_load_mid (by kernel_rfl) 26 _ rfl w.heap.size 0 rfl [.int .i64 a.kind,.int .i64 a.day,.int .i64 a.nano,.int .i64 a.offset] _ (fun u hu=>(RA.out.then hu).range) Tryz.underlying26 rfl (by kernel_rfl)) hHeld ?_
     simp only [sq1,sq0]
     refine' tk 2 _ rfl rfl (yieldsIf_load_mid (by kernel_rfl) 26 _ rfl (w.heap.size+1) 0 rfl [.int .i64 b.kind,.int .i64 b.day,.int .i64 b.nano,.int .i64 b.offset] _ (fun u hu=>(RB.out.then hu).range) Tryz.underlying26 rfl (by kernel_rfl)) hHeld ?_
     simp only [sq1,sq0]
     refine rd1 1 rfl (fun K hK=>?_)
     rw [if_pos (by rfl)]
     go_simp
     refine (moment_p a _ HVA.out).mono ?_
     rintro e u1 ⟨rfl,hbC⟩
     refine hK.out _ _ (hHeld.trans (hbC.mono hHeld.size)) (fun hHeld1=>?_)
     clear hK K hbC hHeld
     have hHeld:=hHeld1
     clear hHeld1
     refine rd1 3 rfl (fun K hK=>?_)
     rw [if_pos (by rfl)]
     go_simp
     refine (moment_p b _ HVB.out).mono ?_
     rintro e u2 ⟨rfl,hbC⟩
     refine hK.out _ _ (hHeld.trans (hbC.mono hHeld.size)) (fun hHeld1=>?_)
     clear hK K hbC hHeld
     have hHeld:=hHeld1
     clear hHeld1
     refine rd1 4 rfl (fun K hK=>?_)
     rw [if_pos (by rfl)]
     go_simp
     refine (mcmp_p _ _ _ _ _).mono ?_
     rintro e u3 ⟨rfl,hbC⟩
     rw [show (if sgn (dayT a) (dayT b)=0 then sgn (nanT a) (nanT b) else sgn (dayT a) (dayT b))=mc from HMC.out.symm]
     refine hK.out _ _ (hHeld.trans (hbC.mono hHeld.size)) (fun hHeld1=>?_)
     clear hK K hbC hHeld
     have hHeld:=hHeld1
     clear hHeld1
     refine rd1 5 rfl (fun K hK=>?_)
     rw [if_pos (by rfl)]
     go_simp
     refine hK.out _ _ hHeld (fun hHeldx=>?_)
     clear hK K hHeldx
     refine wpAnyH_done (by kernel_rfl) ?_ _
     have HW:=Hd hHeld
     clear hHeld
     have c3:=(RA.out.then HW.out).cell (j:=3) (v:=.int .i64 a.offset) rfl
     have d3:=(RB.out.then HW.out).cell (j:=3) (v:=.int .i64 b.offset) rfl
     go_wp2_with (go_at_call 208;refine (cmp_i _ _ _).mono ?_;rintro e w1 ⟨rfl,rfl⟩)
     go_ret
     exact ⟨by rw [HQ.out];rfl,HB.out.trans (HW.out.mono HB.out.size)⟩
    ·have HQ:=Hd (show r=mc by rw [hr];unfold timC;rw [← HS.out,if_pos h3,← HMC.out,if_neg h6])
     have h7:(mc != 0)=true:=by simp [h6]
     clear hr h3 h6
     go_enter Tryz.func210,Tryz.ntmps210
     go_wp2_with (go_at_call 208;refine (cmp_i _ _ _).mono ?_;rintro e w1 ⟨rfl,rfl⟩;rw [← HS.out])
     rw [← HW0.out]
     refine wp_region_held_drew (S:=fun u=>Below w0.heap.size w0 u) (by kernel_rfl) (drewU w0) (fun hHeld=>?_)
     refine' tk 0 _ rfl rfl (yieldsIf_load_mid (by kernel_rfl) 26 _ rfl w.heap.size 0 rfl [.int .i64 a.kind,.int .i64 a.day,.int .i64 a.nano,.int .i64 a.offset] _ (fun u hu=>(RA.out.then hu).range) Tryz.underlying26 rfl (by kernel_rfl)) hHeld ?_
     simp only [sq1,sq0]
     refine' tk 2 _ rfl rfl (yieldsIf_load_mid (by kernel_rfl) 26 _ rfl (w.heap.size+1) 0 rfl [.int .i64 b.kind,.int .i64 b.day,.int .i64 b.nano,.int .i64 b.offset] _ (fun u hu=>(RB.out.then hu).range) Tryz.underlying26 rfl (by kernel_rfl)) hHeld ?_
     simp only [sq1,sq0]
     refine rd1 1 rfl (fun K hK=>?_)
     rw [if_pos (by rfl)]
     go_simp
     refine (moment_p a _ HVA.out).mono ?_
     rintro e u1 ⟨rfl,hbC⟩
     refine hK.out _ _ (hHeld.trans (hbC.mono hHeld.size)) (fun hHeld1=>?_)
     clear hK K hbC hHeld
     have hHeld:=hHeld1
     clear hHeld1
     refine rd1 3 rfl (fun K hK=>?_)
     rw [if_pos (by rfl)]
     go_simp
     refine (moment_p b _ HVB.out).mono ?_
     rintro e u2 ⟨rfl,hbC⟩
     refine hK.out _ _ (hHeld.trans (hbC.mono hHeld.size)) (fun hHeld1=>?_)
     clear hK K hbC hHeld
     have hHeld:=hHeld1
     clear hHeld1
     refine rd1 4 rfl (fun K hK=>?_)
     rw [if_pos (by rfl)]
     go_simp
     refine (mcmp_p _ _ _ _ _).mono ?_
     rintro e u3 ⟨rfl,hbC⟩
     rw [show (if sgn (dayT a) (dayT b)=0 then sgn (nanT a) (nanT b) else sgn (dayT a) (dayT b))=mc from HMC.out.symm]
     refine hK.out _ _ (hHeld.trans (hbC.mono hHeld.size)) (fun hHeld1=>?_)
     clear hK K hbC hHeld
     have hHeld:=hHeld1
     clear hHeld1
     refine rd1 5 rfl (fun K hK=>?_)
     rw [if_pos (by rfl)]
     go_simp
     refine hK.out _ _ hHeld (fun hHeldx=>?_)
     clear hK K hHeldx
     refine wpAnyH_done (by kernel_rfl) ?_ _
     have HW:=Hd hHeld
     clear hHeld
     go_wp2_with fail
     go_ret
     exact ⟨by rw [HQ.out];rfl,HB.out.trans (HW.out.mono HB.out.size)⟩
   ·have HQ:=Hd (show r=s by rw [hr];unfold timC;rw [← HS.out,if_neg h3])
    have h5:(s != 0)=true:=by simp [h3]
    clear hr h3
    go_enter Tryz.func210,Tryz.ntmps210
    go_wp2_with (go_at_call 208;refine (cmp_i _ _ _).mono ?_;rintro e w1 ⟨rfl,rfl⟩;rw [← HS.out])
    go_ret
    exact ⟨by rw [HQ.out];rfl,by rw [← HW0.out];exact HB.out⟩
end Go.Proofs.YtagkjofpncpcpaaGreatDoor

/- Comparison of times: datakitref05.Cmp. -/
namespace Go.Proofs.YtagkjofpncpcpaaGreatDoor
open Go.RowKit
set_option maxRecDepth 100000 in
set_option maxHeartbeats 3200000 in
theorem tcmp_r (a b:TimeD) (w:World) (ha:vtimeB a=true) (hb:vtimeB b=true) :
 Calls Tryz.prog 28 #[.agg #[.int .i64 a.kind,.int .i64 a.day,.int .i64 a.nano,.int .i64 a.offset],.agg #[.int .i64 b.kind,.int .i64 b.day,.int .i64 b.nano,.int .i64 b.offset]] w (CmpE (timC a b) w):=by
 have HVA:=Hd ha
 have HVB:=Hd hb
 clear ha hb
 obtain ⟨r,hr⟩:∃ r,r=timC a b:=⟨_,rfl⟩
 rw [← hr]
 have HRR:=Hd hr
 clear hr
 obtain ⟨s1,hs1⟩:∃ s,s=sgn a.kind b.kind:=⟨_,rfl⟩
 obtain ⟨s2,hs2⟩:∃ s,s=sgn (dayT a) (dayT b):=⟨_,rfl⟩
 obtain ⟨s3,hs3⟩:∃ s,s=sgn (nanT a) (nanT b):=⟨_,rfl⟩
 obtain ⟨s4,hs4⟩:∃ s,s=sgn a.offset b.offset:=⟨_,rfl⟩
 have H1:=Hd hs1
 have H2:=Hd hs2
 have H3:=Hd hs3
 have H4:=Hd hs4
 clear hs1 hs2 hs3 hs4
 have HB:=Hd (show Below w.heap.size w ((w.alloc (.cells #[.int .i64 a.kind,.int .i64 a.day,.int .i64 a.nano,.int .i64 a.offset] 26)).alloc (.cells #[.int .i64 b.kind,.int .i64 b.day,.int .i64 b.nano,.int .i64 b.offset] 26)) from belowThen (belowBox w _) (belowBox _ _))
 have RA0:=Hd (show RowT 26 ((w.alloc (.cells #[.int .i64 a.kind,.int .i64 a.day,.int .i64 a.nano,.int .i64 a.offset] 26)).alloc (.cells #[.int .i64 b.kind,.int .i64 b.day,.int .i64 b.nano,.int .i64 b.offset] 26)) w.heap.size [.int .i64 a.kind,.int .i64 a.day,.int .i64 a.nano,.int .i64 a.offset] from (RowT.new w 26 _).alloc _)
 have RB0:=Hd (show RowT 26 ((w.alloc (.cells #[.int .i64 a.kind,.int .i64 a.day,.int .i64 a.nano,.int .i64 a.offset] 26)).alloc (.cells #[.int .i64 b.kind,.int .i64 b.day,.int .i64 b.nano,.int .i64 b.offset] 26)) (w.heap.size+1) [.int .i64 b.kind,.int .i64 b.day,.int .i64 b.nano,.int .i64 b.offset] from by
  have:=RowT.new (w.alloc (.cells #[.int .i64 a.kind,.int .i64 a.day,.int .i64 a.nano,.int .i64 a.offset] 26)) 26 [.int .i64 b.kind,.int .i64 b.day,.int .i64 b.nano,.int .i64 b.offset]
  rw [World.size_alloc] at this
  exact this)
 go_enter Tryz.func28,Tryz.ntmps28
 go_wp2_with fail
 refine (moment5_r a _ HVA.out).mono ?_
 rintro e w1 ⟨rfl,hb⟩
 have HB1:=Hd (belowThen HB.out hb)
 have RA1:=Hd (RA0.out.then hb)
 have RB1:=Hd (RB0.out.then hb)
 have d0:=RB1.out.cell (j:=0) (v:=.int .i64 b.kind) rfl
 have d1:=RB1.out.cell (j:=1) (v:=.int .i64 b.day) rfl
 have d2:=RB1.out.cell (j:=2) (v:=.int .i64 b.nano) rfl
 have d3:=RB1.out.cell (j:=3) (v:=.int .i64 b.offset) rfl
 clear hb RA0 RB0
 go_wp2_with fail
 refine (moment5_r b _ HVB.out).mono ?_
 rintro e W ⟨rfl,hb⟩
 have HB2:=Hd (belowThen HB1.out hb)
 have RA:=Hd (RA1.out.then hb)
 have RB:=Hd (RB1.out.then hb)
 clear hb RA1 RB1 d0 d1 d2 d3
 go_wp2_with fail
 refine wp_region_held_drew (S:=fun u=>Below W.heap.size W u) (by kernel_rfl) (drewU W) (fun hHeld=>?_)
 refine' tk 0 (.pointer (some ⟨w.heap.size,0,none⟩)) rfl rfl (.inl ⟨by rfl,fun u hu=>(by go_simp)⟩) hHeld ?_
 simp only [sq1,sq0]
 refine' tk 1 (.int .i64 a.kind) rfl rfl (.inl ⟨by rfl,fun u hu=>(by have hc:=(RA.out.then hu).cell (j:=0) (v:=.int .i64 a.kind) rfl;go_simp)⟩) hHeld ?_
 simp only [sq1,sq0]
 refine' tk 2 (.pointer (some ⟨w.heap.size+1,0,none⟩)) rfl rfl (.inl ⟨by rfl,fun u hu=>(by go_simp)⟩) hHeld ?_
 simp only [sq1,sq0]
 refine' tk 3 (.int .i64 b.kind) rfl rfl (.inl ⟨by rfl,fun u hu=>(by have hc:=(RB.out.then hu).cell (j:=0) (v:=.int .i64 b.kind) rfl;go_simp)⟩) hHeld ?_
 simp only [sq1,sq0]
 refine' tk 5 (.int .i64 (dayT a)) rfl rfl (.inl ⟨by rfl,fun u hu=>(by go_simp)⟩) hHeld ?_
 simp only [sq1,sq0]
 refine' tk 6 (.int .i64 (dayT b)) rfl rfl (.inl ⟨by rfl,fun u hu=>(by go_simp)⟩) hHeld ?_
 simp only [sq1,sq0]
 refine' tk 8 (.int .i64 (nanT a)) rfl rfl (.inl ⟨by rfl,fun u hu=>(by go_simp)⟩) hHeld ?_
 simp only [sq1,sq0]
 refine' tk 9 (.int .i64 (nanT b)) rfl rfl (.inl ⟨by rfl,fun u hu=>(by go_simp)⟩) hHeld ?_
 simp only [sq1,sq0]
 refine' tk 11 (.pointer (some ⟨w.heap.size,3,none⟩)) rfl rfl (.inl ⟨by rfl,fun u hu=>(by go_simp)⟩) hHeld ?_
 simp only [sq1,sq0]
 refine' tk 12 (.int .i64 a.offset) rfl rfl (.inl ⟨by rfl,fun u hu=>(by have hc:=(RA.out.then hu).cell (j:=3) (v:=.int .i64 a.offset) rfl;go_simp)⟩) hHeld ?_
 simp only [sq1,sq0]
 refine' tk 13 (.pointer (some ⟨w.heap.size+1,3,none⟩)) rfl rfl (.inl ⟨by rfl,fun u hu=>(by go_simp)⟩) hHeld ?_
 simp only [sq1,sq0]
 refine' tk 14 (.int .i64 b.offset) rfl rfl (.inl ⟨by rfl,fun u hu=>(by have hc:=(RB.out.then hu).cell (j:=3) (v:=.int .i64 b.offset) rfl;go_simp)⟩) hHeld ?_
 simp only [sq1,sq0]
 refine' tk 18 (.int .i64 0) rfl rfl (.inl ⟨by rfl,fun u hu=>(by go_simp)⟩) hHeld ?_
 simp only [sq1,sq0]
 refine rd1 4 rfl (fun K hK=>?_)
 rw [if_pos (by rfl)]
 go_simp
 refine (sign5_r _ _ _).mono ?_
 rintro e u1 ⟨rfl,rfl⟩
 rw [← H1.out]
 refine hK.out _ _ hHeld (fun hHeldx=>?_)
 clear hK K hHeldx
 refine rd1 7 rfl (fun K hK=>?_)
 rw [if_pos (by rfl)]
 go_simp
 refine (sign5_r _ _ _).mono ?_
 rintro e u1 ⟨rfl,rfl⟩
 rw [← H2.out]
 refine hK.out _ _ hHeld (fun hHeldx=>?_)
 clear hK K hHeldx
 refine rd1 10 rfl (fun K hK=>?_)
 rw [if_pos (by rfl)]
 go_simp
 refine (sign5_r _ _ _).mono ?_
 rintro e u1 ⟨rfl,rfl⟩
 rw [← H3.out]
 refine hK.out _ _ hHeld (fun hHeldx=>?_)
 clear hK K hHeldx
 refine rd1 15 rfl (fun K hK=>?_)
 rw [if_pos (by rfl)]
 go_simp
 refine (sign5_r _ _ _).mono ?_
 rintro e u1 ⟨rfl,rfl⟩
 rw [← H4.out]
 refine hK.out _ _ hHeld (fun hHeldx=>?_)
 clear hK K hHeldx
 refine rd1 16 rfl (fun K hK=>?_)
 rw [if_pos (by rfl)]
 go_simp
 refine hK.out _ _ (hHeld.alloc hHeld.size _) (fun hHeldy=>?_)
 clear hK K hHeld
 have hHeld:=hHeldy
 clear hHeldy
 refine' tk 17 (.int .i64 4) rfl rfl (.inl ⟨by rfl,fun u hu=>(by go_simp)⟩) hHeld ?_
 simp only [sq1,sq0]
 refine wpAnyH_done (by kernel_rfl) ?_ _
 obtain ⟨WX,hWX⟩:∃ WX,WX=(W.alloc (.cells #[.int .i64 s1,.int .i64 s2,.int .i64 s3,.int .i64 s4] 3)).drew:=⟨_,rfl⟩
 rw [← hWX] at hHeld ⊢
 obtain ⟨S,hS⟩:∃ S:Nat→Int,S=fun j=>[s1,s2,s3,s4].getD j 0:=⟨_,rfl⟩
 obtain ⟨hp,hhp⟩:∃ hp,hp=W.heap.size:=⟨_,rfl⟩
 have HC:=Hd (show ∀ k,k<4→WX.cell? ⟨hp,k,none⟩=some (.int .i64 (S k)) from fun k hk=>by
  rw [hWX,hS,hhp]
  have h5:=(RowT.new W 3 [.int .i64 s1,.int .i64 s2,.int .i64 s3,.int .i64 s4]).drew
  match k,hk with
  | 0,_=>exact h5.cell rfl
  | 1,_=>exact h5.cell rfl
  | 2,_=>exact h5.cell rfl
  | 3,_=>exact h5.cell rfl)
 have HRES:=Hd (show (∀ k,k<4→(∀ j,j<k→S j=0)→S k≠0→r=S k)∧((∀ j,j<4→S j=0)→r=0) by
  have hr:=HRR.out
  unfold timC momC at hr
  rw [← H1.out,← H2.out,← H3.out,← H4.out] at hr
  rw [hS]
  refine ⟨fun k hk h0 hn=>?_,fun h0=>?_⟩
  ·match k,hk with
   | 0,_=>simp at hn;rw [hr,if_neg hn];rfl
   | 1,_=>have:=h0 0 (by omega);simp at this hn;rw [hr,if_pos this,if_neg hn,if_neg hn];rfl
   | 2,_=>have h1:=h0 0 (by omega);have h2:=h0 1 (by omega);simp at h1 h2 hn;rw [hr,if_pos h1,if_pos h2,if_neg hn];rfl
   | 3,_=>have h1:=h0 0 (by omega);have h2:=h0 1 (by omega);have h3:=h0 2 (by omega);simp at h1 h2 h3 hn;rw [hr,if_pos h1,if_pos h2,if_pos h3];rfl
  ·have h1:=h0 0 (by omega);have h2:=h0 1 (by omega);have h3:=h0 2 (by omega);have h4:=h0 3 (by omega)
   simp at h1 h2 h3 h4
   rw [hr,if_pos h1,if_pos h2,if_pos h3,h4])
 have HWX:=Hd (HB2.out.trans (hHeld.mono HB2.out.size))
 rw [← hhp]
 clear hWX hS hhp hHeld
 go_wp2_with fail
 go_loopw [39] (fun x wr=>∃ k:Nat,x=.int .i64 k∧k≤4∧wr=WX∧∀ j,j<k→S j=0) (fun x _=>4-(intOf x).toNat)
 case atStart=>exact ⟨0,rfl,by omega,rfl,fun j hj=>by omega⟩
 case round =>
  obtain ⟨k,rfl,hk,hw,h0⟩:=hrel
  subst wr
  have HZ:=Hd h0
  clear h0
  by_cases hlt:k<4
  ·have c1:=HC.out k hlt
   obtain ⟨x,hx⟩:∃ x,x=S k:=⟨_,rfl⟩
   rw [← hx] at c1
   have HX:=Hd hx
   clear hx
   by_cases hz:x=0
   ·have hz1:=Hd hz
    have hz2:(x != 0)=false:=by simp [hz]
    clear hz
    go_wp2_with fail
    go_roundw
    case rel=>exact ⟨k+1,by go_num,by omega,by first | rfl | trivial,fun j hj=>by
     rcases Nat.lt_or_ge j k with h5 | h5
     ·exact HZ.out j h5
     ·obtain rfl:j=k:=by omega
      rw [← HX.out];exact hz1.out⟩
    case measure=>simp [intOf];omega
   ·have hz1:=Hd hz
    have hz2:(x != 0)=true:=by simp [hz]
    clear hz
    go_wp2_with fail
    go_ret
    exact ⟨by rw [HRES.out.1 k hlt HZ.out (by rw [← HX.out];exact hz1.out),← HX.out];rfl,HWX.out⟩
  ·have HE:=Hd (HRES.out.2 fun j hj=>HZ.out j (by omega))
   go_wp2_with fail
   go_ret
   exact ⟨by rw [HE.out];rfl,HWX.out⟩
end Go.Proofs.YtagkjofpncpcpaaGreatDoor
