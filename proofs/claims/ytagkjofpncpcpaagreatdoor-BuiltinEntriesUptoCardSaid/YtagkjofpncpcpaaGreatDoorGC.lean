/- Valid decimals of the reference (datakitref02.Valid): what it means that it says yes. -/
import Derived.Test.YtagkjofpncpcpaaGreatDoorProg
import Derived.Test.YtagkjofpncpcpaaGreatDoorGA
import Derived.Test.YtagkjofpncpcpaaGreatDoorGB
namespace Go.Proofs.YtagkjofpncpcpaaGreatDoor
open Go.RowKit
def byteI (s:ByteArray) (n:Nat):Int:=if h:n<s.size then s[n].toNat else -1
theorem byteI_eq {s:ByteArray} {n:Nat} (h:n<s.size):(s[n].toNat:Int)=byteI s n:=by simp [byteI,h]
def DigS (s:ByteArray):Prop:=∀ i,i<s.size→48≤byteI s i∧byteI s i≤57
def VDec (d:DecD):Prop :=
 (d.digits.size=0∧d.neg=false∧d.exp=0) ∨
 (0<d.digits.size∧d.digits.size≤120∧DigS d.digits∧byteI d.digits 0≠48∧byteI d.digits (d.digits.size-1)≠48∧-400≤d.exp∧d.exp≤400)
def DigR (s:ByteArray) (w:World) (e:Ending) (w':World):Prop:=∃ b,e=.returned (.bool b)∧(b=true→DigS s)∧w=w'
def ZerR (s:ByteArray) (w:World) (e:Ending) (w':World):Prop:=∃ k:Int,e=.returned (.int .i64 k)∧(k=0→s.size=0∨byteI s (s.size-1)≠48)∧w=w'
def Vld1R (s:ByteArray) (w:World) (e:Ending) (w':World):Prop:=∃ b,e=.returned (.bool b)∧(b=true→DigS s∧(s.size=0∨byteI s 0≠48))∧w=w'
theorem digits_ex (s:ByteArray) (w:World) (hs:s.size≤maxLen):Calls Tryz.prog 271 #[.string s] w (DigR s w):=by
 unfold maxLen at hs
 go_enter Tryz.func271,Tryz.ntmps271
 go_wp2_with fail
 go_loop [3] (fun i=>∃ k:Nat,k≤s.size∧i=.int .i64 k∧∀ j,j<k→48≤byteI s j∧byteI s j≤57) (fun i=>s.size-(intOf i).toNat)
 case atStart=>exact ⟨0,by omega,rfl,by omega⟩
 case round =>
  obtain ⟨k,hk,rfl,hall⟩:=hrel
  have HA:=Hd hall
  clear hall
  by_cases hlt:k<s.size
  ·have hb:=byteI_eq hlt
   by_cases h1:48≤byteI s k∧byteI s k≤57
   ·have H1:=Hd h1
    obtain ⟨h1,h2⟩:=h1
    have h3:¬ byteI s k<48:=by omega
    have h4:¬ 57<byteI s k:=by omega
    go_wp2_with fail
    go_round
    case rel=>exact ⟨k+1,by omega,by go_num,fun j hj=>by
     by_cases e:j=k
     ·subst e;exact H1.out
     ·exact HA.out j (by omega)⟩
    case measure=>simp [intOf];omega
   ·have h2:byteI s k<48∨57<byteI s k:=by omega
    clear h1
    rcases h2 with h2 | h2
    all_goals
     go_wp2_with fail
     all_goals
      go_ret
      exact ⟨_,rfl,fun h=>(by cases h),rfl⟩
  ·have HD:=Hd (show DigS s from fun i hi=>HA.out i (by omega))
   go_wp2_with fail
   go_ret
   exact ⟨_,rfl,fun _=>HD.out,rfl⟩
theorem zeros_ex (s:ByteArray) (w:World) (hs:s.size≤maxLen):Calls Tryz.prog 223 #[.string s] w (ZerR s w):=by
 unfold maxLen at hs
 go_enter Tryz.func223,Tryz.ntmps223
 go_wp2_with fail
 go_loop [3] (fun i=>∃ k:Nat,k≤s.size∧i=.int .i64 k) (fun i=>s.size-(intOf i).toNat)
 case atStart=>exact ⟨0,by omega,rfl⟩
 case round =>
  obtain ⟨k,hk,rfl⟩:=hrel
  by_cases hlt:k<s.size
  ·have hi0:(0:Int)≤(s.size:Int)-1-(k:Int):=by omega
   have hi1:(s.size:Int)-1-(k:Int)<(s.size:Int):=by omega
   have hlt2:s.size-1-k<s.size:=by omega
   have htn:((s.size:Int)-1-(k:Int)).toNat=s.size-1-k:=by omega
   have hb:=byteI_eq hlt2
   by_cases h48:byteI s (s.size-1-k)=48
   ·go_wp2_with fail
    all_goals first
     | (go_round
        case rel=>exact ⟨k+1,by omega,by go_num⟩
        case measure=>simp [intOf];omega)
     | (go_ret;exfalso;simp_all;done)
   ·have q1:(byteI s (s.size-1-k)==48)=false:=by simp [h48]
    have q2:(byteI s (s.size-1-k) != 48)=true:=by simp [h48]
    have H48:=Hd h48
    go_wp2_with fail
    all_goals
     go_ret
     refine ⟨_,rfl,fun h=>.inr ?_,rfl⟩
     have hk0:k=0:=by omega
     subst hk0
     exact H48.out
  ·have hke:k=s.size:=by omega
   go_wp2_with fail
   go_ret
   exact ⟨_,rfl,fun h=>.inl (by omega),rfl⟩
theorem valid01_ex (s:ByteArray) (w:World) (hs:s.size≤maxLen):Calls Tryz.prog 222 #[.string s] w (Vld1R s w):=by
 have HS:=Hd hs
 unfold maxLen at hs
 by_cases h0:s.size=0
 ·have H0:=Hd h0
  go_enter Tryz.func222,Tryz.ntmps222
  go_wp2_with (go_at_call 271;refine (digits_ex _ _ HS.out).mono ?_;rintro e w' ⟨b,rfl,_,rfl⟩)
  all_goals (go_ret;exact ⟨_,rfl,fun _=>⟨fun i hi=>by have:=H0.out;omega,.inl H0.out⟩,rfl⟩)
 ·have hp:0<s.size:=by omega
  have hb:=byteI_eq hp
  have hne:¬ s=ByteArray.empty:=by intro e;subst e;simp at hp
  clear h0
  by_cases h48:byteI s 0=48
  ·have q1:(byteI s 0 != 48)=false:=by simp [h48]
   go_enter Tryz.func222,Tryz.ntmps222
   go_wp2_with (go_at_call 271;refine (digits_ex _ _ HS.out).mono ?_;rintro e w' ⟨b,rfl,hbd,rfl⟩;have HBd:=Hd (show b=false∨DigS s by cases b;exact .inl rfl;exact .inr (hbd rfl));clear hbd)
   all_goals (go_ret;exact ⟨false,by first | rfl | (congr 2;simp [hne];done),fun h=>(by cases h),rfl⟩)
  ·have q1:(byteI s 0 != 48)=true:=by simp [h48]
   have H48:=Hd h48
   go_enter Tryz.func222,Tryz.ntmps222
   go_wp2_with (go_at_call 271;refine (digits_ex _ _ HS.out).mono ?_;rintro e w' ⟨b,rfl,hbd,rfl⟩;have HBd:=Hd (show b=false∨DigS s by cases b;exact .inl rfl;exact .inr (hbd rfl));clear hbd)
   all_goals first
    | (go_ret;exact ⟨false,rfl,fun h=>(by cases h),rfl⟩)
    | (go_ret
       refine ⟨_,rfl,fun h=>⟨?_,.inr H48.out⟩,rfl⟩
       rcases HBd.out with e | e
       ·subst e;first | (cases h;done) | (simp at h;done) | (exfalso;simp_all;done)
       ·exact e)
end Go.Proofs.YtagkjofpncpcpaaGreatDoor

/- Valid decimals of the reference (datakitref02.Valid), whole. -/
namespace Go.Proofs.YtagkjofpncpcpaaGreatDoor
open Go.RowKit
def Vld2R (d:DecD) (w:World) (e:Ending) (w':World):Prop:=∃ b,e=.returned (.bool b)∧(b=true→VDec d)∧Below w.heap.size w w'
theorem ne_toList {a:ByteArray} (h:0<a.size):¬ a.toList=[]:=by
 intro e
 have h3:a.toList.length=0:=by rw [e];rfl
 rw [ByteArray.toList_eq,Array.length_toList] at h3
 have h4:a.data.size=a.size:=rfl
 omega
theorem toList_nil {a:ByteArray} (h:a.size=0):a.toList=[]:=by
 have h4:a.data.size=a.size:=rfl
 rw [ByteArray.toList_eq]
 exact List.length_eq_zero_iff.1 (by rw [Array.length_toList];omega)
set_option maxRecDepth 100000 in
set_option maxHeartbeats 1600000 in
theorem valid02_ex (d:DecD) (w:World) (hs:d.digits.size≤maxLen):Calls Tryz.prog 155 #[.agg #[.bool d.neg,.string d.digits,.int .i64 d.exp]] w (Vld2R d w):=by
 have HS:=Hd hs
 by_cases h0:d.digits.size=0
 ·have hd:=toList_nil h0
  have H0:=Hd h0
  clear h0
  by_cases he:d.exp=0
  ·have HE:=Hd he
   cases hn:d.neg with
   | false =>
     have HV:=Hd (show VDec d from .inl ⟨H0.out,hn,he⟩)
     go_enter Tryz.func155,Tryz.ntmps155
     go_wp2_with fail
     all_goals (go_ret;exact ⟨_,rfl,fun _=>HV.out,Below.box _ _⟩)
   | true =>
     go_enter Tryz.func155,Tryz.ntmps155
     go_wp2_with fail
     all_goals (go_ret;exact ⟨false,rfl,fun h=>(by cases h),Below.box _ _⟩)
  ·have he1:(d.exp==0)=false:=by simp [he]
   cases hn:d.neg
   all_goals
    go_enter Tryz.func155,Tryz.ntmps155
    go_wp2_with fail
    all_goals (go_ret;exact ⟨false,rfl,fun h=>(by cases h),Below.box _ _⟩)
 ·have hp:0<d.digits.size:=by omega
  have hd:=ne_toList hp
  have hd1:(d.digits.toList==[])=false:=by simp [hd]
  have hd2:d.digits.toList.isEmpty=false:=by simp [hd]
  clear h0
  by_cases h120:d.digits.size≤120
  ·by_cases hx:-400≤d.exp∧d.exp≤400
   ·have HX:=Hd hx
    obtain ⟨hx1,hx2⟩:=hx
    go_enter Tryz.func155,Tryz.ntmps155
    go_wp2_with fail
    refine (valid01_ex _ _ HS.out).mono ?_
    rintro e w1 ⟨b,rfl,hv,rfl⟩
    cases b with
    | false =>
      clear hv
      go_wp2_with fail
      go_ret
      exact ⟨false,rfl,fun h=>(by cases h),Below.box _ _⟩
    | true =>
      have HV:=Hd (hv rfl)
      clear hv
      go_wp2_with fail
      refine (zeros_ex _ _ HS.out).mono ?_
      rintro e w2 ⟨k,rfl,hz,rfl⟩
      by_cases hk:k=0
      ·have HZ:=Hd (hz hk)
       clear hz
       subst hk
       go_wp2_with fail
       all_goals
        go_ret
        exact ⟨_,rfl,fun _=>.inr ⟨hp,h120,HV.out.1,HV.out.2.resolve_left (by omega),HZ.out.resolve_left (by omega),HX.out.1,HX.out.2⟩,Below.box _ _⟩
      ·have hk1:(k==0)=false:=by simp [hk]
       clear hz hk
       go_wp2_with fail
       all_goals (go_ret;exact ⟨false,rfl,fun h=>(by cases h),Below.box _ _⟩)
   ·have hx2:d.exp < -400∨400<d.exp:=by omega
    have HX:=Hd hx
    clear hx
    go_enter Tryz.func155,Tryz.ntmps155
    go_wp2_with fail
    refine (valid01_ex _ _ HS.out).mono ?_
    rintro e w1 ⟨b,rfl,_,rfl⟩
    cases b
    ·go_wp2_with fail
     go_ret
     exact ⟨false,rfl,fun h=>(by cases h),Below.box _ _⟩
    ·go_wp2_with fail
     refine (zeros_ex _ _ HS.out).mono ?_
     rintro e w2 ⟨k,rfl,_,rfl⟩
     rcases hx2 with hx2 | hx2
     all_goals
      go_wp2_with fail
      all_goals first
       | (go_ret;exact ⟨false,rfl,fun h=>(by cases h),Below.box _ _⟩)
       | (go_ret;exact ⟨false,by congr 2;simp;omega,fun h=>(by cases h),Below.box _ _⟩)
  ·have hgt:¬ (d.digits.size:Int)≤120:=by omega
   go_enter Tryz.func155,Tryz.ntmps155
   go_wp2_with fail
   all_goals (go_ret;exact ⟨false,rfl,fun h=>(by cases h),Below.box _ _⟩)
end Go.Proofs.YtagkjofpncpcpaaGreatDoor

/- The reference's Small (datakitref07): where it says yes, the value is no deeper than so much. -/
namespace Go.Proofs.YtagkjofpncpcpaaGreatDoor
open Go.RowKit
def fitsV:Nat→ValD→Prop
 | 0,_=>False
 | d+1,v=>(∀ x∈v.list,fitsV d x)∧(∀ f∈v.fields,fitsV d f.2)
end Go.Proofs.YtagkjofpncpcpaaGreatDoor
