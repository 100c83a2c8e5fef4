/- Times and what a value's kind lets it have: the reference's and the program's tests compute the same. -/
import Derived.Test.YtiefeajappjnbaaGreatDoorGA
import Derived.Test.YtiefeajappjnbaaGreatDoorGF
import Derived.Test.YtiefeajappjnbaaGreatDoorHN
import Derived.Deep.Light
import Derived.Test.YtiefeajappjnbaaGreatDoorGD
namespace Go.Proofs.YtiefeajappjnbaaGreatDoor
open Go.RowKit
theorem bz {a b:Bool} (h:a=true↔b=true):a=b:=Bool.eq_iff_iff.2 h
theorem lA (t:gi):cM t=true↔(1≤t.kind∧t.kind≤4∧0≤t.day∧t.day≤3652058∧0≤t.nano∧t.nano≤86399999999999∧-1439≤t.offset∧t.offset≤1439∧(t.kind=2→t.day=0)∧(t.kind=1→t.nano=0)∧(t.kind≠4→t.offset=0)):=by
 unfold cM
 rw [decide_eq_true_eq]
def yi (k:Int):Bool:=k==1 || (k==3 || k==4)
def rT (k:Int):Bool:=k==2 || (k==3 || k==4)
theorem yh (k:Int) (w:World):Calls Tryz.prog 251 #[.int .i64 k] w fun e w'=>e=.returned (.bool (yi k))∧w=w':=by
 have HD:=Hd (show yi k=(k==1 || (k==3 || k==4)) from rfl)
 by_cases h1:k=1<;>by_cases h2:k=3<;>by_cases h3:k=4
 all_goals
  have H1:=Hd h1
  have H2:=Hd h2
  have H3:=Hd h3
  have e1:(k==1)=decide (k=1):=rfl
  clear h1 h2 h3 e1
  go_enter Tryz.func251,Tryz.ntmps251
  go_wp2
  all_goals
   go_ret
   refine ⟨am (bz ?_),rfl⟩
   rw [HD.out]
   have:=H1.out
   have:=H2.out
   have:=H3.out
   simp_all
theorem rS (k:Int) (w:World):Calls Tryz.prog 252 #[.int .i64 k] w fun e w'=>e=.returned (.bool (rT k))∧w=w':=by
 have HD:=Hd (show rT k=(k==2 || (k==3 || k==4)) from rfl)
 go_enter Tryz.func252,Tryz.ntmps252
 go_wp2
 all_goals
  go_ret
  refine ⟨am (bz ?_),rfl⟩
  rw [HD.out]
  simp_all
set_option maxRecDepth 100000 in
set_option maxHeartbeats 1600000 in
theorem qW (t:gi) (w:World):Calls Tryz.prog 230 #[.agg #[.int .i64 t.kind,.int .i64 t.day,.int .i64 t.nano,.int .i64 t.offset]] w (cq (cM t) w):=by
 have HV:=Hd (lA t)
 have HD:=Hd (show yi t.kind=(t.kind==1 || (t.kind==3 || t.kind==4)) from rfl)
 have HC:=Hd (show rT t.kind=(t.kind==2 || (t.kind==3 || t.kind==4)) from rfl)
 go_enter Tryz.func230,Tryz.ntmps230
 go_wp2_with (first | (go_at_call 251;refine (yh _ _).mono ?_;rintro e w' ⟨rfl,rfl⟩) | (go_at_call 252;refine (rS _ _).mono ?_;rintro e w' ⟨rfl,rfl⟩))
 all_goals
  go_ret
  refine ⟨am (bz ?_),Below.box _ _⟩
  have hv:=HV.out
  have hd:=HD.out
  have hc:=HC.out
  clear HV HD HC
  grind
set_option maxRecDepth 100000 in
set_option maxHeartbeats 1600000 in
theorem pN (t:gi) (w:World):Calls Tryz.prog 186 #[.agg #[.int .i64 t.kind,.int .i64 t.day,.int .i64 t.nano,.int .i64 t.offset]] w (cq (cM t) w):=by
 have HV:=Hd (lA t)
 go_enter Tryz.func186,Tryz.ntmps186
 go_wp2
 all_goals
  go_ret
  refine ⟨am (bz ?_),Below.box _ _⟩
  have hv:=HV.out
  clear HV
  grind
end Go.Proofs.YtiefeajappjnbaaGreatDoor

/- Decimals: datakitref02.Valid and decimal.Valid: the same test, exactly. -/
namespace Go.Proofs.YtiefeajappjnbaaGreatDoor
open Go.RowKit
theorem vz (s:ByteArray) (w:World) (hs:s.size≤maxLen) (hp:0<s.size) (h48:aI s (s.size-1)≠48):Calls Tryz.prog 237 #[.string s] w (tP w):=by
 unfold maxLen at hs
 have H48:=Hd h48
 clear h48
 go_enter Tryz.func237,Tryz.ntmps237
 go_wp2_with fail
 go_loop [3] (fun i=>i=.int .i64 0) (fun i=>1-(intOf i).toNat)
 case atStart=>rfl
 case round =>
  obtain rfl:=hrel
  have hi0:(0:Int)≤(s.size:Int)-1:=by omega
  have hi1:(s.size:Int)-1<(s.size:Int):=by omega
  have hlt2:s.size-1<s.size:=by omega
  have htn:((s.size:Int)-1).toNat=s.size-1:=by omega
  have hb:=bd hlt2
  have q1:(aI s (s.size-1)==48)=false:=by simpa using H48.out
  have q2:(aI s (s.size-1) != 48)=true:=by simpa using H48.out
  go_wp2_with fail
  all_goals
   go_ret
   exact ⟨rfl,rfl⟩
theorem ve (d:dL) (w:World) (hv:gP d):Calls Tryz.prog 229 #[.agg #[.bool d.neg,.string d.digits,.int .i64 d.exp]] w (vt w):=by
 rcases hv with ⟨h0,hn,he⟩ | ⟨hp,h120,hdg,hf,hlz,he1,he2⟩
 ·have hd:=bv h0
  clear h0
  go_enter Tryz.func229,Tryz.ntmps229
  go_wp2_with fail
  all_goals (go_ret;exact ⟨rfl,Below.box _ _⟩)
 ·have hd:=eg hp
  have hd1:(d.digits.toList==[])=false:=by simp [hd]
  have hd2:d.digits.toList.isEmpty=false:=by simp [hd]
  have HD:=Hd hdg
  have HL:=Hd hlz
  have HF:=Hd hf
  clear hdg hlz hf
  go_enter Tryz.func229,Tryz.ntmps229
  go_wp2_with (first
   | (go_at_call 250;refine (o0 _ _ (by omega) HD.out (.inr HF.out)).mono ?_;rintro e w' ⟨rfl,rfl⟩)
   | (go_at_call 237;refine (vz _ _ (by unfold maxLen;omega) hp HL.out).mono ?_;rintro e w' ⟨rfl,rfl⟩))
  all_goals (go_ret;exact ⟨rfl,Below.box _ _⟩)
theorem kH {d:dL} (h:cN d=false):¬ gP d:=fun hv=>by
 rw [(eW d).2 hv] at h
 cases h
theorem qu (d:dL) (w:World) (hs:d.digits.size≤maxLen):Calls Tryz.prog 229 #[.agg #[.bool d.neg,.string d.digits,.int .i64 d.exp]] w (cq (cN d) w):=by
 cases h:cN d
 ·refine (qX d w hs).mono ?_
  rintro e w' ⟨b,rfl,hb,hw⟩
  cases b
  ·exact ⟨rfl,hw⟩
  ·exact absurd (hb rfl) (kH h)
 ·exact ve d w ((eW d).1 h)
theorem r7 (s:ByteArray) (w:World) (hs:s.size≤maxLen):Calls Tryz.prog 220 #[.string s] w (DL s w):=by
 unfold maxLen at hs
 go_enter Tryz.func220,Tryz.ntmps220
 go_wp2_with fail
 go_simp
 go_loop [6] (fun i=>∃ k:Nat,k≤s.size∧i=.int .i64 k∧Hid (∀ j,j<k→48≤aI s j∧aI s j≤57)) (fun i=>s.size-(intOf i).toNat)
 case atStart=>exact ⟨0,by omega,rfl,Hd (by omega)⟩
 case round =>
  obtain ⟨k,hk,rfl,HA⟩:=hrel
  by_cases hlt:k<s.size
  ·have hb:=bd hlt
   by_cases h1:48≤aI s k∧aI s k≤57
   ·have H1:=Hd h1
    obtain ⟨h1,h2⟩:=h1
    have h3:¬ aI s k<48:=by omega
    have h4:¬ 57<aI s k:=by omega
    go_wp2_with fail
    go_round
    case rel=>exact ⟨k+1,by omega,by go_num,Hd (fun j hj=>by
     by_cases e:j=k
     ·subst e;exact H1.out
     ·exact HA.out j (by omega))⟩
    case measure=>simp [intOf];omega
   ·have h2:aI s k<48∨57<aI s k:=by omega
    clear h1
    rcases h2 with h2 | h2
    all_goals
     go_wp2_with fail
     all_goals
      go_ret
      exact ⟨_,rfl,fun h=>(by cases h),rfl⟩
  ·have HD:=Hd (show gQ s from fun i hi=>HA.out i (by omega))
   go_wp2_with fail
   go_ret
   exact ⟨_,rfl,fun _=>HD.out,rfl⟩
theorem uV (s:ByteArray) (w:World) (hs:s.size≤maxLen):Calls Tryz.prog 189 #[.string s] w (A9 s w):=by
 have HS:=Hd hs
 unfold maxLen at hs
 by_cases h600:s.size≤600
 ·by_cases h0:s.size=0
  ·have hn:=bv h0
   have H0:=Hd h0
   clear h0
   go_enter Tryz.func189,Tryz.ntmps189
   go_wp2_with fail
   refine (r7 _ _ HS.out).mono ?_
   rintro e w' ⟨b,rfl,hb,rfl⟩
   have HB:=Hd hb
   clear hb
   cases b
   all_goals
    go_wp2_with fail
    go_ret
    exact ⟨_,rfl,fun _=>⟨fun i hi=>by have:=H0.out;omega,.inl H0.out⟩,rfl⟩
  ·have hp:0<s.size:=by omega
   have hn:=eg hp
   have hn1:(s.toList==[])=false:=by simp [hn]
   have hn2:s.toList.isEmpty=false:=by simp [hn]
   have hb:=bd hp
   clear h0
   by_cases h48:aI s 0=48
   ·have q1:(aI s 0 != 48)=false:=by simp [h48]
    go_enter Tryz.func189,Tryz.ntmps189
    go_wp2_with fail
    refine (r7 _ _ HS.out).mono ?_
    rintro e w' ⟨b,rfl,hb,rfl⟩
    clear hb
    cases b
    all_goals
     go_wp2_with fail
     go_ret
     exact ⟨false,rfl,fun h=>(by cases h),rfl⟩
   ·have q1:(aI s 0 != 48)=true:=by simp [h48]
    have H48:=Hd h48
    go_enter Tryz.func189,Tryz.ntmps189
    go_wp2_with fail
    refine (r7 _ _ HS.out).mono ?_
    rintro e w' ⟨b,rfl,hb,rfl⟩
    cases b
    ·clear hb
     go_wp2_with fail
     go_ret
     exact ⟨false,rfl,fun h=>(by cases h),rfl⟩
    ·have HB:=Hd (hb rfl)
     clear hb
     go_wp2_with fail
     go_ret
     exact ⟨true,rfl,fun _=>⟨HB.out,.inr H48.out⟩,rfl⟩
 ·have h601:¬ (s.size:Int)≤600:=by omega
  go_enter Tryz.func189,Tryz.ntmps189
  go_wp2_with fail
  go_ret
  exact ⟨false,rfl,fun h=>(by cases h),rfl⟩
theorem y8 (l:List UInt8) (c:UInt8):(Lib.trimRightB l c).length≤l.length:=by
 unfold Lib.trimRightB
 rw [List.length_reverse]
 exact Nat.le_trans (List.dropWhile_sublist _).length_le (by simp)
theorem tV {s:ByteArray} (hp:0<s.size) (h:aI s (s.size-1)=48):(Lib.trimRightB s.data.toList 48).length<s.size:=by
 have hlt:s.size-1<s.size:=by omega
 have hlen:s.data.toList.length=s.size:=by rw [Array.length_toList];rfl
 have hx:s[s.size-1]=48:=by
  rw [← bd hlt] at h
  exact UInt8.toNat_inj.1 (show s[s.size-1].toNat=48 by omega)
 have hl:s.data.toList=s.data.toList.take (s.size-1)++[s[s.size-1]]:=by
  have h1:=(List.take_append_drop (s.size-1) s.data.toList).symm
  have h2:s.data.toList.drop (s.size-1)=[s[s.size-1]]:=by
   rw [List.drop_eq_getElem_cons (by omega),List.drop_eq_nil_of_le (by omega)]
   rfl
  rw [h2] at h1
  exact h1
 unfold Lib.trimRightB
 rw [hl,List.reverse_append,List.reverse_singleton,List.singleton_append,List.dropWhile_cons_of_pos (by simpa using hx),List.length_reverse]
 refine Nat.lt_of_le_of_lt (List.dropWhile_sublist _).length_le ?_
 rw [List.length_reverse,List.length_take]
 omega
def Eg (s:ByteArray) (w:World) (e:Ending) (w':World):Prop:=∃ k:Int,e=.returned (.int .i64 k)∧(k=0→s.size=0∨aI s (s.size-1)≠48)∧w=w'
theorem uU (s:ByteArray) (w:World) (hs:s.size≤600):Calls Tryz.prog 190 #[.string s] w (Eg s w):=by
 have hle:=y8 s.data.toList 48
 have HT:=Hd (fun hp h=>tV (s:=s) hp h)
 have hlen:s.data.toList.length=s.size:=by rw [Array.length_toList];rfl
 rw [hlen] at hle
 clear hlen
 go_enter Tryz.func190,Tryz.ntmps190
 go_wp2_with fail
 refine (Tryz.strings_TrimRight_one s 48 (by decide) w (by omega)).mono ?_
 rintro e w' ⟨rfl,rfl⟩
 obtain ⟨t,ht⟩:∃ t,t=Lib.trimRightB s.data.toList 48:=⟨_,rfl⟩
 rw [← ht] at hle ⊢
 have HTT:=Hd ht
 have hts:(⟨t.toArray⟩:ByteArray).size=t.length:=by simp [ByteArray.size]
 clear ht
 go_wp2_with fail
 go_ret
 refine ⟨_,rfl,fun h=>?_,rfl⟩
 rcases Nat.eq_zero_or_pos s.size with h0 | hp
 ·exact .inl h0
 ·refine .inr fun h48=>?_
  have:=HT.out hp h48
  rw [← HTT.out] at this
  omega
theorem Ap (d:dL) (w:World) (hs:d.digits.size≤maxLen):Calls Tryz.prog 151 #[.agg #[.bool d.neg,.string d.digits,.int .i64 d.exp]] w (A8 d w):=by
 have HS:=Hd hs
 by_cases h0:d.digits.size=0
 ·have hd:=bv h0
  have E1:=il d
  have HB:=Hd (show eb d ⟨false,⟨#[]⟩,0⟩=true→gP d by
   intro h
   have:(⟨#[]⟩:ByteArray).toList=[]:=bv rfl
   simp [eb,hd,this] at h
   exact .inl ⟨h0,h.1,h.2⟩)
  have G1:=dw
  clear h0
  generalize eb d ⟨false,⟨#[]⟩,0⟩=db at *
  go_enter Tryz.func151,Tryz.ntmps151
  go_wp2_with fail
  go_ret
  exact ⟨_,rfl,HB.out,Below.box _ _⟩
 ·have hp:0<d.digits.size:=by omega
  have hd:=eg hp
  have hd1:(d.digits.toList==[])=false:=by simp [hd]
  have hd2:d.digits.toList.isEmpty=false:=by simp [hd]
  clear h0
  go_enter Tryz.func151,Tryz.ntmps151
  go_wp2_with fail
  refine (uV _ _ HS.out).mono ?_
  rintro e w1 ⟨b,rfl,hv,rfl⟩
  cases b with
  | false =>
    clear hv
    go_wp2_with fail
    go_ret
    exact ⟨false,rfl,fun h=>(by cases h),Below.box _ _⟩
  | true =>
    have HV:=Hd (hv rfl)
    clear hv
    by_cases h120:d.digits.size≤120
    ·go_wp2_with fail
     refine (uU _ _ (by omega)).mono ?_
     rintro e w2 ⟨k,rfl,hz,rfl⟩
     by_cases hk:k=0
     ·have HZ:=Hd (hz hk)
      clear hz
      subst hk
      go_wp2_with fail
      all_goals
       go_ret
       refine ⟨_,rfl,fun h=>?_,Below.box _ _⟩
       refine .inr ⟨hp,h120,HV.out.1,HV.out.2.resolve_left (by omega),HZ.out.resolve_left (by omega),?_,?_⟩<;>(go_light;grind)
     ·have hk1:(k==0)=false:=by simp [hk]
      clear hz hk
      go_wp2_with fail
      all_goals (go_ret;exact ⟨false,rfl,fun h=>(by cases h),Below.box _ _⟩)
    ·have hgt:¬ (d.digits.size:Int)≤120:=by omega
     go_wp2_with fail
     all_goals (go_ret;exact ⟨false,rfl,fun h=>(by cases h),Below.box _ _⟩)
theorem rP (d:dL) (w:World) (hs:d.digits.size≤maxLen):Calls Tryz.prog 151 #[.agg #[.bool d.neg,.string d.digits,.int .i64 d.exp]] w (cq (cN d) w):=by
 cases h:cN d
 ·refine (Ap d w hs).mono ?_
  rintro e w' ⟨b,rfl,hb,hw⟩
  cases b
  ·exact ⟨rfl,hw⟩
  ·exact absurd (hb rfl) (kH h)
 ·exact uY d w ((eW d).1 h)
end Go.Proofs.YtiefeajappjnbaaGreatDoor
