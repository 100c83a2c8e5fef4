/- Times and what a value's kind lets it have: the reference's and the program's tests compute the same. -/
import Derived.Test.YtagkjofpncpcpaaGreatDoorProg
import Derived.Test.YtagkjofpncpcpaaGreatDoorGA
import Derived.Test.YtagkjofpncpcpaaGreatDoorU03
import Derived.Test.YtagkjofpncpcpaaGreatDoorGB
import Derived.Test.YtagkjofpncpcpaaGreatDoorGC
import Derived.Test.YtagkjofpncpcpaaGreatDoorShelf
import Derived.Test.YtagkjofpncpcpaaGreatDoorGD
import Derived.Test.YtagkjofpncpcpaaGreatDoorGF
import Derived.Test.YtagkjofpncpcpaaGreatDoorHN
import Derived.Deep.Light
namespace Go.Proofs.YtagkjofpncpcpaaGreatDoor
open Go.RowKit
theorem bool_of {a b:Bool} (h:a=true↔b=true):a=b:=Bool.eq_iff_iff.2 h
theorem vtimeB_iff (t:TimeD):vtimeB t=true↔(1≤t.kind∧t.kind≤4∧0≤t.day∧t.day≤3652058∧0≤t.nano∧t.nano≤86399999999999∧-1439≤t.offset∧t.offset≤1439∧(t.kind=2→t.day=0)∧(t.kind=1→t.nano=0)∧(t.kind≠4→t.offset=0)):=by
 unfold vtimeB
 rw [decide_eq_true_eq]
def dateB (k:Int):Bool:=k==1 || (k==3 || k==4)
def clockB (k:Int):Bool:=k==2 || (k==3 || k==4)
theorem dated_ex (k:Int) (w:World):Calls Tryz.prog 224 #[.int .i64 k] w fun e w'=>e=.returned (.bool (dateB k))∧w=w':=by
 have HD:=Hd (show dateB k=(k==1 || (k==3 || k==4)) from rfl)
 by_cases h1:k=1<;>by_cases h2:k=3<;>by_cases h3:k=4
 all_goals
  have H1:=Hd h1
  have H2:=Hd h2
  have H3:=Hd h3
  have e1:(k==1)=decide (k=1):=rfl
  clear h1 h2 h3 e1
  go_enter Tryz.func224,Tryz.ntmps224
  go_wp2
  all_goals
   go_ret
   refine ⟨ret_bool (bool_of ?_),rfl⟩
   rw [HD.out]
   have:=H1.out
   have:=H2.out
   have:=H3.out
   simp_all
theorem clocked_ex (k:Int) (w:World):Calls Tryz.prog 225 #[.int .i64 k] w fun e w'=>e=.returned (.bool (clockB k))∧w=w':=by
 have HD:=Hd (show clockB k=(k==2 || (k==3 || k==4)) from rfl)
 go_enter Tryz.func225,Tryz.ntmps225
 go_wp2
 all_goals
  go_ret
  refine ⟨ret_bool (bool_of ?_),rfl⟩
  rw [HD.out]
  simp_all
set_option maxRecDepth 100000 in
set_option maxHeartbeats 1600000 in
theorem valid05_ex (t:TimeD) (w:World):Calls Tryz.prog 156 #[.agg #[.int .i64 t.kind,.int .i64 t.day,.int .i64 t.nano,.int .i64 t.offset]] w (BolR (vtimeB t) w):=by
 have HV:=Hd (vtimeB_iff t)
 have HD:=Hd (show dateB t.kind=(t.kind==1 || (t.kind==3 || t.kind==4)) from rfl)
 have HC:=Hd (show clockB t.kind=(t.kind==2 || (t.kind==3 || t.kind==4)) from rfl)
 go_enter Tryz.func156,Tryz.ntmps156
 go_wp2_with (first | (go_at_call 224;refine (dated_ex _ _).mono ?_;rintro e w' ⟨rfl,rfl⟩) | (go_at_call 225;refine (clocked_ex _ _).mono ?_;rintro e w' ⟨rfl,rfl⟩))
 all_goals
  go_ret
  refine ⟨ret_bool (bool_of ?_),Below.box _ _⟩
  have hv:=HV.out
  have hd:=HD.out
  have hc:=HC.out
  clear HV HD HC
  grind
set_option maxRecDepth 100000 in
set_option maxHeartbeats 1600000 in
theorem momentValid (t:TimeD) (w:World):Calls Tryz.prog 189 #[.agg #[.int .i64 t.kind,.int .i64 t.day,.int .i64 t.nano,.int .i64 t.offset]] w (BolR (vtimeB t) w):=by
 have HV:=Hd (vtimeB_iff t)
 go_enter Tryz.func189,Tryz.ntmps189
 go_wp2
 all_goals
  go_ret
  refine ⟨ret_bool (bool_of ?_),Below.box _ _⟩
  have hv:=HV.out
  clear HV
  grind
end Go.Proofs.YtagkjofpncpcpaaGreatDoor

/- Decimals: datakitref02.Valid and decimal.Valid: the same test, exactly. -/
namespace Go.Proofs.YtagkjofpncpcpaaGreatDoor
open Go.RowKit
theorem zeros_no (s:ByteArray) (w:World) (hs:s.size≤maxLen) (hp:0<s.size) (h48:byteI s (s.size-1)≠48):Calls Tryz.prog 223 #[.string s] w (NoZeroR w):=by
 unfold maxLen at hs
 have H48:=Hd h48
 clear h48
 go_enter Tryz.func223,Tryz.ntmps223
 go_wp2_with fail
 go_loop [3] (fun i=>i=.int .i64 0) (fun i=>1-(intOf i).toNat)
 case atStart=>rfl
 case round =>
  obtain rfl:=hrel
  have hi0:(0:Int)≤(s.size:Int)-1:=by omega
  have hi1:(s.size:Int)-1<(s.size:Int):=by omega
  have hlt2:s.size-1<s.size:=by omega
  have htn:((s.size:Int)-1).toNat=s.size-1:=by omega
  have hb:=byteI_eq hlt2
  have q1:(byteI s (s.size-1)==48)=false:=by simpa using H48.out
  have q2:(byteI s (s.size-1) != 48)=true:=by simpa using H48.out
  go_wp2_with fail
  all_goals
   go_ret
   exact ⟨rfl,rfl⟩
theorem dec02_yes (d:DecD) (w:World) (hv:VDec d):Calls Tryz.prog 155 #[.agg #[.bool d.neg,.string d.digits,.int .i64 d.exp]] w (YesB w):=by
 rcases hv with ⟨h0,hn,he⟩ | ⟨hp,h120,hdg,hf,hlz,he1,he2⟩
 ·have hd:=toList_nil h0
  clear h0
  go_enter Tryz.func155,Tryz.ntmps155
  go_wp2_with fail
  all_goals (go_ret;exact ⟨rfl,Below.box _ _⟩)
 ·have hd:=ne_toList hp
  have hd1:(d.digits.toList==[])=false:=by simp [hd]
  have hd2:d.digits.toList.isEmpty=false:=by simp [hd]
  have HD:=Hd hdg
  have HL:=Hd hlz
  have HF:=Hd hf
  clear hdg hlz hf
  go_enter Tryz.func155,Tryz.ntmps155
  go_wp2_with (first
   | (go_at_call 222;refine (valid01_yes _ _ (by omega) HD.out (.inr HF.out)).mono ?_;rintro e w' ⟨rfl,rfl⟩)
   | (go_at_call 223;refine (zeros_no _ _ (by unfold maxLen;omega) hp HL.out).mono ?_;rintro e w' ⟨rfl,rfl⟩))
  all_goals (go_ret;exact ⟨rfl,Below.box _ _⟩)
theorem vdecB_false {d:DecD} (h:vdecB d=false):¬ VDec d:=fun hv=>by
 rw [(vdecB_iff d).2 hv] at h
 cases h
theorem dec02_exact (d:DecD) (w:World) (hs:d.digits.size≤maxLen):Calls Tryz.prog 155 #[.agg #[.bool d.neg,.string d.digits,.int .i64 d.exp]] w (BolR (vdecB d) w):=by
 cases h:vdecB d
 ·refine (valid02_ex d w hs).mono ?_
  rintro e w' ⟨b,rfl,hb,hw⟩
  cases b
  ·exact ⟨rfl,hw⟩
  ·exact absurd (hb rfl) (vdecB_false h)
 ·exact dec02_yes d w ((vdecB_iff d).1 h)
theorem all_ex (s:ByteArray) (w:World) (hs:s.size≤maxLen):Calls Tryz.prog 233 #[.string s] w (DigR s w):=by
 unfold maxLen at hs
 go_enter Tryz.func233,Tryz.ntmps233
 go_wp2_with fail
 go_simp
 go_loop [6] (fun i=>∃ k:Nat,k≤s.size∧i=.int .i64 k∧Hid (∀ j,j<k→48≤byteI s j∧byteI s j≤57)) (fun i=>s.size-(intOf i).toNat)
 case atStart=>exact ⟨0,by omega,rfl,Hd (by omega)⟩
 case round =>
  obtain ⟨k,hk,rfl,HA⟩:=hrel
  by_cases hlt:k<s.size
  ·have hb:=byteI_eq hlt
   by_cases h1:48≤byteI s k∧byteI s k≤57
   ·have H1:=Hd h1
    obtain ⟨h1,h2⟩:=h1
    have h3:¬ byteI s k<48:=by omega
    have h4:¬ 57<byteI s k:=by omega
    go_wp2_with fail
    go_round
    case rel=>exact ⟨k+1,by omega,by go_num,Hd (fun j hj=>by
     by_cases e:j=k
     ·subst e;exact H1.out
     ·exact HA.out j (by omega))⟩
    case measure=>simp [intOf];omega
   ·have h2:byteI s k<48∨57<byteI s k:=by omega
    clear h1
    rcases h2 with h2 | h2
    all_goals
     go_wp2_with fail
     all_goals
      go_ret
      exact ⟨_,rfl,fun h=>(by cases h),rfl⟩
  ·have HD:=Hd (show DigS s from fun i hi=>HA.out i (by omega))
   go_wp2_with fail
   go_ret
   exact ⟨_,rfl,fun _=>HD.out,rfl⟩
theorem dvalid_ex (s:ByteArray) (w:World) (hs:s.size≤maxLen):Calls Tryz.prog 162 #[.string s] w (Vld1R s w):=by
 have HS:=Hd hs
 unfold maxLen at hs
 by_cases h600:s.size≤600
 ·by_cases h0:s.size=0
  ·have hn:=toList_nil h0
   have H0:=Hd h0
   clear h0
   go_enter Tryz.func162,Tryz.ntmps162
   go_wp2_with fail
   refine (all_ex _ _ HS.out).mono ?_
   rintro e w' ⟨b,rfl,hb,rfl⟩
   have HB:=Hd hb
   clear hb
   cases b
   all_goals
    go_wp2_with fail
    go_ret
    exact ⟨_,rfl,fun _=>⟨fun i hi=>by have:=H0.out;omega,.inl H0.out⟩,rfl⟩
  ·have hp:0<s.size:=by omega
   have hn:=ne_toList hp
   have hn1:(s.toList==[])=false:=by simp [hn]
   have hn2:s.toList.isEmpty=false:=by simp [hn]
   have hb:=byteI_eq hp
   clear h0
   by_cases h48:byteI s 0=48
   ·have q1:(byteI s 0 != 48)=false:=by simp [h48]
    go_enter Tryz.func162,Tryz.ntmps162
    go_wp2_with fail
    refine (all_ex _ _ HS.out).mono ?_
    rintro e w' ⟨b,rfl,hb,rfl⟩
    clear hb
    cases b
    all_goals
     go_wp2_with fail
     go_ret
     exact ⟨false,rfl,fun h=>(by cases h),rfl⟩
   ·have q1:(byteI s 0 != 48)=true:=by simp [h48]
    have H48:=Hd h48
    go_enter Tryz.func162,Tryz.ntmps162
    go_wp2_with fail
    refine (all_ex _ _ HS.out).mono ?_
    rintro e w' ⟨b,rfl,hb,rfl⟩
    cases b
    ·clear hb
     go_wp2_with fail
     go_ret
     exact ⟨false,rfl,fun h=>(by cases h),rfl⟩
    ·have HB:=Hd (hb rfl)
     clear hb
     go_wp2_with fail
     go_ret
     exact ⟨true,rfl,fun _=>⟨HB.out,.inr H48.out⟩,rfl⟩
 ·have h601:¬ (s.size:Int)≤600:=by omega
  go_enter Tryz.func162,Tryz.ntmps162
  go_wp2_with fail
  go_ret
  exact ⟨false,rfl,fun h=>(by cases h),rfl⟩
theorem trim_le (l:List UInt8) (c:UInt8):(Lib.trimRightB l c).length≤l.length:=by
 unfold Lib.trimRightB
 rw [List.length_reverse]
 exact Nat.le_trans (List.dropWhile_sublist _).length_le (by simp)
theorem trim_less {s:ByteArray} (hp:0<s.size) (h:byteI s (s.size-1)=48):(Lib.trimRightB s.data.toList 48).length<s.size:=by
 have hlt:s.size-1<s.size:=by omega
 have hlen:s.data.toList.length=s.size:=by rw [Array.length_toList];rfl
 have hx:s[s.size-1]=48:=by
  rw [← byteI_eq hlt] at h
  exact UInt8.toNat_inj.1 (show s[s.size-1].toNat=48 by omega)
 have hl:s.data.toList=s.data.toList.take (s.size-1)++[s[s.size-1]]:=by
  have h1:=(List.take_append_drop (s.size-1) s.data.toList).symm
  have h2:s.data.toList.drop (s.size-1)=[s[s.size-1]]:=by
   rw [List.drop_eq_getElem_cons (by omega),List.drop_eq_nil_of_le (by omega)]
   rfl
  rw [h2] at h1
  exact h1
 unfold Lib.trimRightB
 rw [hl,List.reverse_append,List.reverse_singleton,List.singleton_append,List.dropWhile_cons_of_pos (by simpa using hx),List.length_reverse]
 refine Nat.lt_of_le_of_lt (List.dropWhile_sublist _).length_le ?_
 rw [List.length_reverse,List.length_take]
 omega
def DzrR (s:ByteArray) (w:World) (e:Ending) (w':World):Prop:=∃ k:Int,e=.returned (.int .i64 k)∧(k=0→s.size=0∨byteI s (s.size-1)≠48)∧w=w'
theorem dzeros_ex (s:ByteArray) (w:World) (hs:s.size≤600):Calls Tryz.prog 163 #[.string s] w (DzrR s w):=by
 have hle:=trim_le s.data.toList 48
 have HT:=Hd (fun hp h=>trim_less (s:=s) hp h)
 have hlen:s.data.toList.length=s.size:=by rw [Array.length_toList];rfl
 rw [hlen] at hle
 clear hlen
 go_enter Tryz.func163,Tryz.ntmps163
 go_wp2_with fail
 refine (Tryz.strings_TrimRight_one s 48 (by decide) w (by omega)).mono ?_
 rintro e w' ⟨rfl,rfl⟩
 obtain ⟨t,ht⟩:∃ t,t=Lib.trimRightB s.data.toList 48:=⟨_,rfl⟩
 rw [← ht] at hle ⊢
 have HTT:=Hd ht
 have hts:(⟨t.toArray⟩:ByteArray).size=t.length:=by simp [ByteArray.size]
 clear ht
 go_wp2_with fail
 go_ret
 refine ⟨_,rfl,fun h=>?_,rfl⟩
 rcases Nat.eq_zero_or_pos s.size with h0 | hp
 ·exact .inl h0
 ·refine .inr fun h48=>?_
  have:=HT.out hp h48
  rw [← HTT.out] at this
  omega
theorem decv_no (d:DecD) (w:World) (hs:d.digits.size≤maxLen):Calls Tryz.prog 102 #[.agg #[.bool d.neg,.string d.digits,.int .i64 d.exp]] w (Vld2R d w):=by
 have HS:=Hd hs
 by_cases h0:d.digits.size=0
 ·have hd:=toList_nil h0
  have E1:=eqDEC0 d
  have HB:=Hd (show decB d ⟨false,⟨#[]⟩,0⟩=true→VDec d by
   intro h
   have:(⟨#[]⟩:ByteArray).toList=[]:=toList_nil rfl
   simp [decB,hd,this] at h
   exact .inl ⟨h0,h.1,h.2⟩)
  have G1:=guardDEC
  clear h0
  generalize decB d ⟨false,⟨#[]⟩,0⟩=db at *
  go_enter Tryz.func102,Tryz.ntmps102
  go_wp2_with fail
  go_ret
  exact ⟨_,rfl,HB.out,Below.box _ _⟩
 ·have hp:0<d.digits.size:=by omega
  have hd:=ne_toList hp
  have hd1:(d.digits.toList==[])=false:=by simp [hd]
  have hd2:d.digits.toList.isEmpty=false:=by simp [hd]
  clear h0
  go_enter Tryz.func102,Tryz.ntmps102
  go_wp2_with fail
  refine (dvalid_ex _ _ HS.out).mono ?_
  rintro e w1 ⟨b,rfl,hv,rfl⟩
  cases b with
  | false =>
    clear hv
    go_wp2_with fail
    go_ret
    exact ⟨false,rfl,fun h=>(by cases h),Below.box _ _⟩
  | true =>
    have HV:=Hd (hv rfl)
    clear hv
    by_cases h120:d.digits.size≤120
    ·go_wp2_with fail
     refine (dzeros_ex _ _ (by omega)).mono ?_
     rintro e w2 ⟨k,rfl,hz,rfl⟩
     by_cases hk:k=0
     ·have HZ:=Hd (hz hk)
      clear hz
      subst hk
      go_wp2_with fail
      all_goals
       go_ret
       refine ⟨_,rfl,fun h=>?_,Below.box _ _⟩
       refine .inr ⟨hp,h120,HV.out.1,HV.out.2.resolve_left (by omega),HZ.out.resolve_left (by omega),?_,?_⟩<;>(go_light;grind)
     ·have hk1:(k==0)=false:=by simp [hk]
      clear hz hk
      go_wp2_with fail
      all_goals (go_ret;exact ⟨false,rfl,fun h=>(by cases h),Below.box _ _⟩)
    ·have hgt:¬ (d.digits.size:Int)≤120:=by omega
     go_wp2_with fail
     all_goals (go_ret;exact ⟨false,rfl,fun h=>(by cases h),Below.box _ _⟩)
theorem decv_exact (d:DecD) (w:World) (hs:d.digits.size≤maxLen):Calls Tryz.prog 102 #[.agg #[.bool d.neg,.string d.digits,.int .i64 d.exp]] w (BolR (vdecB d) w):=by
 cases h:vdecB d
 ·refine (decv_no d w hs).mono ?_
  rintro e w' ⟨b,rfl,hb,hw⟩
  cases b
  ·exact ⟨rfl,hw⟩
  ·exact absurd (hb rfl) (vdecB_false h)
 ·exact dec_valid d w ((vdecB_iff d).1 h)
end Go.Proofs.YtagkjofpncpcpaaGreatDoor
