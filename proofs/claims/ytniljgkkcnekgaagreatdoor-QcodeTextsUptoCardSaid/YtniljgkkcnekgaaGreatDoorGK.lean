/- Decimals: datakitref02.Valid and decimal.Valid: the same test, exactly. -/
import Derived.Test.YtniljgkkcnekgaaGreatDoorProg
import Derived.Test.YtniljgkkcnekgaaGreatDoorGA
import Derived.Test.YtniljgkkcnekgaaGreatDoorGB
import Derived.Test.YtniljgkkcnekgaaGreatDoorShelf
import Derived.Test.YtniljgkkcnekgaaGreatDoorGU
import Derived.Test.YtniljgkkcnekgaaGreatDoorGF
import Derived.Test.YtniljgkkcnekgaaGreatDoorHN
import Derived.Test.YtniljgkkcnekgaaGreatDoorGH
import Derived.Test.YtniljgkkcnekgaaGreatDoorGD
import Derived.Test.YtniljgkkcnekgaaGreatDoorGC
namespace Go.Proofs.YtniljgkkcnekgaaGreatDoor
open Go.RowKit
theorem zeros_no (s:ByteArray) (w:World) (hs:s.size≤maxLen) (hp:0<s.size) (h48:byteI s (s.size-1)≠48):Calls Tryz.prog 123 #[.string s] w (NoZeroR w):=by
 unfold maxLen at hs
 have H48:=Hd h48
 clear h48
 go_enter Tryz.func123,Tryz.ntmps123
 go_wp2_with fail
 go_loop [3] (fun i=>i=.int .i64 0) (fun i=>1-(intOf i).toNat)
 case atStart=>rfl
 case round =>
  obtain rfl:=hrel
  have hi0:(0:Int)≤(s.size:Int)-1:=by omega
  have hi1:(s.size:Int)-1<(s.size:Int):=by omega
  have hlt2:s.size-1<s.size:=by omega
  have htn:((s.size:Int)-1).toNat=s.size-1:=by omega
  have hb:=byteI_eq hlt2
  have q1:(byteI s (s.size-1)==48)=false:=by simpa using H48.out
  have q2:(byteI s (s.size-1) != 48)=true:=by simpa using H48.out
  go_wp2_with fail
  all_goals
   go_ret
   exact ⟨rfl,rfl⟩
theorem dec02_yes (d:DecD) (w:World) (hv:VDec d):Calls Tryz.prog 100 #[.agg #[.bool d.neg,.string d.digits,.int .i64 d.exp]] w (YesB w):=by
 rcases hv with ⟨h0,hn,he⟩ | ⟨hp,h120,hdg,hf,hlz,he1,he2⟩
 ·have hd:=toList_nil h0
  clear h0
  go_enter Tryz.func100,Tryz.ntmps100
  go_wp2_with fail
  all_goals (go_ret;exact ⟨rfl,Below.box _ _⟩)
 ·have hd:=ne_toList hp
  have hd1:(d.digits.toList==[])=false:=by simp [hd]
  have hd2:d.digits.toList.isEmpty=false:=by simp [hd]
  have HD:=Hd hdg
  have HL:=Hd hlz
  have HF:=Hd hf
  clear hdg hlz hf
  go_enter Tryz.func100,Tryz.ntmps100
  go_wp2_with (first
   | (go_at_call 122;refine (valid01_yes _ _ (by omega) HD.out (.inr HF.out)).mono ?_;rintro e w' ⟨rfl,rfl⟩)
   | (go_at_call 123;refine (zeros_no _ _ (by unfold maxLen;omega) hp HL.out).mono ?_;rintro e w' ⟨rfl,rfl⟩))
  all_goals (go_ret;exact ⟨rfl,Below.box _ _⟩)
theorem vdecB_false {d:DecD} (h:vdecB d=false):¬ VDec d:=fun hv=>by
 rw [(vdecB_iff d).2 hv] at h
 cases h
theorem dec02_exact (d:DecD) (w:World) (hs:d.digits.size≤maxLen):Calls Tryz.prog 100 #[.agg #[.bool d.neg,.string d.digits,.int .i64 d.exp]] w (BolR (vdecB d) w):=by
 cases h:vdecB d
 ·refine (valid02_ex d w hs).mono ?_
  rintro e w' ⟨b,rfl,hb,hw⟩
  cases b
  ·exact ⟨rfl,hw⟩
  ·exact absurd (hb rfl) (vdecB_false h)
 ·exact dec02_yes d w ((vdecB_iff d).1 h)
theorem all_ex (s:ByteArray) (w:World) (hs:s.size≤maxLen):Calls Tryz.prog 127 #[.string s] w (DigR s w):=by
 unfold maxLen at hs
 go_enter Tryz.func127,Tryz.ntmps127
 go_wp2_with fail
 go_simp
 go_loop [6] (fun i=>∃ k:Nat,k≤s.size∧i=.int .i64 k∧Hid (∀ j,j<k→48≤byteI s j∧byteI s j≤57)) (fun i=>s.size-(intOf i).toNat)
 case atStart=>exact ⟨0,by omega,rfl,Hd (by omega)⟩
 case round =>
  obtain ⟨k,hk,rfl,HA⟩:=hrel
  by_cases hlt:k<s.size
  ·have hb:=byteI_eq hlt
   by_cases h1:48≤byteI s k∧byteI s k≤57
   ·have H1:=Hd h1
    obtain ⟨h1,h2⟩:=h1
    have h3:¬ byteI s k<48:=by omega
    have h4:¬ 57<byteI s k:=by omega
    go_wp2_with fail
    go_round
    case rel=>exact ⟨k+1,by omega,by go_num,Hd (fun j hj=>by
     by_cases e:j=k
     ·subst e;exact H1.out
     ·exact HA.out j (by omega))⟩
    case measure=>simp [intOf];omega
   ·have h2:byteI s k<48∨57<byteI s k:=by omega
    clear h1
    rcases h2 with h2 | h2
    all_goals
     go_wp2_with fail
     all_goals
      go_ret
      exact ⟨_,rfl,fun h=>(by cases h),rfl⟩
  ·have HD:=Hd (show DigS s from fun i hi=>HA.out i (by omega))
   go_wp2_with fail
   go_ret
   exact ⟨_,rfl,fun _=>HD.out,rfl⟩
theorem dvalid_ex (s:ByteArray) (w:World) (hs:s.size≤maxLen):Calls Tryz.prog 108 #[.string s] w (Vld1R s w):=by
 have HS:=Hd hs
 unfold maxLen at hs
 by_cases h600:s.size≤600
 ·by_cases h0:s.size=0
  ·have hn:=toList_nil h0
   have H0:=Hd h0
   clear h0
   go_enter Tryz.func108,Tryz.ntmps108
   go_wp2_with fail
   refine (all_ex _ _ HS.out).mono ?_
   rintro e w' ⟨b,rfl,hb,rfl⟩
   have HB:=Hd hb
   clear hb
   cases b
   all_goals
    go_wp2_with fail
    go_ret
    exact ⟨_,rfl,fun _=>⟨fun i hi=>by have:=H0.out;omega,.inl H0.out⟩,rfl⟩
  ·have hp:0<s.size:=by omega
   have hn:=ne_toList hp
   have hn1:(s.toList==[])=false:=by simp [hn]
   have hn2:s.toList.isEmpty=false:=by simp [hn]
   have hb:=byteI_eq hp
   clear h0
   by_cases h48:byteI s 0=48
   ·have q1:(byteI s 0 != 48)=false:=by simp [h48]
    go_enter Tryz.func108,Tryz.ntmps108
    go_wp2_with fail
    refine (all_ex _ _ HS.out).mono ?_
    rintro e w' ⟨b,rfl,hb,rfl⟩
    clear hb
    cases b
    all_goals
     go_wp2_with fail
     go_ret
     exact ⟨false,rfl,fun h=>(by cases h),rfl⟩
   ·have q1:(byteI s 0 != 48)=true:=by simp [h48]
    have H48:=Hd h48
    go_enter Tryz.func108,Tryz.ntmps108
    go_wp2_with fail
    refine (all_ex _ _ HS.out).mono ?_
    rintro e w' ⟨b,rfl,hb,rfl⟩
    cases b
    ·clear hb
     go_wp2_with fail
     go_ret
     exact ⟨false,rfl,fun h=>(by cases h),rfl⟩
    ·have HB:=Hd (hb rfl)
     clear hb
     go_wp2_with fail
     go_ret
     exact ⟨true,rfl,fun _=>⟨HB.out,.inr H48.out⟩,rfl⟩
 ·have h601:¬ (s.size:Int)≤600:=by omega
  go_enter Tryz.func108,Tryz.ntmps108
  go_wp2_with fail
  go_ret
  exact ⟨false,rfl,fun h=>(by cases h),rfl⟩
theorem trim_le (l:List UInt8) (c:UInt8):(Lib.trimRightB l c).length≤l.length:=by
 unfold Lib.trimRightB
 rw [List.length_reverse]
 exact Nat.le_trans (List.dropWhile_sublist _).length_le (by simp)
theorem trim_less {s:ByteArray} (hp:0<s.size) (h:byteI s (s.size-1)=48):(Lib.trimRightB s.data.toList 48).length<s.size:=by
 have hlt:s.size-1<s.size:=by omega
 have hlen:s.data.toList.length=s.size:=by rw [Array.length_toList];rfl
 have hx:s[s.size-1]=48:=by
  rw [← byteI_eq hlt] at h
  exact UInt8.toNat_inj.1 (show s[s.size-1].toNat=48 by omega)
 have hl:s.data.toList=s.data.toList.take (s.size-1)++[s[s.size-1]]:=by
  have h1:=(List.take_append_drop (s.size-1) s.data.toList).symm
  have h2:s.data.toList.drop (s.size-1)=[s[s.size-1]]:=by
   rw [List.drop_eq_getElem_cons (by omega),List.drop_eq_nil_of_le (by omega)]
   rfl
  rw [h2] at h1
  exact h1
 unfold Lib.trimRightB
 rw [hl,List.reverse_append,List.reverse_singleton,List.singleton_append,List.dropWhile_cons_of_pos (by simpa using hx),List.length_reverse]
 refine Nat.lt_of_le_of_lt (List.dropWhile_sublist _).length_le ?_
 rw [List.length_reverse,List.length_take]
 omega
def DzrR (s:ByteArray) (w:World) (e:Ending) (w':World):Prop:=∃ k:Int,e=.returned (.int .i64 k)∧(k=0→s.size=0∨byteI s (s.size-1)≠48)∧w=w'
theorem dzeros_ex (s:ByteArray) (w:World) (hs:s.size≤600):Calls Tryz.prog 109 #[.string s] w (DzrR s w):=by
 have hle:=trim_le s.data.toList 48
 have HT:=Hd (fun hp h=>trim_less (s:=s) hp h)
 have hlen:s.data.toList.length=s.size:=by rw [Array.length_toList];rfl
 rw [hlen] at hle
 clear hlen
 go_enter Tryz.func109,Tryz.ntmps109
 go_wp2_with fail
 refine (Tryz.strings_TrimRight_one s 48 (by decide) w (by omega)).mono ?_
 rintro e w' ⟨rfl,rfl⟩
 obtain ⟨t,ht⟩:∃ t,t=Lib.trimRightB s.data.toList 48:=⟨_,rfl⟩
 rw [← ht] at hle ⊢
 have HTT:=Hd ht
 have hts:(⟨t.toArray⟩:ByteArray).size=t.length:=by simp [ByteArray.size]
 clear ht
 go_wp2_with fail
 go_ret
 refine ⟨_,rfl,fun h=>?_,rfl⟩
 rcases Nat.eq_zero_or_pos s.size with h0 | hp
 ·exact .inl h0
 ·refine .inr fun h48=>?_
  have:=HT.out hp h48
  rw [← HTT.out] at this
  omega
theorem decv_no (d:DecD) (w:World) (hs:d.digits.size≤maxLen):Calls Tryz.prog 82 #[.agg #[.bool d.neg,.string d.digits,.int .i64 d.exp]] w (Vld2R d w):=by
 have HS:=Hd hs
 by_cases h0:d.digits.size=0
 ·have hd:=toList_nil h0
  have E1:=eqDEC0 d
  have HB:=Hd (show decB d ⟨false,⟨#[]⟩,0⟩=true→VDec d by
   intro h
   have:(⟨#[]⟩:ByteArray).toList=[]:=toList_nil rfl
   simp [decB,hd,this] at h
   exact .inl ⟨h0,h.1,h.2⟩)
  have G1:=guardDEC
  clear h0
  generalize decB d ⟨false,⟨#[]⟩,0⟩=db at *
  go_enter Tryz.func82,Tryz.ntmps82
  go_wp2_with fail
  go_ret
  exact ⟨_,rfl,HB.out,Below.box _ _⟩
 ·have hp:0<d.digits.size:=by omega
  have hd:=ne_toList hp
  have hd1:(d.digits.toList==[])=false:=by simp [hd]
  have hd2:d.digits.toList.isEmpty=false:=by simp [hd]
  clear h0
  go_enter Tryz.func82,Tryz.ntmps82
  go_wp2_with fail
  refine (dvalid_ex _ _ HS.out).mono ?_
  rintro e w1 ⟨b,rfl,hv,rfl⟩
  cases b with
  | false =>
    clear hv
    go_wp2_with fail
    go_ret
    exact ⟨false,rfl,fun h=>(by cases h),Below.box _ _⟩
  | true =>
    have HV:=Hd (hv rfl)
    clear hv
    by_cases h120:d.digits.size≤120
    ·go_wp2_with fail
     refine (dzeros_ex _ _ (by omega)).mono ?_
     rintro e w2 ⟨k,rfl,hz,rfl⟩
     by_cases hk:k=0
     ·have HZ:=Hd (hz hk)
      clear hz
      subst hk
      go_wp2_with fail
      all_goals
       go_ret
       refine ⟨_,rfl,fun h=>?_,Below.box _ _⟩
       refine .inr ⟨hp,h120,HV.out.1,HV.out.2.resolve_left (by omega),HZ.out.resolve_left (by omega),?_,?_⟩<;>(go_light;grind)
     ·have hk1:(k==0)=false:=by simp [hk]
      clear hz hk
      go_wp2_with fail
      all_goals (go_ret;exact ⟨false,rfl,fun h=>(by cases h),Below.box _ _⟩)
    ·have hgt:¬ (d.digits.size:Int)≤120:=by omega
     go_wp2_with fail
     all_goals (go_ret;exact ⟨false,rfl,fun h=>(by cases h),Below.box _ _⟩)
theorem decv_exact (d:DecD) (w:World) (hs:d.digits.size≤maxLen):Calls Tryz.prog 82 #[.agg #[.bool d.neg,.string d.digits,.int .i64 d.exp]] w (BolR (vdecB d) w):=by
 cases h:vdecB d
 ·refine (decv_no d w hs).mono ?_
  rintro e w' ⟨b,rfl,hb,hw⟩
  cases b
  ·exact ⟨rfl,hw⟩
  ·exact absurd (hb rfl) (vdecB_false h)
 ·exact dec_valid d w ((vdecB_iff d).1 h)
end Go.Proofs.YtniljgkkcnekgaaGreatDoor

/- Keys: datakitref07.Keys and value.keys find the same first error. -/
namespace Go.Proofs.YtniljgkkcnekgaaGreatDoor
open Go.RowKit
def IntB (k:Int) (w:World) (e:Ending) (w':World):Prop:=e=.returned (.int .i64 k)∧Below w.heap.size w w'
def fstK (l:List (ByteArray×ValD)):List ByteArray:=l.map (·.1)
theorem fstK_len (l:List (ByteArray×ValD)):(fstK l).length=l.length:=by simp [fstK]
theorem fstK_get {l:List (ByteArray×ValD)} {k:Nat} (h:k<l.length) (h2:k<(fstK l).length):(fstK l)[k]=l[k].1:=by simp [fstK]
theorem toList_data_eq {a b:ByteArray}:a.toList=b.toList↔a.data.toList=b.data.toList:=by rw [ByteArray.toList_eq,ByteArray.toList_eq]
set_option maxRecDepth 100000 in
set_option maxHeartbeats 1600000 in
theorem keys07_ex (l:List (ByteArray×ValD)) (a:Option Addr) (c:Nat) (w:World) (B N:Nat) (hN:N≤4294967296) (hl:l.length≤N) (hB:B≤w.heap.size) (h:FieldsAt w B N l a) :
 Calls Tryz.prog 102 #[.slice a l.length c] w (IntB (keysE [] (fstK l)) w):=by
 have H:=Hd h
 have hfl:=fstK_len l
 clear h
 go_enter Tryz.func102,Tryz.ntmps102
 go_wp2_with fail
 go_loopw [3] (fun i wr=>∃ k:Nat,k≤l.length∧i=.int .i64 k∧Hid (keysE [] (fstK l)=keysE (before (fstK l) k) ((fstK l).drop k))∧Hid (Below w.heap.size w wr)) (fun i _=>l.length-(intOf i).toNat)
 case atStart=>exact ⟨0,by omega,rfl,Hd rfl,Hd (Below.refl _ _)⟩
 case round =>
  obtain ⟨k,hk,rfl,HE,HB⟩:=hrel
  by_cases hlt:k<l.length
  ·obtain ⟨b,o,rfl,hb,hget⟩:=(H.out.below (HB.out.mono hB)).get (by intro h;simp [h] at hlt)
   obtain ⟨cs1,hs1,h1,_⟩:=hget k hlt
   have HG:=Hd hget
   have hsz:=HB.out.size
   have HK:=Hd (fstK_get hlt (by omega))
   have hlt2:k<(fstK l).length:=by omega
   obtain ⟨ky,hky⟩:∃ ky,ky=l[k].1:=⟨_,rfl⟩
   rw [← hky] at h1 hs1
   have HKY:=Hd hky
   have e1:=h1.get0' (v:=.string ky) rfl
   clear h1 hget hky
   go_wp2_with fail
   refine (valid03_ex ky _ (by omega)).mono ?_
   rintro e w1 ⟨rfl,hb1⟩
   have HB1:=Hd (belowThen HB.out hb1)
   have e2:=(hb1.cell (p:=⟨b,o+k * 14,none⟩) (by show b<wr.heap.size;omega)).trans e1
   have HW:=Hd hb1
   clear hb1
   cases hok:validS ky
   ·have HX:=Hd (show keysE [] (fstK l)=5 by rw [HE.out];exact keysE_5 hlt2 (by rw [HK.out,← HKY.out];exact hok))
    clear hok
    go_wp2_with fail
    go_ret
    exact ⟨ret_int (by rw [HX.out]),HB1.out⟩
   ·have HV:=Hd hok
    clear hok
    by_cases hl4:1024<ky.size
    ·have HX:=Hd (show keysE [] (fstK l)=10 by rw [HE.out];exact keysE_10 hlt2 (by rw [HK.out,← HKY.out];exact HV.out) (by rw [HK.out,← HKY.out];exact hl4))
     go_wp2_with fail
     go_ret
     exact ⟨ret_int (by rw [HX.out]),HB1.out⟩
    ·go_wp2_with fail
     go_simp
     go_loopw [4] (fun i wr2=>∃ j:Nat,j≤k∧i=.int .i64 j∧Hid (∀ q (hq:q<l.length),q<j→¬ l[q].1.toList=ky.toList)∧∃ m,wr2=w1.drewN m) (fun i _=>k-(intOf i).toNat)
     case atStart=>exact ⟨0,by omega,rfl,Hd (by omega),0,rfl⟩
     case round =>
      obtain ⟨j,hj,rfl,HQ,m,rfl⟩:=hrel
      by_cases hjk:j<k
      ·obtain ⟨cs2,hs2,h2,_⟩:=HG.out j (by omega)
       have hjl:j<l.length:=by omega
       obtain ⟨kz,hkz⟩:∃ kz,kz=l[j].1:=⟨_,rfl⟩
       rw [← hkz] at h2 hs2
       have HKZ:=Hd hkz
       have e3:=(HW.out.cell (p:=⟨b,o+j * 14,none⟩) (by show b<wr.heap.size;omega)).trans (h2.get0' (v:=.string kz) rfl)
       clear h2 hkz
       by_cases hq:kz.toList=ky.toList
       ·have q1:(kz.toList==ky.toList)=true:=by simpa using hq
        have q2:(ky.toList==kz.toList)=true:=by simpa using hq.symm
        have HX:=Hd (show keysE [] (fstK l)=8 by
         rw [HE.out]
         refine keysE_8 hlt2 (by rw [HK.out,← HKY.out];exact HV.out) (by rw [HK.out,← HKY.out];omega) ?_
         rw [mem_before]
         exact ⟨j,by omega,hjk,by rw [fstK_get hjl,HK.out,← HKY.out,← HKZ.out];exact toList_data_eq.1 hq⟩)
        clear hq
        go_wp2_with fail
        go_quiet (fail)
        go_wp2_with fail
        go_ret
        exact ⟨ret_int (by rw [HX.out]),belowThen HB1.out (below_drewN' ⟨_,World.drewN_drewN _ _ _⟩)⟩
       ·have q1:(kz.toList==ky.toList)=false:=by simpa using hq
        have q2:(ky.toList==kz.toList)=false:=by simpa using fun e=>hq e.symm
        have HQ2:=Hd (show ∀ q (hq:q<l.length),q<j+1→¬ l[q].1.toList=ky.toList from fun q hq1 hq2=>by
         by_cases e:q=j
         ·subst e;rw [← HKZ.out];exact hq
         ·exact HQ.out q hq1 (by omega))
        clear hq
        go_wp2_with fail
        go_quiet (fail)
        go_wp2_with fail
        go_roundw
        case rel=>exact ⟨j+1,by omega,by go_num,HQ2,_,rfl⟩
        case measure=>simp [intOf];omega
      ·have HE2:=Hd (show keysE [] (fstK l)=keysE (before (fstK l) (k+1)) ((fstK l).drop (k+1)) by
        rw [HE.out]
        refine keysE_go hlt2 (by rw [HK.out,← HKY.out];exact HV.out) (by rw [HK.out,← HKY.out];omega) ?_
        rw [mem_before]
        rintro ⟨q,hq1,hq2,hq3⟩
        rw [fstK_get (by omega),HK.out,← HKY.out] at hq3
        exact HQ.out q (by omega) (by omega) (toList_data_eq.2 hq3))
       go_wp2_with fail
       go_roundw
       case rel=>exact ⟨k+1,by omega,by go_num,HE2,Hd (belowThen HB1.out (below_drewN _ _))⟩
       case measure=>simp [intOf];omega
  ·obtain rfl:k=l.length:=by omega
   have HX:=Hd (show keysE [] (fstK l)=0 by rw [HE.out,← fstK_len l];exact keysE_end)
   go_wp2_with fail
   go_ret
   exact ⟨ret_int (by rw [HX.out]),HB.out⟩
def keyC (s:ByteArray):Int:=if validS s=false then 5 else if 1024<s.size then 10 else 0
theorem key_ex (s:ByteArray) (w:World) (hs:s.size≤1099511627776):Calls Tryz.prog 111 #[.string s] w (fun e w'=>e=.returned (.int .i64 (keyC s))∧w=w'):=by
 have HC:=Hd (show keyC s=if validS s=false then 5 else if 1024<s.size then 10 else 0 from rfl)
 cases hv:validS s
 ·have HV:=Hd hv
  go_enter Tryz.func111,Tryz.ntmps111
  go_wp2_with fail
  refine (uvalid_ex s _ hs).mono ?_
  rw [HV.out]
  rintro e w' ⟨rfl,rfl⟩
  go_wp2_with fail
  go_ret
  exact ⟨ret_int (by rw [HC.out,HV.out,if_pos rfl]),rfl⟩
 ·have HV:=Hd hv
  by_cases hl:1024<s.size
  ·go_enter Tryz.func111,Tryz.ntmps111
   go_wp2_with fail
   refine (uvalid_ex s _ hs).mono ?_
   rw [HV.out]
   rintro e w' ⟨rfl,rfl⟩
   go_wp2_with fail
   go_ret
   exact ⟨ret_int (by rw [HC.out,HV.out,if_neg (by simp),if_pos hl]),rfl⟩
  ·have HL:=Hd hl
   go_enter Tryz.func111,Tryz.ntmps111
   go_wp2_with fail
   refine (uvalid_ex s _ hs).mono ?_
   rw [HV.out]
   rintro e w' ⟨rfl,rfl⟩
   go_wp2_with fail
   go_ret
   exact ⟨ret_int (by rw [HC.out,HV.out,if_neg (by simp),if_neg HL.out]),rfl⟩
theorem key_n (s:ByteArray) (k:Int) (h:keyC s=k) (w:World) (hs:s.size≤1099511627776):Calls Tryz.prog 111 #[.string s] w (fun e w'=>e=.returned (.int .i64 k)∧w=w') :=
 (key_ex s w hs).mono fun e w' hh=>⟨by rw [hh.1,h],hh.2⟩
theorem zeroBool (w:World):(zeroValue 4).run Tryz.prog w=.ok (.bool false) w:=by kernel_rfl
set_option maxRecDepth 100000 in
set_option maxHeartbeats 1600000 in
theorem keysP_ex (l:List (ByteArray×ValD)) (a:Option Addr) (c:Nat) (w:World) (B N:Nat) (hN:N≤4294967296) (hl:l.length≤N) (hB:B≤w.heap.size) (h:FieldsAt w B N l a) :
 Calls Tryz.prog 85 #[.slice a l.length c] w (IntB (keysE [] (fstK l)) w):=by
 have H:=Hd h
 have hfl:=fstK_len l
 clear h
 have hmm:=@run_makeMap Tryz.prog
 go_enter Tryz.func85,Tryz.ntmps85
 go_wp2_with fail
 clear hmm
 go_simp
 go_loopw [10] (fun i wr=>∃ k:Nat,k≤l.length∧i=.int .i64 k∧Hid (keysE [] (fstK l)=keysE (before (fstK l) k) ((fstK l).drop k))∧Hid (SetAt wr 9 4 w.heap.size k (before (fstK l) k))∧Hid (Below w.heap.size w wr)∧w.heap.size<wr.heap.size) (fun i _=>l.length-(intOf i).toNat)
 case atStart=>exact ⟨0,by omega,rfl,Hd rfl,Hd (SetAt.made w 9 4),Hd ((Below.refl _ _).alloc (Nat.le_refl _) _),by simp⟩
 case round =>
  obtain ⟨w1,rfl⟩:∃ w1,w1=wr:=⟨wr,rfl⟩
  obtain ⟨k,hk,rfl,HE,HSET,HB,hs⟩:=hrel
  by_cases hlt:k<l.length
  ·obtain ⟨b,o,rfl,hb,hget⟩:=H.out.get (by intro h;simp [h] at hlt)
   obtain ⟨cs1,hs1,h1,h2⟩:=hget k hlt
   have HK:=Hd (fstK_get hlt (by omega))
   have hlt2:k<(fstK l).length:=by omega
   obtain ⟨ky,hky⟩:∃ ky,ky=l[k].1:=⟨_,rfl⟩
   rw [← hky] at h1 hs1
   have HKY:=Hd hky
   have HR1:=Hd (h1.below (HB.out.mono hB) hb).range
   have hlen:=h2.len
   have hl1:=Hd (show (Tryz.prog.info? 76).map (·.size)=some (Value.string ky::cs1).length by rw [List.length_cons,h2.len];exact sizeF)
   have hl2:=Hd (show (Tryz.prog.info? 76).map (·.size)=some (Value.string ky::cs1).toArray.size by rw [List.size_toArray,List.length_cons,h2.len];exact sizeF)
   have hl3:=Hd (show zeroF.size=(Value.string ky::cs1).toArray.size by show 14=_;rw [List.size_toArray,List.length_cons,h2.len])
   have hone:=Hd (show (Value.string ky::cs1).toArray.all (·.oneCell')=true from Go.all_oneCell_toArray (fun u hu=>by
    rcases List.mem_cons.1 hu with rfl | hu
    ·rfl
    ·exact h2.oneCell u hu))
   have HBX:=Hd (show Below w.heap.size w (w1.alloc (.cells (.string ky::cs1).toArray 76)) from belowThen HB.out (belowBox w1 _))
   have HS2:=Hd (HSET.out.later (belowBox w1 (.cells (.string ky::cs1).toArray 76)))
   have e1:=(box_at w1 (.string ky::cs1) 76).get0 (j:=0) (v:=.string ky) rfl
   clear h1 h2 hget hky
   by_cases hok:validS ky=false
   ·have HX:=Hd (show keysE [] (fstK l)=5 by rw [HE.out];exact keysE_5 hlt2 (by rw [HK.out,← HKY.out];exact hok))
    have HC:=Hd (show keyC ky=5 by unfold keyC;rw [if_pos hok])
    clear hok
    go_wp2_with (first
     | ((with_reducible show wpList _ _ _ (⟨some 13,_,_,_,_,_⟩::_) _ _);refine wpList_load_mid rfl 76 _ rfl b (o+k * 14) rfl (.string ky::cs1) _ HR1.out Tryz.underlying76 rfl hl1.out ?_)
     | ((with_reducible show wpList _ _ _ (⟨none,.store 76 (.tmp 5) _,_,_,_,_⟩::_) _ _);refine wpList_store_new rfl 76 _ _ rfl zeroF (.string ky::cs1).toArray rfl rfl hl2.out hl3.out hone.out ?_))
    refine (key_n ky 5 HC.out _ (by omega)).mono ?_
    rintro e w2 ⟨rfl,rfl⟩
    go_wp2_with fail
    go_ret
    exact ⟨ret_int (by rw [HX.out]),HBX.out⟩
   ·have hok2:validS ky=true:=by simpa using hok
    by_cases hl4:1024<ky.size
    ·have HX:=Hd (show keysE [] (fstK l)=10 by rw [HE.out];exact keysE_10 hlt2 (by rw [HK.out,← HKY.out];exact hok2) (by rw [HK.out,← HKY.out];exact hl4))
     have HC:=Hd (show keyC ky=10 by unfold keyC;rw [if_neg hok,if_pos hl4])
     clear hok hok2
     go_wp2_with (first
      | ((with_reducible show wpList _ _ _ (⟨some 13,_,_,_,_,_⟩::_) _ _);refine wpList_load_mid rfl 76 _ rfl b (o+k * 14) rfl (.string ky::cs1) _ HR1.out Tryz.underlying76 rfl hl1.out ?_)
      | ((with_reducible show wpList _ _ _ (⟨none,.store 76 (.tmp 5) _,_,_,_,_⟩::_) _ _);refine wpList_store_new rfl 76 _ _ rfl zeroF (.string ky::cs1).toArray rfl rfl hl2.out hl3.out hone.out ?_))
     refine (key_n ky 10 HC.out _ (by omega)).mono ?_
     rintro e w2 ⟨rfl,rfl⟩
     go_wp2_with fail
     go_ret
     exact ⟨ret_int (by rw [HX.out]),HBX.out⟩
    ·have HC:=Hd (show keyC ky=0 by unfold keyC;rw [if_neg hok,if_neg hl4])
     have HV:=Hd hok2
     clear hok hok2
     by_cases hmem:ky.data.toList∈before (fstK l) k
     ·have HM:=Hd (show decide (ky.data.toList∈before (fstK l) k)=true by simpa using hmem)
      have HX:=Hd (show keysE [] (fstK l)=8 by rw [HE.out];exact keysE_8 hlt2 (by rw [HK.out,← HKY.out];exact HV.out) (by rw [HK.out,← HKY.out];omega) (by rw [HK.out,← HKY.out];exact hmem))
      clear hmem
      go_wp2_with (first
       | ((with_reducible show wpList _ _ _ (⟨some 13,_,_,_,_,_⟩::_) _ _);refine wpList_load_mid rfl 76 _ rfl b (o+k * 14) rfl (.string ky::cs1) _ HR1.out Tryz.underlying76 rfl hl1.out ?_)
       | ((with_reducible show wpList _ _ _ (⟨none,.store 76 (.tmp 5) _,_,_,_,_⟩::_) _ _);refine wpList_store_new rfl 76 _ _ rfl zeroF (.string ky::cs1).toArray rfl rfl hl2.out hl3.out hone.out ?_))
      refine (key_n ky 0 HC.out _ (by omega)).mono ?_
      rintro e w2 ⟨rfl,rfl⟩
      go_wp2_with (at_lookup;refine wpList_look_set rfl _ _ 137 rfl Tryz.underlying9 Tryz.underlying4 Tryz.underlying137 (zeroBool _) rfl HS2.out ky rfl (by unfold maxLen;omega) true HM.out ?_)
      go_ret
      exact ⟨ret_int (by rw [HX.out]),HBX.out⟩
     ·have HM:=Hd (show decide (ky.data.toList∈before (fstK l) k)=false by simpa using hmem)
      have HE2:=Hd (show keysE [] (fstK l)=keysE (before (fstK l) (k+1)) ((fstK l).drop (k+1)) by
       rw [HE.out]
       exact keysE_go hlt2 (by rw [HK.out,← HKY.out];exact HV.out) (by rw [HK.out,← HKY.out];omega) (by rw [HK.out,← HKY.out];exact hmem))
      have HBE:=Hd (show before (fstK l) (k+1)=before (fstK l) k++[ky.data.toList] by rw [before_succ hlt2,HK.out,← HKY.out])
      clear hmem
      go_wp2_with (first
       | ((with_reducible show wpList _ _ _ (⟨some 13,_,_,_,_,_⟩::_) _ _);refine wpList_load_mid rfl 76 _ rfl b (o+k * 14) rfl (.string ky::cs1) _ HR1.out Tryz.underlying76 rfl hl1.out ?_)
       | ((with_reducible show wpList _ _ _ (⟨none,.store 76 (.tmp 5) _,_,_,_,_⟩::_) _ _);refine wpList_store_new rfl 76 _ _ rfl zeroF (.string ky::cs1).toArray rfl rfl hl2.out hl3.out hone.out ?_))
      refine (key_n ky 0 HC.out _ (by omega)).mono ?_
      rintro e w2 ⟨rfl,rfl⟩
      go_wp2_with (first
       | (at_lookup;refine wpList_look_set rfl _ _ 137 rfl Tryz.underlying9 Tryz.underlying4 Tryz.underlying137 (zeroBool _) rfl HS2.out ky rfl (by unfold maxLen;omega) false HM.out ?_)
       | (at_mapUpdate;refine wpList_put_set rfl _ _ _ 137 rfl Tryz.underlying9 Tryz.underlying4 Tryz.underlying137 rfl HS2.out (by unfold maxLen;omega) ky rfl rfl (by unfold maxLen;omega) ?_))
      intro w3 hset hgrow
      have HS3:=Hd hset
      have HB3:=Hd (show Below w.heap.size w w3 from HBX.out.grown hgrow (by rw [World.size_alloc];omega) (fun q hq=>by cases hq;omega))
      have hs3:w.heap.size<w3.heap.size:=by have:=hgrow.size;rw [World.size_alloc] at this;omega
      clear hset hgrow
      go_wp2
      go_roundw
      case rel=>exact ⟨k+1,by omega,by go_num,HE2,Hd (by rw [HBE.out];exact HS3.out),HB3,hs3⟩
      case measure=>simp [intOf];omega
  ·obtain rfl:k=l.length:=by omega
   have HX:=Hd (show keysE [] (fstK l)=0 by rw [HE.out,← fstK_len l];exact keysE_end)
   go_wp2_with fail
   go_ret
   exact ⟨ret_int (by rw [HX.out]),HB.out⟩
end Go.Proofs.YtniljgkkcnekgaaGreatDoor

/- Small laws for the check of values: a counter behind a pointer, the parts of a value. -/
namespace Go.Proofs.YtniljgkkcnekgaaGreatDoor
open Go.RowKit
structure FB (pb:Nat) (w w':World):Prop where
 os:w'.os=w.os
 tape:w'.tape=w.tape
 output:w'.output=w.output
 size:w.heap.size≤w'.heap.size
 block:∀ k,k<w.heap.size→k≠pb→w'.heap[k]?=w.heap[k]?
theorem FB.refl (pb:Nat) (w:World):FB pb w w:=⟨rfl,rfl,rfl,Nat.le_refl _,fun _ _ _=>rfl⟩
theorem FB.trans {pb:Nat} {a b c:World} (h:FB pb a b) (k:FB pb b c):FB pb a c :=
 ⟨k.os.trans h.os,k.tape.trans h.tape,k.output.trans h.output,Nat.le_trans h.size k.size,fun i hi hn=>(k.block i (Nat.lt_of_lt_of_le hi h.size) hn).trans (h.block i hi hn)⟩
theorem FB.of_below {pb:Nat} {a b:World} (h:Below a.heap.size a b):FB pb a b:=⟨h.os,h.tape,h.output,h.size,fun k hk _=>h.block k hk⟩
theorem FB.setCell {pb:Nat} (a:World) (o:Nat) (u:Value):FB pb a (a.setCell ⟨pb,o,none⟩ u):=⟨rfl,rfl,rfl,by simp,fun k _ hn=>heap_setCell_other a _ k u hn⟩
theorem FB.below {pb B:Nat} {a b:World} (h:FB pb a b) (hB:B≤pb) (hs:B≤a.heap.size):Below B a b:=⟨h.os,h.tape,h.output,h.size,fun k hk=>h.block k (by omega) (by omega)⟩
theorem FB.cells {pb b o:Nat} {a c:World} {cs:List Value} (h:FB pb a c) (hc:CellsAt a b o cs) (hb:b<a.heap.size) (hn:b≠pb):CellsAt c b o cs:=fun j hj=>by
 rw [← hc j hj]
 simp only [World.cell?]
 rw [h.block b hb hn]
def CellI (w:World) (pb:Nat) (x:Int):Prop:=w.heap[pb]?=some (.cells #[.int .i64 x] 3 (0,0))
theorem CellI.cell {w:World} {pb:Nat} {x:Int} (h:CellI w pb x):w.cell? ⟨pb,0,none⟩=some (.int .i64 x):=by rw [cell_of_row w pb 0 _ _ _ h];rfl
theorem CellI.frozen {w:World} {pb:Nat} {x:Int} (h:CellI w pb x):w.frozen? ⟨pb,0,none⟩=false:=frozen_of_row w pb 0 _ _ h
theorem CellI.lt {w:World} {pb:Nat} {x:Int} (h:CellI w pb x):pb<w.heap.size:=by
 rcases Nat.lt_or_ge pb w.heap.size with hlt | hge
 ·exact hlt
 ·unfold CellI at h;rw [Array.getElem?_eq_none hge] at h;cases h
theorem CellI.below {w w':World} {pb:Nat} {x:Int} (h:CellI w pb x) (hb:Below w.heap.size w w'):CellI w' pb x:=(hb.block pb h.lt).trans h
theorem CellI.set {w:World} {pb:Nat} {x:Int} (y:Int) (h:CellI w pb x):CellI (w.setCell ⟨pb,0,none⟩ (.int .i64 y)) pb y:=by
 unfold CellI
 rw [heap_setCell_same w pb 0 _ _ _ h]
 rfl
theorem own_parts {v:ValD} (h:ownB v=true):kidsD v=v.list++v.fields.map (·.2):=by
 obtain ⟨_,_,_,_,_,_,_,h6,h7⟩:=(ownB_iff v).1 h
 unfold kidsD
 by_cases hk:v.kind=7
 ·rw [if_pos hk]
  have:v.list=[]:=List.length_eq_zero_iff.1 (by have:=h6 (by omega);omega)
  rw [this]
  rfl
 ·rw [if_neg hk]
  have:v.fields=[]:=List.length_eq_zero_iff.1 (by have:=h7 hk;omega)
  rw [this]
  simp
theorem drop_list {v:ValD} {k:Nat} (h:k<v.list.length):(v.list++v.fields.map (·.2)).drop k=v.list[k]::(v.list++v.fields.map (·.2)).drop (k+1):=by
 rw [List.drop_eq_getElem_cons (by simp;omega),List.getElem_append_left h]
theorem drop_fields {v:ValD} {k:Nat} (h:k<v.fields.length):(v.list++v.fields.map (·.2)).drop (v.list.length+k)=v.fields[k].2::(v.list++v.fields.map (·.2)).drop (v.list.length+(k+1)):=by
 rw [List.drop_eq_getElem_cons (by simp;omega),List.getElem_append_right (by omega)]
 congr 1
 simp
theorem drop_all (v:ValD):(v.list++v.fields.map (·.2)).drop (v.list.length+v.fields.length)=[]:=List.drop_eq_nil_of_le (by simp)
theorem wpList_load_mid_g' {P:Program} {ops:Array Oper} {rest:List Oper} {op:Oper} {a:Act} {w:World} {Q:Exit→Act→World→Prop} (hw:Region.wanted op (yielded ops a.tmps)=true) (ty:TypeId) (x:Operand) (ho:op.op=.load ty x)
 (b o:Nat) (hx:a.eval x=.pointer (some ⟨b,o,none⟩)) (cs:List Value) (d:TypeDesc) (hc:w.rangeAt b o cs)
 (hu:P.underlying ty=some d) (hd:d.isRow=true) (hi:(P.info? ty).map (·.size)=some cs.length)
 (h:wpList P ops Q rest (a.put op.dst (.agg cs.toArray)) w):wpList P ops Q (op::rest) a w :=
 wpList_step fun K hK=>by rw [if_pos hw];exact wp_load_mid ty x ho b o hx cs d hc hu hd hi (hK _ _ h)
def ChkX (pb:Nat) (r:Int×Int) (w:World) (e:Ending) (w':World):Prop:=e=.returned (.int .i64 r.2)∧FB pb w w'∧∃ x,CellI w' pb x∧(r.2=0→x=r.1)
theorem chk_end {pb:Nat} {y z n:Int} {w w':World} (hz:z≠0) (hf:FB pb w w') (hc:CellI w' pb n):ChkX pb (y,z) w (.returned (.int .i64 z)) w':=⟨rfl,hf,n,hc,fun h=>absurd h hz⟩
end Go.Proofs.YtniljgkkcnekgaaGreatDoor

/- What a value's kind lets it have (value.extra): the same test as the reference's. -/
namespace Go.Proofs.YtniljgkkcnekgaaGreatDoor
open Go.RowKit
set_option maxRecDepth 100000 in
set_option maxHeartbeats 3200000 in
theorem extra_exact (v:ValD) (w:World) (B N:Nat) (cs:List Value) (h0:0≤v.kind) (h7:v.kind<8) (hv:ValD.At w B N v cs):Calls Tryz.prog 81 #[.agg cs.toArray] w (BolR (!ownB v) w):=by
 obtain ⟨ya,la,va,yc,lc,vc,hh⟩:=hv.has
 clear hv
 have c0:=hh.kind
 have c1:=hh.bool
 have c2:=hh.neg
 have c3:=hh.digits
 have c4:=hh.exp
 have c5:=hh.tkind
 have c6:=hh.day
 have c7:=hh.nano
 have c8:=hh.offset
 have c9:=hh.text
 have c10:=hh.bytes
 have c11:=hh.list
 have c12:=hh.fields
 clear hh
 have E1:=eqDEC0 v.num
 have E2:=eqTIME0 v.time
 have G1:=guardDEC
 have G2:=guardTIME
 have HO:=Hd (ownB_iff v)
 generalize ownB v=ob at *
 generalize decB v.num ⟨false,⟨#[]⟩,0⟩=db at *
 generalize timeB v.time ⟨0,0,0,0⟩=tb at *
 generalize v.bytes.length=n1 at *
 generalize v.list.length=n2 at *
 generalize v.fields.length=n3 at *
 generalize v.kind=kd at *
 go_enter Tryz.func81,Tryz.ntmps81
 simp only [List.append_eq,List.cons_append,List.nil_append]
 go_wp2
 all_goals
  go_ret
  refine ⟨ret_bool (bool_of ?_),Below.box _ _⟩
  have hv:=HO.out
  clear HO E1 E2 G1 G2 c0 c1 c2 c3 c4 c5 c6 c7 c8 c9 c10 c11 c12
  go_light
  grind
end Go.Proofs.YtniljgkkcnekgaaGreatDoor
