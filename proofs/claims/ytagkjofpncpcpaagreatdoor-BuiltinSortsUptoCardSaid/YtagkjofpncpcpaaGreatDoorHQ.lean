/- What a value's kind lets it have (datakitref07.own, value.extra): the same test. -/
import Derived.Test.YtagkjofpncpcpaaGreatDoorProg
import Derived.Test.YtagkjofpncpcpaaGreatDoorGA
import Derived.Test.YtagkjofpncpcpaaGreatDoorU03
import Derived.Test.YtagkjofpncpcpaaGreatDoorGB
import Derived.Test.YtagkjofpncpcpaaGreatDoorGC
import Derived.Test.YtagkjofpncpcpaaGreatDoorGD
import Derived.Test.YtagkjofpncpcpaaGreatDoorUtf8D
import Derived.Test.YtagkjofpncpcpaaGreatDoorGF
import Derived.Test.YtagkjofpncpcpaaGreatDoorHN
import Derived.Test.YtagkjofpncpcpaaGreatDoorGH
namespace Go.Proofs.YtagkjofpncpcpaaGreatDoor
open Go.RowKit
theorem toList_nil_iff (a:ByteArray):a.toList=[]↔a.size=0:=by
 constructor
 ·intro e
  rcases Nat.eq_zero_or_pos a.size with h | h
  ·exact h
  ·exact absurd e (ne_toList h)
 ·exact toList_nil
theorem ownB_iff (v:ValD):ownB v=true↔(0≤v.kind∧v.kind≤7∧(v.kind≠1→v.bool=false)∧(v.kind≠2→decB v.num ⟨false,⟨#[]⟩,0⟩=true)∧(v.kind≠3→timeB v.time ⟨0,0,0,0⟩=true)∧(v.kind≠4→v.text.toList=[]) ∧
 (v.kind≠5→(v.bytes.length:Int)=0)∧(v.kind≠6→(v.list.length:Int)=0)∧(v.kind≠7→(v.fields.length:Int)=0)):=by
 unfold ownB
 rw [decide_eq_true_eq,toList_nil_iff]
 simp only [Int.natCast_eq_zero]
set_option maxRecDepth 100000 in
set_option maxHeartbeats 3200000 in
theorem own_exact (v:ValD) (w:World) (B N:Nat) (cs:List Value) (hv:ValD.At w B N v cs):Calls Tryz.prog 154 #[.agg cs.toArray] w (BolR (ownB v) w):=by
 obtain ⟨ya,la,va,yc,lc,vc,hh⟩:=hv.has
 clear hv
 have c0:=hh.kind
 have c1:=hh.bool
 have c2:=hh.neg
 have c3:=hh.digits
 have c4:=hh.exp
 have c5:=hh.tkind
 have c6:=hh.day
 have c7:=hh.nano
 have c8:=hh.offset
 have c9:=hh.text
 have c10:=hh.bytes
 have c11:=hh.list
 have c12:=hh.fields
 clear hh
 have E1:=eqDEC0 v.num
 have E2:=eqTIME0 v.time
 have G1:=guardDEC
 have G2:=guardTIME
 have HO:=Hd (ownB_iff v)
 generalize ownB v=ob at *
 generalize decB v.num ⟨false,⟨#[]⟩,0⟩=db at *
 generalize timeB v.time ⟨0,0,0,0⟩=tb at *
 generalize v.bytes.length=n1 at *
 generalize v.list.length=n2 at *
 generalize v.fields.length=n3 at *
 go_enter Tryz.func154,Tryz.ntmps154
 go_wp2
 all_goals
  go_ret
  refine ⟨ret_bool (bool_of ?_),Below.box _ _⟩
  have hv:=HO.out
  clear HO E1 E2 G1 G2 c0 c1 c2 c3 c4 c5 c6 c7 c8 c9 c10 c11 c12
  go_light
  grind
end Go.Proofs.YtagkjofpncpcpaaGreatDoor

/- Keys: datakitref07.Keys and value.keys find the same first error. -/
namespace Go.Proofs.YtagkjofpncpcpaaGreatDoor
open Go.RowKit
def IntB (k:Int) (w:World) (e:Ending) (w':World):Prop:=e=.returned (.int .i64 k)∧Below w.heap.size w w'
def fstK (l:List (ByteArray×ValD)):List ByteArray:=l.map (·.1)
theorem fstK_len (l:List (ByteArray×ValD)):(fstK l).length=l.length:=by simp [fstK]
theorem fstK_get {l:List (ByteArray×ValD)} {k:Nat} (h:k<l.length) (h2:k<(fstK l).length):(fstK l)[k]=l[k].1:=by simp [fstK]
theorem toList_data_eq {a b:ByteArray}:a.toList=b.toList↔a.data.toList=b.data.toList:=by rw [ByteArray.toList_eq,ByteArray.toList_eq]
set_option maxRecDepth 100000 in
set_option maxHeartbeats 1600000 in
theorem keys07_ex (l:List (ByteArray×ValD)) (a:Option Addr) (c:Nat) (w:World) (B N:Nat) (hN:N≤4294967296) (hl:l.length≤N) (hB:B≤w.heap.size) (h:FieldsAt w B N l a) :
 Calls Tryz.prog 158 #[.slice a l.length c] w (IntB (keysE [] (fstK l)) w):=by
 have H:=Hd h
 have hfl:=fstK_len l
 clear h
 go_enter Tryz.func158,Tryz.ntmps158
 go_wp2_with fail
 go_loopw [3] (fun i wr=>∃ k:Nat,k≤l.length∧i=.int .i64 k∧Hid (keysE [] (fstK l)=keysE (before (fstK l) k) ((fstK l).drop k))∧Hid (Below w.heap.size w wr)) (fun i _=>l.length-(intOf i).toNat)
 case atStart=>exact ⟨0,by omega,rfl,Hd rfl,Hd (Below.refl _ _)⟩
 case round =>
  obtain ⟨k,hk,rfl,HE,HB⟩:=hrel
  by_cases hlt:k<l.length
  ·obtain ⟨b,o,rfl,hb,hget⟩:=(H.out.below (HB.out.mono hB)).get (by intro h;simp [h] at hlt)
   obtain ⟨cs1,hs1,h1,_⟩:=hget k hlt
   have HG:=Hd hget
   have hsz:=HB.out.size
   have HK:=Hd (fstK_get hlt (by omega))
   have hlt2:k<(fstK l).length:=by omega
   obtain ⟨ky,hky⟩:∃ ky,ky=l[k].1:=⟨_,rfl⟩
   rw [← hky] at h1 hs1
   have HKY:=Hd hky
   have e1:=h1.get0' (v:=.string ky) rfl
   clear h1 hget hky
   go_wp2_with fail
   refine (valid03_ex ky _ (by omega)).mono ?_
   rintro e w1 ⟨rfl,hb1⟩
   have HB1:=Hd (belowThen HB.out hb1)
   have e2:=(hb1.cell (p:=⟨b,o+k * 14,none⟩) (by show b<wr.heap.size;omega)).trans e1
   have HW:=Hd hb1
   clear hb1
   cases hok:validS ky
   ·have HX:=Hd (show keysE [] (fstK l)=5 by rw [HE.out];exact keysE_5 hlt2 (by rw [HK.out,← HKY.out];exact hok))
    clear hok
    go_wp2_with fail
    go_ret
    exact ⟨ret_int (by rw [HX.out]),HB1.out⟩
   ·have HV:=Hd hok
    clear hok
    by_cases hl4:1024<ky.size
    ·have HX:=Hd (show keysE [] (fstK l)=10 by rw [HE.out];exact keysE_10 hlt2 (by rw [HK.out,← HKY.out];exact HV.out) (by rw [HK.out,← HKY.out];exact hl4))
     go_wp2_with fail
     go_ret
     exact ⟨ret_int (by rw [HX.out]),HB1.out⟩
    ·go_wp2_with fail
     go_simp
     go_loopw [4] (fun i wr2=>∃ j:Nat,j≤k∧i=.int .i64 j∧Hid (∀ q (hq:q<l.length),q<j→¬ l[q].1.toList=ky.toList)∧∃ m,wr2=w1.drewN m) (fun i _=>k-(intOf i).toNat)
     case atStart=>exact ⟨0,by omega,rfl,Hd (by omega),0,rfl⟩
     case round =>
      obtain ⟨j,hj,rfl,HQ,m,rfl⟩:=hrel
      by_cases hjk:j<k
      ·obtain ⟨cs2,hs2,h2,_⟩:=HG.out j (by omega)
       have hjl:j<l.length:=by omega
       obtain ⟨kz,hkz⟩:∃ kz,kz=l[j].1:=⟨_,rfl⟩
       rw [← hkz] at h2 hs2
       have HKZ:=Hd hkz
       have e3:=(HW.out.cell (p:=⟨b,o+j * 14,none⟩) (by show b<wr.heap.size;omega)).trans (h2.get0' (v:=.string kz) rfl)
       clear h2 hkz
       by_cases hq:kz.toList=ky.toList
       ·have q1:(kz.toList==ky.toList)=true:=by simpa using hq
        have q2:(ky.toList==kz.toList)=true:=by simpa using hq.symm
        have HX:=Hd (show keysE [] (fstK l)=8 by
         rw [HE.out]
         refine keysE_8 hlt2 (by rw [HK.out,← HKY.out];exact HV.out) (by rw [HK.out,← HKY.out];omega) ?_
         rw [mem_before]
         exact ⟨j,by omega,hjk,by rw [fstK_get hjl,HK.out,← HKY.out,← HKZ.out];exact toList_data_eq.1 hq⟩)
        clear hq
        go_wp2_with fail
        go_quiet (fail)
        go_wp2_with fail
        go_ret
        exact ⟨ret_int (by rw [HX.out]),belowThen HB1.out (below_drewN' ⟨_,World.drewN_drewN _ _ _⟩)⟩
       ·have q1:(kz.toList==ky.toList)=false:=by simpa using hq
        have q2:(ky.toList==kz.toList)=false:=by simpa using fun e=>hq e.symm
        have HQ2:=Hd (show ∀ q (hq:q<l.length),q<j+1→¬ l[q].1.toList=ky.toList from fun q hq1 hq2=>by
         by_cases e:q=j
         ·subst e;rw [← HKZ.out];exact hq
         ·exact HQ.out q hq1 (by omega))
        clear hq
        go_wp2_with fail
        go_quiet (fail)
        go_wp2_with fail
        go_roundw
        case rel=>exact ⟨j+1,by omega,by go_num,HQ2,_,rfl⟩
        case measure=>simp [intOf];omega
      ·have HE2:=Hd (show keysE [] (fstK l)=keysE (before (fstK l) (k+1)) ((fstK l).drop (k+1)) by
        rw [HE.out]
        refine keysE_go hlt2 (by rw [HK.out,← HKY.out];exact HV.out) (by rw [HK.out,← HKY.out];omega) ?_
        rw [mem_before]
        rintro ⟨q,hq1,hq2,hq3⟩
        rw [fstK_get (by omega),HK.out,← HKY.out] at hq3
        exact HQ.out q (by omega) (by omega) (toList_data_eq.2 hq3))
       go_wp2_with fail
       go_roundw
       case rel=>exact ⟨k+1,by omega,by go_num,HE2,Hd (belowThen HB1.out (below_drewN _ _))⟩
       case measure=>simp [intOf];omega
  ·obtain rfl:k=l.length:=by omega
   have HX:=Hd (show keysE [] (fstK l)=0 by rw [HE.out,← fstK_len l];exact keysE_end)
   go_wp2_with fail
   go_ret
   exact ⟨ret_int (by rw [HX.out]),HB.out⟩
def keyC (s:ByteArray):Int:=if validS s=false then 5 else if 1024<s.size then 10 else 0
theorem key_ex (s:ByteArray) (w:World) (hs:s.size≤1099511627776):Calls Tryz.prog 254 #[.string s] w (fun e w'=>e=.returned (.int .i64 (keyC s))∧w=w'):=by
 have HC:=Hd (show keyC s=if validS s=false then 5 else if 1024<s.size then 10 else 0 from rfl)
 cases hv:validS s
 ·have HV:=Hd hv
  go_enter Tryz.func254,Tryz.ntmps254
  go_wp2_with fail
  refine (uvalid_ex s _ hs).mono ?_
  rw [HV.out]
  rintro e w' ⟨rfl,rfl⟩
  go_wp2_with fail
  go_ret
  exact ⟨ret_int (by rw [HC.out,HV.out,if_pos rfl]),rfl⟩
 ·have HV:=Hd hv
  by_cases hl:1024<s.size
  ·go_enter Tryz.func254,Tryz.ntmps254
   go_wp2_with fail
   refine (uvalid_ex s _ hs).mono ?_
   rw [HV.out]
   rintro e w' ⟨rfl,rfl⟩
   go_wp2_with fail
   go_ret
   exact ⟨ret_int (by rw [HC.out,HV.out,if_neg (by simp),if_pos hl]),rfl⟩
  ·have HL:=Hd hl
   go_enter Tryz.func254,Tryz.ntmps254
   go_wp2_with fail
   refine (uvalid_ex s _ hs).mono ?_
   rw [HV.out]
   rintro e w' ⟨rfl,rfl⟩
   go_wp2_with fail
   go_ret
   exact ⟨ret_int (by rw [HC.out,HV.out,if_neg (by simp),if_neg HL.out]),rfl⟩
theorem key_n (s:ByteArray) (k:Int) (h:keyC s=k) (w:World) (hs:s.size≤1099511627776):Calls Tryz.prog 254 #[.string s] w (fun e w'=>e=.returned (.int .i64 k)∧w=w') :=
 (key_ex s w hs).mono fun e w' hh=>⟨by rw [hh.1,h],hh.2⟩
theorem zeroBool (w:World):(zeroValue 4).run Tryz.prog w=.ok (.bool false) w:=by kernel_rfl
set_option maxRecDepth 100000 in
set_option maxHeartbeats 1600000 in
theorem keysP_ex (l:List (ByteArray×ValD)) (a:Option Addr) (c:Nat) (w:World) (B N:Nat) (hN:N≤4294967296) (hl:l.length≤N) (hB:B≤w.heap.size) (h:FieldsAt w B N l a) :
 Calls Tryz.prog 191 #[.slice a l.length c] w (IntB (keysE [] (fstK l)) w):=by
 have H:=Hd h
 have hfl:=fstK_len l
 clear h
 have hmm:=@run_makeMap Tryz.prog
 go_enter Tryz.func191,Tryz.ntmps191
 go_wp2_with fail
 clear hmm
 go_simp
 go_loopw [10] (fun i wr=>∃ k:Nat,k≤l.length∧i=.int .i64 k∧Hid (keysE [] (fstK l)=keysE (before (fstK l) k) ((fstK l).drop k))∧Hid (SetAt wr 9 4 w.heap.size k (before (fstK l) k))∧Hid (Below w.heap.size w wr)∧w.heap.size<wr.heap.size) (fun i _=>l.length-(intOf i).toNat)
 case atStart=>exact ⟨0,by omega,rfl,Hd rfl,Hd (SetAt.made w 9 4),Hd ((Below.refl _ _).alloc (Nat.le_refl _) _),by simp⟩
 case round =>
  obtain ⟨w1,rfl⟩:∃ w1,w1=wr:=⟨wr,rfl⟩
  obtain ⟨k,hk,rfl,HE,HSET,HB,hs⟩:=hrel
  by_cases hlt:k<l.length
  ·obtain ⟨b,o,rfl,hb,hget⟩:=H.out.get (by intro h;simp [h] at hlt)
   obtain ⟨cs1,hs1,h1,h2⟩:=hget k hlt
   have HK:=Hd (fstK_get hlt (by omega))
   have hlt2:k<(fstK l).length:=by omega
   obtain ⟨ky,hky⟩:∃ ky,ky=l[k].1:=⟨_,rfl⟩
   rw [← hky] at h1 hs1
   have HKY:=Hd hky
   have HR1:=Hd (h1.below (HB.out.mono hB) hb).range
   have hlen:=h2.len
   have hl1:=Hd (show (Tryz.prog.info? 41).map (·.size)=some (Value.string ky::cs1).length by rw [List.length_cons,h2.len];exact sizeF)
   have hl2:=Hd (show (Tryz.prog.info? 41).map (·.size)=some (Value.string ky::cs1).toArray.size by rw [List.size_toArray,List.length_cons,h2.len];exact sizeF)
   have hl3:=Hd (show zeroF.size=(Value.string ky::cs1).toArray.size by show 14=_;rw [List.size_toArray,List.length_cons,h2.len])
   have hone:=Hd (show (Value.string ky::cs1).toArray.all (·.oneCell')=true from Go.all_oneCell_toArray (fun u hu=>by
    rcases List.mem_cons.1 hu with rfl | hu
    ·rfl
    ·exact h2.oneCell u hu))
   have HBX:=Hd (show Below w.heap.size w (w1.alloc (.cells (.string ky::cs1).toArray 41)) from belowThen HB.out (belowBox w1 _))
   have HS2:=Hd (HSET.out.later (belowBox w1 (.cells (.string ky::cs1).toArray 41)))
   have e1:=(box_at w1 (.string ky::cs1) 41).get0 (j:=0) (v:=.string ky) rfl
   clear h1 h2 hget hky
   by_cases hok:validS ky=false
   ·have HX:=Hd (show keysE [] (fstK l)=5 by rw [HE.out];exact keysE_5 hlt2 (by rw [HK.out,← HKY.out];exact hok))
    have HC:=Hd (show keyC ky=5 by unfold keyC;rw [if_pos hok])
    clear hok
    go_wp2_with (first
     | ((with_reducible show wpList _ _ _ (⟨some 13,_,_,_,_,_⟩::_) _ _);refine wpList_load_mid rfl 41 _ rfl b (o+k * 14) rfl (.string ky::cs1) _ HR1.out Tryz.underlying41 rfl hl1.out ?_)
     | ((with_reducible show wpList _ _ _ (⟨none,.store 41 (.tmp 5) _,_,_,_,_⟩::_) _ _);refine wpList_store_new rfl 41 _ _ rfl zeroF (.string ky::cs1).toArray rfl rfl hl2.out hl3.out hone.out ?_))
    refine (key_n ky 5 HC.out _ (by omega)).mono ?_
    rintro e w2 ⟨rfl,rfl⟩
    go_wp2_with fail
    go_ret
    exact ⟨ret_int (by rw [HX.out]),HBX.out⟩
   ·have hok2:validS ky=true:=by simpa using hok
    by_cases hl4:1024<ky.size
    ·have HX:=Hd (show keysE [] (fstK l)=10 by rw [HE.out];exact keysE_10 hlt2 (by rw [HK.out,← HKY.out];exact hok2) (by rw [HK.out,← HKY.out];exact hl4))
     have HC:=Hd (show keyC ky=10 by unfold keyC;rw [if_neg hok,if_pos hl4])
     clear hok hok2
     go_wp2_with (first
      | ((with_reducible show wpList _ _ _ (⟨some 13,_,_,_,_,_⟩::_) _ _);refine wpList_load_mid rfl 41 _ rfl b (o+k * 14) rfl (.string ky::cs1) _ HR1.out Tryz.underlying41 rfl hl1.out ?_)
      | ((with_reducible show wpList _ _ _ (⟨none,.store 41 (.tmp 5) _,_,_,_,_⟩::_) _ _);refine wpList_store_new rfl 41 _ _ rfl zeroF (.string ky::cs1).toArray rfl rfl hl2.out hl3.out hone.out ?_))
     refine (key_n ky 10 HC.out _ (by omega)).mono ?_
     rintro e w2 ⟨rfl,rfl⟩
     go_wp2_with fail
     go_ret
     exact ⟨ret_int (by rw [HX.out]),HBX.out⟩
    ·have HC:=Hd (show keyC ky=0 by unfold keyC;rw [if_neg hok,if_neg hl4])
     have HV:=Hd hok2
     clear hok hok2
     by_cases hmem:ky.data.toList∈before (fstK l) k
     ·have HM:=Hd (show decide (ky.data.toList∈before (fstK l) k)=true by simpa using hmem)
      have HX:=Hd (show keysE [] (fstK l)=8 by rw [HE.out];exact keysE_8 hlt2 (by rw [HK.out,← HKY.out];exact HV.out) (by rw [HK.out,← HKY.out];omega) (by rw [HK.out,← HKY.out];exact hmem))
      clear hmem
      go_wp2_with (first
       | ((with_reducible show wpList _ _ _ (⟨some 13,_,_,_,_,_⟩::_) _ _);refine wpList_load_mid rfl 41 _ rfl b (o+k * 14) rfl (.string ky::cs1) _ HR1.out Tryz.underlying41 rfl hl1.out ?_)
       | ((with_reducible show wpList _ _ _ (⟨none,.store 41 (.tmp 5) _,_,_,_,_⟩::_) _ _);refine wpList_store_new rfl 41 _ _ rfl zeroF (.string ky::cs1).toArray rfl rfl hl2.out hl3.out hone.out ?_))
      refine (key_n ky 0 HC.out _ (by omega)).mono ?_
      rintro e w2 ⟨rfl,rfl⟩
      go_wp2_with (at_lookup;refine wpList_look_set rfl _ _ 247 rfl Tryz.underlying9 Tryz.underlying4 Tryz.underlying247 (zeroBool _) rfl HS2.out ky rfl (by unfold maxLen;omega) true HM.out ?_)
      go_ret
      exact ⟨ret_int (by rw [HX.out]),HBX.out⟩
     ·have HM:=Hd (show decide (ky.data.toList∈before (fstK l) k)=false by simpa using hmem)
      have HE2:=Hd (show keysE [] (fstK l)=keysE (before (fstK l) (k+1)) ((fstK l).drop (k+1)) by
       rw [HE.out]
       exact keysE_go hlt2 (by rw [HK.out,← HKY.out];exact HV.out) (by rw [HK.out,← HKY.out];omega) (by rw [HK.out,← HKY.out];exact hmem))
      have HBE:=Hd (show before (fstK l) (k+1)=before (fstK l) k++[ky.data.toList] by rw [before_succ hlt2,HK.out,← HKY.out])
      clear hmem
      go_wp2_with (first
       | ((with_reducible show wpList _ _ _ (⟨some 13,_,_,_,_,_⟩::_) _ _);refine wpList_load_mid rfl 41 _ rfl b (o+k * 14) rfl (.string ky::cs1) _ HR1.out Tryz.underlying41 rfl hl1.out ?_)
       | ((with_reducible show wpList _ _ _ (⟨none,.store 41 (.tmp 5) _,_,_,_,_⟩::_) _ _);refine wpList_store_new rfl 41 _ _ rfl zeroF (.string ky::cs1).toArray rfl rfl hl2.out hl3.out hone.out ?_))
      refine (key_n ky 0 HC.out _ (by omega)).mono ?_
      rintro e w2 ⟨rfl,rfl⟩
      go_wp2_with (first
       | (at_lookup;refine wpList_look_set rfl _ _ 247 rfl Tryz.underlying9 Tryz.underlying4 Tryz.underlying247 (zeroBool _) rfl HS2.out ky rfl (by unfold maxLen;omega) false HM.out ?_)
       | (at_mapUpdate;refine wpList_put_set rfl _ _ _ 247 rfl Tryz.underlying9 Tryz.underlying4 Tryz.underlying247 rfl HS2.out (by unfold maxLen;omega) ky rfl rfl (by unfold maxLen;omega) ?_))
      intro w3 hset hgrow
      have HS3:=Hd hset
      have HB3:=Hd (show Below w.heap.size w w3 from HBX.out.grown hgrow (by rw [World.size_alloc];omega) (fun q hq=>by cases hq;omega))
      have hs3:w.heap.size<w3.heap.size:=by have:=hgrow.size;rw [World.size_alloc] at this;omega
      clear hset hgrow
      go_wp2
      go_roundw
      case rel=>exact ⟨k+1,by omega,by go_num,HE2,Hd (by rw [HBE.out];exact HS3.out),HB3,hs3⟩
      case measure=>simp [intOf];omega
  ·obtain rfl:k=l.length:=by omega
   have HX:=Hd (show keysE [] (fstK l)=0 by rw [HE.out,← fstK_len l];exact keysE_end)
   go_wp2_with fail
   go_ret
   exact ⟨ret_int (by rw [HX.out]),HB.out⟩
end Go.Proofs.YtagkjofpncpcpaaGreatDoor
