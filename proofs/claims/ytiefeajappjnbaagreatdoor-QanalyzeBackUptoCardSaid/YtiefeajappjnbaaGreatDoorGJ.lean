/- The name of a node (qparse.right, qparse.function, datakitref36.right, datakitref36.Qualified): the same test. -/
import Derived.Test.YtiefeajappjnbaaGreatDoorGA
import Derived.Test.YtiefeajappjnbaaGreatDoorGG
import Derived.Test.YtiefeajappjnbaaGreatDoorHD
import Derived.Test.YtiefeajappjnbaaGreatDoorHC
import Derived.Test.YtiefeajappjnbaaGreatDoorShelf
import Derived.Lib.CutLaws
namespace Go.Proofs.YtiefeajappjnbaaGreatDoor
open Go.RowKit
theorem tT {w w':World} (h:Lib.Utf8Tabs 0 1 w) (hb:Below w.heap.size w w'):Lib.Utf8Tabs 0 1 w':=by
 refine ⟨fun c hc=>?_,fun i hi=>?_⟩
 ·have h1:=h.1 c hc
  rw [hb.cell (World.block_lt_of_cell? w _ h1)];exact h1
 ·have h1:=h.2 i hi
  exact ⟨by rw [hb.cell (World.block_lt_of_cell? w _ h1.1)];exact h1.1,by rw [hb.cell (World.block_lt_of_cell? w _ h1.2)];exact h1.2⟩
structure Env (w:World):Prop where
 utf:Lib.Utf8Tabs 0 1 w
 kw:oR w
 max:∃ m:Int,w.cell? ⟨3,0,none⟩=some (.int .i64 m)
theorem Env.then {w w':World} (h:Env w) (hb:Below w.heap.size w w'):Env w':=by
 obtain ⟨hu,⟨T,fr,hk⟩,m,hm⟩:=h
 refine ⟨tT hu hb,⟨T,fr,?_⟩,m,?_⟩
 ·have hlt:2<w.heap.size:=by
   rcases Nat.lt_or_ge 2 w.heap.size with h | h
   ·exact h
   ·rw [Array.getElem?_eq_none h] at hk;cases hk
  rw [hb.block _ hlt];exact hk
 ·rw [hb.cell (World.block_lt_of_cell? w _ hm)];exact hm
def fW:ByteArray:=⟨#[58,58]⟩
theorem na:fW.toList=[58,58]:=by rw [ByteArray.toList_eq];rfl
def eu (s:ByteArray):Bool :=
 if 0≤Lib.indexB s fW then aC (s.extract 0 (Lib.indexB s fW).toNat)&&aC (s.extract ((Lib.indexB s fW).toNat+2) s.size) else aC s
theorem kn {s:ByteArray} {i:Nat} (h:Lib.indexB s fW=i):eu s=(aC (s.extract 0 i)&&aC (s.extract (i+2) s.size)):=by
 unfold eu;rw [h,if_pos (by omega)];rfl
theorem jg {s:ByteArray} (h:Lib.indexB s fW=-1):eu s=aC s:=by
 unfold eu;rw [h,if_neg (by omega)]
set_option maxHeartbeats 1600000 in
theorem rD (s:ByteArray) (w:World) (hs:s.size≤1073741824) (hE:Env w):Calls Tryz.prog 150 #[.string s] w (cq (eu s) w):=by
 obtain ⟨m,hm⟩:=hE.max
 have HE:=Hd hE
 clear hE
 rcases Lib.indexB_cases s fW with h | ⟨i,h,hr⟩
 ·obtain ⟨C1,C2,C3⟩:=Lib.cutB_miss s fW h
  have Q:=Hd (jg h)
  have HM:=Hd (show s.size≤maxLen by unfold maxLen;omega)
  have K1:=Hd C1
  have K2:=Hd C2
  have K3:=Hd C3
  clear h C1 C2 C3
  go_enter Tryz.func150,Tryz.ntmps150
  go_wp2_with fail
  refine (Tryz.strings_Cut s fW m _ (by omega) hm).mono ?_
  rintro e w1 ⟨rfl,n,rfl⟩
  rw [K1.out,K2.out,K3.out]
  go_wp2_with fail
  refine (fP s _ HM.out (HE.out.then (_root_.Go.below_drewN (Below.refl _ _) n)).kw).mono ?_
  rintro e w1 ⟨rfl,rfl⟩
  obtain ⟨v,hv⟩:∃ v,aC s=v:=⟨_,rfl⟩
  rw [hv]
  have HV:=Hd hv
  clear hv
  cases v
  all_goals
   go_wp2_with fail
   go_ret
   exact ⟨am (by rw [Q.out,HV.out]),_root_.Go.below_drewN (Below.refl _ _) n⟩
 ·obtain ⟨C1,C2,C3⟩:=Lib.cutB_hit s fW i h
  have Q:=Hd (kn h)
  have H1:=Hd (show (s.extract 0 i).size≤maxLen by unfold maxLen;simp;omega)
  have H2:=Hd (show (s.extract (i+2) s.size).size≤maxLen by unfold maxLen;simp;omega)
  have K1:=Hd C1
  have K2:=Hd (show _=s.extract (i+2) s.size from C2)
  have K3:=Hd C3
  clear h C1 C2 C3 hr
  go_enter Tryz.func150,Tryz.ntmps150
  go_wp2_with fail
  refine (Tryz.strings_Cut s fW m _ (by omega) hm).mono ?_
  rintro e w1 ⟨rfl,n,rfl⟩
  rw [K1.out,K2.out,K3.out]
  generalize hx1:s.extract 0 i=x1 at *
  generalize hx2:s.extract (i+2) s.size=x2 at *
  go_wp2_with fail
  refine (fP x1 _ H1.out (HE.out.then (_root_.Go.below_drewN (Below.refl _ _) n)).kw).mono ?_
  rintro e w1 ⟨rfl,rfl⟩
  obtain ⟨v,hv⟩:∃ v,aC x1=v:=⟨_,rfl⟩
  rw [hv]
  have HV:=Hd hv
  clear hv
  cases v
  ·go_wp2_with fail
   go_ret
   exact ⟨am (by rw [Q.out,HV.out];rfl),_root_.Go.below_drewN (Below.refl _ _) n⟩
  ·go_wp2_with fail
   refine (fP x2 _ H2.out (HE.out.then (_root_.Go.below_drewN (Below.refl _ _) n)).kw).mono ?_
   rintro e w1 ⟨rfl,rfl⟩
   go_wp2_with fail
   go_ret
   exact ⟨am (by rw [Q.out,HV.out];rfl),_root_.Go.below_drewN (Below.refl _ _) n⟩
set_option maxHeartbeats 1600000 in
theorem wg (s:ByteArray) (w:World) (hs:s.size≤1073741824):Calls Tryz.prog 125 #[.string s] w (cq (eu s) w):=by
 go_enter Tryz.func125,Tryz.ntmps125
 go_wp2_with fail
 go_loop [3] (fun i=>∃ k:Nat,k≤s.size∧i=.int .i64 k∧Lib.NoOccB s fW k) (fun i=>s.size-(intOf i).toNat)
 case atStart=>exact ⟨0,by omega,rfl,Lib.NoOcc.zero _ _⟩
 case round =>
  obtain ⟨k,hk,rfl,hno⟩:=hrel
  have HN:=Hd hno
  clear hno
  by_cases hlt:k+2≤s.size
  ·have h1:(s.extract 0 k).size≤maxLen:=by unfold maxLen;simp;omega
   have h2:(s.extract (k+2) s.size).size≤maxLen:=by unfold maxLen;simp;omega
   have H1:=Hd h1
   have H2:=Hd h2
   clear h1 h2
   cases he:((s.extract k (k+2)).toList==[58,58])
   ·have HS:=Hd (Lib.miss_piece s fW k HN.out hlt (by rw [na];exact he))
    go_wp2_with fail
    go_round
    case rel=>exact ⟨k+1,by omega,by go_num,HS.out⟩
    case measure=>simp [intOf];omega
   ·have Q:=Hd (kn (Lib.hit s fW k HN.out hlt (by rw [na];exact he)))
    obtain ⟨v,hv⟩:∃ v,aC (s.extract 0 k)=v:=⟨_,rfl⟩
    have HV:=Hd hv
    clear hv
    go_wp2_with fail
    refine (js _ _ H1.out).mono ?_
    rintro e w' ⟨rfl,rfl⟩
    rw [HV.out]
    cases v
    ·go_wp2_with fail
     go_ret
     exact ⟨am (by rw [Q.out,HV.out];rfl),Below.refl _ _⟩
    ·go_wp2_with fail
     refine (js _ _ H2.out).mono ?_
     rintro e w' ⟨rfl,rfl⟩
     go_wp2_with fail
     go_ret
     exact ⟨am (by rw [Q.out,HV.out];rfl),Below.refl _ _⟩
  ·have H1:=Hd (show s.size≤maxLen by unfold maxLen;omega)
   have Q:=Hd (jg (Lib.past s fW k HN.out (by decide) (show s.size<k+2 by omega)))
   go_wp2_with fail
   refine (js _ _ H1.out).mono ?_
   rintro e w' ⟨rfl,rfl⟩
   go_wp2_with fail
   go_ret
   exact ⟨am Q.out.symm,Below.refl _ _⟩
end Go.Proofs.YtiefeajappjnbaaGreatDoor

/- The name of a node (qparse.right, datakitref36.right): the same test. -/
namespace Go.Proofs.YtiefeajappjnbaaGreatDoor
open Go.RowKit
def rgB (e:ag):Bool:=if e.op=5 then validS e.name&&decide (e.name.size≤1024) else if e.op=21 then eu e.name else if ft e.op then aC e.name else true
set_option maxHeartbeats 1600000 in
theorem zw (x:ag) (w:World) (B N:Nat) (cs:List Value) (hop:1≤x.op∧x.op≤30) (hN:N≤1073741824) (hE:Env w) (hx:ag.At w B N x cs):Calls Tryz.prog 102 #[.agg cs.toArray] w (cq (rgB x) w):=by
 obtain ⟨aa,fa,ac,fc,vs,hh⟩:=hx.has
 have c0:=hh.op
 have c1:=hh.name
 have hsz:x.name.size≤1073741824:=Nat.le_trans hh.own.2.1 hN
 have R0:=Hd (aA w cs 34)
 have H0:=Hd (af w (.cells cs.toArray 34))
 have HS:=Hd (World.size_alloc w (.cells cs.toArray 34))
 have HE:=Hd hE
 have HM:=Hd (show x.name.size≤maxLen by unfold maxLen;omega)
 clear hh hx hE
 by_cases h5:x.op=5
 ·rw [h5] at c0
  obtain ⟨v,hv⟩:∃ v,validS x.name=v:=⟨_,rfl⟩
  have HR:=Hd (show rgB x=(v&&decide (x.name.size≤1024)) by unfold rgB;rw [if_pos h5,hv])
  have HV:=Hd hv
  clear h5 hv hop
  go_enter Tryz.func102,Tryz.ntmps102
  go_wp2_with fail
  refine (Tryz.utf8_ValidString x.name _ (by omega) (HE.out.then H0.out).utf).mono ?_
  rintro e w1 ⟨rfl,hb⟩
  rw [mX,HV.out]
  have H1:=Hd (ae H0.out hb)
  have c3:=(R0.out.then hb (by rw [HS.out];omega)).get0 c1
  clear hb
  cases v with
  | false =>
    go_wp2_with fail
    go_ret
    exact ⟨am (by rw [HR.out];rfl),H1.out⟩
  | true =>
    by_cases hs:x.name.size≤1024
    ·have hs2:(x.name.size:Int)≤1024:=by omega
     go_wp2_with fail
     go_ret
     exact ⟨am (by rw [HR.out];simp [hs]),H1.out⟩
    ·have hs3:decide ((x.name.size:Int)≤1024)=false:=by simp;omega
     go_wp2_with fail
     go_ret
     exact ⟨am (by rw [HR.out];simp [hs]),H1.out⟩
 by_cases h21:x.op=21
 ·rw [h21] at c0
  have HR:=Hd (show rgB x=eu x.name by unfold rgB;rw [if_neg h5,if_pos h21])
  clear h5 h21 hop
  go_enter Tryz.func102,Tryz.ntmps102
  go_wp2_with fail
  refine (rD x.name _ hsz (HE.out.then H0.out)).mono ?_
  rintro e w1 ⟨rfl,hb⟩
  have H1:=Hd (ae H0.out hb)
  clear hb
  go_wp2_with fail
  go_ret
  exact ⟨am HR.out.symm,H1.out⟩
 obtain ⟨v,hv⟩:∃ v,ft x.op=v:=⟨_,rfl⟩
 have HR:=Hd (show rgB x=if v then aC x.name else true by unfold rgB;rw [if_neg h5,if_neg h21,hv])
 have HV:=Hd hv
 have HO:=Hd hop
 have e5:(x.op==5)=false:=by simpa using h5
 have e21:(x.op==21)=false:=by simpa using h21
 clear h5 h21 hv hop
 go_enter Tryz.func102,Tryz.ntmps102
 go_wp2_with fail
 refine (ov x.op _ HO.out).mono ?_
 rintro e w1 ⟨rfl,rfl⟩
 rw [HV.out]
 cases v with
 | false =>
   go_wp2_with fail
   go_ret
   exact ⟨am (by rw [HR.out];rfl),H0.out⟩
 | true =>
   go_wp2_with fail
   refine (fP x.name _ HM.out (HE.out.then H0.out).kw).mono ?_
   rintro e w1 ⟨rfl,rfl⟩
   go_wp2_with fail
   go_ret
   exact ⟨am (by rw [HR.out];rfl),H0.out⟩
set_option maxHeartbeats 1600000 in
theorem zv (x:ag) (w:World) (B N:Nat) (cs:List Value) (hN:N≤1073741824) (hx:ag.At w B N x cs):Calls Tryz.prog 110 #[.agg cs.toArray] w (cq (rgB x) w):=by
 obtain ⟨aa,fa,ac,fc,vs,hh⟩:=hx.has
 have c0:=hh.op
 have c1:=hh.name
 have hsz:x.name.size≤1073741824:=Nat.le_trans hh.own.2.1 hN
 have H0:=Hd (af w (.cells cs.toArray 34))
 have HM:=Hd (show x.name.size≤maxLen by unfold maxLen;omega)
 clear hh hx
 by_cases h5:x.op=5
 ·rw [h5] at c0
  by_cases hs:x.name.size≤1024
  ·have HR:=Hd (show rgB x=validS x.name by unfold rgB;rw [if_pos h5];simp [hs])
   have hs2:(x.name.size:Int)≤1024:=by omega
   clear h5
   go_enter Tryz.func110,Tryz.ntmps110
   go_wp2_with fail
   refine (Dy x.name _ (by omega)).mono ?_
   rintro e w1 ⟨k,rfl,hk,m,rfl⟩
   have HK:=Hd hk
   clear hk
   go_wp2_with fail
   all_goals
    go_ret
    refine ⟨am ?_,_root_.Go.below_drewN H0.out m⟩
    rw [HR.out]
    have hk:=HK.out
    first
     | (have h:k<0:=by assumption
        exact (hk.1 h).symm)
     | (have h:¬ k<0:=by omega
        cases hv:validS x.name
        ·rfl
        ·exact absurd (hk.2 hv) h)
     | (cases hv:validS x.name
        ·simp [hv] at hk ⊢;omega
        ·simp [hv] at hk ⊢;omega)
  ·have HR:=Hd (show rgB x=false by unfold rgB;rw [if_pos h5];simp [hs])
   have hs3:decide ((x.name.size:Int)≤1024)=false:=by simp;omega
   clear h5
   go_enter Tryz.func110,Tryz.ntmps110
   go_wp2_with fail
   go_ret
   exact ⟨am HR.out.symm,H0.out⟩
 by_cases h21:x.op=21
 ·rw [h21] at c0
  have HR:=Hd (show rgB x=eu x.name by unfold rgB;rw [if_neg h5,if_pos h21])
  clear h5 h21
  go_enter Tryz.func110,Tryz.ntmps110
  go_wp2_with fail
  refine (wg x.name _ hsz).mono ?_
  rintro e w1 ⟨rfl,hb⟩
  have H1:=Hd (ae H0.out hb)
  clear hb
  go_wp2_with fail
  go_ret
  exact ⟨am HR.out.symm,H1.out⟩
 by_cases hi:x.op=4∨x.op=27∨x.op=19∨x.op=20∨x.op=22∨x.op=26
 ·have HR:=Hd (show rgB x=aC x.name by
   unfold rgB;rw [if_neg h5,if_neg h21,if_pos (by unfold ft;simpa using hi)])
  clear h5 h21
  rcases hi with h | h | h | h | h | h
  all_goals
   rw [h] at c0
   clear h
   go_enter Tryz.func110,Tryz.ntmps110
   go_wp2_with fail
   refine (js x.name _ HM.out).mono ?_
   rintro e w1 ⟨rfl,rfl⟩
   go_wp2_with fail
   go_ret
   exact ⟨am HR.out.symm,H0.out⟩
 ·have HR:=Hd (show rgB x=true by
   unfold rgB;rw [if_neg h5,if_neg h21,if_neg (by unfold ft;simpa using hi)])
  have e5:(x.op==5)=false:=by simpa using h5
  have e21:(x.op==21)=false:=by simpa using h21
  have e4:(x.op==4)=false:=by simp;omega
  have e27:(x.op==27)=false:=by simp;omega
  have e19:(x.op==19)=false:=by simp;omega
  have e20:(x.op==20)=false:=by simp;omega
  have e22:(x.op==22)=false:=by simp;omega
  have e26:(x.op==26)=false:=by simp;omega
  clear h5 h21 hi
  go_enter Tryz.func110,Tryz.ntmps110
  go_wp2_with fail
  go_ret
  exact ⟨am HR.out.symm,H0.out⟩
end Go.Proofs.YtiefeajappjnbaaGreatDoor
