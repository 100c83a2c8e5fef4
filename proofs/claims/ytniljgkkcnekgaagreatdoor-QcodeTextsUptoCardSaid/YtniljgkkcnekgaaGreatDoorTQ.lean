/- The reference's calendar: leap years, months, dates (printed by gencal.py). -/
import Derived.Test.YtniljgkkcnekgaaGreatDoorProg
import Derived.Test.YtniljgkkcnekgaaGreatDoorGA
import Derived.Test.YtniljgkkcnekgaaGreatDoorGB
import Derived.Test.YtniljgkkcnekgaaGreatDoorGZ
import Derived.Test.YtniljgkkcnekgaaGreatDoorGT
namespace Go.Proofs.YtniljgkkcnekgaaGreatDoor
open Go.RowKit
set_option maxRecDepth 100000 in
theorem leap_r (y:Nat) (h1:1≤y) (h2:y≤9999) (w:World):Calls Tryz.prog 121 #[.int .i64 y] w (fun e w'=>e=.returned (.bool (leapN y))∧w'=w):=by
 by_cases q4:y % 4=0
 ·by_cases q100:y % 100=0
  ·by_cases q400:y % 400=0
   ·have e4:((y:Int) % 4==0)=true:=by simp;omega
    have f4:(y % 4==0)=true:=by simp;omega
    have e100:((y:Int) % 100 != 0)=false:=by simp;omega
    have g100:((y:Int) % 100==0)=true:=by simp;omega
    have e400:((y:Int) % 400==0)=true:=by simp;omega
    have HY:=Hd (show leapN y=true by unfold leapN;simp;omega)
    clear q4 q100 q400 f4
    go_enter Tryz.func121,Tryz.ntmps121
    go_wp2_with fail
    go_ret
    exact ⟨by rw [HY.out];rfl,rfl⟩
   ·have e4:((y:Int) % 4==0)=true:=by simp;omega
    have f4:(y % 4==0)=true:=by simp;omega
    have e100:((y:Int) % 100 != 0)=false:=by simp;omega
    have g100:((y:Int) % 100==0)=true:=by simp;omega
    have e400:((y:Int) % 400==0)=false:=by simp;omega
    have HY:=Hd (show leapN y=false by unfold leapN;simp;omega)
    clear q4 q100 q400 f4
    go_enter Tryz.func121,Tryz.ntmps121
    go_wp2_with fail
    go_ret
    exact ⟨by rw [HY.out];rfl,rfl⟩
  ·have e4:((y:Int) % 4==0)=true:=by simp;omega
   have f4:(y % 4==0)=true:=by simp;omega
   have e100:((y:Int) % 100 != 0)=true:=by simp;omega
   have g100:((y:Int) % 100==0)=false:=by simp;omega
   have HY:=Hd (show leapN y=true by unfold leapN;simp;omega)
   clear q4 q100 f4
   go_enter Tryz.func121,Tryz.ntmps121
   go_wp2_with fail
   go_ret
   exact ⟨by rw [HY.out];rfl,rfl⟩
 ·have e4:((y:Int) % 4==0)=false:=by simp;omega
  have f4:(y % 4==0)=false:=by simp;omega
  have e400:((y:Int) % 400==0)=false:=by simp;omega
  have HY:=Hd (show leapN y=false by unfold leapN;simp;omega)
  clear q4 f4
  go_enter Tryz.func121,Tryz.ntmps121
  go_wp2_with fail
  go_ret
  exact ⟨by rw [HY.out];rfl,rfl⟩
set_option maxRecDepth 100000 in
theorem month_r (k m:Int) (y mm:Nat) (hk:k=y) (hm:m=mm) (h1:1≤y) (h2:y≤9999) (m1:1≤mm) (m2:mm≤12) (w:World):Calls Tryz.prog 98 #[.int .i64 k,.int .i64 m] w (fun e w'=>e=.returned (.int .i64 (monN y mm))∧w'=w):=by
 subst hk
 have hc:mm=1∨mm=2∨mm=3∨mm=4∨mm=5∨mm=6∨mm=7∨mm=8∨mm=9∨mm=10∨mm=11∨mm=12:=by omega
 clear m1 m2
 rcases hc with rfl | rfl | rfl | rfl | rfl | rfl | rfl | rfl | rfl | rfl | rfl | rfl
 case inr.inl =>
  subst hm
  obtain ⟨b,hb⟩:∃ b,b=leapN y:=⟨_,rfl⟩
  have HB:=Hd hb
  clear hb
  cases b with
  | true =>
    have HM:=Hd (show monN y 2=29 by unfold monN;rw [if_pos rfl,if_pos HB.out.symm])
    go_enter Tryz.func98,Tryz.ntmps98
    go_wp2_with (go_at_call 121;refine (leap_r y h1 h2 _).mono ?_;rw [← HB.out];rintro e w1 ⟨rfl,rfl⟩)
    go_ret
    exact ⟨by rw [HM.out];rfl,rfl⟩
  | false =>
    have HM:=Hd (show monN y 2=28 by unfold monN;rw [if_pos rfl,if_neg (by rw [← HB.out];decide)])
    go_enter Tryz.func98,Tryz.ntmps98
    go_wp2_with (go_at_call 121;refine (leap_r y h1 h2 _).mono ?_;rw [← HB.out];rintro e w1 ⟨rfl,rfl⟩)
    go_ret
    exact ⟨by rw [HM.out];rfl,rfl⟩
 all_goals
  subst hm
  go_enter Tryz.func98,Tryz.ntmps98
  go_wp2_with fail
  go_ret
  exact ⟨rfl,rfl⟩
set_option maxRecDepth 100000 in
theorem length_r (k:Int) (y:Nat) (hk:k=y) (h1:1≤y) (h2:y≤9999) (w:World):Calls Tryz.prog 97 #[.int .i64 k] w (fun e w'=>e=.returned (.int .i64 (lenN y))∧w'=w):=by
 subst hk
 have HL:=Hd (preM_13 y)
 have HP:=Hd (show ∀ m,1≤m→preM y (m+1)=preM y m+monN y m from fun m hm=>by
  obtain ⟨k,rfl⟩:∃ k,m=k+1:=⟨m-1,by omega⟩
  rfl)
 go_enter Tryz.func97,Tryz.ntmps97
 go_wp2_with fail
 go_simp
 go_loop [3,4] (fun nv mv=>∃ m n:Nat,mv=.int .i64 m∧nv=.int .i64 n∧1≤m∧m≤13∧n≤31 * m∧Hid (n=preM y m)) (fun _ mv=>13-(intOf mv).toNat)
 case atStart=>exact ⟨1,0,rfl,rfl,by omega,by omega,by omega,Hd rfl⟩
 case round =>
  obtain ⟨m,n,rfl,rfl,m1,m2,hn,HE⟩:=hrel
  by_cases hlt:m≤12
  ·obtain ⟨q,hq⟩:∃ q,q=monN y m:=⟨_,rfl⟩
   have HQ:=Hd hq
   have hq2:q≤31:=by rw [hq];exact (monN_pos _ _).2
   clear hq
   go_wp2_with (go_at_call 98;refine (month_r _ _ y m rfl rfl h1 h2 m1 hlt _).mono ?_;rw [← HQ.out];rintro e w3 ⟨rfl,rfl⟩)
   go_round
   case rel=>exact ⟨m+1,n+q,by go_num,by go_num,by omega,by omega,by omega,Hd (by rw [HP.out m m1,← HQ.out,← HE.out])⟩
   case measure=>simp [intOf];omega
  ·obtain rfl:m=13:=by omega
   go_wp2_with fail
   go_ret
   refine ⟨?_,rfl⟩
   rw [HE.out,HL.out]
   first | rfl | simp
set_option maxRecDepth 100000 in
theorem in_r (n:Nat) (h:n≤3652058) (w:World):Calls Tryz.prog 96 #[.int .i64 n] w (fun e w'=>e=.returned (.bool true)∧w'=w):=by
 have d1:decide ((n:Int)≤3652058)=true:=decide_eq_true (by omega)
 have d2:decide ((0:Int)≤n)=true:=decide_eq_true (by omega)
 go_enter Tryz.func96,Tryz.ntmps96
 go_wp2_with fail
 go_ret
 exact ⟨by first | rfl | (rw [← d1];rfl),rfl⟩
set_option maxRecDepth 100000 in
theorem date_r (n:Nat) (hn:n≤3652058) (w:World):Calls Tryz.prog 63 #[.int .i64 n] w (fun e w'=>e=.returned (.tuple #[.int .i64 (yearF n),.int .i64 (monF (yearF n) (n-startN (yearF n))),.int .i64 (dayF n),.int .i64 0])∧w'=w):=by
 have HR:=Hd (show ∀ y m r r2:Nat,1≤y→y≤9999→n=startN y+r2→r2<lenN y→1≤m→m≤12→r2=preM y m+r→r<monN y m→yearF n=y∧monF (yearF n) (n-startN (yearF n))=m∧dayF n=r+1 from fun y m r r2 y1 y2 e1 h1 m1 m2 e2 h2=>date_eq y1 y2 (by omega) (by rw [start_s y1];omega) m1 m2 (by omega) h2)
 have HG:=Hd (show ∀ y m r r2:Nat,r2<lenN y→1≤m→m≤12→r2=preM y m+r→monN y m≤r→m<12 from fun y m r r2 h1 m1 m2 hr h5=>by
  by_cases c:m<12
  ·exact c
  ·obtain rfl:m=12:=by omega
   have e1:=preM_13 y
   have e3:preM y 13=preM y 12+monN y 12:=rfl
   omega)
 have HY:=Hd (show ∀ y r:Nat,1≤y→y≤9999→n=startN y+r→lenN y≤r→y<9999∧n=startN (y+1)+(r-lenN y) from fun y r y1 y2 e1 h1=>by
  rw [start_s y1]
  refine ⟨?_,by omega⟩
  by_cases c:y<9999
  ·exact c
  ·obtain rfl:y=9999:=by omega
   have e2:=start_s (y:=9999) (by omega)
   have e3:startN (9999+1)=3652059:=by decide
   omega)
 have HL:=Hd (show ∀ y:Nat,1≤lenN y∧lenN y≤366 from fun y=>by unfold lenN;split<;>omega)
 go_enter Tryz.func63,Tryz.ntmps63
 go_wp2_with (go_at_call 96;refine (in_r n hn _).mono ?_;rintro e w1 ⟨rfl,rfl⟩)
 go_simp
 go_loop [0,6] (fun rv yv=>∃ y r:Nat,rv=.int .i64 r∧yv=.int .i64 y∧1≤y∧y≤9999∧r≤3652058∧Hid (n=startN y+r)) (fun rv _=>(intOf rv).toNat)
 case atStart=>exact ⟨1,n,rfl,rfl,by omega,by omega,hn,Hd (by rw [start_1];omega)⟩
 case round =>
  obtain ⟨y,r,rfl,rfl,y1,y2,hr,HE⟩:=hrel
  obtain ⟨q,hq⟩:∃ q,q=lenN y:=⟨_,rfl⟩
  have HQ:=Hd hq
  have hq1:1≤q:=by rw [hq];exact (HL.out y).1
  have hq2:q≤366:=by rw [hq];exact (HL.out y).2
  clear hq
  by_cases hgo:q≤r
  ·have hz:=HY.out y r y1 y2 HE.out (by rw [← HQ.out];exact hgo)
   have HZ:=Hd hz.2
   have hy3:=hz.1
   clear hz
   go_wp2_with (go_at_call 97;refine (length_r _ y rfl y1 y2 _).mono ?_;rw [← HQ.out];rintro e w3 ⟨rfl,rfl⟩)
   go_round
   case rel=>exact ⟨y+1,r-q,by congr 1;omega,by go_num,by omega,by omega,by omega,Hd (by rw [HQ.out];exact HZ.out)⟩
   case measure=>simp [intOf];omega
  ·have HX:=Hd (show r<lenN y by rw [← HQ.out];omega)
   go_wp2_with (go_at_call 97;refine (length_r _ y rfl y1 y2 _).mono ?_;rw [← HQ.out];rintro e w3 ⟨rfl,rfl⟩)
   go_simp
   obtain ⟨r2,hr2⟩:∃ r2,r2=r:=⟨_,rfl⟩
   have HR2:=Hd hr2
   go_loop [0,7] (fun rv mv=>∃ m r:Nat,mv=.int .i64 m∧rv=.int .i64 r∧1≤m∧m≤12∧r≤3652058∧Hid (r2=preM y m+r)) (fun rv _=>(intOf rv).toNat)
   case atStart=>exact ⟨1,r,rfl,rfl,by omega,by omega,hr,Hd (by rw [HR2.out];show r=0+r;omega)⟩
   case round =>
    clear hr2
    obtain ⟨m,k,rfl,rfl,m1,m2,hk,HK⟩:=hrel
    obtain ⟨p,hp⟩:∃ p,p=monN y m:=⟨_,rfl⟩
    have HP:=Hd hp
    have hp1:28≤p:=by rw [hp];exact (monN_pos _ _).1
    have hp2:p≤31:=by rw [hp];exact (monN_pos _ _).2
    clear hp
    by_cases hpk:p≤k
    ·have hm12:m<12:=HG.out y m k r2 (by rw [HR2.out];exact HX.out) m1 m2 HK.out (by rw [← HP.out];exact hpk)
     go_wp2_with (go_at_call 98;refine (month_r _ _ y m rfl rfl y1 y2 m1 m2 _).mono ?_;rw [← HP.out];rintro e w3 ⟨rfl,rfl⟩)
     go_round
     case rel=>exact ⟨m+1,k-p,by go_num,by congr 1;omega,by omega,by omega,by omega,Hd (by
      have e1:preM y (m+1)=preM y m+monN y m:=by
       obtain ⟨j,rfl⟩:∃ j,m=j+1:=⟨m-1,by omega⟩
       rfl
      have e2:=HK.out
      have e3:=HP.out
      omega)⟩
     case measure=>simp [intOf];omega
    ·have HZ:=Hd (HR.out y m k r2 y1 y2 (by rw [HR2.out];exact HE.out) (by rw [HR2.out];exact HX.out) m1 m2 HK.out (by rw [← HP.out];omega))
     go_wp2_with (go_at_call 98;refine (month_r _ _ y m rfl rfl y1 y2 m1 m2 _).mono ?_;rw [← HP.out];rintro e w3 ⟨rfl,rfl⟩)
     (try simp only [Exit.inBlock,Exit.then])
     refine bodyPost_ret (results_tmp4 rfl _ _ _) rfl ?_
     refine ⟨?_,rfl⟩
     rw [HZ.out.2.1,HZ.out.2.2,HZ.out.1]
     first | rfl | simp
end Go.Proofs.YtniljgkkcnekgaaGreatDoor

/- Times as texts: the reference's clock and offset. -/
namespace Go.Proofs.YtniljgkkcnekgaaGreatDoor
open Go.RowKit
set_option maxRecDepth 100000 in
set_option maxHeartbeats 800000 in
theorem clock_r (n:Nat) (hn:n≤86399999999999) (w:World):Calls Tryz.prog 65 #[.int .i64 n] w (StrB (clockS n) w):=by
 have HS:=Hd (show pdS (n / 1000000000 / 3600) 2++⟨#[58]⟩++pdS (n / 1000000000 / 60 % 60) 2++⟨#[58]⟩++pdS (n / 1000000000 % 60) 2=hmsS n from rfl)
 have HZ:=Hd (show n % 1000000000=0→clockS n=hmsS n from fun h=>by unfold clockS;rw [if_pos h])
 have HN:=Hd (show n % 1000000000≠0→clockS n=hmsS n++⟨#[46]⟩++strOfNums (fracL n) from fun h=>by unfold clockS;rw [if_neg h])
 have HF:=Hd (show cutZ (padT (n % 1000000000) 9)=fracL n from rfl)
 have HFN:=Hd (fun h=>@fracL_ne n h)
 obtain ⟨s,hs⟩:∃ s,n / 1000000000=s:=⟨_,rfl⟩
 obtain ⟨r,hr⟩:∃ r,n % 1000000000=r:=⟨_,rfl⟩
 have t1:(n:Int).tdiv 1000000000=(s:Int):=by rw [Int.tdiv_eq_ediv_of_nonneg (by omega)];omega
 have t2:(n:Int) / 1000000000=(s:Int):=by omega
 have t3:(n:Int).tmod 1000000000=(r:Int):=by rw [Int.tmod_eq_emod_of_nonneg (by omega)];omega
 have t4:(n:Int) % 1000000000=(r:Int):=by omega
 have hs4:s≤86399:=by omega
 have hr4:r<1000000000:=by omega
 rw [hs] at HS
 rw [hr] at HZ HN HF HFN
 obtain ⟨h,hh⟩:∃ h,s / 3600=h:=⟨_,rfl⟩
 obtain ⟨q,hq⟩:∃ q,s / 60=q:=⟨_,rfl⟩
 obtain ⟨m,hm⟩:∃ m,q % 60=m:=⟨_,rfl⟩
 obtain ⟨x,hx⟩:∃ x,s % 60=x:=⟨_,rfl⟩
 have u1:(s:Int).tdiv 3600=(h:Int):=by rw [Int.tdiv_eq_ediv_of_nonneg (by omega)];omega
 have u2:(s:Int) / 3600=(h:Int):=by omega
 have u3:(s:Int).tdiv 60=(q:Int):=by rw [Int.tdiv_eq_ediv_of_nonneg (by omega)];omega
 have u4:(s:Int) / 60=(q:Int):=by omega
 have u5:(q:Int).tmod 60=(m:Int):=by rw [Int.tmod_eq_emod_of_nonneg (by omega)];omega
 have u6:(q:Int) % 60=(m:Int):=by omega
 have u7:(s:Int).tmod 60=(x:Int):=by rw [Int.tmod_eq_emod_of_nonneg (by omega)];omega
 have u8:(s:Int) % 60=(x:Int):=by omega
 rw [hh,hq,hm,hx] at HS
 obtain ⟨a,ha⟩:∃ a,pdS h 2=a:=⟨_,rfl⟩
 obtain ⟨b,hb⟩:∃ b,pdS m 2=b:=⟨_,rfl⟩
 obtain ⟨c,hc⟩:∃ c,pdS x 2=c:=⟨_,rfl⟩
 have z1:a.size=2:=by rw [← ha];exact pdS_size _ _
 have z2:b.size=2:=by rw [← hb];exact pdS_size _ _
 have z3:c.size=2:=by rw [← hc];exact pdS_size _ _
 have HA:=Hd (fun u=>ha ▸ pad_r h 2 h 2 rfl rfl (by omega) (by omega) u)
 have HB:=Hd (fun u=>hb ▸ pad_r m 2 m 2 rfl rfl (by omega) (by omega) u)
 have HC:=Hd (fun u=>hc ▸ pad_r x 2 x 2 rfl rfl (by omega) (by omega) u)
 rw [ha,hb,hc] at HS
 generalize clockS n=res at *
 generalize hmsS n=hms at *
 generalize fracL n=fr at *
 clear ha hb hc hs hr hh hq hm hx
 go_enter Tryz.func65,Tryz.ntmps65
 go_wp2_with fail
 refine (HA.out _).mono ?_
 rintro e w2 ⟨rfl,hb2⟩
 have H2:=Hd hb2
 clear hb2
 go_wp2_with fail
 refine (HB.out w2).mono ?_
 rintro e w3 ⟨rfl,hb3⟩
 have H3:=Hd (belowThen H2.out hb3)
 clear hb3
 go_wp2_with fail
 refine (HC.out w3).mono ?_
 rintro e w4 ⟨rfl,hb4⟩
 have H4:=Hd (belowThen H3.out hb4)
 clear hb4
 have hr9:r≤4000000000:=by omega
 obtain ⟨hm,hhm⟩:∃ hm,a++⟨#[58]⟩++b++⟨#[58]⟩++c=hm:=⟨_,rfl⟩
 have zh:hm.size≤8:=by rw [← hhm];simp only [ByteArray.size_append,z1,z2,z3];exact Nat.le_refl _
 have HHM:=Hd hhm
 clear u1 u2 u3 u4 u5 u6 u7 u8
 go_wp2_with fail
 refine (pad_r r 9 r 9 rfl rfl hr9 (by omega) w4).mono ?_
 rintro e w5 ⟨rfl,hb5⟩
 have H5:=Hd (belowThen H4.out hb5)
 have HP1:=Hd (show (padT r 9).length≤9∧(∀ y∈padT r 9,48≤y∧y≤57)∧cutZ (padT r 9)=fr from ⟨by rw [padT_len];exact Nat.le_refl _,padT_dig 9 r,HF.out⟩)
 obtain ⟨p9,hp9⟩:∃ p9,pdS r 9=p9:=⟨_,rfl⟩
 rw [hp9]
 have HP2:=Hd (show p9=strOfNums (padT r 9) by rw [← hp9];rfl)
 clear hb5 hp9 t1 t2 t3 t4 hhm
 go_wp2_with fail
 go_simp
 go_loopw [5] (fun f wr=>∃ (l:List Int) (t:ByteArray),f=.string t∧Hid (t=strOfNums l)∧Hid (l.length≤9∧(∀ y∈l,48≤y∧y≤57)∧cutZ l=fr)∧wr=w5) (fun f _=>szS f)
 case atStart=>exact ⟨_,p9,rfl,HP2,HP1,rfl⟩
 case round =>
  clear HP2 HP1
  obtain ⟨l1,t,rfl,HT,HL,rfl⟩:=hrel
  by_cases hnil:l1=[]
  ·have HR:=Hd (show res=hm by
    have e:fr=[]:=by rw [← HL.out.2.2,hnil];rfl
    by_cases h0:r=0
    ·rw [HZ.out h0,← HS.out,HHM.out]
    ·exact absurd e (HFN.out h0))
   obtain rfl:t=⟨#[]⟩:=by rw [HT.out,hnil];rfl
   have hz0:(⟨#[]⟩:ByteArray).size=0:=rfl
   clear hnil HL HT
   go_wp2_with fail
   go_ret
   exact ⟨by rw [HR.out];rfl,H5.out⟩
  obtain ⟨l,d,e1⟩:∃ l d,l1=l++[d]:=⟨l1.dropLast,l1.getLast hnil,(List.dropLast_concat_getLast hnil).symm⟩
  rw [e1] at HT HL
  clear e1 hnil
  have hsz:t.size=l.length+1:=by rw [HT.out,strOfNums_size,List.length_append];rfl
  have hl8:=HL.out.1
  have hpos:0<t.size:=by omega
  have hlt2:l.length<t.size:=by omega
  have hi0:(0:Int)≤(t.size:Int)-1:=by omega
  have hi1:(t.size:Int)-1<(t.size:Int):=by omega
  have hi2:(t.size:Int)-1≤(t.size:Int):=by omega
  have htn:((t.size:Int)-1).toNat=l.length:=by omega
  have hdr:=HL.out.2.1 d (by simp)
  have hb:=byteI_eq hlt2
  rw [show byteI t l.length=d by rw [HT.out];exact byteI_last l d (by omega) (by omega)] at hb
  have HSZ:=Hd hsz
  have ht9:t.size≤9:=by rw [List.length_append] at hl8;simp at hl8;omega
  clear hsz hl8
  by_cases h48:d=48
  ·subst h48
   have HE:=Hd (show t.extract 0 l.length=strOfNums l by rw [HT.out];exact ext_strNums l 48)
   have HY:=Hd (show l.length≤9∧(∀ y∈l,48≤y∧y≤57)∧cutZ l=fr from ⟨by have:=HSZ.out;omega,fun c hc=>HL.out.2.1 c (List.mem_append_left _ hc),by rw [← HL.out.2.2,cutZ_nought]⟩)
   have HM:=Hd (show (t.extract 0 l.length).size<t.size by rw [HE.out,strOfNums_size];exact hlt2)
   obtain ⟨t2,ht2⟩:∃ t2,t.extract 0 l.length=t2:=⟨_,rfl⟩
   rw [ht2] at HE HM
   have HT2:=Hd ht2
   clear hdr ht2
   go_wp2_with fail
   rw [HT2.out]
   go_roundw
   case rel=>exact ⟨l,t2,rfl,HE,HY,trivial⟩
   case measure=>exact HM.out
  ·have h481:(d==48)=false:=by simpa using h48
   have HFR:=Hd (show fr=l++[d] by rw [← HL.out.2.2,cutZ_other h48])
   have HQ:=Hd (show res=hm++⟨#[46]⟩++t by
    have h0:r≠0:=fun e=>by
     have e2:cutZ (padT r 9)=[]:=by rw [e];decide
     rw [HF.out,HFR.out] at e2
     simp at e2
    rw [HN.out h0,HT.out,HFR.out,← HS.out,HHM.out])
   have hne:¬ t.toList=[]:=ne_toList hpos
   have hne1:(t.toList==[])=false:=by simp [hne]
   have hne2:t.toList.isEmpty=false:=by simp [hne]
   clear h48 hdr
   go_wp2_with fail
   go_ret
   exact ⟨by rw [HQ.out];rfl,H5.out⟩
set_option maxRecDepth 100000 in
set_option maxHeartbeats 800000 in
theorem offset_r (o:Int) (h1:-1439≤o) (h2:o≤1439) (w:World):Calls Tryz.prog 66 #[.int .i64 o] w (StrB (offS o) w):=by
 by_cases h0:o=0
 ·subst h0
  go_enter Tryz.func66,Tryz.ntmps66
  go_wp2_with fail
  go_ret
  exact ⟨rfl,Below.refl _ _⟩
 have h01:(o==0)=false:=by simpa using h0
 obtain ⟨n,hn⟩:∃ n,o.natAbs=n:=⟨_,rfl⟩
 have hn4:n≤1439:=by omega
 obtain ⟨h,hh⟩:∃ h,n / 60=h:=⟨_,rfl⟩
 obtain ⟨m,hm⟩:∃ m,n % 60=m:=⟨_,rfl⟩
 have u1:(n:Int).tdiv 60=(h:Int):=by rw [Int.tdiv_eq_ediv_of_nonneg (by omega)];omega
 have u2:(n:Int) / 60=(h:Int):=by omega
 have u3:(n:Int).tmod 60=(m:Int):=by rw [Int.tmod_eq_emod_of_nonneg (by omega)];omega
 have u4:(n:Int) % 60=(m:Int):=by omega
 have HS:=Hd (show offS o=(if o<0 then ⟨#[45]⟩ else ⟨#[43]⟩)++pdS h 2++⟨#[58]⟩++pdS m 2 by unfold offS;rw [if_neg h0,hn,hh,hm])
 obtain ⟨a,ha⟩:∃ a,pdS h 2=a:=⟨_,rfl⟩
 obtain ⟨b,hb⟩:∃ b,pdS m 2=b:=⟨_,rfl⟩
 have z1:a.size=2:=by rw [← ha];exact pdS_size _ _
 have z2:b.size=2:=by rw [← hb];exact pdS_size _ _
 have HA:=Hd (fun u=>ha ▸ pad_r h 2 h 2 rfl rfl (by omega) (by omega) u)
 have HB:=Hd (fun u=>hb ▸ pad_r m 2 m 2 rfl rfl (by omega) (by omega) u)
 rw [ha,hb] at HS
 by_cases hneg:o<0
 ·have HR:=Hd (show offS o=⟨#[45]⟩++a++⟨#[58]⟩++b by rw [HS.out,if_pos hneg])
  have hno:-o=(n:Int):=by omega
  have q1:(⟨#[45]⟩:ByteArray).size+a.size≤9223372036854775807:=by rw [z1];decide
  clear ha hb hh hm h0 hn HS
  go_enter Tryz.func66,Tryz.ntmps66
  go_wp2_with fail
  refine (HA.out _).mono ?_
  rintro e w2 ⟨rfl,hb2⟩
  have H2:=Hd hb2
  clear hb2
  go_wp2_with fail
  refine (HB.out w2).mono ?_
  rintro e w3 ⟨rfl,hb3⟩
  have H3:=Hd (belowThen H2.out hb3)
  clear hb3
  go_wp2_with fail
  go_ret
  exact ⟨by rw [HR.out];rfl,H3.out⟩
 ·have HR:=Hd (show offS o=⟨#[43]⟩++a++⟨#[58]⟩++b by rw [HS.out,if_neg hneg])
  have hno:o=(n:Int):=by omega
  have q1:(⟨#[43]⟩:ByteArray).size+a.size≤9223372036854775807:=by rw [z1];decide
  clear ha hb hh hm h0 hn HS
  subst hno
  go_enter Tryz.func66,Tryz.ntmps66
  go_wp2_with fail
  refine (HA.out _).mono ?_
  rintro e w2 ⟨rfl,hb2⟩
  have H2:=Hd hb2
  clear hb2
  go_wp2_with fail
  refine (HB.out w2).mono ?_
  rintro e w3 ⟨rfl,hb3⟩
  have H3:=Hd (belowThen H2.out hb3)
  clear hb3
  go_wp2_with fail
  go_ret
  exact ⟨by rw [HR.out];rfl,H3.out⟩
end Go.Proofs.YtniljgkkcnekgaaGreatDoor
