/- The digits of a number; the reference's FromInt, Strip, Zeros, normal, FromInt, Num, Int. -/
import Derived.Test.YtiefeajappjnbaaGreatDoorGA
import Derived.Test.YtiefeajappjnbaaGreatDoorGD
import Derived.Test.YtiefeajappjnbaaGreatDoorGC
import Derived.Test.YtiefeajappjnbaaGreatDoorGG
import Derived.Test.YtiefeajappjnbaaGreatDoorHF
import Derived.Test.YtiefeajappjnbaaGreatDoorGX
import Derived.Test.YtiefeajappjnbaaGreatDoorHG
import Derived.Test.YtiefeajappjnbaaGreatDoorGZ
namespace Go.Proofs.YtiefeajappjnbaaGreatDoor
open Go.RowKit
theorem szq (a:Array UInt8):(⟨a⟩:ByteArray).size=a.size:=rfl
def DV (s:ByteArray) (w:World) (e:Ending) (w':World):Prop:=e=.returned (.string s)∧Below w.heap.size w w'
theorem yB {a b:ByteArray} (h:a.data.toList=b.data.toList):a=b:=by
 apply ByteArray.ext
 exact Array.toList_inj.1 h
def ck (n:Nat):List Int:=if _h:n=0 then [] else ck (n / 10)++[((48+n % 10:Nat):Int)]
termination_by n
decreasing_by omega
theorem gD:ck 0=[]:=by rw [ck];rfl
theorem dl {n:Nat} (h:n≠0):ck n=ck (n / 10)++[((48+n % 10:Nat):Int)]:=by rw [ck,dif_neg h]
theorem io:∀ (k n:Nat),n<10 ^ k→(ck n).length≤k
 | 0,n,h=>by
   have:n=0:=by simpa using h
   subst this
   simp [gD]
 | k+1,n,h=>by
   by_cases h0:n=0
   ·subst h0;simp [gD]
   ·rw [dl h0]
    have:=io k (n / 10) (by rw [Nat.pow_succ] at h;omega)
    simp
    omega
theorem qq:∀ (n:Nat),∀ x∈ck n,48≤x∧x≤57:=by
 intro n
 induction n using Nat.strongRecOn with
 | ind n ih =>
   intro x hx
   by_cases h:n=0
   ·subst h;rw [gD] at hx;cases hx
   ·rw [dl h] at hx
    rcases List.mem_append.1 hx with hx | hx
    ·exact ih _ (by omega) x hx
    ·simp at hx;omega
def aS (n:Nat):ByteArray:=strOfNums (ck n)
theorem mc (n:Nat) (h:n<10 ^ 20):(aS n).size≤20:=by
 unfold aS
 rw [strOfNums_size];exact io 20 n h
theorem yl {w:World} {c:Int}:(convert 26 9 (.slice (some ⟨w.heap.size,0,none⟩) 1 1)).run Tryz.prog (w.alloc (.cells #[.int .u8 c] 5))=.ok (.string (strOfNums [c])) (w.alloc (.cells #[.int .u8 c] 5)) :=
 mp (B:=w.heap.size) (n:=1) (out:=[c]) ⟨rfl,.inr ⟨w.heap.size,1,#[.int .u8 c],rfl,Nat.le_refl _,heap_alloc_new w _,by omega,by unfold maxLen;omega,rfl,rfl⟩⟩ rfl
theorem kJ (a b:List Int):strOfNums a++strOfNums b=strOfNums (a++b):=by
 apply yB
 rw [ByteArray.data_append,Array.toList_append,strOfNums_data,strOfNums_data,strOfNums_data,List.map_append]
set_option maxRecDepth 100000 in
set_option maxHeartbeats 6400000 in
theorem uK (n:Nat) (hn:n<1000000000000000000) (w:World):Calls Tryz.prog 199 #[.int .i64 n] w (DV (aS n) w):=by
 go_enter Tryz.func199,Tryz.ntmps199
 go_wp2_with fail
 go_simp
 go_loopw [3,0] (fun v t wr=>∃ (m:Nat) (out:List Int) (sv:ByteArray),t=.int .i64 m∧m≤n∧v=.string sv∧sv.size≤18∧Hid (sv=strOfNums out)∧Hid (ck n=ck m++out)∧out.length≤18∧Hid (Below w.heap.size w wr)) (fun _ t _=>(intOf t).toNat)
 case atStart=>exact ⟨n,[],⟨#[]⟩,rfl,Nat.le_refl _,rfl,by simp [szq],Hd rfl,Hd (by simp),by simp,Hd (Below.refl _ _)⟩
 case round =>
  obtain ⟨w1,rfl⟩:∃ w1,w1=wr:=⟨wr,rfl⟩
  obtain ⟨m,out,sv,rfl,hm,rfl,hsv,HSV,HD,hol,HB⟩:=hrel
  by_cases h0:m=0
  ·subst h0
   have HL:=Hd (show ck n=out by rw [HD.out,gD];rfl)
   clear HD
   go_wp2_with fail
   go_ret
   exact ⟨by rw [aS,HL.out,HSV.out];rfl,HB.out⟩
  ·obtain ⟨d,hd⟩:∃ d,m % 10=d:=⟨_,rfl⟩
   obtain ⟨q,hq⟩:∃ q,m / 10=q:=⟨_,rfl⟩
   have hm10:m=10 * q+d:=by omega
   have hd10:d<10:=by omega
   obtain ⟨c,hc⟩:∃ c:Int,((48+d:Nat):Int)=c:=⟨_,rfl⟩
   have hcd:(48:Int)+(d:Int)=c:=by omega
   have hc0:48≤c:=by omega
   have hc1:c≤57:=by omega
   have HDN:=Hd (show ck n=ck q++(c::out) by
    rw [HD.out,dl h0,hd,hq,hc]
    simp)
   have hol2:(c::out).length≤18:=by
    have h1:=io 18 n hn
    rw [HDN.out] at h1
    simp only [List.length_append,List.length_cons] at h1 ⊢
    omega
   have hol3:out.length≤17:=by simpa using hol2
   have hsz:sv.size=out.length:=by rw [HSV.out];exact strOfNums_size _
   have HZ:=Hd (show (strOfNums [c]++sv).size=out.length+1 by rw [ByteArray.size_append,strOfNums_size,hsz];simp;omega)
   have HSN:=Hd (show strOfNums [c]++sv=strOfNums (c::out) by rw [HSV.out,kJ];rfl)
   have hrem:(m:Int) % 10=d:=by omega
   have hquo:(m:Int) / 10=q:=by omega
   have htm:(m:Int).tmod 10=d:=by rw [Int.tmod_eq_emod_of_nonneg (by omega)];exact hrem
   have htd:(m:Int).tdiv 10=q:=by rw [Int.tdiv_eq_ediv_of_nonneg (by omega)];exact hquo
   have hconv:=@yl w1 c
   have hcat:(strOfNums [c]).size+sv.size≤9223372036854775807:=by rw [strOfNums_size,hsz];simp;omega
   have HB2:=Hd (show Below w.heap.size w (w1.alloc (.cells #[.int .u8 c] 5)) from HB.out.alloc HB.out.size _)
   have HM10:=Hd hm10
   have hqm:q<m:=by omega
   clear HD hd hq hc hm10 hsz
   go_wp2_with fail
   go_roundw
   case rel=>exact ⟨q,c::out,_,by go_num,by omega,rfl,by rw [HZ.out];omega,HSN,HDN,hol2,HB2⟩
   case measure=>simp [intOf];omega
theorem gI {l:List Int} (h:∀ x∈l,0≤x∧x≤255) {k:Nat} (hk:k<l.length):aI (strOfNums l) k=l[k]:=by
 have hs:k<(strOfNums l).size:=by rw [strOfNums_size];exact hk
 rw [← bd hs]
 have hd:=h _ (List.getElem_mem hk)
 have e:(strOfNums l)[k]=UInt8.ofNat l[k].toNat:=by
  show (strOfNums l).data[k]=_
  simp [strOfNums]
 rw [e]
 simp
 omega
set_option maxRecDepth 100000 in
set_option maxHeartbeats 3200000 in
theorem lD (s:ByteArray) (w:World) (hs:s.size≤maxLen) (h:s.size=0∨aI s 0≠48):Calls Tryz.prog 236 #[.string s] w (fun e w'=>e=.returned (.string s)∧w'=w):=by
 unfold maxLen at hs
 have hex:(s.extract 0 s.size)=s:=by simp
 by_cases h0:s.size=0
 ·obtain rfl:s=ByteArray.empty:=by
   apply ByteArray.ext
   exact Array.eq_empty_of_size_eq_zero h0
  go_enter Tryz.func236,Tryz.ntmps236
  go_wp2_with fail
  go_simp
  go_loopw [3] (fun i wr=>i=.int .i64 0∧w=wr) (fun _ _=>0)
  case atStart=>exact ⟨rfl,rfl⟩
  case round =>
   obtain ⟨rfl,rfl⟩:=hrel
   go_wp2_with fail
   go_ret
   exact ⟨by simp,rfl⟩
 have h1:=h.resolve_left h0
 have hp:0<s.size:=by omega
 have hb:=bd hp
 have q1:(aI s 0==48)=false:=by simp [h1]
 have q2:(aI s 0 != 48)=true:=by simp [h1]
 go_enter Tryz.func236,Tryz.ntmps236
 go_wp2_with fail
 go_simp
 go_loopw [3] (fun i wr=>i=.int .i64 0∧w=wr) (fun _ _=>0)
 case atStart=>exact ⟨rfl,rfl⟩
 case round =>
  obtain ⟨rfl,rfl⟩:=hrel
  go_wp2_with fail
  go_ret
  exact ⟨by simp,rfl⟩
set_option maxRecDepth 100000 in
set_option maxHeartbeats 3200000 in
theorem yQ (s:ByteArray) (n:Nat) (w:World) (hs:s.size≤maxLen) (hn:n<s.size) (h1:∀ j,j<n→aI s (s.size-1-j)=48) (h2:aI s (s.size-1-n)≠48):Calls Tryz.prog 237 #[.string s] w (fun e w'=>e=.returned (.int .i64 (n:Int))∧w'=w):=by
 unfold maxLen at hs
 have H1:=Hd h1
 have H2:=Hd h2
 clear h1 h2
 go_enter Tryz.func237,Tryz.ntmps237
 go_wp2_with fail
 go_simp
 go_loopw [3] (fun i wr=>∃ k:Nat,k≤n∧i=.int .i64 k∧w=wr) (fun i _=>s.size-(intOf i).toNat)
 case atStart=>exact ⟨0,by omega,rfl,rfl⟩
 case round =>
  obtain ⟨k,hk,rfl,rfl⟩:=hrel
  have hi0:(0:Int)≤(s.size:Int)-1-(k:Int):=by omega
  have hi1:(s.size:Int)-1-(k:Int)<(s.size:Int):=by omega
  have hlt2:s.size-1-k<s.size:=by omega
  have htn:((s.size:Int)-1-(k:Int)).toNat=s.size-1-k:=by omega
  have hb:=bd hlt2
  by_cases hkn:k<n
  ·have h48:=H1.out k hkn
   go_wp2_with fail
   go_roundw
   case rel=>exact ⟨k+1,by omega,by go_num,trivial⟩
   case measure=>simp [intOf];omega
  ·obtain rfl:k=n:=by omega
   have h48:=H2.out
   have q1:(aI s (s.size-1-k)==48)=false:=by simp [h48]
   have q2:(aI s (s.size-1-k) != 48)=true:=by simp [h48]
   clear h48
   go_wp2_with fail
   go_ret
   exact ⟨rfl,rfl⟩
def aw (n:Nat):Nat×Nat:=if h:0<n∧n % 10=0 then ((aw (n / 10)).1,(aw (n / 10)).2+1) else (n,0)
termination_by n
decreasing_by all_goals omega
theorem fV {n:Nat} (h:0<n) (h2:n % 10=0):aw n=((aw (n / 10)).1,(aw (n / 10)).2+1):=by rw [aw,dif_pos ⟨h,h2⟩]
theorem dB {n:Nat} (h:¬ (0<n∧n % 10=0)):aw n=(n,0):=by rw [aw,dif_neg h]
theorem lE:∀ n:Nat,n=(aw n).1 * 10 ^ (aw n).2:=by
 intro n
 induction n using Nat.strongRecOn with
 | _ n ih =>
   by_cases h:0<n∧n % 10=0
   ·rw [fV h.1 h.2]
    have:=ih (n / 10) (by omega)
    simp only
    rw [Nat.pow_succ,← Nat.mul_assoc,← this]
    omega
   ·rw [dB h]
    simp
theorem fI:∀ n:Nat,0<n→0<(aw n).1∧(aw n).1 % 10≠0:=by
 intro n
 induction n using Nat.strongRecOn with
 | _ n ih =>
   intro hn
   by_cases h:0<n∧n % 10=0
   ·rw [fV h.1 h.2]
    exact ih (n / 10) (by omega) (by omega)
   ·rw [dB h]
    exact ⟨hn,fun h2=>h ⟨hn,h2⟩⟩
theorem iC:∀ n:Nat,(aw n).1≤n∧(aw n).2≤n:=by
 intro n
 induction n using Nat.strongRecOn with
 | _ n ih =>
   by_cases h:0<n∧n % 10=0
   ·rw [fV h.1 h.2]
    have:=ih (n / 10) (by omega)
    simp only
    omega
   ·rw [dB h]
    simp
theorem dz:∀ n:Nat,ck n=ck (aw n).1++List.replicate (aw n).2 48:=by
 intro n
 induction n using Nat.strongRecOn with
 | _ n ih =>
   by_cases h:0<n∧n % 10=0
   ·rw [fV h.1 h.2,dl (by omega),ih (n / 10) (by omega),h.2,List.replicate_succ',List.append_assoc]
    rfl
   ·rw [dB h]
    simp
theorem nH:∀ n:Nat,0<n→∃ d r,ck n=d::r∧49≤d:=by
 intro n
 induction n using Nat.strongRecOn with
 | _ n ih =>
   intro hn
   rw [dl (by omega)]
   by_cases h:n<10
   ·rw [show n / 10=0 by omega,gD]
    exact ⟨_,[],rfl,by omega⟩
   ·obtain ⟨d,r,h1,h2⟩:=ih (n / 10) (by omega) (by omega)
    rw [h1]
    exact ⟨d,_,rfl,h2⟩
theorem im {n:Nat} (h:0<n):0<(ck n).length:=by
 obtain ⟨d,r,h1,_⟩:=nH n h
 rw [h1]
 simp
def fp (n:Nat):dL:=⟨false,aS (aw n).1,(aw n).2⟩
def DR (n:Nat):ar:=.mk 2 false (fp n) ⟨0,0,0,0⟩ ⟨#[]⟩ [] [] []
def kX (n:Nat):ag:=.mk 3 ⟨#[]⟩ (DR n) [] []
theorem oM (n:Nat):∀ x∈ck n,0≤x∧x≤255:=fun x hx=>by have:=qq n x hx;omega
theorem vo {n j:Nat} (h:j<(aw n).2):aI (aS n) ((aS n).size-1-j)=48:=by
 have hl:(ck n).length=(ck (aw n).1).length+(aw n).2:=by rw [dz n,List.length_append,List.length_replicate]
 unfold aS
 rw [strOfNums_size,gI (oM n) (by omega)]
 have e:(ck n)[(ck n).length-1-j]?=some 48:=by
  rw [hl,dz n,List.getElem?_append_right (by omega),List.getElem?_replicate,if_pos (by omega)]
 rw [List.getElem?_eq_getElem (by omega)] at e
 exact Option.some.inj e
theorem nO {n:Nat} (h:0<n):aI (aS n) ((aS n).size-1-(aw n).2)≠48:=by
 obtain ⟨h1,h2⟩:=fI n h
 have hl:(ck n).length=(ck (aw n).1).length+(aw n).2:=by rw [dz n,List.length_append,List.length_replicate]
 have hp:=im h1
 unfold aS
 rw [strOfNums_size,gI (oM n) (by omega)]
 have e:(ck n)[(ck n).length-1-(aw n).2]?=some (((48+(aw n).1 % 10:Nat):Int)):=by
  rw [hl,dz n,List.getElem?_append_left (by omega),dl (n:=(aw n).1) (by omega)]
  rw [dl (n:=(aw n).1) (by omega),List.length_append] at hl hp
  rw [List.length_append,List.length_singleton,List.getElem?_append_right (by omega)]
  rw [show (ck ((aw n).1 / 10)).length+1+(aw n).2-1-(aw n).2-(ck ((aw n).1 / 10)).length=0 by omega]
  rfl
 rw [List.getElem?_eq_getElem (by omega)] at e
 rw [Option.some.inj e]
 omega
theorem mB {n:Nat} (h:0<n):aI (aS n) 0≠48:=by
 obtain ⟨d,r,h1,h2⟩:=nH n h
 unfold aS
 rw [gI (oM n) (im h)]
 have e:(ck n)[0]?=some d:=by rw [h1];rfl
 rw [List.getElem?_eq_getElem (im h)] at e
 rw [Option.some.inj e]
 omega
theorem uL (n:Nat):(aS n).extract 0 ((aS n).size-(aw n).2)=aS (aw n).1:=by
 have hl:(ck n).length=(ck (aw n).1).length+(aw n).2:=by rw [dz n,List.length_append,List.length_replicate]
 apply yB
 rw [show ((aS n).extract 0 ((aS n).size-(aw n).2)).data.toList=((aS n).data.toList.drop 0).take ((aS n).size-(aw n).2-0) by simp [ByteArray.data_extract,Array.toList_extract]]
 unfold aS
 rw [strOfNums_size,strOfNums_data,strOfNums_data,hl,dz n,List.map_append,List.drop_zero,Nat.sub_zero]
 rw [show (ck (aw n).1).length+(aw n).2-(aw n).2=((ck (aw n).1).map fun n=>UInt8.ofNat n.toNat).length by rw [List.length_map];omega]
 exact List.take_left
def gE (ds:ByteArray) (e:Nat):List Value:=[.bool false,.string ds,.int .i64 (e:Int)]
def CQ (n:Nat) (w:World) (e:Ending) (w':World):Prop:=e=.returned (.tuple #[.agg (gE (aS (aw n).1) (aw n).2).toArray,.int .i64 0])∧Below w.heap.size w w'
set_option maxRecDepth 100000 in
set_option maxHeartbeats 3200000 in
theorem wt (n:Nat) (hn:n≤65536) (w:World):Calls Tryz.prog 210 #[.bool false,.string (aS n),.int .i64 0] w (CQ n w):=by
 have R0:=Hd (aq.new w 23 (gE ⟨#[]⟩ 0))
 have H0:=Hd (af w (.cells (gE ⟨#[]⟩ 0).toArray 23))
 have hz:=mc n (by omega)
 by_cases h0:n=0
 ·subst h0
  have HF:=Hd (show aS 0=⟨#[]⟩ by unfold aS;rw [gD];rfl)
  have HS:=Hd (show aw 0=(0,0) from dB (by omega))
  have HR:=Hd (show gE (aS (aw 0).1) (aw 0).2=gE ⟨#[]⟩ 0 by rw [HS.out,HF.out])
  rw [HF.out]
  clear hz
  go_enter Tryz.func210,Tryz.ntmps210
  go_wp2_with fail
  refine (lD ⟨#[]⟩ _ (by unfold maxLen;rw [szq];decide) (.inl rfl)).mono ?_
  rintro e w' ⟨rfl,rfl⟩
  go_wp2_with ((with_reducible show wpList _ _ _ (⟨none,.store 23 (.tmp 6) (.tmp 13),_,_,_,_⟩::_) _ _);refine aD rfl 23 _ _ rfl w.heap.size 0 (gE ⟨#[]⟩ 0) rfl rfl 23 (gE ⟨#[]⟩ 0) (gE ⟨#[]⟩ 0) R0.out (by kernel_rfl) rfl (by decide) (by intro v hv;simp [gE] at hv;rcases hv with rfl | rfl | rfl<;>rfl) ?_)
  refine bodyPost_ret (ap rfl _ _ w.heap.size 23 _ (0,0) _ rfl (R0.out.setRow _) Tryz.underlying23 rfl (by kernel_rfl)) rfl ?_
  exact ⟨by rw [HR.out];rfl,below_setRow H0.out (Nat.le_refl _) _⟩
 have hp:0<n:=by omega
 have HST:=Hd (mB hp)
 have HZ1:=Hd (fun j (hj:j<(aw n).2)=>vo hj)
 have HZ2:=Hd (nO hp)
 have HCUT:=Hd (uL n)
 have hlen:(aS n).size=(aS (aw n).1).size+(aw n).2:=by
  unfold aS
  rw [strOfNums_size,strOfNums_size]
  have:=congrArg List.length (dz n)
  rwa [List.length_append,List.length_replicate] at this
 have hq0:0<(aS (aw n).1).size:=by
  unfold aS
  rw [strOfNums_size]
  exact im (fI n hp).1
 have hen:=(iC n).2
 unfold CQ
 obtain ⟨s,hs⟩:∃ s,aS n=s:=⟨_,rfl⟩
 obtain ⟨q,hq⟩:∃ q,aS (aw n).1=q:=⟨_,rfl⟩
 obtain ⟨e,he⟩:∃ e,(aw n).2=e:=⟨_,rfl⟩
 rw [hs,he] at HZ1 HZ2
 rw [hs,hq,he] at HCUT hlen
 rw [hs] at HST hz
 rw [he] at hen
 rw [hq] at hq0
 rw [hs,hq,he]
 have HQ:=Hd (show s.extract 0 q.size=q by have:=HCUT.out;rwa [show s.size-e=q.size by omega] at this)
 have he20:e≤20:=by omega
 clear hs hq he HCUT h0
 have hne:s.toList≠[]:=fun h=>by (have h9:s.size=0:=by rw [ByteArray.toList_eq] at h;show s.data.size=0;rw [← Array.length_toList,h];rfl);omega
 have s1:(s.toList==[])=false:=by simp [hne]
 have s2:s.toList.isEmpty=false:=by simp [hne]
 have s3:(s.toList != [])=true:=by simp [hne]
 have H1:=Hd (show Below w.heap.size w (w.alloc (.cells (gE q e).toArray 23)) from af w _)
 clear hne
 go_enter Tryz.func210,Tryz.ntmps210
 go_wp2_with fail
 refine (lD s _ (by unfold maxLen;omega) (.inr HST.out)).mono ?_
 rintro e1 w' ⟨rfl,rfl⟩
 go_wp2_with fail
 refine (yQ s e _ (by unfold maxLen;omega) (by omega) HZ1.out HZ2.out).mono ?_
 rintro e1 w' ⟨rfl,rfl⟩
 go_wp2_with fail
 all_goals first
  | (exfalso;omega)
  | skip
 rw [HQ.out]
 refine bodyPost_ret (ap rfl _ _ w.heap.size 23 (gE q e).toArray (0,0) _ rfl (heap_alloc_new w _) Tryz.underlying23 rfl (by kernel_rfl)) rfl ?_
 exact ⟨rfl,H1.out⟩
def CR (n:Nat) (w:World) (e:Ending) (w':World):Prop:=e=.returned (.agg (gE (aS (aw n).1) (aw n).2).toArray)∧Below w.heap.size w w'
set_option maxRecDepth 100000 in
set_option maxHeartbeats 3200000 in
theorem yg (n:Nat) (hn:n≤65536) (w:World):Calls Tryz.prog 176 #[.int .i64 n] w (CR n w):=by
 have H0:=Hd (af w (.cells (gE ⟨#[]⟩ 0).toArray 23))
 have R0:=Hd (aq.new w 23 (gE ⟨#[]⟩ 0))
 obtain ⟨q,hq⟩:∃ q,gE (aS (aw n).1) (aw n).2=q:=⟨_,rfl⟩
 have HQ:=Hd hq
 have hl:=Hd (show (Tryz.prog.info? 23).map (·.size)=some q.length by rw [← hq];kernel_rfl)
 have ho:=Hd (show ∀ v∈q,v.oneCell'=true by rw [← hq];intro v hv;simp [gE] at hv;rcases hv with rfl | rfl | rfl<;>rfl)
 have hl2:=Hd (show (Tryz.prog.info? 23).map (·.size)=some q.toArray.size by rw [← hq];kernel_rfl)
 have h3:=Hd (show 3=q.toArray.size by rw [← hq];rfl)
 have ho2:=Hd (show q.toArray.all (·.oneCell')=true from Go.all_oneCell_toArray ho.out)
 have hql:=Hd (show q.length=3 by rw [← hq];rfl)
 unfold CR
 rw [hq]
 clear hq
 go_enter Tryz.func176,Tryz.ntmps176
 go_wp2_with fail
 refine (uK n (by omega) _).mono ?_
 rintro e w1 ⟨rfl,hb1⟩
 have H1:=Hd (ae H0.out hb1)
 have R1:=Hd (R0.out.then hb1)
 clear hb1
 go_wp2_with fail
 refine (wt n hn _).mono ?_
 unfold CQ
 rw [HQ.out]
 rintro e w2 ⟨rfl,hb2⟩
 have H2:=Hd (ae H1.out hb2)
 have R2:=Hd ((R1.out.then hb2).alloc (.cells q.toArray 23))
 have HN:=Hd (aq.new w2 23 q)
 have H3:=Hd (show Below w.heap.size w (w2.alloc (.cells q.toArray 23)) from ae H2.out (af w2 _))
 clear hb2
 go_wp2_with (first
  | ((with_reducible show wpList _ _ _ (⟨none,.store 23 (.tmp 4) (.tmp 20),_,_,_,_⟩::_) _ _);refine ak rfl 23 _ _ rfl _ q.toArray rfl rfl hl2.out h3.out ho2.out ?_)
  | ((with_reducible show wpList _ _ _ (⟨some 22,_,_,_,_,_⟩::_) _ _);refine wpList_load_mid rfl 23 _ rfl w2.heap.size 0 rfl q _ HN.out.range Tryz.underlying23 rfl hl.out ?_)
  | ((with_reducible show wpList _ _ _ (⟨none,.store 23 (.tmp 2) (.tmp 22),_,_,_,_⟩::_) _ _);refine aD rfl 23 _ _ rfl w.heap.size 0 q rfl rfl 23 (gE ⟨#[]⟩ 0) q R2.out hl.out (by rw [hql.out];simp [gE]) (by rw [hql.out];simp [gE]) ho.out ?_))
 refine bodyPost_ret (results_cell_row rfl _ _ w.heap.size 23 q.toArray (0,0) _ rfl (R2.out.setRow _) Tryz.underlying23 rfl hl2.out) rfl ?_
 exact ⟨rfl,below_setRow H3.out (Nat.le_refl _) _⟩
def jF (ds:ByteArray) (e:Nat):List Value:=[.int .i64 2,.bool false,.bool false,.string ds,.int .i64 (e:Int),.int .i64 0,.int .i64 0,.int .i64 0,.int .i64 0,.string ⟨#[]⟩,.slice none 0 0,.slice none 0 0,.slice none 0 0]
def o5:List Value:=[.int .i64 0,.bool false,.bool false,.string ⟨#[]⟩,.int .i64 0,.int .i64 0,.int .i64 0,.int .i64 0,.int .i64 0,.string ⟨#[]⟩,.slice none 0 0,.slice none 0 0,.slice none 0 0]
def DC (n:Nat) (w:World) (e:Ending) (w':World):Prop:=e=.returned (.agg (jF (aS (aw n).1) (aw n).2).toArray)∧Below w.heap.size w w'
set_option maxRecDepth 100000 in
set_option maxHeartbeats 3200000 in
theorem CZ (ds:ByteArray) (e:Nat) (w:World):Calls Tryz.prog 175 #[.agg #[.bool false,.string ds,.int .i64 (e:Int)]] w (fun en w'=>en=.returned (.agg (jF ds e).toArray)∧Below w.heap.size w w'):=by
 have H0:=Hd (show Below w.heap.size w ((w.alloc (.cells #[.bool false,.string ds,.int .i64 (e:Int)] 23)).alloc (.cells (jF ds e).toArray 30)) from ae (af w _) (af _ _))
 have HN:=Hd (show aq 30 ((w.alloc (.cells #[.bool false,.string ds,.int .i64 (e:Int)] 23)).alloc (.cells (jF ds e).toArray 30)) (w.heap.size+1) (jF ds e) by
  have:=aq.new (w.alloc (.cells #[.bool false,.string ds,.int .i64 (e:Int)] 23)) 30 (jF ds e)
  rwa [World.size_alloc] at this)
 go_enter Tryz.func175,Tryz.ntmps175
 go_wp2_with ((with_reducible show wpList _ _ _ (⟨none,.store 30 (.tmp 2) (.tmp 4),_,_,_,_⟩::_) _ _);refine ak rfl 30 _ _ rfl _ (jF ds e).toArray rfl rfl (by kernel_rfl) rfl (by kernel_rfl) ?_)
 refine bodyPost_ret (results_cell_row rfl _ _ (w.heap.size+1) 30 (jF ds e).toArray (0,0) _ rfl HN.out Tryz.underlying30 rfl (by kernel_rfl)) rfl ?_
 exact ⟨rfl,H0.out⟩
set_option maxRecDepth 100000 in
set_option maxHeartbeats 3200000 in
theorem Dc (n:Nat) (hn:n≤65536) (w:World):Calls Tryz.prog 132 #[.int .i64 n] w (DC n w):=by
 have H0:=Hd (af w (.cells (o5).toArray 30))
 have R0:=Hd (aq.new w 30 o5)
 unfold DC
 obtain ⟨ds,hds⟩:∃ q,aS (aw n).1=q:=⟨_,rfl⟩
 obtain ⟨ex,hex⟩:∃ q,(aw n).2=q:=⟨_,rfl⟩
 have HD:=Hd hds
 have HX:=Hd hex
 rw [hds,hex]
 clear hds hex
 go_enter Tryz.func132,Tryz.ntmps132
 go_wp2_with fail
 refine (yg n hn _).mono ?_
 unfold CR
 rw [HD.out,HX.out]
 rintro e w1 ⟨rfl,hb1⟩
 have H1:=Hd (ae H0.out hb1)
 have R1:=Hd (R0.out.then hb1)
 clear hb1
 go_wp2_with fail
 refine (CZ ds ex _).mono ?_
 rintro e w2 ⟨rfl,hb2⟩
 have H2:=Hd (ae H1.out hb2)
 have R2:=Hd (R1.out.then hb2)
 clear hb2
 go_wp2_with ((with_reducible show wpList _ _ _ (⟨none,.store 30 (.tmp 2) (.tmp 5),_,_,_,_⟩::_) _ _);refine aD rfl 30 _ _ rfl w.heap.size 0 (jF ds ex) rfl rfl 30 o5 (jF ds ex) R2.out (by kernel_rfl) (by simp [jF,o5]) (by simp [jF,o5]) (by intro v hv;simp [jF] at hv;rcases hv with rfl | rfl | rfl | rfl | rfl | rfl | rfl | rfl<;>rfl) ?_)
 refine bodyPost_ret (results_cell_row rfl _ _ w.heap.size 30 (jF ds ex).toArray (0,0) _ rfl (R2.out.setRow _) Tryz.underlying30 rfl (by kernel_rfl)) rfl ?_
 exact ⟨rfl,below_setRow H2.out (Nat.le_refl _) _⟩
end Go.Proofs.YtiefeajappjnbaaGreatDoor

/- qanalyze.empty, zero, plain, absent; datakitref43.zero, absent: what they give (printed by gen_zer43.py). -/
namespace Go.Proofs.YtiefeajappjnbaaGreatDoor
open Go.RowKit
set_option maxRecDepth 100000 in
set_option maxHeartbeats 3200000 in
theorem tr (v:ar) (w:World) (B N:Nat) (cs:List Value) (hN:N≤1048576) (hv:ar.At w B N v cs):Calls Tryz.prog 99 #[.agg cs.toArray] w (cq (bj v) w):=by
 obtain ⟨ya,la,va,yc,lc,vc,hh⟩:=hv.has
 clear hv
 have c0:=hh.kind
 have c1:=hh.bool
 have c2:=hh.neg
 have c3:=hh.digits
 have c4:=hh.exp
 have c5:=hh.tkind
 have c6:=hh.day
 have c7:=hh.nano
 have c8:=hh.offset
 have c9:=hh.text
 have c10:=hh.bytes
 have c11:=hh.list
 have c12:=hh.fields
 have z1:v.bytes.length≤1048576:=Nat.le_trans hh.own.2.2.2.2.2.2.2.2.1 hN
 have z2:v.list.length≤1048576:=Nat.le_trans hh.own.2.2.2.2.2.2.2.2.2.1 hN
 have z3:v.fields.length≤1048576:=Nat.le_trans hh.own.2.2.2.2.2.2.2.2.2.2 hN
 clear hh hN
 have E1:=il v.num
 have E2:=iO v.time
 have G1:=dw
 have G2:=dE
 have HO:=Hd (iA v)
 generalize bj v=ob at *
 generalize eb v.num ⟨false,⟨#[]⟩,0⟩=db at *
 generalize ed v.time ⟨0,0,0,0⟩=tb at *
 generalize v.bytes.length=n1 at *
 generalize v.list.length=n2 at *
 generalize v.fields.length=n3 at *
 go_enter Tryz.func99,Tryz.ntmps99
 go_wp2
 all_goals
  go_ret
  refine ⟨am (bz ?_),Below.box _ _⟩
  have hv:=HO.out
  clear HO E1 E2 G1 G2 c0 c1 c2 c3 c4 c5 c6 c7 c8 c9 c10 c11 c12
  go_light
  grind
def bL (e:ag):Bool:=decide (e.op=0∧e.name.size=0∧bj e.val=true∧e.args.length=0∧e.funcs.length=0)
def cr (e:ag):Bool:=decide (e.op=1∧e.name.size=0∧bj e.val=true∧e.args.length=0∧e.funcs.length=0)
theorem nS (x:ag):dX x=(decide (x.op=30)&&bL (.mk 0 x.name x.val x.args x.funcs)):=by
 unfold dX bL
 rw [Bool.eq_iff_iff,Bool.and_eq_true,decide_eq_true_eq,decide_eq_true_eq,decide_eq_true_eq]
 simp [ag.op,ag.name,ag.val,ag.args,ag.funcs]
theorem ag.At.op0z {w:World} {B N:Nat} {x:ag} {cs:List Value} (h:ag.At w B N x cs):ag.At w B N (.mk 0 x.name x.val x.args x.funcs) (cs.set 0 (.int .i64 0)):=by
 obtain ⟨op,nm,v,xs,fs⟩:=x
 obtain ⟨vs,aa,fa,ac,fc,rfl,hown,hv,has,hfs,hc⟩:=h
 exact ⟨vs,aa,fa,ac,fc,rfl,⟨show I64 0 by unfold I64;omega,hown.2⟩,hv,has,hfs,hc⟩
theorem mU (e:ag):bL e=true↔(e.op=0∧e.name.toList=[]∧bj e.val=true∧(e.args.length:Int)=0∧(e.funcs.length:Int)=0):=by
 unfold bL
 rw [decide_eq_true_eq,aH]
 simp only [Int.natCast_eq_zero]
set_option maxRecDepth 100000 in
set_option maxHeartbeats 3200000 in
theorem nV (x:ag) (w:World) (B N:Nat) (cs:List Value) (hN:N≤1048576) (hB:B≤w.heap.size) (he:ag.At w B N x cs):Calls Tryz.prog 54 #[.agg cs.toArray] w (cq (bL x) w):=by
 obtain ⟨aa,fa,ac,fc,vs,hh⟩:=he.has
 have H0:=Hd (show Below w.heap.size w (w.alloc (.cells cs.toArray 34)) from af w _)
 have hvr:=Hd (show (w.alloc (.cells cs.toArray 34)).rangeAt w.heap.size (0+2) vs from (hh.valRange (aA w cs 34)).range)
 have HV:=Hd (show ar.At (w.alloc (.cells cs.toArray 34)) B N x.val vs from hh.atVal.below (H0.out.mono hB))
 have hl:=Hd (show (Tryz.prog.info? 30).map (·.size)=some vs.length by rw [hh.atVal.len];exact bM)
 have hs0:=Hd (show w.heap.size<(w.alloc (.cells cs.toArray 34)).heap.size by rw [World.size_alloc];omega)
 have hB0:=Hd (show B≤(w.alloc (.cells cs.toArray 34)).heap.size from Nat.le_trans hB H0.out.size)
 have HX:=Hd (aA w cs 34)
 have HO:=Hd (mU x)
 have c0:=hh.op
 have c1:=hh.name
 have c15:=hh.args
 have c16:=hh.funcs
 have z1:x.args.length≤1048576:=Nat.le_trans hh.own.2.2.1 hN
 have z2:x.funcs.length≤1048576:=Nat.le_trans hh.own.2.2.2 hN
 clear hh he
 obtain ⟨o,ho⟩:∃ o,x.op=o:=⟨_,rfl⟩
 obtain ⟨nm,hnm⟩:∃ nm,x.name=nm:=⟨_,rfl⟩
 obtain ⟨n1,hn1⟩:∃ n1,x.args.length=n1:=⟨_,rfl⟩
 obtain ⟨n2,hn2⟩:∃ n2,x.funcs.length=n2:=⟨_,rfl⟩
 rw [ho,hnm,hn1,hn2] at HO
 rw [ho] at c0
 rw [hnm] at c1
 rw [hn1] at c15 z1
 rw [hn2] at c16 z2
 clear ho hnm hn1 hn2
 by_cases h0:o=0
 case neg =>
  have HR:=Hd (show bL x=false by rw [← Bool.not_eq_true,HO.out];exact fun g=>h0 g.1)
  have e0:(o==0)=false:=by simpa using h0
  go_enter Tryz.func54,Tryz.ntmps54
  go_wp2_with fail
  go_ret
  exact ⟨am HR.out.symm,H0.out⟩
 subst h0
 by_cases hs:nm.toList=[]
 case neg =>
  have HR:=Hd (show bL x=false by rw [← Bool.not_eq_true,HO.out];exact fun g=>hs g.2.1)
  have s1:(nm.toList==[])=false:=by simp [hs]
  have s2:nm.toList.isEmpty=false:=by simp [hs]
  go_enter Tryz.func54,Tryz.ntmps54
  go_wp2_with fail
  go_ret
  exact ⟨am HR.out.symm,H0.out⟩
 have HS:=Hd hs
 go_enter Tryz.func54,Tryz.ntmps54
 go_wp2_with (refine aG rfl 30 _ rfl w.heap.size (0+2) rfl vs _ hvr.out Tryz.underlying30 rfl hl.out ?_)
 refine (tr x.val _ B N vs hN HV.out).mono ?_
 rintro e w1 ⟨rfl,hb1⟩
 have H1:=Hd (ae H0.out hb1)
 have d15:=(HX.out.then hb1 hs0.out).get0 c15
 have d16:=(HX.out.then hb1 hs0.out).get0 c16
 clear hb1 c15 c16
 obtain ⟨z,hz⟩:∃ z,bj x.val=z:=⟨_,rfl⟩
 rw [hz] at HO ⊢
 clear hz
 cases z
 case false =>
  have HR:=Hd (show bL x=false by rw [← Bool.not_eq_true,HO.out];exact fun g=>by cases g.2.2.1)
  go_wp2_with fail
  go_ret
  exact ⟨am HR.out.symm,H1.out⟩
 by_cases h2:n1=0∧n2=0
 ·obtain ⟨rfl,rfl⟩:=h2
  have HR:=Hd (show bL x=true by rw [HO.out];simp [HS.out])
  go_wp2_with fail
  go_ret
  exact ⟨am HR.out.symm,H1.out⟩
 have HR:=Hd (show bL x=false by rw [← Bool.not_eq_true,HO.out];exact fun g=>h2 (by omega))
 have hne1:((n1:Int)+(n2:Int)==0)=false:=by simp;omega
 have hne2:¬ ((n1:Int)+(n2:Int)=0):=by omega
 have hne3:((n1:Int)==0)=false∨((n2:Int)==0)=false:=by simp;omega
 clear hs
 go_wp2_with fail
 all_goals
  go_ret
  exact ⟨am (by first | exact HR.out.symm | (rw [HR.out];simp;omega)),H1.out⟩
theorem lR (e:ag):cr e=true↔(e.op=1∧e.name.toList=[]∧bj e.val=true∧(e.args.length:Int)=0∧(e.funcs.length:Int)=0):=by
 unfold cr
 rw [decide_eq_true_eq,aH]
 simp only [Int.natCast_eq_zero]
set_option maxRecDepth 100000 in
set_option maxHeartbeats 3200000 in
theorem wm (x:ag) (w:World) (B N:Nat) (cs:List Value) (hN:N≤1048576) (hB:B≤w.heap.size) (he:ag.At w B N x cs):Calls Tryz.prog 81 #[.agg cs.toArray] w (cq (cr x) w):=by
 obtain ⟨aa,fa,ac,fc,vs,hh⟩:=he.has
 have H0:=Hd (show Below w.heap.size w (w.alloc (.cells cs.toArray 34)) from af w _)
 have hvr:=Hd (show (w.alloc (.cells cs.toArray 34)).rangeAt w.heap.size (0+2) vs from (hh.valRange (aA w cs 34)).range)
 have HV:=Hd (show ar.At (w.alloc (.cells cs.toArray 34)) B N x.val vs from hh.atVal.below (H0.out.mono hB))
 have hl:=Hd (show (Tryz.prog.info? 30).map (·.size)=some vs.length by rw [hh.atVal.len];exact bM)
 have hs0:=Hd (show w.heap.size<(w.alloc (.cells cs.toArray 34)).heap.size by rw [World.size_alloc];omega)
 have hB0:=Hd (show B≤(w.alloc (.cells cs.toArray 34)).heap.size from Nat.le_trans hB H0.out.size)
 have HX:=Hd (aA w cs 34)
 have HO:=Hd (lR x)
 have c0:=hh.op
 have c1:=hh.name
 have c15:=hh.args
 have c16:=hh.funcs
 have z1:x.args.length≤1048576:=Nat.le_trans hh.own.2.2.1 hN
 have z2:x.funcs.length≤1048576:=Nat.le_trans hh.own.2.2.2 hN
 clear hh he
 obtain ⟨o,ho⟩:∃ o,x.op=o:=⟨_,rfl⟩
 obtain ⟨nm,hnm⟩:∃ nm,x.name=nm:=⟨_,rfl⟩
 obtain ⟨n1,hn1⟩:∃ n1,x.args.length=n1:=⟨_,rfl⟩
 obtain ⟨n2,hn2⟩:∃ n2,x.funcs.length=n2:=⟨_,rfl⟩
 rw [ho,hnm,hn1,hn2] at HO
 rw [ho] at c0
 rw [hnm] at c1
 rw [hn1] at c15 z1
 rw [hn2] at c16 z2
 clear ho hnm hn1 hn2
 by_cases h0:o=1
 case neg =>
  have HR:=Hd (show cr x=false by rw [← Bool.not_eq_true,HO.out];exact fun g=>h0 g.1)
  have e0:(o==1)=false:=by simpa using h0
  go_enter Tryz.func81,Tryz.ntmps81
  go_wp2_with fail
  go_ret
  exact ⟨am HR.out.symm,H0.out⟩
 subst h0
 by_cases hs:nm.toList=[]
 case neg =>
  have HR:=Hd (show cr x=false by rw [← Bool.not_eq_true,HO.out];exact fun g=>hs g.2.1)
  have s1:(nm.toList==[])=false:=by simp [hs]
  have s2:nm.toList.isEmpty=false:=by simp [hs]
  go_enter Tryz.func81,Tryz.ntmps81
  go_wp2_with fail
  go_ret
  exact ⟨am HR.out.symm,H0.out⟩
 have HS:=Hd hs
 go_enter Tryz.func81,Tryz.ntmps81
 go_wp2_with (refine aG rfl 30 _ rfl w.heap.size (0+2) rfl vs _ hvr.out Tryz.underlying30 rfl hl.out ?_)
 refine (tr x.val _ B N vs hN HV.out).mono ?_
 rintro e w1 ⟨rfl,hb1⟩
 have H1:=Hd (ae H0.out hb1)
 have d15:=(HX.out.then hb1 hs0.out).get0 c15
 have d16:=(HX.out.then hb1 hs0.out).get0 c16
 clear hb1 c15 c16
 obtain ⟨z,hz⟩:∃ z,bj x.val=z:=⟨_,rfl⟩
 rw [hz] at HO ⊢
 clear hz
 cases z
 case false =>
  have HR:=Hd (show cr x=false by rw [← Bool.not_eq_true,HO.out];exact fun g=>by cases g.2.2.1)
  go_wp2_with fail
  go_ret
  exact ⟨am HR.out.symm,H1.out⟩
 by_cases h2:n1=0∧n2=0
 ·obtain ⟨rfl,rfl⟩:=h2
  have HR:=Hd (show cr x=true by rw [HO.out];simp [HS.out])
  go_wp2_with fail
  go_ret
  exact ⟨am HR.out.symm,H1.out⟩
 have HR:=Hd (show cr x=false by rw [← Bool.not_eq_true,HO.out];exact fun g=>h2 (by omega))
 have hne1:((n1:Int)+(n2:Int)==0)=false:=by simp;omega
 have hne2:¬ ((n1:Int)+(n2:Int)=0):=by omega
 have hne3:((n1:Int)==0)=false∨((n2:Int)==0)=false:=by simp;omega
 clear hs
 go_wp2_with fail
 all_goals
  go_ret
  exact ⟨am (by first | exact HR.out.symm | (rw [HR.out];simp;omega)),H1.out⟩
set_option maxRecDepth 100000 in
set_option maxHeartbeats 1600000 in
theorem yG (x:ag) (w:World) (B N:Nat) (cs:List Value) (hN:N≤1048576) (hB:B≤w.heap.size) (he:ag.At w B N x cs):Calls Tryz.prog 96 #[.agg cs.toArray] w (cq (dX x) w):=by
 obtain ⟨aa,fa,ac,fc,vs,hh⟩:=he.has
 have c0:=hh.op
 have hlen:=he.len
 have HP:=Hd he.op0z
 obtain ⟨w1,hw1⟩:∃ w1,w1=w.alloc (.cells (cs.set 0 (.int .i64 0)).toArray 34):=⟨_,rfl⟩
 have R1:=Hd (show aq 34 w1 w.heap.size (cs.set 0 (.int .i64 0)) from by rw [hw1];exact heap_alloc_new w _)
 have H1:=Hd (show Below w.heap.size w w1 by rw [hw1];exact af w _)
 have hl:=Hd (show (Tryz.prog.info? 34).map (·.size)=some (cs.set 0 (.int .i64 0)).length by rw [List.length_set,hlen];kernel_rfl)
 have HW:=Hd hw1
 have HAB:=Hd (nS x)
 clear hh he hw1 hlen
 obtain ⟨o,ho⟩:∃ o,x.op=o:=⟨_,rfl⟩
 rw [ho] at c0 HAB
 clear ho
 by_cases h30:o=30
 ·subst h30
  have HR:=Hd (show dX x=bL (.mk 0 x.name x.val x.args x.funcs) by rw [HAB.out];rfl)
  go_enter Tryz.func96,Tryz.ntmps96
  go_wp2_with (refine aG rfl 34 _ rfl w.heap.size 0 rfl (cs.set 0 (.int .i64 0)) _ (by rw [← HW.out];exact R1.out.range) Tryz.underlying34 rfl hl.out ?_)
  rw [← HW.out]
  refine (nV (.mk 0 x.name x.val x.args x.funcs) _ B N _ hN (Nat.le_trans hB H1.out.size) (HP.out.below (H1.out.mono hB))).mono ?_
  rintro e w2 ⟨rfl,hb2⟩
  have H2:=Hd (ae H1.out hb2)
  clear hb2
  go_wp2_with fail
  go_ret
  exact ⟨am HR.out.symm,H2.out⟩
 ·have HR:=Hd (show dX x=false by rw [HAB.out,decide_eq_false h30];rfl)
  have e30:(o==30)=false:=by simpa using h30
  have H0:=Hd (show Below w.heap.size w (w.alloc (.cells (cs.set 0 (.int .i64 0)).toArray 34)) from af w _)
  go_enter Tryz.func96,Tryz.ntmps96
  go_wp2_with fail
  go_ret
  exact ⟨am HR.out.symm,H0.out⟩
end Go.Proofs.YtiefeajappjnbaaGreatDoor

/- The query of a plan, on trees; what a valid plan is; the plan of the query of a valid plan is that plan. No program here. -/
namespace Go.Proofs.YtiefeajappjnbaaGreatDoor
open Go.RowKit
def cO (e:ag) (s:aL):ag:=if s.each=true then .mk 8 ⟨#[]⟩ bk [e] [] else if s.byIdx=true then .mk 6 ⟨#[]⟩ bk [e,kX s.index.toNat] [] else .mk 5 s.key bk [e] []
def aX (l:List aL):ag:=l.foldl cO fu
theorem mh {l:List aL} {k:Nat} (h:k<l.length):aX (l.take (k+1))=cO (aX (l.take k)) l[k]:=by
 unfold aX
 rw [List.take_succ_eq_append_getElem h,List.foldl_append]
 rfl
theorem gB (l:List aL) (s:aL):aX (l++[s])=cO (aX l) s:=by
 unfold aX
 rw [List.foldl_append]
 rfl
def jM:ag:=.mk 30 ⟨#[]⟩ bk [] []
def ch (d:br):ag:=if d.mode=2 then .mk 19 d.name bk [aX d.steps,d.init,d.upd] [] else if d.mode=3 then .mk 20 d.name bk [aX d.steps,d.init,d.upd,jM] [] else aX d.steps
def a8 (d:br):ag:=if cr d.body=true then ch d else .mk 9 ⟨#[]⟩ bk [ch d,d.body] []
def aW (s:aL):Bool :=
 if s.each=true then decide (s.byIdx=false∧s.key.size=0∧s.index=0) else if s.byIdx=true then decide (s.key.size=0∧0≤s.index∧s.index≤65536) else decide (s.index=0∧s.key.size≤1024)&&validS s.key
def eI:Nat→ag→Bool
 | 0,_=>false
 | m+1,e=>if e.op=3 then true else if e.op=11 then decide (e.args.length=1)&&e.args.all (eI m) else if e.op=24 then decide (e.args.length=1)&&(dX (ej e 0) || e.args.all (eI m)) else if e.op=25 then e.args.all (eI m) else false
def eJ (d:br) (l:List al):Int :=
 if ¬ (1≤d.mode∧d.mode≤3)∨d.steps.length=0 then 1 else if 48<d.steps.length then 10 else if d.steps.all aW=false then 1
 else if d.mode=1∧¬ (d.name.size=0∧bL d.init=true∧bL d.upd=true) then 1 else if d.mode≠1∧eI 48 d.init=false then 22 else dP l (a8 d)
theorem rU {d:br} {l:List al} (h:eJ d l=0):(1≤d.mode∧d.mode≤3)∧d.steps.length≠0∧d.steps.length≤48∧d.steps.all aW=true∧(d.mode=1→d.name.size=0∧bL d.init=true∧bL d.upd=true)∧(d.mode≠1→eI 48 d.init=true)∧dP l (a8 d)=0:=by
 unfold eJ at h
 split at h
 ·simp at h
 rename_i h1
 split at h
 ·simp at h
 rename_i h2
 split at h
 ·simp at h
 rename_i h3
 split at h
 ·simp at h
 rename_i h4
 split at h
 ·simp at h
 rename_i h5
 refine ⟨Classical.not_not.1 fun g=>h1 (.inl g),fun g=>h1 (.inr g),by omega,by simpa using h3,fun g=>Classical.not_not.1 fun q=>h4 ⟨g,q⟩,fun g=>?_,h⟩
 cases hc:eI 48 d.init
 ·exact absurd ⟨g,hc⟩ h5
 ·rfl
theorem fj {s:ByteArray} (h:s.size=0):s=⟨#[]⟩:=by
 apply ByteArray.ext
 exact Array.eq_empty_of_size_eq_zero h
theorem yf {a:dL} (h:eb a ⟨false,⟨#[]⟩,0⟩=true):a=⟨false,⟨#[]⟩,0⟩:=by
 obtain ⟨n,g,e⟩:=a
 unfold eb at h
 simp at h
 obtain ⟨h1,h2,h3⟩:=h
 subst h1
 subst h3
 rw [fj ((aH g).1 h2)]
theorem tZ {a:gi} (h:ed a ⟨0,0,0,0⟩=true):a=⟨0,0,0,0⟩:=by
 obtain ⟨n,g,e,f⟩:=a
 unfold ed at h
 simp at h
 obtain ⟨h1,h2,h3,h4⟩:=h
 subst h1
 subst h2
 subst h3
 subst h4
 rfl
theorem ly {v:ar} (h:bj v=true):v=bk:=by
 obtain ⟨k,b,n,t,x,y,l,f⟩:=v
 unfold bj at h
 rw [decide_eq_true_eq] at h
 simp only [ar.kind,ar.bool,ar.num,ar.time,ar.text,ar.bytes,ar.list,ar.fields] at h
 obtain ⟨rfl,rfl,h3,h4,h5,h6,h7,h8⟩:=h
 obtain rfl:=yf h3
 obtain rfl:=tZ h4
 obtain rfl:=fj h5
 obtain rfl:=List.length_eq_zero_iff.1 h6
 obtain rfl:=List.length_eq_zero_iff.1 h7
 obtain rfl:=List.length_eq_zero_iff.1 h8
 rfl
theorem oU {e:ag} (h:bL e=true):e=fG:=by
 obtain ⟨o,n,v,a,f⟩:=e
 unfold bL at h
 rw [decide_eq_true_eq] at h
 simp only [ag.op,ag.name,ag.val,ag.args,ag.funcs] at h
 obtain ⟨rfl,h2,h3,h4,h5⟩:=h
 obtain rfl:=fj h2
 obtain rfl:=ly h3
 obtain rfl:=List.length_eq_zero_iff.1 h4
 obtain rfl:=List.length_eq_zero_iff.1 h5
 rfl
theorem nn {e:ag} (h:cr e=true):e=fu:=by
 obtain ⟨o,n,v,a,f⟩:=e
 unfold cr at h
 rw [decide_eq_true_eq] at h
 simp only [ag.op,ag.name,ag.val,ag.args,ag.funcs] at h
 obtain ⟨rfl,h2,h3,h4,h5⟩:=h
 obtain rfl:=fj h2
 obtain rfl:=ly h3
 obtain rfl:=List.length_eq_zero_iff.1 h4
 obtain rfl:=List.length_eq_zero_iff.1 h5
 rfl
theorem nL:∀ (m:Nat) (e:ag),eI (m+1) e=true→kD m e=true:=by
 intro m
 induction m with
 | zero =>
   intro e h
   rw [eI] at h
   unfold kD cW
   by_cases h3:e.op=3
   ·rw [if_pos h3]
   rw [if_neg h3] at h ⊢
   by_cases h11:e.op=11
   ·rw [if_pos h11,Bool.and_eq_true,decide_eq_true_eq] at h
    have:=List.all_eq_true.1 h.2 _ (List.getElem_mem (by omega:0<e.args.length))
    cases this
   rw [if_neg h11] at h
   by_cases h24:e.op=24
   ·rw [if_pos h24,Bool.and_eq_true,decide_eq_true_eq,Bool.or_eq_true] at h
    rw [if_pos h24,Bool.or_eq_true,decide_eq_true_eq]
    rcases h.2 with h2 | h2
    ·exact .inl (of_decide_eq_true h2).1
    ·have:=List.all_eq_true.1 h2 _ (List.getElem_mem (by omega:0<e.args.length))
     cases this
   rw [if_neg h24] at h ⊢
   by_cases h25:e.op=25
   ·rw [if_pos h25] at h
    rw [if_pos (.inr h25),List.all_eq_true]
    intro x hx
    have:=List.all_eq_true.1 h x hx
    cases this
   ·rw [if_neg h25] at h
    cases h
 | succ m ih =>
   intro e h
   rw [eI] at h
   unfold kD cW
   by_cases h3:e.op=3
   ·rw [if_pos h3]
   rw [if_neg h3] at h ⊢
   by_cases h11:e.op=11
   ·rw [if_pos h11,Bool.and_eq_true,decide_eq_true_eq] at h
    rw [if_neg (by omega),if_pos (.inl h11),List.all_eq_true]
    exact fun x hx=>ih x (List.all_eq_true.1 h.2 x hx)
   rw [if_neg h11] at h
   by_cases h24:e.op=24
   ·rw [if_pos h24,Bool.and_eq_true,decide_eq_true_eq,Bool.or_eq_true] at h
    rw [if_pos h24,Bool.or_eq_true,decide_eq_true_eq]
    have h0:0<e.args.length:=by omega
    rcases h.2 with h2 | h2
    ·exact .inl (of_decide_eq_true h2).1
    ·right
     rw [bU h0]
     exact ih _ (List.all_eq_true.1 h2 _ (List.getElem_mem h0))
   rw [if_neg h24] at h ⊢
   by_cases h25:e.op=25
   ·rw [if_pos h25] at h
    rw [if_pos (.inr h25),List.all_eq_true]
    exact fun x hx=>ih x (List.all_eq_true.1 h x hx)
   ·rw [if_neg h25] at h
    cases h
theorem Cp:∀ n:Nat,dv (aS n).data.toList=n:=by
 intro n
 unfold aS
 rw [strOfNums_data]
 induction n using Nat.strongRecOn with
 | ind n ih =>
   by_cases h:n=0
   ·subst h
    rw [gD]
    rfl
   ·rw [dl h,List.map_append,List.map_cons,List.map_nil,oH,ih (n / 10) (by omega)]
    have:(UInt8.ofNat ((48+n % 10:Nat):Int).toNat).toNat=48+n % 10:=by
     rw [Int.toNat_natCast]
     simp
     omega
    rw [this]
    omega
theorem ub (n:Nat) (h:0<n) (hn:n<10 ^ 6):(aw n).2≤5:=by
 apply Nat.le_of_not_lt
 intro h6
 have h1:=lE n
 have h2:=(fI n h).1
 have h3:10 ^ 6≤10 ^ (aw n).2:=Nat.pow_le_pow_right (by omega) h6
 have h4:1 * 10 ^ (aw n).2≤(aw n).1 * 10 ^ (aw n).2:=Nat.mul_le_mul_right _ h2
 omega
theorem rF (n:Nat) (hn:n≤65536):gP (fp n)∧(fp n).digits.size+(fp n).exp≤18:=by
 by_cases h0:n=0
 ·subst h0
  have hs:aw 0=(0,0):=dB (by omega)
  have hf:aS 0=⟨#[]⟩:=by unfold aS;rw [gD];rfl
  unfold fp
  rw [hs,hf]
  refine ⟨?_,by decide⟩
  exact .inl ⟨rfl,rfl,rfl⟩
 have hp:0<n:=by omega
 have he:=ub n hp (by omega)
 have hq:=fI n hp
 have hl:=iC n
 have hz:=io 6 (aw n).1 (by omega)
 have hq0:=im hq.1
 have hs:(aS (aw n).1).size=(ck (aw n).1).length:=by unfold aS;exact strOfNums_size _
 have hst:aw (aw n).1=((aw n).1,0):=dB (fun g=>hq.2 g.2)
 have hlast:=nO hq.1
 rw [hst,Nat.sub_zero] at hlast
 refine ⟨.inr ⟨?_,?_,?_,mB hq.1,hlast,?_,?_⟩,?_⟩
 ·show 0<(aS (aw n).1).size
  omega
 ·show (aS (aw n).1).size≤120
  omega
 ·intro i hi
  have hi2:i<(ck (aw n).1).length:=by rw [← hs];exact hi
  show 48≤aI (aS (aw n).1) i∧aI (aS (aw n).1) i≤57
  unfold aS
  rw [gI (oM _) hi2]
  exact qq _ _ (List.getElem_mem hi2)
 ·show (-400:Int)≤((aw n).2:Int)
  omega
 ·show ((aw n).2:Int)≤400
  omega
 ·show ((aS (aw n).1).size:Int)+((aw n).2:Int)≤18
  omega
theorem ud (n:Nat) (hn:n≤65536):eq (kX n)=some (n:Int):=by
 obtain ⟨h1,h2⟩:=rF n hn
 have h3:=sm (d:=fp n) h1 rfl (by show (0:Int)≤((aw n).2:Int);omega) h2
 have h4:dv (fp n).digits.data.toList * 10 ^ (fp n).exp.toNat=n:=by
  show dv (aS (aw n).1).data.toList * 10 ^ ((aw n).2:Int).toNat=n
  rw [Cp,Int.toNat_natCast,← lE]
 rw [h4] at h3
 unfold eq
 rw [if_pos]
 ·show some (toI (fp n)).1=_
  rw [h3]
 ·refine ⟨rfl,rfl,?_,?_,?_⟩
  ·show (0:Int)≤((aw n).2:Int)
   omega
  ·show (toI (fp n)).2=0
   rw [h3]
  ·show (toI (fp n)).1≤65536
   rw [h3]
   simp only
   omega
theorem qZ (e:ag) (s:aL):ej (cO e s) 0=e:=by
 unfold cO
 split
 ·rfl
 split
 ·rfl
 ·rfl
theorem o7 (e:ag) (s:aL):(cO e s).op=5∨(cO e s).op=6∨(cO e s).op=8:=by
 unfold cO
 split
 ·exact .inr (.inr rfl)
 split
 ·exact .inr (.inl rfl)
 ·exact .inl rfl
theorem ra (e:ag) (s:aL) (h:aW s=true):iZ (cO e s)=some s:=by
 obtain ⟨ea,by_,k,ix⟩:=s
 unfold aW at h
 unfold cO
 cases ea
 ·cases by_
  ·have h2:(decide (ix=0∧k.size≤1024)&&validS k)=true:=h
   rw [Bool.and_eq_true,decide_eq_true_eq] at h2
   obtain ⟨⟨rfl,_⟩,_⟩:=h2
   exact if_pos rfl
  ·have h2:k.size=0∧0≤ix∧ix≤65536:=of_decide_eq_true h
   obtain ⟨h1,h2,h3⟩:=h2
   refine (if_neg (show ¬ ((6:Int)=5) by decide)).trans ((if_neg (show ¬ ((6:Int)=8) by decide)).trans ?_)
   show (eq (ej (ag.mk 6 ⟨#[]⟩ bk [e,kX ix.toNat] []) 1)).map _=_
   rw [show ej (ag.mk 6 ⟨#[]⟩ bk [e,kX ix.toNat] []) 1=kX ix.toNat from rfl,ud _ (by omega)]
   rw [fj h1,Option.map_some,show ((ix.toNat:Nat):Int)=ix by omega]
 ·have h2:by_=false∧k.size=0∧ix=0:=of_decide_eq_true h
  obtain ⟨rfl,h2,rfl⟩:=h2
  rw [fj h2]
  exact (if_neg (show ¬ ((8:Int)=5) by decide)).trans (if_pos rfl)
theorem ug:∀ (m:Nat) (l:List aL),l.length≤m→l.all aW=true→dZ m (aX l)=some l:=by
 intro m
 induction m with
 | zero =>
   intro l hl _
   obtain rfl:=List.length_eq_zero_iff.1 (by omega:l.length=0)
   rfl
 | succ m ih =>
   intro l hl hp
   rcases List.eq_nil_or_concat l with rfl | ⟨r,s,rfl⟩
   ·have h0:dO (dZ m) fu=some []:=by
     unfold dO
     exact if_pos rfl
    exact h0
   ·rw [List.concat_eq_append] at hl hp ⊢
    rw [List.all_append,Bool.and_eq_true] at hp
    have hs:aW s=true:=by simpa using hp.2
    rw [gB]
    show dO (dZ m) (cO (aX r) s)=_
    have ho:=o7 (aX r) s
    unfold dO
    rw [if_neg (by omega),if_pos (by omega),qZ,ih r (by simp at hl;omega) hp.1,Option.bind_some,ra _ _ hs]
    rfl
theorem Am {m:Nat} {e:ag} {s:aL} (h:dpE (m+1) (cO e s)):dpE m e:=by
 unfold cO at h
 split at h
 ·exact h.1 e (by simp [ag.args])
 split at h
 ·exact h.1 e (by simp [ag.args])
 ·exact h.1 e (by simp [ag.args])
theorem oK:∀ (m:Nat) (l:List aL),dpE m (aX l)→l.length≤m:=by
 intro m
 induction m with
 | zero =>
   intro l h
   rcases List.eq_nil_or_concat l with rfl | ⟨r,s,rfl⟩
   ·exact Nat.le_refl _
   ·rw [List.concat_eq_append,gB] at h
    have:=h.1
    unfold cO at this
    split at this
    ·cases this
    split at this
    ·cases this
    ·cases this
 | succ m ih =>
   intro l h
   rcases List.eq_nil_or_concat l with rfl | ⟨r,s,rfl⟩
   ·exact Nat.zero_le _
   ·rw [List.concat_eq_append,gB] at h
    have:=ih r (Am h)
    rw [List.concat_eq_append,List.length_append,List.length_singleton]
    omega
theorem ql {l:List aL}:(aX l).op=1∨(aX l).op=5∨(aX l).op=6∨(aX l).op=8:=by
 rcases List.eq_nil_or_concat l with rfl | ⟨r,s,rfl⟩
 ·exact .inl rfl
 ·rw [List.concat_eq_append,gB]
  exact .inr (o7 _ _)
theorem pO (d:br):(ch d).op≠9:=by
 unfold ch
 split
 ·show (19:Int)≠9
  decide
 split
 ·show (20:Int)≠9
  decide
 ·have:=ql (l:=d.steps)
  omega
theorem zJ (d:br):dR (a8 d)=ch d:=by
 unfold a8
 split
 ·unfold dR
  rw [if_neg (pO d)]
 ·rfl
theorem AE (d:br):gg (a8 d)=d.body:=by
 unfold a8
 split
 ·rename_i h
  unfold gg
  rw [if_neg (pO d),nn h]
 ·rfl
theorem x8:∀ {m:Nat} {e:ag},dpE m e→dpE (m+1) e:=by
 intro m
 induction m with
 | zero =>
   intro e h
   obtain ⟨h1,h2⟩:=h
   refine ⟨fun a ha=>?_,fun f hf=>?_⟩
   ·rw [h1] at ha
    cases ha
   ·rw [h2] at hf
    cases hf
 | succ m ih=>intro e h;exact ⟨fun a ha=>ih (h.1 a ha),fun f hf=>ih (h.2 f hf)⟩
theorem An {d:br} (h:dpE 47 (a8 d)):dpE 47 (ch d):=by
 unfold a8 at h
 split at h
 ·exact h
 ·exact x8 (h.1 (ch d) (by simp [ag.args]))
theorem re {d:br} {l:List al} (h:eJ d l=0) (hd:dpE 47 (a8 d)):cy (a8 d)=some d:=by
 obtain ⟨hm,h0,h48,hp,hz,hk,_⟩:=rU h
 have hdm:=An hd
 have hlen:d.steps.length≤47:=by
  unfold ch at hdm
  split at hdm
  ·have:=oK 46 d.steps (hdm.1 _ (by simp [ag.args]))
   omega
  split at hdm
  ·have:=oK 46 d.steps (hdm.1 _ (by simp [ag.args]))
   omega
  ·exact oK 47 d.steps hdm
 have hsel:cQ (dZ 47 (aX d.steps))=some d.steps:=by
  rw [ug 47 d.steps hlen hp]
  unfold cQ
  rw [Option.bind_some,if_pos (by omega)]
 unfold cy
 rw [zJ,AE]
 obtain ⟨mode,steps,name,init,upd,body⟩:=d
 simp only at hm hz hk hsel ⊢
 by_cases h2:mode=2
 ·subst h2
  have hc:=nL 47 init (hk (by decide))
  rw [show ch ⟨2,steps,name,init,upd,body⟩=.mk 19 name bk [aX steps,init,upd] [] from rfl]
  rw [if_pos (by simp [fy,ag.op])]
  rw [show ej (ag.mk 19 name bk [aX steps,init,upd] []) 1=init from rfl,hc,if_neg (by decide)]
  rw [show ej (ag.mk 19 name bk [aX steps,init,upd] []) 0=aX steps from rfl,hsel]
  rfl
 by_cases h3:mode=3
 ·subst h3
  have hc:=nL 47 init (hk (by decide))
  rw [show ch ⟨3,steps,name,init,upd,body⟩=.mk 20 name bk [aX steps,init,upd,jM] [] from rfl]
  rw [if_pos (by unfold fy;rw [decide_eq_true_eq];exact .inr ⟨rfl,rfl⟩)]
  rw [show ej (ag.mk 20 name bk [aX steps,init,upd,jM] []) 1=init from rfl,hc,if_neg (by decide)]
  rw [show ej (ag.mk 20 name bk [aX steps,init,upd,jM] []) 0=aX steps from rfl,hsel]
  rfl
 have h1:mode=1:=by omega
 subst h1
 obtain ⟨hn,hi,hu⟩:=hz rfl
 rw [show ch ⟨1,steps,name,init,upd,body⟩=aX steps from rfl]
 have ho:=ql (l:=steps)
 rw [if_neg (by unfold fy;rw [decide_eq_true_eq];omega),hsel,oU hi,oU hu,fj hn]
 rfl
end Go.Proofs.YtiefeajappjnbaaGreatDoor
