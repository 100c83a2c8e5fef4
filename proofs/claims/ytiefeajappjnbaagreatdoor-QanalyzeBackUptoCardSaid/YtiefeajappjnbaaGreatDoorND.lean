/- A step of a selection is valid: qanalyze.proper, datakitref08.Valid of one step. -/
import Derived.Test.YtiefeajappjnbaaGreatDoorGA
import Derived.Test.YtiefeajappjnbaaGreatDoorNB
import Derived.Test.YtiefeajappjnbaaGreatDoorGJ
import Derived.Test.YtiefeajappjnbaaGreatDoorHC
import Derived.Test.YtiefeajappjnbaaGreatDoorNA
import Derived.Test.YtiefeajappjnbaaGreatDoorHH
import Derived.Test.YtiefeajappjnbaaGreatDoorNC
namespace Go.Proofs.YtiefeajappjnbaaGreatDoor
open Go.RowKit
def nY (c:Bool) (k:ByteArray) (n:Int):Bool:=decide (c=false∧k.toList=[]∧n=0)
theorem xV (c:Bool) (k:ByteArray) (n:Int) (w:World):(Op.equalIn 10000 92 (.agg #[.bool c,.string k,.int .i64 n]) (.agg #[.bool false,.string ⟨#[]⟩,.int .i64 0])).run Tryz.prog w=.ok (nY c k n) w:=by
 have u3:=Tryz.underlying3
 have a3:=Tryz.isAgg3
 have z3:=Tryz.sizeOf3
 have u4:=Tryz.underlying4
 have a4:=Tryz.isAgg4
 have z4:=Tryz.sizeOf4
 have u9:=Tryz.underlying9
 have a9:=Tryz.isAgg9
 have z9:=Tryz.sizeOf9
 have hS:Tryz.prog.underlying 92=some (.struct (Tryz.prog.fieldsOf 92)):=by kernel_rfl
 have hp:Tryz.prog.stoodInHeld 92=false:=by kernel_rfl
 rw [show (10000:Nat)=9999+1 from rfl,run_equalIn_agg w 9999 92 _ _ hS hp]
 simp only [Program.fieldsOf,Tryz.underlying92]
 go_simp
 unfold nY
 by_cases h1:c=false<;>by_cases h2:k.toList=[]<;>by_cases h3:n=0<;>simp [h1,h2,h3]
theorem p5:Program.eqGuardType Tryz.prog Tryz.prog.depth 92=false:=by kernel_rfl
def fD (c:Bool) (k:ByteArray) (n:Int):Bool:=if c=true then decide (k.toList=[]∧0≤n∧n≤65536) else decide (n=0∧k.size≤1024)&&validS k
theorem lP (s:aL):aW s=if s.each=true then nY s.byIdx s.key s.index else fD s.byIdx s.key s.index:=by
 unfold aW nY fD
 split
 ·exact decide_eq_decide.2 (by rw [aH])
 split
 ·exact decide_eq_decide.2 (by rw [aH])
 ·rfl
theorem o6 {c:Bool} {k:ByteArray} {n:Int} (h:c=true) (hk:k.toList≠[]):fD c k n=false:=by
 unfold fD
 rw [if_pos h,decide_eq_false (fun g=>hk g.1)]
theorem sn {c:Bool} {k:ByteArray} {n:Int} (h:c=true) (hn:n<0):fD c k n=false:=by
 unfold fD
 rw [if_pos h,decide_eq_false (fun g=>by omega)]
theorem sq {c:Bool} {k:ByteArray} {n:Int} (h:c=true) (hn:65536<n):fD c k n=false:=by
 unfold fD
 rw [if_pos h,decide_eq_false (fun g=>by omega)]
theorem sp {c:Bool} {k:ByteArray} {n:Int} (h:c=true) (hk:k.toList=[]) (h0:0≤n) (hn:n≤65536):fD c k n=true:=by
 unfold fD
 rw [if_pos h,decide_eq_true ⟨hk,h0,hn⟩]
theorem vO {c:Bool} {k:ByteArray} {n:Int} (h:c=false) (hn:n≠0):fD c k n=false:=by
 unfold fD
 rw [if_neg (by simp [h]),decide_eq_false (fun g=>hn g.1)];rfl
theorem vN {c:Bool} {k:ByteArray} {n:Int} (h:c=false) (hk:1024<k.size):fD c k n=false:=by
 unfold fD
 rw [if_neg (by simp [h]),decide_eq_false (fun g=>by omega)];rfl
theorem vM {c:Bool} {k:ByteArray} {n:Int} (h:c=false) (hn:n=0) (hk:k.size≤1024):fD c k n=validS k:=by
 unfold fD
 rw [if_neg (by simp [h]),decide_eq_true ⟨hn,hk⟩];rfl
set_option maxRecDepth 100000 in
set_option maxHeartbeats 6400000 in
theorem pA (s:aL) (w:World) (hk:s.key.size≤1048576) (hE:Env w):Calls Tryz.prog 53 #[.agg #[.bool s.each,.bool s.byIdx,.string s.key,.int .i64 s.index]] w (cq (aW s) w):=by
 have HP:=Hd (lP s)
 obtain ⟨p,hp⟩:∃ p,aW s=p:=⟨_,rfl⟩
 rw [hp] at HP ⊢
 clear hp
 obtain ⟨ea,by_,k,ix⟩:=s
 replace hk:k.size≤1048576:=hk
 obtain ⟨w1,hw1⟩:∃ w1,w1=(w.alloc (.cells #[.bool ea,.bool by_,.string k,.int .i64 ix] 94)).alloc (.cells #[.bool by_,.string k,.int .i64 ix] 92):=⟨_,rfl⟩
 have H1:=Hd (show Below w.heap.size w w1 by rw [hw1];exact ae (af w _) (af _ _))
 have HW:=Hd hw1
 have HE:=Hd (hE.then H1.out)
 have R1:=Hd (show aq 92 w1 (w.heap.size+1) [.bool by_,.string k,.int .i64 ix] by
  have h:=aq.new (w.alloc (.cells #[.bool ea,.bool by_,.string k,.int .i64 ix] 94)) 92 [.bool by_,.string k,.int .i64 ix]
  rw [World.size_alloc] at h
  rw [hw1];exact h)
 clear hw1 hE
 cases ea
 case true =>
  have E1:=xV by_ k ix
  have G1:=p5
  have HR:=Hd (show p=nY by_ k ix from HP.out)
  obtain ⟨z,hz⟩:∃ z,nY by_ k ix=z:=⟨_,rfl⟩
  rw [hz] at E1 HR
  clear hz
  go_enter Tryz.func53,Tryz.ntmps53
  go_wp2_with fail
  go_ret
  exact ⟨am (by first | (rw [HR.out];done) | (rw [HR.out];simp;omega)),by rw [← HW.out];exact H1.out⟩
 have HQ:=Hd (show p=fD by_ k ix from HP.out)
 cases by_
 case true =>
  by_cases hs:k.toList=[]
  case neg =>
   have HR:=Hd (HQ.out.trans (o6 rfl hs))
   have s1:(k.toList==[])=false:=by simp [hs]
   have s2:k.toList.isEmpty=false:=by simp [hs]
   go_enter Tryz.func53,Tryz.ntmps53
   go_wp2_with fail
   go_ret
   exact ⟨am (by first | (rw [HR.out];done) | (rw [HR.out];simp;omega)),by rw [← HW.out];exact H1.out⟩
  have HS:=Hd hs
  have s1:(k.toList==[])=true:=by simp [hs]
  by_cases h0:0≤ix
  case neg =>
   have HR:=Hd (HQ.out.trans (sn rfl (by omega)))
   have h1:ix<0:=by omega
   clear h0
   go_enter Tryz.func53,Tryz.ntmps53
   go_wp2_with fail
   go_ret
   exact ⟨am (by first | (rw [HR.out];done) | (rw [HR.out];simp;omega)),by rw [← HW.out];exact H1.out⟩
  by_cases h1:ix≤65536
  case neg =>
   have HR:=Hd (HQ.out.trans (sq rfl (by omega)))
   have h2:65536<ix:=by omega
   clear h1
   go_enter Tryz.func53,Tryz.ntmps53
   go_wp2_with fail
   go_ret
   exact ⟨am (by first | (rw [HR.out];done) | (rw [HR.out];simp;omega)),by rw [← HW.out];exact H1.out⟩
  have HR:=Hd (HQ.out.trans (sp rfl hs h0 h1))
  go_enter Tryz.func53,Tryz.ntmps53
  go_wp2_with fail
  go_ret
  exact ⟨am (by first | (rw [HR.out];done) | (rw [HR.out];simp;omega)),by rw [← HW.out];exact H1.out⟩
 by_cases h0:ix=0
 case neg =>
  have HR:=Hd (HQ.out.trans (vO rfl h0))
  have e0:(ix==0)=false:=by simpa using h0
  go_enter Tryz.func53,Tryz.ntmps53
  go_wp2_with fail
  go_ret
  exact ⟨am (by first | (rw [HR.out];done) | (rw [HR.out];simp;omega)),by rw [← HW.out];exact H1.out⟩
 subst h0
 by_cases hz:(k.size:Int)≤1024
 case neg =>
  have HR:=Hd (HQ.out.trans (vN rfl (by omega)))
  have h1:(1024:Int)<k.size:=by omega
  clear hz
  go_enter Tryz.func53,Tryz.ntmps53
  go_wp2_with fail
  go_ret
  exact ⟨am (by first | (rw [HR.out];done) | (rw [HR.out];simp;omega)),by rw [← HW.out];exact H1.out⟩
 have HR:=Hd (HQ.out.trans (vM rfl rfl (by omega)))
 go_enter Tryz.func53,Tryz.ntmps53
 go_wp2_with fail
 rw [← HW.out]
 refine (Tryz.utf8_ValidString k _ (by omega) HE.out.utf).mono ?_
 rintro e w2 ⟨rfl,hb⟩
 have H2:=Hd (ae H1.out hb)
 rw [mX]
 obtain ⟨v,hv⟩:∃ v,validS k=v:=⟨_,rfl⟩
 rw [hv] at HR ⊢
 clear hv hb
 go_wp2_with fail
 go_ret
 exact ⟨am (by first | (rw [HR.out];done) | (rw [HR.out];simp;omega)),H2.out⟩
set_option maxRecDepth 100000 in
set_option maxHeartbeats 12800000 in
theorem yW (c:Bool) (k:ByteArray) (n:Int) (b:Nat) (w:World) (hk:k.size≤1048576) (hb:b<w.heap.size) (h:aj w b 0 [.bool c,.string k,.int .i64 n]):Calls Tryz.prog 40 #[.slice (some ⟨b,0,none⟩) 1 1] w (cq (fD c k n) w):=by
 obtain ⟨p,hp⟩:∃ p,fD c k n=p:=⟨_,rfl⟩
 rw [hp]
 have HP:=Hd hp
 have HC:=Hd h
 have H0:=Hd (Below.refl w.heap.size w)
 clear h hp
 go_enter Tryz.func40,Tryz.ntmps40
 go_wp2_with fail
 go_simp
 go_loopw [3] (fun i wr=>∃ j:Nat,j≤1∧i=.int .i64 j∧Hid (j=1→p=true)∧Hid (Below w.heap.size w wr)) (fun i _=>1-(intOf i).toNat)
 case atStart=>exact ⟨0,by omega,rfl,Hd (fun h=>by omega),H0⟩
 case round =>
  clear H0
  obtain ⟨w1,rfl⟩:∃ w1,w1=wr:=⟨wr,rfl⟩
  obtain ⟨j,hj,rfl,HJ,H1⟩:=hrel
  by_cases hj1:j=1
  ·subst hj1
   have HR:=Hd (HJ.out rfl)
   go_wp2_with fail
   go_ret
   exact ⟨am (by first | (rw [HR.out];done) | (rw [HR.out];simp;omega)),H1.out⟩
  obtain rfl:j=0:=by omega
  have C1:=HC.out.below H1.out hb
  have c0:w1.cell? ⟨b,0,none⟩=some (.bool c):=C1.get0 (j:=0) rfl
  have c1:w1.cell? ⟨b,1,none⟩=some (.string k):=C1.get0 (j:=1) rfl
  have c2:w1.cell? ⟨b,2,none⟩=some (.int .i64 n):=C1.get0 (j:=2) rfl
  clear C1 hj hj1
  cases c
  case true =>
   by_cases hs:k.toList=[]
   case neg =>
    have HR:=Hd (HP.out.symm.trans (o6 rfl hs))
    have s1:(k.toList==[])=false:=by simp [hs]
    have s2:k.toList.isEmpty=false:=by simp [hs]
    have s3:(k.toList != [])=true:=by simp [hs]
    go_wp2_with fail
    go_ret
    exact ⟨am (by first | (rw [HR.out];done) | (rw [HR.out];simp;omega)),H1.out⟩
   have HS:=Hd hs
   have s1:(k.toList==[])=true:=by simp [hs]
   have s3:(k.toList != [])=false:=by simp [hs]
   by_cases h0:n<0
   ·have HR:=Hd (HP.out.symm.trans (sn rfl h0))
    go_wp2_with fail
    go_ret
    exact ⟨am (by first | (rw [HR.out];done) | (rw [HR.out];simp;omega)),H1.out⟩
   have h0':0≤n:=by omega
   clear h0
   by_cases h1:65536<n
   ·have HR:=Hd (HP.out.symm.trans (sq rfl h1))
    go_wp2_with fail
    go_ret
    exact ⟨am (by first | (rw [HR.out];done) | (rw [HR.out];simp;omega)),H1.out⟩
   have h1':n≤65536:=by omega
   have HR:=Hd (HP.out.symm.trans (sp rfl hs h0' h1'))
   clear h1
   go_wp2_with fail
   go_roundw
   case rel=>exact ⟨1,by omega,by go_num,Hd (fun _=>HR.out),H1⟩
   case measure=>simp [intOf]
  by_cases h0:n=0
  case neg =>
   have HR:=Hd (HP.out.symm.trans (vO rfl h0))
   have e0:(n==0)=false:=by simpa using h0
   have e1:(n != 0)=true:=by simpa using h0
   go_wp2_with fail
   go_ret
   exact ⟨am (by first | (rw [HR.out];done) | (rw [HR.out];simp;omega)),H1.out⟩
  subst h0
  by_cases hz:(1024:Int)<k.size
  ·have HR:=Hd (HP.out.symm.trans (vN rfl (by omega)))
   go_wp2_with fail
   go_ret
   exact ⟨am (by first | (rw [HR.out];done) | (rw [HR.out];simp;omega)),H1.out⟩
  have HR:=Hd (HP.out.symm.trans (vM rfl rfl (by omega)))
  have hz2:(k.size:Int)≤1024:=by omega
  clear hz
  go_wp2_with fail
  refine (gp k _ (by omega)).mono ?_
  rintro e w2 ⟨rfl,hb2⟩
  have H2:=Hd (ae H1.out hb2)
  obtain ⟨v,hv⟩:∃ v,validS k=v:=⟨_,rfl⟩
  rw [hv] at HR ⊢
  clear hv hb2
  cases v
  ·go_wp2_with fail
   go_ret
   exact ⟨am (by first | (rw [HR.out];done) | (rw [HR.out];simp;omega)),H2.out⟩
  ·go_wp2_with fail
   go_roundw
   case rel=>exact ⟨1,by omega,by go_num,Hd (fun _=>HR.out),H2⟩
   case measure=>simp [intOf]
end Go.Proofs.YtiefeajappjnbaaGreatDoor

/- qanalyze.constant of any expression (it need not be valid). -/
namespace Go.Proofs.YtiefeajappjnbaaGreatDoor
open Go.RowKit
def bG (g:ag→Bool) (e:ag):Bool:=if e.op=3 then true else if e.op=11 then decide (e.args.length=1)&&e.args.all g else if e.op=24 then decide (e.args.length=1)&&(dX (ej e 0) || e.args.all g) else if e.op=25 then e.args.all g else false
theorem yp (m:Nat) (e:ag):eI (m+1) e=bG (eI m) e:=by rw [eI];rfl
theorem sr {g:ag→Bool} {e:ag} (h:e.op=3):bG g e=true:=by unfold bG;rw [if_pos h]
theorem o8 {g:ag→Bool} {x:ag} (h3:x.op≠3) (h24:x.op≠24) (h11:x.op≠11) (h25:x.op≠25):bG g x=false:=by unfold bG;rw [if_neg h3,if_neg h11,if_neg h24,if_neg h25]
theorem m4 {g:ag→Bool} {x:ag} (h:x.op=11∨x.op=24) (hl:x.args.length≠1):bG g x=false:=by
 unfold bG
 rcases h with h | h
 ·rw [h,if_neg (by decide),if_pos rfl,decide_eq_false hl];rfl
 ·rw [h,if_neg (by decide),if_neg (by decide),if_pos rfl,decide_eq_false hl];rfl
theorem pf {g:ag→Bool} {x:ag} (h:x.op=11) (hl:x.args.length=1):bG g x=x.args.all g:=by
 unfold bG
 rw [h,if_neg (by decide),if_pos rfl,decide_eq_true hl];rfl
theorem lG {g:ag→Bool} {x:ag} (h:x.op=24) (hl:x.args.length=1):bG g x=(dX (ej x 0) || x.args.all g):=by
 unfold bG
 rw [h,if_neg (by decide),if_neg (by decide),if_pos rfl,decide_eq_true hl];rfl
theorem o9 {g:ag→Bool} {x:ag} (h:x.op=25):bG g x=x.args.all g:=by
 unfold bG
 rw [h,if_neg (by decide),if_neg (by decide),if_neg (by decide),if_pos rfl]
theorem m6 {g:ag→Bool} {x:ag} (h:x.op=11∨x.op=25):cW g x=x.args.all g:=by
 unfold cW
 rw [if_neg (by omega),if_neg (by omega),if_pos h]
theorem AF {g:ag→Bool} {x:ag} (hl:x.args.length=1) (h0:0<x.args.length):x.args.all g=g x.args[0]:=by
 obtain ⟨y,hy⟩:∃ y,x.args=[y]:=List.length_eq_one_iff.1 hl
 simp [hy]
theorem eK.of {D:Int} {g g':ag→Bool} {x:ag} (h:g x=g' x) (hp:eK D g x):eK D g' x:=fun w B N cs hN hB hx=>by rw [← h];exact hp w B N cs hN hB hx
set_option maxRecDepth 100000 in
set_option maxHeartbeats 1600000 in
theorem vk (D:Int) (hD:48<D) (x:ag):eK D (eI 0) x:=by
 intro w B N cs hN hB hx
 have H0:=Hd (af w (.cells cs.toArray 34))
 clear hx
 go_enter Tryz.func49,Tryz.ntmps49
 go_wp2_with fail
 go_ret
 exact ⟨rfl,H0.out⟩
set_option maxRecDepth 100000 in
set_option maxHeartbeats 3200000 in
theorem qv (D:Int) (hD0:1≤D) (hD:D≤48) (g:ag→Bool) (x:ag) (h:x.op=11∨x.op=24) (hl:x.args.length≠1):eK D (bG g) x:=by
 intro w B N cs hN hB hx
 obtain ⟨aa,fa,ac,fc,vs,hh⟩:=hx.has
 have c0:=hh.op
 have c15:=hh.args
 have hal:x.args.length≤N:=hh.own.2.2.1
 have H0:=Hd (af w (.cells cs.toArray 34))
 have HG:=Hd (m4 (g:=g) h hl)
 clear hx hh
 obtain ⟨n,hn⟩:∃ n,x.args.length=n:=⟨_,rfl⟩
 rw [hn] at c15 hal hl
 clear hn
 have hne:((n:Int)==1)=false:=by simp;omega
 have hne2:((n:Int) != 1)=true:=by simp;omega
 rcases h with h | h
 all_goals
  rw [h] at c0
  clear h
  go_enter Tryz.func49,Tryz.ntmps49
  go_wp2_with fail
  go_ret
  exact ⟨by rw [HG.out];rfl,H0.out⟩
set_option maxRecDepth 100000 in
set_option maxHeartbeats 3200000 in
theorem Aq (D:Int) (hD0:1≤D) (hD:D≤48) (g:ag→Bool) (x:ag) (h:x.op=24) (h1':x.args.length=1) (hk:∀ k (h:k<x.args.length),eK (D+1) g x.args[k]):eK D (bG g) x:=by
 intro w B N cs hN hB hx
 obtain ⟨aa,fa,ac,fc,vs,hh⟩:=hx.has
 have hl:0<x.args.length:=by omega
 have c0:cs[0]?=some (.int .i64 24):=by rw [hh.op,h]
 have c15:cs[15]?=some (.slice aa 1 ac):=by rw [hh.args,h1']
 have HK:=Hd (hk 0 hl)
 have H0:=Hd (af w (.cells cs.toArray 34))
 have HG:=Hd (show bG g x=(dX x.args[0] || g x.args[0]) by rw [lG h h1',bU hl,AF h1' hl])
 obtain ⟨b,o,rfl,hb,hget⟩:=hh.atArgs.get (by intro h;simp [h] at hl)
 obtain ⟨cs1,h1,h2⟩:=hget 0 hl
 rw [Nat.zero_mul,Nat.add_zero] at h1
 have H1:=Hd (h1.below (H0.out.mono hB) hb)
 have HX:=Hd (h2.below (H0.out.mono hB))
 have HR0:=Hd (aA w cs 34)
 have hs0:=Hd (show w.heap.size<(w.alloc (.cells cs.toArray 34)).heap.size by rw [World.size_alloc];omega)
 have hl1:=Hd (show (Tryz.prog.info? 34).map (·.size)=some cs1.length by rw [h2.len];exact ay)
 have Hb:=Hd hb
 clear hx hh h hk hget h1 h2 h1' hb
 obtain ⟨v,hv⟩:∃ v,g x.args[0]=v:=⟨_,rfl⟩
 have HV:=Hd hv
 clear hv
 go_enter Tryz.func49,Tryz.ntmps49
 go_wp2_with (refine ax rfl 34 _ rfl b o rfl cs1 _ H1.out.range Tryz.underlying34 rfl hl1.out ?_)
 refine (yG x.args[0] _ B N cs1 hN (Nat.le_trans hB H0.out.size) HX.out).mono ?_
 rintro e w2 ⟨rfl,hb2⟩
 have H2:=Hd (ae H0.out hb2)
 obtain ⟨z,hz⟩:∃ z,dX x.args[0]=z:=⟨_,rfl⟩
 have HD:=Hd hz
 rw [hz]
 clear hz
 cases z
 case true =>
  clear hb2
  go_wp2_with fail
  go_ret
  exact ⟨by rw [HG.out,HD.out];rfl,H2.out⟩
 have H12:=Hd (H1.out.below (hb2.mono (Nat.le_trans hB H0.out.size)) Hb.out)
 have HX2:=Hd (HX.out.below (hb2.mono (Nat.le_trans hB H0.out.size)))
 have d15:=(HR0.out.then hb2 hs0.out).get0 c15
 clear hb2
 go_wp2_with (refine ax rfl 34 _ rfl b o rfl cs1 _ H12.out.range Tryz.underlying34 rfl hl1.out ?_)
 refine (HK.out _ B N cs1 hN (Nat.le_trans hB H2.out.size) HX2.out).mono ?_
 rintro e w3 ⟨rfl,hb3⟩
 have H3:=Hd (ae H2.out hb3)
 clear hb3
 rw [HV.out]
 cases v
 all_goals
  go_wp2_with fail
  go_ret
  exact ⟨by rw [HG.out,HV.out,HD.out];rfl,H3.out⟩
theorem vj (D:Int) (hD0:1≤D) (hD:D≤48) (g:ag→Bool) (x:ag) (hk:∀ k (h:k<x.args.length),eK (D+1) g x.args[k]):eK D (bG g) x:=by
 by_cases h3:x.op=3
 ·exact (yo D hD0 hD g x h3).of ((ss h3).trans (sr h3).symm)
 by_cases h11:x.op=11
 ·by_cases hl:x.args.length=1
  ·exact (tD D hD0 hD g x h11 hl hk).of ((m6 (.inl h11)).trans (pf h11 hl).symm)
  ·exact qv D hD0 hD g x (.inl h11) hl
 by_cases h24:x.op=24
 ·by_cases hl:x.args.length=1
  ·exact Aq D hD0 hD g x h24 hl hk
  ·exact qv D hD0 hD g x (.inr h24) hl
 by_cases h25:x.op=25
 ·exact (tC D hD0 hD g x h25 hk).of ((m6 (.inr h25)).trans (o9 h25).symm)
 ·exact (lq D g x h3 h24 h11 h25).of ((ph h3 h24 h11 h25).trans (o8 h3 h24 h11 h25).symm)
theorem ym:∀ (m:Nat) (D:Int) (x:ag),1≤D→D+m=49→eK D (eI m) x:=by
 intro m
 induction m with
 | zero=>intro D x _ hD;exact vk D (by omega) x
 | succ m ih =>
   intro D x hD0 hD
   have hs:∀ y,eK D (bG (eI m)) y→eK D (eI (m+1)) y:=fun y h=>h.of (yp m y).symm
   exact hs x (vj D hD0 (by omega) _ x fun k hk=>ih (D+1) _ (by omega) (by omega))
end Go.Proofs.YtiefeajappjnbaaGreatDoor

/- datakitref43.constant of any expression (printed by gencon43s.py). -/
namespace Go.Proofs.YtiefeajappjnbaaGreatDoor
open Go.RowKit
def gJ (D:Int) (g:ag→Bool) (x:ag):Prop:=∀ (w:World) (B N:Nat) (cs:List Value),N≤1048576→B≤w.heap.size→ag.At w B N x cs→Calls Tryz.prog 42 #[.agg cs.toArray,.int .i64 D] w (Be (g x) w)
theorem gJ.of {D:Int} {g g':ag→Bool} {x:ag} (h:g x=g' x) (hp:gJ D g x):gJ D g' x:=fun w B N cs hN hB hx=>by rw [← h];exact hp w B N cs hN hB hx
set_option maxRecDepth 100000 in
set_option maxHeartbeats 1600000 in
theorem wT (D:Int) (hD:48<D) (x:ag):gJ D (eI 0) x:=by
 intro w B N cs hN hB hx
 have H0:=Hd (af w (.cells cs.toArray 34))
 clear hx
 go_enter Tryz.func42,Tryz.ntmps42
 go_wp2_with fail
 go_ret
 exact ⟨rfl,H0.out⟩
set_option maxRecDepth 100000 in
set_option maxHeartbeats 1600000 in
theorem C8 (D:Int) (hD0:1≤D) (hD:D≤48) (g:ag→Bool) (x:ag) (h:x.op=3):gJ D (bG g) x:=by
 intro w B N cs hN hB hx
 obtain ⟨aa,fa,ac,fc,vs,hh⟩:=hx.has
 have c0:cs[0]?=some (.int .i64 3):=by rw [hh.op,h]
 have H0:=Hd (af w (.cells cs.toArray 34))
 have HG:=Hd (sr (g:=g) h)
 clear hx hh h
 go_enter Tryz.func42,Tryz.ntmps42
 go_wp2_with fail
 go_ret
 exact ⟨by rw [HG.out];rfl,H0.out⟩
set_option maxRecDepth 100000 in
set_option maxHeartbeats 1600000 in
theorem BH (D:Int) (hD0:1≤D) (hD:D≤48) (g:ag→Bool) (x:ag) (h3:x.op≠3) (h24:x.op≠24) (h11:x.op≠11) (h25:x.op≠25):gJ D (bG g) x:=by
 intro w B N cs hN hB hx
 obtain ⟨aa,fa,ac,fc,vs,hh⟩:=hx.has
 have c0:cs[0]?=some (.int .i64 x.op):=hh.op
 have H0:=Hd (af w (.cells cs.toArray 34))
 have HG:=Hd (o8 (g:=g) h3 h24 h11 h25)
 clear hx hh
 generalize x.op=o at *
 have e3:(o==3)=false:=by simpa using h3
 have e24:(o==24)=false:=by simpa using h24
 have e11:(o==11)=false:=by simpa using h11
 have e25:(o==25)=false:=by simpa using h25
 go_enter Tryz.func42,Tryz.ntmps42
 go_wp2_with fail
 go_ret
 exact ⟨by rw [HG.out];rfl,H0.out⟩
set_option maxRecDepth 100000 in
set_option maxHeartbeats 3200000 in
theorem sS (D:Int) (hD0:1≤D) (hD:D≤48) (g:ag→Bool) (x:ag) (h:x.op=11∨x.op=24) (hl:x.args.length≠1):gJ D (bG g) x:=by
 intro w B N cs hN hB hx
 obtain ⟨aa,fa,ac,fc,vs,hh⟩:=hx.has
 have c0:=hh.op
 have c15:=hh.args
 have hal:x.args.length≤N:=hh.own.2.2.1
 have H0:=Hd (af w (.cells cs.toArray 34))
 have HG:=Hd (m4 (g:=g) h hl)
 clear hx hh
 obtain ⟨n,hn⟩:∃ n,x.args.length=n:=⟨_,rfl⟩
 rw [hn] at c15 hal hl
 clear hn
 have hne:((n:Int)==1)=false:=by simp;omega
 have hne2:((n:Int) != 1)=true:=by simp;omega
 rcases h with h | h
 all_goals
  rw [h] at c0
  clear h
  go_enter Tryz.func42,Tryz.ntmps42
  go_wp2_with fail
  go_ret
  exact ⟨by rw [HG.out];rfl,H0.out⟩
set_option maxRecDepth 100000 in
set_option maxHeartbeats 3200000 in
theorem zR (D:Int) (hD0:1≤D) (hD:D≤48) (g:ag→Bool) (x:ag) (h:x.op=24) (h1':x.args.length=1) (ha:dX (ej x 0)=true):gJ D (bG g) x:=by
 intro w B N cs hN hB hx
 obtain ⟨aa,fa,ac,fc,vs,hh⟩:=hx.has
 have hl:0<x.args.length:=by omega
 have c0:cs[0]?=some (.int .i64 24):=by rw [hh.op,h]
 have c15:cs[15]?=some (.slice aa 1 ac):=by rw [hh.args,h1']
 have H0:=Hd (af w (.cells cs.toArray 34))
 have HG:=Hd (show bG g x=true by rw [lG h h1',ha];rfl)
 obtain ⟨b,o,rfl,hb,hget⟩:=hh.atArgs.get (by intro h;simp [h] at hl)
 obtain ⟨cs1,h1,h2⟩:=hget 0 hl
 rw [Nat.zero_mul,Nat.add_zero] at h1
 have H1:=Hd (h1.below (H0.out.mono hB) hb)
 have HX:=Hd (h2.below (H0.out.mono hB))
 have hl1:=Hd (show (Tryz.prog.info? 34).map (·.size)=some cs1.length by rw [h2.len];exact ay)
 rw [bU hl] at ha
 have HA:=Hd ha
 clear hx hh h hget h1 h2 h1' hb ha
 go_enter Tryz.func42,Tryz.ntmps42
 go_wp2_with (refine ax rfl 34 _ rfl b o rfl cs1 _ H1.out.range Tryz.underlying34 rfl hl1.out ?_)
 refine (qO x.args[0] _ B N cs1 hN (Nat.le_trans hB H0.out.size) HX.out).mono ?_
 rintro e w2 ⟨rfl,hb2⟩
 have H2:=Hd (ae H0.out hb2)
 rw [HA.out]
 clear hb2
 go_wp2_with fail
 go_ret
 exact ⟨by rw [HG.out];rfl,H2.out⟩
set_option maxRecDepth 100000 in
set_option maxHeartbeats 6400000 in
theorem BK (D:Int) (hD0:1≤D) (hD:D≤48) (g:ag→Bool) (x:ag) (h:x.op=11) (h1':x.args.length=1) (hk:∀ k (h:k<x.args.length),gJ (D+1) g x.args[k]):gJ D (bG g) x:=by
 intro w B N cs hN hB hx
 obtain ⟨aa,fa,ac,fc,vs,hh⟩:=hx.has
 have c0:cs[0]?=some (.int .i64 11):=by rw [hh.op,h]
 have c15:=hh.args
 have hal:x.args.length≤N:=hh.own.2.2.1
 have HAS:=Hd hh.atArgs
 have HK:=Hd hk
 have H0:=Hd (af w (.cells cs.toArray 34))
 have R0:=Hd (aA w cs 34)
 have hs0:w.heap.size<(w.alloc (.cells cs.toArray 34)).heap.size:=by rw [World.size_alloc];omega
 have HG:=Hd (show bG g x=(x.args.drop 0).all g by rw [List.drop_zero];exact pf h h1')
 have HN:=Hd h1'
 rw [h1'] at c15 hal
 have e15:=R0.out.get0 c15
 clear hx hh h hk h1'
 go_enter Tryz.func42,Tryz.ntmps42
 go_wp2_with fail
 go_simp
 go_loopw [5] (fun i wr=>∃ (k:Nat),k≤1∧i=.int .i64 k∧Hid (bG g x=(x.args.drop k).all g)∧Hid (aj wr w.heap.size 0 cs)∧Hid (Below w.heap.size w wr)∧w.heap.size<wr.heap.size)
  (fun i _=>1-(intOf i).toNat)
 case atStart=>exact ⟨0,by omega,rfl,HG,R0,H0,hs0⟩
 case round =>
  clear HG R0 H0 hs0 e15
  obtain ⟨w1,rfl⟩:∃ w1,w1=wr:=⟨wr,rfl⟩
  obtain ⟨k,hkl,rfl,HG,R0,H0,hs⟩:=hrel
  have e15:=R0.out.get0 c15
  by_cases hlt:k<1
  ·have hkx:k<x.args.length:=by have:=HN.out;omega
   obtain ⟨b,o,rfl,hb,hget⟩:=HAS.out.get (by intro h;have:=HN.out;simp [h] at this)
   obtain ⟨cs2,h1,h2⟩:=hget k hkx
   have HR:=Hd (h1.below (H0.out.mono hB) hb).range
   have HX2:=Hd (h2.below (H0.out.mono hB))
   have hl2:=Hd (show (Tryz.prog.info? 34).map (·.size)=some cs2.length by rw [h2.len];exact ay)
   have HST:=Hd (show (x.args.drop k).all g=(g x.args[k]&&(x.args.drop (k+1)).all g) by rw [List.drop_eq_getElem_cons hkx,List.all_cons])
   have HKX:=Hd hkx
   clear h1 h2 hget
   go_wp2_with (refine wpList_load_mid rfl 34 _ rfl b (o+k * 17) rfl cs2 _ HR.out Tryz.underlying34 rfl hl2.out ?_)
   refine (HK.out k HKX.out _ B N cs2 hN (Nat.le_trans hB H0.out.size) HX2.out).mono ?_
   rintro e w2 ⟨rfl,hb2⟩
   have H2:=Hd (ae H0.out hb2)
   have R2:=Hd (R0.out.then hb2 hs)
   have hs2:w.heap.size<w2.heap.size:=Nat.lt_of_lt_of_le hs hb2.size
   clear hb2
   obtain ⟨v,hv⟩:∃ v,g (x.args[k]'HKX.out)=v:=⟨_,rfl⟩
   have HV:=Hd hv
   rw [hv]
   clear hv
   cases v
   ·go_wp2_with fail
    go_ret
    exact ⟨by rw [HG.out,HST.out,HV.out];rfl,H2.out⟩
   ·go_wp2_with fail
    go_roundw
    case rel=>exact ⟨k+1,by omega,by go_num,Hd (by rw [HG.out,HST.out,HV.out];rfl),R2,H2,hs2⟩
    case measure=>simp [intOf];omega
  ·have hke:k=x.args.length:=by have:=HN.out;omega
   have HKE:=Hd (show bG g x=true by rw [HG.out,hke,List.drop_length];rfl)
   clear hke
   go_wp2_with fail
   go_ret
   exact ⟨by rw [HKE.out];rfl,H0.out⟩
set_option maxRecDepth 100000 in
set_option maxHeartbeats 6400000 in
theorem BJ (D:Int) (hD0:1≤D) (hD:D≤48) (g:ag→Bool) (x:ag) (h:x.op=24) (h1':x.args.length=1) (ha:dX (ej x 0)=false) (hk:∀ k (h:k<x.args.length),gJ (D+1) g x.args[k]):gJ D (bG g) x:=by
 intro w B N cs hN hB hx
 obtain ⟨aa,fa,ac,fc,vs,hh⟩:=hx.has
 have c0:cs[0]?=some (.int .i64 24):=by rw [hh.op,h]
 have c15:=hh.args
 have hal:x.args.length≤N:=hh.own.2.2.1
 have HAS:=Hd hh.atArgs
 have HK:=Hd hk
 have H0:=Hd (af w (.cells cs.toArray 34))
 have R0:=Hd (aA w cs 34)
 have hs0:w.heap.size<(w.alloc (.cells cs.toArray 34)).heap.size:=by rw [World.size_alloc];omega
 have HG:=Hd (show bG g x=(x.args.drop 0).all g by rw [List.drop_zero];exact (lG h h1').trans (by rw [ha];rfl))
 have HN:=Hd h1'
 rw [h1'] at c15 hal
 have hl:0<x.args.length:=by omega
 obtain ⟨b,o,rfl,hb,hget⟩:=hh.atArgs.get (by intro h;simp [h] at hl)
 obtain ⟨cs1,h1,h2⟩:=hget 0 hl
 rw [Nat.zero_mul,Nat.add_zero] at h1
 have H1:=Hd (h1.below (H0.out.mono hB) hb)
 have HX:=Hd (h2.below (H0.out.mono hB))
 have hl1:=Hd (show (Tryz.prog.info? 34).map (·.size)=some cs1.length by rw [h2.len];exact ay)
 rw [bU hl] at ha
 have HA:=Hd ha
 clear hget h1 h2 hb ha
 have e15:=R0.out.get0 c15
 clear hx hh h hk h1'
 go_enter Tryz.func42,Tryz.ntmps42
 go_wp2_with (refine ax rfl 34 _ rfl b o rfl cs1 _ H1.out.range Tryz.underlying34 rfl hl1.out ?_)
 refine (qO x.args[0] _ B N cs1 hN (Nat.le_trans hB H0.out.size) HX.out).mono ?_
 rintro e w9 ⟨rfl,hb9⟩
 have H9:=Hd (ae H0.out hb9)
 have R9:=Hd (R0.out.then hb9 hs0)
 have hs9:w.heap.size<w9.heap.size:=Nat.lt_of_lt_of_le hs0 hb9.size
 rw [HA.out]
 clear hb9 e15 hs0 R0 H0
 go_wp2_with fail
 go_simp
 go_loopw [5] (fun i wr=>∃ (k:Nat),k≤1∧i=.int .i64 k∧Hid (bG g x=(x.args.drop k).all g)∧Hid (aj wr w.heap.size 0 cs)∧Hid (Below w.heap.size w wr)∧w.heap.size<wr.heap.size)
  (fun i _=>1-(intOf i).toNat)
 case atStart=>exact ⟨0,by omega,rfl,HG,R9,H9,hs9⟩
 case round =>
  clear HG R9 H9 hs9
  obtain ⟨w1,rfl⟩:∃ w1,w1=wr:=⟨wr,rfl⟩
  obtain ⟨k,hkl,rfl,HG,R0,H0,hs⟩:=hrel
  have e15:=R0.out.get0 c15
  by_cases hlt:k<1
  ·have hkx:k<x.args.length:=by have:=HN.out;omega
   obtain ⟨b',o',he,hb,hget⟩:=HAS.out.get (by intro h;have:=HN.out;simp [h] at this)
   simp only [Option.some.injEq,Addr.mk.injEq,and_true] at he
   obtain ⟨rfl,rfl⟩:=he
   obtain ⟨cs2,h1,h2⟩:=hget k hkx
   have HR:=Hd (h1.below (H0.out.mono hB) hb).range
   have HX2:=Hd (h2.below (H0.out.mono hB))
   have hl2:=Hd (show (Tryz.prog.info? 34).map (·.size)=some cs2.length by rw [h2.len];exact ay)
   have HST:=Hd (show (x.args.drop k).all g=(g x.args[k]&&(x.args.drop (k+1)).all g) by rw [List.drop_eq_getElem_cons hkx,List.all_cons])
   have HKX:=Hd hkx
   clear h1 h2 hget
   go_wp2_with (refine wpList_load_mid rfl 34 _ rfl b (o+k * 17) rfl cs2 _ HR.out Tryz.underlying34 rfl hl2.out ?_)
   refine (HK.out k HKX.out _ B N cs2 hN (Nat.le_trans hB H0.out.size) HX2.out).mono ?_
   rintro e w2 ⟨rfl,hb2⟩
   have H2:=Hd (ae H0.out hb2)
   have R2:=Hd (R0.out.then hb2 hs)
   have hs2:w.heap.size<w2.heap.size:=Nat.lt_of_lt_of_le hs hb2.size
   clear hb2
   obtain ⟨v,hv⟩:∃ v,g (x.args[k]'HKX.out)=v:=⟨_,rfl⟩
   have HV:=Hd hv
   rw [hv]
   clear hv
   cases v
   ·go_wp2_with fail
    go_ret
    exact ⟨by rw [HG.out,HST.out,HV.out];rfl,H2.out⟩
   ·go_wp2_with fail
    go_roundw
    case rel=>exact ⟨k+1,by omega,by go_num,Hd (by rw [HG.out,HST.out,HV.out];rfl),R2,H2,hs2⟩
    case measure=>simp [intOf];omega
  ·have hke:k=x.args.length:=by have:=HN.out;omega
   have HKE:=Hd (show bG g x=true by rw [HG.out,hke,List.drop_length];rfl)
   clear hke
   go_wp2_with fail
   go_ret
   exact ⟨by rw [HKE.out];rfl,H0.out⟩
set_option maxRecDepth 100000 in
set_option maxHeartbeats 6400000 in
theorem BI (D:Int) (hD0:1≤D) (hD:D≤48) (g:ag→Bool) (x:ag) (h:x.op=25) (hk:∀ k (h:k<x.args.length),gJ (D+1) g x.args[k]):gJ D (bG g) x:=by
 intro w B N cs hN hB hx
 obtain ⟨aa,fa,ac,fc,vs,hh⟩:=hx.has
 have c0:cs[0]?=some (.int .i64 25):=by rw [hh.op,h]
 have c15:=hh.args
 have hal:x.args.length≤N:=hh.own.2.2.1
 have HAS:=Hd hh.atArgs
 have HK:=Hd hk
 have H0:=Hd (af w (.cells cs.toArray 34))
 have R0:=Hd (aA w cs 34)
 have hs0:w.heap.size<(w.alloc (.cells cs.toArray 34)).heap.size:=by rw [World.size_alloc];omega
 have HG:=Hd (show bG g x=(x.args.drop 0).all g by rw [List.drop_zero];exact o9 h)
 have e15:=R0.out.get0 c15
 clear hx hh h hk
 go_enter Tryz.func42,Tryz.ntmps42
 go_wp2_with fail
 go_simp
 go_loopw [5] (fun i wr=>∃ (k:Nat),k≤x.args.length∧i=.int .i64 k∧Hid (bG g x=(x.args.drop k).all g)∧Hid (aj wr w.heap.size 0 cs)∧Hid (Below w.heap.size w wr)∧w.heap.size<wr.heap.size)
  (fun i _=>x.args.length-(intOf i).toNat)
 case atStart=>exact ⟨0,by omega,rfl,HG,R0,H0,hs0⟩
 case round =>
  clear HG R0 H0 hs0 e15
  obtain ⟨w1,rfl⟩:∃ w1,w1=wr:=⟨wr,rfl⟩
  obtain ⟨k,hkl,rfl,HG,R0,H0,hs⟩:=hrel
  have e15:=R0.out.get0 c15
  by_cases hlt:k<x.args.length
  ·have hkx:k<x.args.length:=by exact hlt
   obtain ⟨b,o,rfl,hb,hget⟩:=HAS.out.get (by intro h;simp [h] at hlt)
   obtain ⟨cs2,h1,h2⟩:=hget k hkx
   have HR:=Hd (h1.below (H0.out.mono hB) hb).range
   have HX2:=Hd (h2.below (H0.out.mono hB))
   have hl2:=Hd (show (Tryz.prog.info? 34).map (·.size)=some cs2.length by rw [h2.len];exact ay)
   have HST:=Hd (show (x.args.drop k).all g=(g x.args[k]&&(x.args.drop (k+1)).all g) by rw [List.drop_eq_getElem_cons hkx,List.all_cons])
   have HKX:=Hd hkx
   clear h1 h2 hget
   go_wp2_with (refine wpList_load_mid rfl 34 _ rfl b (o+k * 17) rfl cs2 _ HR.out Tryz.underlying34 rfl hl2.out ?_)
   refine (HK.out k HKX.out _ B N cs2 hN (Nat.le_trans hB H0.out.size) HX2.out).mono ?_
   rintro e w2 ⟨rfl,hb2⟩
   have H2:=Hd (ae H0.out hb2)
   have R2:=Hd (R0.out.then hb2 hs)
   have hs2:w.heap.size<w2.heap.size:=Nat.lt_of_lt_of_le hs hb2.size
   clear hb2
   obtain ⟨v,hv⟩:∃ v,g (x.args[k]'HKX.out)=v:=⟨_,rfl⟩
   have HV:=Hd hv
   rw [hv]
   clear hv
   cases v
   ·go_wp2_with fail
    go_ret
    exact ⟨by rw [HG.out,HST.out,HV.out];rfl,H2.out⟩
   ·go_wp2_with fail
    go_roundw
    case rel=>exact ⟨k+1,by omega,by go_num,Hd (by rw [HG.out,HST.out,HV.out];rfl),R2,H2,hs2⟩
    case measure=>simp [intOf];omega
  ·have hke:k=x.args.length:=by omega
   have HKE:=Hd (show bG g x=true by rw [HG.out,hke,List.drop_length];rfl)
   clear hke
   go_wp2_with fail
   go_ret
   exact ⟨by rw [HKE.out];rfl,H0.out⟩
theorem wQ (D:Int) (hD0:1≤D) (hD:D≤48) (g:ag→Bool) (x:ag) (hk:∀ k (h:k<x.args.length),gJ (D+1) g x.args[k]):gJ D (bG g) x:=by
 by_cases h3:x.op=3
 ·exact C8 D hD0 hD g x h3
 by_cases h11:x.op=11
 ·by_cases hl:x.args.length=1
  ·exact BK D hD0 hD g x h11 hl hk
  ·exact sS D hD0 hD g x (.inl h11) hl
 by_cases h24:x.op=24
 ·by_cases hl:x.args.length=1
  ·cases ha:dX (ej x 0)
   ·exact BJ D hD0 hD g x h24 hl ha hk
   ·exact zR D hD0 hD g x h24 hl ha
  ·exact sS D hD0 hD g x (.inr h24) hl
 by_cases h25:x.op=25
 ·exact BI D hD0 hD g x h25 hk
 ·exact BH D hD0 hD g x h3 h24 h11 h25
theorem zQ:∀ (m:Nat) (D:Int) (x:ag),1≤D→D+m=49→gJ D (eI m) x:=by
 intro m
 induction m with
 | zero=>intro D x _ hD;exact wT D (by omega) x
 | succ m ih =>
   intro D x hD0 hD
   have hs:∀ y,gJ D (bG (eI m)) y→gJ D (eI (m+1)) y:=fun y h=>h.of (yp m y).symm
   exact hs x (wQ D hD0 (by omega) _ x fun k hk=>ih (D+1) _ (by omega) (by omega))
end Go.Proofs.YtiefeajappjnbaaGreatDoor
